/- Side texts. -/
import Derived.Test.YtehbkmakbdlgnaaGreatADs7
import Derived.Test.YtehbkmakbdlgnaaGreatADs11
set_option linter.unusedVariables false
set_option linter.unusedSimpArgs false
namespace Go.Ep.M.R
open Go
def Yw(x:RN):Bool:=decide (1<=x.lo)&&(decide (x.lo<=x.hi)&&decide (x.hi<=281474976710655))
theorem zr{x:RN}:Yw x=true↔1<=x.lo/\x.lo<=x.hi/\x.hi<=281474976710655:=by simp[Yw]
def inR(n:Int)(x:RN):Bool:=Yw x&&(decide (x.lo<=n)&&decide (n<=x.hi))
theorem xI{n:Int}{x:RN}:inR n x=true↔(1<=x.lo/\x.lo<=x.hi/\x.hi<=281474976710655)/\x.lo<=n/\n<=x.hi:=by simp[inR,Yw]
def yi(l:List RN)(n:Int):Bool:=l.any (inR n)
theorem vH{l:List RN}{n:Int}:yi l n=true↔∃ x∈l,Yw x=true/\x.lo<=n/\n<=x.hi:=by
 unfold yi;rw[List.any_eq_true];simp[inR]
@[simp] theorem QZ(n:Int):yi [] n=false:=rfl
theorem wO(x:RN)(l:List RN)(n:Int):yi (x::l) n=(inR n x||yi l n):=rfl
theorem un(a b:List RN)(n:Int):yi (a++b) n=(yi a n||yi b n):=by simp[yi]
theorem vh(x:RN)(n:Int):yi [x] n=inR n x:=by simp[yi]
theorem v3a{a b:List RN}(h:a.Perm b)(n:Int):yi a n=yi b n:=by
 rw[Bool.eq_iff_iff,vH,vH];simp only[h.mem_iff]
theorem yxa(l:List RN)(n:Int):yi (l.filter Yw) n=yi l n:=by
 rw[Bool.eq_iff_iff,vH,vH];simp only[List.mem_filter];exact⟨fun⟨x,⟨h1,_⟩,h3⟩=>⟨x,h1,h3⟩,fun⟨x,h1,h2,h3⟩=>⟨x,⟨h1,h2⟩,h2,h3⟩⟩
theorem qL{l:List RN}{n:Int}(h:yi l n=true):1<=n/\n<=281474976710655:=by
 obtain⟨x,_,h2,h3,h4⟩:=vH.1 h;have:=zr.1 h2;omega
def Nf : List RN->Prop
 | []=>True
 | x::r=>Yw x=true/\(∀ y∈r,x.hi+1 < y.lo)/\Nf r
theorem Nf.may{l:List RN}(h:Nf l):∀ x∈l,Yw x=true:=by
 induction l with
 | nil=>simp
 | cons y r ih=>
  intro x hx;rcases List.mem_cons.1 hx with rfl | hx
  ·exact h.1
  ·exact ih h.2.2 x hx
theorem Ym{l:List RN}{z:RN}:Nf (l++[z])↔Nf l/\Yw z=true/\∀ p∈l,p.hi+1 < z.lo:=by
 induction l with
 | nil=>simp[Nf]
 | cons x r ih=>
  simp only[List.cons_append,Nf,ih,List.mem_append,List.mem_cons,List.not_mem_nil,or_false]
  constructor
  ·rintro⟨h1,h2,h3,h4,h5⟩;refine⟨⟨h1,fun y hy=>h2 y (.inl hy),h3⟩,h4,fun p hp=>?_⟩;rcases hp with rfl | hp
   ·exact h2 z (.inr rfl)
   ·exact h5 p hp
  ·rintro⟨⟨h1,h2,h3⟩,h4,h5⟩;refine⟨h1,fun y hy=>?_,h3,h4,fun p hp=>h5 p (.inr hp)⟩;rcases hy with hy | rfl
   ·exact h2 y hy
   ·exact h5 x (.inl rfl)
theorem JA{x:RN}{r:List RN}(h:Nf (x::r)){n:Int}(hn:yi r n=true):x.hi+1 < n:=by
 obtain⟨y,h1,_,h3,_⟩:=vH.1 hn;have:=h.2.1 y h1;omega
theorem Qa{x:RN}{r:List RN}(h:Nf (x::r)):yi (x::r) x.lo=true:=by
 rw[wO];have:=zr.1 h.1;rw[Bool.or_eq_true];exact .inl (xI.2 ⟨this,by omega,by omega⟩)
theorem Qb{x:RN}{r:List RN}(h:Nf (x::r)){n:Int}(hn:yi (x::r) n=true):x.lo<=n:=by
 rw[wO,Bool.or_eq_true] at hn;rcases hn with hn | hn
 ·exact(xI.1 hn).2.1
 ·have:=JA h hn;have:=zr.1 h.1;omega
theorem yya{x:RN}{r:List RN}(h:Nf (x::r)){n:Int}(h1:x.lo<=n):yi (x::r) n=true↔n<=x.hi\/yi r n=true:=by
 rw[wO,Bool.or_eq_true,xI];have:=zr.1 h.1
 constructor
 ·rintro(h2 | h2)
  ·exact .inl h2.2.2
  ·exact .inr h2
 ·rintro(h2 | h2)
  ·exact .inl ⟨this,h1,h2⟩
  ·exact .inr h2
theorem Vq : ∀ {a b:List RN},Nf a->Nf b->(∀ n,yi a n=yi b n)->a=b
 | [],[],_,_,_=>rfl
 | [],y::s,_,hb,h=>by have:=h y.lo;rw[Qa hb] at this;simp at this
 | x::r,[],ha,_,h=>by have:=h x.lo;rw[Qa ha] at this;simp at this
 | x::r,y::s,ha,hb,h=>by
  have h1:x.lo=y.lo:=by
   have h2:=Qb hb (by rw[<- h];exact Qa ha);have h3:=Qb ha (by rw[h];exact Qa hb);omega
  have hx:=zr.1 ha.1;have hy:=zr.1 hb.1;have hle:∀ {x y:RN} {r s:List RN},Nf (x::r)->Nf (y::s)->(∀ n,yi (x::r) n=yi (y::s) n)->x.lo=y.lo->y.hi<=x.hi:=by
   intro x y r s ha hb h h1;have hx:=zr.1 ha.1;refine Classical.byContradiction fun hc=>?_
   have h2:yi (y::s) (x.hi+1)=true:=(yya hb (by omega)).2 (.inl (by omega));rw[<- h,yya ha (by omega)] at h2;rcases h2 with h2 | h2
   ·omega
   ·have:=JA ha h2;omega
  have h2:x.hi=y.hi:=by
   have:=hle ha hb h h1;have:=hle hb ha (fun n=>(h n).symm) h1.symm;omega
  have he:x=y:=by cases x;cases y;simp_all
  subst he;rw[Vq ha.2.2 hb.2.2 fun n=>?_];rw[Bool.eq_iff_iff];have h3:=h n
  constructor
  ·intro hn;have:=JA ha hn;have h4:yi (x::r) n=true:=(yya ha (by omega)).2 (.inr hn);rw[h3,yya hb (by omega)] at h4;rcases h4 with h4 | h4
   ·omega
   ·exact h4
  ·intro hn;have:=JA hb hn;have h4:yi (x::s) n=true:=(yya hb (by omega)).2 (.inr hn);rw[<- h3,yya ha (by omega)] at h4;rcases h4 with h4 | h4
   ·omega
   ·exact h4
def putS(n:Int)(s:Bool×List Int)(x:Int):Bool×List Int:=
 let t:=if s.1=false/\n<=x then (true,s.2++[n]) else s
 if x=n then t else (t.1,t.2++[x])
def putP(l:List Int)(n:Int):List Int:=let t:=l.foldl (putS n) (false,[]);if t.1 then t.2 else t.2++[n]
abbrev Up(l:List Int):Prop:=l.Pairwise (· < ·)
theorem JB{l:List Int}{z:Int}:Up (l++[z])↔Up l/\∀ p∈l,p < z:=by
 unfold Up;rw[List.pairwise_append];simp
theorem Vr(n:Int):∀ (l:List Int) (s:Bool×List Int),Up l->Up s.2->(∀ p∈s.2,∀ x∈l,p < x\/(p=n/\s.1=true/\p<=x))->(s.1=true->n∈s.2)->(s.1=false->∀ p∈s.2,p < n) ->
  Up (l.foldl (putS n) s).2/\(∀ m,m∈(l.foldl (putS n) s).2↔m∈s.2\/(m∈l/\m≠n)\/(m=n/\(l.foldl (putS n) s).1=true))/\((l.foldl (putS n) s).1=false->∀ p∈(l.foldl (putS n) s).2,p < n)/\(l.foldl (putS n) s).2.length<=s.2.length+l.length+(if s.1 then 0 else 1)/\((l.foldl (putS n) s).1=false->(l.foldl (putS n) s).2.length<=s.2.length+l.length)
 | [],s,_,hs,_,h2,h3=>by
  refine⟨hs,fun m=>?_,h3,by simp,by simp⟩;simp only[List.foldl_nil,List.not_mem_nil,false_and,false_or];exact⟨fun h=>.inl h,fun h=>h.elim id fun⟨e,h⟩=>e▸h2 h⟩
 | x::r,(d,out),hl,hs,h1,h2,h3=>by
  rw[List.foldl_cons];have hl':=List.pairwise_cons.1 hl;simp only at hs h1 h2 h3
  by_cases hc:d=false/\n<=x
  ·obtain⟨rfl,hnx⟩:=hc
   by_cases hx:x=n
   ·have e:putS n (false,out) x=(true,out++[n]):=by simp[putS,hx]
    rw[e];obtain⟨i1,i2,i3,i4,i5⟩:=Vr n r (true,out++[n]) hl'.2 (JB.2 ⟨hs,h3 rfl⟩) (fun p hp y hy=>by
     have:=hl'.1 y hy;rcases List.mem_append.1 hp with hp | hp
     ·have:=h3 rfl p hp;left;omega
     ·simp at hp;left;omega) (fun _=>by simp) (fun h=>by cases h)
    refine⟨i1,fun m=>?_,i3,?_,?_⟩
    ·rw[i2];simp only[List.mem_append,List.mem_cons,List.not_mem_nil,or_false]
     constructor
     ·rintro((h | h) | h | h)
      ·exact .inl h
      ·refine .inr (.inr ⟨h,?_⟩)
       cases hb:(r.foldl (putS n) (true,out++[n])).1 with
       | true=>rfl
       | false=>have:=i3 hb n ((i2 n).2 (.inl (by simp)));omega
      ·exact .inr (.inl ⟨.inr h.1,h.2⟩)
      ·exact .inr (.inr h)
     ·rintro(h | ⟨h | h,h'⟩ | h)
      ·exact .inl (.inl h)
      ·exact absurd (h.trans hx) h'
      ·exact .inr (.inl ⟨h,h'⟩)
      ·exact .inr (.inr h)
    ·simp at i4 ⊢;omega
    ·intro hf;have:=i5 hf;simp at this ⊢;omega
   ·have e:putS n (false,out) x=(true,out++[n]++[x]):=by simp[putS,hx,hnx]
    rw[e];obtain⟨i1,i2,i3,i4,i5⟩:=Vr n r (true,out++[n]++[x]) hl'.2 (JB.2 ⟨JB.2 ⟨hs,h3 rfl⟩,fun p hp=>by
     rcases List.mem_append.1 hp with hp | hp
     ·have:=h3 rfl p hp;omega
     ·simp at hp;omega⟩) (fun p hp y hy=>by
     have:=hl'.1 y hy;simp only[List.mem_append,List.mem_singleton] at hp;rcases hp with(hp | hp) | hp
     ·have:=h3 rfl p hp;left;omega
     ·left;omega
     ·left;omega) (fun _=>by simp) (fun h=>by cases h)
    refine⟨i1,fun m=>?_,i3,?_,?_⟩
    ·rw[i2];simp only[List.mem_append,List.mem_cons,List.not_mem_nil,or_false]
     constructor
     ·rintro(((h | h) | h) | h | h)
      ·exact .inl h
      ·refine .inr (.inr ⟨h,?_⟩)
       cases hb:(r.foldl (putS n) (true,out++[n]++[x])).1 with
       | true=>rfl
       | false=>have:=i3 hb n ((i2 n).2 (.inl (by simp)));omega
      ·exact .inr (.inl ⟨.inl h,fun e=>hx (h.symm.trans e)⟩)
      ·exact .inr (.inl ⟨.inr h.1,h.2⟩)
      ·exact .inr (.inr h)
     ·rintro(h | ⟨h | h,h'⟩ | h)
      ·exact .inl (.inl (.inl h))
      ·exact .inl (.inr h)
      ·exact .inr (.inl ⟨h,h'⟩)
      ·exact .inr (.inr h)
    ·simp at i4 ⊢;omega
    ·intro hf;have:=i5 hf;simp at this ⊢;exfalso;have:=i3 hf n ((i2 n).2 (.inl (by simp)));omega
  ·by_cases hx:x=n
   ·have hd:d=true:=by cases d with | true=>rfl | false=>exact absurd ⟨rfl,by omega⟩ hc
    subst hd;have e:putS n (true,out) x=(true,out):=by simp[putS,hx]
    rw[e];obtain⟨i1,i2,i3,i4,i5⟩:=Vr n r (true,out) hl'.2 hs (fun p hp y hy=>h1 p hp y (List.mem_cons_of_mem _ hy)) h2 h3;refine⟨i1,fun m=>?_,i3,?_,?_⟩
    ·rw[i2];simp only[List.mem_cons]
     constructor
     ·rintro(h | h | h)
      ·exact .inl h
      ·exact .inr (.inl ⟨.inr h.1,h.2⟩)
      ·exact .inr (.inr h)
     ·rintro(h | ⟨h | h,h'⟩ | h)
      ·exact .inl h
      ·exact absurd (h.trans hx) h'
      ·exact .inr (.inl ⟨h,h'⟩)
      ·exact .inr (.inr h)
    ·simp at i4 ⊢;omega
    ·intro hf;have:=i5 hf;simp at this ⊢;omega
   ·have e:putS n (d,out) x=(d,out++[x]):=by
     unfold putS;simp only[hc,if_false,hx]
    rw[e];have hlt:d=false->x < n:=fun h=>by
     have:¬ n<=x:=fun h'=>hc ⟨h,h'⟩
     omega
    obtain⟨i1,i2,i3,i4,i5⟩:=Vr n r (d,out++[x]) hl'.2 (JB.2 ⟨hs,fun p hp=>by
     rcases h1 p hp x (by simp) with h | h
     ·exact h
     ·omega⟩) (fun p hp y hy=>by
     rcases List.mem_append.1 hp with hp | hp
     ·exact h1 p hp y (List.mem_cons_of_mem _ hy)
     ·simp at hp;have:=hl'.1 y hy;left;omega) (fun h=>List.mem_append_left _ (h2 h)) (fun h p hp=>by
     rcases List.mem_append.1 hp with hp | hp
     ·exact h3 h p hp
     ·simp at hp;rw[hp];exact hlt h)
    refine⟨i1,fun m=>?_,i3,?_,?_⟩
    ·rw[i2];simp only[List.mem_append,List.mem_cons,List.not_mem_nil,or_false]
     constructor
     ·rintro((h | h) | h | h)
      ·exact .inl h
      ·exact .inr (.inl ⟨.inl h,fun e=>hx (h.symm.trans e)⟩)
      ·exact .inr (.inl ⟨.inr h.1,h.2⟩)
      ·exact .inr (.inr h)
     ·rintro(h | ⟨h | h,h'⟩ | h)
      ·exact .inl (.inl h)
      ·exact .inl (.inr h)
      ·exact .inr (.inl ⟨h,h'⟩)
      ·exact .inr (.inr h)
    ·simp at i4 ⊢;omega
    ·intro hf;have:=i5 hf;simp at this ⊢;omega
theorem US{l:List Int}(h:Up l)(n:Int):Up (putP l n)/\(∀ m,m∈putP l n↔m∈l\/m=n)/\(putP l n).length<=l.length+1:=by
 obtain⟨i1,i2,i3,i4,i5⟩:=Vr n l (false,[]) h (by simp[Up]) (by simp) (by simp) (by simp);unfold putP;simp only
 cases hb:(l.foldl (putS n) (false,[])).1 with
 | true=>
  simp only[if_true];refine⟨i1,fun m=>?_,by simpa using i4⟩;rw[i2,hb];simp only[List.not_mem_nil,false_or,and_true]
  constructor
  ·rintro(h | h)
   ·exact .inl h.1
   ·exact .inr h
  ·rintro(h | h)
   ·by_cases e:m=n
    ·exact .inr e
    ·exact .inl ⟨h,e⟩
   ·exact .inr h
 | false=>
  have:=i5 hb;rw[if_neg (by simp)];refine⟨JB.2 ⟨i1,i3 hb⟩,fun m=>?_,by simp at this ⊢;omega⟩;simp only[List.mem_append,List.mem_singleton,i2,hb,List.not_mem_nil,false_or]
  constructor
  ·rintro((h | h) | h)
   ·exact .inl h.1
   ·cases h.2
   ·exact .inr h
  ·rintro(h | h)
   ·by_cases e:m=n
    ·exact .inr e
    ·exact .inl (.inl ⟨h,e⟩)
   ·exact .inr h
def ptS(out:List Int)(x:RN):List Int:=if Yw x then putP (putP out x.lo) (x.hi+1) else out
def Qc(l:List RN):List Int:=l.foldl ptS []
theorem Qd : ∀ (l:List RN) (out:List Int),Up out->Up (l.foldl ptS out)/\(∀ m,m∈l.foldl ptS out↔m∈out\/∃ x∈l,Yw x=true/\(m=x.lo\/m=x.hi+1))/\(l.foldl ptS out).length<=out.length+2*l.length
 | [],out,h=>⟨h,fun m=>by simp,by simp⟩
 | x::r,out,h=>by
  rw[List.foldl_cons];obtain⟨j1,j2,j3⟩:=US h x.lo;obtain⟨k1,k2,k3⟩:=US j1 (x.hi+1)
  by_cases hm:Yw x=true
  ·have e:ptS out x=putP (putP out x.lo) (x.hi+1):=by simp[ptS,hm]
   rw[e];obtain⟨i1,i2,i3⟩:=Qd r _ k1;refine⟨i1,fun m=>?_,by simp;omega⟩;rw[i2,k2,j2]
   constructor
   ·rintro(((h | h) | h) | ⟨y,h1,h2⟩)
    ·exact .inl h
    ·exact .inr ⟨x,by simp,hm,.inl h⟩
    ·exact .inr ⟨x,by simp,hm,.inr h⟩
    ·exact .inr ⟨y,by simp[h1],h2⟩
   ·rintro(h | ⟨y,h1,h2,h3⟩)
    ·exact .inl (.inl (.inl h))
    ·rcases List.mem_cons.1 h1 with rfl | h1
     ·rcases h3 with h3 | h3
      ·exact .inl (.inl (.inr h3))
      ·exact .inl (.inr h3)
     ·exact .inr ⟨y,h1,h2,h3⟩
  ·have e:ptS out x=out:=by simp[ptS,hm]
   rw[e];obtain⟨i1,i2,i3⟩:=Qd r _ h;refine⟨i1,fun m=>?_,by simp;omega⟩;rw[i2]
   constructor
   ·rintro(h | ⟨y,h1,h2⟩)
    ·exact .inl h
    ·exact .inr ⟨y,by simp[h1],h2⟩
   ·rintro(h | ⟨y,h1,h2,h3⟩)
    ·exact .inl h
    ·rcases List.mem_cons.1 h1 with rfl | h1
     ·exact absurd h2 hm
     ·exact .inr ⟨y,h1,h2,h3⟩
theorem qM(l:List RN):Up (Qc l)/\(∀ m,m∈Qc l↔∃ x∈l,Yw x=true/\(m=x.lo\/m=x.hi+1))/\(Qc l).length<=2*l.length:=by
 obtain⟨h1,h2,h3⟩:=Qd l [] (by simp[Up]);exact⟨h1,fun m=>by rw[Qc,h2];simp,by simpa[Qc] using h3⟩
def xma(out:List RN)(p:Int)(z:RN->RN)(x:RN):List RN:=match out.getLast? with
 | some y=>if y.hi+1=p then out.dropLast++[z y] else out++[x]
 | none=>out++[x]
def xna(op:Bool->Bool->Bool)(a b:List RN)(out:List RN)(pq:Int×Int):List RN:=
 if op (yi a pq.1) (yi b pq.1) then xma out pq.1 (fun y=>⟨y.lo,pq.2 - 1⟩) ⟨pq.1,pq.2 - 1⟩ else out
def wn(l:List Int):List (Int×Int):=l.zip l.tail
def Zl(op:Bool->Bool->Bool)(a b:List RN):List RN:=(wn (Qc (a++b))).foldl (xna op a b) []
theorem wea(p:Int)(z:RN->RN)(x:RN):xma [] p z x=[x]:=rfl
theorem JC(l:List RN)(y:RN)(p:Int)(z:RN->RN)(x:RN):xma (l++[y]) p z x=if y.hi+1=p then l++[z y] else l++[y]++[x]:=by simp[xma]
theorem vS{α:Type}(l:List α):l=[]\/∃ r y,l=r++[y]:=by
 rcases List.eq_nil_or_concat l with h | ⟨r,y,h⟩
 ·exact .inl h
 ·exact .inr ⟨r,y,by simpa using h⟩
theorem Qe(op:Bool->Bool->Bool)(a b:List RN):∀ (P:List Int) (p:Int) (out:List RN),Up (p::P)->(∀ q∈p::P,1<=q/\q<=281474976710656)->Nf out->(∀ y∈out,y.hi < p) ->
  Nf ((wn (p::P)).foldl (xna op a b) out)/\(∀ n,yi ((wn (p::P)).foldl (xna op a b) out) n=true↔yi out n=true\/∃ pq∈wn (p::P),pq.1<=n/\n < pq.2/\op (yi a pq.1) (yi b pq.1)=true)/\((wn (p::P)).foldl (xna op a b) out).length<=out.length+P.length
 | [],p,out,_,_,h,_=>by simp[wn,h]
 | q::P,p,out,hu,hr,h,hy=>by
  have e:wn (p::q::P)=(p,q)::wn (q::P):=rfl;rw[e,List.foldl_cons];have hu':=List.pairwise_cons.1 hu;have hpq:p < q:=hu'.1 q (by simp);have hp:=hr p (by simp);have hq:=hr q (by simp);have step:Nf (xna op a b out (p,q))/\(∀ n,yi (xna op a b out (p,q)) n=true↔yi out n=true\/(p<=n/\n < q/\op (yi a p) (yi b p)=true))/\(∀ y∈xna op a b out (p,q),y.hi < q)/\(xna op a b out (p,q)).length<=out.length+1:=by
   unfold xna;simp only
   by_cases hop:op (yi a p) (yi b p)=true
   ·rw[if_pos hop];rcases vS out with rfl | ⟨l,y,rfl⟩
    ·rw[wea];have hm:Yw (⟨p,q - 1⟩:RN)=true:=zr.2 ⟨hp.1,by simp only;omega,by simp only;omega⟩;refine⟨⟨hm,by simp,trivial⟩,fun n=>?_,fun y hy=>?_,by simp⟩
     ·rw[vh,xI];have:=zr.1 hm;simp only at this ⊢;simp only[QZ,Bool.false_eq_true,false_or,hop,and_true];omega
     ·simp at hy;subst hy;simp only;omega
    ·rw[JC];obtain⟨n1,n2,n3⟩:=Ym.1 h;have hym:=zr.1 n2;have hyp:=hy y (by simp)
     by_cases hadj:y.hi+1=p
     ·rw[if_pos hadj];have hm:Yw (⟨y.lo,q - 1⟩:RN)=true:=zr.2 ⟨hym.1,by simp only;omega,by simp only;omega⟩;refine⟨Ym.2 ⟨n1,hm,n3⟩,fun n=>?_,fun z hz=>?_,by simp⟩
      ·rw[un,un,vh,vh,Bool.or_eq_true,Bool.or_eq_true,xI,xI];have:=zr.1 hm;simp only at this ⊢;simp only[hop,and_true]
       constructor
       ·rintro(h | h)
        ·exact .inl (.inl h)
        ·by_cases hc:n<=y.hi
         ·exact .inl (.inr ⟨hym,h.2.1,hc⟩)
         ·right;omega
       ·rintro((h | h) | h)
        ·exact .inl h
        ·right;omega
        ·right;omega
      ·rcases List.mem_append.1 hz with hz | hz
       ·have:=hy z (by simp[hz]);omega
       ·simp at hz;subst hz;simp only;omega
     ·rw[if_neg hadj];have hm:Yw (⟨p,q - 1⟩:RN)=true:=zr.2 ⟨hp.1,by simp only;omega,by simp only;omega⟩;refine⟨Ym.2 ⟨h,hm,fun z hz=>?_⟩,fun n=>?_,fun z hz=>?_,by simp⟩
      ·simp only;rcases List.mem_append.1 hz with hz | hz
       ·have:=n3 z hz;omega
       ·simp at hz;subst hz;omega
      ·rw[un (l++[y]),vh,Bool.or_eq_true,xI];have:=zr.1 hm;simp only at this ⊢;simp only[hop,and_true]
       constructor
       ·rintro(h | h)
        ·exact .inl h
        ·right;omega
       ·rintro(h | h)
        ·exact .inl h
        ·right;omega
      ·rcases List.mem_append.1 hz with hz | hz
       ·have:=hy z hz;omega
       ·simp at hz;subst hz;simp only;omega
   ·rw[if_neg hop];refine⟨h,fun n=>?_,fun y hy'=>by have:=hy y hy';omega,by omega⟩;exact⟨fun h=>.inl h,fun h=>h.elim id fun h=>absurd h.2.2 hop⟩
  obtain⟨s1,s2,s3,s4⟩:=step;obtain⟨i1,i2,i3⟩:=Qe op a b P q _ hu'.2 (fun z hz=>hr z (List.mem_cons_of_mem _ hz)) s1 s3;refine⟨i1,fun n=>?_,by simp;omega⟩;rw[i2,s2];simp only[List.mem_cons,exists_eq_or_imp]
  constructor
  ·rintro((h | h) | h)
   ·exact .inl h
   ·exact .inr (.inl h)
   ·exact .inr (.inr h)
  ·rintro(h | h | h)
   ·exact .inl (.inl h)
   ·exact .inl (.inr h)
   ·exact .inr h
theorem UT : ∀ {P:List Int},Up P->∀ pq∈wn P,pq.1∈P/\pq.2∈P/\pq.1 < pq.2/\∀ m∈P,m<=pq.1\/pq.2<=m
 | [],_,pq,h=>by simp[wn] at h
 | [p],_,pq,h=>by simp[wn] at h
 | p::q::P,hu,pq,h=>by
  have e:wn (p::q::P)=(p,q)::wn (q::P):=rfl;rw[e] at h;have hu':=List.pairwise_cons.1 hu;rcases List.mem_cons.1 h with rfl | h
  ·refine⟨by simp,by simp,hu'.1 q (by simp),fun m hm=>?_⟩;rcases List.mem_cons.1 hm with rfl | hm
   ·simp
   ·right
    rcases List.mem_cons.1 hm with rfl | hm
    ·simp
    ·have:=(List.pairwise_cons.1 hu'.2).1 m hm;simp only;omega
  ·obtain⟨h1,h2,h3,h4⟩:=UT hu'.2 pq h;refine⟨List.mem_cons_of_mem _ h1,List.mem_cons_of_mem _ h2,h3,fun m hm=>?_⟩;rcases List.mem_cons.1 hm with rfl | hm
   ·left;have:=hu'.1 _ h1;omega
   ·exact h4 m hm
theorem qO : ∀ {P:List Int},Up P->∀ {u v n:Int},u∈P->v∈P->u<=n->n < v->∃ pq∈wn P,pq.1<=n/\n < pq.2
 | [],_,_,_,_,h,_,_,_=>by simp at h
 | [p],_,u,v,n,h1,h2,h3,h4=>by simp at h1 h2;omega
 | p::q::P,hu,u,v,n,h1,h2,h3,h4=>by
  have e:wn (p::q::P)=(p,q)::wn (q::P):=rfl;have hu':=List.pairwise_cons.1 hu
  by_cases hc:n < q
  ·refine⟨(p,q),by rw[e];simp,?_,hc⟩;rcases List.mem_cons.1 h1 with rfl | h1
   ·exact h3
   ·have:q<=u:=by
     rcases List.mem_cons.1 h1 with rfl | h1
     ·omega
     ·have:=(List.pairwise_cons.1 hu'.2).1 u h1;omega
    simp only;omega
  ·have hv:v∈q::P:=by
    rcases List.mem_cons.1 h2 with rfl | h2
    ·have:=hu'.1 q (by simp);omega
    ·exact h2
   obtain⟨pq,h5,h6⟩:=qO hu'.2 (u:=q) (by simp) hv (by omega) h4;exact⟨pq,by rw[e];exact List.mem_cons_of_mem _ h5,h6⟩
theorem v4a(P:List Int):(wn P).length=P.length - 1:=by simp[wn]
theorem Yn{l:List RN}{P:List Int}(hP:∀ x∈l,Yw x=true->x.lo∈P/\x.hi+1∈P){p q n:Int}(h1:∀ m∈P,m<=p\/q<=m)(h2:p<=n)(h3:n < q):yi l n=yi l p:=by
 rw[Bool.eq_iff_iff,vH,vH]
 constructor
 ·rintro⟨x,hx,hm,h4,h5⟩;obtain⟨h6,h7⟩:=hP x hx hm;have:=h1 _ h6;have:=h1 _ h7;exact⟨x,hx,hm,by omega,by omega⟩
 ·rintro⟨x,hx,hm,h4,h5⟩;obtain⟨h6,h7⟩:=hP x hx hm;have:=h1 _ h6;have:=h1 _ h7;exact⟨x,hx,hm,by omega,by omega⟩
theorem yE(op:Bool->Bool->Bool)(h0:op false false=false)(a b:List RN):Nf (Zl op a b)/\(∀ n,yi (Zl op a b) n=op (yi a n) (yi b n))/\(Zl op a b).length<=2*(a.length+b.length):=by
 obtain⟨p1,p2,p3⟩:=qM (a++b);have hrange:∀ q∈Qc (a++b),1<=q/\q<=281474976710656:=fun q hq=>by
  obtain⟨x,_,h2,h3⟩:=(p2 q).1 hq;have:=zr.1 h2;omega
 have main:Nf (Zl op a b)/\(∀ n,yi (Zl op a b) n=true↔∃ pq∈wn (Qc (a++b)),pq.1<=n/\n < pq.2/\op (yi a pq.1) (yi b pq.1)=true)/\(Zl op a b).length<=(Qc (a++b)).length:=by
  unfold Zl
  generalize hP:Qc (a++b)=P at p1 hrange
  cases P with
  | nil=>simp[wn,Nf]
  | cons p P=>
   obtain⟨i1,i2,i3⟩:=Qe op a b P p [] p1 hrange trivial (by simp);exact⟨i1,fun n=>by rw[i2];simp,by simp at i3 ⊢;omega⟩
 obtain⟨m1,m2,m3⟩:=main;refine⟨m1,fun n=>?_,by simp at p3;omega⟩;have hPa:∀ x∈a,Yw x=true->x.lo∈Qc (a++b)/\x.hi+1∈Qc (a++b):=fun x hx hm=>⟨(p2 _).2 ⟨x,by simp[hx],hm,.inl rfl⟩,(p2 _).2 ⟨x,by simp[hx],hm,.inr rfl⟩⟩
 have hPb:∀ x∈b,Yw x=true->x.lo∈Qc (a++b)/\x.hi+1∈Qc (a++b):=fun x hx hm=>⟨(p2 _).2 ⟨x,by simp[hx],hm,.inl rfl⟩,(p2 _).2 ⟨x,by simp[hx],hm,.inr rfl⟩⟩
 rw[Bool.eq_iff_iff,m2]
 constructor
 ·rintro⟨pq,h1,h2,h3,h4⟩;obtain⟨_,_,_,h5⟩:=UT p1 pq h1
  rwa [Yn hPa h5 h2 h3,Yn hPb h5 h2 h3]
 ·intro h;have hex:∃ u∈Qc (a++b),∃ v∈Qc (a++b),u<=n/\n < v:=by
   cases ha:yi a n with
   | true=>
    obtain⟨x,h1,h2,h3,h4⟩:=vH.1 ha;exact⟨_,(hPa x h1 h2).1,_,(hPa x h1 h2).2,h3,by omega⟩
   | false=>
    cases hb:yi b n with
    | true=>
     obtain⟨x,h1,h2,h3,h4⟩:=vH.1 hb;exact⟨_,(hPb x h1 h2).1,_,(hPb x h1 h2).2,h3,by omega⟩
    | false=>rw[ha,hb,h0] at h;cases h
  obtain⟨u,hu,v,hv,h1,h2⟩:=hex;obtain⟨pq,h3,h4,h5⟩:=qO p1 hu hv h1 h2;obtain⟨_,_,_,h6⟩:=UT p1 pq h3;exact⟨pq,h3,h4,h5,by rwa [<- Yn hPa h6 h4 h5,<- Yn hPb h6 h4 h5]⟩
def nrm(l:List RN):List RN:=Zl (·||·) l []
theorem Yx(l:List RN):Nf (nrm l):=(yE _ rfl l []).1
theorem vi(l:List RN)(n:Int):yi (nrm l) n=yi l n:=by rw[nrm,(yE _ rfl l []).2.1];simp
theorem ZS(l:List RN):(nrm l).length<=2*l.length:=by
 have:=(yE (·||·) rfl l []).2.2;rw[List.length_nil,Nat.add_zero] at this;exact this
theorem nrm_of{l r:List RN}(h:Nf r)(h2:∀ n,yi r n=yi l n):r=nrm l:=Vq h (Yx l) fun n=>by rw[h2,vi]
theorem Qf{l:List RN}(h:Nf l):nrm l=l:=(nrm_of h fun _=>rfl).symm
theorem v5a(x y:RN):(decide (x.lo=y.lo)&&decide (x.hi=y.hi))=decide (x=y):=by
 rw[Bool.eq_iff_iff]
 cases x;cases y
 simp
theorem eqLoop{body:Int->M (Step Int (Ex Unit Bool))}(a b:List RN)(hl:a.length=b.length)(hn:a.length<=1000000000000)
  (hb:∀ i:Int,body i=cond (decide (i < (a.length:Int))) (M.bind (M.idx a i) fun x=>M.bind (M.idx b i) fun y=>cond (!(decide (x.lo=y.lo)&&decide (x.hi=y.hi))) (M.pure (.done (.ret false))) (M.pure (.next (IntKind.i64.wrap (i+1))))) (M.pure (.done (.brk ())))) :
  M.bind (M.loop body 0) (M.exk fun _=>M.pure true)=pure (decide (a=b)):=by
 have:=wH (body:=body) a (fun i=>(i:Int)) (fun i x=>decide (b[i]?=some x)) (.brk ()) (.ret false) (fun i x hx hi=>by
  have hb':i < b.length:=by omega
  rw[hb,zN hx,zN (List.getElem?_eq_getElem hb'),yS (by omega)];simp only[zA,List.getElem?_eq_getElem hb',Option.some.injEq,v5a];have:decide ((i:Int) < (a.length:Int))=true:=by simpa using hi
  rw[this,cond_true]
  by_cases he:b[i]=x
  ·subst he;simp
  ·rw[if_neg (by simpa using he)];have:decide (x=b[i])=false:=by simpa using fun h=>he h.symm
   rw[this];rfl) (by rw[hb];simp)
 rw[show(0:Int)=((0:Nat):Int) from rfl,this]
 by_cases he:a=b
 ·subst he;rw[if_pos]
  ·simp[zA,YT]
  ·rw[List.all_eq_true];intro ⟨x,i⟩ hx;rw[List.mk_mem_zipIdx_iff_getElem?] at hx;simpa using hx
 ·rw[if_neg]
  ·simp[he,zA,jS]
  ·intro hall;rw[List.all_eq_true] at hall;apply he;apply List.ext_getElem (by omega);intro i h1 h2;have:=hall (a[i],i) (by rw[List.mk_mem_zipIdx_iff_getElem?];exact List.getElem?_eq_getElem h1);simp[h2] at this;exact this.symm
theorem req_eq(a b:List RN)(h:a.length<=1000000000000):xba a b=pure (decide (a=b)):=by
 unfold xba
 by_cases hl:(a.length:Int)=b.length
 ·simp only[hl,decide_true,Bool.not_true,cond_false];exact eqLoop a b (by omega) h fun i=>rfl
 ·have hne:a≠b:=fun e=>hl (by rw[e])
  simp[hl,hne]
theorem seq_eq(a b:List RN)(h:a.length<=1000000000000):yv a b=pure (decide (a=b)):=by
 unfold yv
 by_cases hl:(a.length:Int)=b.length
 ·simp only[hl,decide_true,Bool.not_true,cond_false];exact eqLoop a b (by omega) h fun i=>rfl
 ·have hne:a≠b:=fun e=>hl (by rw[e])
  simp[hl,hne]
theorem v6a(x:RN):jg x=pure (Yw x):=by
 unfold jg;rw[zn,zn,zA]
 rfl
theorem yza(l:List RN)(n:Int)(h:l.length<=1000000000000):UI l n=pure (yi l n):=by
 unfold UI;have:=wH (body:=Xq l n) l (fun i=>(i:Int)) (fun _ x=>!inR n x) (.brk ()) (.ret true) (fun i x hx hi=>by
  unfold Xq;have h1:decide ((i:Int) < (l.length:Int))=true:=by simpa using hi
  simp only[h1,cond_true,zN hx,zA,v6a,zB,yS (show i < 9223372036854775807 by omega),zn];unfold inR
  cases Yw x <;> cases decide (x.lo<=n) <;> cases decide (n<=x.hi) <;> rfl) (by unfold Xq;simp)
 rw[show(0:Int)=((0:Nat):Int) from rfl,this,zA];have e:l.zipIdx.all (fun y=>!inR n y.1)=!yi l n:=by
  unfold yi;rw[Bool.eq_iff_iff];simp only[List.all_eq_true,Bool.not_eq_true',List.any_eq_false]
  constructor
  ·intro h x hx;obtain⟨i,hi,he⟩:=List.getElem_of_mem hx;have:=h (x,i) (by rw[List.mk_mem_zipIdx_iff_getElem?];rw[List.getElem?_eq_getElem hi,he]);simpa using this
  ·intro h y hy;have:=List.fst_mem_of_mem_zipIdx hy;have:=h _ this;simpa using this
 simp only[e]
 cases yi l n <;> rfl
theorem v7a(l:List Int)(n:Int)(h:l.length<=100000000000):jh l n=pure (putP l n):=by
 unfold jh;have:=Yj (body:=Xr l n) l (fun i (t:Bool×List Int)=>(t.1,(i:Int),t.2)) (putS n) (fun t=>pure t) (fun i t=>t.2.length<=2*i) (fun i x t hx hi hI=>by
  obtain⟨d,out⟩:=t;simp only at hI;have h1:decide ((i:Int) < (l.length:Int))=true:=by simpa using hi
  refine⟨?_,?_⟩
  ·unfold Xr putS;simp only[h1,cond_true,zN hx,zA,yS (show i < 9223372036854775807 by omega)]
   cases d with
   | true=>
    by_cases hc:x=n
    ·simp[hc,zA]
    ·simp only[Bool.not_true,cond_false,zA,hc,decide_false,Bool.not_false,cond_true,if_false];rw[zI (by simp;omega)];simp[zA]
   | false=>
    by_cases hc1:n<=x
    ·simp only[Bool.not_false,cond_true,zA,hc1,decide_true];rw[zI (by simp;omega),zA]
     by_cases hc:x=n
     ·simp[hc,zA]
     ·simp only[hc,decide_false,Bool.not_false,cond_true];rw[zI (by simp;omega)];simp[zA]
    ·simp only[Bool.not_false,cond_true,zA,hc1,decide_false,cond_false];have hc:x≠n:=by omega
     simp only[hc,decide_false,Bool.not_false,cond_true];rw[zI (by simp;omega)];simp[zA]
  ·unfold putS;simp only
   split <;> split <;> simp <;> omega) (fun t _=>by unfold Xr;simp[zA]) (false,[]) (by simp)
 rw[show((false,(0:Int),([]:List Int)):Bool×Int×List Int)=(false,((0:Nat):Int),[]) from rfl,this,zA];unfold putP;have hlen:(l.foldl (putS n) (false,[])).2.length<=2*l.length:=by
  have:∀ (l:List Int) (s:Bool×List Int),(l.foldl (putS n) s).2.length<=s.2.length+2*l.length:=by
   intro l
   induction l with
   | nil=>intro s;simp
   | cons x r ih=>
    intro s;rw[List.foldl_cons];have:=ih (putS n s x);have h2:(putS n s x).2.length<=s.2.length+2:=by
     unfold putS;simp only
     split <;> split <;> simp
    simp;omega
  simpa using this l (false,[])
 generalize l.foldl (putS n) (false,[])=t at hlen
 obtain⟨d,out⟩:=t
 cases d with
 | true=>rfl
 | false=>
  simp only[Bool.not_false,cond_true];rw[zI (by simp at hlen ⊢;omega)]
  rfl
theorem rpts_eq(a b:List RN)(h:a.length+b.length<=10000000000):Xs a b=pure (Qc (a++b)):=by
 unfold Xs;rw[zI (by simp;omega),zI (by simp;omega)];have hup:∀ i,Up (((a++b).take i).foldl ptS [])/\(((a++b).take i).foldl ptS []).length<=2*(a++b).length:=fun i=>by
  obtain⟨h1,_,h3⟩:=Qd ((a++b).take i) [] (by simp[Up]);refine⟨h1,?_⟩;have:((a++b).take i).length<=(a++b).length:=by simp;omega
  simp only[List.length_nil,Nat.zero_add] at h3;omega
 have:=Yj (body:=uh a b) (a++b) (fun i (t:List Int)=>(t,(i:Int))) ptS (fun t=>pure t) (fun i t=>t=((a++b).take i).foldl ptS []) (fun i x t hx hi hI=>by
  have h1:decide ((i:Int) < ((a++b).length:Int))=true:=decide_eq_true (by omega);have hlen:(a++b).length<=10000000000:=by simp;omega
  obtain⟨u1,u2⟩:=hup i;rw[<- hI] at u1 u2;refine⟨?_,?_⟩
  ·unfold uh ptS;simp only[List.nil_append,h1,cond_true,zN hx,zA,yS (show i < 9223372036854775807 by omega),v6a,zB]
   cases hm:Yw x with
   | false=>simp[zA]
   | true=>
    have hm':=zr.1 hm;have hp:=US u1 x.lo;rw[cond_true,v7a _ _ (by omega),zB,zA,wU64 (by omega) (by omega),v7a _ _ (by omega),zB];simp[zA]
  ·rw[List.take_add_one,hx];simp[hI]) (fun t _=>by unfold uh;simp[zA]) [] (by simp)
 rw[show(([]:List Int),(0:Int))=([],((0:Nat):Int)) from rfl,this];simp only[zA]
 rfl
theorem zxa{P:List Int}{i:Nat}{pq:Int×Int}(h:(wn P)[i]?=some pq):P[i]?=some pq.1/\P[i+1]?=some pq.2:=by
 unfold wn at h;rw[List.getElem?_zip_eq_some] at h;obtain⟨h1,h2⟩:=h;rw[List.getElem?_tail] at h2;exact⟨h1,h2⟩
theorem Wr(op:Bool->Bool->Bool)(how:Int)(hop:∀ x y,op x y=if how=2 then (x&&!y) else if how=1 then (x&&y) else (x||y))(_h0:op false false=false)(a b:List RN)(h:a.length+b.length<=10000000000):UJ a b how=pure (Zl op a b):=by
 unfold UJ;rw[rpts_eq a b h,zB,zA];obtain⟨p1,p2,p3⟩:=qM (a++b);have hrange:∀ q∈Qc (a++b),1<=q/\q<=281474976710656:=fun q hq=>by
  obtain⟨x,_,h2,h3⟩:=(p2 q).1 hq;have:=zr.1 h2;omega
 unfold Zl
 generalize Qc (a++b)=P at p1 hrange p3
 simp only[List.length_append] at p3;have hinv:∀ i,i<=(wn P).length->Nf (((wn P).take i).foldl (xna op a b) [])/\(((wn P).take i).foldl (xna op a b) []).length<=P.length:=fun i hi=>by
  cases P with
  | nil=>simp[wn,Nf]
  | cons p P=>
   have key:(wn (p::P)).take i=wn (p::P.take i):=by
    unfold wn;simp only[List.tail_cons];clear hi p1 hrange p3
    induction i generalizing p P with
    | zero=>simp
    | succ i ih=>
     cases P with
     | nil=>simp
     | cons q P=>
      simp only[List.zip_cons_cons,List.take_succ_cons];rw[ih q P]
   rw[key];have hsub:(p::P.take i).Sublist (p::P):=List.Sublist.cons_cons _ (List.take_sublist _ _);obtain⟨i1,_,i3⟩:=Qe op a b (P.take i) p [] (List.Pairwise.sublist hsub p1) (fun q hq=>hrange q (hsub.subset hq)) trivial (by simp);refine⟨i1,?_⟩;simp at i3 ⊢;omega
 have:=Yj (body:=Xt P a b how) (wn P) (fun i (t:List RN)=>((i:Int),t)) (xna op a b) (fun t=>pure t) (fun i t=>i<=(wn P).length/\t=((wn P).take i).foldl (xna op a b) []) (fun i pq t hx hi hI=>by
  obtain⟨hI1,hI⟩:=hI;obtain⟨g1,g2⟩:=zxa hx;have hlt:i+1 < P.length:=(List.getElem?_eq_some_iff.1 g2).1;have hPl:P.length<=20000000000:=by omega
  have h1:decide (((i+1:Nat):Int) < (P.length:Int))=true:=by rw[decide_eq_true_eq];omega
  obtain⟨v1,v2⟩:=hinv i hI1;rw[<- hI] at v1 v2;refine⟨?_,by omega,by rw[List.take_add_one,hx];simp[hI]⟩;unfold Xt xna;have e2:idx P ((i+1:Nat):Int)=pure pq.2:=zN g2;have hq:=hrange pq.2 (List.mem_of_getElem? g2);simp only[yS (show i < 9223372036854775807 by omega),h1,cond_true,zN g1,e2,zA,yza a pq.1 (by omega),yza b pq.1 (by omega),zB];rw[hop];have hin:∀ (x y:Bool),(M.bind (cond x (M.pure true) (M.pure y)) fun in97=>M.bind (cond (decide (how=1)) (M.bind (cond x (M.pure y) (M.pure false)) fun in101=>M.pure in101) (M.pure in97)) fun in99=>cond (decide (how=2)) (M.bind (cond x (M.pure (!y)) (M.pure false)) fun in105=>M.pure in105) (M.pure in99))=pure (if how=2 then (x&&!y) else if how=1 then (x&&y) else (x||y)):=by
   intro x y
   by_cases c2:how=2
   ·subst c2;cases x <;> cases y <;> rfl
   ·by_cases c1:how=1
    ·subst c1;cases x <;> cases y <;> rfl
    ·simp only[c1,c2,decide_false,cond_false,if_false]
     cases x <;> cases y <;> rfl
  have hin':=hin (yi a pq.1) (yi b pq.1)
  generalize (if how=2 then (yi a pq.1&&!yi b pq.1) else if how=1 then (yi a pq.1&&yi b pq.1) else (yi a pq.1||yi b pq.1))=inn at hin'
  -- the three steps are one
  have assoc:∀ (K:Bool->M (List RN)),(M.bind (cond (yi a pq.1) (M.pure true) (M.pure (yi b pq.1))) fun in97=>M.bind (cond (decide (how=1)) (M.bind (cond (yi a pq.1) (M.pure (yi b pq.1)) (M.pure false)) fun in101=>M.pure in101) (M.pure in97)) fun in99=>M.bind (cond (decide (how=2)) (M.bind (cond (yi a pq.1) (M.pure (!yi b pq.1)) (M.pure false)) fun in105=>M.pure in105) (M.pure in99)) K)=K inn:=by
   intro K;have:=congrArg (fun m=>M.bind m K) hin';exact this
  rw[assoc]
  cases inn with
  | false=>rfl
  | true=>
   simp only[cond_true,if_true];rcases vS t with rfl | ⟨l,y,rfl⟩
   ·have e:decide ((0:Int)<=IntKind.i64.wrap (((([]:List RN).length:Nat):Int) - 1))=false:=by
     rw[jx (by simp) (by simp)];simp
    rw[e];simp only[cond_false,zA];rw[zI (by simp),wU64 (by omega) (by omega)]
    rfl
   ·have hy:=(Ym.1 v1).2.1;have hym:=zr.1 hy;have e0:IntKind.i64.wrap ((((l++[y]).length:Nat):Int) - 1)=(l.length:Int):=by
     simp only[List.length_append,List.length_singleton] at v2 ⊢;rw[jx (by omega) (by omega)];omega
    have e1:idx (l++[y]) (l.length:Int)=pure y:=zN (by simp);have e3:decide ((0:Int)<=(l.length:Int))=true:=by simp
    rw[e0,e3];simp only[cond_true,e1,zA,wU64 (show 0<=y.hi+1 by omega) (by omega),wU64 (show 0<=pq.2 - 1 by omega) (by omega)];rw[JC]
    by_cases hc:y.hi+1=pq.1
    ·simp only[hc,decide_true,cond_true,if_true,Int.toNat_natCast];have:(l++[y]).set l.length (⟨y.lo,pq.2 - 1⟩:RN)=l++[⟨y.lo,pq.2 - 1⟩]:=by simp
     rw[this]
     rfl
    ·simp only[hc,decide_false,cond_false,if_false];rw[zI (by simp only[List.length_append,List.length_singleton] at v2 ⊢;omega)]
     rfl) (fun t _=>by
  unfold Xt;have e:decide (IntKind.i64.wrap (((wn P).length:Int)+1) < (P.length:Int))=false:=by
   rw[v4a,jx (by omega) (by omega)];simp;omega
  simp only[e,cond_false,zA]) [] ⟨Nat.zero_le _,by simp⟩
 rw[show((0:Int),([]:List RN))=(((0:Nat):Int),[]) from rfl,this];simp only[zA]
theorem xoa(a b:List RN)(h:a.length+b.length<=10000000000):VV a b=pure (Zl (·||·) a b):=by
 unfold VV;rw[Wr (·||·) 0 (fun x y=>by simp) rfl a b h,zB,zA]
theorem rmeet_eq(a b:List RN)(h:a.length+b.length<=10000000000):Uu a b=pure (Zl (·&&·) a b):=by
 unfold Uu;rw[Wr (·&&·) 1 (fun x y=>by simp) rfl a b h,zB,zA]
theorem v8a(a b:List RN)(h:a.length+b.length<=10000000000):VY a b=pure (Zl (fun x y=>x&&!y) a b):=by
 unfold VY;rw[Wr (fun x y=>x&&!y) 2 (fun x y=>by simp) rfl a b h,zB,zA]
def zya(out:List RN)(x:RN):List RN:=match out.getLast? with
 | some y=>if x.lo<=y.hi+1 then out.dropLast++[⟨y.lo,max y.hi x.hi⟩] else out++[x]
 | none=>out++[x]
theorem Qg(x:RN):zya [] x=[x]:=rfl
theorem JD(l:List RN)(y x:RN):zya (l++[y]) x=if x.lo<=y.hi+1 then l++[⟨y.lo,max y.hi x.hi⟩] else l++[y]++[x]:=by simp[zya]
theorem wfa{out:List RN}{x:RN}(h:Nf out)(hx:Yw x=true)(hlo:∀ y∈out,y.lo<=x.lo):Nf (zya out x)/\(∀ n,yi (zya out x) n=(yi out n||inR n x))/\(∀ y∈zya out x,y.lo<=x.lo)/\(zya out x).length<=out.length+1:=by
 have hxm:=zr.1 hx;rcases vS out with rfl | ⟨l,y,rfl⟩
 ·rw[Qg];exact⟨⟨hx,by simp,trivial⟩,fun n=>by rw[vh];simp,by simp,by simp⟩
 ·rw[JD];obtain⟨n1,n2,n3⟩:=Ym.1 h;have hym:=zr.1 n2;have hyx:=hlo y (by simp)
  by_cases hc:x.lo<=y.hi+1
  ·rw[if_pos hc];have hm:Yw (⟨y.lo,max y.hi x.hi⟩:RN)=true:=zr.2 ⟨hym.1,by simp only;omega,by simp only;omega⟩;refine⟨Ym.2 ⟨n1,hm,n3⟩,fun n=>?_,fun z hz=>?_,by simp⟩
   ·rw[un,un,vh,vh,Bool.or_assoc]
    congr 1
    rw[Bool.eq_iff_iff,Bool.or_eq_true,xI,xI,xI];have:=zr.1 hm;simp only at this ⊢;omega
   ·rcases List.mem_append.1 hz with hz | hz
    ·exact hlo z (by simp[hz])
    ·simp at hz;subst hz;exact hyx
  ·rw[if_neg hc];refine⟨Ym.2 ⟨h,hx,fun z hz=>?_⟩,fun n=>by rw[un (l++[y]),vh],fun z hz=>?_,by simp⟩
   ·rcases List.mem_append.1 hz with hz | hz
    ·have:=n3 z hz;omega
    ·simp at hz;subst hz;omega
   ·rcases List.mem_append.1 hz with hz | hz
    ·exact hlo z hz
    ·simp at hz;subst hz;exact Int.le_refl _
theorem JE : ∀ (s out:List RN),Nf out->(∀ x∈s,Yw x=true)->s.Pairwise (fun x y=>x.lo<=y.lo)->(∀ y∈out,∀ x∈s,y.lo<=x.lo)->Nf (s.foldl zya out)/\(∀ n,yi (s.foldl zya out) n=(yi out n||yi s n))/\(s.foldl zya out).length<=out.length+s.length
 | [],out,h,_,_,_=>⟨h,by simp,by simp⟩
 | x::r,out,h,hm,hp,hlo=>by
  obtain⟨a1,a2,a3,a4⟩:=wfa h (hm x (by simp)) fun y hy=>hlo y hy x (by simp)
  obtain⟨p1,p2⟩:=List.pairwise_cons.1 hp;obtain⟨i1,i2,i3⟩:=JE r _ a1 (fun y hy=>hm y (List.mem_cons_of_mem _ hy)) p2 fun y hy z hz=>by
   have:=a3 y hy;have:=p1 z hz;omega
  refine⟨i1,fun n=>?_,by simp;omega⟩;rw[List.foldl_cons,i2,a2,wO,Bool.or_assoc]
theorem v9a{l:List RN}{Q:List RN->Prop}(h:∀ s,s.Perm l->s.Pairwise (fun x y=>x.lo<=y.lo)->Q s):(srt Je l).wp Q:=by
 refine⟨⟨l.mergeSort (fun x y=>decide (x.lo<=y.lo)),List.mergeSort_perm _ _,?_⟩,fun s ⟨h1,h2⟩=>h s h1 (h2.imp fun {x y} h=>?_)⟩
 ·refine(List.pairwise_mergeSort (fun a b c h1 h2=>?_) (fun a b=>?_) l).imp fun {x y} h=>?_
  ·simp only[decide_eq_true_eq] at h1 h2 ⊢;omega
  ·simp only[Bool.or_eq_true,decide_eq_true_eq];omega
  ·simp only[decide_eq_true_eq] at h;unfold Je;simp only[decide_eq_false_iff_not];omega
 ·unfold Je at h;simp only[decide_eq_false_iff_not] at h;omega
theorem UU(l:List RN)(h:l.length<=1000000000000):xx l=pure (nrm l):=by
 unfold xx;have h1:=Yj (body:=uJ l) l (fun i (t:List RN)=>((i:Int),t)) (fun t x=>if Yw x then t++[x] else t) (fun t=>pure t) (fun i t=>t.length<=i) (fun i x t hx hi hI=>by
  have h1:decide ((i:Int) < (l.length:Int))=true:=by simpa using hi
  refine⟨?_,by split <;> (try simp only[List.length_append,List.length_singleton]) <;> omega⟩;unfold uJ;simp only[h1,cond_true,zN hx,zA,yS (show i < 9223372036854775807 by omega)];have e:(cond (decide (0 < x.lo)) (cond (decide (x.lo<=x.hi)) (M.pure (decide (x.hi<=281474976710655))) (M.pure false)) (M.pure false):M Bool)=pure (Yw x):=by
   rw[zn,zn];refine congrArg pure ?_;rw[Bool.eq_iff_iff,zr];simp only[Bool.and_eq_true,decide_eq_true_eq];omega
  rw[e,zA]
  cases hm:Yw x with
  | false=>simp[zA]
  | true=>
   rw[cond_true,zI (by simp;omega)];simp[zA]) (fun t _=>by unfold uJ;simp[zA]) [] (by simp)
 have hf:∀ (l t:List RN),l.foldl (fun t x=>if Yw x then t++[x] else t) t=t++l.filter Yw:=by
  intro l
  induction l with
  | nil=>simp
  | cons x r ih=>
   intro t;rw[List.foldl_cons,ih]
   cases hm:Yw x <;> simp[hm]
 rw[hf,List.nil_append] at h1;have h1':loop (uJ l) (0,[])=pure (l.filter Yw):=h1;have hfl:(l.filter Yw).length<=l.length:=List.length_filter_le _ _;rw[h1',zA,zI (by omega)];refine ux (v9a fun s hs hp=>?_);have hsl:=hs.length_eq;have hmay:∀ x∈s,Yw x=true:=fun x hx=>(List.mem_filter.1 (hs.mem_iff.1 hx)).2
 have hpre:∀ i,Nf ((s.take i).foldl zya [])/\((s.take i).foldl zya []).length<=i/\∀ x,s[i]?=some x->∀ y∈(s.take i).foldl zya [],y.lo<=x.lo:=fun i=>by
  obtain⟨i1,i2,i3⟩:=JE (s.take i) [] trivial (fun x hx=>hmay x (List.mem_of_mem_take hx)) (List.Pairwise.sublist (List.take_sublist _ _) hp) (by simp);refine⟨i1,by simp at i3;omega,fun x hx y hy=>?_⟩;have hmy:=zr.1 (i1.may y hy);have:yi ((s.take i).foldl zya []) y.lo=true:=vH.2 ⟨y,hy,i1.may y hy,by omega,by omega⟩;rw[i2] at this;simp only[QZ,Bool.false_or] at this;obtain⟨z,hz,_,h3,_⟩:=vH.1 this
  -- z is ahead of x; y begins where one of those ahead begins
  have hall:∀ (s out:List RN),(∀ y∈s.foldl zya out,(∃ z∈out,y.lo=z.lo)\/∃ z∈s,y.lo=z.lo):=by
   intro s
   induction s with
   | nil=>intro out y hy;exact .inl ⟨y,hy,rfl⟩
   | cons a r ih=>
    intro out y hy;rcases ih _ y hy with⟨z,hz,e⟩ | ⟨z,hz,e⟩
    ·rcases vS out with rfl | ⟨q,w,rfl⟩
     ·rw[Qg] at hz;simp at hz;subst hz;exact .inr ⟨z,by simp,e⟩
     ·rw[JD] at hz
      split at hz
      ·rcases List.mem_append.1 hz with hz | hz
       ·exact .inl ⟨z,by simp[hz],e⟩
       ·simp at hz;subst hz;exact .inl ⟨w,by simp,e⟩
      ·rcases List.mem_append.1 hz with hz | hz
       ·exact .inl ⟨z,hz,e⟩
       ·simp at hz;subst hz;exact .inr ⟨z,by simp,e⟩
    ·exact .inr ⟨z,by simp[hz],e⟩
  rcases hall _ _ y hy with⟨z,hz,_⟩ | ⟨z,hz,e⟩
  ·simp at hz
  ·obtain⟨j,hj,hje⟩:=List.getElem_of_mem hz;have hlt:=(List.getElem?_eq_some_iff.1 hx).1;have hji:j < i:=by simp at hj;omega
   have:=List.pairwise_iff_getElem.1 hp j i (by omega) hlt hji;rw[List.getElem_take] at hje;have hxe:s[i]=x:=by rw[List.getElem?_eq_getElem hlt] at hx;simpa using hx
   rw[hje,hxe] at this;omega
 have h2:=Yj (body:=uK (l.filter Yw) s) s (fun i (t:List RN)=>((i:Int),t)) zya (fun t=>pure t) (fun i t=>t=(s.take i).foldl zya []) (fun i x t hx hi hI=>by
  obtain⟨v1,v2,v3⟩:=hpre i;have v3:=v3 x hx;rw[<- hI] at v1 v2 v3;have hxm:=zr.1 (hmay x (List.mem_of_getElem? hx));have h1:decide ((i:Int) < ((l.filter Yw).length:Int))=true:=by simp;omega
  refine⟨?_,by rw[List.take_add_one,hx];simp[hI]⟩;unfold uK;simp only[h1,cond_true,zN hx,zA,yS (show i < 9223372036854775807 by omega)];rcases vS t with rfl | ⟨q,y,rfl⟩
  ·have e:decide ((0:Int)<=IntKind.i64.wrap (((([]:List RN).length:Nat):Int) - 1))=false:=by
    rw[jx (by simp) (by simp)];simp
   rw[e];simp only[cond_false,zA];rw[zI (by simp),Qg]
   rfl
  ·have hy:=(Ym.1 v1).2.1;have hym:=zr.1 hy;have e0:IntKind.i64.wrap ((((q++[y]).length:Nat):Int) - 1)=(q.length:Int):=by
    simp only[List.length_append,List.length_singleton] at v2 ⊢;rw[jx (by omega) (by omega)];omega
   have e1:idx (q++[y]) (q.length:Int)=pure y:=zN (by simp);have e3:decide ((0:Int)<=(q.length:Int))=true:=by simp
   rw[e0,e3];simp only[cond_true,e1,zA,wU64 (show 0<=y.hi+1 by omega) (by omega)];rw[JD]
   by_cases hc:x.lo<=y.hi+1
   ·simp only[hc,decide_true,cond_true,if_true,Int.toNat_natCast];have:(q++[y]).set q.length (⟨y.lo,max y.hi x.hi⟩:RN)=q++[⟨y.lo,max y.hi x.hi⟩]:=by simp
    rw[this]
    rfl
   ·simp only[hc,decide_false,cond_false,if_false];rw[zI (by simp only[List.length_append,List.length_singleton] at v2 ⊢;omega)]
    rfl) (fun t _=>by
  unfold uK;have e:decide ((s.length:Int) < ((l.filter Yw).length:Int))=false:=by simp;omega
  simp only[e,cond_false,zA]) [] (by simp)
 show(M.bind (M.loop (uK (l.filter Yw) s) (0,[])) fun out38=>M.pure out38).wp (·=nrm l);rw[show((0:Int),([]:List RN))=(((0:Nat):Int),[]) from rfl,h2];obtain⟨i1,i2,_⟩:=JE s [] trivial hmay hp (by simp);exact nrm_of i1 fun n=>by rw[i2,v3a hs,yxa];simp
def WR(nums:List Int):List RN:=nums.map fun n=>⟨n,n⟩
def uAa(x y:Int):Int:=if x < y then -1 else if y < x then 1 else 0
theorem uBa(x y:Int):xM x y=pure (uAa x y):=by
 unfold xM vE uAa;simp only[decide_true,Bool.not_true,zB,zA,cond_false,xB]
 split
 ·rfl
 ·split <;> rfl
theorem uCa(x:RN)(n:Int):ZC x n=pure (uAa x.hi n):=by
 unfold ZC;rw[uBa,zB,zA]
def Wx : List RN->Int->Nat
 | [],_=>0
 | x::r,n=>if x.hi < n then Wx r n+1 else 0
theorem zza : ∀ {v:List RN} {n:Int} {c:Nat},c<=v.length->(∀ (k:Nat) (x:RN),k < c->v[k]?=some x->x.hi < n)->(∀ (k:Nat) (x:RN),c<=k->v[k]?=some x->n<=x.hi)->c=Wx v n
 | [],n,c,h,_,_=>by simp at h;simp[Wx,h]
 | x::r,n,0,_,_,h2=>by
  have:=h2 0 x (by omega) rfl;simp only[Wx];rw[if_neg (by omega)]
 | x::r,n,c+1,h,h1,h2=>by
  have:=h1 0 x (by omega) rfl;simp only[Wx];rw[if_pos this,<- zza (v:=r) (n:=n) (c:=c) (by simpa using h) (fun k y hk hy=>h1 (k+1) y (by omega) (by simpa using hy)) (fun k y hk hy=>h2 (k+1) y (by omega) (by simpa using hy))]
theorem uDa{v:List RN}(h:Nf v):∀ {i j:Nat} {x y:RN},i < j->v[i]?=some x->v[j]?=some y->x.hi < y.hi:=by
 induction v with
 | nil=>intro i j x y _ hx;simp at hx
 | cons z r ih=>
  intro i j x y hij hx hy
  cases j with
  | zero=>omega
  | succ j=>
   have hyr:r[j]?=some y:=by simpa using hy
   have hym:=List.mem_of_getElem? hyr
   cases i with
   | zero=>
    simp at hx;subst hx;have:=h.2.1 y hym;have:=zr.1 (h.2.2.may y hym);omega
   | succ i=>exact ih h.2.2 (show i < j by omega) (by simpa using hx) hyr
theorem bs_loop(v:List RN)(n:Int)(hv:Nf v)(hl:v.length<=1000000000000):loop (zh v n) (0,(v.length:Int))=pure (Wx v n:Int):=by
 refine ux (xMa (fun s=>∃ i j:Nat,s=((i:Int),(j:Int))/\i<=j/\j<=v.length/\(∀ (k:Nat) (x:RN),k < i->v[k]?=some x->x.hi < n)/\(∀ (k:Nat) (x:RN),j<=k->v[k]?=some x->n<=x.hi)) (fun s=>(s.2 - s.1).toNat) ?_ _ ⟨0,v.length,rfl,Nat.zero_le _,Nat.le_refl _,fun k x hk=>absurd hk (Nat.not_lt_zero _),fun k x hk hx=>absurd (List.getElem?_eq_some_iff.1 hx).1 (Nat.not_lt.2 hk)⟩);rintro _ ⟨i,j,rfl,hij,hj,h1,h2⟩;unfold zh;simp only[xB]
 by_cases hc:(i:Int) < j
 ·rw[if_pos hc];have e:IntKind.i64.wrap (Int.fdiv (IntKind.u64.wrap (IntKind.i64.wrap ((i:Int)+j))) (2 ^ 1))=(((i+j) / 2:Nat):Int):=by
   rw[jx (n:=(i:Int)+j) (by omega) (by omega),wU64 (by omega) (by omega),Int.fdiv_eq_ediv_of_nonneg _ (by decide)];have:((i:Int)+j) / 2 ^ 1=(((i+j) / 2:Nat):Int):=by omega
   rw[this,jx (by omega) (by omega)]
  have hm:(i+j) / 2 < v.length:=by omega
  rw[e];simp only[zN (List.getElem?_eq_getElem hm),zA,uCa,zB,yS (show(i+j) / 2 < 9223372036854775807 by omega)]
  by_cases hlt:v[(i+j) / 2].hi < n
  ·have:uAa v[(i+j) / 2].hi n < 0:=by unfold uAa;rw[if_pos hlt];decide
   rw[if_pos this];refine⟨⟨(i+j) / 2+1,j,rfl,by omega,hj,fun k x hk hx=>?_,h2⟩,?_⟩
   ·by_cases e:k=(i+j) / 2
    ·subst e;rw[List.getElem?_eq_getElem hm] at hx;cases hx;exact hlt
    ·have:=uDa hv (show k < (i+j) / 2 by omega) hx (List.getElem?_eq_getElem hm);omega
   ·simp only;omega
  ·have:¬ uAa v[(i+j) / 2].hi n < 0:=by unfold uAa;rw[if_neg hlt];split <;> decide
   rw[if_neg this];refine⟨⟨i,(i+j) / 2,rfl,by omega,by omega,h1,fun k x hk hx=>?_⟩,?_⟩
   ·by_cases e:k=(i+j) / 2
    ·subst e;rw[List.getElem?_eq_getElem hm] at hx;cases hx;omega
    ·have:=uDa hv (show(i+j) / 2 < k by omega) (List.getElem?_eq_getElem hm) hx;omega
   ·simp only;omega
 ·rw[if_neg hc];have hij':i=j:=by omega
  subst hij';show(i:Int)=(Wx v n:Int)
  rw[<- zza hj h1 h2]
def hitB(v:List RN)(n:Int):Bool:=match v[Wx v n]? with | some x=>decide (uAa x.hi n=0) | none=>false
theorem bs_eq(v:List RN)(n:Int)(hv:Nf v)(hl:v.length<=1000000000000):zW v n=pure ((Wx v n:Int),hitB v n):=by
 unfold zW hitB;rw[bs_loop v n hv hl,zA]
 by_cases hc:Wx v n < v.length
 ·have:decide ((Wx v n:Int) < (v.length:Int))=true:=by simpa using hc
  rw[this,cond_true,zN (List.getElem?_eq_getElem hc)];simp only[zA,uCa,zB,List.getElem?_eq_getElem hc]
 ·have:decide ((Wx v n:Int) < (v.length:Int))=false:=by simpa using hc
  rw[this,cond_false,zA,List.getElem?_eq_none (by omega)]
theorem xpa : ∀ {v:List RN} (n:Int),Nf v->yi v n=(match v[Wx v n]? with | some x=>decide (x.lo<=n) | none=>false)
 | [],n,_=>rfl
 | x::r,n,h=>by
  by_cases hc:x.hi < n
  ·simp only[Wx,if_pos hc,List.getElem?_cons_succ];rw[<- xpa n h.2.2,wO];have:inR n x=false:=by
    rw[Bool.eq_false_iff];intro h;have:=(xI.1 h).2.2;omega
   rw[this,Bool.false_or]
  ·simp only[Wx,if_neg hc,List.getElem?_cons_zero];rw[Bool.eq_iff_iff,decide_eq_true_eq]
   constructor
   ·exact Qb h
   ·intro hle;exact(yya h hle).2 (.inl (by omega))
theorem has_eq(l:List RN)(n:Int)(h:l.length<=100000000000):Um l n=pure (yi l n):=by
 unfold Um;have hl:=ZS l;rw[UU l (by omega),zB,zA,bs_eq _ n (Yx l) (by omega),zB,zA,<- vi l n,xpa n (Yx l)]
 generalize nrm l=v
 by_cases hc:Wx v n < v.length
 ·have:decide ((Wx v n:Int) < (v.length:Int))=true:=by simpa using hc
  simp only[this,cond_true,zN (List.getElem?_eq_getElem hc),zA,List.getElem?_eq_getElem hc]
 ·have:decide ((Wx v n:Int) < (v.length:Int))=false:=by simpa using hc
  simp only[this,cond_false,zA,List.getElem?_eq_none (show v.length<=Wx v n by omega)]
theorem uEa(A B:List RN)(hA:Nf A)(hB:Nf B)(hl:A.length+B.length<=1000000000000):(loop Ze (A,B,[])).wp fun r=>Nf r/\∀ n,yi r n=(yi A n&&yi B n):=by
 refine xMa (fun s:List RN×List RN×List RN=>Nf s.1/\Nf s.2.1/\Nf s.2.2/\(∀ y∈s.2.2,∀ x∈s.1,∀ z∈s.2.1,y.hi+1 < max x.lo z.lo)/\(∀ n,(yi s.2.2 n||(yi s.1 n&&yi s.2.1 n))=(yi A n&&yi B n))/\s.2.2.length+s.1.length+s.2.1.length<=A.length+B.length) (fun s=>s.1.length+s.2.1.length) ?_ (A,B,[]) ⟨hA,hB,(trivial:Nf []),by simp,by simp,by simp⟩;rintro⟨a,b,out⟩ ⟨h1,h2,h3,h4,h5,h6⟩;simp only at h1 h2 h3 h4 h5 h6;unfold Ze
 cases a with
 | nil=>exact⟨h3,fun n=>by rw[<- h5];simp⟩
 | cons x r=>
  cases b with
  | nil=>
   have e1:decide ((0:Int) < ((x::r).length:Int))=true:=by simp only[List.length_cons,decide_eq_true_eq];omega
   simp only[e1,cond_true];exact⟨h3,fun n=>by rw[<- h5];simp⟩
  | cons z q=>
   have hx:=zr.1 h1.1;have hz:=zr.1 h2.1;have e1:decide ((0:Int) < ((x::r).length:Int))=true:=by simp only[List.length_cons,decide_eq_true_eq];omega
   have e2:decide ((0:Int) < ((z::q).length:Int))=true:=by simp only[List.length_cons,decide_eq_true_eq];omega
   simp only[e1,e2,cond_true,zA,WW (l:=x::r) (i:=0) (y:=x) (by omega) rfl,WW (l:=z::q) (i:=0) (y:=z) (by omega) rfl]
   -- the new list
   have hout:∃ out',(cond (decide (max x.lo z.lo<=min x.hi z.hi)) (M.yt ((out.length+List.length [(⟨max x.lo z.lo,min x.hi z.hi⟩:RN)])*16<=140737488355328) (M.pure (out++[⟨max x.lo z.lo,min x.hi z.hi⟩]))) (M.pure out))=M.pure out'/\Nf out'/\(∀ n,yi out' n=(yi out n||(inR n x&&inR n z)))/\(∀ y∈out',y∈out\/y.hi=min x.hi z.hi)/\out'.length<=out.length+1:=by
    by_cases hc:max x.lo z.lo<=min x.hi z.hi
    ·refine⟨out++[⟨max x.lo z.lo,min x.hi z.hi⟩],?_,Ym.2 ⟨h3,zr.2 ⟨by simp only;omega,hc,by simp only;omega⟩,fun y hy=>h4 y hy x (by simp) z (by simp)⟩,fun n=>?_,fun y hy=>?_,by simp⟩
     ·rw[decide_eq_true hc,cond_true,zI];simp at h6 ⊢;omega
     ·rw[un,vh]
      congr 1
      rw[Bool.eq_iff_iff,Bool.and_eq_true,xI,xI,xI];simp only;omega
     ·rcases List.mem_append.1 hy with hy | hy
      ·exact .inl hy
      ·simp at hy;subst hy;exact .inr rfl
    ·refine⟨out,by rw[decide_eq_false hc];rfl,h3,fun n=>?_,fun y hy=>.inl hy,by omega⟩;have:(inR n x&&inR n z)=false:=by
      rw[Bool.eq_false_iff];intro h;rw[Bool.and_eq_true,xI,xI] at h;omega
     rw[this,Bool.or_false]
   obtain⟨out',o1,o2,o3,o4,o5⟩:=hout;have hh:∀ n,yi out' n=(yi out n||(inR n x&&inR n z)):=o3;rw[o1];simp only[zA,xB]
   by_cases hc:x.hi < z.hi
   ·rw[if_pos hc,zI ⟨by omega,by simp only[List.length_cons];omega,by omega⟩];have ed:List.drop (Int.toNat 1) (List.take (Int.toNat ((x::r).length:Int)) (x::r))=r:=by simp
    rw[ed];refine⟨⟨h1.2.2,h2,o2,fun y hy x' hx' z' hz'=>?_,fun n=>?_,by simp at h6 ⊢;omega⟩,by simp only[List.length_cons];omega⟩
    ·rcases o4 y hy with hy | hy
     ·have:=h4 y hy x' (List.mem_cons_of_mem _ hx') z' hz';omega
     ·have:=h1.2.1 x' hx';omega
    ·simp only;rw[hh,<- h5,wO x,wO z,Bool.or_assoc]
     congr 1
     have hxq:(inR n x&&yi q n)=false:=by
      rw[Bool.eq_false_iff];intro h;rw[Bool.and_eq_true,xI] at h;have:=JA h2 h.2;omega
     cases hv1:inR n x <;> cases hv2:inR n z <;> cases hv3:yi r n <;> cases hv4:yi q n <;> simp_all
   ·rw[if_neg hc,zI ⟨by omega,by simp only[List.length_cons];omega,by omega⟩];have ed:List.drop (Int.toNat 1) (List.take (Int.toNat ((z::q).length:Int)) (z::q))=q:=by simp
    rw[ed];refine⟨⟨h1,h2.2.2,o2,fun y hy x' hx' z' hz'=>?_,fun n=>?_,by simp at h6 ⊢;omega⟩,by simp only[List.length_cons];omega⟩
    ·rcases o4 y hy with hy | hy
     ·have:=h4 y hy x' hx' z' (List.mem_cons_of_mem _ hz');omega
     ·have:=h2.2.1 z' hz';omega
    ·simp only;rw[hh,<- h5,wO x,wO z,Bool.or_assoc]
     congr 1
     have hxq:(inR n z&&yi r n)=false:=by
      rw[Bool.eq_false_iff];intro h;rw[Bool.and_eq_true,xI] at h;have:=JA h1 h.2;omega
     cases hv1:inR n x <;> cases hv2:inR n z <;> cases hv3:yi r n <;> cases hv4:yi q n <;> simp_all
theorem xqa(a b:List RN)(ha:a.length<=100000000000)(hb:b.length<=100000000000):YA a b=pure (Zl (·&&·) a b):=by
 unfold YA;have la:=ZS a;have lb:=ZS b;rw[UU a (by omega),zB,zA,UU b (by omega),zB,zA];refine ux ((loop Ze (nrm a,nrm b,[])).mono (fun r ⟨h1,h2⟩=>?_) (uEa (nrm a) (nrm b) (Yx a) (Yx b) (by omega)));obtain⟨s1,s2,_⟩:=yE (·&&·) rfl a b;exact Vq h1 s1 fun n=>by rw[h2,s2,vi,vi]
def Jj : Int->List RN->List RN
 | at_,[]=>[⟨at_,281474976710655⟩]
 | at_,x::r=>⟨at_,x.lo - 1⟩::Jj (x.hi+1) r
theorem uFa(l:List RN)(p:Int):(Jj p l).length=l.length+1:=by
 induction l generalizing p with
 | nil=>rfl
 | cons x r ih=>simp[Jj,ih]
theorem z0a : ∀ (l:List RN) (p:Int),Nf l->1<=p->(∀ x∈l,p<=x.lo)->∀ n,yi (Jj p l) n=true↔p<=n/\n<=281474976710655/\yi l n=false
 | [],p,_,hp,_,n=>by
  rw[Jj,vh,xI];simp only[QZ,and_true];omega
 | x::r,p,h,hp,hlo,n=>by
  have hx:=zr.1 h.1;have:=hlo x (by simp);rw[Jj,wO,Bool.or_eq_true,z0a r (x.hi+1) h.2.2 (by omega) (fun y hy=>by have:=h.2.1 y hy;omega) n,xI];simp only;have hr:yi (x::r) n=false↔(n < x.lo\/x.hi < n)/\yi r n=false:=by
   rw[wO,Bool.or_eq_false_iff];refine and_congr_left fun _=>?_
   rw[Bool.eq_false_iff,ne_eq,xI];omega
  rw[hr];have hrl:n < x.lo->yi r n=false:=fun hn=>by
   rw[Bool.eq_false_iff];intro h2;have:=JA h h2;omega
  constructor
  ·rintro(h2 | h2)
   ·exact⟨h2.2.1,by omega,.inl (by omega),hrl (by omega)⟩
   ·exact⟨by omega,h2.2.1,.inr (by omega),h2.2.2⟩
  ·rintro⟨h2,h3,h4,h5⟩;rcases h4 with h4 | h4
   ·left;omega
   ·right;exact⟨by omega,h3,h5⟩
theorem rest_eq(l:List RN)(h:l.length<=100000000000):VS l=pure (Jj 1 (nrm l)):=by
 unfold VS;have hl:=ZS l;have hn:=Yx l;rw[UU l (by omega),zB,zA]
 generalize nrm l=v at hl hn
 have h1:=Yj (body:=Zf v) v (fun i (t:Int×List RN)=>(t.1,(i:Int),t.2)) (fun t x=>(x.hi+1,t.2++[⟨t.1,x.lo - 1⟩])) (fun t=>pure t) (fun i t=>t.2.length=i) (fun i x t hx hi hI=>by
  have h1:decide ((i:Int) < (v.length:Int))=true:=by simpa using hi
  have hm:=zr.1 (hn.may x (List.mem_of_getElem? hx));refine⟨?_,by simp[hI]⟩;unfold Zf;simp only[h1,cond_true,zN hx,zA,yS (show i < 9223372036854775807 by omega),wU64 (show 0<=x.lo - 1 by omega) (by omega),wU64 (show 0<=x.hi+1 by omega) (by omega)];rw[zI (by simp;omega)]) (fun t _=>by unfold Zf;simp[zA]) (1,[]) rfl
 rw[show((1:Int),(0:Int),([]:List RN))=(1,((0:Nat):Int),[]) from rfl,h1];simp only[zA];have hf:∀ (l:List RN) (t:Int×List RN),(l.foldl (fun(t:Int×List RN) x=>(x.hi+1,t.2++[(⟨t.1,x.lo - 1⟩:RN)])) t).2++[⟨(l.foldl (fun(t:Int×List RN) x=>(x.hi+1,t.2++[(⟨t.1,x.lo - 1⟩:RN)])) t).1,281474976710655⟩]=t.2++Jj t.1 l/\(l.foldl (fun(t:Int×List RN) x=>(x.hi+1,t.2++[(⟨t.1,x.lo - 1⟩:RN)])) t).2.length=t.2.length+l.length:=by
  intro l
  induction l with
  | nil=>intro t;exact⟨rfl,by simp⟩
  | cons x r ih=>
   intro t;rw[List.foldl_cons];obtain⟨i1,i2⟩:=ih (x.hi+1,t.2++[⟨t.1,x.lo - 1⟩]);exact⟨by rw[i1];simp[Jj],by rw[i2];simp;omega⟩
 obtain⟨f1,f2⟩:=hf v (1,[])
 generalize v.foldl (fun(t:Int×List RN) x=>(x.hi+1,t.2++[(⟨t.1,x.lo - 1⟩:RN)])) (1,[])=t at f1 f2
 obtain⟨p,out⟩:=t;simp only[List.length_nil] at f1 f2 ⊢;rw[zI (by simp;omega),f1]
 rfl
theorem minus_eq(a b:List RN)(ha:a.length<=10000000000)(hb:b.length<=10000000000):YD a b=pure (Zl (fun x y=>x&&!y) a b):=by
 unfold YD;have lb:=ZS b;have lr:=uFa (nrm b) 1;rw[rest_eq b (by omega),zB,zA,xqa a _ (by omega) (by omega),zB,zA];refine congrArg pure ?_;obtain⟨s1,s2,_⟩:=yE (·&&·) rfl a (Jj 1 (nrm b));obtain⟨t1,t2,_⟩:=yE (fun x y=>x&&!y) rfl a b;refine Vq s1 t1 fun n=>?_
 rw[s2,t2,<- vi b]
 cases hh:yi a n with
 | false=>rfl
 | true=>
  have:=qL hh;rw[Bool.true_and,Bool.true_and,Bool.eq_iff_iff,z0a (nrm b) 1 (Yx b) (by omega) (fun x hx=>(zr.1 ((Yx b).may x hx)).1) n];simp only[Bool.not_eq_true'];exact⟨fun h=>h.2.2,fun h=>⟨this.1,this.2,h⟩⟩
theorem Vs(l:List Int):(WR l).length=l.length:=by simp[WR]
end Go.Ep.M.R
namespace Go.Ep.M.C
open Go
def yx(c:List PT)(k:Int):List RN:=(c.filter fun p=>decide (p.dev=k)&&decide (0 < k)).flatMap (·.runs)
theorem jD(k:Int):yx [] k=[]:=rfl
theorem ZT(p:PT)(c:List PT)(k:Int):yx (p::c) k=(if p.dev=k/\0 < k then p.runs else [])++yx c k:=by
 unfold yx;rw[List.filter_cons]
 by_cases h:p.dev=k/\0 < k
 ·simp[h.1,h.2]
 ·rw[if_neg (by simpa using h),if_neg h];rfl
theorem Vt(a b:List PT)(k:Int):yx (a++b) k=yx a k++yx b k:=by simp[yx,List.filter_append]
theorem Qh{c:List PT}{k:Int}(h:¬ 0 < k):yx c k=[]:=by simp[yx,h]
def vA(c:List PT)(k n:Int):Bool:=R.yi (yx c k) n
theorem Yo(a b:List PT)(k n:Int):vA (a++b) k n=(vA a k n||vA b k n):=by simp[vA,Vt,R.un]
def vM(c:List PT):Nat:=(c.map fun p=>p.runs.length).sum
theorem WK(a b:List PT):vM (a++b)=vM a+vM b:=by simp[vM]
theorem wh(c:List PT)(k:Int):(yx c k).length<=vM c:=by
 induction c with
 | nil=>simp[yx]
 | cons p r ih=>
  rw[ZT,List.length_append];have:vM (p::r)=p.runs.length+vM r:=by simp[vM]
  split
  ·omega
  ·simp;omega
theorem Qi(ks:List Int):(ks.map fun _=>0).sum=0:=by
 induction ks with
 | nil=>rfl
 | cons k r ih=>rw[List.map_cons,List.sum_cons,ih]
theorem Qj(c:List PT)(ks:List Int)(h:ks.Nodup):(ks.map fun k=>(yx c k).length).sum<=vM c:=by
 induction c with
 | nil=>simp only[jD,List.length_nil,Qi];exact Nat.zero_le _
 | cons p r ih=>
  have e:vM (p::r)=p.runs.length+vM r:=by simp[vM]
  have h1:(ks.map fun k=>(yx (p::r) k).length).sum=(ks.map fun k=>if p.dev=k/\0 < k then p.runs.length else 0).sum+(ks.map fun k=>(yx r k).length).sum:=by
   clear h ih
   induction ks with
   | nil=>rfl
   | cons k ks ih2=>
    simp only[List.map_cons,List.sum_cons,ZT,List.length_append] at ih2 ⊢
    by_cases hc:p.dev=k/\0 < k
    ·rw[if_pos hc,if_pos hc];omega
    ·rw[if_neg hc,if_neg hc,List.length_nil];omega
  have h2:(ks.map fun k=>if p.dev=k/\0 < k then p.runs.length else 0).sum<=p.runs.length:=by
   clear ih h1 e
   induction ks with
   | nil=>simp
   | cons k ks ih2=>
    obtain⟨n1,n2⟩:=List.nodup_cons.1 h;simp only[List.map_cons,List.sum_cons]
    by_cases hk:p.dev=k
    ·have h0:(ks.map fun k=>if p.dev=k/\0 < k then p.runs.length else 0).sum=0:=by
      have:(ks.map fun k=>if p.dev=k/\0 < k then p.runs.length else 0)=ks.map fun _=>0:=by
       refine List.map_congr_left fun q hq=>?_
       rw[if_neg];rintro⟨e,_⟩;exact n1 (by rw[<- hk,e];exact hq)
      rw[this];exact Qi ks
     rw[h0]
     split <;> omega
    ·rw[if_neg (fun h=>hk h.1)];have:=ih2 n2;omega
  omega
def OrdP(l:List PT):Prop:=l.Pairwise fun x y=>x.dev < y.dev
theorem jE : ∀ {l l':List PT},OrdP l->OrdP l'->(∀ d,d∈l↔d∈l')->l=l'
 | [],[],_,_,_=>rfl
 | [],y::r,_,_,h=>absurd ((h y).2 (by simp)) (by simp)
 | x::r,[],_,_,h=>absurd ((h x).1 (by simp)) (by simp)
 | x::r,y::q,h1,h2,h=>by
  obtain⟨a1,a2⟩:=List.pairwise_cons.1 h1;obtain⟨b1,b2⟩:=List.pairwise_cons.1 h2;have e:x=y:=by
   rcases List.mem_cons.1 ((h x).1 (by simp)) with e | hx
   ·exact e
   ·rcases List.mem_cons.1 ((h y).2 (by simp)) with e | hy
    ·exact e.symm
    ·have:=a1 y hy;have:=b1 x hx;omega
  subst e
  congr 1
  refine jE a2 b2 fun d=>⟨fun hd=>?_,fun hd=>?_⟩
  ·rcases List.mem_cons.1 ((h d).1 (List.mem_cons_of_mem _ hd)) with e | hx
   ·subst e;have:=a1 d hd;omega
   ·exact hx
  ·rcases List.mem_cons.1 ((h d).2 (List.mem_cons_of_mem _ hd)) with e | hx
   ·subst e;have:=b1 d hd;omega
   ·exact hx
def yo(f:Int->List RN)(ks:List Int):List PT:=ks.filterMap fun k=>if f k=[] then none else some ⟨k,f k⟩
theorem ZU{f:Int->List RN}{ks:List Int}{p:PT}:p∈yo f ks↔p.dev∈ks/\p.runs≠[]/\p.runs=f p.dev:=by
 unfold yo;rw[List.mem_filterMap]
 constructor
 ·rintro⟨k,hk,h⟩
  split at h
  ·cases h
  ·rename_i h0;cases h;exact⟨hk,h0,rfl⟩
 ·rintro⟨h1,h2,h3⟩;refine⟨p.dev,h1,?_⟩;rw[if_neg (by rw[<- h3];exact h2),<- h3]
theorem uD{f:Int->List RN}{ks:List Int}(h:ks.Pairwise (· < ·)):OrdP (yo f ks):=by
 unfold OrdP yo;rw[List.pairwise_filterMap];refine h.imp fun {a b} hab x hx y hy=>?_
 split at hx
 ·cases hx
 ·split at hy
  ·cases hy
  ·cases hx;cases hy;exact hab
theorem JF{f g:Int->List RN}{ks ls:List Int}(h1:ks.Pairwise (· < ·))(h2:ls.Pairwise (· < ·))(hf:∀ k,f k=g k)(h:∀ k,f k≠[]->(k∈ks↔k∈ls)):yo f ks=yo g ls:=by
 refine jE (uD h1) (uD h2) fun p=>?_
 rw[ZU,ZU]
 constructor
 ·rintro⟨a,b,c⟩;exact⟨(h _ (by rw[<- c];exact b)).1 a,b,by rw[c,hf]⟩
 ·rintro⟨a,b,c⟩;exact⟨(h _ (by rw[hf,<- c];exact b)).2 a,b,by rw[c,hf]⟩
theorem JG(f:Int->List RN)(ks:List Int):(yo f ks).length<=ks.length:=List.length_filterMap_le _ _
theorem JH(f:Int->List RN)(ks:List Int):vM (yo f ks)=(ks.map fun k=>(f k).length).sum:=by
 induction ks with
 | nil=>rfl
 | cons k ks ih=>
  have:yo f (k::ks)=(if f k=[] then [] else [⟨k,f k⟩])++yo f ks:=by
   unfold yo
   by_cases h:f k=[] <;> simp[h]
  rw[this,WK,ih]
  by_cases h:f k=[] <;> simp[h,vM]
theorem JI{f:Int->List RN}{ks:List Int}(h:ks.Nodup)(k:Int):yx (yo f ks) k=if k∈ks/\0 < k then f k else []:=by
 induction ks with
 | nil=>simp[yo,yx]
 | cons q ks ih=>
  obtain⟨n1,n2⟩:=List.nodup_cons.1 h;have e:yo f (q::ks)=(if f q=[] then [] else [⟨q,f q⟩])++yo f ks:=by
   unfold yo
   by_cases h:f q=[] <;> simp[h]
  rw[e,Vt,ih n2]
  by_cases hq:q=k
  ·subst hq;rw[if_neg (fun(h:q∈ks/\0 < q)=>n1 h.1),List.append_nil]
   by_cases h0:f q=[]
   ·rw[if_pos h0,h0];simp[yx]
   ·rw[if_neg h0]
    by_cases hp:0 < q
    ·rw[if_pos ⟨List.mem_cons_self,hp⟩];simp[yx,hp]
    ·rw[if_neg (fun h=>hp h.2)];exact Qh hp
  ·have:yx (if f q=[] then [] else [(⟨q,f q⟩:PT)]) k=[]:=by
    by_cases h0:f q=[] <;> simp[h0,yx,hq]
   rw[this];have hm:(k∈q::ks)↔k∈ks:=by simp[Ne.symm hq]
   simp only[hm,List.nil_append]
def z1a(l:List Int)(p:PT):List Int:=if 0 < p.dev then V.Ja l p.dev else l
def WS(c:List PT):List Int:=c.foldl z1a []
theorem Vp(c:List PT):∀ l:List Int,l.Pairwise (· < ·)->(c.foldl z1a l).Pairwise (· < ·)/\(∀ k,k∈c.foldl z1a l↔k∈l\/∃ p∈c,p.dev=k/\0 < k)/\(c.foldl z1a l).length<=l.length+c.length:=by
 induction c with
 | nil=>intro l h;simp[h]
 | cons p r ih=>
  intro l h;rw[List.foldl_cons]
  by_cases hp:0 < p.dev
  ·have e:z1a l p=V.Ja l p.dev:=by simp[z1a,hp]
   rw[e];obtain⟨h1,h2,h3⟩:=ih _ (V.ZR h p.dev);refine⟨h1,fun k=>?_,by have:=V.Vo l p.dev;simp;omega⟩;rw[h2,V.jC]
   constructor
   ·rintro((rfl | h4) | ⟨x,h4,h5⟩)
    ·exact .inr ⟨p,by simp,rfl,hp⟩
    ·exact .inl h4
    ·exact .inr ⟨x,by simp[h4],h5⟩
   ·rintro(h4 | ⟨x,h4,h5,h6⟩)
    ·exact .inl (.inr h4)
    ·rcases List.mem_cons.1 h4 with rfl | h4
     ·exact .inl (.inl h5.symm)
     ·exact .inr ⟨x,h4,h5,h6⟩
  ·have e:z1a l p=l:=by simp[z1a,hp]
   rw[e];obtain⟨h1,h2,h3⟩:=ih _ h;refine⟨h1,fun k=>?_,by simp;omega⟩;rw[h2]
   constructor
   ·rintro(h4 | ⟨x,h4,h5⟩)
    ·exact .inl h4
    ·exact .inr ⟨x,by simp[h4],h5⟩
   ·rintro(h4 | ⟨x,h4,h5,h6⟩)
    ·exact .inl h4
    ·rcases List.mem_cons.1 h4 with rfl | h4
     ·rw[h5] at hp;exact absurd h6 hp
     ·exact .inr ⟨x,h4,h5,h6⟩
theorem vN(c:List PT):(WS c).Pairwise (· < ·):=(Vp c [] List.Pairwise.nil).1
theorem z2a{l:List Int}(h:l.Pairwise (· < ·)):l.Nodup:=h.imp fun {a b} h e=>by omega
theorem YL(c:List PT):(WS c).Nodup:=z2a (vN c)
theorem vf{c:List PT}{k:Int}:k∈WS c↔(∃ p∈c,p.dev=k)/\0 < k:=by
 have:=(Vp c [] List.Pairwise.nil).2.1 k;unfold WS;rw[this];simp only[List.not_mem_nil,false_or]
 constructor
 ·rintro⟨p,h1,h2,h3⟩;exact⟨⟨p,h1,h2⟩,h3⟩
 ·rintro⟨⟨p,h1,h2⟩,h3⟩;exact⟨p,h1,h2,h3⟩
theorem xra(c:List PT):(WS c).length<=c.length:=by simpa[WS] using (Vp c [] List.Pairwise.nil).2.2
theorem Zm{c:List PT}{k:Int}(h:yx c k≠[]):k∈WS c:=by
 rw[vf];refine Classical.byContradiction fun hn=>h ?_
 unfold yx;have:(c.filter fun p=>decide (p.dev=k)&&decide (0 < k))=[]:=by
  rw[List.filter_eq_nil_iff];intro p hp;simp only[Bool.and_eq_true,decide_eq_true_eq];rintro⟨h1,h2⟩;exact hn ⟨⟨p,hp,h1⟩,h2⟩
 rw[this];rfl
def opC(op:Bool->Bool->Bool)(a b:List PT):List PT:=yo (fun k=>R.Zl op (yx a k) (yx b k)) (WS (a++b))
def zj(c:List PT):List PT:=yo (fun k=>R.nrm (yx c k)) (WS c)
theorem xsa{op:Bool->Bool->Bool}(h0:op false false=false):R.Zl op [] []=[]:=by
 have:=R.yE op h0 [] [];exact R.Vq this.1 trivial fun n=>by rw[this.2.1];exact h0
theorem JJ : R.nrm []=[]:=xsa rfl
theorem uE{op:Bool->Bool->Bool}(h0:op false false=false)(a b:List PT)(k n:Int):vA (opC op a b) k n=op (vA a k n) (vA b k n):=by
 unfold vA opC;rw[JI (YL _)]
 split
 ·rw[(R.yE op h0 _ _).2.1]
 ·rename_i h
  have e:yx a k=[]/\yx b k=[]:=by
   have h1:yx (a++b) k=[]:=Classical.byContradiction fun h2=>h ⟨Zm h2,(vf.1 (Zm h2)).2⟩
   rw[Vt] at h1;simpa using h1
  rw[e.1,e.2];show R.yi [] n=_;simp[R.yi,h0]
theorem yz(c:List PT)(k n:Int):vA (zj c) k n=vA c k n:=by
 unfold vA zj;rw[JI (YL _)]
 split
 ·rw[R.vi]
 ·rename_i h
  have e:yx c k=[]:=Classical.byContradiction fun h2=>h ⟨Zm h2,(vf.1 (Zm h2)).2⟩
  rw[e]
structure Canon(c:List PT):Prop where
 ord:OrdP c
 nf:∀ p∈c,0 < p.dev/\p.runs≠[]/\R.Nf p.runs
theorem JK{f:Int->List RN}{c:List PT}(h:∀ k,R.Nf (f k)):Canon (yo f (WS c)):=⟨uD (vN c),fun p hp=>by
 obtain⟨h1,h2,h3⟩:=ZU.1 hp;exact⟨(vf.1 h1).2,h2,by rw[h3];exact h _⟩⟩
theorem wi{op:Bool->Bool->Bool}(h0:op false false=false)(a b:List PT):Canon (opC op a b):=JK fun _=>(R.yE op h0 _ _).1
theorem yf(c:List PT):Canon (zj c):=JK fun _=>R.Yx _
theorem Qk : ∀ {c:List PT},OrdP c->∀ p∈c,0 < p.dev->yx c p.dev=p.runs
 | [],_,p,hp,_=>by simp at hp
 | q::r,h,p,hp,h0=>by
  obtain⟨h1,h2⟩:=List.pairwise_cons.1 h;rw[ZT];rcases List.mem_cons.1 hp with rfl | hp
  ·rw[if_pos ⟨rfl,h0⟩];have:yx r p.dev=[]:=by
    unfold yx;have:(r.filter fun x=>decide (x.dev=p.dev)&&decide (0 < p.dev))=[]:=by
     rw[List.filter_eq_nil_iff];intro x hx;have:=h1 x hx;simp;omega
    rw[this];rfl
   rw[this,List.append_nil]
  ·have:=h1 p hp;rw[if_neg (by omega),Qk h2 p hp h0];rfl
theorem Canon.eq_norm{c:List PT}(h:Canon c):c=zj c:=by
 refine jE h.ord (yf c).ord fun p=>?_
 unfold zj;rw[ZU]
 constructor
 ·intro hp;obtain⟨h1,h2,h3⟩:=h.nf p hp;exact⟨vf.2 ⟨⟨p,hp,rfl⟩,h1⟩,h2,by rw[Qk h.ord p hp h1,R.Qf h3]⟩
 ·rintro⟨h1,h2,h3⟩;obtain⟨⟨q,hq,hd⟩,h0⟩:=vf.1 h1;obtain⟨g1,g2,g3⟩:=h.nf q hq;have e:yx c p.dev=q.runs:=by rw[<- hd];exact Qk h.ord q hq g1
  rw[e,R.Qf g3] at h3;have:p=q:=by cases p;cases q;simp_all
  rw[this];exact hq
theorem Vu{a b:List PT}(h:∀ k n,vA a k n=vA b k n):zj a=zj b:=by
 have hf:∀ k,R.nrm (yx a k)=R.nrm (yx b k):=fun k=>R.Vq (R.Yx _) (R.Yx _) fun n=>by rw[R.vi,R.vi];exact h k n
 refine JF (vN a) (vN b) hf fun k hk=>?_
 have ha:yx a k≠[]:=fun e=>hk (by rw[e];exact JJ)
 have hb:yx b k≠[]:=fun e=>hk (by rw[hf,e];exact JJ)
 exact⟨fun _=>Zm hb,fun _=>Zm ha⟩
theorem Canon.ext{a b:List PT}(ha:Canon a)(hb:Canon b)(h:∀ k n,vA a k n=vA b k n):a=b:=by rw[ha.eq_norm,hb.eq_norm];exact Vu h
theorem vT{c:List PT}(h:Canon c):zj c=c:=h.eq_norm.symm
theorem uGa(a b:List PT):zj (a++b)=opC (·||·) a b:=(yf _).ext (wi rfl a b) fun k n=>by rw[yz,Yo,uE rfl]
theorem JL : Canon []:=⟨List.Pairwise.nil,fun p h=>by simp at h⟩
theorem wga{c:List PT}(h:Canon c)(h2:∀ k n,vA c k n=false):c=[]:=h.ext JL fun k n=>by rw[h2];rfl
theorem XU(c:List PT):decide (c=zj c)=true↔Canon c:=by
 rw[decide_eq_true_iff];exact⟨fun h=>by rw[h];exact yf c,fun h=>h.eq_norm⟩
theorem uR(c:List PT):(zj c).length<=c.length:=Nat.le_trans (JG _ _) (xra c)
theorem uHa(op:Bool->Bool->Bool)(a b:List PT):(opC op a b).length<=a.length+b.length:=Nat.le_trans (JG _ _) (by have:=xra (a++b);simpa using this)
theorem sum_le{ks:List Int}{f g:Int->Nat}(h:∀ k,f k<=g k):(ks.map f).sum<=(ks.map g).sum:=by
 induction ks with
 | nil=>simp
 | cons k r ih=>have:=h k;simp;omega
theorem uIa(ks:List Int)(f g:Int->Nat):(ks.map fun k=>2*(f k+g k)).sum=2*((ks.map f).sum+(ks.map g).sum):=by
 induction ks with
 | nil=>rfl
 | cons k r ih=>simp;omega
theorem uJa{op:Bool->Bool->Bool}(h0:op false false=false)(a b:List PT):vM (opC op a b)<=2*(vM a+vM b):=by
 unfold opC;rw[JH];refine Nat.le_trans (sum_le fun k=>(R.yE op h0 (yx a k) (yx b k)).2.2) ?_;rw[uIa];have h1:=Qj a (WS (a++b)) (YL _);have h2:=Qj b (WS (a++b)) (YL _);omega
theorem uS(c:List PT):vM (zj c)<=2*vM c:=by
 unfold zj;rw[JH];refine Nat.le_trans (sum_le (g:=fun k=>2*((yx c k).length+0)) fun k=>by have:=R.ZS (yx c k);omega) ?_;rw[uIa];have h1:=Qj c (WS c) (YL _);have h2:=Qi (WS c);omega
theorem get_grow(l:List (Int×List RN)):∀ (m:List (Int×List RN)) (k:Int),AL.getZ (AL.grow m l) k []=AL.getZ m k []++(l.filter fun x=>decide (x.1=k)).flatMap (·.2):=by
 induction l with
 | nil=>intro m k;simp[AL.grow]
 | cons x r ih=>
  intro m k;show AL.getZ (AL.grow (AL.set m x.1 (AL.getZ m x.1 []++x.2)) r) k []=_;rw[ih,AL.getZ_set,List.filter_cons]
  by_cases h:x.1=k
  ·subst h;simp
  ·simp[h]
theorem wha(l:List (Int×List RN)):∀ m:List (Int×List RN),(m.map (·.1)).Nodup->((AL.grow m l).map (·.1)).Nodup:=by
 induction l with
 | nil=>intro m h;exact h
 | cons x r ih=>intro m h;exact ih _ (AL.nodup_set h _ _)
theorem len_grow(l:List (Int×List RN)):∀ m:List (Int×List RN),(AL.grow m l).length<=m.length+l.length:=by
 induction l with
 | nil=>intro m;exact Nat.le_refl _
 | cons x r ih=>
  intro m;have h1:=ih (AL.set m x.1 (AL.getZ m x.1 []++x.2));have h2:=AL.len_set m x.1 (AL.getZ m x.1 []++x.2);show(AL.grow (AL.set m x.1 (AL.getZ m x.1 []++x.2)) r).length<=_;simp only[List.length_cons];omega
theorem key_grow(l:List (Int×List RN)):∀ (m:List (Int×List RN)) (k:Int),k∈(AL.grow m l).map (·.1)->k∈m.map (·.1)\/∃ x∈l,x.1=k:=by
 induction l with
 | nil=>intro m k h;exact .inl h
 | cons x r ih=>
  intro m k h;rcases ih _ k h with h | ⟨y,hy,e⟩
  ·rw[AL.keys_set] at h
   split at h
   ·exact .inl h
   ·rcases List.mem_append.1 h with h | h
    ·exact .inl h
    ·exact .inr ⟨x,by simp,(List.mem_singleton.1 h).symm⟩
  ·exact .inr ⟨y,by simp[hy],e⟩
def vk(c:List PT):List (Int×List RN):=AL.grow [] (c.filterMap zu)
theorem vg(c:List PT)(k:Int):AL.getZ (vk c) k []=yx c k:=by
 unfold vk;rw[get_grow];show[]++_=_;rw[List.nil_append]
 induction c with
 | nil=>rfl
 | cons p r ih=>
  rw[ZT,<- ih,List.filterMap_cons]
  by_cases h0:0 < p.dev
  ·have e:zu p=some (p.dev,p.runs):=by simp[zu,h0]
   rw[e];simp only[List.filter_cons]
   by_cases h:p.dev=k
   ·subst h;simp[h0]
   ·simp[h]
  ·have e:zu p=none:=by simp[zu,h0]
   rw[e,if_neg (by rintro⟨h1,h2⟩;omega)];rfl
theorem uC(c:List PT):((vk c).map (·.1)).Nodup:=wha _ _ (by simp)
theorem xta(c:List PT):(vk c).length<=c.length:=by
 have h1:=len_grow (c.filterMap zu) [];have h2:=List.length_filterMap_le zu c;unfold vk;simp at h1;omega
theorem told_pos{c:List PT}{k:Int}(h:k∈(vk c).map (·.1)):0 < k/\k∈WS c:=by
 rcases key_grow _ _ _ h with h | ⟨x,hx,rfl⟩
 ·simp at h
 ·rw[List.mem_filterMap] at hx;obtain⟨p,hp,hx⟩:=hx;unfold zu at hx
  split at hx
  ·rename_i h0;cases hx;exact⟨h0,vf.2 ⟨⟨p,hp,rfl⟩,h0⟩⟩
  ·cases hx
theorem Zk{c:List PT}{e:Int×List RN}(h:e∈vk c):e.2=yx c e.1/\0 < e.1/\e.1∈WS c:=by
 have h1:=AL.mem_get (uC c) (k:=e.1) (v:=e.2) h;have h2:=vg c e.1;unfold AL.getZ at h2;rw[h1] at h2;exact⟨h2,told_pos (List.mem_map.2 ⟨e,h,rfl⟩)⟩
theorem uKa{c:List PT}{k:Int}(h:yx c k≠[]):(k,yx c k)∈vk c:=by
 have h2:=vg c k;unfold AL.getZ at h2
 cases hg:AL.get (vk c) k with
 | none=>rw[hg] at h2;exact absurd h2.symm h
 | some v=>rw[hg] at h2;simp only[Option.getD_some] at h2;subst h2;exact AL.get_mem hg
theorem xua(c:List PT):((c.filterMap zu).map fun x=>x.2.length).sum<=vM c:=by
 induction c with
 | nil=>simp
 | cons p r ih=>
  have e:vM (p::r)=p.runs.length+vM r:=by simp[vM]
  rw[List.filterMap_cons]
  by_cases h0:0 < p.dev
  ·have e2:zu p=some (p.dev,p.runs):=by simp[zu,h0]
   rw[e2];simp only[List.map_cons,List.sum_cons];omega
  ·have e2:zu p=none:=by simp[zu,h0]
   rw[e2];simp only;omega
def Sm(c:List PT):Prop:=c.length<=10000000000/\vM c<=10000000000
theorem UV(c:List PT)(h:Sm c):ud c=pure (vk c):=by
 unfold ud;rw[zI]
 ·rfl
 ·have:=xua c;refine⟨by have:=h.1;omega,?_⟩;have:=h.2;omega
theorem xva(m:List (Int×List RN))(f:Int->List RN)(ks:List Int)(hl:m.length<=1000000000000)(hr:∀ e∈m,e.2.length<=1000000000000)(hn:(m.map (·.1)).Nodup)(hs:ks.Pairwise (· < ·))(h1:∀ e∈m,R.nrm e.2≠[]->e.1∈ks/\R.nrm e.2=f e.1)(h2:∀ k∈ks,f k≠[]->∃ r,(k,r)∈m/\R.nrm r=f k):ww m=pure (yo f ks):=by
 unfold ww;have hall:∀ Q:List PT->Prop,(∀ l:List (Int×List RN),l.Perm m->Q ((l.filter fun e=>decide (R.nrm e.2≠[])).map fun e=>(⟨e.1,R.nrm e.2⟩:PT)))->(loop (Zd m) ([],([]:List PT))).wp Q:=by
  intro Q hQ;refine M.loopM (body:=Zd m) m (fun L (t:List PT)=>(L,t)) (fun t e=>(xx e.2).det.bind fun v=>if 0 < v.length then yt ((t.length+1)*32<=140737488355328) (pure (t++[(⟨e.1,v⟩:PT)])) else pure t) (fun t=>pure t)
   (fun l t=>t=((l.filter fun e=>decide (R.nrm e.2≠[])).map fun e=>(⟨e.1,R.nrm e.2⟩:PT))) Q (fun L t hL=>?_) (fun l t y ht hlen hy=>?_) (fun l t hp ht=>?_) [] rfl
  ·unfold Zd;show yt _ ((nxt _ _).bind _)=yt _ ((nxt _ _).bind _);refine congrArg (fun k=>yt _ ((nxt _ _).bind k)) (funext fun o=>?_)
   cases o with
   | none=>rfl
   | some i=>
    refine congrArg (fun k=>(idx m (Int.ofNat i)).bind k) (funext fun y=>?_);rw[Ju];refine congrArg (fun k=>(xx y.2).det.bind k) (funext fun v=>?_);rw[xB]
    by_cases h:0 < v.length
    ·rw[if_pos (by omega),if_pos h];rfl
    ·rw[if_neg (by omega),if_neg h];rfl
  ·have hle:=List.length_filter_le (fun e:Int×List RN=>decide (R.nrm e.2≠[])) l;have htl:t.length<=l.length:=by rw[ht,List.length_map];exact hle
   rw[R.UU y.2 (hr y hy),zB,zA];refine⟨if R.nrm y.2=[] then t else t++[⟨y.1,R.nrm y.2⟩],?_,?_⟩
   ·by_cases h:R.nrm y.2=[]
    ·rw[if_neg (by rw[h];simp),if_pos h]
    ·rw[if_pos (by rw[List.length_pos_iff];exact h),if_neg h,zI (by omega)]
   ·subst ht;rw[List.filter_append,List.map_append]
    by_cases h:R.nrm y.2=[] <;> simp[h]
  ·subst ht;exact hQ l hp
 refine ux (hall _ fun l hp=>?_);show(yt _ _).wp _;have hll:=hp.length_eq;have hle:=List.length_filter_le (fun e:Int×List RN=>decide (R.nrm e.2≠[])) l;have hmem:∀ d:PT,d∈((l.filter fun e=>decide (R.nrm e.2≠[])).map fun e=>(⟨e.1,R.nrm e.2⟩:PT))↔d∈yo f ks:=by
  intro d;rw[ZU,List.mem_map]
  constructor
  ·rintro⟨e,he,rfl⟩;rw[List.mem_filter,hp.mem_iff] at he;have h0:R.nrm e.2≠[]:=by simpa using he.2
   obtain⟨h3,h4⟩:=h1 e he.1 h0;exact⟨h3,h0,h4⟩
  ·rintro⟨h3,h4,h5⟩;obtain⟨r,h6,h7⟩:=h2 d.dev h3 (by rw[<- h5];exact h4);refine⟨(d.dev,r),?_,by show(⟨d.dev,R.nrm r⟩:PT)=d;rw[h7,<- h5]⟩;rw[List.mem_filter,hp.mem_iff];refine⟨h6,?_⟩;simp only[decide_eq_true_eq];rw[h7,<- h5];exact h4
 have hnd:((l.filter fun e=>decide (R.nrm e.2≠[])).map fun e=>(⟨e.1,R.nrm e.2⟩:PT)).Pairwise (fun x y=>x.dev≠y.dev):=by
  rw[List.pairwise_map];have:l.Pairwise (fun x y=>x.1≠y.1):=by
   have:=(hp.map (·.1)).nodup_iff.2 hn;exact List.pairwise_map.1 this
  exact(this.filter _)
 refine⟨by simp only[List.length_map];omega,⟨?_,fun l' ⟨hp',hs'⟩=>?_⟩⟩
 ·refine⟨yo f ks,?_,?_⟩
  ·refine(List.perm_ext_iff_of_nodup ?_ ?_).2 fun d=>(hmem d).symm
   ·exact(uD hs).imp fun {a b} h e=>by subst e;omega
   ·exact hnd.imp fun {a b} h e=>by subst e;exact h rfl
  ·exact(uD hs).imp fun {a b} h=>by simp[jc];omega
 ·show l'=_;refine jE ?_ (uD hs) fun d=>by rw[hp'.mem_iff];exact hmem d
  have hnd':=(hp'.pairwise_iff (fun {a b} h=>Ne.symm h)).2 hnd;exact(hs'.and hnd').imp fun {a b} ⟨h3,h4⟩=>by simp[jc] at h3;omega
theorem qP(c:List PT)(h:Sm c):ww (vk c)=pure (zj c):=by
 refine xva _ _ _ (by have:=xta c;have:=h.1;omega) (fun e he=>?_) (uC c) (vN c) (fun e he h0=>?_) (fun k hk h0=>?_)
 ·rw[(Zk he).1];have:=wh c e.1;have:=h.2;omega
 ·obtain⟨h1,h2,h3⟩:=Zk he;exact⟨h3,by rw[h1]⟩
 ·exact⟨_,uKa (fun e=>h0 (by rw[e];exact JJ)),rfl⟩
theorem Ws(c:List PT)(h:Sm c):vW c=pure (zj c):=by
 unfold vW;rw[UV c h,zB,zA,qP c h,zB,zA]
theorem Runs_eq(c:List PT)(k:Int)(h:Sm c):Un c k=pure (R.nrm (yx c k)):=by
 unfold Un;rw[UV c h,zB,zA,vg,R.UU _ (by have:=wh c k;have:=h.2;omega),zB,zA]
theorem qQ(c:List PT)(d:DT)(h:Sm c):XH c d=pure (vA c d.dev d.n):=by
 unfold XH;rw[xB]
 by_cases h0:0 < d.dev
 ·rw[if_pos h0,Runs_eq c _ h,zB,zA,R.has_eq _ _ (by have:=R.ZS (yx c d.dev);have:=wh c d.dev;have:=h.2;omega),zB,zA,zA,R.vi]
  rfl
 ·rw[if_neg h0,zA];show pure false=pure (R.yi (yx c d.dev) d.n);rw[Qh h0];rfl
def yk(l:List DT):List PT:=(l.filter V.yn).map fun d=>⟨d.dev,[⟨d.n,d.n⟩]⟩
theorem goodB(d:DT):YB d=V.yn d:=by
 rw[Bool.eq_iff_iff,V.wI];simp[YB];omega
theorem ofF(d:DT):vv d=if V.yn d=true then some (d.dev,[⟨d.n,d.n⟩]) else none:=by unfold vv;rw[goodB]
theorem uLa(l:List DT):l.filterMap vv=(yk l).filterMap zu:=by
 induction l with
 | nil=>rfl
 | cons d r ih=>
  unfold yk at ih ⊢;rw[List.filterMap_cons,List.filter_cons,ofF]
  by_cases h:V.yn d=true
  ·rw[if_pos h,if_pos h,List.map_cons,List.filterMap_cons];have:zu ⟨d.dev,[⟨d.n,d.n⟩]⟩=some (d.dev,[⟨d.n,d.n⟩]):=by
    have:=V.wI.1 h;unfold zu;rw[if_pos (by show 0 < d.dev;omega)]
   rw[this,<- ih]
  ·rw[if_neg h,if_neg h,<- ih]
theorem uo(l:List DT):(yk l).length<=l.length:=by rw[yk,List.length_map];exact List.length_filter_le _ _
theorem Vv(l:List DT):vM (yk l)<=l.length:=by
 have:vM (yk l)=(yk l).length:=by
  unfold yk
  generalize l.filter V.yn=q
  induction q with
  | nil=>rfl
  | cons x r ih=>simp[vM] at ih ⊢;omega
 have:=uo l;omega
theorem sm_dots{l:List DT}(h:l.length<=10000000000):Sm (yk l):=⟨by have:=uo l;omega,by have:=Vv l;omega⟩
theorem has_dots(l:List DT)(k n:Int):vA (yk l) k n=true↔∃ d∈l,V.yn d=true/\d.dev=k/\d.n=n:=by
 induction l with
 | nil=>simp[vA,yk,yx,R.yi]
 | cons d r ih=>
  have e:yk (d::r)=(if V.yn d=true then [⟨d.dev,[⟨d.n,d.n⟩]⟩] else [])++yk r:=by
   unfold yk;rw[List.filter_cons]
   by_cases h:V.yn d=true <;> simp[h]
  rw[e,Yo,Bool.or_eq_true,ih];have h1:vA (if V.yn d=true then [⟨d.dev,[⟨d.n,d.n⟩]⟩] else []) k n=true↔V.yn d=true/\d.dev=k/\d.n=n:=by
   by_cases h:V.yn d=true
   ·have hg:=V.wI.1 h;rw[if_pos h];unfold vA;rw[ZT,jD,List.append_nil]
    by_cases hk:d.dev=k/\0 < k
    ·rw[if_pos hk,R.vh,R.xI];show(1<=d.n/\d.n<=d.n/\d.n<=281474976710655)/\d.n<=n/\n<=d.n↔_
     constructor
     ·intro h2;exact⟨h,hk.1,by omega⟩
     ·rintro⟨_,_,h3⟩;omega
    ·rw[if_neg hk]
     constructor
     ·intro h2;cases h2
     ·rintro⟨_,h2,_⟩;exact absurd ⟨h2,by omega⟩ hk
   ·rw[if_neg h]
    constructor
    ·intro h2;cases h2
    ·rintro⟨h2,_⟩;exact absurd h2 h
  rw[h1]
  constructor
  ·rintro(h2 | ⟨x,h2,h3⟩)
   ·exact⟨d,by simp,h2⟩
   ·exact⟨x,by simp[h2],h3⟩
  ·rintro⟨x,h2,h3⟩;rcases List.mem_cons.1 h2 with rfl | h2
   ·exact .inl h3
   ·exact .inr ⟨x,h2,h3⟩
theorem Of_eq(l:List DT)(h:l.length<=10000000000):xYa l=pure (zj (yk l)):=by
 unfold xYa;rw[uLa,zI]
 ·have:=qP (yk l) (sm_dots h);unfold vk at this;rw[this,zB,zA]
 ·have h1:=xua (yk l);have h2:=Vv l;exact⟨by omega,by omega⟩
theorem growC_eq(n:Int)(h0:0<=n)(h:n<=1000000000000):yr n=pure []:=by
 unfold yr;have e:IntKind.i64.wrap (n - IntKind.i64.wrap (0 - 0))=n:=by
  rw[jx (n:=0 - 0) (by omega) (by omega),jx (by omega) (by omega)];omega
 simp only[e,xB];rw[if_neg (by omega)]
 split
 ·rw[zI ⟨by omega,by omega⟩,zI ⟨by omega,by omega,by omega⟩];simp[zA]
 ·simp[zA]
theorem wia(a b:List PT)(h:a.length+b.length<=1000000000000):xA [a,b]=pure (a++b):=by
 unfold xA;have e1:zo [a,b] (0,0)=pure (.next ((a.length:Int),1)):=by
  unfold zo;have:IntKind.i64.wrap (0+(a.length:Int))=a.length:=by rw[jx (by omega) (by omega)];omega
  simp only[xB,WW (l:=[a,b]) (i:=0) (y:=a) (by omega) rfl,zA,this];rw[if_pos (by simp),if_neg (by omega),jx (by omega) (by omega)];rfl
 have e2:zo [a,b] ((a.length:Int),1)=pure (.next ((a.length:Int)+b.length,2)):=by
  unfold zo;have:IntKind.i64.wrap ((a.length:Int)+b.length)=a.length+b.length:=by rw[jx (by omega) (by omega)]
  simp only[xB,WW (l:=[a,b]) (i:=1) (y:=b) (by omega) rfl,zA,this];rw[if_pos (by simp),if_neg (by omega),jx (by omega) (by omega)];rfl
 have e3:zo [a,b] ((a.length:Int)+b.length,2)=pure (.done ((a.length:Int)+b.length)):=by
  unfold zo;simp
 have f1:zp [a,b] (0,[])=pure (.next (1,a)):=by
  unfold zp;simp only[xB,WW (l:=[a,b]) (i:=0) (y:=a) (by omega) rfl,zA];rw[if_pos (by simp),zI (by simp;omega),jx (by omega) (by omega)];rfl
 have f2:zp [a,b] (1,a)=pure (.next (2,a++b)):=by
  unfold zp;simp only[xB,WW (l:=[a,b]) (i:=1) (y:=b) (by omega) rfl,zA];rw[if_pos (by simp),zI (by omega),jx (by omega) (by omega)];rfl
 have f3:zp [a,b] (2,a++b)=pure (.done (a++b)):=by
  unfold zp;simp
 rw[yT e1,yT e2,yP e3,zA,growC_eq _ (by omega) (by omega),zB,zA,yT f1,yT f2,yP f3,zA]
theorem sm_app{a b:List PT}(ha:a.length+b.length<=10000000000)(hb:vM a+vM b<=10000000000):Sm (a++b):=⟨by rw[List.length_append];exact ha,by rw[WK];exact hb⟩
theorem uMa(a b:List PT)(h:Sm (a++b)):Xi a b=pure (opC (·||·) a b):=by
 unfold Xi;rw[wia a b (by have:=h.1;rw[List.length_append] at this;omega),zB,zA,Ws _ h,zB,zA,uGa]
theorem Add_eq(c:List PT)(l:List DT)(hl:l.length<=1000000000)(h1:c.length<=1000000000)(h2:vM c<=1000000000):UG c l=pure (opC (·||·) c (yk l)):=by
 unfold UG;have h3:=uo l;have h4:=Vv l;have h5:=uR (yk l);have h6:=uS (yk l);rw[Of_eq l (by omega),zB,zA,uMa _ _ (sm_app (by omega) (by omega)),zB,zA];refine congrArg pure ((wi rfl _ _).ext (wi rfl _ _) fun k n=>?_);rw[uE rfl,uE rfl,yz]
def zva(h:Int×List RN->List RN)(m:List (Int×List RN))(L:List Nat):List (Int×List RN):=m.zipIdx.map fun y=>if y.2∈L then (y.1.1,h y.1) else y.1
theorem um{h:Int×List RN->List RN}{m:List (Int×List RN)}{L:List Nat}{i:Nat}:(zva h m L)[i]?=(m[i]?).map fun e=>if i∈L then (e.1,h e) else e:=by
 unfold zva;rw[List.getElem?_map,List.getElem?_zipIdx]
 cases m[i]? <;> simp
theorem QY{h:Int×List RN->List RN}{m:List (Int×List RN)}{L:List Nat}:(zva h m L).length=m.length:=by simp[zva]
theorem set_at{m:List (Int×List RN)}(hn:(m.map (·.1)).Nodup){i:Nat}{e:Int×List RN}(hi:m[i]?=some e)(v:List RN):AL.set m e.1 v=m.set i (e.1,v):=by
 induction m generalizing i with
 | nil=>simp at hi
 | cons x r ih=>
  obtain⟨a,u⟩:=x;simp only[List.map_cons,List.nodup_cons] at hn
  cases i with
  | zero=>simp at hi;subst hi;simp[AL.set]
  | succ i=>
   simp at hi;have:a≠e.1:=fun q=>hn.1 (by rw[q];exact List.mem_map.2 ⟨e,List.mem_of_getElem? hi,rfl⟩)
   simp only[AL.set,this,if_false,List.set_cons_succ];rw[ih hn.2 hi]
theorem jz{h:Int×List RN->List RN}{m:List (Int×List RN)}{L:List Nat}:(zva h m L).map (·.1)=m.map (·.1):=by
 apply List.ext_getElem?;intro i;rw[List.getElem?_map,um,List.getElem?_map]
 cases m[i]? with
 | none=>rfl
 | some e=>simp only[Option.map_some];split <;> rfl
theorem uNa{h:Int×List RN->List RN}{m:List (Int×List RN)}(hn:(m.map (·.1)).Nodup){L:List Nat}{i:Nat}{e:Int×List RN}(hi:m[i]?=some e)(hL:i∉L):AL.set (zva h m L) e.1 (h e)=zva h m (L++[i]):=by
 have h1:(zva h m L)[i]?=some e:=by rw[um,hi];simp[hL]
 rw[set_at (by rw[jz];exact hn) h1];apply List.ext_getElem?;intro j;rw[List.getElem?_set,um,um]
 by_cases hj:i=j
 ·subst hj;have hlt:i < (zva h m L).length:=by rw[QY];exact(List.getElem?_eq_some_iff.1 hi).1
  rw[if_pos rfl,if_pos hlt,hi];simp
 ·rw[if_neg hj]
  cases m[j]? with
  | none=>rfl
  | some x=>simp[Ne.symm hj]
theorem updM_all{h:Int×List RN->List RN}{m:List (Int×List RN)}{L:List Nat}(hL:∀ i,i < m.length->i∈L):zva h m L=m.map fun e=>(e.1,h e):=by
 apply List.ext_getElem?;intro i;rw[um,List.getElem?_map]
 cases hi:m[i]? with
 | none=>rfl
 | some e=>simp[hL i (List.getElem?_eq_some_iff.1 hi).1]
theorem has_key{m:List (Int×List RN)}{k:Int}(h:k∈m.map (·.1)):AL.has m k=true:=by
 unfold AL.has
 cases hg:AL.get m k with
 | none=>exact absurd h (AL.get_none.1 hg)
 | some v=>rfl
theorem z3a(body:List (Int×List RN)->List Nat×List (Int×List RN)->M (Step (List Nat×List (Int×List RN)) (List (Int×List RN))))(do_:List RN->List RN->M (List RN))(F:List RN->List RN->List RN)(m y:List (Int×List RN))(hn:(m.map (·.1)).Nodup)
  (hb:∀ L v,body y (L,v)=yt (∀ i∈L,i < v.length) ((nxt v.length L).bind fun o=>match o with | none=>pure (.done v) | some j=>(idx v (Int.ofNat j)).bind fun kv=>(do_ kv.2 (AL.getZ y kv.1 [])).det.bind fun r=>yt (AL.has v kv.1=true) (pure (.next (L++[j],AL.set v kv.1 r)))))
  (hdo:∀ e∈m,do_ e.2 (AL.getZ y e.1 [])=pure (F e.2 (AL.getZ y e.1 []))):loop (body y) ([],m)=pure (m.map fun e=>(e.1,F e.2 (AL.getZ y e.1 []))):=by
 refine ux ?_;have:=loopN (body:=body y) m.length (fun L (v:List (Int×List RN))=>(L,v)) (fun L v=>v=zva (fun e=>F e.2 (AL.getZ y e.1 [])) m L) (fun r=>r=m.map fun e=>(e.1,F e.2 (AL.getZ y e.1 []))) (fun L v hv hL hlt=>by
  have hlen:v.length=m.length:=by rw[hv];exact QY
  refine⟨fun o=>match o with | none=>pure (.done v) | some j=>(idx v (Int.ofNat j)).bind fun kv=>(do_ kv.2 (AL.getZ y kv.1 [])).det.bind fun r=>yt (AL.has v kv.1=true) (pure (.next (L++[j],AL.set v kv.1 r))),?_,?_,?_⟩
  ·rw[hb,hlen]
  ·intro hall;show v=_;rw[hv];exact updM_all hall
  ·intro i hi hiL;have hm:=List.getElem?_eq_getElem hi;have hvi:v[i]?=some m[i]:=by rw[hv,um,hm];simp[hiL]
   refine⟨AL.set v (m[i]).1 (F (m[i]).2 (AL.getZ y (m[i]).1 [])),?_,?_⟩
   ·show(idx v (Int.ofNat i)).bind _=_;rw[show(Int.ofNat i)=(i:Int) from rfl,zN hvi,zA,hdo _ (List.getElem_mem hi),zB,zA,zI];refine has_key ?_;rw[hv,jz];exact List.mem_map.2 ⟨m[i],List.getElem_mem hi,rfl⟩
   ·rw[hv];exact uNa hn hm hiL) m (by
  apply List.ext_getElem?;intro i;rw[um]
  cases m[i]? <;> simp)
 exact this
theorem xwa{op:Bool->Bool->Bool}(h0:op false false=false)(a b:List RN):R.nrm (R.Zl op a b)=R.Zl op a b:=R.Qf (R.yE op h0 a b).1
theorem qR{op:Bool->Bool->Bool}(h0:op false false=false)(hr:∀ x,op false x=false)(a b:List PT)(ha:Sm a)(hb:Sm b) :
  ww ((vk a).map fun e=>(e.1,R.Zl op e.2 (AL.getZ (vk b) e.1 [])))=pure (opC op a b):=by
 have hlenR:∀ x y:List RN,(R.Zl op x y).length<=2*(x.length+y.length):=fun x y=>(R.yE op h0 x y).2.2
 refine xva _ _ _ (by have:=xta a;have:=ha.1;simp;omega) (fun e he=>?_) (by rw[List.map_map];exact uC a) (vN _) (fun e he hne=>?_) (fun k hk hne=>?_)
 ·obtain⟨x,hx,rfl⟩:=List.mem_map.1 he;have h1:=hlenR x.2 (AL.getZ (vk b) x.1 []);rw[(Zk hx).1,vg] at h1;have:=wh a x.1;have:=wh b x.1;have:=ha.2;have:=hb.2;show(R.Zl op x.2 (AL.getZ (vk b) x.1 [])).length<=_;rw[(Zk hx).1,vg];omega
 ·obtain⟨x,hx,rfl⟩:=List.mem_map.1 he;obtain⟨h1,h2,h3⟩:=Zk hx;refine⟨?_,?_⟩
  ·show x.1∈_;obtain⟨⟨p,hp,hd⟩,_⟩:=vf.1 h3;exact vf.2 ⟨⟨p,List.mem_append_left _ hp,hd⟩,h2⟩
  ·show R.nrm (R.Zl op x.2 (AL.getZ (vk b) x.1 []))=_;rw[xwa h0,vg,h1]
 ·have hra:yx a k≠[]:=fun e=>hne (by
   rw[e];exact R.Vq (R.yE op h0 _ _).1 trivial fun n=>by rw[(R.yE op h0 _ _).2.1];show op (R.yi [] n) _=_;exact hr _)
  refine⟨R.Zl op (yx a k) (AL.getZ (vk b) k []),List.mem_map.2 ⟨(k,yx a k),uKa hra,rfl⟩,?_⟩;rw[xwa h0,vg]
theorem uOa(a b:List PT)(ha:Sm a)(hb:Sm b):Xh a b=pure (opC (·&&·) a b):=by
 unfold Xh xn;rw[UV a ha,zB,zA,UV b hb,zB,zA,z3a uL YA (R.Zl (·&&·)) (vk a) (vk b) (uC a) (fun L v=>rfl) (fun e he=>?_),zA,qR rfl (fun _=>rfl) a b ha hb,zB,zA,zB,zA];rw[(Zk he).1,vg];have:=wh a e.1;have:=wh b e.1;have:=ha.2;have:=hb.2;exact R.xqa _ _ (by omega) (by omega)
theorem Minus_eq(a b:List PT)(ha:Sm a)(hb:Sm b):VT a b=pure (opC (fun x y=>x&&!y) a b):=by
 unfold VT vK;rw[UV a ha,zB,zA,UV b hb,zB,zA,z3a vo YD (R.Zl (fun x y=>x&&!y)) (vk a) (vk b) (uC a) (fun L v=>rfl) (fun e he=>?_),zA,qR rfl (fun _=>rfl) a b ha hb,zB,zA,zB,zA];rw[(Zk he).1,vg];have:=wh a e.1;have:=wh b e.1;have:=ha.2;have:=hb.2;exact R.minus_eq _ _ (by omega) (by omega)
theorem z4a(a b:List PT)(ha:Sm a)(hb:Sm b):YE a b=pure (decide (opC (fun x y=>x&&!y) a b=[])):=by
 unfold YE;rw[Minus_eq a b ha hb,zB,zA];refine congrArg pure ?_
 cases opC (fun x y=>x&&!y) a b with
 | nil=>rfl
 | cons p r=>simp;omega
theorem partEq(x y:PT):(decide (x.dev=y.dev)&&decide (x.runs=y.runs))=decide (x=y):=by
 rw[Bool.eq_iff_iff]
 cases x;cases y
 simp
theorem eqP_eq(a b:List PT)(ha:a.length<=1000000000000)(hr:∀ p∈a,p.runs.length<=1000000000000):zi a b=pure (decide (a=b)):=by
 unfold zi
 by_cases hl:(a.length:Int)=b.length
 ·simp only[hl,decide_true,Bool.not_true,cond_false];have:=wH (body:=zd a b) a (fun i=>(i:Int)) (fun i x=>decide (b[i]?=some x)) (.brk ()) (.ret false) (fun i x hx hi=>by
   have hb:i < b.length:=by omega
   have hby:=List.getElem?_eq_getElem hb;unfold zd jf;have h1:decide ((i:Int) < (a.length:Int))=true:=by simpa using hi
   simp only[h1,cond_true,zN hx,zN hby,zA,R.seq_eq x.runs _ (hr x (List.mem_of_getElem? hx)),zB,zn,partEq,yS (show i < 9223372036854775807 by omega)];rw[hby]
   by_cases hxy:x=b[i] <;> simp[hxy,eq_comm,zA]) (by unfold zd;simp)
  rw[show(0:Int)=((0:Nat):Int) from rfl,this];have hiff:(a.zipIdx.all fun y=>decide (b[y.2]?=some y.1))=decide (a=b):=by
   rw[Bool.eq_iff_iff,List.all_eq_true,decide_eq_true_eq]
   constructor
   ·intro h;apply List.ext_getElem?;intro i
    by_cases hi:i < a.length
    ·have:=h (a[i],i) (by rw[List.mem_zipIdx_iff_getElem?];exact List.getElem?_eq_getElem hi);simp only[decide_eq_true_eq] at this;rw[this,List.getElem?_eq_getElem hi]
    ·rw[List.getElem?_eq_none (by omega),List.getElem?_eq_none (by omega)]
   ·rintro rfl y hy;rw[List.mem_zipIdx_iff_getElem?] at hy;simpa using hy
  rw[hiff]
  by_cases h:a=b <;> simp[h,exk,zA]
 ·have:¬ a=b:=fun e=>hl (by rw[e])
  simp[hl,this]
theorem eq_eq(a b:List PT)(ha:a.length<=1000000000000)(hr:∀ p∈a,p.runs.length<=1000000000000):zXa a b=pure (decide (a=b)):=by
 unfold zXa;rw[eqP_eq a b ha hr,zB,zA]
theorem z5a{c:List PT}:∀ p∈c,p.runs.length<=vM c:=by
 induction c with
 | nil=>intro p hp;simp at hp
 | cons q r ih=>
  intro p hp;have e:vM (q::r)=q.runs.length+vM r:=by simp[vM]
  rcases List.mem_cons.1 hp with rfl | hp
  ·omega
  ·have:=ih p hp;omega
theorem Same_eq(a b:List PT)(ha:Sm a)(hb:Sm b):Uo a b=pure (decide (zj a=zj b)):=by
 unfold Uo;have h1:=uR a;have h2:=uS a;have h3:=ha.1;have h4:=ha.2;rw[Ws a ha,zB,zA,Ws b hb,zB,zA,eq_eq _ _ (by omega) (fun p hp=>by have:=z5a p hp;omega),zB,zA]
theorem Zt(c:List PT)(h:Sm c):Xn c=pure (decide (c=zj c)):=by
 unfold Xn;rw[Ws c h,zB,zA,eq_eq _ _ (by have:=h.1;omega) (fun p hp=>by have:=z5a p hp;have:=h.2;omega),zB,zA]
theorem rEq_eq(a b:List PT)(ha:a.length<=1000000000000)(hr:∀ p∈a,p.runs.length<=1000000000000):qA a b=pure (decide (a=b)):=by
 unfold qA
 by_cases hl:(a.length:Int)=b.length
 ·simp only[hl,decide_true,Bool.not_true,cond_false];have:=wH (body:=Vd a b) a (fun i=>(i:Int)) (fun i x=>decide (b[i]?=some x)) (.brk ()) (.ret false) (fun i x hx hi=>by
   have hb:i < b.length:=by omega
   have hby:=List.getElem?_eq_getElem hb;unfold Vd;have h1:decide ((i:Int) < (a.length:Int))=true:=by simpa using hi
   simp only[h1,cond_true,zN hx,zN hby,zA,R.req_eq x.runs _ (hr x (List.mem_of_getElem? hx)),zB,yS (show i < 9223372036854775807 by omega)];rw[hby];have he:=partEq x b[i]
   by_cases hd:x.dev=(b[i]).dev
   ·by_cases hq:x.runs=(b[i]).runs
    ·simp only[hd,hq,decide_true,Bool.and_self,eq_comm (a:=true),decide_eq_true_eq] at he;simp[hd,hq,he,zA]
    ·have hne:¬ x=b[i]:=fun e=>hq (by rw[e])
     have hne2:¬ b[i]=x:=fun e=>hne e.symm
     simp[hd,hq,hne2,zA]
   ·have hne2:¬ b[i]=x:=fun e=>hd (by rw[e])
    simp[hd,hne2,zA]) (by unfold Vd;simp)
  rw[show(0:Int)=((0:Nat):Int) from rfl,this];have hiff:(a.zipIdx.all fun y=>decide (b[y.2]?=some y.1))=decide (a=b):=by
   rw[Bool.eq_iff_iff,List.all_eq_true,decide_eq_true_eq]
   constructor
   ·intro h;apply List.ext_getElem?;intro i
    by_cases hi:i < a.length
    ·have:=h (a[i],i) (by rw[List.mem_zipIdx_iff_getElem?];exact List.getElem?_eq_getElem hi);simp only[decide_eq_true_eq] at this;rw[this,List.getElem?_eq_getElem hi]
    ·rw[List.getElem?_eq_none (by omega),List.getElem?_eq_none (by omega)]
   ·rintro rfl y hy;rw[List.mem_zipIdx_iff_getElem?] at hy;simpa using hy
  rw[hiff]
  by_cases h:a=b <;> simp[h,exk,zA]
 ·have:¬ a=b:=fun e=>hl (by rw[e])
  simp[hl,this]
theorem rEq_sm(a b:List PT)(h:Sm a):qA a b=pure (decide (a=b)):=rEq_eq a b (by have:=h.1;omega) fun p hp=>by have:=z5a p hp;have:=h.2;omega
theorem xxa(u v:List RN):R.Zl (·||·) (R.nrm u) v=R.nrm (u++v):=R.Vq (R.yE _ rfl _ _).1 (R.Yx _) fun n=>by rw[(R.yE _ rfl _ _).2.1,R.vi,R.vi,R.un]
theorem Ql(c:List PT)(k:Int)(hk:0<=k)(h:c.length<=1000000000)(ht:vM c<=1000000000):Xu c k=pure (R.nrm (yx c k)):=by
 unfold Xu;have hpre:∀ i,(yx (c.take i) k).length<=1000000000:=fun i=>by
  have h1:=wh (c.take i) k;have h2:vM (c.take i)<=vM c:=by
   conv=>rhs;rw[<- List.take_append_drop i c]
   rw[WK];omega
  omega
 have:=Yj (body:=YX c k) c (fun i (t:List RN)=>(t,(i:Int))) (fun t p=>if p.dev=k/\0 < k then R.Zl (·||·) t p.runs else t) (fun t=>pure t) (fun i t=>t=R.nrm (yx (c.take i) k)) (fun i x t hx hi ht2=>by
  have h1:decide ((i:Int) < (c.length:Int))=true:=by simpa using hi
  have hxl:x.runs.length<=1000000000:=by have:=z5a x (List.mem_of_getElem? hx);omega
  have htl:t.length<=2000000000:=by have:=R.ZS (yx (c.take i) k);have:=hpre i;rw[ht2];omega
  unfold YX;simp only[h1,cond_true,zN hx,zA,yS (show i < 9223372036854775807 by omega),xB];have hnext:(if x.dev=k/\0 < k then R.Zl (·||·) t x.runs else t)=R.nrm (yx (c.take (i+1)) k):=by
   rw[List.take_add_one,hx,Vt,Option.toList,ZT,jD,List.append_nil,ht2]
   split
   ·exact xxa _ _
   ·rw[List.append_nil]
  refine⟨?_,hnext⟩
  by_cases hd:x.dev=k
  ·by_cases h0:k=0
   ·have:¬ (x.dev=k/\0 < k):=by omega
    rw[if_neg this,if_pos hd];simp[h0,zA]
   ·rw[if_pos (show x.dev=k/\0 < k from ⟨hd,by omega⟩),if_pos hd];simp only[h0,decide_false,Bool.not_false,zA,cond_true];rw[R.xoa _ _ (by omega),zB,zA,zA]
  ·rw[if_neg (fun(q:x.dev=k/\0 < k)=>hd q.1),if_neg hd]
   rfl) (fun t _=>by unfold YX;simp[zA]) [] (by rw[List.take_zero,jD,JJ])
 rw[show(([]:List RN),(0:Int))=([],((0:Nat):Int)) from rfl,this];have key:∀ (l:List PT) (u:List RN),l.foldl (fun t p=>if p.dev=k/\0 < k then R.Zl (·||·) t p.runs else t) (R.nrm u)=R.nrm (u++yx l k):=by
  intro l
  induction l with
  | nil=>intro u;simp[yx]
  | cons p r ih=>
   intro u;rw[List.foldl_cons,ZT]
   by_cases hp:p.dev=k/\0 < k
   ·rw[if_pos hp,if_pos hp,xxa,ih,List.append_assoc]
   ·rw[if_neg hp,if_neg hp,ih,List.nil_append]
 have h2:=key c [];rw[JJ,List.nil_append] at h2;rw[h2];rfl
def y0a(c:List PT):List Int:=c.foldl (fun l p=>V.Ja l p.dev) []
theorem Qm(c:List PT):∀ l:List Int,l.Pairwise (· < ·)->(c.foldl (fun l p=>V.Ja l p.dev) l).Pairwise (· < ·)/\(∀ k,k∈c.foldl (fun l p=>V.Ja l p.dev) l↔k∈l\/∃ p∈c,p.dev=k)/\(c.foldl (fun l p=>V.Ja l p.dev) l).length<=l.length+c.length:=by
 induction c with
 | nil=>intro l h;simp[h]
 | cons p r ih=>
  intro l h;rw[List.foldl_cons];obtain⟨h1,h2,h3⟩:=ih _ (V.ZR h p.dev);refine⟨h1,fun k=>?_,by have:=V.Vo l p.dev;simp;omega⟩;rw[h2,V.jC]
  constructor
  ·rintro((rfl | h4) | ⟨x,h4,h5⟩)
   ·exact .inr ⟨p,by simp,rfl⟩
   ·exact .inl h4
   ·exact .inr ⟨x,by simp[h4],h5⟩
  ·rintro(h4 | ⟨x,h4,h5⟩)
   ·exact .inl (.inr h4)
   ·rcases List.mem_cons.1 h4 with rfl | h4
    ·exact .inl (.inl h5.symm)
    ·exact .inr ⟨x,h4,h5⟩
theorem JM(c:List PT):(y0a c).Pairwise (· < ·):=(Qm c [] List.Pairwise.nil).1
theorem xya{c:List PT}{k:Int}:k∈y0a c↔∃ p∈c,p.dev=k:=by
 have:=(Qm c [] List.Pairwise.nil).2.1 k;unfold y0a;rw[this];simp
theorem xza(c:List PT):(y0a c).length<=c.length:=by simpa[y0a] using (Qm c [] List.Pairwise.nil).2.2
theorem Vs(l:List Int):(V.WR l).length=l.length:=by simp[V.WR]
theorem rdevs_eq(a b:List PT)(h:a.length+b.length<=10000000000):Ut a b=pure (V.WR (y0a (a++b))):=by
 unfold Ut;have h1:=Yj (body:=YY a) a (fun i (l:List Int)=>(V.WR l,(i:Int))) (fun l p=>V.Ja l p.dev) (fun l=>pure (V.WR l)) (fun i l=>l.Pairwise (· < ·)/\l.length<=i) (fun i x l hx hi ⟨hs,hl⟩=>by
  have h1:decide ((i:Int) < (a.length:Int))=true:=by simpa using hi
  unfold YY;simp only[h1,cond_true,zN hx,zA,yS (show i < 9223372036854775807 by omega)];rw[V.UR _ _ (by rw[Vs];omega),zB,zA,V.xla hs];exact⟨rfl,V.ZR hs _,by have:=V.Vo l x.dev;omega⟩) (fun l _=>by unfold YY;simp[zA]) [] ⟨List.Pairwise.nil,by simp⟩
 have h2:=Yj (body:=ZF b) b (fun i (l:List Int)=>(V.WR l,(i:Int))) (fun l p=>V.Ja l p.dev) (fun l=>pure (V.WR l)) (fun i l=>l.Pairwise (· < ·)/\l.length<=a.length+i) (fun i x l hx hi ⟨hs,hl⟩=>by
  have h1:decide ((i:Int) < (b.length:Int))=true:=by simpa using hi
  unfold ZF;simp only[h1,cond_true,zN hx,zA,yS (show i < 9223372036854775807 by omega)];rw[V.UR _ _ (by rw[Vs];omega),zB,zA,V.xla hs];exact⟨rfl,V.ZR hs _,by have:=V.Vo l x.dev;omega⟩) (fun l _=>by unfold ZF;simp[zA]) (y0a a) ⟨JM a,by have:=xza a;omega⟩
 rw[show(([]:List DT),(0:Int))=(V.WR [],((0:Nat):Int)) from rfl,h1,zA];show(loop (ZF b) (V.WR (y0a a),((0:Nat):Int))).bind _=_;rw[h2,zA];unfold y0a;rw[List.foldl_append]
theorem Wr(op:Bool->Bool->Bool)(how:Int)(hop:∀ x y,op x y=if how=2 then (x&&!y) else if how=1 then (x&&y) else (x||y))(h0:op false false=false)(a b:List PT)(oa:∀ p∈a,0<=p.dev)(ob:∀ p∈b,0<=p.dev)(ha:a.length<=1000000000)(hb:b.length<=1000000000)(ta:vM a<=1000000000)(tb:vM b<=1000000000):UL a b how=pure (opC op a b):=by
 unfold UL;rw[rdevs_eq a b (by omega),zB,zA];have hlenA:∀ k,(R.nrm (yx a k)).length<=2000000000:=fun k=>by have:=R.ZS (yx a k);have:=wh a k;omega
 have hlenB:∀ k,(R.nrm (yx b k)).length<=2000000000:=fun k=>by have:=R.ZS (yx b k);have:=wh b k;omega
 have hop':∀ k,R.Zl op (R.nrm (yx a k)) (R.nrm (yx b k))=R.Zl op (yx a k) (yx b k):=fun k=>R.Vq (R.yE op h0 _ _).1 (R.yE op h0 _ _).1 fun n=>by rw[(R.yE op h0 _ _).2.1,(R.yE op h0 _ _).2.1,R.vi,R.vi]
 have hkey:∀ k∈y0a (a++b),0<=k:=fun k hk=>by
  obtain⟨p,hp,rfl⟩:=xya.1 hk;rcases List.mem_append.1 hp with hp | hp
  ·exact oa p hp
  ·exact ob p hp
 have hnd:(y0a (a++b)).length<=2000000000:=by have:=xza (a++b);rw[List.length_append] at this;omega
 have hgo:=Yj (body:=Xz (V.WR (y0a (a++b))) a b how) (y0a (a++b)) (fun i (t:List PT)=>((i:Int),t)) (fun t k=>if R.Zl op (yx a k) (yx b k)=[] then t else t++[⟨k,R.Zl op (yx a k) (yx b k)⟩]) (fun t=>pure t) (fun i t=>t.length<=i) (fun i k t hk hi hl=>by
  have h1:decide ((i:Int) < ((V.WR (y0a (a++b))).length:Int))=true:=by rw[Vs];simpa using hi
  have hx:(V.WR (y0a (a++b)))[i]?=some ⟨k,1⟩:=by simp[V.WR,hk]
  have hk0:0<=k:=hkey k (List.mem_of_getElem? hk);unfold Xz;simp only[h1,cond_true,zN hx,zA,Ql a k hk0 ha ta,Ql b k hk0 hb tb,zB,yS (show i < 9223372036854775807 by omega)];have hl1:=hlenA k;have hl2:=hlenB k;rw[R.xoa _ _ (by omega),zB,zA,R.rmeet_eq _ _ (by omega),zB,zA,R.v8a _ _ (by omega),zB,zA];have hz:(cond (decide (how=1)) (pure (R.Zl (·&&·) (R.nrm (yx a k)) (R.nrm (yx b k)))) (pure (R.Zl (·||·) (R.nrm (yx a k)) (R.nrm (yx b k)))):M (List RN)).bind (fun z=>cond (decide (how=2)) (pure (R.Zl (fun x y=>x&&!y) (R.nrm (yx a k)) (R.nrm (yx b k)))) (pure z))=pure (R.Zl op (yx a k) (yx b k)):=by
   rw[<- hop' k]
   by_cases h2:how=2
   ·subst h2;have:op=fun x y=>x&&!y:=by funext x y;rw[hop];simp
    rw[this];rfl
   ·by_cases h1:how=1
    ·subst h1;have:op=fun x y=>x&&y:=by funext x y;rw[hop];simp
     rw[this];rfl
    ·have:op=fun x y=>x||y:=by funext x y;rw[hop];simp[h1,h2]
     rw[this];simp[h1,h2,zA]
  rw[<- Ju,hz,zA];have hsl:=(R.yE op h0 (yx a k) (yx b k)).2.2
  by_cases hz0:R.Zl op (yx a k) (yx b k)=[]
  ·rw[if_pos hz0];simp only[hz0,List.length_nil];exact⟨rfl,by omega⟩
  ·rw[if_neg hz0];have:decide (0 < ((R.Zl op (yx a k) (yx b k)).length:Int))=true:=by
    have:=List.length_pos_iff.2 hz0;simp;omega
   rw[this,cond_true,zI (by simp;omega)];exact⟨rfl,by simp;omega⟩) (fun t _=>by unfold Xz;rw[Vs];simp[zA]) [] (by simp)
 rw[show((0:Int),([]:List PT))=(((0:Nat):Int),[]) from rfl,hgo,zA];have key:∀ (ks:List Int) (t:List PT),ks.foldl (fun t k=>if R.Zl op (yx a k) (yx b k)=[] then t else t++[⟨k,R.Zl op (yx a k) (yx b k)⟩]) t=t++yo (fun k=>R.Zl op (yx a k) (yx b k)) ks:=by
  intro ks
  induction ks with
  | nil=>intro t;simp[yo]
  | cons k ks ih=>
   intro t;rw[List.foldl_cons,ih]
   by_cases h:R.Zl op (yx a k) (yx b k)=[]
   ·rw[if_pos h];simp[yo,h]
   ·rw[if_neg h];simp[yo,h]
 rw[key,List.nil_append];refine congrArg pure (JF (JM _) (vN _) (fun _=>rfl) fun k hk=>?_);have hr:yx (a++b) k≠[]:=fun e=>hk (by
  rw[Vt] at e;have:=List.append_eq_nil_iff.1 e;rw[this.1,this.2];exact xsa h0)
 exact⟨fun _=>Zm hr,fun _=>xya.2 (vf.1 (Zm hr)).1⟩
structure Ok(c:List PT):Prop where
 dev:∀ p∈c,0<=p.dev
 len:c.length<=1000000000
 tot:vM c<=1000000000
theorem Ok.sm{c:List PT}(h:Ok c):Sm c:=⟨by have:=h.len;omega,by have:=h.tot;omega⟩
section
variable(a b:List PT)(ha:Ok a)(hb:Ok b)
include ha hb
theorem Qn : YZ a b=pure (opC (·||·) a b):=by
 unfold YZ;rw[Wr (·||·) 0 (fun x y=>by simp) rfl a b ha.dev hb.dev ha.len hb.len ha.tot hb.tot,zB,zA]
theorem rMeet_eq : Uz a b=pure (opC (·&&·) a b):=by
 unfold Uz;rw[Wr (·&&·) 1 (fun x y=>by simp) rfl a b ha.dev hb.dev ha.len hb.len ha.tot hb.tot,zB,zA]
end
theorem ok_nil : Ok []:=⟨fun p h=>by simp at h,by simp,by simp[vM]⟩
theorem opC_nil(c:List PT):opC (·||·) c []=zj c:=by rw[<- uGa,List.append_nil]
theorem Vw(c:List PT)(h:Ok c):uH c=pure (zj c):=by
 unfold uH;rw[Wr (·||·) 0 (fun x y=>by simp) rfl c [] h.dev ok_nil.dev h.len ok_nil.len h.tot ok_nil.tot,zB,zA,opC_nil]
theorem sm_norm{c:List PT}(h:Ok c):Sm (zj c):=⟨by have:=uR c;have:=h.len;omega,by have:=uS c;have:=h.tot;omega⟩
theorem jF(a b:List PT)(ha:Ok a)(hb:Ok b):Ve a b=pure (decide (zj a=zj b)):=by
 unfold Ve;rw[Vw a ha,zB,zA,Vw b hb,zB,zA,rEq_sm _ _ (sm_norm ha),zB,zA]
theorem has_pos{c:List PT}{k n:Int}(h:vA c k n=true):0 < k/\1<=n/\n<=281474976710655:=by
 refine⟨Classical.byContradiction fun h0=>?_,R.qL h⟩;unfold vA at h;rw[Qh h0] at h
 cases h
theorem Wt(c:List PT)(d:DT)(h:Ok c):Zs c d=pure (vA c d.dev d.n):=by
 unfold Zs;rw[V.ZQ,zB,zA]
 by_cases hg:V.yn d=true
 ·have h1:=V.wI.1 hg;rw[hg,cond_true,Ql c d.dev (by omega) h.len h.tot,zB,zA,R.yza _ _ (by have:=R.ZS (yx c d.dev);have:=wh c d.dev;have:=h.tot;omega),zB,zA,zA,R.vi]
  rfl
 ·have hg':V.yn d=false:=by simpa using hg
  rw[hg',cond_false,zA]
  cases hh:vA c d.dev d.n with
  | false=>rfl
  | true=>obtain⟨h1,h2,h3⟩:=has_pos hh;exact absurd (V.wI.2 ⟨by omega,h2,h3⟩) hg
theorem Qo(c:List PT):jd c=pure (decide (c.length<=30)&&c.all fun p=>decide (p.runs.length<=30)):=by
 unfold jd
 by_cases h0:30 < c.length
 ·have:decide ((30:Int) < (c.length:Int))=true:=by simp;omega
  rw[this,cond_true];have:decide (c.length<=30)=false:=by simp;omega
  rw[this];rfl
 ·have h1:decide ((30:Int) < (c.length:Int))=false:=by simp;omega
  rw[h1,cond_false];have:=wH (body:=Xe c) c (fun i=>(i:Int)) (fun i x=>decide (x.runs.length<=30)) (.brk ()) (.ret false) (fun i x hx hi=>by
   have h2:decide ((i:Int) < (c.length:Int))=true:=by simpa using hi
   unfold Xe;simp only[h2,cond_true,zN hx,zA,xB,yS (show i < 9223372036854775807 by omega),decide_eq_true_eq]
   by_cases h3:x.runs.length<=30
   ·rw[if_neg (by omega),if_pos h3]
   ·rw[if_pos (by omega),if_neg h3]) (by unfold Xe;simp)
  rw[show(0:Int)=((0:Nat):Int) from rfl,this];have hiff:(c.zipIdx.all fun y=>decide (y.1.runs.length<=30))=c.all fun p=>decide (p.runs.length<=30):=by
   rw[Bool.eq_iff_iff,List.all_eq_true,List.all_eq_true]
   constructor
   ·intro h p hp;obtain⟨i,hi⟩:=List.mem_iff_getElem?.1 hp;exact h (p,i) (List.mem_zipIdx_iff_getElem?.2 hi)
   ·intro h y hy;exact h _ (List.mem_of_getElem? (List.mem_zipIdx_iff_getElem?.1 hy))
  rw[hiff];have h4:decide (c.length<=30)=true:=by simp;omega
  rw[h4,Bool.true_and]
  cases c.all fun p=>decide (p.runs.length<=30) <;> rfl
theorem uPa{c:List PT}(h:(decide (c.length<=30)&&c.all fun p=>decide (p.runs.length<=30))=true):c.length<=30/\vM c<=900:=by
 rw[Bool.and_eq_true,decide_eq_true_eq,List.all_eq_true] at h;refine⟨h.1,?_⟩;have:∀ l:List PT,(∀ p∈l,decide (p.runs.length<=30)=true)->vM l<=l.length*30:=by
  intro l
  induction l with
  | nil=>intro _;simp[vM]
  | cons p r ih=>
   intro hl;have e:vM (p::r)=p.runs.length+vM r:=by simp[vM]
   have h1:=ih fun q hq=>hl q (by simp[hq])
   have h2:=hl p (by simp);simp only[decide_eq_true_eq] at h2;simp only[List.length_cons];omega
 have:=this c h.2;omega
theorem qV(l:List DT)(d:DT):yk (l++[d])=yk l++if V.yn d=true then [⟨d.dev,[⟨d.n,d.n⟩]⟩] else []:=by
 unfold yk;rw[List.filter_append,List.map_append]
 congr 1
 by_cases h:V.yn d=true <;> simp[h]
theorem Qp(a b:List PT):opC (·||·) (zj a) b=zj (a++b):=(wi rfl _ _).ext (yf _) fun k n=>by rw[uE rfl,yz,yz,Yo]
theorem y1a{l:List DT}(h:l.length<=400000000):Ok (zj (yk l)):=⟨fun p hp=>by have:=((yf (yk l)).nf p hp).1;omega,by have:=uR (yk l);have:=uo l;omega,by have:=uS (yk l);have:=Vv l;omega⟩
theorem rOf_eq(l:List DT)(h:l.length<=400000000):xZa l=pure (zj (yk l)):=by
 unfold xZa;have:=Yj (body:=VZ l) l (fun i (t:List PT)=>(t,(i:Int))) (fun t d=>if V.yn d=true then opC (·||·) t [⟨d.dev,[⟨d.n,d.n⟩]⟩] else t) (fun t=>pure t) (fun i t=>t=zj (yk (l.take i))) (fun i x t hx hi ht=>by
  have h1:decide ((i:Int) < (l.length:Int))=true:=by simpa using hi
  have hok:Ok t:=by rw[ht];exact y1a (by rw[List.length_take];omega)
  have hnext:(if V.yn x=true then opC (·||·) t [⟨x.dev,[⟨x.n,x.n⟩]⟩] else t)=zj (yk (l.take (i+1))):=by
   rw[List.take_add_one,hx,Option.toList,qV,ht]
   split
   ·exact Qp _ _
   ·rw[List.append_nil]
  refine⟨?_,hnext⟩;unfold VZ;simp only[h1,cond_true,zN hx,zA,V.ZQ,zB,yS (show i < 9223372036854775807 by omega)]
  by_cases hg:V.yn x=true
  ·have h2:=V.wI.1 hg;rw[if_pos hg,hg,cond_true,Qn t _ hok ⟨fun p hp=>by rw[List.mem_singleton] at hp;subst hp;show 0<=x.dev;omega,by simp,by simp[vM]⟩,zB,zA,zA]
  ·have hg':V.yn x=false:=by simpa using hg
   rw[if_neg hg,hg',cond_false,zA]) (fun t _=>by unfold VZ;simp[zA]) [] (by rw[List.take_zero];exact(vT JL).symm)
 rw[show(([]:List PT),(0:Int))=([],((0:Nat):Int)) from rfl,this,zA];have key:∀ (q pre:List DT),q.foldl (fun t d=>if V.yn d=true then opC (·||·) t [⟨d.dev,[⟨d.n,d.n⟩]⟩] else t) (zj (yk pre))=zj (yk (pre++q)):=by
  intro q
  induction q with
  | nil=>intro pre;rw[List.append_nil];rfl
  | cons d r ih=>
   intro pre;rw[List.foldl_cons];have:(if V.yn d=true then opC (·||·) (zj (yk pre)) [⟨d.dev,[⟨d.n,d.n⟩]⟩] else zj (yk pre))=zj (yk (pre++[d])):=by
    rw[qV]
    split
    ·exact Qp _ _
    ·rw[List.append_nil]
   rw[this,ih,List.append_assoc];rfl
 have h2:=key l [];rw[show zj (yk [])=[] from vT JL,List.nil_append] at h2;rw[h2]
theorem ok_few{c:List PT}(o:∀ p∈c,0<=p.dev)(h:c.length<=30/\vM c<=900):Ok c:=⟨o,by omega,by omega⟩
theorem ok_mono{a b:List PT}{op:Bool->Bool->Bool}(h0:op false false=false)(ha:a.length<=100000000/\vM a<=100000000)(hb:b.length<=100000000/\vM b<=100000000):Ok (opC op a b):=⟨fun p hp=>by have:=((wi h0 a b).nf p hp).1;omega,by have:=uHa op a b;omega,by have:=uJa h0 a b;omega⟩
theorem qW{a b:List PT}(h:∀ k n,vA a k n=true->vA b k n=true):opC (fun x y=>x&&!y) a b=[]:=wga (wi rfl _ _) fun k n=>by
 rw[uE rfl]
 cases ha:vA a k n with
 | false=>rfl
 | true=>rw[h k n ha];rfl
end Go.Ep.M.C
namespace Go.Ep.M.N
open Go
def lenN(n:Nat):Nat:=if n=0 then 0 else lenN (n / 256)+1
def byteAt(n i:Nat):Int:=((n / 256 ^ i % 256:Nat):Int)
def be(n:Nat):Nat->List Int
 | 0=>[]
 | k+1=>byteAt n k::be n k
def encN(n:Nat):List Int:=(lenN n:Int)::be n (lenN n)
def encI(v:Int):List Int:=encN v.toNat
def By(l:List Int):Prop:=∀ x∈l,0<=x/\x<=255
theorem By.drop{l:List Int}(h:By l)(n:Nat):By (l.drop n):=fun x hx=>h x (List.mem_of_mem_drop hx)
theorem By.take{l:List Int}(h:By l)(n:Nat):By (l.take n):=fun x hx=>h x (List.mem_of_mem_take hx)
theorem By.app{a b:List Int}(ha:By a)(hb:By b):By (a++b):=fun x hx=>(List.mem_append.1 hx).elim (ha x) (hb x)
theorem By.nil : By []:=fun x hx=>by cases hx
def valB(l:List Int):Int:=l.foldl (fun v x=>v*256+x) 0
theorem uQa : ∀ (l:List Int) (v k:Nat),By l->v < 256 ^ k->∃ n:Nat,l.foldl (fun v x=>v*256+x) (v:Int)=(n:Int)/\n < 256 ^ (k+l.length)/\v*256 ^ l.length<=n
 | [],v,k,_,hv=>⟨v,rfl,by simpa using hv,by simp⟩
 | x::r,v,k,hb,hv=>by
  have hx:=hb x (by simp);obtain⟨n,h1,h2,h3⟩:=uQa r (v*256+x.toNat) (k+1) (fun y hy=>hb y (by simp[hy])) (by rw[Nat.pow_succ];omega);refine⟨n,?_,by rw[show k+(x::r).length=k+1+r.length by simp;omega];exact h2,?_⟩
  ·rw[List.foldl_cons,<- h1]
   congr 1;omega
  ·refine Nat.le_trans ?_ h3;rw[List.length_cons,Nat.pow_succ];have:v*(256 ^ r.length*256)=v*256*256 ^ r.length:=by rw[Nat.mul_comm (256 ^ r.length),Nat.mul_assoc]
   rw[this];exact Nat.mul_le_mul_right _ (by omega)
theorem uRa{l:List Int}(h:By l)(h8:l.length<=8):0<=valB l/\valB l<=18446744073709551615:=by
 obtain⟨n,h1,h2,_⟩:=uQa l 0 0 h (by decide);have h3:256 ^ (0+l.length)<=256 ^ 8:=Nat.pow_le_pow_right (by decide) (by omega);have h4:(256:Nat) ^ 8=18446744073709551616:=by decide
 rw[valB,show(0:Int)=((0:Nat):Int) from rfl,h1];omega
def rdN : List Int->Int×Nat×Int
 | []=>(0,0,2)
 | n::r=>if 8 < n\/(0 < n/\r.head?=some 0) then (0,0,4) else if (r.length:Int) < n then (0,0,2) else (valB (r.take n.toNat),n.toNat+1,0)
theorem rdN_cons(n:Int)(r:List Int):rdN (n::r)=if 8 < n\/(0 < n/\r.head?=some 0) then (0,0,4) else if (r.length:Int) < n then (0,0,2) else (valB (r.take n.toNat),n.toNat+1,0):=rfl
theorem uSa(b:List Int)(hb:By b):(rdN b=(0,0,2)\/rdN b=(0,0,4))\/∃ n r,b=n::r/\0<=n/\n<=8/\n<=(r.length:Int)/\¬ (0 < n/\r.head?=some 0)/\rdN b=(valB (r.take n.toNat),n.toNat+1,0):=by
 cases b with
 | nil=>exact .inl (.inl rfl)
 | cons n r=>
  have hn:=hb n (by simp);rw[rdN_cons]
  by_cases h1:8 < n\/(0 < n/\r.head?=some 0)
  ·rw[if_pos h1];exact .inl (.inr rfl)
  ·rw[if_neg h1]
   by_cases h2:(r.length:Int) < n
   ·rw[if_pos h2];exact .inl (.inl rfl)
   ·rw[if_neg h2];exact .inr ⟨n,r,rfl,hn.1,by omega,by omega,fun h=>h1 (.inr h),rfl⟩
theorem uTa(b:List Int)(hb:By b):0<=(rdN b).1/\(rdN b).1<=18446744073709551615/\(rdN b).2.1<=b.length/\((rdN b).2.2=0\/(rdN b).2.2=2\/(rdN b).2.2=4):=by
 rcases uSa b hb with(h | h) | ⟨n,r,rfl,h0,h8,hl,_,h⟩
 ·rw[h];simp
 ·rw[h];simp
 ·rw[h];have:=uRa (l:=r.take n.toNat) (fun x hx=>hb x (by simp[List.mem_of_mem_take hx])) (by rw[List.length_take];omega);refine⟨this.1,this.2,?_,.inl rfl⟩;simp;omega
abbrev RS:=List Int×Int
structure Ok(s:RS):Prop where
 by_:By s.1
 len:s.1.length<=1000000000
 nil:s.2≠0->s.1=[]
def Wu(e:Int)(s:RS):RS:=if s.2=0/\e≠0 then ([],e) else s
def WT(s:RS):Int×RS:=if s.2≠0 then (0,s) else if (rdN s.1).2.2≠0 then (0,Wu (rdN s.1).2.2 s) else ((rdN s.1).1,(s.1.drop (rdN s.1).2.1,0))
def UW(m:Int)(s:RS):Int×RS:=if m < (WT s).1 then (0,Wu 4 (WT s).2) else WT s
def wja(s:RS):Int×RS:=if s.2≠0 then (0,s) else match s.1 with | []=>(0,Wu 2 s) | x::r=>(x,(r,0))
def textS(m:Int)(s:RS):ByteArray×RS:=
 if (WT s).2.2≠0 then (⟨#[]⟩,(WT s).2) else if max m 0 < (WT s).1 then (⟨#[]⟩,Wu 3 (WT s).2) else if ((WT s).2.1.length:Int) < (WT s).1 then (⟨#[]⟩,Wu 2 (WT s).2)
 else (strL ((WT s).2.1.take (WT s).1.toNat),((WT s).2.1.drop (WT s).1.toNat,0))
theorem Qq{s:RS}(h:Ok s)(e:Int):Ok (Wu e s):=by
 unfold Wu
 by_cases c:s.2=0/\e≠0
 ·rw[if_pos c];exact⟨By.nil,by simp,fun _=>rfl⟩
 ·rw[if_neg c];exact h
theorem uUa{s:RS}(h:Ok s):Ok (WT s).2/\0<=(WT s).1/\(WT s).1<=18446744073709551615:=by
 unfold WT;have hr:=uTa s.1 h.by_
 by_cases c:s.2≠0
 ·rw[if_pos c];exact⟨h,by simp,by simp⟩
 ·rw[if_neg c]
  by_cases c2:(rdN s.1).2.2≠0
  ·rw[if_pos c2];exact⟨Qq h _,by simp,by simp⟩
  ·rw[if_neg c2];exact⟨⟨h.by_.drop _,by simp;have:=h.len;omega,fun h=>absurd rfl h⟩,hr.1,hr.2.1⟩
theorem ok_upto{s:RS}(h:Ok s){m:Int}(hm:0<=m):Ok (UW m s).2/\0<=(UW m s).1/\(UW m s).1<=m:=by
 unfold UW;obtain⟨h1,h2,h3⟩:=uUa h
 by_cases c:m < (WT s).1
 ·rw[if_pos c];exact⟨Qq h1 _,by simp,hm⟩
 ·rw[if_neg c];exact⟨h1,h2,by omega⟩
structure Sim(B:List Int)(a:Int)(s:RS):Prop where
 lo:0<=a
 hi:a<=B.length
 eq:s.2=0->s.1=B.drop a.toNat
structure OkB(B:List Int):Prop where
 by_:By B
 len:B.length<=1000000000
theorem OkB.ok{B:List Int}(h:OkB B):Ok (B,0):=⟨h.by_,h.len,fun h=>absurd rfl h⟩
variable{B:List Int}{a:Int}{s:RS}
end Go.Ep.M.N

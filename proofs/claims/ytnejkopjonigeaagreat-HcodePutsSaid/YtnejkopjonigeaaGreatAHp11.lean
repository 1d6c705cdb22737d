/- Side texts. -/
import Derived.Test.YtnejkopjonigeaaGreatAHp5
import Derived.Test.YtnejkopjonigeaaGreatAHp10
set_option linter.unusedVariables false
set_option linter.unusedSimpArgs false
namespace Go.Ep.M.R
open Go
def YE(x:RN):Bool:=decide (1<=x.lo)&&(decide (x.lo<=x.hi)&&decide (x.hi<=281474976710655))
theorem zh{x:RN}:YE x=true↔1<=x.lo/\x.lo<=x.hi/\x.hi<=281474976710655:=by simp[YE]
def inR(n:Int)(x:RN):Bool:=YE x&&(decide (x.lo<=n)&&decide (n<=x.hi))
theorem vh{n:Int}{x:RN}:inR n x=true↔(1<=x.lo/\x.lo<=x.hi/\x.hi<=281474976710655)/\x.lo<=n/\n<=x.hi:=by simp[inR,YE]
def yp(l:List RN)(n:Int):Bool:=l.any (inR n)
theorem xV{l:List RN}{n:Int}:yp l n=true↔∃ x∈l,YE x=true/\x.lo<=n/\n<=x.hi:=by
 unfold yp;rw[List.any_eq_true];simp[inR]
@[simp] theorem yya(n:Int):yp [] n=false:=rfl
theorem ui(x:RN)(l:List RN)(n:Int):yp (x::l) n=(inR n x||yp l n):=rfl
theorem ZB(a b:List RN)(n:Int):yp (a++b) n=(yp a n||yp b n):=by simp[yp]
theorem ZC(x:RN)(n:Int):yp [x] n=inR n x:=by simp[yp]
theorem Qe{a b:List RN}(h:a.Perm b)(n:Int):yp a n=yp b n:=by
 rw[Bool.eq_iff_iff,xV,xV];simp only[h.mem_iff]
theorem z4a(l:List RN)(n:Int):yp (l.filter YE) n=yp l n:=by
 rw[Bool.eq_iff_iff,xV,xV];simp only[List.mem_filter];exact⟨fun⟨x,⟨h1,_⟩,h3⟩=>⟨x,h1,h3⟩,fun⟨x,h1,h2,h3⟩=>⟨x,⟨h1,h2⟩,h2,h3⟩⟩
theorem xza{l:List RN}{n:Int}(h:yp l n=true):1<=n/\n<=281474976710655:=by
 obtain⟨x,_,h2,h3,h4⟩:=xV.1 h;have:=zh.1 h2;omega
def Nf : List RN->Prop
 | []=>True
 | x::r=>YE x=true/\(∀ y∈r,x.hi+1 < y.lo)/\Nf r
theorem Nf.may{l:List RN}(h:Nf l):∀ x∈l,YE x=true:=by
 induction l with
 | nil=>simp
 | cons y r ih=>
  intro x hx;rcases List.mem_cons.1 hx with rfl | hx
  ·exact h.1
  ·exact ih h.2.2 x hx
theorem Yi{l:List RN}{z:RN}:Nf (l++[z])↔Nf l/\YE z=true/\∀ p∈l,p.hi+1 < z.lo:=by
 induction l with
 | nil=>simp[Nf]
 | cons x r ih=>
  simp only[List.cons_append,Nf,ih,List.mem_append,List.mem_cons,List.not_mem_nil,or_false]
  constructor
  ·rintro⟨h1,h2,h3,h4,h5⟩;refine⟨⟨h1,fun y hy=>h2 y (.inl hy),h3⟩,h4,fun p hp=>?_⟩;rcases hp with rfl | hp
   ·exact h2 z (.inr rfl)
   ·exact h5 p hp
  ·rintro⟨⟨h1,h2,h3⟩,h4,h5⟩;refine⟨h1,fun y hy=>?_,h3,h4,fun p hp=>h5 p (.inr hp)⟩;rcases hy with hy | rfl
   ·exact h2 y hy
   ·exact h5 x (.inl rfl)
theorem yza{x:RN}{r:List RN}(h:Nf (x::r)){n:Int}(hn:yp r n=true):x.hi+1 < n:=by
 obtain⟨y,h1,_,h3,_⟩:=xV.1 hn;have:=h.2.1 y h1;omega
theorem VQ{x:RN}{r:List RN}(h:Nf (x::r)):yp (x::r) x.lo=true:=by
 rw[ui];have:=zh.1 h.1;rw[Bool.or_eq_true];exact .inl (vh.2 ⟨this,by omega,by omega⟩)
theorem UO{x:RN}{r:List RN}(h:Nf (x::r)){n:Int}(hn:yp (x::r) n=true):x.lo<=n:=by
 rw[ui,Bool.or_eq_true] at hn;rcases hn with hn | hn
 ·exact(vh.1 hn).2.1
 ·have:=yza h hn;have:=zh.1 h.1;omega
theorem z5a{x:RN}{r:List RN}(h:Nf (x::r)){n:Int}(h1:x.lo<=n):yp (x::r) n=true↔n<=x.hi\/yp r n=true:=by
 rw[ui,Bool.or_eq_true,vh];have:=zh.1 h.1
 constructor
 ·rintro(h2 | h2)
  ·exact .inl h2.2.2
  ·exact .inr h2
 ·rintro(h2 | h2)
  ·exact .inl ⟨this,h1,h2⟩
  ·exact .inr h2
theorem JI : ∀ {a b:List RN},Nf a->Nf b->(∀ n,yp a n=yp b n)->a=b
 | [],[],_,_,_=>rfl
 | [],y::s,_,hb,h=>by have:=h y.lo;rw[VQ hb] at this;simp at this
 | x::r,[],ha,_,h=>by have:=h x.lo;rw[VQ ha] at this;simp at this
 | x::r,y::s,ha,hb,h=>by
  have h1:x.lo=y.lo:=by
   have h2:=UO hb (by rw[<- h];exact VQ ha);have h3:=UO ha (by rw[h];exact VQ hb);omega
  have hx:=zh.1 ha.1;have hy:=zh.1 hb.1;have hle:∀ {x y:RN} {r s:List RN},Nf (x::r)->Nf (y::s)->(∀ n,yp (x::r) n=yp (y::s) n)->x.lo=y.lo->y.hi<=x.hi:=by
   intro x y r s ha hb h h1;have hx:=zh.1 ha.1;refine Classical.byContradiction fun hc=>?_
   have h2:yp (y::s) (x.hi+1)=true:=(z5a hb (by omega)).2 (.inl (by omega));rw[<- h,z5a ha (by omega)] at h2;rcases h2 with h2 | h2
   ·omega
   ·have:=yza ha h2;omega
  have h2:x.hi=y.hi:=by
   have:=hle ha hb h h1;have:=hle hb ha (fun n=>(h n).symm) h1.symm;omega
  have he:x=y:=by cases x;cases y;simp_all
  subst he;rw[JI ha.2.2 hb.2.2 fun n=>?_];rw[Bool.eq_iff_iff];have h3:=h n
  constructor
  ·intro hn;have:=yza ha hn;have h4:yp (x::r) n=true:=(z5a ha (by omega)).2 (.inr hn);rw[h3,z5a hb (by omega)] at h4;rcases h4 with h4 | h4
   ·omega
   ·exact h4
  ·intro hn;have:=yza hb hn;have h4:yp (x::s) n=true:=(z5a hb (by omega)).2 (.inr hn);rw[<- h3,z5a ha (by omega)] at h4;rcases h4 with h4 | h4
   ·omega
   ·exact h4
def Wo(n:Int)(s:Bool×List Int)(x:Int):Bool×List Int:=
 let t:=if s.1=false/\n<=x then (true,s.2++[n]) else s
 if x=n then t else (t.1,t.2++[x])
def putP(l:List Int)(n:Int):List Int:=let t:=l.foldl (Wo n) (false,[]);if t.1 then t.2 else t.2++[n]
abbrev Up(l:List Int):Prop:=l.Pairwise (· < ·)
theorem jC{l:List Int}{z:Int}:Up (l++[z])↔Up l/\∀ p∈l,p < z:=by
 unfold Up;rw[List.pairwise_append];simp
theorem Wp(n:Int):∀ (l:List Int) (s:Bool×List Int),Up l->Up s.2->(∀ p∈s.2,∀ x∈l,p < x\/(p=n/\s.1=true/\p<=x))->(s.1=true->n∈s.2)->(s.1=false->∀ p∈s.2,p < n) ->
  Up (l.foldl (Wo n) s).2/\(∀ m,m∈(l.foldl (Wo n) s).2↔m∈s.2\/(m∈l/\m≠n)\/(m=n/\(l.foldl (Wo n) s).1=true))/\((l.foldl (Wo n) s).1=false->∀ p∈(l.foldl (Wo n) s).2,p < n)/\(l.foldl (Wo n) s).2.length<=s.2.length+l.length+(if s.1 then 0 else 1)/\((l.foldl (Wo n) s).1=false->(l.foldl (Wo n) s).2.length<=s.2.length+l.length)
 | [],s,_,hs,_,h2,h3=>by
  refine⟨hs,fun m=>?_,h3,by simp,by simp⟩;simp only[List.foldl_nil,List.not_mem_nil,false_and,false_or];exact⟨fun h=>.inl h,fun h=>h.elim id fun⟨e,h⟩=>e▸h2 h⟩
 | x::r,(d,out),hl,hs,h1,h2,h3=>by
  rw[List.foldl_cons];have hl':=List.pairwise_cons.1 hl;simp only at hs h1 h2 h3
  by_cases hc:d=false/\n<=x
  ·obtain⟨rfl,hnx⟩:=hc
   by_cases hx:x=n
   ·have e:Wo n (false,out) x=(true,out++[n]):=by simp[Wo,hx]
    rw[e];obtain⟨i1,i2,i3,i4,i5⟩:=Wp n r (true,out++[n]) hl'.2 (jC.2 ⟨hs,h3 rfl⟩) (fun p hp y hy=>by
     have:=hl'.1 y hy;rcases List.mem_append.1 hp with hp | hp
     ·have:=h3 rfl p hp;left;omega
     ·simp at hp;left;omega) (fun _=>by simp) (fun h=>by cases h)
    refine⟨i1,fun m=>?_,i3,?_,?_⟩
    ·rw[i2];simp only[List.mem_append,List.mem_cons,List.not_mem_nil,or_false]
     constructor
     ·rintro((h | h) | h | h)
      ·exact .inl h
      ·refine .inr (.inr ⟨h,?_⟩)
       cases hb:(r.foldl (Wo n) (true,out++[n])).1 with
       | true=>rfl
       | false=>have:=i3 hb n ((i2 n).2 (.inl (by simp)));omega
      ·exact .inr (.inl ⟨.inr h.1,h.2⟩)
      ·exact .inr (.inr h)
     ·rintro(h | ⟨h | h,h'⟩ | h)
      ·exact .inl (.inl h)
      ·exact absurd (h.trans hx) h'
      ·exact .inr (.inl ⟨h,h'⟩)
      ·exact .inr (.inr h)
    ·simp at i4 ⊢;omega
    ·intro hf;have:=i5 hf;simp at this ⊢;omega
   ·have e:Wo n (false,out) x=(true,out++[n]++[x]):=by simp[Wo,hx,hnx]
    rw[e];obtain⟨i1,i2,i3,i4,i5⟩:=Wp n r (true,out++[n]++[x]) hl'.2 (jC.2 ⟨jC.2 ⟨hs,h3 rfl⟩,fun p hp=>by
     rcases List.mem_append.1 hp with hp | hp
     ·have:=h3 rfl p hp;omega
     ·simp at hp;omega⟩) (fun p hp y hy=>by
     have:=hl'.1 y hy;simp only[List.mem_append,List.mem_singleton] at hp;rcases hp with(hp | hp) | hp
     ·have:=h3 rfl p hp;left;omega
     ·left;omega
     ·left;omega) (fun _=>by simp) (fun h=>by cases h)
    refine⟨i1,fun m=>?_,i3,?_,?_⟩
    ·rw[i2];simp only[List.mem_append,List.mem_cons,List.not_mem_nil,or_false]
     constructor
     ·rintro(((h | h) | h) | h | h)
      ·exact .inl h
      ·refine .inr (.inr ⟨h,?_⟩)
       cases hb:(r.foldl (Wo n) (true,out++[n]++[x])).1 with
       | true=>rfl
       | false=>have:=i3 hb n ((i2 n).2 (.inl (by simp)));omega
      ·exact .inr (.inl ⟨.inl h,fun e=>hx (h.symm.trans e)⟩)
      ·exact .inr (.inl ⟨.inr h.1,h.2⟩)
      ·exact .inr (.inr h)
     ·rintro(h | ⟨h | h,h'⟩ | h)
      ·exact .inl (.inl (.inl h))
      ·exact .inl (.inr h)
      ·exact .inr (.inl ⟨h,h'⟩)
      ·exact .inr (.inr h)
    ·simp at i4 ⊢;omega
    ·intro hf;have:=i5 hf;simp at this ⊢;exfalso;have:=i3 hf n ((i2 n).2 (.inl (by simp)));omega
  ·by_cases hx:x=n
   ·have hd:d=true:=by cases d with | true=>rfl | false=>exact absurd ⟨rfl,by omega⟩ hc
    subst hd;have e:Wo n (true,out) x=(true,out):=by simp[Wo,hx]
    rw[e];obtain⟨i1,i2,i3,i4,i5⟩:=Wp n r (true,out) hl'.2 hs (fun p hp y hy=>h1 p hp y (List.mem_cons_of_mem _ hy)) h2 h3;refine⟨i1,fun m=>?_,i3,?_,?_⟩
    ·rw[i2];simp only[List.mem_cons]
     constructor
     ·rintro(h | h | h)
      ·exact .inl h
      ·exact .inr (.inl ⟨.inr h.1,h.2⟩)
      ·exact .inr (.inr h)
     ·rintro(h | ⟨h | h,h'⟩ | h)
      ·exact .inl h
      ·exact absurd (h.trans hx) h'
      ·exact .inr (.inl ⟨h,h'⟩)
      ·exact .inr (.inr h)
    ·simp at i4 ⊢;omega
    ·intro hf;have:=i5 hf;simp at this ⊢;omega
   ·have e:Wo n (d,out) x=(d,out++[x]):=by
     unfold Wo;simp only[hc,if_false,hx]
    rw[e];have hlt:d=false->x < n:=fun h=>by
     have:¬ n<=x:=fun h'=>hc ⟨h,h'⟩
     omega
    obtain⟨i1,i2,i3,i4,i5⟩:=Wp n r (d,out++[x]) hl'.2 (jC.2 ⟨hs,fun p hp=>by
     rcases h1 p hp x (by simp) with h | h
     ·exact h
     ·omega⟩) (fun p hp y hy=>by
     rcases List.mem_append.1 hp with hp | hp
     ·exact h1 p hp y (List.mem_cons_of_mem _ hy)
     ·simp at hp;have:=hl'.1 y hy;left;omega) (fun h=>List.mem_append_left _ (h2 h)) (fun h p hp=>by
     rcases List.mem_append.1 hp with hp | hp
     ·exact h3 h p hp
     ·simp at hp;rw[hp];exact hlt h)
    refine⟨i1,fun m=>?_,i3,?_,?_⟩
    ·rw[i2];simp only[List.mem_append,List.mem_cons,List.not_mem_nil,or_false]
     constructor
     ·rintro((h | h) | h | h)
      ·exact .inl h
      ·exact .inr (.inl ⟨.inl h,fun e=>hx (h.symm.trans e)⟩)
      ·exact .inr (.inl ⟨.inr h.1,h.2⟩)
      ·exact .inr (.inr h)
     ·rintro(h | ⟨h | h,h'⟩ | h)
      ·exact .inl (.inl h)
      ·exact .inl (.inr h)
      ·exact .inr (.inl ⟨h,h'⟩)
      ·exact .inr (.inr h)
    ·simp at i4 ⊢;omega
    ·intro hf;have:=i5 hf;simp at this ⊢;omega
theorem VR{l:List Int}(h:Up l)(n:Int):Up (putP l n)/\(∀ m,m∈putP l n↔m∈l\/m=n)/\(putP l n).length<=l.length+1:=by
 obtain⟨i1,i2,i3,i4,i5⟩:=Wp n l (false,[]) h (by simp[Up]) (by simp) (by simp) (by simp);unfold putP;simp only
 cases hb:(l.foldl (Wo n) (false,[])).1 with
 | true=>
  simp only[if_true];refine⟨i1,fun m=>?_,by simpa using i4⟩;rw[i2,hb];simp only[List.not_mem_nil,false_or,and_true]
  constructor
  ·rintro(h | h)
   ·exact .inl h.1
   ·exact .inr h
  ·rintro(h | h)
   ·by_cases e:m=n
    ·exact .inr e
    ·exact .inl ⟨h,e⟩
   ·exact .inr h
 | false=>
  have:=i5 hb;rw[if_neg (by simp)];refine⟨jC.2 ⟨i1,i3 hb⟩,fun m=>?_,by simp at this ⊢;omega⟩;simp only[List.mem_append,List.mem_singleton,i2,hb,List.not_mem_nil,false_or]
  constructor
  ·rintro((h | h) | h)
   ·exact .inl h.1
   ·cases h.2
   ·exact .inr h
  ·rintro(h | h)
   ·by_cases e:m=n
    ·exact .inr e
    ·exact .inl (.inl ⟨h,e⟩)
   ·exact .inr h
def ptS(out:List Int)(x:RN):List Int:=if YE x then putP (putP out x.lo) (x.hi+1) else out
def qP(l:List RN):List Int:=l.foldl ptS []
theorem qQ : ∀ (l:List RN) (out:List Int),Up out->Up (l.foldl ptS out)/\(∀ m,m∈l.foldl ptS out↔m∈out\/∃ x∈l,YE x=true/\(m=x.lo\/m=x.hi+1))/\(l.foldl ptS out).length<=out.length+2*l.length
 | [],out,h=>⟨h,fun m=>by simp,by simp⟩
 | x::r,out,h=>by
  rw[List.foldl_cons];obtain⟨j1,j2,j3⟩:=VR h x.lo;obtain⟨k1,k2,k3⟩:=VR j1 (x.hi+1)
  by_cases hm:YE x=true
  ·have e:ptS out x=putP (putP out x.lo) (x.hi+1):=by simp[ptS,hm]
   rw[e];obtain⟨i1,i2,i3⟩:=qQ r _ k1;refine⟨i1,fun m=>?_,by simp;omega⟩;rw[i2,k2,j2]
   constructor
   ·rintro(((h | h) | h) | ⟨y,h1,h2⟩)
    ·exact .inl h
    ·exact .inr ⟨x,by simp,hm,.inl h⟩
    ·exact .inr ⟨x,by simp,hm,.inr h⟩
    ·exact .inr ⟨y,by simp[h1],h2⟩
   ·rintro(h | ⟨y,h1,h2,h3⟩)
    ·exact .inl (.inl (.inl h))
    ·rcases List.mem_cons.1 h1 with rfl | h1
     ·rcases h3 with h3 | h3
      ·exact .inl (.inl (.inr h3))
      ·exact .inl (.inr h3)
     ·exact .inr ⟨y,h1,h2,h3⟩
  ·have e:ptS out x=out:=by simp[ptS,hm]
   rw[e];obtain⟨i1,i2,i3⟩:=qQ r _ h;refine⟨i1,fun m=>?_,by simp;omega⟩;rw[i2]
   constructor
   ·rintro(h | ⟨y,h1,h2⟩)
    ·exact .inl h
    ·exact .inr ⟨y,by simp[h1],h2⟩
   ·rintro(h | ⟨y,h1,h2,h3⟩)
    ·exact .inl h
    ·rcases List.mem_cons.1 h1 with rfl | h1
     ·exact absurd h2 hm
     ·exact .inr ⟨y,h1,h2,h3⟩
theorem JJ(l:List RN):Up (qP l)/\(∀ m,m∈qP l↔∃ x∈l,YE x=true/\(m=x.lo\/m=x.hi+1))/\(qP l).length<=2*l.length:=by
 obtain⟨h1,h2,h3⟩:=qQ l [] (by simp[Up]);exact⟨h1,fun m=>by rw[qP,h2];simp,by simpa[qP] using h3⟩
def y0a(out:List RN)(p:Int)(z:RN->RN)(x:RN):List RN:=match out.getLast? with
 | some y=>if y.hi+1=p then out.dropLast++[z y] else out++[x]
 | none=>out++[x]
def y1a(op:Bool->Bool->Bool)(a b:List RN)(out:List RN)(pq:Int×Int):List RN:=
 if op (yp a pq.1) (yp b pq.1) then y0a out pq.1 (fun y=>⟨y.lo,pq.2 - 1⟩) ⟨pq.1,pq.2 - 1⟩ else out
def xw(l:List Int):List (Int×Int):=l.zip l.tail
def XX(op:Bool->Bool->Bool)(a b:List RN):List RN:=(xw (qP (a++b))).foldl (y1a op a b) []
theorem x0a(p:Int)(z:RN->RN)(x:RN):y0a [] p z x=[x]:=rfl
theorem jD(l:List RN)(y:RN)(p:Int)(z:RN->RN)(x:RN):y0a (l++[y]) p z x=if y.hi+1=p then l++[z y] else l++[y]++[x]:=by simp[y0a]
theorem xL{α:Type}(l:List α):l=[]\/∃ r y,l=r++[y]:=by
 rcases List.eq_nil_or_concat l with h | ⟨r,y,h⟩
 ·exact .inl h
 ·exact .inr ⟨r,y,by simpa using h⟩
theorem qR(op:Bool->Bool->Bool)(a b:List RN):∀ (P:List Int) (p:Int) (out:List RN),Up (p::P)->(∀ q∈p::P,1<=q/\q<=281474976710656)->Nf out->(∀ y∈out,y.hi < p) ->
  Nf ((xw (p::P)).foldl (y1a op a b) out)/\(∀ n,yp ((xw (p::P)).foldl (y1a op a b) out) n=true↔yp out n=true\/∃ pq∈xw (p::P),pq.1<=n/\n < pq.2/\op (yp a pq.1) (yp b pq.1)=true)/\((xw (p::P)).foldl (y1a op a b) out).length<=out.length+P.length
 | [],p,out,_,_,h,_=>by simp[xw,h]
 | q::P,p,out,hu,hr,h,hy=>by
  have e:xw (p::q::P)=(p,q)::xw (q::P):=rfl;rw[e,List.foldl_cons];have hu':=List.pairwise_cons.1 hu;have hpq:p < q:=hu'.1 q (by simp);have hp:=hr p (by simp);have hq:=hr q (by simp);have step:Nf (y1a op a b out (p,q))/\(∀ n,yp (y1a op a b out (p,q)) n=true↔yp out n=true\/(p<=n/\n < q/\op (yp a p) (yp b p)=true))/\(∀ y∈y1a op a b out (p,q),y.hi < q)/\(y1a op a b out (p,q)).length<=out.length+1:=by
   unfold y1a;simp only
   by_cases hop:op (yp a p) (yp b p)=true
   ·rw[if_pos hop];rcases xL out with rfl | ⟨l,y,rfl⟩
    ·rw[x0a];have hm:YE (⟨p,q - 1⟩:RN)=true:=zh.2 ⟨hp.1,by simp only;omega,by simp only;omega⟩;refine⟨⟨hm,by simp,trivial⟩,fun n=>?_,fun y hy=>?_,by simp⟩
     ·rw[ZC,vh];have:=zh.1 hm;simp only at this ⊢;simp only[yya,Bool.false_eq_true,false_or,hop,and_true];omega
     ·simp at hy;subst hy;simp only;omega
    ·rw[jD];obtain⟨n1,n2,n3⟩:=Yi.1 h;have hym:=zh.1 n2;have hyp:=hy y (by simp)
     by_cases hadj:y.hi+1=p
     ·rw[if_pos hadj];have hm:YE (⟨y.lo,q - 1⟩:RN)=true:=zh.2 ⟨hym.1,by simp only;omega,by simp only;omega⟩;refine⟨Yi.2 ⟨n1,hm,n3⟩,fun n=>?_,fun z hz=>?_,by simp⟩
      ·rw[ZB,ZB,ZC,ZC,Bool.or_eq_true,Bool.or_eq_true,vh,vh];have:=zh.1 hm;simp only at this ⊢;simp only[hop,and_true]
       constructor
       ·rintro(h | h)
        ·exact .inl (.inl h)
        ·by_cases hc:n<=y.hi
         ·exact .inl (.inr ⟨hym,h.2.1,hc⟩)
         ·right;omega
       ·rintro((h | h) | h)
        ·exact .inl h
        ·right;omega
        ·right;omega
      ·rcases List.mem_append.1 hz with hz | hz
       ·have:=hy z (by simp[hz]);omega
       ·simp at hz;subst hz;simp only;omega
     ·rw[if_neg hadj];have hm:YE (⟨p,q - 1⟩:RN)=true:=zh.2 ⟨hp.1,by simp only;omega,by simp only;omega⟩;refine⟨Yi.2 ⟨h,hm,fun z hz=>?_⟩,fun n=>?_,fun z hz=>?_,by simp⟩
      ·simp only;rcases List.mem_append.1 hz with hz | hz
       ·have:=n3 z hz;omega
       ·simp at hz;subst hz;omega
      ·rw[ZB (l++[y]),ZC,Bool.or_eq_true,vh];have:=zh.1 hm;simp only at this ⊢;simp only[hop,and_true]
       constructor
       ·rintro(h | h)
        ·exact .inl h
        ·right;omega
       ·rintro(h | h)
        ·exact .inl h
        ·right;omega
      ·rcases List.mem_append.1 hz with hz | hz
       ·have:=hy z hz;omega
       ·simp at hz;subst hz;simp only;omega
   ·rw[if_neg hop];refine⟨h,fun n=>?_,fun y hy'=>by have:=hy y hy';omega,by omega⟩;exact⟨fun h=>.inl h,fun h=>h.elim id fun h=>absurd h.2.2 hop⟩
  obtain⟨s1,s2,s3,s4⟩:=step;obtain⟨i1,i2,i3⟩:=qR op a b P q _ hu'.2 (fun z hz=>hr z (List.mem_cons_of_mem _ hz)) s1 s3;refine⟨i1,fun n=>?_,by simp;omega⟩;rw[i2,s2];simp only[List.mem_cons,exists_eq_or_imp]
  constructor
  ·rintro((h | h) | h)
   ·exact .inl h
   ·exact .inr (.inl h)
   ·exact .inr (.inr h)
  ·rintro(h | h | h)
   ·exact .inl (.inl h)
   ·exact .inl (.inr h)
   ·exact .inr h
theorem VS : ∀ {P:List Int},Up P->∀ pq∈xw P,pq.1∈P/\pq.2∈P/\pq.1 < pq.2/\∀ m∈P,m<=pq.1\/pq.2<=m
 | [],_,pq,h=>by simp[xw] at h
 | [p],_,pq,h=>by simp[xw] at h
 | p::q::P,hu,pq,h=>by
  have e:xw (p::q::P)=(p,q)::xw (q::P):=rfl;rw[e] at h;have hu':=List.pairwise_cons.1 hu;rcases List.mem_cons.1 h with rfl | h
  ·refine⟨by simp,by simp,hu'.1 q (by simp),fun m hm=>?_⟩;rcases List.mem_cons.1 hm with rfl | hm
   ·simp
   ·right
    rcases List.mem_cons.1 hm with rfl | hm
    ·simp
    ·have:=(List.pairwise_cons.1 hu'.2).1 m hm;simp only;omega
  ·obtain⟨h1,h2,h3,h4⟩:=VS hu'.2 pq h;refine⟨List.mem_cons_of_mem _ h1,List.mem_cons_of_mem _ h2,h3,fun m hm=>?_⟩;rcases List.mem_cons.1 hm with rfl | hm
   ·left;have:=hu'.1 _ h1;omega
   ·exact h4 m hm
theorem JK : ∀ {P:List Int},Up P->∀ {u v n:Int},u∈P->v∈P->u<=n->n < v->∃ pq∈xw P,pq.1<=n/\n < pq.2
 | [],_,_,_,_,h,_,_,_=>by simp at h
 | [p],_,u,v,n,h1,h2,h3,h4=>by simp at h1 h2;omega
 | p::q::P,hu,u,v,n,h1,h2,h3,h4=>by
  have e:xw (p::q::P)=(p,q)::xw (q::P):=rfl;have hu':=List.pairwise_cons.1 hu
  by_cases hc:n < q
  ·refine⟨(p,q),by rw[e];simp,?_,hc⟩;rcases List.mem_cons.1 h1 with rfl | h1
   ·exact h3
   ·have:q<=u:=by
     rcases List.mem_cons.1 h1 with rfl | h1
     ·omega
     ·have:=(List.pairwise_cons.1 hu'.2).1 u h1;omega
    simp only;omega
  ·have hv:v∈q::P:=by
    rcases List.mem_cons.1 h2 with rfl | h2
    ·have:=hu'.1 q (by simp);omega
    ·exact h2
   obtain⟨pq,h5,h6⟩:=JK hu'.2 (u:=q) (by simp) hv (by omega) h4;exact⟨pq,by rw[e];exact List.mem_cons_of_mem _ h5,h6⟩
theorem vLa(P:List Int):(xw P).length=P.length - 1:=by simp[xw]
theorem Zx{l:List RN}{P:List Int}(hP:∀ x∈l,YE x=true->x.lo∈P/\x.hi+1∈P){p q n:Int}(h1:∀ m∈P,m<=p\/q<=m)(h2:p<=n)(h3:n < q):yp l n=yp l p:=by
 rw[Bool.eq_iff_iff,xV,xV]
 constructor
 ·rintro⟨x,hx,hm,h4,h5⟩;obtain⟨h6,h7⟩:=hP x hx hm;have:=h1 _ h6;have:=h1 _ h7;exact⟨x,hx,hm,by omega,by omega⟩
 ·rintro⟨x,hx,hm,h4,h5⟩;obtain⟨h6,h7⟩:=hP x hx hm;have:=h1 _ h6;have:=h1 _ h7;exact⟨x,hx,hm,by omega,by omega⟩
theorem yQ(op:Bool->Bool->Bool)(h0:op false false=false)(a b:List RN):Nf (XX op a b)/\(∀ n,yp (XX op a b) n=op (yp a n) (yp b n))/\(XX op a b).length<=2*(a.length+b.length):=by
 obtain⟨p1,p2,p3⟩:=JJ (a++b);have hrange:∀ q∈qP (a++b),1<=q/\q<=281474976710656:=fun q hq=>by
  obtain⟨x,_,h2,h3⟩:=(p2 q).1 hq;have:=zh.1 h2;omega
 have main:Nf (XX op a b)/\(∀ n,yp (XX op a b) n=true↔∃ pq∈xw (qP (a++b)),pq.1<=n/\n < pq.2/\op (yp a pq.1) (yp b pq.1)=true)/\(XX op a b).length<=(qP (a++b)).length:=by
  unfold XX
  generalize hP:qP (a++b)=P at p1 hrange
  cases P with
  | nil=>simp[xw,Nf]
  | cons p P=>
   obtain⟨i1,i2,i3⟩:=qR op a b P p [] p1 hrange trivial (by simp);exact⟨i1,fun n=>by rw[i2];simp,by simp at i3 ⊢;omega⟩
 obtain⟨m1,m2,m3⟩:=main;refine⟨m1,fun n=>?_,by simp at p3;omega⟩;have hPa:∀ x∈a,YE x=true->x.lo∈qP (a++b)/\x.hi+1∈qP (a++b):=fun x hx hm=>⟨(p2 _).2 ⟨x,by simp[hx],hm,.inl rfl⟩,(p2 _).2 ⟨x,by simp[hx],hm,.inr rfl⟩⟩
 have hPb:∀ x∈b,YE x=true->x.lo∈qP (a++b)/\x.hi+1∈qP (a++b):=fun x hx hm=>⟨(p2 _).2 ⟨x,by simp[hx],hm,.inl rfl⟩,(p2 _).2 ⟨x,by simp[hx],hm,.inr rfl⟩⟩
 rw[Bool.eq_iff_iff,m2]
 constructor
 ·rintro⟨pq,h1,h2,h3,h4⟩;obtain⟨_,_,_,h5⟩:=VS p1 pq h1
  rwa [Zx hPa h5 h2 h3,Zx hPb h5 h2 h3]
 ·intro h;have hex:∃ u∈qP (a++b),∃ v∈qP (a++b),u<=n/\n < v:=by
   cases ha:yp a n with
   | true=>
    obtain⟨x,h1,h2,h3,h4⟩:=xV.1 ha;exact⟨_,(hPa x h1 h2).1,_,(hPa x h1 h2).2,h3,by omega⟩
   | false=>
    cases hb:yp b n with
    | true=>
     obtain⟨x,h1,h2,h3,h4⟩:=xV.1 hb;exact⟨_,(hPb x h1 h2).1,_,(hPb x h1 h2).2,h3,by omega⟩
    | false=>rw[ha,hb,h0] at h;cases h
  obtain⟨u,hu,v,hv,h1,h2⟩:=hex;obtain⟨pq,h3,h4,h5⟩:=JK p1 hu hv h1 h2;obtain⟨_,_,_,h6⟩:=VS p1 pq h3;exact⟨pq,h3,h4,h5,by rwa [<- Zx hPa h6 h4 h5,<- Zx hPb h6 h4 h5]⟩
def nrm(l:List RN):List RN:=XX (·||·) l []
theorem jE(l:List RN):Nf (nrm l):=(yQ _ rfl l []).1
theorem uj(l:List RN)(n:Int):yp (nrm l) n=yp l n:=by rw[nrm,(yQ _ rfl l []).2.1];simp
theorem Xy(l:List RN):(nrm l).length<=2*l.length:=by
 have:=(yQ (·||·) rfl l []).2.2;rw[List.length_nil,Nat.add_zero] at this;exact this
theorem nrm_of{l r:List RN}(h:Nf r)(h2:∀ n,yp r n=yp l n):r=nrm l:=JI h (jE l) fun n=>by rw[h2,uj]
theorem y2a{l:List RN}(h:Nf l):nrm l=l:=(nrm_of h fun _=>rfl).symm
theorem vMa(x y:RN):(decide (x.lo=y.lo)&&decide (x.hi=y.hi))=decide (x=y):=by
 rw[Bool.eq_iff_iff]
 cases x;cases y
 simp
theorem eqLoop{body:Int->M (Step Int (Ex Unit Bool))}(a b:List RN)(hl:a.length=b.length)(hn:a.length<=1000000000000)
  (hb:∀ i:Int,body i=cond (decide (i < (a.length:Int))) (M.bind (M.idx a i) fun x=>M.bind (M.idx b i) fun y=>cond (!(decide (x.lo=y.lo)&&decide (x.hi=y.hi))) (M.pure (.done (.ret false))) (M.pure (.next (IntKind.i64.wrap (i+1))))) (M.pure (.done (.brk ())))) :
  M.bind (M.loop body 0) (M.exk fun _=>M.pure true)=pure (decide (a=b)):=by
 have:=wW (body:=body) a (fun i=>(i:Int)) (fun i x=>decide (b[i]?=some x)) (.brk ()) (.ret false) (fun i x hx hi=>by
  have hb':i < b.length:=by omega
  rw[hb,zF hx,zF (List.getElem?_eq_getElem hb'),zq (by omega)];simp only[zA,List.getElem?_eq_getElem hb',Option.some.injEq,vMa];have:decide ((i:Int) < (a.length:Int))=true:=by simpa using hi
  rw[this,cond_true]
  by_cases he:b[i]=x
  ·subst he;simp
  ·rw[if_neg (by simpa using he)];have:decide (x=b[i])=false:=by simpa using fun h=>he h.symm
   rw[this];rfl) (by rw[hb];simp)
 rw[show(0:Int)=((0:Nat):Int) from rfl,this]
 by_cases he:a=b
 ·subst he;rw[if_pos]
  ·simp[zA,Ze]
  ·rw[List.all_eq_true];intro ⟨x,i⟩ hx;rw[List.mk_mem_zipIdx_iff_getElem?] at hx;simpa using hx
 ·rw[if_neg]
  ·simp[he,zA,Ja]
  ·intro hall;rw[List.all_eq_true] at hall;apply he;apply List.ext_getElem (by omega);intro i h1 h2;have:=hall (a[i],i) (by rw[List.mk_mem_zipIdx_iff_getElem?];exact List.getElem?_eq_getElem h1);simp[h2] at this;exact this.symm
theorem req_eq(a b:List RN)(h:a.length<=1000000000000):yma a b=pure (decide (a=b)):=by
 unfold yma
 by_cases hl:(a.length:Int)=b.length
 ·simp only[hl,decide_true,Bool.not_true,cond_false];exact eqLoop a b (by omega) h fun i=>rfl
 ·have hne:a≠b:=fun e=>hl (by rw[e])
  simp[hl,hne]
theorem seq_eq(a b:List RN)(h:a.length<=1000000000000):yX a b=pure (decide (a=b)):=by
 unfold yX
 by_cases hl:(a.length:Int)=b.length
 ·simp only[hl,decide_true,Bool.not_true,cond_false];exact eqLoop a b (by omega) h fun i=>rfl
 ·have hne:a≠b:=fun e=>hl (by rw[e])
  simp[hl,hne]
theorem vNa(x:RN):Un x=pure (YE x):=by
 unfold Un;rw[zj,zj,zA]
 rfl
theorem z6a(l:List RN)(n:Int)(h:l.length<=1000000000000):VF l n=pure (yp l n):=by
 unfold VF;have:=wW (body:=XK l n) l (fun i=>(i:Int)) (fun _ x=>!inR n x) (.brk ()) (.ret true) (fun i x hx hi=>by
  unfold XK;have h1:decide ((i:Int) < (l.length:Int))=true:=by simpa using hi
  simp only[h1,cond_true,zF hx,zA,vNa,zB,zq (show i < 9223372036854775807 by omega),zj];unfold inR
  cases YE x <;> cases decide (x.lo<=n) <;> cases decide (n<=x.hi) <;> rfl) (by unfold XK;simp)
 rw[show(0:Int)=((0:Nat):Int) from rfl,this,zA];have e:l.zipIdx.all (fun y=>!inR n y.1)=!yp l n:=by
  unfold yp;rw[Bool.eq_iff_iff];simp only[List.all_eq_true,Bool.not_eq_true',List.any_eq_false]
  constructor
  ·intro h x hx;obtain⟨i,hi,he⟩:=List.getElem_of_mem hx;have:=h (x,i) (by rw[List.mk_mem_zipIdx_iff_getElem?];rw[List.getElem?_eq_getElem hi,he]);simpa using this
  ·intro h y hy;have:=List.fst_mem_of_mem_zipIdx hy;have:=h _ this;simpa using this
 simp only[e]
 cases yp l n <;> rfl
theorem vOa(l:List Int)(n:Int)(h:l.length<=100000000000):Uo l n=pure (putP l n):=by
 unfold Uo;have:=ZW (body:=XL l n) l (fun i (t:Bool×List Int)=>(t.1,(i:Int),t.2)) (Wo n) (fun t=>pure t) (fun i t=>t.2.length<=2*i) (fun i x t hx hi hI=>by
  obtain⟨d,out⟩:=t;simp only at hI;have h1:decide ((i:Int) < (l.length:Int))=true:=by simpa using hi
  refine⟨?_,?_⟩
  ·unfold XL Wo;simp only[h1,cond_true,zF hx,zA,zq (show i < 9223372036854775807 by omega)]
   cases d with
   | true=>
    by_cases hc:x=n
    ·simp[hc,zA]
    ·simp only[Bool.not_true,cond_false,zA,hc,decide_false,Bool.not_false,cond_true,if_false];rw[zD (by simp;omega)];simp[zA]
   | false=>
    by_cases hc1:n<=x
    ·simp only[Bool.not_false,cond_true,zA,hc1,decide_true];rw[zD (by simp;omega),zA]
     by_cases hc:x=n
     ·simp[hc,zA]
     ·simp only[hc,decide_false,Bool.not_false,cond_true];rw[zD (by simp;omega)];simp[zA]
    ·simp only[Bool.not_false,cond_true,zA,hc1,decide_false,cond_false];have hc:x≠n:=by omega
     simp only[hc,decide_false,Bool.not_false,cond_true];rw[zD (by simp;omega)];simp[zA]
  ·unfold Wo;simp only
   split <;> split <;> simp <;> omega) (fun t _=>by unfold XL;simp[zA]) (false,[]) (by simp)
 rw[show((false,(0:Int),([]:List Int)):Bool×Int×List Int)=(false,((0:Nat):Int),[]) from rfl,this,zA];unfold putP;have hlen:(l.foldl (Wo n) (false,[])).2.length<=2*l.length:=by
  have:∀ (l:List Int) (s:Bool×List Int),(l.foldl (Wo n) s).2.length<=s.2.length+2*l.length:=by
   intro l
   induction l with
   | nil=>intro s;simp
   | cons x r ih=>
    intro s;rw[List.foldl_cons];have:=ih (Wo n s x);have h2:(Wo n s x).2.length<=s.2.length+2:=by
     unfold Wo;simp only
     split <;> split <;> simp
    simp;omega
  simpa using this l (false,[])
 generalize l.foldl (Wo n) (false,[])=t at hlen
 obtain⟨d,out⟩:=t
 cases d with
 | true=>rfl
 | false=>
  simp only[Bool.not_false,cond_true];rw[zD (by simp at hlen ⊢;omega)]
  rfl
theorem rpts_eq(a b:List RN)(h:a.length+b.length<=10000000000):XM a b=pure (qP (a++b)):=by
 unfold XM;rw[zD (by simp;omega),zD (by simp;omega)];have hup:∀ i,Up (((a++b).take i).foldl ptS [])/\(((a++b).take i).foldl ptS []).length<=2*(a++b).length:=fun i=>by
  obtain⟨h1,_,h3⟩:=qQ ((a++b).take i) [] (by simp[Up]);refine⟨h1,?_⟩;have:((a++b).take i).length<=(a++b).length:=by simp;omega
  simp only[List.length_nil,Nat.zero_add] at h3;omega
 have:=ZW (body:=vt a b) (a++b) (fun i (t:List Int)=>(t,(i:Int))) ptS (fun t=>pure t) (fun i t=>t=((a++b).take i).foldl ptS []) (fun i x t hx hi hI=>by
  have h1:decide ((i:Int) < ((a++b).length:Int))=true:=decide_eq_true (by omega);have hlen:(a++b).length<=10000000000:=by simp;omega
  obtain⟨u1,u2⟩:=hup i;rw[<- hI] at u1 u2;refine⟨?_,?_⟩
  ·unfold vt ptS;simp only[List.nil_append,h1,cond_true,zF hx,zA,zq (show i < 9223372036854775807 by omega),vNa,zB]
   cases hm:YE x with
   | false=>simp[zA]
   | true=>
    have hm':=zh.1 hm;have hp:=VR u1 x.lo;rw[cond_true,vOa _ _ (by omega),zB,zA,ZA (by omega) (by omega),vOa _ _ (by omega),zB];simp[zA]
  ·rw[List.take_add_one,hx];simp[hI]) (fun t _=>by unfold vt;simp[zA]) [] (by simp)
 rw[show(([]:List Int),(0:Int))=([],((0:Nat):Int)) from rfl,this];simp only[zA]
 rfl
theorem Qf{P:List Int}{i:Nat}{pq:Int×Int}(h:(xw P)[i]?=some pq):P[i]?=some pq.1/\P[i+1]?=some pq.2:=by
 unfold xw at h;rw[List.getElem?_zip_eq_some] at h;obtain⟨h1,h2⟩:=h;rw[List.getElem?_tail] at h2;exact⟨h1,h2⟩
theorem jF(op:Bool->Bool->Bool)(how:Int)(hop:∀ x y,op x y=if how=2 then (x&&!y) else if how=1 then (x&&y) else (x||y))(_h0:op false false=false)(a b:List RN)(h:a.length+b.length<=10000000000):VG a b how=pure (XX op a b):=by
 unfold VG;rw[rpts_eq a b h,zB,zA];obtain⟨p1,p2,p3⟩:=JJ (a++b);have hrange:∀ q∈qP (a++b),1<=q/\q<=281474976710656:=fun q hq=>by
  obtain⟨x,_,h2,h3⟩:=(p2 q).1 hq;have:=zh.1 h2;omega
 unfold XX
 generalize qP (a++b)=P at p1 hrange p3
 simp only[List.length_append] at p3;have hinv:∀ i,i<=(xw P).length->Nf (((xw P).take i).foldl (y1a op a b) [])/\(((xw P).take i).foldl (y1a op a b) []).length<=P.length:=fun i hi=>by
  cases P with
  | nil=>simp[xw,Nf]
  | cons p P=>
   have key:(xw (p::P)).take i=xw (p::P.take i):=by
    unfold xw;simp only[List.tail_cons];clear hi p1 hrange p3
    induction i generalizing p P with
    | zero=>simp
    | succ i ih=>
     cases P with
     | nil=>simp
     | cons q P=>
      simp only[List.zip_cons_cons,List.take_succ_cons];rw[ih q P]
   rw[key];have hsub:(p::P.take i).Sublist (p::P):=List.Sublist.cons_cons _ (List.take_sublist _ _);obtain⟨i1,_,i3⟩:=qR op a b (P.take i) p [] (List.Pairwise.sublist hsub p1) (fun q hq=>hrange q (hsub.subset hq)) trivial (by simp);refine⟨i1,?_⟩;simp at i3 ⊢;omega
 have:=ZW (body:=XN P a b how) (xw P) (fun i (t:List RN)=>((i:Int),t)) (y1a op a b) (fun t=>pure t) (fun i t=>i<=(xw P).length/\t=((xw P).take i).foldl (y1a op a b) []) (fun i pq t hx hi hI=>by
  obtain⟨hI1,hI⟩:=hI;obtain⟨g1,g2⟩:=Qf hx;have hlt:i+1 < P.length:=(List.getElem?_eq_some_iff.1 g2).1;have hPl:P.length<=20000000000:=by omega
  have h1:decide (((i+1:Nat):Int) < (P.length:Int))=true:=by rw[decide_eq_true_eq];omega
  obtain⟨v1,v2⟩:=hinv i hI1;rw[<- hI] at v1 v2;refine⟨?_,by omega,by rw[List.take_add_one,hx];simp[hI]⟩;unfold XN y1a;have e2:idx P ((i+1:Nat):Int)=pure pq.2:=zF g2;have hq:=hrange pq.2 (List.mem_of_getElem? g2);simp only[zq (show i < 9223372036854775807 by omega),h1,cond_true,zF g1,e2,zA,z6a a pq.1 (by omega),z6a b pq.1 (by omega),zB];rw[hop];have hin:∀ (x y:Bool),(M.bind (cond x (M.pure true) (M.pure y)) fun in97=>M.bind (cond (decide (how=1)) (M.bind (cond x (M.pure y) (M.pure false)) fun in101=>M.pure in101) (M.pure in97)) fun in99=>cond (decide (how=2)) (M.bind (cond x (M.pure (!y)) (M.pure false)) fun in105=>M.pure in105) (M.pure in99))=pure (if how=2 then (x&&!y) else if how=1 then (x&&y) else (x||y)):=by
   intro x y
   by_cases c2:how=2
   ·subst c2;cases x <;> cases y <;> rfl
   ·by_cases c1:how=1
    ·subst c1;cases x <;> cases y <;> rfl
    ·simp only[c1,c2,decide_false,cond_false,if_false]
     cases x <;> cases y <;> rfl
  have hin':=hin (yp a pq.1) (yp b pq.1)
  generalize (if how=2 then (yp a pq.1&&!yp b pq.1) else if how=1 then (yp a pq.1&&yp b pq.1) else (yp a pq.1||yp b pq.1))=inn at hin'
  -- the three steps are one
  have assoc:∀ (K:Bool->M (List RN)),(M.bind (cond (yp a pq.1) (M.pure true) (M.pure (yp b pq.1))) fun in97=>M.bind (cond (decide (how=1)) (M.bind (cond (yp a pq.1) (M.pure (yp b pq.1)) (M.pure false)) fun in101=>M.pure in101) (M.pure in97)) fun in99=>M.bind (cond (decide (how=2)) (M.bind (cond (yp a pq.1) (M.pure (!yp b pq.1)) (M.pure false)) fun in105=>M.pure in105) (M.pure in99)) K)=K inn:=by
   intro K;have:=congrArg (fun m=>M.bind m K) hin';exact this
  rw[assoc]
  cases inn with
  | false=>rfl
  | true=>
   simp only[cond_true,if_true];rcases xL t with rfl | ⟨l,y,rfl⟩
   ·have e:decide ((0:Int)<=IntKind.i64.wrap (((([]:List RN).length:Nat):Int) - 1))=false:=by
     rw[ue (by simp) (by simp)];simp
    rw[e];simp only[cond_false,zA];rw[zD (by simp),ZA (by omega) (by omega)]
    rfl
   ·have hy:=(Yi.1 v1).2.1;have hym:=zh.1 hy;have e0:IntKind.i64.wrap ((((l++[y]).length:Nat):Int) - 1)=(l.length:Int):=by
     simp only[List.length_append,List.length_singleton] at v2 ⊢;rw[ue (by omega) (by omega)];omega
    have e1:idx (l++[y]) (l.length:Int)=pure y:=zF (by simp);have e3:decide ((0:Int)<=(l.length:Int))=true:=by simp
    rw[e0,e3];simp only[cond_true,e1,zA,ZA (show 0<=y.hi+1 by omega) (by omega),ZA (show 0<=pq.2 - 1 by omega) (by omega)];rw[jD]
    by_cases hc:y.hi+1=pq.1
    ·simp only[hc,decide_true,cond_true,if_true,Int.toNat_natCast];have:(l++[y]).set l.length (⟨y.lo,pq.2 - 1⟩:RN)=l++[⟨y.lo,pq.2 - 1⟩]:=by simp
     rw[this]
     rfl
    ·simp only[hc,decide_false,cond_false,if_false];rw[zD (by simp only[List.length_append,List.length_singleton] at v2 ⊢;omega)]
     rfl) (fun t _=>by
  unfold XN;have e:decide (IntKind.i64.wrap (((xw P).length:Int)+1) < (P.length:Int))=false:=by
   rw[vLa,ue (by omega) (by omega)];simp;omega
  simp only[e,cond_false,zA]) [] ⟨Nat.zero_le _,by simp⟩
 rw[show((0:Int),([]:List RN))=(((0:Nat):Int),[]) from rfl,this];simp only[zA]
theorem y3a(a b:List RN)(h:a.length+b.length<=10000000000):WV a b=pure (XX (·||·) a b):=by
 unfold WV;rw[jF (·||·) 0 (fun x y=>by simp) rfl a b h,zB,zA]
theorem rmeet_eq(a b:List RN)(h:a.length+b.length<=10000000000):UB a b=pure (XX (·&&·) a b):=by
 unfold UB;rw[jF (·&&·) 1 (fun x y=>by simp) rfl a b h,zB,zA]
theorem vPa(a b:List RN)(h:a.length+b.length<=10000000000):WW a b=pure (XX (fun x y=>x&&!y) a b):=by
 unfold WW;rw[jF (fun x y=>x&&!y) 2 (fun x y=>by simp) rfl a b h,zB,zA]
def Qg(out:List RN)(x:RN):List RN:=match out.getLast? with
 | some y=>if x.lo<=y.hi+1 then out.dropLast++[⟨y.lo,max y.hi x.hi⟩] else out++[x]
 | none=>out++[x]
theorem qV(x:RN):Qg [] x=[x]:=rfl
theorem jG(l:List RN)(y x:RN):Qg (l++[y]) x=if x.lo<=y.hi+1 then l++[⟨y.lo,max y.hi x.hi⟩] else l++[y]++[x]:=by simp[Qg]
theorem x1a{out:List RN}{x:RN}(h:Nf out)(hx:YE x=true)(hlo:∀ y∈out,y.lo<=x.lo):Nf (Qg out x)/\(∀ n,yp (Qg out x) n=(yp out n||inR n x))/\(∀ y∈Qg out x,y.lo<=x.lo)/\(Qg out x).length<=out.length+1:=by
 have hxm:=zh.1 hx;rcases xL out with rfl | ⟨l,y,rfl⟩
 ·rw[qV];exact⟨⟨hx,by simp,trivial⟩,fun n=>by rw[ZC];simp,by simp,by simp⟩
 ·rw[jG];obtain⟨n1,n2,n3⟩:=Yi.1 h;have hym:=zh.1 n2;have hyx:=hlo y (by simp)
  by_cases hc:x.lo<=y.hi+1
  ·rw[if_pos hc];have hm:YE (⟨y.lo,max y.hi x.hi⟩:RN)=true:=zh.2 ⟨hym.1,by simp only;omega,by simp only;omega⟩;refine⟨Yi.2 ⟨n1,hm,n3⟩,fun n=>?_,fun z hz=>?_,by simp⟩
   ·rw[ZB,ZB,ZC,ZC,Bool.or_assoc]
    congr 1
    rw[Bool.eq_iff_iff,Bool.or_eq_true,vh,vh,vh];have:=zh.1 hm;simp only at this ⊢;omega
   ·rcases List.mem_append.1 hz with hz | hz
    ·exact hlo z (by simp[hz])
    ·simp at hz;subst hz;exact hyx
  ·rw[if_neg hc];refine⟨Yi.2 ⟨h,hx,fun z hz=>?_⟩,fun n=>by rw[ZB (l++[y]),ZC],fun z hz=>?_,by simp⟩
   ·rcases List.mem_append.1 hz with hz | hz
    ·have:=n3 z hz;omega
    ·simp at hz;subst hz;omega
   ·rcases List.mem_append.1 hz with hz | hz
    ·exact hlo z hz
    ·simp at hz;subst hz;exact Int.le_refl _
theorem jH : ∀ (s out:List RN),Nf out->(∀ x∈s,YE x=true)->s.Pairwise (fun x y=>x.lo<=y.lo)->(∀ y∈out,∀ x∈s,y.lo<=x.lo)->Nf (s.foldl Qg out)/\(∀ n,yp (s.foldl Qg out) n=(yp out n||yp s n))/\(s.foldl Qg out).length<=out.length+s.length
 | [],out,h,_,_,_=>⟨h,by simp,by simp⟩
 | x::r,out,h,hm,hp,hlo=>by
  obtain⟨a1,a2,a3,a4⟩:=x1a h (hm x (by simp)) fun y hy=>hlo y hy x (by simp)
  obtain⟨p1,p2⟩:=List.pairwise_cons.1 hp;obtain⟨i1,i2,i3⟩:=jH r _ a1 (fun y hy=>hm y (List.mem_cons_of_mem _ hy)) p2 fun y hy z hz=>by
   have:=a3 y hy;have:=p1 z hz;omega
  refine⟨i1,fun n=>?_,by simp;omega⟩;rw[List.foldl_cons,i2,a2,ui,Bool.or_assoc]
theorem vQa{l:List RN}{Q:List RN->Prop}(h:∀ s,s.Perm l->s.Pairwise (fun x y=>x.lo<=y.lo)->Q s):(srt jh l).wp Q:=by
 refine⟨⟨l.mergeSort (fun x y=>decide (x.lo<=y.lo)),List.mergeSort_perm _ _,?_⟩,fun s ⟨h1,h2⟩=>h s h1 (h2.imp fun {x y} h=>?_)⟩
 ·refine(List.pairwise_mergeSort (fun a b c h1 h2=>?_) (fun a b=>?_) l).imp fun {x y} h=>?_
  ·simp only[decide_eq_true_eq] at h1 h2 ⊢;omega
  ·simp only[Bool.or_eq_true,decide_eq_true_eq];omega
  ·simp only[decide_eq_true_eq] at h;unfold jh;simp only[decide_eq_false_iff_not];omega
 ·unfold jh at h;simp only[decide_eq_false_iff_not] at h;omega
theorem z7a(l:List RN)(h:l.length<=1000000000000):vV l=pure (nrm l):=by
 unfold vV;have h1:=ZW (body:=vT l) l (fun i (t:List RN)=>((i:Int),t)) (fun t x=>if YE x then t++[x] else t) (fun t=>pure t) (fun i t=>t.length<=i) (fun i x t hx hi hI=>by
  have h1:decide ((i:Int) < (l.length:Int))=true:=by simpa using hi
  refine⟨?_,by split <;> (try simp only[List.length_append,List.length_singleton]) <;> omega⟩;unfold vT;simp only[h1,cond_true,zF hx,zA,zq (show i < 9223372036854775807 by omega)];have e:(cond (decide (0 < x.lo)) (cond (decide (x.lo<=x.hi)) (M.pure (decide (x.hi<=281474976710655))) (M.pure false)) (M.pure false):M Bool)=pure (YE x):=by
   rw[zj,zj];refine congrArg pure ?_;rw[Bool.eq_iff_iff,zh];simp only[Bool.and_eq_true,decide_eq_true_eq];omega
  rw[e,zA]
  cases hm:YE x with
  | false=>simp[zA]
  | true=>
   rw[cond_true,zD (by simp;omega)];simp[zA]) (fun t _=>by unfold vT;simp[zA]) [] (by simp)
 have hf:∀ (l t:List RN),l.foldl (fun t x=>if YE x then t++[x] else t) t=t++l.filter YE:=by
  intro l
  induction l with
  | nil=>simp
  | cons x r ih=>
   intro t;rw[List.foldl_cons,ih]
   cases hm:YE x <;> simp[hm]
 rw[hf,List.nil_append] at h1;have h1':loop (vT l) (0,[])=pure (l.filter YE):=h1;have hfl:(l.filter YE).length<=l.length:=List.length_filter_le _ _;rw[h1',zA,zD (by omega)];refine uN (vQa fun s hs hp=>?_);have hsl:=hs.length_eq;have hmay:∀ x∈s,YE x=true:=fun x hx=>(List.mem_filter.1 (hs.mem_iff.1 hx)).2
 have hpre:∀ i,Nf ((s.take i).foldl Qg [])/\((s.take i).foldl Qg []).length<=i/\∀ x,s[i]?=some x->∀ y∈(s.take i).foldl Qg [],y.lo<=x.lo:=fun i=>by
  obtain⟨i1,i2,i3⟩:=jH (s.take i) [] trivial (fun x hx=>hmay x (List.mem_of_mem_take hx)) (List.Pairwise.sublist (List.take_sublist _ _) hp) (by simp);refine⟨i1,by simp at i3;omega,fun x hx y hy=>?_⟩;have hmy:=zh.1 (i1.may y hy);have:yp ((s.take i).foldl Qg []) y.lo=true:=xV.2 ⟨y,hy,i1.may y hy,by omega,by omega⟩;rw[i2] at this;simp only[yya,Bool.false_or] at this;obtain⟨z,hz,_,h3,_⟩:=xV.1 this
  -- z is ahead of x; y begins where one of those ahead begins
  have hall:∀ (s out:List RN),(∀ y∈s.foldl Qg out,(∃ z∈out,y.lo=z.lo)\/∃ z∈s,y.lo=z.lo):=by
   intro s
   induction s with
   | nil=>intro out y hy;exact .inl ⟨y,hy,rfl⟩
   | cons a r ih=>
    intro out y hy;rcases ih _ y hy with⟨z,hz,e⟩ | ⟨z,hz,e⟩
    ·rcases xL out with rfl | ⟨q,w,rfl⟩
     ·rw[qV] at hz;simp at hz;subst hz;exact .inr ⟨z,by simp,e⟩
     ·rw[jG] at hz
      split at hz
      ·rcases List.mem_append.1 hz with hz | hz
       ·exact .inl ⟨z,by simp[hz],e⟩
       ·simp at hz;subst hz;exact .inl ⟨w,by simp,e⟩
      ·rcases List.mem_append.1 hz with hz | hz
       ·exact .inl ⟨z,hz,e⟩
       ·simp at hz;subst hz;exact .inr ⟨z,by simp,e⟩
    ·exact .inr ⟨z,by simp[hz],e⟩
  rcases hall _ _ y hy with⟨z,hz,_⟩ | ⟨z,hz,e⟩
  ·simp at hz
  ·obtain⟨j,hj,hje⟩:=List.getElem_of_mem hz;have hlt:=(List.getElem?_eq_some_iff.1 hx).1;have hji:j < i:=by simp at hj;omega
   have:=List.pairwise_iff_getElem.1 hp j i (by omega) hlt hji;rw[List.getElem_take] at hje;have hxe:s[i]=x:=by rw[List.getElem?_eq_getElem hlt] at hx;simpa using hx
   rw[hje,hxe] at this;omega
 have h2:=ZW (body:=vU (l.filter YE) s) s (fun i (t:List RN)=>((i:Int),t)) Qg (fun t=>pure t) (fun i t=>t=(s.take i).foldl Qg []) (fun i x t hx hi hI=>by
  obtain⟨v1,v2,v3⟩:=hpre i;have v3:=v3 x hx;rw[<- hI] at v1 v2 v3;have hxm:=zh.1 (hmay x (List.mem_of_getElem? hx));have h1:decide ((i:Int) < ((l.filter YE).length:Int))=true:=by simp;omega
  refine⟨?_,by rw[List.take_add_one,hx];simp[hI]⟩;unfold vU;simp only[h1,cond_true,zF hx,zA,zq (show i < 9223372036854775807 by omega)];rcases xL t with rfl | ⟨q,y,rfl⟩
  ·have e:decide ((0:Int)<=IntKind.i64.wrap (((([]:List RN).length:Nat):Int) - 1))=false:=by
    rw[ue (by simp) (by simp)];simp
   rw[e];simp only[cond_false,zA];rw[zD (by simp),qV]
   rfl
  ·have hy:=(Yi.1 v1).2.1;have hym:=zh.1 hy;have e0:IntKind.i64.wrap ((((q++[y]).length:Nat):Int) - 1)=(q.length:Int):=by
    simp only[List.length_append,List.length_singleton] at v2 ⊢;rw[ue (by omega) (by omega)];omega
   have e1:idx (q++[y]) (q.length:Int)=pure y:=zF (by simp);have e3:decide ((0:Int)<=(q.length:Int))=true:=by simp
   rw[e0,e3];simp only[cond_true,e1,zA,ZA (show 0<=y.hi+1 by omega) (by omega)];rw[jG]
   by_cases hc:x.lo<=y.hi+1
   ·simp only[hc,decide_true,cond_true,if_true,Int.toNat_natCast];have:(q++[y]).set q.length (⟨y.lo,max y.hi x.hi⟩:RN)=q++[⟨y.lo,max y.hi x.hi⟩]:=by simp
    rw[this]
    rfl
   ·simp only[hc,decide_false,cond_false,if_false];rw[zD (by simp only[List.length_append,List.length_singleton] at v2 ⊢;omega)]
    rfl) (fun t _=>by
  unfold vU;have e:decide ((s.length:Int) < ((l.filter YE).length:Int))=false:=by simp;omega
  simp only[e,cond_false,zA]) [] (by simp)
 show(M.bind (M.loop (vU (l.filter YE) s) (0,[])) fun out38=>M.pure out38).wp (·=nrm l);rw[show((0:Int),([]:List RN))=(((0:Nat):Int),[]) from rfl,h2];obtain⟨i1,i2,_⟩:=jH s [] trivial hmay hp (by simp);exact nrm_of i1 fun n=>by rw[i2,Qe hs,z4a];simp
def Xe(nums:List Int):List RN:=nums.map fun n=>⟨n,n⟩
def vRa(x y:Int):Int:=if x < y then -1 else if y < x then 1 else 0
theorem vSa(x y:Int):yi x y=pure (vRa x y):=by
 unfold yi wG vRa;simp only[decide_true,Bool.not_true,zB,zA,cond_false,yu]
 split
 ·rfl
 ·split <;> rfl
theorem vTa(x:RN)(n:Int):uO x n=pure (vRa x.hi n):=by
 unfold uO;rw[vSa,zB,zA]
def qW : List RN->Int->Nat
 | [],_=>0
 | x::r,n=>if x.hi < n then qW r n+1 else 0
theorem Qh : ∀ {v:List RN} {n:Int} {c:Nat},c<=v.length->(∀ (k:Nat) (x:RN),k < c->v[k]?=some x->x.hi < n)->(∀ (k:Nat) (x:RN),c<=k->v[k]?=some x->n<=x.hi)->c=qW v n
 | [],n,c,h,_,_=>by simp at h;simp[qW,h]
 | x::r,n,0,_,_,h2=>by
  have:=h2 0 x (by omega) rfl;simp only[qW];rw[if_neg (by omega)]
 | x::r,n,c+1,h,h1,h2=>by
  have:=h1 0 x (by omega) rfl;simp only[qW];rw[if_pos this,<- Qh (v:=r) (n:=n) (c:=c) (by simpa using h) (fun k y hk hy=>h1 (k+1) y (by omega) (by simpa using hy)) (fun k y hk hy=>h2 (k+1) y (by omega) (by simpa using hy))]
theorem vUa{v:List RN}(h:Nf v):∀ {i j:Nat} {x y:RN},i < j->v[i]?=some x->v[j]?=some y->x.hi < y.hi:=by
 induction v with
 | nil=>intro i j x y _ hx;simp at hx
 | cons z r ih=>
  intro i j x y hij hx hy
  cases j with
  | zero=>omega
  | succ j=>
   have hyr:r[j]?=some y:=by simpa using hy
   have hym:=List.mem_of_getElem? hyr
   cases i with
   | zero=>
    simp at hx;subst hx;have:=h.2.1 y hym;have:=zh.1 (h.2.2.may y hym);omega
   | succ i=>exact ih h.2.2 (show i < j by omega) (by simpa using hx) hyr
theorem bs_loop(v:List RN)(n:Int)(hv:Nf v)(hl:v.length<=1000000000000):loop (zR v n) (0,(v.length:Int))=pure (qW v n:Int):=by
 refine uN (loop_inv (fun s=>∃ i j:Nat,s=((i:Int),(j:Int))/\i<=j/\j<=v.length/\(∀ (k:Nat) (x:RN),k < i->v[k]?=some x->x.hi < n)/\(∀ (k:Nat) (x:RN),j<=k->v[k]?=some x->n<=x.hi)) (fun s=>(s.2 - s.1).toNat) ?_ _ ⟨0,v.length,rfl,Nat.zero_le _,Nat.le_refl _,fun k x hk=>absurd hk (Nat.not_lt_zero _),fun k x hk hx=>absurd (List.getElem?_eq_some_iff.1 hx).1 (Nat.not_lt.2 hk)⟩);rintro _ ⟨i,j,rfl,hij,hj,h1,h2⟩;unfold zR;simp only[yu]
 by_cases hc:(i:Int) < j
 ·rw[if_pos hc];have e:IntKind.i64.wrap (Int.fdiv (IntKind.u64.wrap (IntKind.i64.wrap ((i:Int)+j))) (2 ^ 1))=(((i+j) / 2:Nat):Int):=by
   rw[ue (n:=(i:Int)+j) (by omega) (by omega),ZA (by omega) (by omega),Int.fdiv_eq_ediv_of_nonneg _ (by decide)];have:((i:Int)+j) / 2 ^ 1=(((i+j) / 2:Nat):Int):=by omega
   rw[this,ue (by omega) (by omega)]
  have hm:(i+j) / 2 < v.length:=by omega
  rw[e];simp only[zF (List.getElem?_eq_getElem hm),zA,vTa,zB,zq (show(i+j) / 2 < 9223372036854775807 by omega)]
  by_cases hlt:v[(i+j) / 2].hi < n
  ·have:vRa v[(i+j) / 2].hi n < 0:=by unfold vRa;rw[if_pos hlt];decide
   rw[if_pos this];refine⟨⟨(i+j) / 2+1,j,rfl,by omega,hj,fun k x hk hx=>?_,h2⟩,?_⟩
   ·by_cases e:k=(i+j) / 2
    ·subst e;rw[List.getElem?_eq_getElem hm] at hx;cases hx;exact hlt
    ·have:=vUa hv (show k < (i+j) / 2 by omega) hx (List.getElem?_eq_getElem hm);omega
   ·simp only;omega
  ·have:¬ vRa v[(i+j) / 2].hi n < 0:=by unfold vRa;rw[if_neg hlt];split <;> decide
   rw[if_neg this];refine⟨⟨i,(i+j) / 2,rfl,by omega,by omega,h1,fun k x hk hx=>?_⟩,?_⟩
   ·by_cases e:k=(i+j) / 2
    ·subst e;rw[List.getElem?_eq_getElem hm] at hx;cases hx;omega
    ·have:=vUa hv (show(i+j) / 2 < k by omega) (List.getElem?_eq_getElem hm) hx;omega
   ·simp only;omega
 ·rw[if_neg hc];have hij':i=j:=by omega
  subst hij';show(i:Int)=(qW v n:Int)
  rw[<- Qh hj h1 h2]
def hitB(v:List RN)(n:Int):Bool:=match v[qW v n]? with | some x=>decide (vRa x.hi n=0) | none=>false
theorem bs_eq(v:List RN)(n:Int)(hv:Nf v)(hl:v.length<=1000000000000):zK v n=pure ((qW v n:Int),hitB v n):=by
 unfold zK hitB;rw[bs_loop v n hv hl,zA]
 by_cases hc:qW v n < v.length
 ·have:decide ((qW v n:Int) < (v.length:Int))=true:=by simpa using hc
  rw[this,cond_true,zF (List.getElem?_eq_getElem hc)];simp only[zA,vTa,zB,List.getElem?_eq_getElem hc]
 ·have:decide ((qW v n:Int) < (v.length:Int))=false:=by simpa using hc
  rw[this,cond_false,zA,List.getElem?_eq_none (by omega)]
theorem y4a : ∀ {v:List RN} (n:Int),Nf v->yp v n=(match v[qW v n]? with | some x=>decide (x.lo<=n) | none=>false)
 | [],n,_=>rfl
 | x::r,n,h=>by
  by_cases hc:x.hi < n
  ·simp only[qW,if_pos hc,List.getElem?_cons_succ];rw[<- y4a n h.2.2,ui];have:inR n x=false:=by
    rw[Bool.eq_false_iff];intro h;have:=(vh.1 h).2.2;omega
   rw[this,Bool.false_or]
  ·simp only[qW,if_neg hc,List.getElem?_cons_zero];rw[Bool.eq_iff_iff,decide_eq_true_eq]
   constructor
   ·exact UO h
   ·intro hle;exact(z5a h hle).2 (.inl (by omega))
theorem has_eq(l:List RN)(n:Int)(h:l.length<=100000000000):Vw l n=pure (yp l n):=by
 unfold Vw;have hl:=Xy l;rw[z7a l (by omega),zB,zA,bs_eq _ n (jE l) (by omega),zB,zA,<- uj l n,y4a n (jE l)]
 generalize nrm l=v
 by_cases hc:qW v n < v.length
 ·have:decide ((qW v n:Int) < (v.length:Int))=true:=by simpa using hc
  simp only[this,cond_true,zF (List.getElem?_eq_getElem hc),zA,List.getElem?_eq_getElem hc]
 ·have:decide ((qW v n:Int) < (v.length:Int))=false:=by simpa using hc
  simp only[this,cond_false,zA,List.getElem?_eq_none (show v.length<=qW v n by omega)]
theorem Wq(l:List Int):(Xe l).length=l.length:=by simp[Xe]
end Go.Ep.M.R
namespace Go.Ep.M.C
open Go
def yc(c:List PT)(k:Int):List RN:=(c.filter fun p=>decide (p.dev=k)&&decide (0 < k)).flatMap (·.runs)
theorem qX(k:Int):yc [] k=[]:=rfl
theorem uk(p:PT)(c:List PT)(k:Int):yc (p::c) k=(if p.dev=k/\0 < k then p.runs else [])++yc c k:=by
 unfold yc;rw[List.filter_cons]
 by_cases h:p.dev=k/\0 < k
 ·simp[h.1,h.2]
 ·rw[if_neg (by simpa using h),if_neg h];rfl
theorem Wr(a b:List PT)(k:Int):yc (a++b) k=yc a k++yc b k:=by simp[yc,List.filter_append]
theorem qY{c:List PT}{k:Int}(h:¬ 0 < k):yc c k=[]:=by simp[yc,h]
def vn(c:List PT)(k n:Int):Bool:=R.yp (yc c k) n
theorem hasC_app(a b:List PT)(k n:Int):vn (a++b) k n=(vn a k n||vn b k n):=by simp[vn,Wr,R.ZB]
def xW(c:List PT):Nat:=(c.map fun p=>p.runs.length).sum
theorem qZ(a b:List PT):xW (a++b)=xW a+xW b:=by simp[xW]
theorem Zy(c:List PT)(k:Int):(yc c k).length<=xW c:=by
 induction c with
 | nil=>simp[yc]
 | cons p r ih=>
  rw[uk,List.length_append];have:xW (p::r)=p.runs.length+xW r:=by simp[xW]
  split
  ·omega
  ·simp;omega
theorem qa(ks:List Int):(ks.map fun _=>0).sum=0:=by
 induction ks with
 | nil=>rfl
 | cons k r ih=>rw[List.map_cons,List.sum_cons,ih]
theorem qb(c:List PT)(ks:List Int)(h:ks.Nodup):(ks.map fun k=>(yc c k).length).sum<=xW c:=by
 induction c with
 | nil=>simp only[qX,List.length_nil,qa];exact Nat.zero_le _
 | cons p r ih=>
  have e:xW (p::r)=p.runs.length+xW r:=by simp[xW]
  have h1:(ks.map fun k=>(yc (p::r) k).length).sum=(ks.map fun k=>if p.dev=k/\0 < k then p.runs.length else 0).sum+(ks.map fun k=>(yc r k).length).sum:=by
   clear h ih
   induction ks with
   | nil=>rfl
   | cons k ks ih2=>
    simp only[List.map_cons,List.sum_cons,uk,List.length_append] at ih2 ⊢
    by_cases hc:p.dev=k/\0 < k
    ·rw[if_pos hc,if_pos hc];omega
    ·rw[if_neg hc,if_neg hc,List.length_nil];omega
  have h2:(ks.map fun k=>if p.dev=k/\0 < k then p.runs.length else 0).sum<=p.runs.length:=by
   clear ih h1 e
   induction ks with
   | nil=>simp
   | cons k ks ih2=>
    obtain⟨n1,n2⟩:=List.nodup_cons.1 h;simp only[List.map_cons,List.sum_cons]
    by_cases hk:p.dev=k
    ·have h0:(ks.map fun k=>if p.dev=k/\0 < k then p.runs.length else 0).sum=0:=by
      have:(ks.map fun k=>if p.dev=k/\0 < k then p.runs.length else 0)=ks.map fun _=>0:=by
       refine List.map_congr_left fun q hq=>?_
       rw[if_neg];rintro⟨e,_⟩;exact n1 (by rw[<- hk,e];exact hq)
      rw[this];exact qa ks
     rw[h0]
     split <;> omega
    ·rw[if_neg (fun h=>hk h.1)];have:=ih2 n2;omega
  omega
def OrdP(l:List PT):Prop:=l.Pairwise fun x y=>x.dev < y.dev
theorem UP : ∀ {l l':List PT},OrdP l->OrdP l'->(∀ d,d∈l↔d∈l')->l=l'
 | [],[],_,_,_=>rfl
 | [],y::r,_,_,h=>absurd ((h y).2 (by simp)) (by simp)
 | x::r,[],_,_,h=>absurd ((h x).1 (by simp)) (by simp)
 | x::r,y::q,h1,h2,h=>by
  obtain⟨a1,a2⟩:=List.pairwise_cons.1 h1;obtain⟨b1,b2⟩:=List.pairwise_cons.1 h2;have e:x=y:=by
   rcases List.mem_cons.1 ((h x).1 (by simp)) with e | hx
   ·exact e
   ·rcases List.mem_cons.1 ((h y).2 (by simp)) with e | hy
    ·exact e.symm
    ·have:=a1 y hy;have:=b1 x hx;omega
  subst e
  congr 1
  refine UP a2 b2 fun d=>⟨fun hd=>?_,fun hd=>?_⟩
  ·rcases List.mem_cons.1 ((h d).1 (List.mem_cons_of_mem _ hd)) with e | hx
   ·subst e;have:=a1 d hd;omega
   ·exact hx
  ·rcases List.mem_cons.1 ((h d).2 (List.mem_cons_of_mem _ hd)) with e | hx
   ·subst e;have:=b1 d hd;omega
   ·exact hx
def yK(f:Int->List RN)(ks:List Int):List PT:=ks.filterMap fun k=>if f k=[] then none else some ⟨k,f k⟩
theorem vH{f:Int->List RN}{ks:List Int}{p:PT}:p∈yK f ks↔p.dev∈ks/\p.runs≠[]/\p.runs=f p.dev:=by
 unfold yK;rw[List.mem_filterMap]
 constructor
 ·rintro⟨k,hk,h⟩
  split at h
  ·cases h
  ·rename_i h0;cases h;exact⟨hk,h0,rfl⟩
 ·rintro⟨h1,h2,h3⟩;refine⟨p.dev,h1,?_⟩;rw[if_neg (by rw[<- h3];exact h2),<- h3]
theorem vI{f:Int->List RN}{ks:List Int}(h:ks.Pairwise (· < ·)):OrdP (yK f ks):=by
 unfold OrdP yK;rw[List.pairwise_filterMap];refine h.imp fun {a b} hab x hx y hy=>?_
 split at hx
 ·cases hx
 ·split at hy
  ·cases hy
  ·cases hx;cases hy;exact hab
theorem jI{f g:Int->List RN}{ks ls:List Int}(h1:ks.Pairwise (· < ·))(h2:ls.Pairwise (· < ·))(hf:∀ k,f k=g k)(h:∀ k,f k≠[]->(k∈ks↔k∈ls)):yK f ks=yK g ls:=by
 refine UP (vI h1) (vI h2) fun p=>?_
 rw[vH,vH]
 constructor
 ·rintro⟨a,b,c⟩;exact⟨(h _ (by rw[<- c];exact b)).1 a,b,by rw[c,hf]⟩
 ·rintro⟨a,b,c⟩;exact⟨(h _ (by rw[hf,<- c];exact b)).2 a,b,by rw[c,hf]⟩
theorem z8a(f:Int->List RN)(ks:List Int):(yK f ks).length<=ks.length:=List.length_filterMap_le _ _
theorem jJ(f:Int->List RN)(ks:List Int):xW (yK f ks)=(ks.map fun k=>(f k).length).sum:=by
 induction ks with
 | nil=>rfl
 | cons k ks ih=>
  have:yK f (k::ks)=(if f k=[] then [] else [⟨k,f k⟩])++yK f ks:=by
   unfold yK
   by_cases h:f k=[] <;> simp[h]
  rw[this,qZ,ih]
  by_cases h:f k=[] <;> simp[h,xW]
theorem jK{f:Int->List RN}{ks:List Int}(h:ks.Nodup)(k:Int):yc (yK f ks) k=if k∈ks/\0 < k then f k else []:=by
 induction ks with
 | nil=>simp[yK,yc]
 | cons q ks ih=>
  obtain⟨n1,n2⟩:=List.nodup_cons.1 h;have e:yK f (q::ks)=(if f q=[] then [] else [⟨q,f q⟩])++yK f ks:=by
   unfold yK
   by_cases h:f q=[] <;> simp[h]
  rw[e,Wr,ih n2]
  by_cases hq:q=k
  ·subst hq;rw[if_neg (fun(h:q∈ks/\0 < q)=>n1 h.1),List.append_nil]
   by_cases h0:f q=[]
   ·rw[if_pos h0,h0];simp[yc]
   ·rw[if_neg h0]
    by_cases hp:0 < q
    ·rw[if_pos ⟨List.mem_cons_self,hp⟩];simp[yc,hp]
    ·rw[if_neg (fun h=>hp h.2)];exact qY hp
  ·have:yc (if f q=[] then [] else [(⟨q,f q⟩:PT)]) k=[]:=by
    by_cases h0:f q=[] <;> simp[h0,yc,hq]
   rw[this];have hm:(k∈q::ks)↔k∈ks:=by simp[Ne.symm hq]
   simp only[hm,List.nil_append]
def Qi(l:List Int)(p:PT):List Int:=if 0 < p.dev then V.jf l p.dev else l
def Xf(c:List PT):List Int:=c.foldl Qi []
theorem Wm(c:List PT):∀ l:List Int,l.Pairwise (· < ·)->(c.foldl Qi l).Pairwise (· < ·)/\(∀ k,k∈c.foldl Qi l↔k∈l\/∃ p∈c,p.dev=k/\0 < k)/\(c.foldl Qi l).length<=l.length+c.length:=by
 induction c with
 | nil=>intro l h;simp[h]
 | cons p r ih=>
  intro l h;rw[List.foldl_cons]
  by_cases hp:0 < p.dev
  ·have e:Qi l p=V.jf l p.dev:=by simp[Qi,hp]
   rw[e];obtain⟨h1,h2,h3⟩:=ih _ (V.uh h p.dev);refine⟨h1,fun k=>?_,by have:=V.Wl l p.dev;simp;omega⟩;rw[h2,V.UM]
   constructor
   ·rintro((rfl | h4) | ⟨x,h4,h5⟩)
    ·exact .inr ⟨p,by simp,rfl,hp⟩
    ·exact .inl h4
    ·exact .inr ⟨x,by simp[h4],h5⟩
   ·rintro(h4 | ⟨x,h4,h5,h6⟩)
    ·exact .inl (.inr h4)
    ·rcases List.mem_cons.1 h4 with rfl | h4
     ·exact .inl (.inl h5.symm)
     ·exact .inr ⟨x,h4,h5,h6⟩
  ·have e:Qi l p=l:=by simp[Qi,hp]
   rw[e];obtain⟨h1,h2,h3⟩:=ih _ h;refine⟨h1,fun k=>?_,by simp;omega⟩;rw[h2]
   constructor
   ·rintro(h4 | ⟨x,h4,h5⟩)
    ·exact .inl h4
    ·exact .inr ⟨x,by simp[h4],h5⟩
   ·rintro(h4 | ⟨x,h4,h5,h6⟩)
    ·exact .inl h4
    ·rcases List.mem_cons.1 h4 with rfl | h4
     ·rw[h5] at hp;exact absurd h6 hp
     ·exact .inr ⟨x,h4,h5,h6⟩
theorem vJ(c:List PT):(Xf c).Pairwise (· < ·):=(Wm c [] List.Pairwise.nil).1
theorem Qj{l:List Int}(h:l.Pairwise (· < ·)):l.Nodup:=h.imp fun {a b} h e=>by omega
theorem ZY(c:List PT):(Xf c).Nodup:=Qj (vJ c)
theorem vA{c:List PT}{k:Int}:k∈Xf c↔(∃ p∈c,p.dev=k)/\0 < k:=by
 have:=(Wm c [] List.Pairwise.nil).2.1 k;unfold Xf;rw[this];simp only[List.not_mem_nil,false_or]
 constructor
 ·rintro⟨p,h1,h2,h3⟩;exact⟨⟨p,h1,h2⟩,h3⟩
 ·rintro⟨⟨p,h1,h2⟩,h3⟩;exact⟨p,h1,h2,h3⟩
theorem len_devs(c:List PT):(Xf c).length<=c.length:=by simpa[Xf] using (Wm c [] List.Pairwise.nil).2.2
theorem uD{c:List PT}{k:Int}(h:yc c k≠[]):k∈Xf c:=by
 rw[vA];refine Classical.byContradiction fun hn=>h ?_
 unfold yc;have:(c.filter fun p=>decide (p.dev=k)&&decide (0 < k))=[]:=by
  rw[List.filter_eq_nil_iff];intro p hp;simp only[Bool.and_eq_true,decide_eq_true_eq];rintro⟨h1,h2⟩;exact hn ⟨⟨p,hp,h1⟩,h2⟩
 rw[this];rfl
def opC(op:Bool->Bool->Bool)(a b:List PT):List PT:=yK (fun k=>R.XX op (yc a k) (yc b k)) (Xf (a++b))
def yT(c:List PT):List PT:=yK (fun k=>R.nrm (yc c k)) (Xf c)
theorem y5a{op:Bool->Bool->Bool}(h0:op false false=false):R.XX op [] []=[]:=by
 have:=R.yQ op h0 [] [];exact R.JI this.1 trivial fun n=>by rw[this.2.1];exact h0
theorem jL : R.nrm []=[]:=y5a rfl
theorem vVa{op:Bool->Bool->Bool}(h0:op false false=false)(a b:List PT)(k n:Int):vn (opC op a b) k n=op (vn a k n) (vn b k n):=by
 unfold vn opC;rw[jK (ZY _)]
 split
 ·rw[(R.yQ op h0 _ _).2.1]
 ·rename_i h
  have e:yc a k=[]/\yc b k=[]:=by
   have h1:yc (a++b) k=[]:=Classical.byContradiction fun h2=>h ⟨uD h2,(vA.1 (uD h2)).2⟩
   rw[Wr] at h1;simpa using h1
  rw[e.1,e.2];show R.yp [] n=_;simp[R.yp,h0]
theorem Qk(c:List PT)(k n:Int):vn (yT c) k n=vn c k n:=by
 unfold vn yT;rw[jK (ZY _)]
 split
 ·rw[R.uj]
 ·rename_i h
  have e:yc c k=[]:=Classical.byContradiction fun h2=>h ⟨uD h2,(vA.1 (uD h2)).2⟩
  rw[e]
structure Canon(c:List PT):Prop where
 ord:OrdP c
 nf:∀ p∈c,0 < p.dev/\p.runs≠[]/\R.Nf p.runs
theorem jM{f:Int->List RN}{c:List PT}(h:∀ k,R.Nf (f k)):Canon (yK f (Xf c)):=⟨vI (vJ c),fun p hp=>by
 obtain⟨h1,h2,h3⟩:=vH.1 hp;exact⟨(vA.1 h1).2,h2,by rw[h3];exact h _⟩⟩
theorem y6a{op:Bool->Bool->Bool}(h0:op false false=false)(a b:List PT):Canon (opC op a b):=jM fun _=>(R.yQ op h0 _ _).1
theorem uI(c:List PT):Canon (yT c):=jM fun _=>R.jE _
theorem UQ : ∀ {c:List PT},OrdP c->∀ p∈c,0 < p.dev->yc c p.dev=p.runs
 | [],_,p,hp,_=>by simp at hp
 | q::r,h,p,hp,h0=>by
  obtain⟨h1,h2⟩:=List.pairwise_cons.1 h;rw[uk];rcases List.mem_cons.1 hp with rfl | hp
  ·rw[if_pos ⟨rfl,h0⟩];have:yc r p.dev=[]:=by
    unfold yc;have:(r.filter fun x=>decide (x.dev=p.dev)&&decide (0 < p.dev))=[]:=by
     rw[List.filter_eq_nil_iff];intro x hx;have:=h1 x hx;simp;omega
    rw[this];rfl
   rw[this,List.append_nil]
  ·have:=h1 p hp;rw[if_neg (by omega),UQ h2 p hp h0];rfl
theorem Canon.eq_norm{c:List PT}(h:Canon c):c=yT c:=by
 refine UP h.ord (uI c).ord fun p=>?_
 unfold yT;rw[vH]
 constructor
 ·intro hp;obtain⟨h1,h2,h3⟩:=h.nf p hp;exact⟨vA.2 ⟨⟨p,hp,rfl⟩,h1⟩,h2,by rw[UQ h.ord p hp h1,R.y2a h3]⟩
 ·rintro⟨h1,h2,h3⟩;obtain⟨⟨q,hq,hd⟩,h0⟩:=vA.1 h1;obtain⟨g1,g2,g3⟩:=h.nf q hq;have e:yc c p.dev=q.runs:=by rw[<- hd];exact UQ h.ord q hq g1
  rw[e,R.y2a g3] at h3;have:p=q:=by cases p;cases q;simp_all
  rw[this];exact hq
theorem Ql{a b:List PT}(h:∀ k n,vn a k n=vn b k n):yT a=yT b:=by
 have hf:∀ k,R.nrm (yc a k)=R.nrm (yc b k):=fun k=>R.JI (R.jE _) (R.jE _) fun n=>by rw[R.uj,R.uj];exact h k n
 refine jI (vJ a) (vJ b) hf fun k hk=>?_
 have ha:yc a k≠[]:=fun e=>hk (by rw[e];exact jL)
 have hb:yc b k≠[]:=fun e=>hk (by rw[hf,e];exact jL)
 exact⟨fun _=>uD hb,fun _=>uD ha⟩
theorem Canon.ext{a b:List PT}(ha:Canon a)(hb:Canon b)(h:∀ k n,vn a k n=vn b k n):a=b:=by rw[ha.eq_norm,hb.eq_norm];exact Ql h
theorem JL{c:List PT}(h:Canon c):yT c=c:=h.eq_norm.symm
theorem vWa(a b:List PT):yT (a++b)=opC (·||·) a b:=(uI _).ext (y6a rfl a b) fun k n=>by rw[Qk,hasC_app,vVa rfl]
theorem Qm : Canon []:=⟨List.Pairwise.nil,fun p h=>by simp at h⟩
theorem Yj(c:List PT):(yT c).length<=c.length:=Nat.le_trans (z8a _ _) (len_devs c)
theorem sum_le{ks:List Int}{f g:Int->Nat}(h:∀ k,f k<=g k):(ks.map f).sum<=(ks.map g).sum:=by
 induction ks with
 | nil=>simp
 | cons k r ih=>have:=h k;simp;omega
theorem sum_two(ks:List Int)(f g:Int->Nat):(ks.map fun k=>2*(f k+g k)).sum=2*((ks.map f).sum+(ks.map g).sum):=by
 induction ks with
 | nil=>rfl
 | cons k r ih=>simp;omega
theorem Yk(c:List PT):xW (yT c)<=2*xW c:=by
 unfold yT;rw[jJ];refine Nat.le_trans (sum_le (g:=fun k=>2*((yc c k).length+0)) fun k=>by have:=R.Xy (yc c k);omega) ?_;rw[sum_two];have h1:=qb c (Xf c) (ZY _);have h2:=qa (Xf c);omega
theorem get_grow(l:List (Int×List RN)):∀ (m:List (Int×List RN)) (k:Int),AL.getZ (AL.grow m l) k []=AL.getZ m k []++(l.filter fun x=>decide (x.1=k)).flatMap (·.2):=by
 induction l with
 | nil=>intro m k;simp[AL.grow]
 | cons x r ih=>
  intro m k;show AL.getZ (AL.grow (AL.set m x.1 (AL.getZ m x.1 []++x.2)) r) k []=_;rw[ih,AL.getZ_set,List.filter_cons]
  by_cases h:x.1=k
  ·subst h;simp
  ·simp[h]
theorem x2a(l:List (Int×List RN)):∀ m:List (Int×List RN),(m.map (·.1)).Nodup->((AL.grow m l).map (·.1)).Nodup:=by
 induction l with
 | nil=>intro m h;exact h
 | cons x r ih=>intro m h;exact ih _ (AL.nodup_set h _ _)
theorem len_grow(l:List (Int×List RN)):∀ m:List (Int×List RN),(AL.grow m l).length<=m.length+l.length:=by
 induction l with
 | nil=>intro m;exact Nat.le_refl _
 | cons x r ih=>
  intro m;have h1:=ih (AL.set m x.1 (AL.getZ m x.1 []++x.2));have h2:=AL.len_set m x.1 (AL.getZ m x.1 []++x.2);show(AL.grow (AL.set m x.1 (AL.getZ m x.1 []++x.2)) r).length<=_;simp only[List.length_cons];omega
theorem key_grow(l:List (Int×List RN)):∀ (m:List (Int×List RN)) (k:Int),k∈(AL.grow m l).map (·.1)->k∈m.map (·.1)\/∃ x∈l,x.1=k:=by
 induction l with
 | nil=>intro m k h;exact .inl h
 | cons x r ih=>
  intro m k h;rcases ih _ k h with h | ⟨y,hy,e⟩
  ·rw[AL.keys_set] at h
   split at h
   ·exact .inl h
   ·rcases List.mem_append.1 h with h | h
    ·exact .inl h
    ·exact .inr ⟨x,by simp,(List.mem_singleton.1 h).symm⟩
  ·exact .inr ⟨y,by simp[hy],e⟩
def Yh(c:List PT):List (Int×List RN):=AL.grow [] (c.filterMap zo)
theorem Wn(c:List PT)(k:Int):AL.getZ (Yh c) k []=yc c k:=by
 unfold Yh;rw[get_grow];show[]++_=_;rw[List.nil_append]
 induction c with
 | nil=>rfl
 | cons p r ih=>
  rw[uk,<- ih,List.filterMap_cons]
  by_cases h0:0 < p.dev
  ·have e:zo p=some (p.dev,p.runs):=by simp[zo,h0]
   rw[e];simp only[List.filter_cons]
   by_cases h:p.dev=k
   ·subst h;simp[h0]
   ·simp[h]
  ·have e:zo p=none:=by simp[zo,h0]
   rw[e,if_neg (by rintro⟨h1,h2⟩;omega)];rfl
theorem XW(c:List PT):((Yh c).map (·.1)).Nodup:=x2a _ _ (by simp)
theorem told_len(c:List PT):(Yh c).length<=c.length:=by
 have h1:=len_grow (c.filterMap zo) [];have h2:=List.length_filterMap_le zo c;unfold Yh;simp at h1;omega
theorem told_pos{c:List PT}{k:Int}(h:k∈(Yh c).map (·.1)):0 < k/\k∈Xf c:=by
 rcases key_grow _ _ _ h with h | ⟨x,hx,rfl⟩
 ·simp at h
 ·rw[List.mem_filterMap] at hx;obtain⟨p,hp,hx⟩:=hx;unfold zo at hx
  split at hx
  ·rename_i h0;cases hx;exact⟨h0,vA.2 ⟨⟨p,hp,rfl⟩,h0⟩⟩
  ·cases hx
theorem qO{c:List PT}{e:Int×List RN}(h:e∈Yh c):e.2=yc c e.1/\0 < e.1/\e.1∈Xf c:=by
 have h1:=AL.mem_get (XW c) (k:=e.1) (v:=e.2) h;have h2:=Wn c e.1;unfold AL.getZ at h2;rw[h1] at h2;exact⟨h2,told_pos (List.mem_map.2 ⟨e,h,rfl⟩)⟩
theorem told_at{c:List PT}{k:Int}(h:yc c k≠[]):(k,yc c k)∈Yh c:=by
 have h2:=Wn c k;unfold AL.getZ at h2
 cases hg:AL.get (Yh c) k with
 | none=>rw[hg] at h2;exact absurd h2.symm h
 | some v=>rw[hg] at h2;simp only[Option.getD_some] at h2;subst h2;exact AL.get_mem hg
theorem tot_told(c:List PT):((c.filterMap zo).map fun x=>x.2.length).sum<=xW c:=by
 induction c with
 | nil=>simp
 | cons p r ih=>
  have e:xW (p::r)=p.runs.length+xW r:=by simp[xW]
  rw[List.filterMap_cons]
  by_cases h0:0 < p.dev
  ·have e2:zo p=some (p.dev,p.runs):=by simp[zo,h0]
   rw[e2];simp only[List.map_cons,List.sum_cons];omega
  ·have e2:zo p=none:=by simp[zo,h0]
   rw[e2];simp only;omega
def Sm(c:List PT):Prop:=c.length<=10000000000/\xW c<=10000000000
theorem vXa(c:List PT)(h:Sm c):WR c=pure (Yh c):=by
 unfold WR;rw[zD]
 ·rfl
 ·have:=tot_told c;refine⟨by have:=h.1;omega,?_⟩;have:=h.2;omega
theorem order_eq(m:List (Int×List RN))(f:Int->List RN)(ks:List Int)(hl:m.length<=1000000000000)(hr:∀ e∈m,e.2.length<=1000000000000)(hn:(m.map (·.1)).Nodup)(hs:ks.Pairwise (· < ·))(h1:∀ e∈m,R.nrm e.2≠[]->e.1∈ks/\R.nrm e.2=f e.1)(h2:∀ k∈ks,f k≠[]->∃ r,(k,r)∈m/\R.nrm r=f k):YS m=pure (yK f ks):=by
 unfold YS;have hall:∀ Q:List PT->Prop,(∀ l:List (Int×List RN),l.Perm m->Q ((l.filter fun e=>decide (R.nrm e.2≠[])).map fun e=>(⟨e.1,R.nrm e.2⟩:PT)))->(loop (uu m) ([],([]:List PT))).wp Q:=by
  intro Q hQ;refine M.loopM (body:=uu m) m (fun L (t:List PT)=>(L,t)) (fun t e=>(vV e.2).det.bind fun v=>if 0 < v.length then yM ((t.length+1)*32<=140737488355328) (pure (t++[(⟨e.1,v⟩:PT)])) else pure t) (fun t=>pure t)
   (fun l t=>t=((l.filter fun e=>decide (R.nrm e.2≠[])).map fun e=>(⟨e.1,R.nrm e.2⟩:PT))) Q (fun L t hL=>?_) (fun l t y ht hlen hy=>?_) (fun l t hp ht=>?_) [] rfl
  ·unfold uu;show yM _ ((nxt _ _).bind _)=yM _ ((nxt _ _).bind _);refine congrArg (fun k=>yM _ ((nxt _ _).bind k)) (funext fun o=>?_)
   cases o with
   | none=>rfl
   | some i=>
    refine congrArg (fun k=>(idx m (Int.ofNat i)).bind k) (funext fun y=>?_);rw[jx];refine congrArg (fun k=>(vV y.2).det.bind k) (funext fun v=>?_);rw[yu]
    by_cases h:0 < v.length
    ·rw[if_pos (by omega),if_pos h];rfl
    ·rw[if_neg (by omega),if_neg h];rfl
  ·have hle:=List.length_filter_le (fun e:Int×List RN=>decide (R.nrm e.2≠[])) l;have htl:t.length<=l.length:=by rw[ht,List.length_map];exact hle
   rw[R.z7a y.2 (hr y hy),zB,zA];refine⟨if R.nrm y.2=[] then t else t++[⟨y.1,R.nrm y.2⟩],?_,?_⟩
   ·by_cases h:R.nrm y.2=[]
    ·rw[if_neg (by rw[h];simp),if_pos h]
    ·rw[if_pos (by rw[List.length_pos_iff];exact h),if_neg h,zD (by omega)]
   ·subst ht;rw[List.filter_append,List.map_append]
    by_cases h:R.nrm y.2=[] <;> simp[h]
  ·subst ht;exact hQ l hp
 refine uN (hall _ fun l hp=>?_);show(yM _ _).wp _;have hll:=hp.length_eq;have hle:=List.length_filter_le (fun e:Int×List RN=>decide (R.nrm e.2≠[])) l;have hmem:∀ d:PT,d∈((l.filter fun e=>decide (R.nrm e.2≠[])).map fun e=>(⟨e.1,R.nrm e.2⟩:PT))↔d∈yK f ks:=by
  intro d;rw[vH,List.mem_map]
  constructor
  ·rintro⟨e,he,rfl⟩;rw[List.mem_filter,hp.mem_iff] at he;have h0:R.nrm e.2≠[]:=by simpa using he.2
   obtain⟨h3,h4⟩:=h1 e he.1 h0;exact⟨h3,h0,h4⟩
  ·rintro⟨h3,h4,h5⟩;obtain⟨r,h6,h7⟩:=h2 d.dev h3 (by rw[<- h5];exact h4);refine⟨(d.dev,r),?_,by show(⟨d.dev,R.nrm r⟩:PT)=d;rw[h7,<- h5]⟩;rw[List.mem_filter,hp.mem_iff];refine⟨h6,?_⟩;simp only[decide_eq_true_eq];rw[h7,<- h5];exact h4
 have hnd:((l.filter fun e=>decide (R.nrm e.2≠[])).map fun e=>(⟨e.1,R.nrm e.2⟩:PT)).Pairwise (fun x y=>x.dev≠y.dev):=by
  rw[List.pairwise_map];have:l.Pairwise (fun x y=>x.1≠y.1):=by
   have:=(hp.map (·.1)).nodup_iff.2 hn;exact List.pairwise_map.1 this
  exact(this.filter _)
 refine⟨by simp only[List.length_map];omega,⟨?_,fun l' ⟨hp',hs'⟩=>?_⟩⟩
 ·refine⟨yK f ks,?_,?_⟩
  ·refine(List.perm_ext_iff_of_nodup ?_ ?_).2 fun d=>(hmem d).symm
   ·exact(vI hs).imp fun {a b} h e=>by subst e;omega
   ·exact hnd.imp fun {a b} h e=>by subst e;exact h rfl
  ·exact(vI hs).imp fun {a b} h=>by simp[JA];omega
 ·show l'=_;refine UP ?_ (vI hs) fun d=>by rw[hp'.mem_iff];exact hmem d
  have hnd':=(hp'.pairwise_iff (fun {a b} h=>Ne.symm h)).2 hnd;exact(hs'.and hnd').imp fun {a b} ⟨h3,h4⟩=>by simp[JA] at h3;omega
theorem x3a(c:List PT)(h:Sm c):YS (Yh c)=pure (yT c):=by
 refine order_eq _ _ _ (by have:=told_len c;have:=h.1;omega) (fun e he=>?_) (XW c) (vJ c) (fun e he h0=>?_) (fun k hk h0=>?_)
 ·rw[(qO he).1];have:=Zy c e.1;have:=h.2;omega
 ·obtain⟨h1,h2,h3⟩:=qO he;exact⟨h3,by rw[h1]⟩
 ·exact⟨_,told_at (fun e=>h0 (by rw[e];exact jL)),rfl⟩
theorem VT(c:List PT)(h:Sm c):vN c=pure (yT c):=by
 unfold vN;rw[vXa c h,zB,zA,x3a c h,zB,zA]
theorem Runs_eq(c:List PT)(k:Int)(h:Sm c):Vx c k=pure (R.nrm (yc c k)):=by
 unfold Vx;rw[vXa c h,zB,zA,Wn,R.z7a _ (by have:=Zy c k;have:=h.2;omega),zB,zA]
theorem y7a(c:List PT)(d:DT)(h:Sm c):Ul c d=pure (vn c d.dev d.n):=by
 unfold Ul;rw[yu]
 by_cases h0:0 < d.dev
 ·rw[if_pos h0,Runs_eq c _ h,zB,zA,R.has_eq _ _ (by have:=R.Xy (yc c d.dev);have:=Zy c d.dev;have:=h.2;omega),zB,zA,zA,R.uj]
  rfl
 ·rw[if_neg h0,zA];show pure false=pure (R.yp (yc c d.dev) d.n);rw[qY h0];rfl
def jN(l:List DT):List PT:=(l.filter V.yJ).map fun d=>⟨d.dev,[⟨d.n,d.n⟩]⟩
theorem XY(l:List DT):(jN l).length<=l.length:=by rw[jN,List.length_map];exact List.length_filter_le _ _
theorem dots_tot(l:List DT):xW (jN l)<=l.length:=by
 have:xW (jN l)=(jN l).length:=by
  unfold jN
  generalize l.filter V.yJ=q
  induction q with
  | nil=>rfl
  | cons x r ih=>simp[xW] at ih ⊢;omega
 have:=XY l;omega
theorem growC_eq(n:Int)(h0:0<=n)(h:n<=1000000000000):yO n=pure []:=by
 unfold yO;have e:IntKind.i64.wrap (n - IntKind.i64.wrap (0 - 0))=n:=by
  rw[ue (n:=0 - 0) (by omega) (by omega),ue (by omega) (by omega)];omega
 simp only[e,yu];rw[if_neg (by omega)]
 split
 ·rw[zD ⟨by omega,by omega⟩,zD ⟨by omega,by omega,by omega⟩];simp[zA]
 ·simp[zA]
theorem x4a(a b:List PT)(h:a.length+b.length<=1000000000000):yd [a,b]=pure (a++b):=by
 unfold yd;have e1:zZ [a,b] (0,0)=pure (.next ((a.length:Int),1)):=by
  unfold zZ;have:IntKind.i64.wrap (0+(a.length:Int))=a.length:=by rw[ue (by omega) (by omega)];omega
  simp only[yu,YO (l:=[a,b]) (i:=0) (y:=a) (by omega) rfl,zA,this];rw[if_pos (by simp),if_neg (by omega),ue (by omega) (by omega)];rfl
 have e2:zZ [a,b] ((a.length:Int),1)=pure (.next ((a.length:Int)+b.length,2)):=by
  unfold zZ;have:IntKind.i64.wrap ((a.length:Int)+b.length)=a.length+b.length:=by rw[ue (by omega) (by omega)]
  simp only[yu,YO (l:=[a,b]) (i:=1) (y:=b) (by omega) rfl,zA,this];rw[if_pos (by simp),if_neg (by omega),ue (by omega) (by omega)];rfl
 have e3:zZ [a,b] ((a.length:Int)+b.length,2)=pure (.done ((a.length:Int)+b.length)):=by
  unfold zZ;simp
 have f1:za [a,b] (0,[])=pure (.next (1,a)):=by
  unfold za;simp only[yu,YO (l:=[a,b]) (i:=0) (y:=a) (by omega) rfl,zA];rw[if_pos (by simp),zD (by simp;omega),ue (by omega) (by omega)];rfl
 have f2:za [a,b] (1,a)=pure (.next (2,a++b)):=by
  unfold za;simp only[yu,YO (l:=[a,b]) (i:=1) (y:=b) (by omega) rfl,zA];rw[if_pos (by simp),zD (by omega),ue (by omega) (by omega)];rfl
 have f3:za [a,b] (2,a++b)=pure (.done (a++b)):=by
  unfold za;simp
 rw[zb e1,zb e2,zQ e3,zA,growC_eq _ (by omega) (by omega),zB,zA,zb f1,zb f2,zQ f3,zA]
theorem sm_app{a b:List PT}(ha:a.length+b.length<=10000000000)(hb:xW a+xW b<=10000000000):Sm (a++b):=⟨by rw[List.length_append];exact ha,by rw[qZ];exact hb⟩
theorem Join_eq(a b:List PT)(h:Sm (a++b)):Vy a b=pure (opC (·||·) a b):=by
 unfold Vy;rw[x4a a b (by have:=h.1;rw[List.length_append] at this;omega),zB,zA,VT _ h,zB,zA,vWa]
theorem partEq(x y:PT):(decide (x.dev=y.dev)&&decide (x.runs=y.runs))=decide (x=y):=by
 rw[Bool.eq_iff_iff]
 cases x;cases y
 simp
theorem eqP_eq(a b:List PT)(ha:a.length<=1000000000000)(hr:∀ p∈a,p.runs.length<=1000000000000):zT a b=pure (decide (a=b)):=by
 unfold zT
 by_cases hl:(a.length:Int)=b.length
 ·simp only[hl,decide_true,Bool.not_true,cond_false];have:=wW (body:=zP a b) a (fun i=>(i:Int)) (fun i x=>decide (b[i]?=some x)) (.brk ()) (.ret false) (fun i x hx hi=>by
   have hb:i < b.length:=by omega
   have hby:=List.getElem?_eq_getElem hb;unfold zP Uk;have h1:decide ((i:Int) < (a.length:Int))=true:=by simpa using hi
   simp only[h1,cond_true,zF hx,zF hby,zA,R.seq_eq x.runs _ (hr x (List.mem_of_getElem? hx)),zB,zj,partEq,zq (show i < 9223372036854775807 by omega)];rw[hby]
   by_cases hxy:x=b[i] <;> simp[hxy,eq_comm,zA]) (by unfold zP;simp)
  rw[show(0:Int)=((0:Nat):Int) from rfl,this];have hiff:(a.zipIdx.all fun y=>decide (b[y.2]?=some y.1))=decide (a=b):=by
   rw[Bool.eq_iff_iff,List.all_eq_true,decide_eq_true_eq]
   constructor
   ·intro h;apply List.ext_getElem?;intro i
    by_cases hi:i < a.length
    ·have:=h (a[i],i) (by rw[List.mem_zipIdx_iff_getElem?];exact List.getElem?_eq_getElem hi);simp only[decide_eq_true_eq] at this;rw[this,List.getElem?_eq_getElem hi]
    ·rw[List.getElem?_eq_none (by omega),List.getElem?_eq_none (by omega)]
   ·rintro rfl y hy;rw[List.mem_zipIdx_iff_getElem?] at hy;simpa using hy
  rw[hiff]
  by_cases h:a=b <;> simp[h,exk,zA]
 ·have:¬ a=b:=fun e=>hl (by rw[e])
  simp[hl,this]
theorem eq_eq(a b:List PT)(ha:a.length<=1000000000000)(hr:∀ p∈a,p.runs.length<=1000000000000):yla a b=pure (decide (a=b)):=by
 unfold yla;rw[eqP_eq a b ha hr,zB,zA]
theorem Qn{c:List PT}:∀ p∈c,p.runs.length<=xW c:=by
 induction c with
 | nil=>intro p hp;simp at hp
 | cons q r ih=>
  intro p hp;have e:xW (q::r)=q.runs.length+xW r:=by simp[xW]
  rcases List.mem_cons.1 hp with rfl | hp
  ·omega
  ·have:=ih p hp;omega
theorem qc(c:List PT)(h:Sm c):WS c=pure (decide (c=yT c)):=by
 unfold WS;rw[VT c h,zB,zA,eq_eq _ _ (by have:=h.1;omega) (fun p hp=>by have:=Qn p hp;have:=h.2;omega),zB,zA]
theorem rEq_eq(a b:List PT)(ha:a.length<=1000000000000)(hr:∀ p∈a,p.runs.length<=1000000000000):QO a b=pure (decide (a=b)):=by
 unfold QO
 by_cases hl:(a.length:Int)=b.length
 ·simp only[hl,decide_true,Bool.not_true,cond_false];have:=wW (body:=WU a b) a (fun i=>(i:Int)) (fun i x=>decide (b[i]?=some x)) (.brk ()) (.ret false) (fun i x hx hi=>by
   have hb:i < b.length:=by omega
   have hby:=List.getElem?_eq_getElem hb;unfold WU;have h1:decide ((i:Int) < (a.length:Int))=true:=by simpa using hi
   simp only[h1,cond_true,zF hx,zF hby,zA,R.req_eq x.runs _ (hr x (List.mem_of_getElem? hx)),zB,zq (show i < 9223372036854775807 by omega)];rw[hby];have he:=partEq x b[i]
   by_cases hd:x.dev=(b[i]).dev
   ·by_cases hq:x.runs=(b[i]).runs
    ·simp only[hd,hq,decide_true,Bool.and_self,eq_comm (a:=true),decide_eq_true_eq] at he;simp[hd,hq,he,zA]
    ·have hne:¬ x=b[i]:=fun e=>hq (by rw[e])
     have hne2:¬ b[i]=x:=fun e=>hne e.symm
     simp[hd,hq,hne2,zA]
   ·have hne2:¬ b[i]=x:=fun e=>hd (by rw[e])
    simp[hd,hne2,zA]) (by unfold WU;simp)
  rw[show(0:Int)=((0:Nat):Int) from rfl,this];have hiff:(a.zipIdx.all fun y=>decide (b[y.2]?=some y.1))=decide (a=b):=by
   rw[Bool.eq_iff_iff,List.all_eq_true,decide_eq_true_eq]
   constructor
   ·intro h;apply List.ext_getElem?;intro i
    by_cases hi:i < a.length
    ·have:=h (a[i],i) (by rw[List.mem_zipIdx_iff_getElem?];exact List.getElem?_eq_getElem hi);simp only[decide_eq_true_eq] at this;rw[this,List.getElem?_eq_getElem hi]
    ·rw[List.getElem?_eq_none (by omega),List.getElem?_eq_none (by omega)]
   ·rintro rfl y hy;rw[List.mem_zipIdx_iff_getElem?] at hy;simpa using hy
  rw[hiff]
  by_cases h:a=b <;> simp[h,exk,zA]
 ·have:¬ a=b:=fun e=>hl (by rw[e])
  simp[hl,this]
theorem rEq_sm(a b:List PT)(h:Sm a):QO a b=pure (decide (a=b)):=rEq_eq a b (by have:=h.1;omega) fun p hp=>by have:=Qn p hp;have:=h.2;omega
theorem y8a(u v:List RN):R.XX (·||·) (R.nrm u) v=R.nrm (u++v):=R.JI (R.yQ _ rfl _ _).1 (R.jE _) fun n=>by rw[(R.yQ _ rfl _ _).2.1,R.uj,R.uj,R.ZB]
theorem qd(c:List PT)(k:Int)(hk:0<=k)(h:c.length<=1000000000)(ht:xW c<=1000000000):XO c k=pure (R.nrm (yc c k)):=by
 unfold XO;have hpre:∀ i,(yc (c.take i) k).length<=1000000000:=fun i=>by
  have h1:=Zy (c.take i) k;have h2:xW (c.take i)<=xW c:=by
   conv=>rhs;rw[<- List.take_append_drop i c]
   rw[qZ];omega
  omega
 have:=ZW (body:=Zk c k) c (fun i (t:List RN)=>(t,(i:Int))) (fun t p=>if p.dev=k/\0 < k then R.XX (·||·) t p.runs else t) (fun t=>pure t) (fun i t=>t=R.nrm (yc (c.take i) k)) (fun i x t hx hi ht2=>by
  have h1:decide ((i:Int) < (c.length:Int))=true:=by simpa using hi
  have hxl:x.runs.length<=1000000000:=by have:=Qn x (List.mem_of_getElem? hx);omega
  have htl:t.length<=2000000000:=by have:=R.Xy (yc (c.take i) k);have:=hpre i;rw[ht2];omega
  unfold Zk;simp only[h1,cond_true,zF hx,zA,zq (show i < 9223372036854775807 by omega),yu];have hnext:(if x.dev=k/\0 < k then R.XX (·||·) t x.runs else t)=R.nrm (yc (c.take (i+1)) k):=by
   rw[List.take_add_one,hx,Wr,Option.toList,uk,qX,List.append_nil,ht2]
   split
   ·exact y8a _ _
   ·rw[List.append_nil]
  refine⟨?_,hnext⟩
  by_cases hd:x.dev=k
  ·by_cases h0:k=0
   ·have:¬ (x.dev=k/\0 < k):=by omega
    rw[if_neg this,if_pos hd];simp[h0,zA]
   ·rw[if_pos (show x.dev=k/\0 < k from ⟨hd,by omega⟩),if_pos hd];simp only[h0,decide_false,Bool.not_false,zA,cond_true];rw[R.y3a _ _ (by omega),zB,zA,zA]
  ·rw[if_neg (fun(q:x.dev=k/\0 < k)=>hd q.1),if_neg hd]
   rfl) (fun t _=>by unfold Zk;simp[zA]) [] (by rw[List.take_zero,qX,jL])
 rw[show(([]:List RN),(0:Int))=([],((0:Nat):Int)) from rfl,this];have key:∀ (l:List PT) (u:List RN),l.foldl (fun t p=>if p.dev=k/\0 < k then R.XX (·||·) t p.runs else t) (R.nrm u)=R.nrm (u++yc l k):=by
  intro l
  induction l with
  | nil=>intro u;simp[yc]
  | cons p r ih=>
   intro u;rw[List.foldl_cons,uk]
   by_cases hp:p.dev=k/\0 < k
   ·rw[if_pos hp,if_pos hp,y8a,ih,List.append_assoc]
   ·rw[if_neg hp,if_neg hp,ih,List.nil_append]
 have h2:=key c [];rw[jL,List.nil_append] at h2;rw[h2];rfl
def z9a(c:List PT):List Int:=c.foldl (fun l p=>V.jf l p.dev) []
theorem qe(c:List PT):∀ l:List Int,l.Pairwise (· < ·)->(c.foldl (fun l p=>V.jf l p.dev) l).Pairwise (· < ·)/\(∀ k,k∈c.foldl (fun l p=>V.jf l p.dev) l↔k∈l\/∃ p∈c,p.dev=k)/\(c.foldl (fun l p=>V.jf l p.dev) l).length<=l.length+c.length:=by
 induction c with
 | nil=>intro l h;simp[h]
 | cons p r ih=>
  intro l h;rw[List.foldl_cons];obtain⟨h1,h2,h3⟩:=ih _ (V.uh h p.dev);refine⟨h1,fun k=>?_,by have:=V.Wl l p.dev;simp;omega⟩;rw[h2,V.UM]
  constructor
  ·rintro((rfl | h4) | ⟨x,h4,h5⟩)
   ·exact .inr ⟨p,by simp,rfl⟩
   ·exact .inl h4
   ·exact .inr ⟨x,by simp[h4],h5⟩
  ·rintro(h4 | ⟨x,h4,h5⟩)
   ·exact .inl (.inr h4)
   ·rcases List.mem_cons.1 h4 with rfl | h4
    ·exact .inl (.inl h5.symm)
    ·exact .inr ⟨x,h4,h5⟩
theorem jO(c:List PT):(z9a c).Pairwise (· < ·):=(qe c [] List.Pairwise.nil).1
theorem y9a{c:List PT}{k:Int}:k∈z9a c↔∃ p∈c,p.dev=k:=by
 have:=(qe c [] List.Pairwise.nil).2.1 k;unfold z9a;rw[this];simp
theorem xAa(c:List PT):(z9a c).length<=c.length:=by simpa[z9a] using (qe c [] List.Pairwise.nil).2.2
theorem Wq(l:List Int):(V.Xe l).length=l.length:=by simp[V.Xe]
theorem rdevs_eq(a b:List PT)(h:a.length+b.length<=10000000000):UA a b=pure (V.Xe (z9a (a++b))):=by
 unfold UA;have h1:=ZW (body:=Zj a) a (fun i (l:List Int)=>(V.Xe l,(i:Int))) (fun l p=>V.jf l p.dev) (fun l=>pure (V.Xe l)) (fun i l=>l.Pairwise (· < ·)/\l.length<=i) (fun i x l hx hi ⟨hs,hl⟩=>by
  have h1:decide ((i:Int) < (a.length:Int))=true:=by simpa using hi
  unfold Zj;simp only[h1,cond_true,zF hx,zA,zq (show i < 9223372036854775807 by omega)];rw[V.VP _ _ (by rw[Wq];omega),zB,zA,V.yxa hs];exact⟨rfl,V.uh hs _,by have:=V.Wl l x.dev;omega⟩) (fun l _=>by unfold Zj;simp[zA]) [] ⟨List.Pairwise.nil,by simp⟩
 have h2:=ZW (body:=uR b) b (fun i (l:List Int)=>(V.Xe l,(i:Int))) (fun l p=>V.jf l p.dev) (fun l=>pure (V.Xe l)) (fun i l=>l.Pairwise (· < ·)/\l.length<=a.length+i) (fun i x l hx hi ⟨hs,hl⟩=>by
  have h1:decide ((i:Int) < (b.length:Int))=true:=by simpa using hi
  unfold uR;simp only[h1,cond_true,zF hx,zA,zq (show i < 9223372036854775807 by omega)];rw[V.VP _ _ (by rw[Wq];omega),zB,zA,V.yxa hs];exact⟨rfl,V.uh hs _,by have:=V.Wl l x.dev;omega⟩) (fun l _=>by unfold uR;simp[zA]) (z9a a) ⟨jO a,by have:=xAa a;omega⟩
 rw[show(([]:List DT),(0:Int))=(V.Xe [],((0:Nat):Int)) from rfl,h1,zA];show(loop (uR b) (V.Xe (z9a a),((0:Nat):Int))).bind _=_;rw[h2,zA];unfold z9a;rw[List.foldl_append]
theorem jF(op:Bool->Bool->Bool)(how:Int)(hop:∀ x y,op x y=if how=2 then (x&&!y) else if how=1 then (x&&y) else (x||y))(h0:op false false=false)(a b:List PT)(oa:∀ p∈a,0<=p.dev)(ob:∀ p∈b,0<=p.dev)(ha:a.length<=1000000000)(hb:b.length<=1000000000)(ta:xW a<=1000000000)(tb:xW b<=1000000000):Jj a b how=pure (opC op a b):=by
 unfold Jj;rw[rdevs_eq a b (by omega),zB,zA];have hlenA:∀ k,(R.nrm (yc a k)).length<=2000000000:=fun k=>by have:=R.Xy (yc a k);have:=Zy a k;omega
 have hlenB:∀ k,(R.nrm (yc b k)).length<=2000000000:=fun k=>by have:=R.Xy (yc b k);have:=Zy b k;omega
 have hop':∀ k,R.XX op (R.nrm (yc a k)) (R.nrm (yc b k))=R.XX op (yc a k) (yc b k):=fun k=>R.JI (R.yQ op h0 _ _).1 (R.yQ op h0 _ _).1 fun n=>by rw[(R.yQ op h0 _ _).2.1,(R.yQ op h0 _ _).2.1,R.uj,R.uj]
 have hkey:∀ k∈z9a (a++b),0<=k:=fun k hk=>by
  obtain⟨p,hp,rfl⟩:=y9a.1 hk;rcases List.mem_append.1 hp with hp | hp
  ·exact oa p hp
  ·exact ob p hp
 have hnd:(z9a (a++b)).length<=2000000000:=by have:=xAa (a++b);rw[List.length_append] at this;omega
 have hgo:=ZW (body:=XP (V.Xe (z9a (a++b))) a b how) (z9a (a++b)) (fun i (t:List PT)=>((i:Int),t)) (fun t k=>if R.XX op (yc a k) (yc b k)=[] then t else t++[⟨k,R.XX op (yc a k) (yc b k)⟩]) (fun t=>pure t) (fun i t=>t.length<=i) (fun i k t hk hi hl=>by
  have h1:decide ((i:Int) < ((V.Xe (z9a (a++b))).length:Int))=true:=by rw[Wq];simpa using hi
  have hx:(V.Xe (z9a (a++b)))[i]?=some ⟨k,1⟩:=by simp[V.Xe,hk]
  have hk0:0<=k:=hkey k (List.mem_of_getElem? hk);unfold XP;simp only[h1,cond_true,zF hx,zA,qd a k hk0 ha ta,qd b k hk0 hb tb,zB,zq (show i < 9223372036854775807 by omega)];have hl1:=hlenA k;have hl2:=hlenB k;rw[R.y3a _ _ (by omega),zB,zA,R.rmeet_eq _ _ (by omega),zB,zA,R.vPa _ _ (by omega),zB,zA];have hz:(cond (decide (how=1)) (pure (R.XX (·&&·) (R.nrm (yc a k)) (R.nrm (yc b k)))) (pure (R.XX (·||·) (R.nrm (yc a k)) (R.nrm (yc b k)))):M (List RN)).bind (fun z=>cond (decide (how=2)) (pure (R.XX (fun x y=>x&&!y) (R.nrm (yc a k)) (R.nrm (yc b k)))) (pure z))=pure (R.XX op (yc a k) (yc b k)):=by
   rw[<- hop' k]
   by_cases h2:how=2
   ·subst h2;have:op=fun x y=>x&&!y:=by funext x y;rw[hop];simp
    rw[this];rfl
   ·by_cases h1:how=1
    ·subst h1;have:op=fun x y=>x&&y:=by funext x y;rw[hop];simp
     rw[this];rfl
    ·have:op=fun x y=>x||y:=by funext x y;rw[hop];simp[h1,h2]
     rw[this];simp[h1,h2,zA]
  rw[<- jx,hz,zA];have hsl:=(R.yQ op h0 (yc a k) (yc b k)).2.2
  by_cases hz0:R.XX op (yc a k) (yc b k)=[]
  ·rw[if_pos hz0];simp only[hz0,List.length_nil];exact⟨rfl,by omega⟩
  ·rw[if_neg hz0];have:decide (0 < ((R.XX op (yc a k) (yc b k)).length:Int))=true:=by
    have:=List.length_pos_iff.2 hz0;simp;omega
   rw[this,cond_true,zD (by simp;omega)];exact⟨rfl,by simp;omega⟩) (fun t _=>by unfold XP;rw[Wq];simp[zA]) [] (by simp)
 rw[show((0:Int),([]:List PT))=(((0:Nat):Int),[]) from rfl,hgo,zA];have key:∀ (ks:List Int) (t:List PT),ks.foldl (fun t k=>if R.XX op (yc a k) (yc b k)=[] then t else t++[⟨k,R.XX op (yc a k) (yc b k)⟩]) t=t++yK (fun k=>R.XX op (yc a k) (yc b k)) ks:=by
  intro ks
  induction ks with
  | nil=>intro t;simp[yK]
  | cons k ks ih=>
   intro t;rw[List.foldl_cons,ih]
   by_cases h:R.XX op (yc a k) (yc b k)=[]
   ·rw[if_pos h];simp[yK,h]
   ·rw[if_neg h];simp[yK,h]
 rw[key,List.nil_append];refine congrArg pure (jI (jO _) (vJ _) (fun _=>rfl) fun k hk=>?_);have hr:yc (a++b) k≠[]:=fun e=>hk (by
  rw[Wr] at e;have:=List.append_eq_nil_iff.1 e;rw[this.1,this.2];exact y5a h0)
 exact⟨fun _=>uD hr,fun _=>y9a.2 (vA.1 (uD hr)).1⟩
structure Ok(c:List PT):Prop where
 dev:∀ p∈c,0<=p.dev
 len:c.length<=1000000000
 tot:xW c<=1000000000
theorem Ok.sm{c:List PT}(h:Ok c):Sm c:=⟨by have:=h.len;omega,by have:=h.tot;omega⟩
section
variable(a b:List PT)(ha:Ok a)(hb:Ok b)
include ha hb
end
theorem ok_nil : Ok []:=⟨fun p h=>by simp at h,by simp,by simp[xW]⟩
theorem opC_nil(c:List PT):opC (·||·) c []=yT c:=by rw[<- vWa,List.append_nil]
theorem xBa(c:List PT)(h:Ok c):WX c=pure (yT c):=by
 unfold WX;rw[jF (·||·) 0 (fun x y=>by simp) rfl c [] h.dev ok_nil.dev h.len ok_nil.len h.tot ok_nil.tot,zB,zA,opC_nil]
theorem UR(c:List PT)(h:Ok c):WY c=pure (decide (c=yT c)):=by
 unfold WY;rw[xBa c h,zB,zA,rEq_sm _ _ h.sm,zB,zA]
theorem has_pos{c:List PT}{k n:Int}(h:vn c k n=true):0 < k/\1<=n/\n<=281474976710655:=by
 refine⟨Classical.byContradiction fun h0=>?_,R.xza h⟩;unfold vn at h;rw[qY h0] at h
 cases h
theorem qf(c:List PT)(d:DT)(h:Ok c):Jk c d=pure (vn c d.dev d.n):=by
 unfold Jk;rw[V.vG,zB,zA]
 by_cases hg:V.yJ d=true
 ·have h1:=V.uf.1 hg;rw[hg,cond_true,qd c d.dev (by omega) h.len h.tot,zB,zA,R.z6a _ _ (by have:=R.Xy (yc c d.dev);have:=Zy c d.dev;have:=h.tot;omega),zB,zA,zA,R.uj]
  rfl
 ·have hg':V.yJ d=false:=by simpa using hg
  rw[hg',cond_false,zA]
  cases hh:vn c d.dev d.n with
  | false=>rfl
  | true=>obtain⟨h1,h2,h3⟩:=has_pos hh;exact absurd (V.uf.2 ⟨by omega,h2,h3⟩) hg
theorem qg(c:List PT):Uj c=pure (decide (c.length<=30)&&c.all fun p=>decide (p.runs.length<=30)):=by
 unfold Uj
 by_cases h0:30 < c.length
 ·have:decide ((30:Int) < (c.length:Int))=true:=by simp;omega
  rw[this,cond_true];have:decide (c.length<=30)=false:=by simp;omega
  rw[this];rfl
 ·have h1:decide ((30:Int) < (c.length:Int))=false:=by simp;omega
  rw[h1,cond_false];have:=wW (body:=Yx c) c (fun i=>(i:Int)) (fun i x=>decide (x.runs.length<=30)) (.brk ()) (.ret false) (fun i x hx hi=>by
   have h2:decide ((i:Int) < (c.length:Int))=true:=by simpa using hi
   unfold Yx;simp only[h2,cond_true,zF hx,zA,yu,zq (show i < 9223372036854775807 by omega),decide_eq_true_eq]
   by_cases h3:x.runs.length<=30
   ·rw[if_neg (by omega),if_pos h3]
   ·rw[if_pos (by omega),if_neg h3]) (by unfold Yx;simp)
  rw[show(0:Int)=((0:Nat):Int) from rfl,this];have hiff:(c.zipIdx.all fun y=>decide (y.1.runs.length<=30))=c.all fun p=>decide (p.runs.length<=30):=by
   rw[Bool.eq_iff_iff,List.all_eq_true,List.all_eq_true]
   constructor
   ·intro h p hp;obtain⟨i,hi⟩:=List.mem_iff_getElem?.1 hp;exact h (p,i) (List.mem_zipIdx_iff_getElem?.2 hi)
   ·intro h y hy;exact h _ (List.mem_of_getElem? (List.mem_zipIdx_iff_getElem?.1 hy))
  rw[hiff];have h4:decide (c.length<=30)=true:=by simp;omega
  rw[h4,Bool.true_and]
  cases c.all fun p=>decide (p.runs.length<=30) <;> rfl
theorem few_tot{c:List PT}(h:(decide (c.length<=30)&&c.all fun p=>decide (p.runs.length<=30))=true):c.length<=30/\xW c<=900:=by
 rw[Bool.and_eq_true,decide_eq_true_eq,List.all_eq_true] at h;refine⟨h.1,?_⟩;have:∀ l:List PT,(∀ p∈l,decide (p.runs.length<=30)=true)->xW l<=l.length*30:=by
  intro l
  induction l with
  | nil=>intro _;simp[xW]
  | cons p r ih=>
   intro hl;have e:xW (p::r)=p.runs.length+xW r:=by simp[xW]
   have h1:=ih fun q hq=>hl q (by simp[hq])
   have h2:=hl p (by simp);simp only[decide_eq_true_eq] at h2;simp only[List.length_cons];omega
 have:=this c h.2;omega
theorem vYa{l:List DT}(h:l.length<=400000000):Ok (yT (jN l)):=⟨fun p hp=>by have:=((uI (jN l)).nf p hp).1;omega,by have:=Yj (jN l);have:=XY l;omega,by have:=Yk (jN l);have:=dots_tot l;omega⟩
theorem ok_few{c:List PT}(o:∀ p∈c,0<=p.dev)(h:c.length<=30/\xW c<=900):Ok c:=⟨o,by omega,by omega⟩
end Go.Ep.M.C
namespace Go.Ep.M.J
open Go
section
variable{κ ν:Type}[DecidableEq κ]
theorem jP{m:List (κ×ν)}(hn:(m.map (·.1)).Nodup){k:κ}{v:ν}:(k,v)∈m↔AL.get m k=some v:=⟨AL.mem_get hn,AL.get_mem⟩
theorem VO{m:List (κ×ν)}(hn:(m.map (·.1)).Nodup){k q:κ}{v u:ν}:(q,u)∈AL.set m k v↔(q=k/\u=v)\/(q≠k/\(q,u)∈m):=by
 rw[jP (AL.nodup_set hn k v),AL.get_set,jP hn]
 by_cases h:k=q
 ·subst h;simp[eq_comm]
 ·have h':q≠k:=fun e=>h e.symm
  simp[h,h']
end
theorem Qo : ∀ {l:List RN},R.Nf l->∀ x∈l,R.yp l x.lo=true/\R.yp l (x.lo - 1)=false
 | [],_,x,hx=>by cases hx
 | y::r,h,x,hx=>by
  obtain⟨h1,h2,h3⟩:=h;have hy:=R.zh.1 h1;rcases List.mem_cons.1 hx with rfl | hx
  ·refine⟨R.VQ ⟨h1,h2,h3⟩,Bool.eq_false_iff.2 fun hc=>?_⟩;have:=R.UO ⟨h1,h2,h3⟩ hc;omega
  ·obtain⟨g1,g2⟩:=Qo h3 x hx;have:=h2 x hx;refine⟨by rw[R.ui,g1,Bool.or_true],?_⟩;rw[R.ui,g2,Bool.or_false];refine Bool.eq_false_iff.2 fun hc=>?_
   have:=(R.vh.1 hc).2;omega
theorem xCa : ∀ {l:List RN},R.Nf l->(l.map (·.lo)).Nodup
 | [],_=>List.nodup_nil
 | y::r,h=>by
  obtain⟨h1,h2,h3⟩:=h;have hy:=R.zh.1 h1;rw[List.map_cons,List.nodup_cons];refine⟨fun hc=>?_,xCa h3⟩;obtain⟨z,hz,e⟩:=List.mem_map.1 hc;have:=h2 z hz;omega
theorem Qp{a:List RN}{n:Int}(h1:R.yp a n=true)(h2:R.yp a (n - 1)=false):n∈a.map (·.lo):=by
 obtain⟨x,hx,g1,g2,g3⟩:=R.xV.1 h1
 by_cases h:x.lo=n
 ·exact List.mem_map.2 ⟨x,hx,h⟩
 ·have:R.yp a (n - 1)=true:=R.xV.2 ⟨x,hx,g1,by omega,by omega⟩;rw[h2] at this;cases this
def Mon(op:Bool->Bool->Bool):Prop:=op false false=false/\∀ p q p' q',op p q=true->op p' q'=false->(p=true/\p'=false)\/(q=true/\q'=false)
theorem mon_or : Mon (·||·):=⟨rfl,by decide⟩
theorem len_setR{op:Bool->Bool->Bool}(h:Mon op)(a b:List RN):(R.XX op a b).length<=a.length+b.length:=by
 obtain⟨h1,h2,_⟩:=R.yQ op h.1 a b;have:=List.Nodup.length_le_of_subset (xCa h1) (l₂:=a.map (·.lo)++b.map (·.lo)) (fun n hn=>by
  obtain⟨x,hx,rfl⟩:=List.mem_map.1 hn;obtain⟨g1,g2⟩:=Qo h1 x hx;rw[h2] at g1 g2;rcases h.2 _ _ _ _ g1 g2 with⟨e1,e2⟩ | ⟨e1,e2⟩
  ·exact List.mem_append_left _ (Qp e1 e2)
  ·exact List.mem_append_right _ (Qp e1 e2))
 simpa using this
theorem sum_add(ks:List Int)(f g:Int->Nat):(ks.map fun k=>f k+g k).sum=(ks.map f).sum+(ks.map g).sum:=by
 induction ks with
 | nil=>rfl
 | cons k r ih=>simp only[List.map_cons,List.sum_cons,ih];omega
theorem tot_op{op:Bool->Bool->Bool}(h:Mon op)(a b:List PT):C.xW (C.opC op a b)<=C.xW a+C.xW b:=by
 unfold C.opC;rw[C.jJ];refine Nat.le_trans (C.sum_le fun k=>len_setR h (C.yc a k) (C.yc b k)) ?_;rw[sum_add];have h1:=C.qb a (C.Xf (a++b)) (C.ZY _);have h2:=C.qb b (C.Xf (a++b)) (C.ZY _);omega
theorem Yl : ∀ {c:List PT},(∀ p∈c,p.runs≠[])->c.length<=C.xW c
 | [],_=>Nat.zero_le _
 | p::r,h=>by
  have h1:=Yl (c:=r) fun q hq=>h q (List.mem_cons_of_mem _ hq)
  have h2:=h p List.mem_cons_self;have h3:0 < p.runs.length:=by cases hp:p.runs with | nil=>exact absurd hp h2 | cons _ _=>simp
  have h4:C.xW (p::r)=p.runs.length+C.xW r:=by simp[C.xW]
  rw[List.length_cons];omega
theorem vZa{c d:List PT}(h:c.Perm d)(k:Int):(C.yc c k).Perm (C.yc d k):=(h.filter _).flatMap_right _
theorem vaa{c d:List PT}(h:c.Perm d)(k n:Int):C.vn c k n=C.vn d k n:=R.Qe (vZa h k) n
theorem vba{c d:List PT}(h:c.Perm d):C.xW c=C.xW d:=(h.map _).sum_nat
theorem vca(l:List RN)(c:List PT)(k n:Int):C.vn (⟨0,l⟩::c) k n=C.vn c k n:=by
 unfold C.vn;rw[C.uk,if_neg (fun h=>by have h1:(0:Int)=k:=h.1;omega)];rfl
theorem part_has{c:List PT}(h:C.Canon c){p:PT}(hp:p∈c):∃ n,C.vn c p.dev n=true:=by
 obtain⟨h1,h2,h3⟩:=h.nf p hp
 cases hr:p.runs with
 | nil=>exact absurd hr h2
 | cons x r=>
  rw[hr] at h3;exact⟨x.lo,by unfold C.vn;rw[C.UQ h.ord p hp h1,hr];exact R.VQ h3⟩
theorem has_dev{c:List PT}{k n:Int}(h:C.vn c k n=true):∃ p∈c,p.dev=k:=by
 have h1:C.yc c k≠[]:=fun e=>by unfold C.vn at h;rw[e] at h;cases h
 exact(C.vA.1 (C.uD h1)).1
def isW(x:List R25Row)(w:Int):Bool:=x.any fun r=>decide (r.who=w)
def Vn(x:List R25Row)(w:Int):List PT:=match x.find? fun r=>decide (r.who=w) with | some r=>r.c | none=>[]
abbrev Srt(x:List R25Row):Prop:=x.Pairwise fun a b=>a.who < b.who
theorem Zz{x:List R25Row}{w:Int}:isW x w=true↔∃ r∈x,r.who=w:=by simp[isW]
theorem yAa{x:List R25Row}(h:Srt x){r s:R25Row}(hr:r∈x)(hs:s∈x)(e:r.who=s.who):r=s:=by
 induction x with
 | nil=>cases hr
 | cons y z ih=>
  obtain⟨h1,h2⟩:=List.pairwise_cons.1 h;rcases List.mem_cons.1 hr with e1 | hr <;> rcases List.mem_cons.1 hs with e2 | hs
  ·rw[e1,e2]
  ·have:=h1 s hs;rw[<- e,e1] at this;omega
  ·have:=h1 r hr;rw[e,e2] at this;omega
  ·exact ih h2 hr hs
theorem US{x:List R25Row}(h:Srt x){r:R25Row}(hr:r∈x):Vn x r.who=r.c:=by
 unfold Vn
 cases hf:x.find? fun s=>decide (s.who=r.who) with
 | none=>exact absurd (by simp) (List.find?_eq_none.1 hf r hr)
 | some s=>
  have h1:=List.find?_some hf;rw[yAa h (List.mem_of_find?_eq_some hf) hr (of_decide_eq_true h1)]
theorem Qq{x:List R25Row}{w:Int}(h:isW x w=false):Vn x w=[]:=by
 unfold Vn
 cases hf:x.find? fun s=>decide (s.who=w) with
 | none=>rfl
 | some s=>
  have h1:=List.find?_some hf;rw[Zz.2 ⟨s,List.mem_of_find?_eq_some hf,of_decide_eq_true h1⟩] at h;cases h
abbrev Mx:=List ((Int×Int)×List RN)
structure Rep(B n:Nat)(nl:Bool)(m:Mx)(x:List R25Row):Prop where
 nd:(m.map (·.1)).Nodup
 mem:∀ w k l,((w,k),l)∈m↔∃ r∈x,r.who=w/\((k=0/\l=[])\/(⟨k,l⟩:PT)∈r.c)
 srt:Srt x
 can:∀ r∈x,C.Canon r.c
 tot:∀ r∈x,C.xW r.c<=B
 len:x.length<=n
 nil:nl=true->m=[]
theorem rep_nil(B n:Nat):Rep B n true [] []:=⟨List.nodup_nil,fun w k l=>by simp,List.Pairwise.nil,fun r h=>by simp at h,fun r h=>by simp at h,Nat.zero_le _,fun _=>rfl⟩
section
variable{B n:Nat}{nl:Bool}{m:Mx}{x:List R25Row}(hR:Rep B n nl m x)
include hR
theorem Rep.up{B' n':Nat}(h1:B<=B')(h2:n<=n'):Rep B' n' nl m x:={ hR with tot:=fun r hr=>Nat.le_trans (hR.tot r hr) h1,len:=Nat.le_trans hR.len h2 }
theorem Rep.is(w:Int):xa w nl m=pure (isW x w):=by
 unfold xa;refine congrArg pure ?_;rw[Bool.eq_iff_iff,Zz];unfold AL.has
 constructor
 ·intro h;obtain⟨l,hl⟩:=Option.isSome_iff_exists.1 h;obtain⟨r,hr,e,_⟩:=(hR.mem w 0 l).1 (AL.get_mem hl);exact⟨r,hr,e⟩
 ·rintro⟨r,hr,e⟩;rw[AL.mem_get hR.nd ((hR.mem w 0 []).2 ⟨r,hr,e,.inl ⟨rfl,rfl⟩⟩)];rfl
theorem Rep.put(w k:Int)(l:List RN):yS w k l nl m=pure (false,AL.set m (w,k) l):=by
 unfold yS
 cases h:nl with
 | false=>rfl
 | true=>rw[hR.nil h];rfl
end
def wOa(w:Int)(e:(Int×Int)×List RN):Option PT:=if e.1.1=w then some ⟨e.1.2,e.2⟩ else none
theorem row_loop(w:Int)(m:Mx)(hl:m.length<=1000000000000){Q:List PT->Prop}(hQ:∀ c,c.Perm (m.filterMap (wOa w))->Q c):(loop (uQ m w) ([],([]:List PT))).wp Q:=by
 refine M.loopM m (fun L (t:List PT)=>(L,t)) (fun t e=>cond (decide (e.1.1=w)) (yM ((t.length+1)*32<=140737488355328) (pure (t++[⟨e.1.2,e.2⟩]))) (pure t)) (fun t=>pure t)
  (fun l t=>t=l.filterMap (wOa w)) Q (fun L t hL=>?_) (fun l t y ht hlen hy=>?_) (fun l t hp ht=>?_) [] rfl
 ·show yM _ ((nxt _ _).bind _)=yM _ ((nxt _ _).bind _);refine congrArg (fun k=>yM _ ((nxt _ _).bind k)) (funext fun o=>?_)
  cases o with
  | none=>rfl
  | some i=>
   refine congrArg (fun k=>(idx m (Int.ofNat i)).bind k) (funext fun y=>?_);show cond _ _ _=M.bind (cond _ _ _) _;rw[wZa];rfl
 ·by_cases h:y.1.1=w
  ·refine⟨t++[⟨y.1.2,y.2⟩],?_,?_⟩
   ·have hb:t.length<=l.length:=by rw[ht];exact List.length_filterMap_le _ _
    rw[decide_eq_true h,cond_true,zD (by omega)]
   ·rw[ht,List.filterMap_append];simp[wOa,h]
  ·refine⟨t,by rw[decide_eq_false h,cond_false],?_⟩;rw[ht,List.filterMap_append];simp[wOa,h]
 ·refine hQ t ?_;rw[ht];exact hp.filterMap _
section
variable{B n:Nat}{nl:Bool}{m:Mx}{x:List R25Row}(hR:Rep B n nl m x)
include hR
theorem Rep.rowL(w:Int):(m.filterMap (wOa w)).Perm (if isW x w then ⟨0,[]⟩::Vn x w else []):=by
 have hnd:(m.filterMap (wOa w)).Nodup:=by
  have h1:m.Pairwise fun a b=>a.1≠b.1:=by
   have:=hR.nd;rw[List.Nodup,List.pairwise_map] at this;exact this
  refine List.Pairwise.filterMap (wOa w) (fun a b hab p hp q hq=>?_) h1;unfold wOa at hp hq
  split at hp
  ·split at hq
   ·rename_i e1 e2
    cases hp;cases hq
    intro e
    injection e with e3 e4
    exact hab (Prod.ext (e1.trans e2.symm) e3)
   ·cases hq
  ·cases hp
 have hmem:∀ p:PT,p∈m.filterMap (wOa w)↔((w,p.dev),p.runs)∈m:=fun p=>by
  rw[List.mem_filterMap]
  constructor
  ·rintro⟨e,he,h⟩;unfold wOa at h
   split at h
   ·rename_i hw
    cases h
    rw[<- hw];exact he
   ·cases h
  ·intro h;exact⟨_,h,by simp[wOa]⟩
 by_cases hw:isW x w=true
 ·rw[if_pos hw];obtain⟨r,hr,rfl⟩:=Zz.1 hw;have hc:=hR.can r hr;rw[US hR.srt hr];refine(List.perm_ext_iff_of_nodup hnd ?_).2 fun p=>?_
  ·rw[List.nodup_cons];refine⟨fun h=>?_,hc.ord.imp fun {a b} h e=>by rw[e] at h;omega⟩;have:=(hc.nf _ h).1;simp at this
  ·rw[hmem,hR.mem,List.mem_cons]
   constructor
   ·rintro⟨s,hs,e,h⟩;rw[yAa hR.srt hs hr e] at h;rcases h with⟨h1,h2⟩ | h
    ·left;cases p;simp at h1 h2;simp[h1,h2]
    ·right;exact h
   ·rintro(rfl | h)
    ·exact⟨r,hr,rfl,.inl ⟨rfl,rfl⟩⟩
    ·exact⟨r,hr,rfl,.inr h⟩
 ·rw[if_neg hw];have:m.filterMap (wOa w)=[]:=by
   refine List.eq_nil_iff_forall_not_mem.2 fun p hp=>?_
   obtain⟨r,hr,e,_⟩:=(hR.mem _ _ _).1 ((hmem p).1 hp);exact hw (Zz.2 ⟨r,hr,e⟩)
  rw[this]
theorem Rep.getC(w:Int):C.Canon (Vn x w)/\C.xW (Vn x w)<=B:=by
 by_cases hw:isW x w=true
 ·obtain⟨r,hr,rfl⟩:=Zz.1 hw;rw[US hR.srt hr];exact⟨hR.can r hr,hR.tot r hr⟩
 ·rw[Qq (by simpa using hw)];exact⟨C.Qm,Nat.zero_le _⟩
theorem Rep.row(hB:B<=100000000)(hm:m.length<=1000000000000)(w:Int):yh w nl m=pure (Vn x w):=by
 refine uN ?_;unfold yh;refine row_loop w m hm fun c hc=>?_
 have h1:=hc.trans (hR.rowL w);obtain⟨g1,g2⟩:=hR.getC w;have gl:=Yl fun p hp=>(g1.nf p hp).2.1
 have hsm:C.Sm c:=by
  by_cases hw:isW x w=true
  ·rw[if_pos hw] at h1;refine⟨by have:=h1.length_eq;rw[List.length_cons] at this;omega,?_⟩;rw[vba h1];simp only[C.xW,List.map_cons,List.length_nil,List.sum_cons,Nat.zero_add] at g2 ⊢;omega
  ·rw[if_neg hw] at h1;rw[h1.eq_nil];exact⟨by simp,by simp[C.xW]⟩
 have hn:C.yT c=Vn x w:=by
  have h2:C.yT c=C.yT (Vn x w):=C.Ql fun k q=>by
   rw[vaa h1]
   by_cases hw:isW x w=true
   ·rw[if_pos hw,vca]
   ·rw[if_neg hw,Qq (by simpa using hw)]
  rw[h2,C.JL g1]
 show((det (vN c)).bind _).wp _;rw[C.VT c hsm,zB,zA,hn]
 rfl
end
section
variable{B n:Nat}{nl:Bool}{m:Mx}{x:List R25Row}(hR:Rep B n nl m x)
include hR
theorem Rep.mlen : m.length<=n*(B+1):=by
 have h1:m.Nodup:=by
  have:=hR.nd;rw[List.Nodup,List.pairwise_map] at this;exact this.imp fun h e=>h (congrArg _ e)
 have h2:=List.Nodup.length_le_of_subset h1 (l₂:=x.flatMap fun r=>((r.who,0),[])::r.c.map fun p=>((r.who,p.dev),p.runs)) (fun e he=>by
  obtain⟨⟨w,k⟩,l⟩:=e;obtain⟨r,hr,e1,h⟩:=(hR.mem w k l).1 he;rw[List.mem_flatMap];refine⟨r,hr,?_⟩;subst e1;rcases h with⟨rfl,rfl⟩ | h
  ·exact List.mem_cons_self
  ·exact List.mem_cons_of_mem _ (List.mem_map.2 ⟨_,h,rfl⟩))
 have h3:∀ z:List R25Row,(∀ r∈z,r.c.length<=B)->(z.flatMap fun r=>(((r.who,0),[]):(Int×Int)×List RN)::r.c.map fun p=>((r.who,p.dev),p.runs)).length<=z.length*(B+1):=by
  intro z
  induction z with
  | nil=>intro _;simp
  | cons r z ih=>
   intro hz;have h4:=ih fun s hs=>hz s (List.mem_cons_of_mem _ hs)
   have h5:=hz r List.mem_cons_self;rw[List.flatMap_cons,List.length_append,List.length_cons,List.length_map,List.length_cons,Nat.succ_mul];omega
 have h4:=h3 x fun r hr=>by have:=Yl fun p hp=>((hR.can r hr).nf p hp).2.1;have:=hR.tot r hr;omega
 exact Nat.le_trans h2 (Nat.le_trans h4 (Nat.mul_le_mul_right _ hR.len))
theorem Rep.Row(hS:n<=1000/\B<=100000000)(w:Int):yh w nl m=pure (Vn x w):=by
 refine hR.row hS.2 (Nat.le_trans hR.mlen ?_) w
 calc n*(B+1)<=1000*(B+1):=Nat.mul_le_mul_right _ hS.1
  _<=1000000000000:=by omega
end
def insW(x:List R25Row)(w:Int):List R25Row:=x.filter (fun r=>decide (r.who < w))++⟨w,[]⟩::x.filter (fun r=>decide (w < r.who))
def joinR(x:List R25Row)(w:Int):List R25Row:=if w=0\/isW x w=true then x else insW x w
theorem XZ{x:List R25Row}{w:Int}(h:isW x w=false){r:R25Row}:r∈insW x w↔r∈x\/r=⟨w,[]⟩:=by
 unfold insW;rw[List.mem_append,List.mem_cons,List.mem_filter,List.mem_filter,decide_eq_true_eq,decide_eq_true_eq]
 constructor
 ·rintro(⟨h1,_⟩ | h1 | ⟨h1,_⟩)
  ·exact .inl h1
  ·exact .inr h1
  ·exact .inl h1
 ·rintro(h1 | h1)
  ·have:r.who≠w:=fun e=>by rw[Zz.2 ⟨r,h1,e⟩] at h;cases h
   by_cases h2:r.who < w
   ·exact .inl ⟨h1,h2⟩
   ·exact .inr (.inr ⟨h1,by omega⟩)
  ·exact .inr (.inl h1)
theorem xDa{x:List R25Row}(h:Srt x)(w:Int):Srt (insW x w):=by
 unfold insW;refine List.pairwise_append.2 ⟨h.sublist List.filter_sublist,List.pairwise_cons.2 ⟨fun r hr=>?_,h.sublist List.filter_sublist⟩,fun a ha b hb=>?_⟩
 ·exact of_decide_eq_true (List.mem_filter.1 hr).2
 ·have h1:=of_decide_eq_true (List.mem_filter.1 ha).2;rcases List.mem_cons.1 hb with rfl | hb
  ·exact h1
  ·have h2:=of_decide_eq_true (List.mem_filter.1 hb).2;omega
theorem len_insW{x:List R25Row}(h:Srt x){w:Int}(hw:isW x w=false):(insW x w).length<=x.length+1:=by
 have hn:(insW x w).Nodup:=(xDa h w).imp fun {a b} h e=>by rw[e] at h;omega
 have:=List.Nodup.length_le_of_subset hn (l₂:=⟨w,[]⟩::x) (fun r hr=>by
  rcases(XZ hw).1 hr with h1 | h1
  ·exact List.mem_cons_of_mem _ h1
  ·rw[h1];exact List.mem_cons_self)
 simpa using this
section
variable{B n:Nat}{nl:Bool}{m:Mx}{x:List R25Row}(hR:Rep B n nl m x)
include hR
theorem Rep.ins{w:Int}(hw:isW x w=false):Rep B (n+1) false (AL.set m (w,0) []) (insW x w) where
 nd:=AL.nodup_set hR.nd _ _
 srt:=xDa hR.srt w
 can r hr:=by
  rcases(XZ hw).1 hr with h | h
  ·exact hR.can r h
  ·rw[h];exact C.Qm
 tot r hr:=by
  rcases(XZ hw).1 hr with h | h
  ·exact hR.tot r h
  ·rw[h];exact Nat.zero_le _
 len:=by have:=len_insW hR.srt hw;have:=hR.len;omega
 nil h:=by cases h
 mem w' k l:=by
  rw[VO hR.nd,hR.mem]
  constructor
  ·rintro(⟨h1,h2⟩ | ⟨h1,r,hr,h2⟩)
   ·cases h1
    exact⟨⟨w,[]⟩,(XZ hw).2 (.inr rfl),rfl,.inl ⟨rfl,h2⟩⟩
   ·exact⟨r,(XZ hw).2 (.inl hr),h2⟩
  ·rintro⟨r,hr,e,h⟩;rcases(XZ hw).1 hr with h1 | h1
   ·refine .inr ⟨fun h2=>?_,r,h1,e,h⟩
    cases h2
    rw[Zz.2 ⟨r,h1,e⟩] at hw;cases hw
   ·rw[h1] at e h;rcases h with⟨h2,h3⟩ | h2
    ·subst e;exact .inl ⟨by rw[h2],h3⟩
    ·cases h2
theorem Rep.join(w:Int):∃ nl' m',yx w nl m=pure (!(decide (w=0)||isW x w),nl',m')/\Rep B (n+1) nl' m' (joinR x w):=by
 unfold yx joinR;rw[hR.is w,zB,zA]
 by_cases h0:w=0
 ·exact⟨nl,m,by rw[decide_eq_true h0];rfl,by rw[if_pos (.inl h0)];exact hR.up (Nat.le_refl _) (by omega)⟩
 ·rw[decide_eq_false h0,cond_false,zA]
  cases hw:isW x w
  ·exact⟨false,AL.set m (w,0) [],by rw[cond_false,hR.put,zB,zA];rfl,by rw[if_neg (by simp[h0])];exact hR.ins hw⟩
  ·exact⟨nl,m,rfl,by rw[if_pos (.inr rfl)];exact hR.up (Nat.le_refl _) (by omega)⟩
end
section
variable{B n:Nat}{nl:Bool}{m:Mx}{x:List R25Row}(hR:Rep B n nl m x)
include hR
end
def yBa(x:List R25Row)(w:Int)(c:List PT):List R25Row:=x.map fun r=>if r.who=w then ⟨r.who,C.opC (·||·) r.c c⟩ else r
theorem hearR_no{x:List R25Row}{w:Int}{c:List PT}(h:isW x w=false):yBa x w c=x:=by
 unfold yBa;have:∀ r∈x,(if r.who=w then ⟨r.who,C.opC (·||·) r.c c⟩ else r)=r:=fun r hr=>by
  rw[if_neg fun e=>by rw[Zz.2 ⟨r,hr,e⟩] at h;cases h]
 exact(List.map_congr_left this).trans (List.map_id _)
theorem xEa(w:Int):∀ (a:List PT) (m:Mx),C.OrdP a->(m.map (·.1)).Nodup->((a.foldl (fun m p=>AL.set m (w,p.dev) p.runs) m).map (·.1)).Nodup/\∀ w' k l,((w',k),l)∈a.foldl (fun m p=>AL.set m (w,p.dev) p.runs) m↔(w'=w/\(⟨k,l⟩:PT)∈a)\/(¬ (w'=w/\∃ p∈a,p.dev=k)/\((w',k),l)∈m)
 | [],m,_,hn=>⟨hn,fun w' k l=>by simp⟩
 | p::r,m,ho,hn=>by
  obtain⟨o1,o2⟩:=List.pairwise_cons.1 ho;obtain⟨h1,h2⟩:=xEa w r (AL.set m (w,p.dev) p.runs) o2 (AL.nodup_set hn _ _);refine⟨h1,fun w' k l=>?_⟩;rw[List.foldl_cons,h2,VO hn]
  constructor
  ·rintro(⟨e,h⟩ | ⟨g1,⟨e1,e2⟩ | ⟨e1,e2⟩⟩)
   ·exact .inl ⟨e,List.mem_cons_of_mem _ h⟩
   ·cases e1
    exact .inl ⟨rfl,by rw[e2];exact List.mem_cons_self⟩
   ·refine .inr ⟨?_,e2⟩;rintro⟨g3,q,hq,g4⟩;rcases List.mem_cons.1 hq with rfl | hq
    ·exact e1 (by rw[g3,g4])
    ·exact g1 ⟨g3,q,hq,g4⟩
  ·rintro(⟨e,h⟩ | ⟨g1,g2⟩)
   ·rcases List.mem_cons.1 h with h | h
    ·refine .inr ⟨?_,.inl ⟨by rw[e,<- h],by rw[<- h]⟩⟩;rintro⟨_,q,hq,g4⟩;have:=o1 q hq;rw[<- h] at this;simp only at this;omega
    ·exact .inl ⟨e,h⟩
   ·refine .inr ⟨?_,.inr ⟨?_,g2⟩⟩
    ·rintro⟨e1,q,hq,e2⟩;exact g1 ⟨e1,q,List.mem_cons_of_mem _ hq,e2⟩
    ·intro e;cases e;exact g1 ⟨rfl,p,List.mem_cons_self,rfl⟩
section
variable{B n:Nat}{nl:Bool}{m:Mx}{x:List R25Row}(hR:Rep B n nl m x)
include hR
theorem Rep.hear(hS:n<=1000/\B<=1000000)(w:Int){c:List PT}(hc:c.length<=1000000/\C.xW c<=1000000):∃ nl' m',yy w c nl m=pure (if isW x w then 0 else 6,nl',m')/\Rep (B+C.xW c) n nl' m' (yBa x w c):=by
 unfold yy;rw[hR.is w,zB,zA]
 cases hw:isW x w
 ·exact⟨nl,m,rfl,by rw[hearR_no hw];exact hR.up (by omega) (Nat.le_refl _)⟩
 obtain⟨g1,g2⟩:=hR.getC w;have gl:=Yl fun p hp=>(g1.nf p hp).2.1
 have hj:=C.y6a (op:=(·||·)) rfl (Vn x w) c;have ht:=tot_op mon_or (Vn x w) c;have hl:=Yl fun p hp=>(hj.nf p hp).2.1
 rw[Bool.not_true,cond_false,hR.Row ⟨hS.1,by omega⟩,zB,zA,C.Join_eq _ _ (C.sm_app (by omega) (by omega)),zB,zA];have:=M.ZW (body:=vj (C.opC (·||·) (Vn x w) c) w) (C.opC (·||·) (Vn x w) c) (fun i (t:Bool×Mx)=>((i:Int),t.1,t.2)) (fun t p=>(false,AL.set t.2 (w,p.dev) p.runs)) (fun t=>pure (t.1,t.2)) (fun _ t=>t.1=true->t.2=[]) (fun i p t hp hi hI=>by
  refine⟨?_,fun h=>by cases h⟩;show cond (decide ((i:Int) < ((C.opC (·||·) (Vn x w) c).length:Int))) _ _=_;rw[decide_eq_true (by omega),cond_true,zF hp,zA];have hput:yS w p.dev p.runs t.1 t.2=pure (false,AL.set t.2 (w,p.dev) p.runs):=by
   unfold yS
   cases h:t.1 with
   | false=>rfl
   | true=>rw[hI h];rfl
  rw[hput,zB,zA,zq (by omega)]) (fun t _=>by
  show cond (decide (((C.opC (·||·) (Vn x w) c).length:Int) < ((C.opC (·||·) (Vn x w) c).length:Int))) _ _=_;rw[decide_eq_false (by omega)];rfl) (nl,m) hR.nil
 rw[show((0:Int),nl,m)=(((0:Nat):Int),nl,m) from rfl,this,zA];have hf:∀ (a:List PT) (t:Bool×Mx),(t.1=true->t.2=[])->(a.foldl (fun t p=>(false,AL.set t.2 (w,p.dev) p.runs)) t).2=a.foldl (fun m p=>AL.set m (w,p.dev) p.runs) t.2/\((a.foldl (fun t p=>(false,AL.set t.2 (w,p.dev) p.runs)) t).1=true->(a.foldl (fun t p=>(false,AL.set t.2 (w,p.dev) p.runs)) t).2=[]):=by
  intro a
  induction a with
  | nil=>intro t ht;exact⟨rfl,ht⟩
  | cons p r ih=>intro t _;exact ih (false,AL.set t.2 (w,p.dev) p.runs) fun h=>by cases h
 obtain⟨f1,f2⟩:=hf (C.opC (·||·) (Vn x w) c) (nl,m) hR.nil;refine⟨_,_,rfl,?_⟩;obtain⟨d1,d2⟩:=xEa w (C.opC (·||·) (Vn x w) c) m hj.ord hR.nd;obtain⟨r0,hr0,e0⟩:=Zz.1 hw;have hg:Vn x w=r0.c:=by rw[<- e0];exact US hR.srt hr0
 have hdev:∀ p∈r0.c,∃ q∈C.opC (·||·) (Vn x w) c,q.dev=p.dev:=fun p hp=>by
  obtain⟨q,hq⟩:=part_has (hR.can r0 hr0) hp;exact has_dev (k:=p.dev) (n:=q) (by rw[C.vVa rfl,hg,hq];rfl)
 have hmem:∀ r',r'∈yBa x w c↔(r'∈x/\r'.who≠w)\/r'=⟨w,C.opC (·||·) (Vn x w) c⟩:=fun r'=>by
  unfold yBa;rw[List.mem_map]
  constructor
  ·rintro⟨r,hr,rfl⟩
   by_cases e:r.who=w
   ·rw[if_pos e,<- e,US hR.srt hr];exact .inr rfl
   ·rw[if_neg e];exact .inl ⟨hr,e⟩
  ·rintro(⟨h1,h2⟩ | rfl)
   ·exact⟨r',h1,if_neg h2⟩
   ·exact⟨r0,hr0,by rw[if_pos e0,hg,e0]⟩
 refine⟨by rw[f1];exact d1,fun w' k l=>?_,?_,fun r hr=>?_,fun r hr=>?_,by unfold yBa;rw[List.length_map];exact hR.len,fun h=>f2 h⟩
 ·show((w',k),l)∈((C.opC (·||·) (Vn x w) c).foldl (fun t p=>(false,AL.set t.2 (w,p.dev) p.runs)) (nl,m)).2↔_;rw[f1,d2,hR.mem]
  constructor
  ·rintro(⟨e,h⟩ | ⟨g3,r,hr,e,h⟩)
   ·exact⟨_,(hmem _).2 (.inr rfl),e.symm,.inr h⟩
   ·by_cases e2:w'=w
    ·have:r=r0:=yAa hR.srt hr hr0 (by rw[e,e2,e0]);subst this;rcases h with⟨h1,h2⟩ | h
     ·exact⟨_,(hmem _).2 (.inr rfl),e2.symm,.inl ⟨h1,h2⟩⟩
     ·obtain⟨q,hq,hqd⟩:=hdev _ h;exact absurd ⟨e2,q,hq,hqd⟩ g3
    ·exact⟨r,(hmem _).2 (.inl ⟨hr,fun e3=>e2 (e.symm.trans e3)⟩),e,h⟩
  ·rintro⟨r,hr,e,h⟩;rcases(hmem r).1 hr with⟨h1,h2⟩ | h1
   ·exact .inr ⟨fun e2=>h2 (e.trans e2.1),r,h1,e,h⟩
   ·rw[h1] at e h;rcases h with⟨h2,h3⟩ | h
    ·refine .inr ⟨?_,r0,hr0,by rw[e0];exact e,.inl ⟨h2,h3⟩⟩;rintro⟨_,q,hq,e2⟩;have:=(hj.nf q hq).1;omega
    ·exact .inl ⟨e.symm,h⟩
 ·unfold yBa Srt;rw[List.pairwise_map];exact hR.srt.imp fun {a b} h=>by
   have e1:∀ r:R25Row,(if r.who=w then ⟨r.who,C.opC (·||·) r.c c⟩ else r:R25Row).who=r.who:=fun r=>by split <;> rfl
   rw[e1,e1];exact h
 ·rcases(hmem r).1 hr with⟨h1,_⟩ | h1
  ·exact hR.can r h1
  ·rw[h1];exact hj
 ·rcases(hmem r).1 hr with⟨h1,_⟩ | h1
  ·have:=hR.tot r h1;omega
  ·rw[h1];show C.xW (C.opC (·||·) (Vn x w) c)<=_;omega
end
end Go.Ep.M.J

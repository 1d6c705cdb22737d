/- Side texts. -/
import Derived.Test.YtoilkhcaggjlmaaGreatADs10
set_option linter.unusedVariables false
set_option linter.unusedSimpArgs false
namespace Go.Ep.M.R
open Go
def ZU(x:RN):Bool:=decide (1<=x.lo)&&(decide (x.lo<=x.hi)&&decide (x.hi<=281474976710655))
theorem zm{x:RN}:ZU x=true↔1<=x.lo/\x.lo<=x.hi/\x.hi<=281474976710655:=by simp[ZU]
def inR(n:Int)(x:RN):Bool:=ZU x&&(decide (x.lo<=n)&&decide (n<=x.hi))
theorem vK{n:Int}{x:RN}:inR n x=true↔(1<=x.lo/\x.lo<=x.hi/\x.hi<=281474976710655)/\x.lo<=n/\n<=x.hi:=by simp[inR,ZU]
def ym(l:List RN)(n:Int):Bool:=l.any (inR n)
theorem xe{l:List RN}{n:Int}:ym l n=true↔∃ x∈l,ZU x=true/\x.lo<=n/\n<=x.hi:=by
 unfold ym;rw[List.any_eq_true];simp[inR]
@[simp] theorem Qp(n:Int):ym [] n=false:=rfl
theorem Zr(x:RN)(l:List RN)(n:Int):ym (x::l) n=(inR n x||ym l n):=rfl
theorem uV(a b:List RN)(n:Int):ym (a++b) n=(ym a n||ym b n):=by simp[ym]
theorem vb(x:RN)(n:Int):ym [x] n=inR n x:=by simp[ym]
theorem yva{a b:List RN}(h:a.Perm b)(n:Int):ym a n=ym b n:=by
 rw[Bool.eq_iff_iff,xe,xe];simp only[h.mem_iff]
theorem qu(l:List RN)(n:Int):ym (l.filter ZU) n=ym l n:=by
 rw[Bool.eq_iff_iff,xe,xe];simp only[List.mem_filter];exact⟨fun⟨x,⟨h1,_⟩,h3⟩=>⟨x,h1,h3⟩,fun⟨x,h1,h2,h3⟩=>⟨x,⟨h1,h2⟩,h2,h3⟩⟩
theorem zka{l:List RN}{n:Int}(h:ym l n=true):1<=n/\n<=281474976710655:=by
 obtain⟨x,_,h2,h3,h4⟩:=xe.1 h;have:=zm.1 h2;omega
def Nf : List RN->Prop
 | []=>True
 | x::r=>ZU x=true/\(∀ y∈r,x.hi+1 < y.lo)/\Nf r
theorem Nf.may{l:List RN}(h:Nf l):∀ x∈l,ZU x=true:=by
 induction l with
 | nil=>simp
 | cons y r ih=>
  intro x hx;rcases List.mem_cons.1 hx with rfl | hx
  ·exact h.1
  ·exact ih h.2.2 x hx
theorem Zs{l:List RN}{z:RN}:Nf (l++[z])↔Nf l/\ZU z=true/\∀ p∈l,p.hi+1 < z.lo:=by
 induction l with
 | nil=>simp[Nf]
 | cons x r ih=>
  simp only[List.cons_append,Nf,ih,List.mem_append,List.mem_cons,List.not_mem_nil,or_false]
  constructor
  ·rintro⟨h1,h2,h3,h4,h5⟩;refine⟨⟨h1,fun y hy=>h2 y (.inl hy),h3⟩,h4,fun p hp=>?_⟩;rcases hp with rfl | hp
   ·exact h2 z (.inr rfl)
   ·exact h5 p hp
  ·rintro⟨⟨h1,h2,h3⟩,h4,h5⟩;refine⟨h1,fun y hy=>?_,h3,h4,fun p hp=>h5 p (.inr hp)⟩;rcases hy with hy | rfl
   ·exact h2 y hy
   ·exact h5 x (.inl rfl)
theorem Qq{x:RN}{r:List RN}(h:Nf (x::r)){n:Int}(hn:ym r n=true):x.hi+1 < n:=by
 obtain⟨y,h1,_,h3,_⟩:=xe.1 hn;have:=h.2.1 y h1;omega
theorem ja{x:RN}{r:List RN}(h:Nf (x::r)):ym (x::r) x.lo=true:=by
 rw[Zr];have:=zm.1 h.1;rw[Bool.or_eq_true];exact .inl (vK.2 ⟨this,by omega,by omega⟩)
theorem jb{x:RN}{r:List RN}(h:Nf (x::r)){n:Int}(hn:ym (x::r) n=true):x.lo<=n:=by
 rw[Zr,Bool.or_eq_true] at hn;rcases hn with hn | hn
 ·exact(vK.1 hn).2.1
 ·have:=Qq h hn;have:=zm.1 h.1;omega
theorem qv{x:RN}{r:List RN}(h:Nf (x::r)){n:Int}(h1:x.lo<=n):ym (x::r) n=true↔n<=x.hi\/ym r n=true:=by
 rw[Zr,Bool.or_eq_true,vK];have:=zm.1 h.1
 constructor
 ·rintro(h2 | h2)
  ·exact .inl h2.2.2
  ·exact .inr h2
 ·rintro(h2 | h2)
  ·exact .inl ⟨this,h1,h2⟩
  ·exact .inr h2
theorem Ug : ∀ {a b:List RN},Nf a->Nf b->(∀ n,ym a n=ym b n)->a=b
 | [],[],_,_,_=>rfl
 | [],y::s,_,hb,h=>by have:=h y.lo;rw[ja hb] at this;simp at this
 | x::r,[],ha,_,h=>by have:=h x.lo;rw[ja ha] at this;simp at this
 | x::r,y::s,ha,hb,h=>by
  have h1:x.lo=y.lo:=by
   have h2:=jb hb (by rw[<- h];exact ja ha);have h3:=jb ha (by rw[h];exact ja hb);omega
  have hx:=zm.1 ha.1;have hy:=zm.1 hb.1;have hle:∀ {x y:RN} {r s:List RN},Nf (x::r)->Nf (y::s)->(∀ n,ym (x::r) n=ym (y::s) n)->x.lo=y.lo->y.hi<=x.hi:=by
   intro x y r s ha hb h h1;have hx:=zm.1 ha.1;refine Classical.byContradiction fun hc=>?_
   have h2:ym (y::s) (x.hi+1)=true:=(qv hb (by omega)).2 (.inl (by omega));rw[<- h,qv ha (by omega)] at h2;rcases h2 with h2 | h2
   ·omega
   ·have:=Qq ha h2;omega
  have h2:x.hi=y.hi:=by
   have:=hle ha hb h h1;have:=hle hb ha (fun n=>(h n).symm) h1.symm;omega
  have he:x=y:=by cases x;cases y;simp_all
  subst he;rw[Ug ha.2.2 hb.2.2 fun n=>?_];rw[Bool.eq_iff_iff];have h3:=h n
  constructor
  ·intro hn;have:=Qq ha hn;have h4:ym (x::r) n=true:=(qv ha (by omega)).2 (.inr hn);rw[h3,qv hb (by omega)] at h4;rcases h4 with h4 | h4
   ·omega
   ·exact h4
  ·intro hn;have:=Qq hb hn;have h4:ym (x::s) n=true:=(qv hb (by omega)).2 (.inr hn);rw[<- h3,qv ha (by omega)] at h4;rcases h4 with h4 | h4
   ·omega
   ·exact h4
def Xk(n:Int)(s:Bool×List Int)(x:Int):Bool×List Int:=
 let t:=if s.1=false/\n<=x then (true,s.2++[n]) else s
 if x=n then t else (t.1,t.2++[x])
def putP(l:List Int)(n:Int):List Int:=let t:=l.foldl (Xk n) (false,[]);if t.1 then t.2 else t.2++[n]
abbrev Up(l:List Int):Prop:=l.Pairwise (· < ·)
theorem Vm{l:List Int}{z:Int}:Up (l++[z])↔Up l/\∀ p∈l,p < z:=by
 unfold Up;rw[List.pairwise_append];simp
theorem Xl(n:Int):∀ (l:List Int) (s:Bool×List Int),Up l->Up s.2->(∀ p∈s.2,∀ x∈l,p < x\/(p=n/\s.1=true/\p<=x))->(s.1=true->n∈s.2)->(s.1=false->∀ p∈s.2,p < n) ->
  Up (l.foldl (Xk n) s).2/\(∀ m,m∈(l.foldl (Xk n) s).2↔m∈s.2\/(m∈l/\m≠n)\/(m=n/\(l.foldl (Xk n) s).1=true))/\((l.foldl (Xk n) s).1=false->∀ p∈(l.foldl (Xk n) s).2,p < n)/\(l.foldl (Xk n) s).2.length<=s.2.length+l.length+(if s.1 then 0 else 1)/\((l.foldl (Xk n) s).1=false->(l.foldl (Xk n) s).2.length<=s.2.length+l.length)
 | [],s,_,hs,_,h2,h3=>by
  refine⟨hs,fun m=>?_,h3,by simp,by simp⟩;simp only[List.foldl_nil,List.not_mem_nil,false_and,false_or];exact⟨fun h=>.inl h,fun h=>h.elim id fun⟨e,h⟩=>e▸h2 h⟩
 | x::r,(d,out),hl,hs,h1,h2,h3=>by
  rw[List.foldl_cons];have hl':=List.pairwise_cons.1 hl;simp only at hs h1 h2 h3
  by_cases hc:d=false/\n<=x
  ·obtain⟨rfl,hnx⟩:=hc
   by_cases hx:x=n
   ·have e:Xk n (false,out) x=(true,out++[n]):=by simp[Xk,hx]
    rw[e];obtain⟨i1,i2,i3,i4,i5⟩:=Xl n r (true,out++[n]) hl'.2 (Vm.2 ⟨hs,h3 rfl⟩) (fun p hp y hy=>by
     have:=hl'.1 y hy;rcases List.mem_append.1 hp with hp | hp
     ·have:=h3 rfl p hp;left;omega
     ·simp at hp;left;omega) (fun _=>by simp) (fun h=>by cases h)
    refine⟨i1,fun m=>?_,i3,?_,?_⟩
    ·rw[i2];simp only[List.mem_append,List.mem_cons,List.not_mem_nil,or_false]
     constructor
     ·rintro((h | h) | h | h)
      ·exact .inl h
      ·refine .inr (.inr ⟨h,?_⟩)
       cases hb:(r.foldl (Xk n) (true,out++[n])).1 with
       | true=>rfl
       | false=>have:=i3 hb n ((i2 n).2 (.inl (by simp)));omega
      ·exact .inr (.inl ⟨.inr h.1,h.2⟩)
      ·exact .inr (.inr h)
     ·rintro(h | ⟨h | h,h'⟩ | h)
      ·exact .inl (.inl h)
      ·exact absurd (h.trans hx) h'
      ·exact .inr (.inl ⟨h,h'⟩)
      ·exact .inr (.inr h)
    ·simp at i4 ⊢;omega
    ·intro hf;have:=i5 hf;simp at this ⊢;omega
   ·have e:Xk n (false,out) x=(true,out++[n]++[x]):=by simp[Xk,hx,hnx]
    rw[e];obtain⟨i1,i2,i3,i4,i5⟩:=Xl n r (true,out++[n]++[x]) hl'.2 (Vm.2 ⟨Vm.2 ⟨hs,h3 rfl⟩,fun p hp=>by
     rcases List.mem_append.1 hp with hp | hp
     ·have:=h3 rfl p hp;omega
     ·simp at hp;omega⟩) (fun p hp y hy=>by
     have:=hl'.1 y hy;simp only[List.mem_append,List.mem_singleton] at hp;rcases hp with(hp | hp) | hp
     ·have:=h3 rfl p hp;left;omega
     ·left;omega
     ·left;omega) (fun _=>by simp) (fun h=>by cases h)
    refine⟨i1,fun m=>?_,i3,?_,?_⟩
    ·rw[i2];simp only[List.mem_append,List.mem_cons,List.not_mem_nil,or_false]
     constructor
     ·rintro(((h | h) | h) | h | h)
      ·exact .inl h
      ·refine .inr (.inr ⟨h,?_⟩)
       cases hb:(r.foldl (Xk n) (true,out++[n]++[x])).1 with
       | true=>rfl
       | false=>have:=i3 hb n ((i2 n).2 (.inl (by simp)));omega
      ·exact .inr (.inl ⟨.inl h,fun e=>hx (h.symm.trans e)⟩)
      ·exact .inr (.inl ⟨.inr h.1,h.2⟩)
      ·exact .inr (.inr h)
     ·rintro(h | ⟨h | h,h'⟩ | h)
      ·exact .inl (.inl (.inl h))
      ·exact .inl (.inr h)
      ·exact .inr (.inl ⟨h,h'⟩)
      ·exact .inr (.inr h)
    ·simp at i4 ⊢;omega
    ·intro hf;have:=i5 hf;simp at this ⊢;exfalso;have:=i3 hf n ((i2 n).2 (.inl (by simp)));omega
  ·by_cases hx:x=n
   ·have hd:d=true:=by cases d with | true=>rfl | false=>exact absurd ⟨rfl,by omega⟩ hc
    subst hd;have e:Xk n (true,out) x=(true,out):=by simp[Xk,hx]
    rw[e];obtain⟨i1,i2,i3,i4,i5⟩:=Xl n r (true,out) hl'.2 hs (fun p hp y hy=>h1 p hp y (List.mem_cons_of_mem _ hy)) h2 h3;refine⟨i1,fun m=>?_,i3,?_,?_⟩
    ·rw[i2];simp only[List.mem_cons]
     constructor
     ·rintro(h | h | h)
      ·exact .inl h
      ·exact .inr (.inl ⟨.inr h.1,h.2⟩)
      ·exact .inr (.inr h)
     ·rintro(h | ⟨h | h,h'⟩ | h)
      ·exact .inl h
      ·exact absurd (h.trans hx) h'
      ·exact .inr (.inl ⟨h,h'⟩)
      ·exact .inr (.inr h)
    ·simp at i4 ⊢;omega
    ·intro hf;have:=i5 hf;simp at this ⊢;omega
   ·have e:Xk n (d,out) x=(d,out++[x]):=by
     unfold Xk;simp only[hc,if_false,hx]
    rw[e];have hlt:d=false->x < n:=fun h=>by
     have:¬ n<=x:=fun h'=>hc ⟨h,h'⟩
     omega
    obtain⟨i1,i2,i3,i4,i5⟩:=Xl n r (d,out++[x]) hl'.2 (Vm.2 ⟨hs,fun p hp=>by
     rcases h1 p hp x (by simp) with h | h
     ·exact h
     ·omega⟩) (fun p hp y hy=>by
     rcases List.mem_append.1 hp with hp | hp
     ·exact h1 p hp y (List.mem_cons_of_mem _ hy)
     ·simp at hp;have:=hl'.1 y hy;left;omega) (fun h=>List.mem_append_left _ (h2 h)) (fun h p hp=>by
     rcases List.mem_append.1 hp with hp | hp
     ·exact h3 h p hp
     ·simp at hp;rw[hp];exact hlt h)
    refine⟨i1,fun m=>?_,i3,?_,?_⟩
    ·rw[i2];simp only[List.mem_append,List.mem_cons,List.not_mem_nil,or_false]
     constructor
     ·rintro((h | h) | h | h)
      ·exact .inl h
      ·exact .inr (.inl ⟨.inl h,fun e=>hx (h.symm.trans e)⟩)
      ·exact .inr (.inl ⟨.inr h.1,h.2⟩)
      ·exact .inr (.inr h)
     ·rintro(h | ⟨h | h,h'⟩ | h)
      ·exact .inl (.inl h)
      ·exact .inl (.inr h)
      ·exact .inr (.inl ⟨h,h'⟩)
      ·exact .inr (.inr h)
    ·simp at i4 ⊢;omega
    ·intro hf;have:=i5 hf;simp at this ⊢;omega
theorem WL{l:List Int}(h:Up l)(n:Int):Up (putP l n)/\(∀ m,m∈putP l n↔m∈l\/m=n)/\(putP l n).length<=l.length+1:=by
 obtain⟨i1,i2,i3,i4,i5⟩:=Xl n l (false,[]) h (by simp[Up]) (by simp) (by simp) (by simp);unfold putP;simp only
 cases hb:(l.foldl (Xk n) (false,[])).1 with
 | true=>
  simp only[if_true];refine⟨i1,fun m=>?_,by simpa using i4⟩;rw[i2,hb];simp only[List.not_mem_nil,false_or,and_true]
  constructor
  ·rintro(h | h)
   ·exact .inl h.1
   ·exact .inr h
  ·rintro(h | h)
   ·by_cases e:m=n
    ·exact .inr e
    ·exact .inl ⟨h,e⟩
   ·exact .inr h
 | false=>
  have:=i5 hb;rw[if_neg (by simp)];refine⟨Vm.2 ⟨i1,i3 hb⟩,fun m=>?_,by simp at this ⊢;omega⟩;simp only[List.mem_append,List.mem_singleton,i2,hb,List.not_mem_nil,false_or]
  constructor
  ·rintro((h | h) | h)
   ·exact .inl h.1
   ·cases h.2
   ·exact .inr h
  ·rintro(h | h)
   ·by_cases e:m=n
    ·exact .inr e
    ·exact .inl (.inl ⟨h,e⟩)
   ·exact .inr h
def ptS(out:List Int)(x:RN):List Int:=if ZU x then putP (putP out x.lo) (x.hi+1) else out
def jc(l:List RN):List Int:=l.foldl ptS []
theorem jd : ∀ (l:List RN) (out:List Int),Up out->Up (l.foldl ptS out)/\(∀ m,m∈l.foldl ptS out↔m∈out\/∃ x∈l,ZU x=true/\(m=x.lo\/m=x.hi+1))/\(l.foldl ptS out).length<=out.length+2*l.length
 | [],out,h=>⟨h,fun m=>by simp,by simp⟩
 | x::r,out,h=>by
  rw[List.foldl_cons];obtain⟨j1,j2,j3⟩:=WL h x.lo;obtain⟨k1,k2,k3⟩:=WL j1 (x.hi+1)
  by_cases hm:ZU x=true
  ·have e:ptS out x=putP (putP out x.lo) (x.hi+1):=by simp[ptS,hm]
   rw[e];obtain⟨i1,i2,i3⟩:=jd r _ k1;refine⟨i1,fun m=>?_,by simp;omega⟩;rw[i2,k2,j2]
   constructor
   ·rintro(((h | h) | h) | ⟨y,h1,h2⟩)
    ·exact .inl h
    ·exact .inr ⟨x,by simp,hm,.inl h⟩
    ·exact .inr ⟨x,by simp,hm,.inr h⟩
    ·exact .inr ⟨y,by simp[h1],h2⟩
   ·rintro(h | ⟨y,h1,h2,h3⟩)
    ·exact .inl (.inl (.inl h))
    ·rcases List.mem_cons.1 h1 with rfl | h1
     ·rcases h3 with h3 | h3
      ·exact .inl (.inl (.inr h3))
      ·exact .inl (.inr h3)
     ·exact .inr ⟨y,h1,h2,h3⟩
  ·have e:ptS out x=out:=by simp[ptS,hm]
   rw[e];obtain⟨i1,i2,i3⟩:=jd r _ h;refine⟨i1,fun m=>?_,by simp;omega⟩;rw[i2]
   constructor
   ·rintro(h | ⟨y,h1,h2⟩)
    ·exact .inl h
    ·exact .inr ⟨y,by simp[h1],h2⟩
   ·rintro(h | ⟨y,h1,h2,h3⟩)
    ·exact .inl h
    ·rcases List.mem_cons.1 h1 with rfl | h1
     ·exact absurd h2 hm
     ·exact .inr ⟨y,h1,h2,h3⟩
theorem Uh(l:List RN):Up (jc l)/\(∀ m,m∈jc l↔∃ x∈l,ZU x=true/\(m=x.lo\/m=x.hi+1))/\(jc l).length<=2*l.length:=by
 obtain⟨h1,h2,h3⟩:=jd l [] (by simp[Up]);exact⟨h1,fun m=>by rw[jc,h2];simp,by simpa[jc] using h3⟩
def Qr(out:List RN)(p:Int)(z:RN->RN)(x:RN):List RN:=match out.getLast? with
 | some y=>if y.hi+1=p then out.dropLast++[z y] else out++[x]
 | none=>out++[x]
def Qs(op:Bool->Bool->Bool)(a b:List RN)(out:List RN)(pq:Int×Int):List RN:=
 if op (ym a pq.1) (ym b pq.1) then Qr out pq.1 (fun y=>⟨y.lo,pq.2 - 1⟩) ⟨pq.1,pq.2 - 1⟩ else out
def xV(l:List Int):List (Int×Int):=l.zip l.tail
def Yi(op:Bool->Bool->Bool)(a b:List RN):List RN:=(xV (jc (a++b))).foldl (Qs op a b) []
theorem zla(p:Int)(z:RN->RN)(x:RN):Qr [] p z x=[x]:=rfl
theorem Vn(l:List RN)(y:RN)(p:Int)(z:RN->RN)(x:RN):Qr (l++[y]) p z x=if y.hi+1=p then l++[z y] else l++[y]++[x]:=by simp[Qr]
theorem xj{α:Type}(l:List α):l=[]\/∃ r y,l=r++[y]:=by
 rcases List.eq_nil_or_concat l with h | ⟨r,y,h⟩
 ·exact .inl h
 ·exact .inr ⟨r,y,by simpa using h⟩
theorem je(op:Bool->Bool->Bool)(a b:List RN):∀ (P:List Int) (p:Int) (out:List RN),Up (p::P)->(∀ q∈p::P,1<=q/\q<=281474976710656)->Nf out->(∀ y∈out,y.hi < p) ->
  Nf ((xV (p::P)).foldl (Qs op a b) out)/\(∀ n,ym ((xV (p::P)).foldl (Qs op a b) out) n=true↔ym out n=true\/∃ pq∈xV (p::P),pq.1<=n/\n < pq.2/\op (ym a pq.1) (ym b pq.1)=true)/\((xV (p::P)).foldl (Qs op a b) out).length<=out.length+P.length
 | [],p,out,_,_,h,_=>by simp[xV,h]
 | q::P,p,out,hu,hr,h,hy=>by
  have e:xV (p::q::P)=(p,q)::xV (q::P):=rfl;rw[e,List.foldl_cons];have hu':=List.pairwise_cons.1 hu;have hpq:p < q:=hu'.1 q (by simp);have hp:=hr p (by simp);have hq:=hr q (by simp);have step:Nf (Qs op a b out (p,q))/\(∀ n,ym (Qs op a b out (p,q)) n=true↔ym out n=true\/(p<=n/\n < q/\op (ym a p) (ym b p)=true))/\(∀ y∈Qs op a b out (p,q),y.hi < q)/\(Qs op a b out (p,q)).length<=out.length+1:=by
   unfold Qs;simp only
   by_cases hop:op (ym a p) (ym b p)=true
   ·rw[if_pos hop];rcases xj out with rfl | ⟨l,y,rfl⟩
    ·rw[zla];have hm:ZU (⟨p,q - 1⟩:RN)=true:=zm.2 ⟨hp.1,by simp only;omega,by simp only;omega⟩;refine⟨⟨hm,by simp,trivial⟩,fun n=>?_,fun y hy=>?_,by simp⟩
     ·rw[vb,vK];have:=zm.1 hm;simp only at this ⊢;simp only[Qp,Bool.false_eq_true,false_or,hop,and_true];omega
     ·simp at hy;subst hy;simp only;omega
    ·rw[Vn];obtain⟨n1,n2,n3⟩:=Zs.1 h;have hym:=zm.1 n2;have hyp:=hy y (by simp)
     by_cases hadj:y.hi+1=p
     ·rw[if_pos hadj];have hm:ZU (⟨y.lo,q - 1⟩:RN)=true:=zm.2 ⟨hym.1,by simp only;omega,by simp only;omega⟩;refine⟨Zs.2 ⟨n1,hm,n3⟩,fun n=>?_,fun z hz=>?_,by simp⟩
      ·rw[uV,uV,vb,vb,Bool.or_eq_true,Bool.or_eq_true,vK,vK];have:=zm.1 hm;simp only at this ⊢;simp only[hop,and_true]
       constructor
       ·rintro(h | h)
        ·exact .inl (.inl h)
        ·by_cases hc:n<=y.hi
         ·exact .inl (.inr ⟨hym,h.2.1,hc⟩)
         ·right;omega
       ·rintro((h | h) | h)
        ·exact .inl h
        ·right;omega
        ·right;omega
      ·rcases List.mem_append.1 hz with hz | hz
       ·have:=hy z (by simp[hz]);omega
       ·simp at hz;subst hz;simp only;omega
     ·rw[if_neg hadj];have hm:ZU (⟨p,q - 1⟩:RN)=true:=zm.2 ⟨hp.1,by simp only;omega,by simp only;omega⟩;refine⟨Zs.2 ⟨h,hm,fun z hz=>?_⟩,fun n=>?_,fun z hz=>?_,by simp⟩
      ·simp only;rcases List.mem_append.1 hz with hz | hz
       ·have:=n3 z hz;omega
       ·simp at hz;subst hz;omega
      ·rw[uV (l++[y]),vb,Bool.or_eq_true,vK];have:=zm.1 hm;simp only at this ⊢;simp only[hop,and_true]
       constructor
       ·rintro(h | h)
        ·exact .inl h
        ·right;omega
       ·rintro(h | h)
        ·exact .inl h
        ·right;omega
      ·rcases List.mem_append.1 hz with hz | hz
       ·have:=hy z hz;omega
       ·simp at hz;subst hz;simp only;omega
   ·rw[if_neg hop];refine⟨h,fun n=>?_,fun y hy'=>by have:=hy y hy';omega,by omega⟩;exact⟨fun h=>.inl h,fun h=>h.elim id fun h=>absurd h.2.2 hop⟩
  obtain⟨s1,s2,s3,s4⟩:=step;obtain⟨i1,i2,i3⟩:=je op a b P q _ hu'.2 (fun z hz=>hr z (List.mem_cons_of_mem _ hz)) s1 s3;refine⟨i1,fun n=>?_,by simp;omega⟩;rw[i2,s2];simp only[List.mem_cons,exists_eq_or_imp]
  constructor
  ·rintro((h | h) | h)
   ·exact .inl h
   ·exact .inr (.inl h)
   ·exact .inr (.inr h)
  ·rintro(h | h | h)
   ·exact .inl (.inl h)
   ·exact .inl (.inr h)
   ·exact .inr h
theorem WM : ∀ {P:List Int},Up P->∀ pq∈xV P,pq.1∈P/\pq.2∈P/\pq.1 < pq.2/\∀ m∈P,m<=pq.1\/pq.2<=m
 | [],_,pq,h=>by simp[xV] at h
 | [p],_,pq,h=>by simp[xV] at h
 | p::q::P,hu,pq,h=>by
  have e:xV (p::q::P)=(p,q)::xV (q::P):=rfl;rw[e] at h;have hu':=List.pairwise_cons.1 hu;rcases List.mem_cons.1 h with rfl | h
  ·refine⟨by simp,by simp,hu'.1 q (by simp),fun m hm=>?_⟩;rcases List.mem_cons.1 hm with rfl | hm
   ·simp
   ·right
    rcases List.mem_cons.1 hm with rfl | hm
    ·simp
    ·have:=(List.pairwise_cons.1 hu'.2).1 m hm;simp only;omega
  ·obtain⟨h1,h2,h3,h4⟩:=WM hu'.2 pq h;refine⟨List.mem_cons_of_mem _ h1,List.mem_cons_of_mem _ h2,h3,fun m hm=>?_⟩;rcases List.mem_cons.1 hm with rfl | hm
   ·left;have:=hu'.1 _ h1;omega
   ·exact h4 m hm
theorem Ui : ∀ {P:List Int},Up P->∀ {u v n:Int},u∈P->v∈P->u<=n->n < v->∃ pq∈xV P,pq.1<=n/\n < pq.2
 | [],_,_,_,_,h,_,_,_=>by simp at h
 | [p],_,u,v,n,h1,h2,h3,h4=>by simp at h1 h2;omega
 | p::q::P,hu,u,v,n,h1,h2,h3,h4=>by
  have e:xV (p::q::P)=(p,q)::xV (q::P):=rfl;have hu':=List.pairwise_cons.1 hu
  by_cases hc:n < q
  ·refine⟨(p,q),by rw[e];simp,?_,hc⟩;rcases List.mem_cons.1 h1 with rfl | h1
   ·exact h3
   ·have:q<=u:=by
     rcases List.mem_cons.1 h1 with rfl | h1
     ·omega
     ·have:=(List.pairwise_cons.1 hu'.2).1 u h1;omega
    simp only;omega
  ·have hv:v∈q::P:=by
    rcases List.mem_cons.1 h2 with rfl | h2
    ·have:=hu'.1 q (by simp);omega
    ·exact h2
   obtain⟨pq,h5,h6⟩:=Ui hu'.2 (u:=q) (by simp) hv (by omega) h4;exact⟨pq,by rw[e];exact List.mem_cons_of_mem _ h5,h6⟩
theorem ywa(P:List Int):(xV P).length=P.length - 1:=by simp[xV]
theorem ZQ{l:List RN}{P:List Int}(hP:∀ x∈l,ZU x=true->x.lo∈P/\x.hi+1∈P){p q n:Int}(h1:∀ m∈P,m<=p\/q<=m)(h2:p<=n)(h3:n < q):ym l n=ym l p:=by
 rw[Bool.eq_iff_iff,xe,xe]
 constructor
 ·rintro⟨x,hx,hm,h4,h5⟩;obtain⟨h6,h7⟩:=hP x hx hm;have:=h1 _ h6;have:=h1 _ h7;exact⟨x,hx,hm,by omega,by omega⟩
 ·rintro⟨x,hx,hm,h4,h5⟩;obtain⟨h6,h7⟩:=hP x hx hm;have:=h1 _ h6;have:=h1 _ h7;exact⟨x,hx,hm,by omega,by omega⟩
theorem yQ(op:Bool->Bool->Bool)(h0:op false false=false)(a b:List RN):Nf (Yi op a b)/\(∀ n,ym (Yi op a b) n=op (ym a n) (ym b n))/\(Yi op a b).length<=2*(a.length+b.length):=by
 obtain⟨p1,p2,p3⟩:=Uh (a++b);have hrange:∀ q∈jc (a++b),1<=q/\q<=281474976710656:=fun q hq=>by
  obtain⟨x,_,h2,h3⟩:=(p2 q).1 hq;have:=zm.1 h2;omega
 have main:Nf (Yi op a b)/\(∀ n,ym (Yi op a b) n=true↔∃ pq∈xV (jc (a++b)),pq.1<=n/\n < pq.2/\op (ym a pq.1) (ym b pq.1)=true)/\(Yi op a b).length<=(jc (a++b)).length:=by
  unfold Yi
  generalize hP:jc (a++b)=P at p1 hrange
  cases P with
  | nil=>simp[xV,Nf]
  | cons p P=>
   obtain⟨i1,i2,i3⟩:=je op a b P p [] p1 hrange trivial (by simp);exact⟨i1,fun n=>by rw[i2];simp,by simp at i3 ⊢;omega⟩
 obtain⟨m1,m2,m3⟩:=main;refine⟨m1,fun n=>?_,by simp at p3;omega⟩;have hPa:∀ x∈a,ZU x=true->x.lo∈jc (a++b)/\x.hi+1∈jc (a++b):=fun x hx hm=>⟨(p2 _).2 ⟨x,by simp[hx],hm,.inl rfl⟩,(p2 _).2 ⟨x,by simp[hx],hm,.inr rfl⟩⟩
 have hPb:∀ x∈b,ZU x=true->x.lo∈jc (a++b)/\x.hi+1∈jc (a++b):=fun x hx hm=>⟨(p2 _).2 ⟨x,by simp[hx],hm,.inl rfl⟩,(p2 _).2 ⟨x,by simp[hx],hm,.inr rfl⟩⟩
 rw[Bool.eq_iff_iff,m2]
 constructor
 ·rintro⟨pq,h1,h2,h3,h4⟩;obtain⟨_,_,_,h5⟩:=WM p1 pq h1
  rwa [ZQ hPa h5 h2 h3,ZQ hPb h5 h2 h3]
 ·intro h;have hex:∃ u∈jc (a++b),∃ v∈jc (a++b),u<=n/\n < v:=by
   cases ha:ym a n with
   | true=>
    obtain⟨x,h1,h2,h3,h4⟩:=xe.1 ha;exact⟨_,(hPa x h1 h2).1,_,(hPa x h1 h2).2,h3,by omega⟩
   | false=>
    cases hb:ym b n with
    | true=>
     obtain⟨x,h1,h2,h3,h4⟩:=xe.1 hb;exact⟨_,(hPb x h1 h2).1,_,(hPb x h1 h2).2,h3,by omega⟩
    | false=>rw[ha,hb,h0] at h;cases h
  obtain⟨u,hu,v,hv,h1,h2⟩:=hex;obtain⟨pq,h3,h4,h5⟩:=Ui p1 hu hv h1 h2;obtain⟨_,_,_,h6⟩:=WM p1 pq h3;exact⟨pq,h3,h4,h5,by rwa [<- ZQ hPa h6 h4 h5,<- ZQ hPb h6 h4 h5]⟩
def nrm(l:List RN):List RN:=Yi (·||·) l []
theorem Vo(l:List RN):Nf (nrm l):=(yQ _ rfl l []).1
theorem uE(l:List RN)(n:Int):ym (nrm l) n=ym l n:=by rw[nrm,(yQ _ rfl l []).2.1];simp
theorem XC(l:List RN):(nrm l).length<=2*l.length:=by
 have:=(yQ (·||·) rfl l []).2.2;rw[List.length_nil,Nat.add_zero] at this;exact this
theorem nrm_of{l r:List RN}(h:Nf r)(h2:∀ n,ym r n=ym l n):r=nrm l:=Ug h (Vo l) fun n=>by rw[h2,uE]
theorem Qt{l:List RN}(h:Nf l):nrm l=l:=(nrm_of h fun _=>rfl).symm
theorem yxa(x y:RN):(decide (x.lo=y.lo)&&decide (x.hi=y.hi))=decide (x=y):=by
 rw[Bool.eq_iff_iff]
 cases x;cases y
 simp
theorem eqLoop{body:Int->M (Step Int (Ex Unit Bool))}(a b:List RN)(hl:a.length=b.length)(hn:a.length<=1000000000000)
  (hb:∀ i:Int,body i=cond (decide (i < (a.length:Int))) (M.bind (M.idx a i) fun x=>M.bind (M.idx b i) fun y=>cond (!(decide (x.lo=y.lo)&&decide (x.hi=y.hi))) (M.pure (.done (.ret false))) (M.pure (.next (IntKind.i64.wrap (i+1))))) (M.pure (.done (.brk ())))) :
  M.bind (M.loop body 0) (M.exk fun _=>M.pure true)=pure (decide (a=b)):=by
 have:=wd (body:=body) a (fun i=>(i:Int)) (fun i x=>decide (b[i]?=some x)) (.brk ()) (.ret false) (fun i x hx hi=>by
  have hb':i < b.length:=by omega
  rw[hb,zJ hx,zJ (List.getElem?_eq_getElem hb'),yC (by omega)];simp only[zA,List.getElem?_eq_getElem hb',Option.some.injEq,yxa];have:decide ((i:Int) < (a.length:Int))=true:=by simpa using hi
  rw[this,cond_true]
  by_cases he:b[i]=x
  ·subst he;simp
  ·rw[if_neg (by simpa using he)];have:decide (x=b[i])=false:=by simpa using fun h=>he h.symm
   rw[this];rfl) (by rw[hb];simp)
 rw[show(0:Int)=((0:Nat):Int) from rfl,this]
 by_cases he:a=b
 ·subst he;rw[if_pos]
  ·simp[zA,Xz]
  ·rw[List.all_eq_true];intro ⟨x,i⟩ hx;rw[List.mk_mem_zipIdx_iff_getElem?] at hx;simpa using hx
 ·rw[if_neg]
  ·simp[he,zA,qJ]
  ·intro hall;rw[List.all_eq_true] at hall;apply he;apply List.ext_getElem (by omega);intro i h1 h2;have:=hall (a[i],i) (by rw[List.mk_mem_zipIdx_iff_getElem?];exact List.getElem?_eq_getElem h1);simp[h2] at this;exact this.symm
theorem seq_eq(a b:List RN)(h:a.length<=1000000000000):yM a b=pure (decide (a=b)):=by
 unfold yM
 by_cases hl:(a.length:Int)=b.length
 ·simp only[hl,decide_true,Bool.not_true,cond_false];exact eqLoop a b (by omega) h fun i=>rfl
 ·have hne:a≠b:=fun e=>hl (by rw[e])
  simp[hl,hne]
theorem yya(x:RN):VX x=pure (ZU x):=by
 unfold VX;rw[zd,zd,zA]
 rfl
theorem qw(l:List RN)(n:Int)(h:l.length<=1000000000000):WD l n=pure (ym l n):=by
 unfold WD;have:=wd (body:=YJ l n) l (fun i=>(i:Int)) (fun _ x=>!inR n x) (.brk ()) (.ret true) (fun i x hx hi=>by
  unfold YJ;have h1:decide ((i:Int) < (l.length:Int))=true:=by simpa using hi
  simp only[h1,cond_true,zJ hx,zA,yya,zB,yC (show i < 9223372036854775807 by omega),zd];unfold inR
  cases ZU x <;> cases decide (x.lo<=n) <;> cases decide (n<=x.hi) <;> rfl) (by unfold YJ;simp)
 rw[show(0:Int)=((0:Nat):Int) from rfl,this,zA];have e:l.zipIdx.all (fun y=>!inR n y.1)=!ym l n:=by
  unfold ym;rw[Bool.eq_iff_iff];simp only[List.all_eq_true,Bool.not_eq_true',List.any_eq_false]
  constructor
  ·intro h x hx;obtain⟨i,hi,he⟩:=List.getElem_of_mem hx;have:=h (x,i) (by rw[List.mk_mem_zipIdx_iff_getElem?];rw[List.getElem?_eq_getElem hi,he]);simpa using this
  ·intro h y hy;have:=List.fst_mem_of_mem_zipIdx hy;have:=h _ this;simpa using this
 simp only[e]
 cases ym l n <;> rfl
theorem yza(l:List Int)(n:Int)(h:l.length<=100000000000):VY l n=pure (putP l n):=by
 unfold VY;have:=ZL (body:=YK l n) l (fun i (t:Bool×List Int)=>(t.1,(i:Int),t.2)) (Xk n) (fun t=>pure t) (fun i t=>t.2.length<=2*i) (fun i x t hx hi hI=>by
  obtain⟨d,out⟩:=t;simp only at hI;have h1:decide ((i:Int) < (l.length:Int))=true:=by simpa using hi
  refine⟨?_,?_⟩
  ·unfold YK Xk;simp only[h1,cond_true,zJ hx,zA,yC (show i < 9223372036854775807 by omega)]
   cases d with
   | true=>
    by_cases hc:x=n
    ·simp[hc,zA]
    ·simp only[Bool.not_true,cond_false,zA,hc,decide_false,Bool.not_false,cond_true,if_false];rw[zE (by simp;omega)];simp[zA]
   | false=>
    by_cases hc1:n<=x
    ·simp only[Bool.not_false,cond_true,zA,hc1,decide_true];rw[zE (by simp;omega),zA]
     by_cases hc:x=n
     ·simp[hc,zA]
     ·simp only[hc,decide_false,Bool.not_false,cond_true];rw[zE (by simp;omega)];simp[zA]
    ·simp only[Bool.not_false,cond_true,zA,hc1,decide_false,cond_false];have hc:x≠n:=by omega
     simp only[hc,decide_false,Bool.not_false,cond_true];rw[zE (by simp;omega)];simp[zA]
  ·unfold Xk;simp only
   split <;> split <;> simp <;> omega) (fun t _=>by unfold YK;simp[zA]) (false,[]) (by simp)
 rw[show((false,(0:Int),([]:List Int)):Bool×Int×List Int)=(false,((0:Nat):Int),[]) from rfl,this,zA];unfold putP;have hlen:(l.foldl (Xk n) (false,[])).2.length<=2*l.length:=by
  have:∀ (l:List Int) (s:Bool×List Int),(l.foldl (Xk n) s).2.length<=s.2.length+2*l.length:=by
   intro l
   induction l with
   | nil=>intro s;simp
   | cons x r ih=>
    intro s;rw[List.foldl_cons];have:=ih (Xk n s x);have h2:(Xk n s x).2.length<=s.2.length+2:=by
     unfold Xk;simp only
     split <;> split <;> simp
    simp;omega
  simpa using this l (false,[])
 generalize l.foldl (Xk n) (false,[])=t at hlen
 obtain⟨d,out⟩:=t
 cases d with
 | true=>rfl
 | false=>
  simp only[Bool.not_false,cond_true];rw[zE (by simp at hlen ⊢;omega)]
  rfl
theorem rpts_eq(a b:List RN)(h:a.length+b.length<=10000000000):YL a b=pure (jc (a++b)):=by
 unfold YL;rw[zE (by simp;omega),zE (by simp;omega)];have hup:∀ i,Up (((a++b).take i).foldl ptS [])/\(((a++b).take i).foldl ptS []).length<=2*(a++b).length:=fun i=>by
  obtain⟨h1,_,h3⟩:=jd ((a++b).take i) [] (by simp[Up]);refine⟨h1,?_⟩;have:((a++b).take i).length<=(a++b).length:=by simp;omega
  simp only[List.length_nil,Nat.zero_add] at h3;omega
 have:=ZL (body:=vW a b) (a++b) (fun i (t:List Int)=>(t,(i:Int))) ptS (fun t=>pure t) (fun i t=>t=((a++b).take i).foldl ptS []) (fun i x t hx hi hI=>by
  have h1:decide ((i:Int) < ((a++b).length:Int))=true:=decide_eq_true (by omega);have hlen:(a++b).length<=10000000000:=by simp;omega
  obtain⟨u1,u2⟩:=hup i;rw[<- hI] at u1 u2;refine⟨?_,?_⟩
  ·unfold vW ptS;simp only[List.nil_append,h1,cond_true,zJ hx,zA,yC (show i < 9223372036854775807 by omega),yya,zB]
   cases hm:ZU x with
   | false=>simp[zA]
   | true=>
    have hm':=zm.1 hm;have hp:=WL u1 x.lo;rw[cond_true,yza _ _ (by omega),zB,zA,wU64 (by omega) (by omega),yza _ _ (by omega),zB];simp[zA]
  ·rw[List.take_add_one,hx];simp[hI]) (fun t _=>by unfold vW;simp[zA]) [] (by simp)
 rw[show(([]:List Int),(0:Int))=([],((0:Nat):Int)) from rfl,this];simp only[zA]
 rfl
theorem Jj{P:List Int}{i:Nat}{pq:Int×Int}(h:(xV P)[i]?=some pq):P[i]?=some pq.1/\P[i+1]?=some pq.2:=by
 unfold xV at h;rw[List.getElem?_zip_eq_some] at h;obtain⟨h1,h2⟩:=h;rw[List.getElem?_tail] at h2;exact⟨h1,h2⟩
theorem Vp(op:Bool->Bool->Bool)(how:Int)(hop:∀ x y,op x y=if how=2 then (x&&!y) else if how=1 then (x&&y) else (x||y))(_h0:op false false=false)(a b:List RN)(h:a.length+b.length<=10000000000):WE a b how=pure (Yi op a b):=by
 unfold WE;rw[rpts_eq a b h,zB,zA];obtain⟨p1,p2,p3⟩:=Uh (a++b);have hrange:∀ q∈jc (a++b),1<=q/\q<=281474976710656:=fun q hq=>by
  obtain⟨x,_,h2,h3⟩:=(p2 q).1 hq;have:=zm.1 h2;omega
 unfold Yi
 generalize jc (a++b)=P at p1 hrange p3
 simp only[List.length_append] at p3;have hinv:∀ i,i<=(xV P).length->Nf (((xV P).take i).foldl (Qs op a b) [])/\(((xV P).take i).foldl (Qs op a b) []).length<=P.length:=fun i hi=>by
  cases P with
  | nil=>simp[xV,Nf]
  | cons p P=>
   have key:(xV (p::P)).take i=xV (p::P.take i):=by
    unfold xV;simp only[List.tail_cons];clear hi p1 hrange p3
    induction i generalizing p P with
    | zero=>simp
    | succ i ih=>
     cases P with
     | nil=>simp
     | cons q P=>
      simp only[List.zip_cons_cons,List.take_succ_cons];rw[ih q P]
   rw[key];have hsub:(p::P.take i).Sublist (p::P):=List.Sublist.cons_cons _ (List.take_sublist _ _);obtain⟨i1,_,i3⟩:=je op a b (P.take i) p [] (List.Pairwise.sublist hsub p1) (fun q hq=>hrange q (hsub.subset hq)) trivial (by simp);refine⟨i1,?_⟩;simp at i3 ⊢;omega
 have:=ZL (body:=YM P a b how) (xV P) (fun i (t:List RN)=>((i:Int),t)) (Qs op a b) (fun t=>pure t) (fun i t=>i<=(xV P).length/\t=((xV P).take i).foldl (Qs op a b) []) (fun i pq t hx hi hI=>by
  obtain⟨hI1,hI⟩:=hI;obtain⟨g1,g2⟩:=Jj hx;have hlt:i+1 < P.length:=(List.getElem?_eq_some_iff.1 g2).1;have hPl:P.length<=20000000000:=by omega
  have h1:decide (((i+1:Nat):Int) < (P.length:Int))=true:=by rw[decide_eq_true_eq];omega
  obtain⟨v1,v2⟩:=hinv i hI1;rw[<- hI] at v1 v2;refine⟨?_,by omega,by rw[List.take_add_one,hx];simp[hI]⟩;unfold YM Qs;have e2:idx P ((i+1:Nat):Int)=pure pq.2:=zJ g2;have hq:=hrange pq.2 (List.mem_of_getElem? g2);simp only[yC (show i < 9223372036854775807 by omega),h1,cond_true,zJ g1,e2,zA,qw a pq.1 (by omega),qw b pq.1 (by omega),zB];rw[hop];have hin:∀ (x y:Bool),(M.bind (cond x (M.pure true) (M.pure y)) fun in97=>M.bind (cond (decide (how=1)) (M.bind (cond x (M.pure y) (M.pure false)) fun in101=>M.pure in101) (M.pure in97)) fun in99=>cond (decide (how=2)) (M.bind (cond x (M.pure (!y)) (M.pure false)) fun in105=>M.pure in105) (M.pure in99))=pure (if how=2 then (x&&!y) else if how=1 then (x&&y) else (x||y)):=by
   intro x y
   by_cases c2:how=2
   ·subst c2;cases x <;> cases y <;> rfl
   ·by_cases c1:how=1
    ·subst c1;cases x <;> cases y <;> rfl
    ·simp only[c1,c2,decide_false,cond_false,if_false]
     cases x <;> cases y <;> rfl
  have hin':=hin (ym a pq.1) (ym b pq.1)
  generalize (if how=2 then (ym a pq.1&&!ym b pq.1) else if how=1 then (ym a pq.1&&ym b pq.1) else (ym a pq.1||ym b pq.1))=inn at hin'
  -- the three steps are one
  have assoc:∀ (K:Bool->M (List RN)),(M.bind (cond (ym a pq.1) (M.pure true) (M.pure (ym b pq.1))) fun in97=>M.bind (cond (decide (how=1)) (M.bind (cond (ym a pq.1) (M.pure (ym b pq.1)) (M.pure false)) fun in101=>M.pure in101) (M.pure in97)) fun in99=>M.bind (cond (decide (how=2)) (M.bind (cond (ym a pq.1) (M.pure (!ym b pq.1)) (M.pure false)) fun in105=>M.pure in105) (M.pure in99)) K)=K inn:=by
   intro K;have:=congrArg (fun m=>M.bind m K) hin';exact this
  rw[assoc]
  cases inn with
  | false=>rfl
  | true=>
   simp only[cond_true,if_true];rcases xj t with rfl | ⟨l,y,rfl⟩
   ·have e:decide ((0:Int)<=IntKind.i64.wrap (((([]:List RN).length:Nat):Int) - 1))=false:=by
     rw[UF (by simp) (by simp)];simp
    rw[e];simp only[cond_false,zA];rw[zE (by simp),wU64 (by omega) (by omega)]
    rfl
   ·have hy:=(Zs.1 v1).2.1;have hym:=zm.1 hy;have e0:IntKind.i64.wrap ((((l++[y]).length:Nat):Int) - 1)=(l.length:Int):=by
     simp only[List.length_append,List.length_singleton] at v2 ⊢;rw[UF (by omega) (by omega)];omega
    have e1:idx (l++[y]) (l.length:Int)=pure y:=zJ (by simp);have e3:decide ((0:Int)<=(l.length:Int))=true:=by simp
    rw[e0,e3];simp only[cond_true,e1,zA,wU64 (show 0<=y.hi+1 by omega) (by omega),wU64 (show 0<=pq.2 - 1 by omega) (by omega)];rw[Vn]
    by_cases hc:y.hi+1=pq.1
    ·simp only[hc,decide_true,cond_true,if_true,Int.toNat_natCast];have:(l++[y]).set l.length (⟨y.lo,pq.2 - 1⟩:RN)=l++[⟨y.lo,pq.2 - 1⟩]:=by simp
     rw[this]
     rfl
    ·simp only[hc,decide_false,cond_false,if_false];rw[zE (by simp only[List.length_append,List.length_singleton] at v2 ⊢;omega)]
     rfl) (fun t _=>by
  unfold YM;have e:decide (IntKind.i64.wrap (((xV P).length:Int)+1) < (P.length:Int))=false:=by
   rw[ywa,UF (by omega) (by omega)];simp;omega
  simp only[e,cond_false,zA]) [] ⟨Nat.zero_le _,by simp⟩
 rw[show((0:Int),([]:List RN))=(((0:Nat):Int),[]) from rfl,this];simp only[zA]
theorem Qu(a b:List RN)(h:a.length+b.length<=10000000000):XV a b=pure (Yi (·||·) a b):=by
 unfold XV;rw[Vp (·||·) 0 (fun x y=>by simp) rfl a b h,zB,zA]
theorem rmeet_eq(a b:List RN)(h:a.length+b.length<=10000000000):Wr a b=pure (Yi (·&&·) a b):=by
 unfold Wr;rw[Vp (·&&·) 1 (fun x y=>by simp) rfl a b h,zB,zA]
theorem y0a(a b:List RN)(h:a.length+b.length<=10000000000):XW a b=pure (Yi (fun x y=>x&&!y) a b):=by
 unfold XW;rw[Vp (fun x y=>x&&!y) 2 (fun x y=>by simp) rfl a b h,zB,zA]
def Jk(out:List RN)(x:RN):List RN:=match out.getLast? with
 | some y=>if x.lo<=y.hi+1 then out.dropLast++[⟨y.lo,max y.hi x.hi⟩] else out++[x]
 | none=>out++[x]
theorem jf(x:RN):Jk [] x=[x]:=rfl
theorem Vq(l:List RN)(y x:RN):Jk (l++[y]) x=if x.lo<=y.hi+1 then l++[⟨y.lo,max y.hi x.hi⟩] else l++[y]++[x]:=by simp[Jk]
theorem zma{out:List RN}{x:RN}(h:Nf out)(hx:ZU x=true)(hlo:∀ y∈out,y.lo<=x.lo):Nf (Jk out x)/\(∀ n,ym (Jk out x) n=(ym out n||inR n x))/\(∀ y∈Jk out x,y.lo<=x.lo)/\(Jk out x).length<=out.length+1:=by
 have hxm:=zm.1 hx;rcases xj out with rfl | ⟨l,y,rfl⟩
 ·rw[jf];exact⟨⟨hx,by simp,trivial⟩,fun n=>by rw[vb];simp,by simp,by simp⟩
 ·rw[Vq];obtain⟨n1,n2,n3⟩:=Zs.1 h;have hym:=zm.1 n2;have hyx:=hlo y (by simp)
  by_cases hc:x.lo<=y.hi+1
  ·rw[if_pos hc];have hm:ZU (⟨y.lo,max y.hi x.hi⟩:RN)=true:=zm.2 ⟨hym.1,by simp only;omega,by simp only;omega⟩;refine⟨Zs.2 ⟨n1,hm,n3⟩,fun n=>?_,fun z hz=>?_,by simp⟩
   ·rw[uV,uV,vb,vb,Bool.or_assoc]
    congr 1
    rw[Bool.eq_iff_iff,Bool.or_eq_true,vK,vK,vK];have:=zm.1 hm;simp only at this ⊢;omega
   ·rcases List.mem_append.1 hz with hz | hz
    ·exact hlo z (by simp[hz])
    ·simp at hz;subst hz;exact hyx
  ·rw[if_neg hc];refine⟨Zs.2 ⟨h,hx,fun z hz=>?_⟩,fun n=>by rw[uV (l++[y]),vb],fun z hz=>?_,by simp⟩
   ·rcases List.mem_append.1 hz with hz | hz
    ·have:=n3 z hz;omega
    ·simp at hz;subst hz;omega
   ·rcases List.mem_append.1 hz with hz | hz
    ·exact hlo z hz
    ·simp at hz;subst hz;exact Int.le_refl _
theorem Vr : ∀ (s out:List RN),Nf out->(∀ x∈s,ZU x=true)->s.Pairwise (fun x y=>x.lo<=y.lo)->(∀ y∈out,∀ x∈s,y.lo<=x.lo)->Nf (s.foldl Jk out)/\(∀ n,ym (s.foldl Jk out) n=(ym out n||ym s n))/\(s.foldl Jk out).length<=out.length+s.length
 | [],out,h,_,_,_=>⟨h,by simp,by simp⟩
 | x::r,out,h,hm,hp,hlo=>by
  obtain⟨a1,a2,a3,a4⟩:=zma h (hm x (by simp)) fun y hy=>hlo y hy x (by simp)
  obtain⟨p1,p2⟩:=List.pairwise_cons.1 hp;obtain⟨i1,i2,i3⟩:=Vr r _ a1 (fun y hy=>hm y (List.mem_cons_of_mem _ hy)) p2 fun y hy z hz=>by
   have:=a3 y hy;have:=p1 z hz;omega
  refine⟨i1,fun n=>?_,by simp;omega⟩;rw[List.foldl_cons,i2,a2,Zr,Bool.or_assoc]
theorem y1a{l:List RN}{Q:List RN->Prop}(h:∀ s,s.Perm l->s.Pairwise (fun x y=>x.lo<=y.lo)->Q s):(srt UH l).wp Q:=by
 refine⟨⟨l.mergeSort (fun x y=>decide (x.lo<=y.lo)),List.mergeSort_perm _ _,?_⟩,fun s ⟨h1,h2⟩=>h s h1 (h2.imp fun {x y} h=>?_)⟩
 ·refine(List.pairwise_mergeSort (fun a b c h1 h2=>?_) (fun a b=>?_) l).imp fun {x y} h=>?_
  ·simp only[decide_eq_true_eq] at h1 h2 ⊢;omega
  ·simp only[Bool.or_eq_true,decide_eq_true_eq];omega
  ·simp only[decide_eq_true_eq] at h;unfold UH;simp only[decide_eq_false_iff_not];omega
 ·unfold UH at h;simp only[decide_eq_false_iff_not] at h;omega
theorem qx(l:List RN)(h:l.length<=1000000000000):wq l=pure (nrm l):=by
 unfold wq;have h1:=ZL (body:=wk l) l (fun i (t:List RN)=>((i:Int),t)) (fun t x=>if ZU x then t++[x] else t) (fun t=>pure t) (fun i t=>t.length<=i) (fun i x t hx hi hI=>by
  have h1:decide ((i:Int) < (l.length:Int))=true:=by simpa using hi
  refine⟨?_,by split <;> (try simp only[List.length_append,List.length_singleton]) <;> omega⟩;unfold wk;simp only[h1,cond_true,zJ hx,zA,yC (show i < 9223372036854775807 by omega)];have e:(cond (decide (0 < x.lo)) (cond (decide (x.lo<=x.hi)) (M.pure (decide (x.hi<=281474976710655))) (M.pure false)) (M.pure false):M Bool)=pure (ZU x):=by
   rw[zd,zd];refine congrArg pure ?_;rw[Bool.eq_iff_iff,zm];simp only[Bool.and_eq_true,decide_eq_true_eq];omega
  rw[e,zA]
  cases hm:ZU x with
  | false=>simp[zA]
  | true=>
   rw[cond_true,zE (by simp;omega)];simp[zA]) (fun t _=>by unfold wk;simp[zA]) [] (by simp)
 have hf:∀ (l t:List RN),l.foldl (fun t x=>if ZU x then t++[x] else t) t=t++l.filter ZU:=by
  intro l
  induction l with
  | nil=>simp
  | cons x r ih=>
   intro t;rw[List.foldl_cons,ih]
   cases hm:ZU x <;> simp[hm]
 rw[hf,List.nil_append] at h1;have h1':loop (wk l) (0,[])=pure (l.filter ZU):=h1;have hfl:(l.filter ZU).length<=l.length:=List.length_filter_le _ _;rw[h1',zA,zE (by omega)];refine ux (y1a fun s hs hp=>?_);have hsl:=hs.length_eq;have hmay:∀ x∈s,ZU x=true:=fun x hx=>(List.mem_filter.1 (hs.mem_iff.1 hx)).2
 have hpre:∀ i,Nf ((s.take i).foldl Jk [])/\((s.take i).foldl Jk []).length<=i/\∀ x,s[i]?=some x->∀ y∈(s.take i).foldl Jk [],y.lo<=x.lo:=fun i=>by
  obtain⟨i1,i2,i3⟩:=Vr (s.take i) [] trivial (fun x hx=>hmay x (List.mem_of_mem_take hx)) (List.Pairwise.sublist (List.take_sublist _ _) hp) (by simp);refine⟨i1,by simp at i3;omega,fun x hx y hy=>?_⟩;have hmy:=zm.1 (i1.may y hy);have:ym ((s.take i).foldl Jk []) y.lo=true:=xe.2 ⟨y,hy,i1.may y hy,by omega,by omega⟩;rw[i2] at this;simp only[Qp,Bool.false_or] at this;obtain⟨z,hz,_,h3,_⟩:=xe.1 this
  -- z is ahead of x; y begins where one of those ahead begins
  have hall:∀ (s out:List RN),(∀ y∈s.foldl Jk out,(∃ z∈out,y.lo=z.lo)\/∃ z∈s,y.lo=z.lo):=by
   intro s
   induction s with
   | nil=>intro out y hy;exact .inl ⟨y,hy,rfl⟩
   | cons a r ih=>
    intro out y hy;rcases ih _ y hy with⟨z,hz,e⟩ | ⟨z,hz,e⟩
    ·rcases xj out with rfl | ⟨q,w,rfl⟩
     ·rw[jf] at hz;simp at hz;subst hz;exact .inr ⟨z,by simp,e⟩
     ·rw[Vq] at hz
      split at hz
      ·rcases List.mem_append.1 hz with hz | hz
       ·exact .inl ⟨z,by simp[hz],e⟩
       ·simp at hz;subst hz;exact .inl ⟨w,by simp,e⟩
      ·rcases List.mem_append.1 hz with hz | hz
       ·exact .inl ⟨z,hz,e⟩
       ·simp at hz;subst hz;exact .inr ⟨z,by simp,e⟩
    ·exact .inr ⟨z,by simp[hz],e⟩
  rcases hall _ _ y hy with⟨z,hz,_⟩ | ⟨z,hz,e⟩
  ·simp at hz
  ·obtain⟨j,hj,hje⟩:=List.getElem_of_mem hz;have hlt:=(List.getElem?_eq_some_iff.1 hx).1;have hji:j < i:=by simp at hj;omega
   have:=List.pairwise_iff_getElem.1 hp j i (by omega) hlt hji;rw[List.getElem_take] at hje;have hxe:s[i]=x:=by rw[List.getElem?_eq_getElem hlt] at hx;simpa using hx
   rw[hje,hxe] at this;omega
 have h2:=ZL (body:=wn (l.filter ZU) s) s (fun i (t:List RN)=>((i:Int),t)) Jk (fun t=>pure t) (fun i t=>t=(s.take i).foldl Jk []) (fun i x t hx hi hI=>by
  obtain⟨v1,v2,v3⟩:=hpre i;have v3:=v3 x hx;rw[<- hI] at v1 v2 v3;have hxm:=zm.1 (hmay x (List.mem_of_getElem? hx));have h1:decide ((i:Int) < ((l.filter ZU).length:Int))=true:=by simp;omega
  refine⟨?_,by rw[List.take_add_one,hx];simp[hI]⟩;unfold wn;simp only[h1,cond_true,zJ hx,zA,yC (show i < 9223372036854775807 by omega)];rcases xj t with rfl | ⟨q,y,rfl⟩
  ·have e:decide ((0:Int)<=IntKind.i64.wrap (((([]:List RN).length:Nat):Int) - 1))=false:=by
    rw[UF (by simp) (by simp)];simp
   rw[e];simp only[cond_false,zA];rw[zE (by simp),jf]
   rfl
  ·have hy:=(Zs.1 v1).2.1;have hym:=zm.1 hy;have e0:IntKind.i64.wrap ((((q++[y]).length:Nat):Int) - 1)=(q.length:Int):=by
    simp only[List.length_append,List.length_singleton] at v2 ⊢;rw[UF (by omega) (by omega)];omega
   have e1:idx (q++[y]) (q.length:Int)=pure y:=zJ (by simp);have e3:decide ((0:Int)<=(q.length:Int))=true:=by simp
   rw[e0,e3];simp only[cond_true,e1,zA,wU64 (show 0<=y.hi+1 by omega) (by omega)];rw[Vq]
   by_cases hc:x.lo<=y.hi+1
   ·simp only[hc,decide_true,cond_true,if_true,Int.toNat_natCast];have:(q++[y]).set q.length (⟨y.lo,max y.hi x.hi⟩:RN)=q++[⟨y.lo,max y.hi x.hi⟩]:=by simp
    rw[this]
    rfl
   ·simp only[hc,decide_false,cond_false,if_false];rw[zE (by simp only[List.length_append,List.length_singleton] at v2 ⊢;omega)]
    rfl) (fun t _=>by
  unfold wn;have e:decide ((s.length:Int) < ((l.filter ZU).length:Int))=false:=by simp;omega
  simp only[e,cond_false,zA]) [] (by simp)
 show(M.bind (M.loop (wn (l.filter ZU) s) (0,[])) fun out38=>M.pure out38).wp (·=nrm l);rw[show((0:Int),([]:List RN))=(((0:Nat):Int),[]) from rfl,h2];obtain⟨i1,i2,_⟩:=Vr s [] trivial hmay hp (by simp);exact nrm_of i1 fun n=>by rw[i2,yva hs,qu];simp
def Yh(nums:List Int):List RN:=nums.map fun n=>⟨n,n⟩
def y2a(x y:Int):Int:=if x < y then -1 else if y < x then 1 else 0
theorem y3a(x y:Int):yd x y=pure (y2a x y):=by
 unfold yd xa y2a;simp only[decide_true,Bool.not_true,zB,zA,cond_false,yi]
 split
 ·rfl
 ·split <;> rfl
theorem y4a(x:RN)(n:Int):vo x n=pure (y2a x.hi n):=by
 unfold vo;rw[y3a,zB,zA]
def WZ : List RN->Int->Nat
 | [],_=>0
 | x::r,n=>if x.hi < n then WZ r n+1 else 0
theorem Jl : ∀ {v:List RN} {n:Int} {c:Nat},c<=v.length->(∀ (k:Nat) (x:RN),k < c->v[k]?=some x->x.hi < n)->(∀ (k:Nat) (x:RN),c<=k->v[k]?=some x->n<=x.hi)->c=WZ v n
 | [],n,c,h,_,_=>by simp at h;simp[WZ,h]
 | x::r,n,0,_,_,h2=>by
  have:=h2 0 x (by omega) rfl;simp only[WZ];rw[if_neg (by omega)]
 | x::r,n,c+1,h,h1,h2=>by
  have:=h1 0 x (by omega) rfl;simp only[WZ];rw[if_pos this,<- Jl (v:=r) (n:=n) (c:=c) (by simpa using h) (fun k y hk hy=>h1 (k+1) y (by omega) (by simpa using hy)) (fun k y hk hy=>h2 (k+1) y (by omega) (by simpa using hy))]
theorem y5a{v:List RN}(h:Nf v):∀ {i j:Nat} {x y:RN},i < j->v[i]?=some x->v[j]?=some y->x.hi < y.hi:=by
 induction v with
 | nil=>intro i j x y _ hx;simp at hx
 | cons z r ih=>
  intro i j x y hij hx hy
  cases j with
  | zero=>omega
  | succ j=>
   have hyr:r[j]?=some y:=by simpa using hy
   have hym:=List.mem_of_getElem? hyr
   cases i with
   | zero=>
    simp at hx;subst hx;have:=h.2.1 y hym;have:=zm.1 (h.2.2.may y hym);omega
   | succ i=>exact ih h.2.2 (show i < j by omega) (by simpa using hx) hyr
theorem bs_loop(v:List RN)(n:Int)(hv:Nf v)(hl:v.length<=1000000000000):loop (zW v n) (0,(v.length:Int))=pure (WZ v n:Int):=by
 refine ux (loop_inv (fun s=>∃ i j:Nat,s=((i:Int),(j:Int))/\i<=j/\j<=v.length/\(∀ (k:Nat) (x:RN),k < i->v[k]?=some x->x.hi < n)/\(∀ (k:Nat) (x:RN),j<=k->v[k]?=some x->n<=x.hi)) (fun s=>(s.2 - s.1).toNat) ?_ _ ⟨0,v.length,rfl,Nat.zero_le _,Nat.le_refl _,fun k x hk=>absurd hk (Nat.not_lt_zero _),fun k x hk hx=>absurd (List.getElem?_eq_some_iff.1 hx).1 (Nat.not_lt.2 hk)⟩);rintro _ ⟨i,j,rfl,hij,hj,h1,h2⟩;unfold zW;simp only[yi]
 by_cases hc:(i:Int) < j
 ·rw[if_pos hc];have e:IntKind.i64.wrap (Int.fdiv (IntKind.u64.wrap (IntKind.i64.wrap ((i:Int)+j))) (2 ^ 1))=(((i+j) / 2:Nat):Int):=by
   rw[UF (n:=(i:Int)+j) (by omega) (by omega),wU64 (by omega) (by omega),Int.fdiv_eq_ediv_of_nonneg _ (by decide)];have:((i:Int)+j) / 2 ^ 1=(((i+j) / 2:Nat):Int):=by omega
   rw[this,UF (by omega) (by omega)]
  have hm:(i+j) / 2 < v.length:=by omega
  rw[e];simp only[zJ (List.getElem?_eq_getElem hm),zA,y4a,zB,yC (show(i+j) / 2 < 9223372036854775807 by omega)]
  by_cases hlt:v[(i+j) / 2].hi < n
  ·have:y2a v[(i+j) / 2].hi n < 0:=by unfold y2a;rw[if_pos hlt];decide
   rw[if_pos this];refine⟨⟨(i+j) / 2+1,j,rfl,by omega,hj,fun k x hk hx=>?_,h2⟩,?_⟩
   ·by_cases e:k=(i+j) / 2
    ·subst e;rw[List.getElem?_eq_getElem hm] at hx;cases hx;exact hlt
    ·have:=y5a hv (show k < (i+j) / 2 by omega) hx (List.getElem?_eq_getElem hm);omega
   ·simp only;omega
  ·have:¬ y2a v[(i+j) / 2].hi n < 0:=by unfold y2a;rw[if_neg hlt];split <;> decide
   rw[if_neg this];refine⟨⟨i,(i+j) / 2,rfl,by omega,by omega,h1,fun k x hk hx=>?_⟩,?_⟩
   ·by_cases e:k=(i+j) / 2
    ·subst e;rw[List.getElem?_eq_getElem hm] at hx;cases hx;omega
    ·have:=y5a hv (show(i+j) / 2 < k by omega) (List.getElem?_eq_getElem hm) hx;omega
   ·simp only;omega
 ·rw[if_neg hc];have hij':i=j:=by omega
  subst hij';show(i:Int)=(WZ v n:Int)
  rw[<- Jl hj h1 h2]
def hitB(v:List RN)(n:Int):Bool:=match v[WZ v n]? with | some x=>decide (y2a x.hi n=0) | none=>false
theorem bs_eq(v:List RN)(n:Int)(hv:Nf v)(hl:v.length<=1000000000000):zL v n=pure ((WZ v n:Int),hitB v n):=by
 unfold zL hitB;rw[bs_loop v n hv hl,zA]
 by_cases hc:WZ v n < v.length
 ·have:decide ((WZ v n:Int) < (v.length:Int))=true:=by simpa using hc
  rw[this,cond_true,zJ (List.getElem?_eq_getElem hc)];simp only[zA,y4a,zB,List.getElem?_eq_getElem hc]
 ·have:decide ((WZ v n:Int) < (v.length:Int))=false:=by simpa using hc
  rw[this,cond_false,zA,List.getElem?_eq_none (by omega)]
theorem Qv : ∀ {v:List RN} (n:Int),Nf v->ym v n=(match v[WZ v n]? with | some x=>decide (x.lo<=n) | none=>false)
 | [],n,_=>rfl
 | x::r,n,h=>by
  by_cases hc:x.hi < n
  ·simp only[WZ,if_pos hc,List.getElem?_cons_succ];rw[<- Qv n h.2.2,Zr];have:inR n x=false:=by
    rw[Bool.eq_false_iff];intro h;have:=(vK.1 h).2.2;omega
   rw[this,Bool.false_or]
  ·simp only[WZ,if_neg hc,List.getElem?_cons_zero];rw[Bool.eq_iff_iff,decide_eq_true_eq]
   constructor
   ·exact jb h
   ·intro hle;exact(qv h hle).2 (.inl (by omega))
theorem has_eq(l:List RN)(n:Int)(h:l.length<=100000000000):Wn l n=pure (ym l n):=by
 unfold Wn;have hl:=XC l;rw[qx l (by omega),zB,zA,bs_eq _ n (Vo l) (by omega),zB,zA,<- uE l n,Qv n (Vo l)]
 generalize nrm l=v
 by_cases hc:WZ v n < v.length
 ·have:decide ((WZ v n:Int) < (v.length:Int))=true:=by simpa using hc
  simp only[this,cond_true,zJ (List.getElem?_eq_getElem hc),zA,List.getElem?_eq_getElem hc]
 ·have:decide ((WZ v n:Int) < (v.length:Int))=false:=by simpa using hc
  simp only[this,cond_false,zA,List.getElem?_eq_none (show v.length<=WZ v n by omega)]
theorem Xm(l:List Int):(Yh l).length=l.length:=by simp[Yh]
end Go.Ep.M.R
namespace Go.Ep.M.C
open Go
def yX(c:List PT)(k:Int):List RN:=(c.filter fun p=>decide (p.dev=k)&&decide (0 < k)).flatMap (·.runs)
theorem VD(k:Int):yX [] k=[]:=rfl
theorem uF(p:PT)(c:List PT)(k:Int):yX (p::c) k=(if p.dev=k/\0 < k then p.runs else [])++yX c k:=by
 unfold yX;rw[List.filter_cons]
 by_cases h:p.dev=k/\0 < k
 ·simp[h.1,h.2]
 ·rw[if_neg (by simpa using h),if_neg h];rfl
theorem Xn(a b:List PT)(k:Int):yX (a++b) k=yX a k++yX b k:=by simp[yX,List.filter_append]
theorem jg{c:List PT}{k:Int}(h:¬ 0 < k):yX c k=[]:=by simp[yX,h]
def ZR(c:List PT)(k n:Int):Bool:=R.ym (yX c k) n
theorem ZS(a b:List PT)(k n:Int):ZR (a++b) k n=(ZR a k n||ZR b k n):=by simp[ZR,Xn,R.uV]
def vT(c:List PT):Nat:=(c.map fun p=>p.runs.length).sum
theorem YZ(a b:List PT):vT (a++b)=vT a+vT b:=by simp[vT]
theorem ZT(c:List PT)(k:Int):(yX c k).length<=vT c:=by
 induction c with
 | nil=>simp[yX]
 | cons p r ih=>
  rw[uF,List.length_append];have:vT (p::r)=p.runs.length+vT r:=by simp[vT]
  split
  ·omega
  ·simp;omega
theorem jh(ks:List Int):(ks.map fun _=>0).sum=0:=by
 induction ks with
 | nil=>rfl
 | cons k r ih=>rw[List.map_cons,List.sum_cons,ih]
theorem rawC_sum(c:List PT)(ks:List Int)(h:ks.Nodup):(ks.map fun k=>(yX c k).length).sum<=vT c:=by
 induction c with
 | nil=>simp only[VD,List.length_nil,jh];exact Nat.zero_le _
 | cons p r ih=>
  have e:vT (p::r)=p.runs.length+vT r:=by simp[vT]
  have h1:(ks.map fun k=>(yX (p::r) k).length).sum=(ks.map fun k=>if p.dev=k/\0 < k then p.runs.length else 0).sum+(ks.map fun k=>(yX r k).length).sum:=by
   clear h ih
   induction ks with
   | nil=>rfl
   | cons k ks ih2=>
    simp only[List.map_cons,List.sum_cons,uF,List.length_append] at ih2 ⊢
    by_cases hc:p.dev=k/\0 < k
    ·rw[if_pos hc,if_pos hc];omega
    ·rw[if_neg hc,if_neg hc,List.length_nil];omega
  have h2:(ks.map fun k=>if p.dev=k/\0 < k then p.runs.length else 0).sum<=p.runs.length:=by
   clear ih h1 e
   induction ks with
   | nil=>simp
   | cons k ks ih2=>
    obtain⟨n1,n2⟩:=List.nodup_cons.1 h;simp only[List.map_cons,List.sum_cons]
    by_cases hk:p.dev=k
    ·have h0:(ks.map fun k=>if p.dev=k/\0 < k then p.runs.length else 0).sum=0:=by
      have:(ks.map fun k=>if p.dev=k/\0 < k then p.runs.length else 0)=ks.map fun _=>0:=by
       refine List.map_congr_left fun q hq=>?_
       rw[if_neg];rintro⟨e,_⟩;exact n1 (by rw[<- hk,e];exact hq)
      rw[this];exact jh ks
     rw[h0]
     split <;> omega
    ·rw[if_neg (fun h=>hk h.1)];have:=ih2 n2;omega
  omega
def OrdP(l:List PT):Prop:=l.Pairwise fun x y=>x.dev < y.dev
theorem VE : ∀ {l l':List PT},OrdP l->OrdP l'->(∀ d,d∈l↔d∈l')->l=l'
 | [],[],_,_,_=>rfl
 | [],y::r,_,_,h=>absurd ((h y).2 (by simp)) (by simp)
 | x::r,[],_,_,h=>absurd ((h x).1 (by simp)) (by simp)
 | x::r,y::q,h1,h2,h=>by
  obtain⟨a1,a2⟩:=List.pairwise_cons.1 h1;obtain⟨b1,b2⟩:=List.pairwise_cons.1 h2;have e:x=y:=by
   rcases List.mem_cons.1 ((h x).1 (by simp)) with e | hx
   ·exact e
   ·rcases List.mem_cons.1 ((h y).2 (by simp)) with e | hy
    ·exact e.symm
    ·have:=a1 y hy;have:=b1 x hx;omega
  subst e
  congr 1
  refine VE a2 b2 fun d=>⟨fun hd=>?_,fun hd=>?_⟩
  ·rcases List.mem_cons.1 ((h d).1 (List.mem_cons_of_mem _ hd)) with e | hx
   ·subst e;have:=a1 d hd;omega
   ·exact hx
  ·rcases List.mem_cons.1 ((h d).2 (List.mem_cons_of_mem _ hd)) with e | hx
   ·subst e;have:=b1 d hd;omega
   ·exact hx
def yF(f:Int->List RN)(ks:List Int):List PT:=ks.filterMap fun k=>if f k=[] then none else some ⟨k,f k⟩
theorem uG{f:Int->List RN}{ks:List Int}{p:PT}:p∈yF f ks↔p.dev∈ks/\p.runs≠[]/\p.runs=f p.dev:=by
 unfold yF;rw[List.mem_filterMap]
 constructor
 ·rintro⟨k,hk,h⟩
  split at h
  ·cases h
  ·rename_i h0;cases h;exact⟨hk,h0,rfl⟩
 ·rintro⟨h1,h2,h3⟩;refine⟨p.dev,h1,?_⟩;rw[if_neg (by rw[<- h3];exact h2),<- h3]
theorem we{f:Int->List RN}{ks:List Int}(h:ks.Pairwise (· < ·)):OrdP (yF f ks):=by
 unfold OrdP yF;rw[List.pairwise_filterMap];refine h.imp fun {a b} hab x hx y hy=>?_
 split at hx
 ·cases hx
 ·split at hy
  ·cases hy
  ·cases hx;cases hy;exact hab
theorem Vs{f g:Int->List RN}{ks ls:List Int}(h1:ks.Pairwise (· < ·))(h2:ls.Pairwise (· < ·))(hf:∀ k,f k=g k)(h:∀ k,f k≠[]->(k∈ks↔k∈ls)):yF f ks=yF g ls:=by
 refine VE (we h1) (we h2) fun p=>?_
 rw[uG,uG]
 constructor
 ·rintro⟨a,b,c⟩;exact⟨(h _ (by rw[<- c];exact b)).1 a,b,by rw[c,hf]⟩
 ·rintro⟨a,b,c⟩;exact⟨(h _ (by rw[hf,<- c];exact b)).2 a,b,by rw[c,hf]⟩
theorem qy(f:Int->List RN)(ks:List Int):(yF f ks).length<=ks.length:=List.length_filterMap_le _ _
theorem qz(f:Int->List RN)(ks:List Int):vT (yF f ks)=(ks.map fun k=>(f k).length).sum:=by
 induction ks with
 | nil=>rfl
 | cons k ks ih=>
  have:yF f (k::ks)=(if f k=[] then [] else [⟨k,f k⟩])++yF f ks:=by
   unfold yF
   by_cases h:f k=[] <;> simp[h]
  rw[this,YZ,ih]
  by_cases h:f k=[] <;> simp[h,vT]
theorem Vt{f:Int->List RN}{ks:List Int}(h:ks.Nodup)(k:Int):yX (yF f ks) k=if k∈ks/\0 < k then f k else []:=by
 induction ks with
 | nil=>simp[yF,yX]
 | cons q ks ih=>
  obtain⟨n1,n2⟩:=List.nodup_cons.1 h;have e:yF f (q::ks)=(if f q=[] then [] else [⟨q,f q⟩])++yF f ks:=by
   unfold yF
   by_cases h:f q=[] <;> simp[h]
  rw[e,Xn,ih n2]
  by_cases hq:q=k
  ·subst hq;rw[if_neg (fun(h:q∈ks/\0 < q)=>n1 h.1),List.append_nil]
   by_cases h0:f q=[]
   ·rw[if_pos h0,h0];simp[yX]
   ·rw[if_neg h0]
    by_cases hp:0 < q
    ·rw[if_pos ⟨List.mem_cons_self,hp⟩];simp[yX,hp]
    ·rw[if_neg (fun h=>hp h.2)];exact jg hp
  ·have:yX (if f q=[] then [] else [(⟨q,f q⟩:PT)]) k=[]:=by
    by_cases h0:f q=[] <;> simp[h0,yX,hq]
   rw[this];have hm:(k∈q::ks)↔k∈ks:=by simp[Ne.symm hq]
   simp only[hm,List.nil_append]
def Jm(l:List Int)(p:PT):List Int:=if 0 < p.dev then V.UG l p.dev else l
def Xo(c:List PT):List Int:=c.foldl Jm []
theorem Xh(c:List PT):∀ l:List Int,l.Pairwise (· < ·)->(c.foldl Jm l).Pairwise (· < ·)/\(∀ k,k∈c.foldl Jm l↔k∈l\/∃ p∈c,p.dev=k/\0 < k)/\(c.foldl Jm l).length<=l.length+c.length:=by
 induction c with
 | nil=>intro l h;simp[h]
 | cons p r ih=>
  intro l h;rw[List.foldl_cons]
  by_cases hp:0 < p.dev
  ·have e:Jm l p=V.UG l p.dev:=by simp[Jm,hp]
   rw[e];obtain⟨h1,h2,h3⟩:=ih _ (V.uD h p.dev);refine⟨h1,fun k=>?_,by have:=V.Xg l p.dev;simp;omega⟩;rw[h2,V.VC]
   constructor
   ·rintro((rfl | h4) | ⟨x,h4,h5⟩)
    ·exact .inr ⟨p,by simp,rfl,hp⟩
    ·exact .inl h4
    ·exact .inr ⟨x,by simp[h4],h5⟩
   ·rintro(h4 | ⟨x,h4,h5,h6⟩)
    ·exact .inl (.inr h4)
    ·rcases List.mem_cons.1 h4 with rfl | h4
     ·exact .inl (.inl h5.symm)
     ·exact .inr ⟨x,h4,h5,h6⟩
  ·have e:Jm l p=l:=by simp[Jm,hp]
   rw[e];obtain⟨h1,h2,h3⟩:=ih _ h;refine⟨h1,fun k=>?_,by simp;omega⟩;rw[h2]
   constructor
   ·rintro(h4 | ⟨x,h4,h5⟩)
    ·exact .inl h4
    ·exact .inr ⟨x,by simp[h4],h5⟩
   ·rintro(h4 | ⟨x,h4,h5,h6⟩)
    ·exact .inl h4
    ·rcases List.mem_cons.1 h4 with rfl | h4
     ·rw[h5] at hp;exact absurd h6 hp
     ·exact .inr ⟨x,h4,h5,h6⟩
theorem wg(c:List PT):(Xo c).Pairwise (· < ·):=(Xh c [] List.Pairwise.nil).1
theorem Jo{l:List Int}(h:l.Pairwise (· < ·)):l.Nodup:=h.imp fun {a b} h e=>by omega
theorem WN(c:List PT):(Xo c).Nodup:=Jo (wg c)
theorem vZ{c:List PT}{k:Int}:k∈Xo c↔(∃ p∈c,p.dev=k)/\0 < k:=by
 have:=(Xh c [] List.Pairwise.nil).2.1 k;unfold Xo;rw[this];simp only[List.not_mem_nil,false_or]
 constructor
 ·rintro⟨p,h1,h2,h3⟩;exact⟨⟨p,h1,h2⟩,h3⟩
 ·rintro⟨⟨p,h1,h2⟩,h3⟩;exact⟨p,h1,h2,h3⟩
theorem len_devs(c:List PT):(Xo c).length<=c.length:=by simpa[Xo] using (Xh c [] List.Pairwise.nil).2.2
theorem uW{c:List PT}{k:Int}(h:yX c k≠[]):k∈Xo c:=by
 rw[vZ];refine Classical.byContradiction fun hn=>h ?_
 unfold yX;have:(c.filter fun p=>decide (p.dev=k)&&decide (0 < k))=[]:=by
  rw[List.filter_eq_nil_iff];intro p hp;simp only[Bool.and_eq_true,decide_eq_true_eq];rintro⟨h1,h2⟩;exact hn ⟨⟨p,hp,h1⟩,h2⟩
 rw[this];rfl
def opC(op:Bool->Bool->Bool)(a b:List PT):List PT:=yF (fun k=>R.Yi op (yX a k) (yX b k)) (Xo (a++b))
def yH(c:List PT):List PT:=yF (fun k=>R.nrm (yX c k)) (Xo c)
theorem Qw{op:Bool->Bool->Bool}(h0:op false false=false):R.Yi op [] []=[]:=by
 have:=R.yQ op h0 [] [];exact R.Ug this.1 trivial fun n=>by rw[this.2.1];exact h0
theorem Vu : R.nrm []=[]:=Qw rfl
theorem WO{op:Bool->Bool->Bool}(h0:op false false=false)(a b:List PT)(k n:Int):ZR (opC op a b) k n=op (ZR a k n) (ZR b k n):=by
 unfold ZR opC;rw[Vt (WN _)]
 split
 ·rw[(R.yQ op h0 _ _).2.1]
 ·rename_i h
  have e:yX a k=[]/\yX b k=[]:=by
   have h1:yX (a++b) k=[]:=Classical.byContradiction fun h2=>h ⟨uW h2,(vZ.1 (uW h2)).2⟩
   rw[Xn] at h1;simpa using h1
  rw[e.1,e.2];show R.ym [] n=_;simp[R.ym,h0]
theorem yj(c:List PT)(k n:Int):ZR (yH c) k n=ZR c k n:=by
 unfold ZR yH;rw[Vt (WN _)]
 split
 ·rw[R.uE]
 ·rename_i h
  have e:yX c k=[]:=Classical.byContradiction fun h2=>h ⟨uW h2,(vZ.1 (uW h2)).2⟩
  rw[e]
structure Canon(c:List PT):Prop where
 ord:OrdP c
 nf:∀ p∈c,0 < p.dev/\p.runs≠[]/\R.Nf p.runs
theorem Vv{f:Int->List RN}{c:List PT}(h:∀ k,R.Nf (f k)):Canon (yF f (Xo c)):=⟨we (wg c),fun p hp=>by
 obtain⟨h1,h2,h3⟩:=uG.1 hp;exact⟨(vZ.1 h1).2,h2,by rw[h3];exact h _⟩⟩
theorem Ya{op:Bool->Bool->Bool}(h0:op false false=false)(a b:List PT):Canon (opC op a b):=Vv fun _=>(R.yQ op h0 _ _).1
theorem xR(c:List PT):Canon (yH c):=Vv fun _=>R.Vo _
theorem ji : ∀ {c:List PT},OrdP c->∀ p∈c,0 < p.dev->yX c p.dev=p.runs
 | [],_,p,hp,_=>by simp at hp
 | q::r,h,p,hp,h0=>by
  obtain⟨h1,h2⟩:=List.pairwise_cons.1 h;rw[uF];rcases List.mem_cons.1 hp with rfl | hp
  ·rw[if_pos ⟨rfl,h0⟩];have:yX r p.dev=[]:=by
    unfold yX;have:(r.filter fun x=>decide (x.dev=p.dev)&&decide (0 < p.dev))=[]:=by
     rw[List.filter_eq_nil_iff];intro x hx;have:=h1 x hx;simp;omega
    rw[this];rfl
   rw[this,List.append_nil]
  ·have:=h1 p hp;rw[if_neg (by omega),ji h2 p hp h0];rfl
theorem Canon.eq_norm{c:List PT}(h:Canon c):c=yH c:=by
 refine VE h.ord (xR c).ord fun p=>?_
 unfold yH;rw[uG]
 constructor
 ·intro hp;obtain⟨h1,h2,h3⟩:=h.nf p hp;exact⟨vZ.2 ⟨⟨p,hp,rfl⟩,h1⟩,h2,by rw[ji h.ord p hp h1,R.Qt h3]⟩
 ·rintro⟨h1,h2,h3⟩;obtain⟨⟨q,hq,hd⟩,h0⟩:=vZ.1 h1;obtain⟨g1,g2,g3⟩:=h.nf q hq;have e:yX c p.dev=q.runs:=by rw[<- hd];exact ji h.ord q hq g1
  rw[e,R.Qt g3] at h3;have:p=q:=by cases p;cases q;simp_all
  rw[this];exact hq
theorem y6a{a b:List PT}(h:∀ k n,ZR a k n=ZR b k n):yH a=yH b:=by
 have hf:∀ k,R.nrm (yX a k)=R.nrm (yX b k):=fun k=>R.Ug (R.Vo _) (R.Vo _) fun n=>by rw[R.uE,R.uE];exact h k n
 refine Vs (wg a) (wg b) hf fun k hk=>?_
 have ha:yX a k≠[]:=fun e=>hk (by rw[e];exact Vu)
 have hb:yX b k≠[]:=fun e=>hk (by rw[hf,e];exact Vu)
 exact⟨fun _=>uW hb,fun _=>uW ha⟩
theorem Canon.ext{a b:List PT}(ha:Canon a)(hb:Canon b)(h:∀ k n,ZR a k n=ZR b k n):a=b:=by rw[ha.eq_norm,hb.eq_norm];exact y6a h
theorem Yb{c:List PT}(h:Canon c):yH c=c:=h.eq_norm.symm
theorem norm_or(a b:List PT):yH (a++b)=opC (·||·) a b:=(xR _).ext (Ya rfl a b) fun k n=>by rw[yj,ZS,WO rfl]
theorem Jp : Canon []:=⟨List.Pairwise.nil,fun p h=>by simp at h⟩
theorem uq(c:List PT):(yH c).length<=c.length:=Nat.le_trans (qy _ _) (len_devs c)
theorem sum_le{ks:List Int}{f g:Int->Nat}(h:∀ k,f k<=g k):(ks.map f).sum<=(ks.map g).sum:=by
 induction ks with
 | nil=>simp
 | cons k r ih=>have:=h k;simp;omega
theorem sum_two(ks:List Int)(f g:Int->Nat):(ks.map fun k=>2*(f k+g k)).sum=2*((ks.map f).sum+(ks.map g).sum):=by
 induction ks with
 | nil=>rfl
 | cons k r ih=>simp;omega
theorem ur(c:List PT):vT (yH c)<=2*vT c:=by
 unfold yH;rw[qz];refine Nat.le_trans (sum_le (g:=fun k=>2*((yX c k).length+0)) fun k=>by have:=R.XC (yX c k);omega) ?_;rw[sum_two];have h1:=rawC_sum c (Xo c) (WN _);have h2:=jh (Xo c);omega
theorem get_grow(l:List (Int×List RN)):∀ (m:List (Int×List RN)) (k:Int),AL.getZ (AL.grow m l) k []=AL.getZ m k []++(l.filter fun x=>decide (x.1=k)).flatMap (·.2):=by
 induction l with
 | nil=>intro m k;simp[AL.grow]
 | cons x r ih=>
  intro m k;show AL.getZ (AL.grow (AL.set m x.1 (AL.getZ m x.1 []++x.2)) r) k []=_;rw[ih,AL.getZ_set,List.filter_cons]
  by_cases h:x.1=k
  ·subst h;simp
  ·simp[h]
theorem zna(l:List (Int×List RN)):∀ m:List (Int×List RN),(m.map (·.1)).Nodup->((AL.grow m l).map (·.1)).Nodup:=by
 induction l with
 | nil=>intro m h;exact h
 | cons x r ih=>intro m h;exact ih _ (AL.nodup_set h _ _)
theorem len_grow(l:List (Int×List RN)):∀ m:List (Int×List RN),(AL.grow m l).length<=m.length+l.length:=by
 induction l with
 | nil=>intro m;exact Nat.le_refl _
 | cons x r ih=>
  intro m;have h1:=ih (AL.set m x.1 (AL.getZ m x.1 []++x.2));have h2:=AL.len_set m x.1 (AL.getZ m x.1 []++x.2);show(AL.grow (AL.set m x.1 (AL.getZ m x.1 []++x.2)) r).length<=_;simp only[List.length_cons];omega
theorem key_grow(l:List (Int×List RN)):∀ (m:List (Int×List RN)) (k:Int),k∈(AL.grow m l).map (·.1)->k∈m.map (·.1)\/∃ x∈l,x.1=k:=by
 induction l with
 | nil=>intro m k h;exact .inl h
 | cons x r ih=>
  intro m k h;rcases ih _ k h with h | ⟨y,hy,e⟩
  ·rw[AL.keys_set] at h
   split at h
   ·exact .inl h
   ·rcases List.mem_append.1 h with h | h
    ·exact .inl h
    ·exact .inr ⟨x,by simp,(List.mem_singleton.1 h).symm⟩
  ·exact .inr ⟨y,by simp[hy],e⟩
def ZW(c:List PT):List (Int×List RN):=AL.grow [] (c.filterMap ze)
theorem Xi(c:List PT)(k:Int):AL.getZ (ZW c) k []=yX c k:=by
 unfold ZW;rw[get_grow];show[]++_=_;rw[List.nil_append]
 induction c with
 | nil=>rfl
 | cons p r ih=>
  rw[uF,<- ih,List.filterMap_cons]
  by_cases h0:0 < p.dev
  ·have e:ze p=some (p.dev,p.runs):=by simp[ze,h0]
   rw[e];simp only[List.filter_cons]
   by_cases h:p.dev=k
   ·subst h;simp[h0]
   ·simp[h]
  ·have e:ze p=none:=by simp[ze,h0]
   rw[e,if_neg (by rintro⟨h1,h2⟩;omega)];rfl
theorem YX(c:List PT):((ZW c).map (·.1)).Nodup:=zna _ _ (by simp)
theorem told_len(c:List PT):(ZW c).length<=c.length:=by
 have h1:=len_grow (c.filterMap ze) [];have h2:=List.length_filterMap_le ze c;unfold ZW;simp at h1;omega
theorem told_pos{c:List PT}{k:Int}(h:k∈(ZW c).map (·.1)):0 < k/\k∈Xo c:=by
 rcases key_grow _ _ _ h with h | ⟨x,hx,rfl⟩
 ·simp at h
 ·rw[List.mem_filterMap] at hx;obtain⟨p,hp,hx⟩:=hx;unfold ze at hx
  split at hx
  ·rename_i h0;cases hx;exact⟨h0,vZ.2 ⟨⟨p,hp,rfl⟩,h0⟩⟩
  ·cases hx
theorem jZ{c:List PT}{e:Int×List RN}(h:e∈ZW c):e.2=yX c e.1/\0 < e.1/\e.1∈Xo c:=by
 have h1:=AL.mem_get (YX c) (k:=e.1) (v:=e.2) h;have h2:=Xi c e.1;unfold AL.getZ at h2;rw[h1] at h2;exact⟨h2,told_pos (List.mem_map.2 ⟨e,h,rfl⟩)⟩
theorem told_at{c:List PT}{k:Int}(h:yX c k≠[]):(k,yX c k)∈ZW c:=by
 have h2:=Xi c k;unfold AL.getZ at h2
 cases hg:AL.get (ZW c) k with
 | none=>rw[hg] at h2;exact absurd h2.symm h
 | some v=>rw[hg] at h2;simp only[Option.getD_some] at h2;subst h2;exact AL.get_mem hg
theorem Qy(c:List PT):((c.filterMap ze).map fun x=>x.2.length).sum<=vT c:=by
 induction c with
 | nil=>simp
 | cons p r ih=>
  have e:vT (p::r)=p.runs.length+vT r:=by simp[vT]
  rw[List.filterMap_cons]
  by_cases h0:0 < p.dev
  ·have e2:ze p=some (p.dev,p.runs):=by simp[ze,h0]
   rw[e2];simp only[List.map_cons,List.sum_cons];omega
  ·have e2:ze p=none:=by simp[ze,h0]
   rw[e2];simp only;omega
def Sm(c:List PT):Prop:=c.length<=10000000000/\vT c<=10000000000
theorem y7a(c:List PT)(h:Sm c):XT c=pure (ZW c):=by
 unfold XT;rw[zE]
 ·rfl
 ·have:=Qy c;refine⟨by have:=h.1;omega,?_⟩;have:=h.2;omega
theorem order_eq(m:List (Int×List RN))(f:Int->List RN)(ks:List Int)(hl:m.length<=1000000000000)(hr:∀ e∈m,e.2.length<=1000000000000)(hn:(m.map (·.1)).Nodup)(hs:ks.Pairwise (· < ·))(h1:∀ e∈m,R.nrm e.2≠[]->e.1∈ks/\R.nrm e.2=f e.1)(h2:∀ k∈ks,f k≠[]->∃ r,(k,r)∈m/\R.nrm r=f k):uj m=pure (yF f ks):=by
 unfold uj;have hall:∀ Q:List PT->Prop,(∀ l:List (Int×List RN),l.Perm m->Q ((l.filter fun e=>decide (R.nrm e.2≠[])).map fun e=>(⟨e.1,R.nrm e.2⟩:PT)))->(loop (uP m) ([],([]:List PT))).wp Q:=by
  intro Q hQ;refine M.loopM (body:=uP m) m (fun L (t:List PT)=>(L,t)) (fun t e=>(wq e.2).det.bind fun v=>if 0 < v.length then yo ((t.length+1)*32<=140737488355328) (pure (t++[(⟨e.1,v⟩:PT)])) else pure t) (fun t=>pure t)
   (fun l t=>t=((l.filter fun e=>decide (R.nrm e.2≠[])).map fun e=>(⟨e.1,R.nrm e.2⟩:PT))) Q (fun L t hL=>?_) (fun l t y ht hlen hy=>?_) (fun l t hp ht=>?_) [] rfl
  ·unfold uP;show yo _ ((nxt _ _).bind _)=yo _ ((nxt _ _).bind _);refine congrArg (fun k=>yo _ ((nxt _ _).bind k)) (funext fun o=>?_)
   cases o with
   | none=>rfl
   | some i=>
    refine congrArg (fun k=>(idx m (Int.ofNat i)).bind k) (funext fun y=>?_);rw[UU];refine congrArg (fun k=>(wq y.2).det.bind k) (funext fun v=>?_);rw[yi]
    by_cases h:0 < v.length
    ·rw[if_pos (by omega),if_pos h];rfl
    ·rw[if_neg (by omega),if_neg h];rfl
  ·have hle:=List.length_filter_le (fun e:Int×List RN=>decide (R.nrm e.2≠[])) l;have htl:t.length<=l.length:=by rw[ht,List.length_map];exact hle
   rw[R.qx y.2 (hr y hy),zB,zA];refine⟨if R.nrm y.2=[] then t else t++[⟨y.1,R.nrm y.2⟩],?_,?_⟩
   ·by_cases h:R.nrm y.2=[]
    ·rw[if_neg (by rw[h];simp),if_pos h]
    ·rw[if_pos (by rw[List.length_pos_iff];exact h),if_neg h,zE (by omega)]
   ·subst ht;rw[List.filter_append,List.map_append]
    by_cases h:R.nrm y.2=[] <;> simp[h]
  ·subst ht;exact hQ l hp
 refine ux (hall _ fun l hp=>?_);show(yo _ _).wp _;have hll:=hp.length_eq;have hle:=List.length_filter_le (fun e:Int×List RN=>decide (R.nrm e.2≠[])) l;have hmem:∀ d:PT,d∈((l.filter fun e=>decide (R.nrm e.2≠[])).map fun e=>(⟨e.1,R.nrm e.2⟩:PT))↔d∈yF f ks:=by
  intro d;rw[uG,List.mem_map]
  constructor
  ·rintro⟨e,he,rfl⟩;rw[List.mem_filter,hp.mem_iff] at he;have h0:R.nrm e.2≠[]:=by simpa using he.2
   obtain⟨h3,h4⟩:=h1 e he.1 h0;exact⟨h3,h0,h4⟩
  ·rintro⟨h3,h4,h5⟩;obtain⟨r,h6,h7⟩:=h2 d.dev h3 (by rw[<- h5];exact h4);refine⟨(d.dev,r),?_,by show(⟨d.dev,R.nrm r⟩:PT)=d;rw[h7,<- h5]⟩;rw[List.mem_filter,hp.mem_iff];refine⟨h6,?_⟩;simp only[decide_eq_true_eq];rw[h7,<- h5];exact h4
 have hnd:((l.filter fun e=>decide (R.nrm e.2≠[])).map fun e=>(⟨e.1,R.nrm e.2⟩:PT)).Pairwise (fun x y=>x.dev≠y.dev):=by
  rw[List.pairwise_map];have:l.Pairwise (fun x y=>x.1≠y.1):=by
   have:=(hp.map (·.1)).nodup_iff.2 hn;exact List.pairwise_map.1 this
  exact(this.filter _)
 refine⟨by simp only[List.length_map];omega,⟨?_,fun l' ⟨hp',hs'⟩=>?_⟩⟩
 ·refine⟨yF f ks,?_,?_⟩
  ·refine(List.perm_ext_iff_of_nodup ?_ ?_).2 fun d=>(hmem d).symm
   ·exact(we hs).imp fun {a b} h e=>by subst e;omega
   ·exact hnd.imp fun {a b} h e=>by subst e;exact h rfl
  ·exact(we hs).imp fun {a b} h=>by simp[UY];omega
 ·show l'=_;refine VE ?_ (we hs) fun d=>by rw[hp'.mem_iff];exact hmem d
  have hnd':=(hp'.pairwise_iff (fun {a b} h=>Ne.symm h)).2 hnd;exact(hs'.and hnd').imp fun {a b} ⟨h3,h4⟩=>by simp[UY] at h3;omega
theorem Uj(c:List PT)(h:Sm c):uj (ZW c)=pure (yH c):=by
 refine order_eq _ _ _ (by have:=told_len c;have:=h.1;omega) (fun e he=>?_) (YX c) (wg c) (fun e he h0=>?_) (fun k hk h0=>?_)
 ·rw[(jZ he).1];have:=ZT c e.1;have:=h.2;omega
 ·obtain⟨h1,h2,h3⟩:=jZ he;exact⟨h3,by rw[h1]⟩
 ·exact⟨_,told_at (fun e=>h0 (by rw[e];exact Vu)),rfl⟩
theorem jk(c:List PT)(h:Sm c):ZC c=pure (yH c):=by
 unfold ZC;rw[y7a c h,zB,zA,Uj c h,zB,zA]
theorem Runs_eq(c:List PT)(k:Int)(h:Sm c):Wo c k=pure (R.nrm (yX c k)):=by
 unfold Wo;rw[y7a c h,zB,zA,Xi,R.qx _ (by have:=ZT c k;have:=h.2;omega),zB,zA]
theorem y8a(c:List PT)(d:DT)(h:Sm c):uY c d=pure (ZR c d.dev d.n):=by
 unfold uY;rw[yi]
 by_cases h0:0 < d.dev
 ·rw[if_pos h0,Runs_eq c _ h,zB,zA,R.has_eq _ _ (by have:=R.XC (yX c d.dev);have:=ZT c d.dev;have:=h.2;omega),zB,zA,zA,R.uE]
  rfl
 ·rw[if_neg h0,zA];show pure false=pure (R.ym (yX c d.dev) d.n);rw[jg h0];rfl
def zq(l:List DT):List PT:=(l.filter V.yE).map fun d=>⟨d.dev,[⟨d.n,d.n⟩]⟩
theorem goodB(d:DT):uk d=V.yE d:=by
 rw[Bool.eq_iff_iff,V.xK];simp[uk];omega
theorem ofF(d:DT):xp d=if V.yE d=true then some (d.dev,[⟨d.n,d.n⟩]) else none:=by unfold xp;rw[goodB]
theorem y9a(l:List DT):l.filterMap xp=(zq l).filterMap ze:=by
 induction l with
 | nil=>rfl
 | cons d r ih=>
  unfold zq at ih ⊢;rw[List.filterMap_cons,List.filter_cons,ofF]
  by_cases h:V.yE d=true
  ·rw[if_pos h,if_pos h,List.map_cons,List.filterMap_cons];have:ze ⟨d.dev,[⟨d.n,d.n⟩]⟩=some (d.dev,[⟨d.n,d.n⟩]):=by
    have:=V.xK.1 h;unfold ze;rw[if_pos (by show 0 < d.dev;omega)]
   rw[this,<- ih]
  ·rw[if_neg h,if_neg h,<- ih]
theorem vc(l:List DT):(zq l).length<=l.length:=by rw[zq,List.length_map];exact List.length_filter_le _ _
theorem Xp(l:List DT):vT (zq l)<=l.length:=by
 have:vT (zq l)=(zq l).length:=by
  unfold zq
  generalize l.filter V.yE=q
  induction q with
  | nil=>rfl
  | cons x r ih=>simp[vT] at ih ⊢;omega
 have:=vc l;omega
theorem sm_dots{l:List DT}(h:l.length<=10000000000):Sm (zq l):=⟨by have:=vc l;omega,by have:=Xp l;omega⟩
theorem has_dots(l:List DT)(k n:Int):ZR (zq l) k n=true↔∃ d∈l,V.yE d=true/\d.dev=k/\d.n=n:=by
 induction l with
 | nil=>simp[ZR,zq,yX,R.ym]
 | cons d r ih=>
  have e:zq (d::r)=(if V.yE d=true then [⟨d.dev,[⟨d.n,d.n⟩]⟩] else [])++zq r:=by
   unfold zq;rw[List.filter_cons]
   by_cases h:V.yE d=true <;> simp[h]
  rw[e,ZS,Bool.or_eq_true,ih];have h1:ZR (if V.yE d=true then [⟨d.dev,[⟨d.n,d.n⟩]⟩] else []) k n=true↔V.yE d=true/\d.dev=k/\d.n=n:=by
   by_cases h:V.yE d=true
   ·have hg:=V.xK.1 h;rw[if_pos h];unfold ZR;rw[uF,VD,List.append_nil]
    by_cases hk:d.dev=k/\0 < k
    ·rw[if_pos hk,R.vb,R.vK];show(1<=d.n/\d.n<=d.n/\d.n<=281474976710655)/\d.n<=n/\n<=d.n↔_
     constructor
     ·intro h2;exact⟨h,hk.1,by omega⟩
     ·rintro⟨_,_,h3⟩;omega
    ·rw[if_neg hk]
     constructor
     ·intro h2;cases h2
     ·rintro⟨_,h2,_⟩;exact absurd ⟨h2,by omega⟩ hk
   ·rw[if_neg h]
    constructor
    ·intro h2;cases h2
    ·rintro⟨h2,_⟩;exact absurd h2 h
  rw[h1]
  constructor
  ·rintro(h2 | ⟨x,h2,h3⟩)
   ·exact⟨d,by simp,h2⟩
   ·exact⟨x,by simp[h2],h3⟩
  ·rintro⟨x,h2,h3⟩;rcases List.mem_cons.1 h2 with rfl | h2
   ·exact .inl h3
   ·exact .inr ⟨x,h2,h3⟩
theorem Of_eq(l:List DT)(h:l.length<=10000000000):Qc l=pure (yH (zq l)):=by
 unfold Qc;rw[y9a,zE]
 ·have:=Uj (zq l) (sm_dots h);unfold ZW at this;rw[this,zB,zA]
 ·have h1:=Qy (zq l);have h2:=Xp l;exact⟨by omega,by omega⟩
theorem growC_eq(n:Int)(h0:0<=n)(h:n<=1000000000000):yI n=pure []:=by
 unfold yI;have e:IntKind.i64.wrap (n - IntKind.i64.wrap (0 - 0))=n:=by
  rw[UF (n:=0 - 0) (by omega) (by omega),UF (by omega) (by omega)];omega
 simp only[e,yi];rw[if_neg (by omega)]
 split
 ·rw[zE ⟨by omega,by omega⟩,zE ⟨by omega,by omega,by omega⟩];simp[zA]
 ·simp[zA]
theorem zoa(a b:List PT)(h:a.length+b.length<=1000000000000):yV [a,b]=pure (a++b):=by
 unfold yV;have e1:zb [a,b] (0,0)=pure (.next ((a.length:Int),1)):=by
  unfold zb;have:IntKind.i64.wrap (0+(a.length:Int))=a.length:=by rw[UF (by omega) (by omega)];omega
  simp only[yi,XM (l:=[a,b]) (i:=0) (y:=a) (by omega) rfl,zA,this];rw[if_pos (by simp),if_neg (by omega),UF (by omega) (by omega)];rfl
 have e2:zb [a,b] ((a.length:Int),1)=pure (.next ((a.length:Int)+b.length,2)):=by
  unfold zb;have:IntKind.i64.wrap ((a.length:Int)+b.length)=a.length+b.length:=by rw[UF (by omega) (by omega)]
  simp only[yi,XM (l:=[a,b]) (i:=1) (y:=b) (by omega) rfl,zA,this];rw[if_pos (by simp),if_neg (by omega),UF (by omega) (by omega)];rfl
 have e3:zb [a,b] ((a.length:Int)+b.length,2)=pure (.done ((a.length:Int)+b.length)):=by
  unfold zb;simp
 have f1:zc [a,b] (0,[])=pure (.next (1,a)):=by
  unfold zc;simp only[yi,XM (l:=[a,b]) (i:=0) (y:=a) (by omega) rfl,zA];rw[if_pos (by simp),zE (by simp;omega),UF (by omega) (by omega)];rfl
 have f2:zc [a,b] (1,a)=pure (.next (2,a++b)):=by
  unfold zc;simp only[yi,XM (l:=[a,b]) (i:=1) (y:=b) (by omega) rfl,zA];rw[if_pos (by simp),zE (by omega),UF (by omega) (by omega)];rfl
 have f3:zc [a,b] (2,a++b)=pure (.done (a++b)):=by
  unfold zc;simp
 rw[yD e1,yD e2,zr e3,zA,growC_eq _ (by omega) (by omega),zB,zA,yD f1,yD f2,zr f3,zA]
theorem sm_app{a b:List PT}(ha:a.length+b.length<=10000000000)(hb:vT a+vT b<=10000000000):Sm (a++b):=⟨by rw[List.length_append];exact ha,by rw[YZ];exact hb⟩
theorem xAa(a b:List PT)(h:Sm (a++b)):XU a b=pure (opC (·||·) a b):=by
 unfold XU;rw[zoa a b (by have:=h.1;rw[List.length_append] at this;omega),zB,zA,jk _ h,zB,zA,norm_or]
theorem Add_eq(c:List PT)(l:List DT)(hl:l.length<=1000000000)(h1:c.length<=1000000000)(h2:vT c<=1000000000):VW c l=pure (opC (·||·) c (zq l)):=by
 unfold VW;have h3:=vc l;have h4:=Xp l;have h5:=uq (zq l);have h6:=ur (zq l);rw[Of_eq l (by omega),zB,zA,xAa _ _ (sm_app (by omega) (by omega)),zB,zA];refine congrArg pure ((Ya rfl _ _).ext (Ya rfl _ _) fun k n=>?_);rw[WO rfl,WO rfl,yj]
theorem partEq(x y:PT):(decide (x.dev=y.dev)&&decide (x.runs=y.runs))=decide (x=y):=by
 rw[Bool.eq_iff_iff]
 cases x;cases y
 simp
theorem eqP_eq(a b:List PT)(ha:a.length<=1000000000000)(hr:∀ p∈a,p.runs.length<=1000000000000):zX a b=pure (decide (a=b)):=by
 unfold zX
 by_cases hl:(a.length:Int)=b.length
 ·simp only[hl,decide_true,Bool.not_true,cond_false];have:=wd (body:=zT a b) a (fun i=>(i:Int)) (fun i x=>decide (b[i]?=some x)) (.brk ()) (.ret false) (fun i x hx hi=>by
   have hb:i < b.length:=by omega
   have hby:=List.getElem?_eq_getElem hb;unfold zT VZ;have h1:decide ((i:Int) < (a.length:Int))=true:=by simpa using hi
   simp only[h1,cond_true,zJ hx,zJ hby,zA,R.seq_eq x.runs _ (hr x (List.mem_of_getElem? hx)),zB,zd,partEq,yC (show i < 9223372036854775807 by omega)];rw[hby]
   by_cases hxy:x=b[i] <;> simp[hxy,eq_comm,zA]) (by unfold zT;simp)
  rw[show(0:Int)=((0:Nat):Int) from rfl,this];have hiff:(a.zipIdx.all fun y=>decide (b[y.2]?=some y.1))=decide (a=b):=by
   rw[Bool.eq_iff_iff,List.all_eq_true,decide_eq_true_eq]
   constructor
   ·intro h;apply List.ext_getElem?;intro i
    by_cases hi:i < a.length
    ·have:=h (a[i],i) (by rw[List.mem_zipIdx_iff_getElem?];exact List.getElem?_eq_getElem hi);simp only[decide_eq_true_eq] at this;rw[this,List.getElem?_eq_getElem hi]
    ·rw[List.getElem?_eq_none (by omega),List.getElem?_eq_none (by omega)]
   ·rintro rfl y hy;rw[List.mem_zipIdx_iff_getElem?] at hy;simpa using hy
  rw[hiff]
  by_cases h:a=b <;> simp[h,exk,zA]
 ·have:¬ a=b:=fun e=>hl (by rw[e])
  simp[hl,this]
theorem eq_eq(a b:List PT)(ha:a.length<=1000000000000)(hr:∀ p∈a,p.runs.length<=1000000000000):Qd a b=pure (decide (a=b)):=by
 unfold Qd;rw[eqP_eq a b ha hr,zB,zA]
theorem run_le{c:List PT}:∀ p∈c,p.runs.length<=vT c:=by
 induction c with
 | nil=>intro p hp;simp at hp
 | cons q r ih=>
  intro p hp;have e:vT (q::r)=q.runs.length+vT r:=by simp[vT]
  rcases List.mem_cons.1 hp with rfl | hp
  ·omega
  ·have:=ih p hp;omega
theorem Same_eq(a b:List PT)(ha:Sm a)(hb:Sm b):Ws a b=pure (decide (yH a=yH b)):=by
 unfold Ws;have h1:=uq a;have h2:=ur a;have h3:=ha.1;have h4:=ha.2;rw[jk a ha,zB,zA,jk b hb,zB,zA,eq_eq _ _ (by omega) (fun p hp=>by have:=run_le p hp;omega),zB,zA]
theorem Qz(u v:List RN):R.Yi (·||·) (R.nrm u) v=R.nrm (u++v):=R.Ug (R.yQ _ rfl _ _).1 (R.Vo _) fun n=>by rw[(R.yQ _ rfl _ _).2.1,R.uE,R.uE,R.uV]
theorem jl(c:List PT)(k:Int)(hk:0<=k)(h:c.length<=1000000000)(ht:vT c<=1000000000):YN c k=pure (R.nrm (yX c k)):=by
 unfold YN;have hpre:∀ i,(yX (c.take i) k).length<=1000000000:=fun i=>by
  have h1:=ZT (c.take i) k;have h2:vT (c.take i)<=vT c:=by
   conv=>rhs;rw[<- List.take_append_drop i c]
   rw[YZ];omega
  omega
 have:=ZL (body:=ZE c k) c (fun i (t:List RN)=>(t,(i:Int))) (fun t p=>if p.dev=k/\0 < k then R.Yi (·||·) t p.runs else t) (fun t=>pure t) (fun i t=>t=R.nrm (yX (c.take i) k)) (fun i x t hx hi ht2=>by
  have h1:decide ((i:Int) < (c.length:Int))=true:=by simpa using hi
  have hxl:x.runs.length<=1000000000:=by have:=run_le x (List.mem_of_getElem? hx);omega
  have htl:t.length<=2000000000:=by have:=R.XC (yX (c.take i) k);have:=hpre i;rw[ht2];omega
  unfold ZE;simp only[h1,cond_true,zJ hx,zA,yC (show i < 9223372036854775807 by omega),yi];have hnext:(if x.dev=k/\0 < k then R.Yi (·||·) t x.runs else t)=R.nrm (yX (c.take (i+1)) k):=by
   rw[List.take_add_one,hx,Xn,Option.toList,uF,VD,List.append_nil,ht2]
   split
   ·exact Qz _ _
   ·rw[List.append_nil]
  refine⟨?_,hnext⟩
  by_cases hd:x.dev=k
  ·by_cases h0:k=0
   ·have:¬ (x.dev=k/\0 < k):=by omega
    rw[if_neg this,if_pos hd];simp[h0,zA]
   ·rw[if_pos (show x.dev=k/\0 < k from ⟨hd,by omega⟩),if_pos hd];simp only[h0,decide_false,Bool.not_false,zA,cond_true];rw[R.Qu _ _ (by omega),zB,zA,zA]
  ·rw[if_neg (fun(q:x.dev=k/\0 < k)=>hd q.1),if_neg hd]
   rfl) (fun t _=>by unfold ZE;simp[zA]) [] (by rw[List.take_zero,VD,Vu])
 rw[show(([]:List RN),(0:Int))=([],((0:Nat):Int)) from rfl,this];have key:∀ (l:List PT) (u:List RN),l.foldl (fun t p=>if p.dev=k/\0 < k then R.Yi (·||·) t p.runs else t) (R.nrm u)=R.nrm (u++yX l k):=by
  intro l
  induction l with
  | nil=>intro u;simp[yX]
  | cons p r ih=>
   intro u;rw[List.foldl_cons,uF]
   by_cases hp:p.dev=k/\0 < k
   ·rw[if_pos hp,if_pos hp,Qz,ih,List.append_assoc]
   ·rw[if_neg hp,if_neg hp,ih,List.nil_append]
 have h2:=key c [];rw[Vu,List.nil_append] at h2;rw[h2];rfl
def QA(c:List PT):List Int:=c.foldl (fun l p=>V.UG l p.dev) []
theorem jm(c:List PT):∀ l:List Int,l.Pairwise (· < ·)->(c.foldl (fun l p=>V.UG l p.dev) l).Pairwise (· < ·)/\(∀ k,k∈c.foldl (fun l p=>V.UG l p.dev) l↔k∈l\/∃ p∈c,p.dev=k)/\(c.foldl (fun l p=>V.UG l p.dev) l).length<=l.length+c.length:=by
 induction c with
 | nil=>intro l h;simp[h]
 | cons p r ih=>
  intro l h;rw[List.foldl_cons];obtain⟨h1,h2,h3⟩:=ih _ (V.uD h p.dev);refine⟨h1,fun k=>?_,by have:=V.Xg l p.dev;simp;omega⟩;rw[h2,V.VC]
  constructor
  ·rintro((rfl | h4) | ⟨x,h4,h5⟩)
   ·exact .inr ⟨p,by simp,rfl⟩
   ·exact .inl h4
   ·exact .inr ⟨x,by simp[h4],h5⟩
  ·rintro(h4 | ⟨x,h4,h5⟩)
   ·exact .inl (.inr h4)
   ·rcases List.mem_cons.1 h4 with rfl | h4
    ·exact .inl (.inl h5.symm)
    ·exact .inr ⟨x,h4,h5⟩
theorem Vw(c:List PT):(QA c).Pairwise (· < ·):=(jm c [] List.Pairwise.nil).1
theorem zAa{c:List PT}{k:Int}:k∈QA c↔∃ p∈c,p.dev=k:=by
 have:=(jm c [] List.Pairwise.nil).2.1 k;unfold QA;rw[this];simp
theorem zBa(c:List PT):(QA c).length<=c.length:=by simpa[QA] using (jm c [] List.Pairwise.nil).2.2
theorem Xm(l:List Int):(V.Yh l).length=l.length:=by simp[V.Yh]
theorem rdevs_eq(a b:List PT)(h:a.length+b.length<=10000000000):Wq a b=pure (V.Yh (QA (a++b))):=by
 unfold Wq;have h1:=ZL (body:=ZF a) a (fun i (l:List Int)=>(V.Yh l,(i:Int))) (fun l p=>V.UG l p.dev) (fun l=>pure (V.Yh l)) (fun i l=>l.Pairwise (· < ·)/\l.length<=i) (fun i x l hx hi ⟨hs,hl⟩=>by
  have h1:decide ((i:Int) < (a.length:Int))=true:=by simpa using hi
  unfold ZF;simp only[h1,cond_true,zJ hx,zA,yC (show i < 9223372036854775807 by omega)];rw[V.WK _ _ (by rw[Xm];omega),zB,zA,V.Qo hs];exact⟨rfl,V.uD hs _,by have:=V.Xg l x.dev;omega⟩) (fun l _=>by unfold ZF;simp[zA]) [] ⟨List.Pairwise.nil,by simp⟩
 have h2:=ZL (body:=vp b) b (fun i (l:List Int)=>(V.Yh l,(i:Int))) (fun l p=>V.UG l p.dev) (fun l=>pure (V.Yh l)) (fun i l=>l.Pairwise (· < ·)/\l.length<=a.length+i) (fun i x l hx hi ⟨hs,hl⟩=>by
  have h1:decide ((i:Int) < (b.length:Int))=true:=by simpa using hi
  unfold vp;simp only[h1,cond_true,zJ hx,zA,yC (show i < 9223372036854775807 by omega)];rw[V.WK _ _ (by rw[Xm];omega),zB,zA,V.Qo hs];exact⟨rfl,V.uD hs _,by have:=V.Xg l x.dev;omega⟩) (fun l _=>by unfold vp;simp[zA]) (QA a) ⟨Vw a,by have:=zBa a;omega⟩
 rw[show(([]:List DT),(0:Int))=(V.Yh [],((0:Nat):Int)) from rfl,h1,zA];show(loop (vp b) (V.Yh (QA a),((0:Nat):Int))).bind _=_;rw[h2,zA];unfold QA;rw[List.foldl_append]
theorem Vp(op:Bool->Bool->Bool)(how:Int)(hop:∀ x y,op x y=if how=2 then (x&&!y) else if how=1 then (x&&y) else (x||y))(h0:op false false=false)(a b:List PT)(oa:∀ p∈a,0<=p.dev)(ob:∀ p∈b,0<=p.dev)(ha:a.length<=1000000000)(hb:b.length<=1000000000)(ta:vT a<=1000000000)(tb:vT b<=1000000000):jI a b how=pure (opC op a b):=by
 unfold jI;rw[rdevs_eq a b (by omega),zB,zA];have hlenA:∀ k,(R.nrm (yX a k)).length<=2000000000:=fun k=>by have:=R.XC (yX a k);have:=ZT a k;omega
 have hlenB:∀ k,(R.nrm (yX b k)).length<=2000000000:=fun k=>by have:=R.XC (yX b k);have:=ZT b k;omega
 have hop':∀ k,R.Yi op (R.nrm (yX a k)) (R.nrm (yX b k))=R.Yi op (yX a k) (yX b k):=fun k=>R.Ug (R.yQ op h0 _ _).1 (R.yQ op h0 _ _).1 fun n=>by rw[(R.yQ op h0 _ _).2.1,(R.yQ op h0 _ _).2.1,R.uE,R.uE]
 have hkey:∀ k∈QA (a++b),0<=k:=fun k hk=>by
  obtain⟨p,hp,rfl⟩:=zAa.1 hk;rcases List.mem_append.1 hp with hp | hp
  ·exact oa p hp
  ·exact ob p hp
 have hnd:(QA (a++b)).length<=2000000000:=by have:=zBa (a++b);rw[List.length_append] at this;omega
 have hgo:=ZL (body:=YP (V.Yh (QA (a++b))) a b how) (QA (a++b)) (fun i (t:List PT)=>((i:Int),t)) (fun t k=>if R.Yi op (yX a k) (yX b k)=[] then t else t++[⟨k,R.Yi op (yX a k) (yX b k)⟩]) (fun t=>pure t) (fun i t=>t.length<=i) (fun i k t hk hi hl=>by
  have h1:decide ((i:Int) < ((V.Yh (QA (a++b))).length:Int))=true:=by rw[Xm];simpa using hi
  have hx:(V.Yh (QA (a++b)))[i]?=some ⟨k,1⟩:=by simp[V.Yh,hk]
  have hk0:0<=k:=hkey k (List.mem_of_getElem? hk);unfold YP;simp only[h1,cond_true,zJ hx,zA,jl a k hk0 ha ta,jl b k hk0 hb tb,zB,yC (show i < 9223372036854775807 by omega)];have hl1:=hlenA k;have hl2:=hlenB k;rw[R.Qu _ _ (by omega),zB,zA,R.rmeet_eq _ _ (by omega),zB,zA,R.y0a _ _ (by omega),zB,zA];have hz:(cond (decide (how=1)) (pure (R.Yi (·&&·) (R.nrm (yX a k)) (R.nrm (yX b k)))) (pure (R.Yi (·||·) (R.nrm (yX a k)) (R.nrm (yX b k)))):M (List RN)).bind (fun z=>cond (decide (how=2)) (pure (R.Yi (fun x y=>x&&!y) (R.nrm (yX a k)) (R.nrm (yX b k)))) (pure z))=pure (R.Yi op (yX a k) (yX b k)):=by
   rw[<- hop' k]
   by_cases h2:how=2
   ·subst h2;have:op=fun x y=>x&&!y:=by funext x y;rw[hop];simp
    rw[this];rfl
   ·by_cases h1:how=1
    ·subst h1;have:op=fun x y=>x&&y:=by funext x y;rw[hop];simp
     rw[this];rfl
    ·have:op=fun x y=>x||y:=by funext x y;rw[hop];simp[h1,h2]
     rw[this];simp[h1,h2,zA]
  rw[<- UU,hz,zA];have hsl:=(R.yQ op h0 (yX a k) (yX b k)).2.2
  by_cases hz0:R.Yi op (yX a k) (yX b k)=[]
  ·rw[if_pos hz0];simp only[hz0,List.length_nil];exact⟨rfl,by omega⟩
  ·rw[if_neg hz0];have:decide (0 < ((R.Yi op (yX a k) (yX b k)).length:Int))=true:=by
    have:=List.length_pos_iff.2 hz0;simp;omega
   rw[this,cond_true,zE (by simp;omega)];exact⟨rfl,by simp;omega⟩) (fun t _=>by unfold YP;rw[Xm];simp[zA]) [] (by simp)
 rw[show((0:Int),([]:List PT))=(((0:Nat):Int),[]) from rfl,hgo,zA];have key:∀ (ks:List Int) (t:List PT),ks.foldl (fun t k=>if R.Yi op (yX a k) (yX b k)=[] then t else t++[⟨k,R.Yi op (yX a k) (yX b k)⟩]) t=t++yF (fun k=>R.Yi op (yX a k) (yX b k)) ks:=by
  intro ks
  induction ks with
  | nil=>intro t;simp[yF]
  | cons k ks ih=>
   intro t;rw[List.foldl_cons,ih]
   by_cases h:R.Yi op (yX a k) (yX b k)=[]
   ·rw[if_pos h];simp[yF,h]
   ·rw[if_neg h];simp[yF,h]
 rw[key,List.nil_append];refine congrArg pure (Vs (Vw _) (wg _) (fun _=>rfl) fun k hk=>?_);have hr:yX (a++b) k≠[]:=fun e=>hk (by
  rw[Xn] at e;have:=List.append_eq_nil_iff.1 e;rw[this.1,this.2];exact Qw h0)
 exact⟨fun _=>uW hr,fun _=>zAa.2 (vZ.1 (uW hr)).1⟩
structure Ok(c:List PT):Prop where
 dev:∀ p∈c,0<=p.dev
 len:c.length<=1000000000
 tot:vT c<=1000000000
theorem Ok.sm{c:List PT}(h:Ok c):Sm c:=⟨by have:=h.len;omega,by have:=h.tot;omega⟩
section
variable(a b:List PT)(ha:Ok a)(hb:Ok b)
include ha hb
theorem jo : ZG a b=pure (opC (·||·) a b):=by
 unfold ZG;rw[Vp (·||·) 0 (fun x y=>by simp) rfl a b ha.dev hb.dev ha.len hb.len ha.tot hb.tot,zB,zA]
end
theorem ok_nil : Ok []:=⟨fun p h=>by simp at h,by simp,by simp[vT]⟩
theorem sm_norm{c:List PT}(h:Ok c):Sm (yH c):=⟨by have:=uq c;have:=h.len;omega,by have:=ur c;have:=h.tot;omega⟩
theorem has_pos{c:List PT}{k n:Int}(h:ZR c k n=true):0 < k/\1<=n/\n<=281474976710655:=by
 refine⟨Classical.byContradiction fun h0=>?_,R.zka h⟩;unfold ZR at h;rw[jg h0] at h
 cases h
theorem Zt(c:List PT)(d:DT)(h:Ok c):wW c d=pure (ZR c d.dev d.n):=by
 unfold wW;rw[V.uC,zB,zA]
 by_cases hg:V.yE d=true
 ·have h1:=V.xK.1 hg;rw[hg,cond_true,jl c d.dev (by omega) h.len h.tot,zB,zA,R.qw _ _ (by have:=R.XC (yX c d.dev);have:=ZT c d.dev;have:=h.tot;omega),zB,zA,zA,R.uE]
  rfl
 ·have hg':V.yE d=false:=by simpa using hg
  rw[hg',cond_false,zA]
  cases hh:ZR c d.dev d.n with
  | false=>rfl
  | true=>obtain⟨h1,h2,h3⟩:=has_pos hh;exact absurd (V.xK.2 ⟨by omega,h2,h3⟩) hg
theorem QB(c:List PT):jG c=pure (decide (c.length<=30)&&c.all fun p=>decide (p.runs.length<=30)):=by
 unfold jG
 by_cases h0:30 < c.length
 ·have:decide ((30:Int) < (c.length:Int))=true:=by simp;omega
  rw[this,cond_true];have:decide (c.length<=30)=false:=by simp;omega
  rw[this];rfl
 ·have h1:decide ((30:Int) < (c.length:Int))=false:=by simp;omega
  rw[h1,cond_false];have:=wd (body:=YE c) c (fun i=>(i:Int)) (fun i x=>decide (x.runs.length<=30)) (.brk ()) (.ret false) (fun i x hx hi=>by
   have h2:decide ((i:Int) < (c.length:Int))=true:=by simpa using hi
   unfold YE;simp only[h2,cond_true,zJ hx,zA,yi,yC (show i < 9223372036854775807 by omega),decide_eq_true_eq]
   by_cases h3:x.runs.length<=30
   ·rw[if_neg (by omega),if_pos h3]
   ·rw[if_pos (by omega),if_neg h3]) (by unfold YE;simp)
  rw[show(0:Int)=((0:Nat):Int) from rfl,this];have hiff:(c.zipIdx.all fun y=>decide (y.1.runs.length<=30))=c.all fun p=>decide (p.runs.length<=30):=by
   rw[Bool.eq_iff_iff,List.all_eq_true,List.all_eq_true]
   constructor
   ·intro h p hp;obtain⟨i,hi⟩:=List.mem_iff_getElem?.1 hp;exact h (p,i) (List.mem_zipIdx_iff_getElem?.2 hi)
   ·intro h y hy;exact h _ (List.mem_of_getElem? (List.mem_zipIdx_iff_getElem?.1 hy))
  rw[hiff];have h4:decide (c.length<=30)=true:=by simp;omega
  rw[h4,Bool.true_and]
  cases c.all fun p=>decide (p.runs.length<=30) <;> rfl
theorem few_tot{c:List PT}(h:(decide (c.length<=30)&&c.all fun p=>decide (p.runs.length<=30))=true):c.length<=30/\vT c<=900:=by
 rw[Bool.and_eq_true,decide_eq_true_eq,List.all_eq_true] at h;refine⟨h.1,?_⟩;have:∀ l:List PT,(∀ p∈l,decide (p.runs.length<=30)=true)->vT l<=l.length*30:=by
  intro l
  induction l with
  | nil=>intro _;simp[vT]
  | cons p r ih=>
   intro hl;have e:vT (p::r)=p.runs.length+vT r:=by simp[vT]
   have h1:=ih fun q hq=>hl q (by simp[hq])
   have h2:=hl p (by simp);simp only[decide_eq_true_eq] at h2;simp only[List.length_cons];omega
 have:=this c h.2;omega
theorem Uk(l:List DT)(d:DT):zq (l++[d])=zq l++if V.yE d=true then [⟨d.dev,[⟨d.n,d.n⟩]⟩] else []:=by
 unfold zq;rw[List.filter_append,List.map_append]
 congr 1
 by_cases h:V.yE d=true <;> simp[h]
theorem jp(a b:List PT):opC (·||·) (yH a) b=yH (a++b):=(Ya rfl _ _).ext (xR _) fun k n=>by rw[WO rfl,yj,yj,ZS]
theorem jq{l:List DT}(h:l.length<=400000000):Ok (yH (zq l)):=⟨fun p hp=>by have:=((xR (zq l)).nf p hp).1;omega,by have:=uq (zq l);have:=vc l;omega,by have:=ur (zq l);have:=Xp l;omega⟩
theorem rOf_eq(l:List DT)(h:l.length<=400000000):JW l=pure (yH (zq l)):=by
 unfold JW;have:=ZL (body:=XX l) l (fun i (t:List PT)=>(t,(i:Int))) (fun t d=>if V.yE d=true then opC (·||·) t [⟨d.dev,[⟨d.n,d.n⟩]⟩] else t) (fun t=>pure t) (fun i t=>t=yH (zq (l.take i))) (fun i x t hx hi ht=>by
  have h1:decide ((i:Int) < (l.length:Int))=true:=by simpa using hi
  have hok:Ok t:=by rw[ht];exact jq (by rw[List.length_take];omega)
  have hnext:(if V.yE x=true then opC (·||·) t [⟨x.dev,[⟨x.n,x.n⟩]⟩] else t)=yH (zq (l.take (i+1))):=by
   rw[List.take_add_one,hx,Option.toList,Uk,ht]
   split
   ·exact jp _ _
   ·rw[List.append_nil]
  refine⟨?_,hnext⟩;unfold XX;simp only[h1,cond_true,zJ hx,zA,V.uC,zB,yC (show i < 9223372036854775807 by omega)]
  by_cases hg:V.yE x=true
  ·have h2:=V.xK.1 hg;rw[if_pos hg,hg,cond_true,jo t _ hok ⟨fun p hp=>by rw[List.mem_singleton] at hp;subst hp;show 0<=x.dev;omega,by simp,by simp[vT]⟩,zB,zA,zA]
  ·have hg':V.yE x=false:=by simpa using hg
   rw[if_neg hg,hg',cond_false,zA]) (fun t _=>by unfold XX;simp[zA]) [] (by rw[List.take_zero];exact(Yb Jp).symm)
 rw[show(([]:List PT),(0:Int))=([],((0:Nat):Int)) from rfl,this,zA];have key:∀ (q pre:List DT),q.foldl (fun t d=>if V.yE d=true then opC (·||·) t [⟨d.dev,[⟨d.n,d.n⟩]⟩] else t) (yH (zq pre))=yH (zq (pre++q)):=by
  intro q
  induction q with
  | nil=>intro pre;rw[List.append_nil];rfl
  | cons d r ih=>
   intro pre;rw[List.foldl_cons];have:(if V.yE d=true then opC (·||·) (yH (zq pre)) [⟨d.dev,[⟨d.n,d.n⟩]⟩] else yH (zq pre))=yH (zq (pre++[d])):=by
    rw[Uk]
    split
    ·exact jp _ _
    ·rw[List.append_nil]
   rw[this,ih,List.append_assoc];rfl
 have h2:=key l [];rw[show yH (zq [])=[] from Yb Jp,List.nil_append] at h2;rw[h2]
theorem ok_few{c:List PT}(o:∀ p∈c,0<=p.dev)(h:c.length<=30/\vT c<=900):Ok c:=⟨o,by omega,by omega⟩
end Go.Ep.M.C
namespace Go.Ep.M.N
open Go
def lenN(n:Nat):Nat:=if n=0 then 0 else lenN (n / 256)+1
def byteAt(n i:Nat):Int:=((n / 256 ^ i % 256:Nat):Int)
def be(n:Nat):Nat->List Int
 | 0=>[]
 | k+1=>byteAt n k::be n k
def encN(n:Nat):List Int:=(lenN n:Int)::be n (lenN n)
def encI(v:Int):List Int:=encN v.toNat
def By(l:List Int):Prop:=∀ x∈l,0<=x/\x<=255
theorem By.drop{l:List Int}(h:By l)(n:Nat):By (l.drop n):=fun x hx=>h x (List.mem_of_mem_drop hx)
theorem By.take{l:List Int}(h:By l)(n:Nat):By (l.take n):=fun x hx=>h x (List.mem_of_mem_take hx)
theorem By.app{a b:List Int}(ha:By a)(hb:By b):By (a++b):=fun x hx=>(List.mem_append.1 hx).elim (ha x) (hb x)
theorem By.nil : By []:=fun x hx=>by cases hx
def valB(l:List Int):Int:=l.foldl (fun v x=>v*256+x) 0
theorem xBa : ∀ (l:List Int) (v k:Nat),By l->v < 256 ^ k->∃ n:Nat,l.foldl (fun v x=>v*256+x) (v:Int)=(n:Int)/\n < 256 ^ (k+l.length)/\v*256 ^ l.length<=n
 | [],v,k,_,hv=>⟨v,rfl,by simpa using hv,by simp⟩
 | x::r,v,k,hb,hv=>by
  have hx:=hb x (by simp);obtain⟨n,h1,h2,h3⟩:=xBa r (v*256+x.toNat) (k+1) (fun y hy=>hb y (by simp[hy])) (by rw[Nat.pow_succ];omega);refine⟨n,?_,by rw[show k+(x::r).length=k+1+r.length by simp;omega];exact h2,?_⟩
  ·rw[List.foldl_cons,<- h1]
   congr 1;omega
  ·refine Nat.le_trans ?_ h3;rw[List.length_cons,Nat.pow_succ];have:v*(256 ^ r.length*256)=v*256*256 ^ r.length:=by rw[Nat.mul_comm (256 ^ r.length),Nat.mul_assoc]
   rw[this];exact Nat.mul_le_mul_right _ (by omega)
theorem xCa{l:List Int}(h:By l)(h8:l.length<=8):0<=valB l/\valB l<=18446744073709551615:=by
 obtain⟨n,h1,h2,_⟩:=xBa l 0 0 h (by decide);have h3:256 ^ (0+l.length)<=256 ^ 8:=Nat.pow_le_pow_right (by decide) (by omega);have h4:(256:Nat) ^ 8=18446744073709551616:=by decide
 rw[valB,show(0:Int)=((0:Nat):Int) from rfl,h1];omega
def rdN : List Int->Int×Nat×Int
 | []=>(0,0,2)
 | n::r=>if 8 < n\/(0 < n/\r.head?=some 0) then (0,0,4) else if (r.length:Int) < n then (0,0,2) else (valB (r.take n.toNat),n.toNat+1,0)
theorem rdN_cons(n:Int)(r:List Int):rdN (n::r)=if 8 < n\/(0 < n/\r.head?=some 0) then (0,0,4) else if (r.length:Int) < n then (0,0,2) else (valB (r.take n.toNat),n.toNat+1,0):=rfl
theorem xDa(b:List Int)(hb:By b):(rdN b=(0,0,2)\/rdN b=(0,0,4))\/∃ n r,b=n::r/\0<=n/\n<=8/\n<=(r.length:Int)/\¬ (0 < n/\r.head?=some 0)/\rdN b=(valB (r.take n.toNat),n.toNat+1,0):=by
 cases b with
 | nil=>exact .inl (.inl rfl)
 | cons n r=>
  have hn:=hb n (by simp);rw[rdN_cons]
  by_cases h1:8 < n\/(0 < n/\r.head?=some 0)
  ·rw[if_pos h1];exact .inl (.inr rfl)
  ·rw[if_neg h1]
   by_cases h2:(r.length:Int) < n
   ·rw[if_pos h2];exact .inl (.inl rfl)
   ·rw[if_neg h2];exact .inr ⟨n,r,rfl,hn.1,by omega,by omega,fun h=>h1 (.inr h),rfl⟩
theorem xEa(b:List Int)(hb:By b):0<=(rdN b).1/\(rdN b).1<=18446744073709551615/\(rdN b).2.1<=b.length/\((rdN b).2.2=0\/(rdN b).2.2=2\/(rdN b).2.2=4):=by
 rcases xDa b hb with(h | h) | ⟨n,r,rfl,h0,h8,hl,_,h⟩
 ·rw[h];simp
 ·rw[h];simp
 ·rw[h];have:=xCa (l:=r.take n.toNat) (fun x hx=>hb x (by simp[List.mem_of_mem_take hx])) (by rw[List.length_take];omega);refine⟨this.1,this.2,?_,.inl rfl⟩;simp;omega
abbrev RS:=List Int×Int
structure Ok(s:RS):Prop where
 by_:By s.1
 len:s.1.length<=1000000000
 nil:s.2≠0->s.1=[]
def XD(e:Int)(s:RS):RS:=if s.2=0/\e≠0 then ([],e) else s
def Yj(s:RS):Int×RS:=if s.2≠0 then (0,s) else if (rdN s.1).2.2≠0 then (0,XD (rdN s.1).2.2 s) else ((rdN s.1).1,(s.1.drop (rdN s.1).2.1,0))
def WP(m:Int)(s:RS):Int×RS:=if m < (Yj s).1 then (0,XD 4 (Yj s).2) else Yj s
def zpa(s:RS):Int×RS:=if s.2≠0 then (0,s) else match s.1 with | []=>(0,XD 2 s) | x::r=>(x,(r,0))
def textS(m:Int)(s:RS):ByteArray×RS:=
 if (Yj s).2.2≠0 then (⟨#[]⟩,(Yj s).2) else if max m 0 < (Yj s).1 then (⟨#[]⟩,XD 3 (Yj s).2) else if ((Yj s).2.1.length:Int) < (Yj s).1 then (⟨#[]⟩,XD 2 (Yj s).2)
 else (strL ((Yj s).2.1.take (Yj s).1.toNat),((Yj s).2.1.drop (Yj s).1.toNat,0))
theorem jr{s:RS}(h:Ok s)(e:Int):Ok (XD e s):=by
 unfold XD
 by_cases c:s.2=0/\e≠0
 ·rw[if_pos c];exact⟨By.nil,by simp,fun _=>rfl⟩
 ·rw[if_neg c];exact h
theorem xFa{s:RS}(h:Ok s):Ok (Yj s).2/\0<=(Yj s).1/\(Yj s).1<=18446744073709551615:=by
 unfold Yj;have hr:=xEa s.1 h.by_
 by_cases c:s.2≠0
 ·rw[if_pos c];exact⟨h,by simp,by simp⟩
 ·rw[if_neg c]
  by_cases c2:(rdN s.1).2.2≠0
  ·rw[if_pos c2];exact⟨jr h _,by simp,by simp⟩
  ·rw[if_neg c2];exact⟨⟨h.by_.drop _,by simp;have:=h.len;omega,fun h=>absurd rfl h⟩,hr.1,hr.2.1⟩
theorem ok_upto{s:RS}(h:Ok s){m:Int}(hm:0<=m):Ok (WP m s).2/\0<=(WP m s).1/\(WP m s).1<=m:=by
 unfold WP;obtain⟨h1,h2,h3⟩:=xFa h
 by_cases c:m < (Yj s).1
 ·rw[if_pos c];exact⟨jr h1 _,by simp,hm⟩
 ·rw[if_neg c];exact⟨h1,h2,by omega⟩
structure Sim(B:List Int)(a:Int)(s:RS):Prop where
 lo:0<=a
 hi:a<=B.length
 eq:s.2=0->s.1=B.drop a.toNat
structure OkB(B:List Int):Prop where
 by_:By B
 len:B.length<=1000000000
theorem OkB.ok{B:List Int}(h:OkB B):Ok (B,0):=⟨h.by_,h.len,fun h=>absurd rfl h⟩
variable{B:List Int}{a:Int}{s:RS}
end Go.Ep.M.N
namespace Go.Ep.M.D
open Go
theorem Wa{a b:DT}:zQ a b=true↔a.dev < b.dev\/(a.dev=b.dev/\a.n < b.n):=by simp[zQ]
theorem Wb(a:DT):zQ a a=false:=by
 cases h:zQ a a with
 | false=>rfl
 | true=>rw[Wa] at h;omega
theorem Xq{a b c:DT}(h1:zQ a b=true)(h2:zQ b c=true):zQ a c=true:=by rw[Wa] at *;omega
theorem Zu{a b:DT}(h:zQ a b=true):zQ b a=false:=by
 cases h2:zQ b a with
 | false=>rfl
 | true=>rw[Wa] at h h2;omega
theorem Ul{a b:DT}(h1:zQ a b=false)(h2:zQ b a=false):a=b:=by
 have h3:¬ (zQ a b=true):=by simp[h1]
 have h4:¬ (zQ b a=true):=by simp[h2]
 rw[Wa] at h3 h4
 cases a;cases b
 simp only[DT.mk.injEq] at *
 omega
abbrev Srt(l:List DT):Prop:=l.Pairwise fun x y=>zQ x y=true
theorem xGa : ∀ {l l':List DT},Srt l->Srt l'->(∀ d,d∈l↔d∈l')->l=l'
 | [],[],_,_,_=>rfl
 | [],y::r,_,_,h=>by have:=(h y).2 (by simp);simp at this
 | x::r,[],_,_,h=>by have:=(h x).1 (by simp);simp at this
 | x::r,y::t,h1,h2,h=>by
  have hx:=(h x).1 (by simp);have hy:=(h y).2 (by simp);have e:x=y:=by
   rcases List.mem_cons.1 hx with e | hx
   ·exact e
   ·rcases List.mem_cons.1 hy with e | hy
    ·exact e.symm
    ·have a1:=(List.pairwise_cons.1 h2).1 x hx;have a2:=(List.pairwise_cons.1 h1).1 y hy;rw[Zu a1] at a2;cases a2
  subst e
  congr 1
  refine xGa (List.pairwise_cons.1 h1).2 (List.pairwise_cons.1 h2).2 fun d=>?_
  have h3:=h d;simp only[List.mem_cons] at h3
  constructor
  ·intro hd;rcases h3.1 (.inr hd) with e | h4
   ·have:=(List.pairwise_cons.1 h1).1 d hd;rw[e,Wb] at this;cases this
   ·exact h4
  ·intro hd;rcases h3.2 (.inr hd) with e | h4
   ·have:=(List.pairwise_cons.1 h2).1 d hd;rw[e,Wb] at this;cases this
   ·exact h4
def QC(s:List DT)(d:DT):List DT:=(s.filter fun x=>zQ x d)++[d]++(s.filter fun x=>zQ d x)
theorem ins_mem{s:List DT}{d x:DT}:x∈QC s d↔x=d\/x∈s:=by
 simp only[QC,List.mem_append,List.mem_filter,List.mem_singleton]
 constructor
 ·rintro((h | h) | h)
  ·exact .inr h.1
  ·exact .inl h
  ·exact .inr h.1
 ·rintro(h | h)
  ·exact .inl (.inr h)
  ·cases h1:zQ x d with
   | true=>exact .inl (.inl ⟨h,rfl⟩)
   | false=>
    cases h2:zQ d x with
    | true=>exact .inr ⟨h,rfl⟩
    | false=>exact .inl (.inr (Ul h1 h2))
theorem ins_srt{s:List DT}(h:Srt s)(d:DT):Srt (QC s d):=by
 unfold Srt QC;rw[List.pairwise_append,List.pairwise_append];refine⟨⟨h.filter _,by simp,fun a ha b hb=>?_⟩,h.filter _,fun a ha b hb=>?_⟩
 ·rw[List.mem_singleton.1 hb];exact(List.mem_filter.1 ha).2
 ·have hb:=(List.mem_filter.1 hb).2;rcases List.mem_append.1 ha with ha | ha
  ·exact Xq (List.mem_filter.1 ha).2 hb
  ·rw[List.mem_singleton.1 ha];exact hb
theorem QD(s:List DT)(d:DT):(QC s d).length<=s.length+1:=by
 unfold QC;have h:∀ l:List DT,(l.filter fun x=>zQ x d).length+(l.filter fun x=>zQ d x).length<=l.length:=by
  intro l
  induction l with
  | nil=>simp
  | cons x r ih=>
   cases h1:zQ x d with
   | true=>simp[h1,Zu h1];omega
   | false=>
    cases h2:zQ d x with
    | true=>simp[h1,h2];omega
    | false=>simp[h1,h2];omega
 have:=h s;simp;omega
def Xr(l:List DT):List DT:=l.foldl QC []
theorem VF : ∀ (l s:List DT),Srt s->Srt (l.foldl QC s)/\(∀ d,d∈l.foldl QC s↔d∈s\/d∈l)/\(l.foldl QC s).length<=s.length+l.length
 | [],s,h=>⟨h,by simp,by simp⟩
 | x::r,s,h=>by
  obtain⟨h1,h2,h3⟩:=VF r (QC s x) (ins_srt h x);refine⟨h1,fun d=>?_,?_⟩
  ·rw[List.foldl_cons,h2 d,ins_mem,List.mem_cons]
   constructor
   ·rintro((h | h) | h)
    ·exact .inr (.inl h)
    ·exact .inl h
    ·exact .inr (.inr h)
   ·rintro(h | h | h)
    ·exact .inl (.inr h)
    ·exact .inl (.inl h)
    ·exact .inr h
  ·have:=QD s x;rw[List.foldl_cons,List.length_cons];omega
theorem sort_srt(l:List DT):Srt (Xr l):=(VF l [] List.Pairwise.nil).1
theorem zCa{l:List DT}{d:DT}:d∈Xr l↔d∈l:=by simpa[Xr] using (VF l [] List.Pairwise.nil).2.1 d
theorem zDa(l:List DT):(Xr l).length<=l.length:=by simpa[Xr] using (VF l [] List.Pairwise.nil).2.2
theorem xHa(s:List DT)(d:DT)(h:s.length<=1000000000000):Zg s d=pure (QC s d):=V.WK s d h
def ddS(out:List DT)(x:DT):List DT:=if out.getLast?=some x then out else out++[x]
def dd(l:List DT):List DT:=l.foldl ddS []
theorem Vx(l:List DT)(x:DT):dd (l++[x])=ddS (dd l) x:=by simp[dd]
theorem QE(l:List DT):(dd l).getLast?=l.getLast?:=by
 rcases R.xj l with rfl | ⟨r,y,rfl⟩
 ·rfl
 ·rw[Vx];unfold ddS
  by_cases c:(dd r).getLast?=some y
  ·rw[if_pos c,c];simp
  ·rw[if_neg c];simp
theorem dd_mem{l:List DT}{d:DT}:d∈dd l↔d∈l:=by
 have:∀ (l s:List DT),d∈l.foldl ddS s↔d∈s\/d∈l:=by
  intro l
  induction l with
  | nil=>intro s;simp
  | cons x r ih=>
   intro s;rw[List.foldl_cons,ih];have h2:d∈ddS s x↔d∈s\/d=x:=by
    unfold ddS
    split
    ·rename_i h
     exact⟨.inl,fun h3=>h3.elim id fun e=>by rw[e];exact List.mem_of_getLast? h⟩
    ·simp
   rw[h2,List.mem_cons];exact or_assoc
 simpa[dd] using this l []
theorem dd_srt{l:List DT}(h:l.Pairwise fun x y=>zQ y x=false):Srt (dd l):=by
 have:∀ (n:Nat) (l:List DT),l.length=n->(l.Pairwise fun x y=>zQ y x=false)->Srt (dd l):=by
  intro n
  induction n with
  | zero=>intro l hl _;have:=List.eq_nil_of_length_eq_zero hl;subst this;exact List.Pairwise.nil
  | succ n ih=>
   intro l hl h;rcases R.xj l with rfl | ⟨r,y,rfl⟩
   ·simp at hl
   ·rw[List.pairwise_append] at h;have hr:=ih r (by simpa using hl) h.1;rw[Vx];unfold ddS
    split
    ·exact hr
    ·rename_i hne
     unfold Srt;rw[List.pairwise_append];refine⟨hr,by simp,fun a ha b hb=>?_⟩;rw[List.mem_singleton.1 hb];have ha':=dd_mem.1 ha;have h1:=h.2.2 a ha' y (by simp)
     cases h2:zQ a y with
     | true=>rfl
     | false=>
      exfalso;have e:=Ul h2 h1;subst e;rw[QE] at hne;rcases R.xj r with rfl | ⟨q,z,rfl⟩
      ·simp at ha'
      ·have hz:zQ a z=false:=h.2.2 z (by simp) a (by simp);rcases List.mem_append.1 ha' with h5 | h5
       ·have h6:zQ z a=false:=by
         have:=(List.pairwise_append.1 h.1).2.2 a h5 z (by simp);exact this
        have:=Ul hz h6;subst this;simp at hne
       ·rw[List.mem_singleton.1 h5] at hne;simp at hne
 exact this l.length l rfl h
theorem jt(l:List DT)(h:l.length<=1000000000000):zt l=pure l:=by
 unfold zt;refine ux ⟨⟨false,fun h=>by cases h⟩,fun b hb=>?_⟩
 cases b with
 | true=>show([]:List DT)=l;exact(hb rfl).symm
 | false=>
  show _/\([]++l=l)
  exact⟨by simp;omega,List.nil_append l⟩
theorem QF(x y:DT):(decide (x.dev=y.dev)&&decide (x.n=y.n))=decide (x=y):=by
 cases x;cases y;simp[Bool.decide_and]
theorem Zv{l:List DT}{m:Nat}{x:DT}(h:l[m]?=some x):l.take (m+1)=l.take m++[x]:=by
 rw[List.take_add_one,h];rfl
theorem Jq{l:List DT}{m:Nat}{x:DT}(h:l[m]?=some x):(l.take (m+1)).getLast?=some x:=by rw[Zv h];simp
theorem WQ(s:List DT)(k:Nat)(hk:k < s.length)(hl:s.length<=1000000000000):∀ (d k2 kk:Nat) (v:List DT),k+k2+d=s.length->1<=k2->v.length=s.length->kk+1<=k+k2->v.take kk=dd (s.take (k+k2))->v.drop (k+k2 - 1)=s.drop (k+k2 - 1) ->
  ∃ (kk':Nat) (v':List DT),loop (zf s (k:Int)) ((kk:Int),(k2:Int),v)=pure ((kk':Int),v')/\v'.length=s.length/\kk'<=s.length/\v'.take kk'=dd s
 | 0,k2,kk,v,hd,h1,hv,hkk,ht,_=>by
  refine⟨kk,v,zr ?_,hv,by omega,by rw[ht,show k+k2=s.length by omega,List.take_length]⟩;unfold zf;have:decide ((k2:Int) < (((s.length - (k:Int).toNat:Nat)):Int))=false:=by simp;omega
  simp only[this,cond_false]
 | d+1,k2,kk,v,hd,h1,hv,hkk,ht,hdr=>by
  have hvg:∀ j,k+k2 - 1<=j->v[j]?=s[j]?:=fun j hj=>by
   have:=congrArg (fun l=>l[j - (k+k2 - 1)]?) hdr;simp only[List.getElem?_drop] at this;rw[show k+k2 - 1+(j - (k+k2 - 1))=j by omega] at this;exact this
  obtain⟨x,hx⟩:∃ x,s[k+k2]?=some x:=⟨_,List.getElem?_eq_getElem (by omega)⟩
  obtain⟨y,hy⟩:∃ y,s[k+k2 - 1]?=some y:=⟨_,List.getElem?_eq_getElem (by omega)⟩
  have hlast:(dd (s.take (k+k2))).getLast?=some y:=by
   rw[QE];have:=Jq hy
   rwa [show k+k2 - 1+1=k+k2 by omega] at this
  have hdd:dd (s.take (k+k2+1))=if y=x then dd (s.take (k+k2)) else dd (s.take (k+k2))++[x]:=by
   rw[Zv hx,Vx];unfold ddS;rw[hlast]
   by_cases c:y=x
   ·rw[if_pos c,if_pos (by rw[c])]
   ·rw[if_neg c,if_neg (by intro e;exact c (Option.some.inj e))]
  have hb:zf s (k:Int) ((kk:Int),(k2:Int),v)=pure (.next (if y=x then ((kk:Int),((k2+1:Nat):Int),v) else (((kk+1:Nat):Int),((k2+1:Nat):Int),v.set kk x))):=by
   unfold zf;have hc:decide ((k2:Int) < (((s.length - (k:Int).toNat:Nat)):Int))=true:=by simp;omega
   have e1:IntKind.i64.wrap ((k2:Int) - 1)=((k2 - 1:Nat):Int):=by rw[UF (by omega) (by omega)];omega
   have i1:idx v ((((k:Int).toNat+(k2:Int).toNat:Nat)):Int)=pure x:=zJ (by rw[Int.toNat_natCast,Int.toNat_natCast,hvg _ (by omega)];exact hx);have i2:idx v ((((k:Int).toNat+(((k2 - 1:Nat):Int)).toNat:Nat)):Int)=pure y:=zJ (by rw[Int.toNat_natCast,Int.toNat_natCast,hvg _ (by omega),show k+(k2 - 1)=k+k2 - 1 by omega];exact hy);obtain⟨z,hz⟩:∃ z,v[kk]?=some z:=⟨_,List.getElem?_eq_getElem (by omega)⟩
   have i3:idx v (kk:Int)=pure z:=zJ hz;simp only[hc,cond_true,e1];rw[zE (by simp;omega),i1,zA,zE (by simp;omega),i2,zA];simp only[QF]
   by_cases c:y=x
   ·have c1:decide (x=y)=true:=decide_eq_true c.symm;simp only[c1,Bool.not_true,cond_false,zA,yC (show k2 < 9223372036854775807 by omega),if_pos c]
   ·have c1:decide (x=y)=false:=decide_eq_false (fun e=>c e.symm);simp only[c1,Bool.not_false,cond_true,if_neg c];rw[zE (by simp;omega),i3];simp only[zA,yC (show k2 < 9223372036854775807 by omega),yC (show kk < 9223372036854775807 by omega),Int.toNat_natCast]
  by_cases c:y=x
  ·rw[if_pos c] at hb hdd;rw[yD hb];refine WQ s k hk hl d (k2+1) kk v (by omega) (by omega) hv (by omega) (by rw[ht,<- hdd];rfl) ?_;have:=congrArg (List.drop 1) hdr;rw[List.drop_drop,List.drop_drop,show k+k2 - 1+1=k+(k2+1) - 1 by omega] at this;exact this
  ·rw[if_neg c] at hb hdd;rw[yD hb];refine WQ s k hk hl d (k2+1) (kk+1) (v.set kk x) (by omega) (by omega) (by simpa using hv) (by omega) ?_ ?_
   ·have h5:(v.set kk x)[kk]?=some x:=by rw[List.getElem?_set];simp;omega
    rw[Zv h5,List.take_set,List.set_eq_of_length_le (by rw[List.length_take];omega),ht,<- hdd];rfl
   ·rw[List.drop_set,if_pos (by omega)];have:=congrArg (List.drop 1) hdr;rw[List.drop_drop,List.drop_drop,show k+k2 - 1+1=k+(k2+1) - 1 by omega] at this;exact this
theorem zqa(s:List DT)(hl:s.length<=1000000000000):zj s=pure (dd s):=by
 unfold zj
 by_cases h2:s.length < 2
 ·have:decide ((s.length:Int) < 2)=true:=by simp;omega
  rw[this,cond_true]
  match s,h2 with
  | [],_=>rfl
  | [x],_=>rfl
 ·have:decide ((s.length:Int) < 2)=false:=by simp;omega
  rw[this,cond_false];have key:∀ d k,k+d=s.length->1<=k->dd (s.take k)=s.take k->(loop (zg s) (k:Int)).bind (exk fun _=>pure s)=pure (dd s):=by
   intro d
   induction d with
   | zero=>
    intro k hk h1 hd;rw[zr (r:=.brk ()) (by
     unfold zg;have:decide ((k:Int) < (s.length:Int))=false:=by simp;omega
     simp only[this,cond_false])]
    rw[show k=s.length by omega,List.take_length] at hd;show pure s=pure (dd s);rw[hd]
   | succ d ih=>
    intro k hk h1 hd;obtain⟨x,hx⟩:∃ x,s[k]?=some x:=⟨_,List.getElem?_eq_getElem (by omega)⟩
    obtain⟨y,hy⟩:∃ y,s[k - 1]?=some y:=⟨_,List.getElem?_eq_getElem (by omega)⟩
    have hlast:(dd (s.take k)).getLast?=some y:=by
     rw[QE];have:=Jq hy
     rwa [show k - 1+1=k by omega] at this
    have hc:decide ((k:Int) < (s.length:Int))=true:=by simp;omega
    have i1:idx s (k:Int)=pure x:=zJ hx;have i2:idx s (IntKind.i64.wrap ((k:Int) - 1))=pure y:=by
     rw[UF (by omega) (by omega)];exact XM (by omega) (by rw[show((k:Int) - 1).toNat=k - 1 by omega];exact hy)
    by_cases c:x=y
    ·subst c;obtain⟨kk,v,h5,h6,h7,h8⟩:=WQ s k (by omega) hl d 1 k s (by omega) (by omega) rfl (by omega) (by
      rw[Zv hx,Vx,ddS,if_pos hlast,hd]) (by rw[show k+1 - 1=k by omega])
     rw[zr (r:=.ret (dd s)) (by
      unfold zg;simp only[hc,cond_true,i1,i2,zA,QF,decide_true];rw[zE (by omega),show(1:Int)=((1:Nat):Int) from rfl,h5,zA];simp only[];rw[zE (by omega),zE (by simp;omega),zE (by
       simp only[List.length_append,List.length_take,List.length_replicate,List.length_drop,Int.toNat_natCast];omega),zA,qJ]
      congr 3
      rw[Int.toNat_natCast,List.append_assoc,List.take_append_of_le_length (by rw[List.length_take];omega),List.take_take,Nat.min_self,h8])]
     rfl
    ·have c1:decide (x=y)=false:=decide_eq_false c;rw[yD (s':=((k+1:Nat):Int)) (by
      unfold zg;simp only[hc,cond_true,i1,i2,zA,QF,c1,cond_false,Xz,yC (show k < 9223372036854775807 by omega)])]
     refine ih (k+1) (by omega) (by omega) ?_;rw[Zv hx,Vx,ddS,if_neg (by rw[hlast];intro e;exact c (Option.some.inj e).symm),hd]
  have:=key (s.length - 1) 1 (by omega) (by omega) (by
   obtain⟨x,r,rfl⟩:∃ x r,s=x::r:=by
    cases s with
    | nil=>simp at h2
    | cons x r=>exact⟨x,r,rfl⟩
   rfl)
  exact this
theorem y1a{l:List DT}{Q:List DT->Prop}(h:∀ s,s.Perm l->(s.Pairwise fun x y=>zQ y x=false)->Q s):(srt zQ l).wp Q:=by
 refine⟨⟨l.mergeSort (fun x y=>!zQ y x),List.mergeSort_perm _ _,?_⟩,fun s ⟨h1,h2⟩=>h s h1 h2⟩;refine(List.pairwise_mergeSort (fun a b c h1 h2=>?_) (fun a b=>?_) l).imp fun {x y} h=>by simpa using h
 ·simp only[Bool.not_eq_true'] at h1 h2 ⊢
  cases h3:zQ c a with
  | false=>rfl
  | true=>
   rw[Wa] at h3;have h4:¬ (zQ b a=true):=by simp[h1]
   have h5:¬ (zQ c b=true):=by simp[h2]
   rw[Wa] at h4 h5;omega
 ·cases h1:zQ b a with
  | false=>rfl
  | true=>rw[Zu h1];rfl
theorem Sort_eq(l:List DT)(h:l.length<=1000000000000):Wp l=pure (Xr l):=by
 unfold Wp;rw[jt l h,zB,zA,zE (by omega)];refine ux (y1a fun s hs hp=>?_);show(bind (det (zj s)) fun y8=>pure y8).wp _;rw[zqa s (by rw[hs.length_eq];exact h),zB,zA];exact xGa (dd_srt hp) (sort_srt l) fun d=>by rw[dd_mem,zCa];exact hs.mem_iff
theorem cmp16_eq(x y:Int):xH x y=pure (R.y2a x y):=by
 unfold xH xb R.y2a;simp only[decide_true,Bool.not_true,zB,zA,cond_false,yi]
 split
 ·rfl
 ·split <;> rfl
theorem Cmp_eq(a b:DT):jH a b=pure (V.qq a b):=by
 unfold jH;rw[cmp16_eq,zB,zA,R.y3a,zB,zA];unfold V.qq R.y2a
 cases a with | mk d n=>cases b with | mk e m=>
 simp only[DT.mk.injEq,zQ]
 by_cases h1:d < e
 ·have:¬ d=e:=by omega
  simp[h1,this]
 ·by_cases h2:e < d
  ·have:¬ d=e:=by omega
   simp[h1,h2,this]
  ·have h3:d=e:=by omega
   subst h3
   by_cases h4:n < m
   ·have:¬ n=m:=by omega
    simp[h4,this]
   ·by_cases h5:m < n
    ·have:¬ n=m:=by omega
     simp[h4,h5,this]
    ·have:n=m:=by omega
     simp[this]
structure OkD(d:DT):Prop where
 d0:0<=d.dev
 d1:d.dev<=65535
 n0:0<=d.n
 n1:d.n<=18446744073709551615
def encD(d:DT):List Int:=N.encI d.dev++N.encI d.n
def encR(x:RN):List Int:=N.encI x.lo++N.encI x.hi
def encP(p:PT):List Int:=N.encI p.dev++(N.encI p.runs.length++p.runs.flatMap encR)
def encN(c:List PT):List Int:=N.encI c.length++c.flatMap encP
structure OkP(p:PT):Prop where
 d0:0<=p.dev
 d1:p.dev<=65535
 r:∀ x∈p.runs,(0<=x.lo/\x.lo<=18446744073709551615)/\0<=x.hi/\x.hi<=18446744073709551615
open N (RS Ok Yj WP XD OkB Sim)
def bad4(c:Bool)(s:RS):RS:=if c=true then XD 4 s else s
def fin{α:Type}(z x:α)(t:RS):α×RS:=if t.2≠0 then (z,t) else (x,t)
theorem xIa{s:RS}(h:Ok s)(c:Bool):Ok (bad4 c s):=by unfold bad4;split;exact N.jr h _;exact h
theorem fin_ok{α:Type}{z x:α}{t:RS}(h:t.2=0):fin z x t=(x,t):=if_neg (by simp[h])
theorem fin_bad{α:Type}{z x:α}{t:RS}(h:t.2≠0):fin z x t=(z,t):=if_pos h
def dotR(s:RS):DT:=⟨(WP 65535 s).1,(Yj (WP 65535 s).2).1⟩
def dotT(s:RS):RS:=bad4 (!V.yE (dotR s)) (Yj (WP 65535 s).2).2
def dotS(s:RS):DT×RS:=fin ⟨0,0⟩ (dotR s) (dotT s)
theorem ok_dot{s:RS}(h:Ok s):Ok (dotS s).2/\OkD (dotS s).1/\OkD (dotR s):=by
 obtain⟨h1,h2,h3⟩:=N.ok_upto h (m:=65535) (by decide);obtain⟨h4,h5,h6⟩:=N.xFa h1;have ht:Ok (dotT s):=xIa h4 _;have hr:OkD (dotR s):=⟨h2,h3,h5,h6⟩
 unfold dotS
 by_cases c:(dotT s).2=0
 ·rw[fin_ok c];exact⟨ht,hr,hr⟩
 ·rw[fin_bad c];exact⟨ht,⟨Int.le_refl _,by simp,Int.le_refl _,by simp⟩,hr⟩
variable{B:List Int}{a:Int}{s:RS}
def lastGe(out:List DT)(x:DT):Bool:=match out.getLast? with | some y=>decide (0<=V.qq y x) | none=>false
def ju(out:List DT)(s:RS):RS:=bad4 (lastGe out (dotS s).1) (dotS s).2
def yR : Nat->List DT->RS->List DT×RS
 | 0,out,s=>(out,s)
 | k+1,out,s=>if (ju out s).2≠0 then ([],ju out s) else yR k (out++[(dotS s).1]) (ju out s)
def dotsS(most:Int)(s:RS):List DT×RS:=if max most 0 < (Yj s).1 then ([],XD 3 (Yj s).2) else yR (Yj s).1.toNat [] (Yj s).2
theorem xJa{k:Nat}{out:List DT}{s:RS}(h:(ju out s).2≠0):yR (k+1) out s=([],ju out s):=if_pos h
theorem zra{k:Nat}{out:List DT}{s:RS}(h:(ju out s).2=0):yR (k+1) out s=yR k (out++[(dotS s).1]) (ju out s):=if_neg (by simp[h])
theorem zEa{s:RS}(h:Ok s)(out:List DT):Ok (ju out s):=xIa (ok_dot h).1 _
theorem zFa : ∀ (k:Nat) (out:List DT) (s:RS),Ok s->Ok (yR k out s).2
 | 0,_,_,h=>h
 | k+1,out,s,h=>by
  by_cases c:(ju out s).2=0
  ·rw[zra c];exact zFa k _ _ (zEa h out)
  ·rw[xJa c];exact zEa h out
theorem jq{s:RS}(h:Ok s)(most:Int):Ok (dotsS most s).2:=by
 have h1:=N.xFa h;unfold dotsS
 split
 ·exact N.jr h1.1 _
 ·exact zFa _ _ _ h1.1
open N (RS Ok Yj WP XD OkB Sim)
variable{B:List Int}{a:Int}{s:RS}
open N (RS Ok Yj WP XD OkB Sim)
def Zw : List DT->Bool
 | []=>true
 | x::r=>(match r with | []=>true | y::_=>zQ x y)&&Zw r
theorem zGa : ∀ {l:List DT},Zw l=true↔Srt l
 | []=>⟨fun _=>List.Pairwise.nil,fun _=>rfl⟩
 | [x]=>⟨fun _=>by simp[Srt],fun _=>rfl⟩
 | x::y::r=>by
  show(zQ x y&&Zw (y::r))=true↔_;rw[Bool.and_eq_true,zGa (l:=y::r)];unfold Srt;rw[List.pairwise_cons (a:=x)]
  constructor
  ·rintro⟨h1,h2⟩;refine⟨fun z hz=>?_,h2⟩;rcases List.mem_cons.1 hz with rfl | hz
   ·exact h1
   ·exact Xq h1 ((List.pairwise_cons.1 h2).1 z hz)
  ·rintro⟨h1,h2⟩;exact⟨h1 y (by simp),h2⟩
theorem cmp_ge(x y:DT):decide (0<=V.qq x y)=!zQ x y:=by
 by_cases h:zQ x y=true
 ·have:=V.Xj.2 h;rw[h];simp;omega
 ·have h2:¬ V.qq x y < 0:=fun e=>h (V.Xj.1 e)
  simp only[Bool.not_eq_true] at h;rw[h];simp;omega
theorem zsa(l:List DT)(hl:l.length<=1000000000000):YS l=pure (Zw l):=by
 unfold YS;have key:∀ (k i:Nat) (x:DT) (r:List DT),i+k=l.length->l.drop i=r->i≠0->l[i - 1]?=some x->loop (xP l) (i:Int)=pure (if Zw (x::r)=true then .brk () else .ret false):=by
  intro k
  induction k with
  | zero=>
   intro i x r hi hr h1 hx;have:r=[]:=by rw[<- hr];exact List.drop_eq_nil_of_le (by omega)
   subst this;exact zr (by
    unfold xP;have:decide ((i:Int) < (l.length:Int))=false:=by simp;omega
    simp only[this,cond_false];rfl)
  | succ k ih=>
   intro i x r hi hr h1 hx;have hlt:i < l.length:=by omega
   have hr2:r=l[i]::l.drop (i+1):=by rw[<- hr];exact List.drop_eq_getElem_cons hlt
   have hy:=List.getElem?_eq_getElem hlt;have hi1:idx l (IntKind.i64.wrap ((i:Int) - 1))=pure x:=by
    rw[UF (by omega) (by omega)];exact XM (by omega) (by rw[show((i:Int) - 1).toNat=i - 1 by omega];exact hx)
   have hb:xP l (i:Int)=cond (!zQ x l[i]) (pure (.done (.ret false))) (pure (.next ((i+1:Nat):Int))):=by
    unfold xP;have:decide ((i:Int) < (l.length:Int))=true:=by simp;omega
    simp only[this,cond_true,hi1,zJ hy,zA,V.YY,zB,cmp_ge,yC (show i < 9223372036854775807 by omega)]
   rw[hr2];show _=(pure (if (zQ x l[i]&&Zw (l[i]::l.drop (i+1)))=true then Ex.brk () else Ex.ret false):M (Ex Unit Bool))
   cases c:zQ x l[i] with
   | true=>
    rw[c] at hb;rw[yD hb,Bool.true_and];exact ih (i+1) l[i] _ (by omega) rfl (by omega) hy
   | false=>
    rw[c] at hb;rw[zr hb];rfl
 cases l with
 | nil=>
  rw[zr (r:=.brk ()) (by unfold xP;rfl)];rfl
 | cons x r=>
  have:=key r.length 1 x r (by simp;omega) rfl (by decide) rfl;rw[show((1:Nat):Int)=1 from rfl] at this;rw[this,zA]
  cases Zw (x::r) <;> rfl
open N (RS Ok Yj WP XD OkB Sim)
end Go.Ep.M.D

/- Side texts. -/
import Derived.ProofKit
import Derived.Deep.Slices
import Derived.Test.YtjdnjamfgdjncaaGreatProg
import Derived.KernelRfl
import Derived.Test.YtjdnjamfgdjncaaGreatADr2
import Derived.Test.YtjdnjamfgdjncaaGreatADr12
set_option linter.unusedVariables false
set_option linter.unusedSimpArgs false
namespace Go.Ep.M.T
open Go
open E (OkE yJ wn)
open F (uC zw yE)
open G (yx yC)
def vp(m:Int)(j:Nat):Bool:=m.toNat.testBit j
structure Msk(m:Int):Prop where
 lo:0<=m
 hi:m < 18446744073709551616
theorem ofI64{n:Nat}(h:n < 18446744073709551616):(BitVec.ofInt IntKind.u64.bits (n:Int)).toNat=n:=by
 show(BitVec.ofInt 64 (n:Int)).toNat=n;rw[BitVec.toNat_ofInt];omega
theorem Msk.nat{m:Int}(h:Msk m):∃ n:Nat,m=(n:Int)/\n < 18446744073709551616:=⟨m.toNat,by have:=h.lo;omega,by have:=h.hi;have:=h.lo;omega⟩
theorem vba{m:Int}(h:Msk m){j:Nat}(hj:j < 64):xua .u64 (Int.fdiv m (2 ^ (min (Int.toNat (j:Int)) 64))) 1=if vp m j=true then 1 else 0:=by
 obtain⟨n,rfl,hn⟩:=h.nat;have e1:min (Int.toNat (j:Int)) 64=j:=by simp;omega
 have e2:(2:Int) ^ j=((2 ^ j:Nat):Int):=by simp
 have e3:Int.fdiv (n:Int) ((2 ^ j:Nat):Int)=((n / 2 ^ j:Nat):Int):=by rw[Int.fdiv_eq_ediv_of_nonneg _ (Int.natCast_nonneg _)];rfl
 have hle:n / 2 ^ j<=n:=Nat.div_le_self _ _;rw[e1,e2,e3];unfold xua vp;rw[BitVec.toNat_and,ofI64 (by omega),show(1:Int)=((1:Nat):Int) from rfl,ofI64 (by decide),Nat.and_one_is_mod,qK (by omega) (by omega)];have:(((n:Int).toNat).testBit j)=decide (n / 2 ^ j % 2=1):=by rw[Int.toNat_natCast];exact Nat.testBit_eq_decide_div_mod_eq
 rw[this]
 by_cases h1:n / 2 ^ j % 2=1
 ·rw[h1];simp
 ·have:n / 2 ^ j % 2=0:=by omega
  rw[this];simp
theorem vca{m:Int}(h:Msk m){j:Nat}(hj:j < 64):decide (xua .u64 (Int.fdiv m (2 ^ (min (Int.toNat (j:Int)) 64))) 1=1)=vp m j:=by
 rw[vba h hj]
 cases vp m j <;> simp
theorem yva{a b:Int}(ha:Msk a)(hb:Msk b):Msk (bOr .u64 a b)/\∀ j,vp (bOr .u64 a b) j=(vp a j||vp b j):=by
 obtain⟨n,rfl,hn⟩:=ha.nat;obtain⟨m,rfl,hm⟩:=hb.nat;have hlt:n ||| m < 18446744073709551616:=Nat.or_lt_two_pow (n:=64) hn hm;have e:bOr .u64 (n:Int) (m:Int)=((n ||| m:Nat):Int):=by
  unfold bOr;rw[BitVec.toNat_or,ofI64 hn,ofI64 hm,qK (by omega) (by omega)]
 rw[e];refine⟨⟨by omega,by omega⟩,fun j=>?_⟩;unfold vp;rw[Int.toNat_natCast,Int.toNat_natCast,Int.toNat_natCast,Nat.testBit_or]
theorem z3a{j:Nat}(hj:j < 64):Msk (IntKind.u64.wrap (1*2 ^ (min (Int.toNat (j:Int)) 64)))/\∀ k,vp (IntKind.u64.wrap (1*2 ^ (min (Int.toNat (j:Int)) 64))) k=decide (k=j):=by
 have e1:min (Int.toNat (j:Int)) 64=j:=by simp;omega
 have e2:(1:Int)*2 ^ j=((2 ^ j:Nat):Int):=by simp
 have hlt:2 ^ j < 2 ^ 64:=Nat.pow_lt_pow_right (by omega) hj;have hlt':2 ^ j < 18446744073709551616:=hlt;have hw:∀ q:Nat,q < 18446744073709551616->IntKind.u64.wrap (q:Int)=(q:Int)/\Msk (q:Int):=fun q hq=>⟨qK (by omega) (by omega),by omega,by omega⟩
 obtain⟨w1,w2⟩:=hw _ hlt';rw[e1,e2,w1];refine⟨w2,fun k=>?_⟩;unfold vp;rw[Int.toNat_natCast,Nat.testBit_two_pow]
 by_cases h:j=k
 ·subst h;simp
 ·simp[h,Ne.symm h]
theorem Xq : Msk 0/\∀ j,vp 0 j=false:=⟨⟨by decide,by decide⟩,fun j=>by simp[vp]⟩
theorem msk_ext{a b:Int}(ha:Msk a)(hb:Msk b)(h:∀ j,vp a j=vp b j):a=b:=by
 obtain⟨n,rfl,hn⟩:=ha.nat;obtain⟨m,rfl,hm⟩:=hb.nat
 congr 1
 exact Nat.eq_of_testBit_eq fun j=>by simpa[vp] using h j
structure Fs(l:List L20fact)(Y:List yz):Prop where
 len:l.length=Y.length
 sml:l.length<=60
 at_:∀ (j:Nat) (q:L20fact) (f:yz),l[j]?=some q->Y[j]?=some f->q.e_=f.e/\Msk q.saw/\∀ k,vp q.saw k=f.saw k
theorem Fs.get{l:List L20fact}{Y:List yz}(h:Fs l Y){j:Nat}(hj:j < l.length):∃ q f,l[j]?=some q/\Y[j]?=some f/\q.e_=f.e/\Msk q.saw/\∀ k,vp q.saw k=f.saw k:=by
 have h1:=List.getElem?_eq_getElem hj;have h2:=List.getElem?_eq_getElem (show j < Y.length by have:=h.len;omega);obtain⟨a,b,c⟩:=h.at_ j _ _ h1 h2;exact⟨_,_,h1,h2,a,b,c⟩
section
variable{l:List L20fact}{Y:List yz}{m:Int}{s:Nat->Bool}
def outB(l:List L20fact)(m:Int)(i k:Nat):Bool:=match l[k]?,l[i]? with
 | some q,some x=>vp m k&&(vp q.saw i&&(decide (q.e_.cid=x.e_.cid)&&(decide (q.e_.kind=2)||decide (q.e_.field=x.e_.field))))
 | _,_=>false
theorem ywa(h:Fs l Y)(hm:∀ j,vp m j=s j){i k:Nat}(hi:i < l.length)(hk:k < l.length):outB l m i k=true↔s k=true/\Out Y k i:=by
 obtain⟨q,f,h1,h2,h3,h4,h5⟩:=h.get hk;obtain⟨x,g,g1,g2,g3,g4,g5⟩:=h.get hi;unfold outB;rw[h1,g1];simp only[Bool.and_eq_true,Bool.or_eq_true,decide_eq_true_eq,hm,h5,h3,g3]
 constructor
 ·rintro⟨a,b,c⟩;exact⟨a,f,g,h2,g2,b,Xn.2 c⟩
 ·rintro⟨a,f',g',b1,b2,b3,b4⟩;rw[h2] at b1;cases b1;rw[g2] at b2;cases b2;exact⟨a,b3,Xn.1 b4⟩
theorem inner_eq(h:Fs l Y)(hm:Msk m){i:Nat}(hi:i < l.length)(b0:Bool):∃ r,loop (wg l m (i:Int)) (b0,0)=pure r/\(r=true↔b0=true/\∀ k,k < l.length->outB l m i k=false):=by
 have hs:=h.sml;obtain⟨x,hx⟩:∃ x,l[i]?=some x:=⟨_,List.getElem?_eq_getElem hi⟩
 exact G.xea (body:=wg l m (i:Int)) l (fun k (t:Bool)=>(t,(k:Int))) (fun k t=>(t=true↔b0=true/\∀ k',k' < k->outB l m i k'=false)) (fun r=>(r=true↔b0=true/\∀ k,k < l.length->outB l m i k=false))
  (fun k q t hq hk hI=>by
   have hd:decide ((k:Int) < (l.length:Int))=true:=by simpa using hk
   obtain⟨q',f,h1,h2,h3,h4,h5⟩:=h.get hk;rw[hq] at h1;cases h1;have key:wg l m (i:Int) (t,(k:Int))=pure (.next (bif outB l m i k then false else t,((k+1:Nat):Int))):=by
    unfold wg outB;simp only[hd,cond_true,zC (show(0:Int)<=(k:Int) by omega),zC (show(0:Int)<=(i:Int) by omega),vca hm (show k < 64 by omega),vca h4 (show i < 64 by omega),zJ hq,zJ hx,zA,hq,hx,yH (show k < 9223372036854775807 by omega)]
    cases vp m k <;> cases vp q.saw i <;> cases decide (q.e_.cid=x.e_.cid) <;> cases decide (q.e_.kind=2) <;> cases decide (q.e_.field=x.e_.field) <;> rfl
   refine⟨_,key,?_⟩;have hlt:∀ k',k' < k+1↔k' < k\/k'=k:=fun k'=>by omega
   cases ho:outB l m i k with
   | true=>
    simp only[cond_true,Bool.false_eq_true,false_iff,not_and];intro _ hc;have:=hc k (by omega);rw[ho] at this;cases this
   | false=>
    simp only[cond_false];rw[hI];refine and_congr_right fun _=>?_
    constructor
    ·intro hc k' hk';rcases(hlt k').1 hk' with h9 | rfl
     ·exact hc k' h9
     ·exact ho
    ·intro hc k' hk';exact hc k' (by omega))
  (fun t hI=>⟨t,by
   unfold wg;simp,hI⟩) b0 (by simp)
theorem shown_eq(h:Fs l Y)(hm:Msk m)(hb:∀ j,vp m j=s j):∃ r,un l m=pure r/\Msk r/\∀ j,vp r j=true↔Zy Y s j:=by
 have hs:=h.sml;obtain⟨r,e,h1,h2⟩:=G.xea (body:=wh l m) l (fun i (t:Int)=>(t,(i:Int))) (fun i t=>Msk t/\∀ j,vp t j=true↔j < i/\Zy Y s j) (fun r=>Msk r/\∀ j,vp r j=true↔j < l.length/\Zy Y s j)
  (fun i x t hx hi ⟨hI1,hI2⟩=>by
   have hd:decide ((i:Int) < (l.length:Int))=true:=by simpa using hi
   obtain⟨x',f,g1,g2,g3,g4,g5⟩:=h.get hi;rw[hx] at g1;cases g1;obtain⟨r,hr,hr2⟩:=inner_eq h hm hi (vp m i&&decide (x.e_.kind=1));have hsh:r=true↔Zy Y s i:=by
    rw[hr2];simp only[Bool.and_eq_true,decide_eq_true_eq,hb,g3]
    constructor
    ·rintro⟨⟨a,b⟩,c⟩;refine⟨f,g2,a,b,fun j hj ho=>?_⟩;have hjl:j < l.length:=by
      obtain⟨f',_,q1,_⟩:=ho;have:=uM q1;have:=h.len;omega
     have:=c j hjl;rw[(ywa h hb hi hjl).2 ⟨hj,ho⟩] at this;cases this
    ·rintro⟨f',q1,a,b,c⟩;rw[g2] at q1;cases q1;refine⟨⟨a,b⟩,fun k hk=>?_⟩;rw[<- Bool.not_eq_true,ywa h hb hi hk];exact fun⟨q1,q2⟩=>c k q1 q2
   obtain⟨s1,s2⟩:=z3a (show i < 64 by omega);obtain⟨o1,o2⟩:=yva hI1 s1;have key:wh l m (t,(i:Int))=pure (.next (bif r then bOr .u64 t (IntKind.u64.wrap (1*2 ^ (min (Int.toNat (i:Int)) 64))) else t,((i+1:Nat):Int))):=by
    unfold wh;have e1:(cond (vp m i) (pure (decide (x.e_.kind=1))) (pure false):M Bool)=pure (vp m i&&decide (x.e_.kind=1)):=by cases vp m i <;> rfl
    simp only[hd,cond_true,zC (show(0:Int)<=(i:Int) by omega),vca hm (show i < 64 by omega),zJ hx,zA,e1,hr,yH (show i < 9223372036854775807 by omega)]
    cases r <;> rfl
   refine⟨_,key,?_,fun j=>?_⟩
   ·cases r
    ·exact hI1
    ·exact o1
   ·cases hr9:r with
    | false=>
     rw[cond_false,hI2]
     constructor
     ·rintro⟨a,b⟩;exact⟨by omega,b⟩
     ·rintro⟨a,b⟩;refine⟨?_,b⟩
      by_cases hji:j=i
      ·subst hji;rw[<- hsh,hr9] at b;cases b
      ·omega
    | true=>
     rw[cond_true,o2,s2,Bool.or_eq_true,hI2,decide_eq_true_eq]
     constructor
     ·rintro(⟨a,b⟩ | rfl)
      ·exact⟨by omega,b⟩
      ·exact⟨by omega,hsh.1 hr9⟩
     ·rintro⟨a,b⟩
      by_cases hji:j=i
      ·exact .inr hji
      ·exact .inl ⟨by omega,b⟩)
  (fun t hI=>⟨t,by
   unfold wh;simp,hI⟩) 0 ⟨Xq.1,fun j=>by rw[Xq.2];simp⟩
 refine⟨r,?_,h1,fun j=>?_⟩
 ·unfold un;have e':loop (wh l m) (0,0)=pure r:=e;rw[e',zA]
 ·rw[h2]
  constructor
  ·exact fun⟨_,b⟩=>b
  ·rintro⟨f,a,b⟩;exact⟨by have:=uM a;have:=h.len;omega,f,a,b⟩
theorem many_eq(hm:Msk m):YM m=pure (((List.range 64).filter (vp m)).length:Int):=by
 obtain⟨r,e,h1⟩:=G.xea (body:=uo m) (List.range 64) (fun i (t:Int)=>(t,(i:Int))) (fun i t=>t=(((List.range i).filter (vp m)).length:Int)) (fun r=>r=(((List.range 64).filter (vp m)).length:Int))
  (fun i x t hx hi hI=>by
   rw[List.length_range] at hi;have hd:decide ((i:Int) < 64)=true:=decide_eq_true (by omega);have hle:=List.length_filter_le (vp m) (List.range i);rw[List.length_range] at hle;refine⟨(((List.range (i+1)).filter (vp m)).length:Int),?_,?_⟩
   ·unfold uo;simp only[hd,cond_true,zC (show(0:Int)<=(i:Int) by omega),vba hm hi,yH (show i < 9223372036854775807 by omega)];have e1:IntKind.i64.wrap (if vp m i=true then 1 else 0)=if vp m i=true then 1 else 0:=by split <;> rfl
    rw[e1,hI,List.range_succ,List.filter_append,List.length_append];have e2:([i].filter (vp m)).length=if vp m i=true then 1 else 0:=by cases hb:vp m i <;> simp[hb]
    rw[e2]
    congr 3
    rw[Wp (by split <;> omega) (by split <;> omega)]
    split <;> simp
   ·rfl)
  (fun t hI=>⟨t,by
   unfold uo;rw[List.length_range];simp,by rw[List.length_range] at hI;exact hI⟩) 0 (by simp)
 unfold YM;have e':loop (uo m) (0,0)=pure r:=e;rw[e',zA,h1]
end
end Go.Ep.M.T
namespace Go.Ep.M.T
open Go
open E (OkE yJ wn)
open F (uC zw yE vS ZY OkD)
open G (Rep yx yC WB Vs jX xd zr ZG uO WC)
section
variable{l:List L20fact}{Y:List yz}{m:Int}{s:Nat->Bool}
theorem live_in{y:List EV}(hy:y.length<=1000000){i:Nat}{x:L20fact}(hx:l[i]?=some x)(hi:i < 60){t0:Int}(h0:Msk t0) :
  ∃ r,loop (xi y l (i:Int)) (t0,0)=pure r/\Msk r/\∀ j,vp r j=true↔vp t0 j=true\/(j=i/\∃ e∈y,e.dot=x.e_.dot):=by
 obtain⟨s1,s2⟩:=z3a (show i < 64 by omega);obtain⟨r,e,h1,h2⟩:=G.xea (body:=xi y l (i:Int)) y (fun k (t:Int)=>(t,(k:Int))) (fun k t=>Msk t/\∀ j,vp t j=true↔vp t0 j=true\/(j=i/\∃ e∈y.take k,e.dot=x.e_.dot)) (fun r=>Msk r/\∀ j,vp r j=true↔vp t0 j=true\/(j=i/\∃ e∈y,e.dot=x.e_.dot))
  (fun k q t hq hk ⟨hI1,hI2⟩=>by
   have hd:decide ((k:Int) < (y.length:Int))=true:=by simpa using hk
   obtain⟨o1,o2⟩:=yva hI1 s1;have hdq:(decide (x.e_.dot.dev=q.dot.dev)&&decide (x.e_.dot.n=q.dot.n))=decide (q.dot=x.e_.dot):=by
    rw[D.zCa];simp only[eq_comm]
   have hin:∀ P:EV->Prop,(∃ e∈y.take (k+1),P e)↔(∃ e∈y.take k,P e)\/P q:=fun P=>by
    rw[List.take_add_one,hq];simp only[Option.toList_some,List.mem_append,List.mem_singleton]
    constructor
    ·rintro⟨e,h | rfl,h2⟩
     ·exact .inl ⟨e,h,h2⟩
     ·exact .inr h2
    ·rintro(⟨e,h,h2⟩ | h2)
     ·exact⟨e,.inl h,h2⟩
     ·exact⟨q,.inr rfl,h2⟩
   have key:xi y l (i:Int) (t,(k:Int))=pure (.next (bif decide (q.dot=x.e_.dot) then bOr .u64 t (IntKind.u64.wrap (1*2 ^ (min (Int.toNat (i:Int)) 64))) else t,((k+1:Nat):Int))):=by
    unfold xi;simp only[hd,cond_true,zJ hx,zJ hq,zA,hdq,zC (show(0:Int)<=(i:Int) by omega),yH (show k < 9223372036854775807 by omega)]
    cases decide (q.dot=x.e_.dot) <;> rfl
   refine⟨_,key,?_,fun j=>?_⟩
   ·cases decide (q.dot=x.e_.dot)
    ·exact hI1
    ·exact o1
   ·rw[hin]
    by_cases hc:q.dot=x.e_.dot
    ·rw[decide_eq_true hc,cond_true,o2,s2,Bool.or_eq_true,hI2,decide_eq_true_eq]
     constructor
     ·rintro((a | ⟨a,b⟩) | a)
      ·exact .inl a
      ·exact .inr ⟨a,.inl b⟩
      ·exact .inr ⟨a,.inr hc⟩
     ·rintro(a | ⟨a,_⟩)
      ·exact .inl (.inl a)
      ·exact .inr a
    ·rw[decide_eq_false hc,cond_false,hI2];simp[hc])
  (fun t hI=>⟨t,by
   unfold xi;simp,by rw[List.take_length] at hI;exact hI⟩) t0 ⟨h0,fun j=>by simp⟩
 exact⟨r,e,h1,h2⟩
theorem live_eq(h:Fs l Y){y:List EV}(hy:y.length<=1000000):∃ r,loop (vG l y) (0,0)=pure r/\Msk r/\∀ j,vp r j=true↔∃ (f:yz),Y[j]?=some f/\∃ e∈y,e.dot=f.e.dot:=by
 have hs:=h.sml;obtain⟨r,e,h1,h2⟩:=G.xea (body:=vG l y) l (fun i (t:Int)=>(t,(i:Int))) (fun i t=>Msk t/\∀ j,vp t j=true↔j < i/\∃ (f:yz),Y[j]?=some f/\∃ e∈y,e.dot=f.e.dot) (fun r=>Msk r/\∀ j,vp r j=true↔j < l.length/\∃ (f:yz),Y[j]?=some f/\∃ e∈y,e.dot=f.e.dot)
  (fun i x t hx hi ⟨hI1,hI2⟩=>by
   have hd:decide ((i:Int) < (l.length:Int))=true:=by simpa using hi
   obtain⟨x',f,g1,g2,g3,g4,g5⟩:=h.get hi;rw[hx] at g1;cases g1;obtain⟨r,hr,r1,r2⟩:=live_in hy hx (by omega) hI1;refine⟨r,?_,r1,fun j=>?_⟩
   ·unfold vG;simp only[hd,cond_true,hr,zA,yH (show i < 9223372036854775807 by omega)]
   ·rw[r2,hI2,g3]
    constructor
    ·rintro(⟨a,b⟩ | ⟨rfl,b⟩)
     ·exact⟨by omega,b⟩
     ·exact⟨by omega,f,g2,b⟩
    ·rintro⟨a,f',b1,b2⟩
     by_cases hji:j=i
     ·subst hji;rw[g2] at b1;cases b1;exact .inr ⟨rfl,b2⟩
     ·exact .inl ⟨by omega,f',b1,b2⟩)
  (fun t hI=>⟨t,by
   unfold vG;simp,hI⟩) 0 ⟨Xq.1,fun j=>by rw[Xq.2];simp⟩
 refine⟨r,e,h1,fun j=>?_⟩;rw[h2]
 constructor
 ·exact fun⟨_,b⟩=>b
 ·rintro⟨f,a,b⟩;exact⟨by have:=uM a;have:=h.len;omega,f,a,b⟩
end
abbrev Bkt:=List PT×Bool×List (DT×EV)×Bool×List (DT×EV)
def Rk(n:Nat)(W:List PT)(L:List EV)(t:Bkt):Prop:=∃ xc,Rep n W t.1 xc t.2.2.2.1 t.2.2.2.2 t.2.1 t.2.2.1 L
section
variable{Y:List yz}{A:Nat->Prop}{s:Nat->Bool}{n:Nat}{W:List PT}{L:List EV}{t:Bkt}
theorem Rk.okb(h:Rk n W L t):Okb W L:=by
 obtain⟨xc,hR⟩:=h;exact⟨hR.srt,fun e he=>(hR.good e he).1,hR.dots,hR.alive⟩
theorem Bk.wc{W2:List PT}(h:Bk Y A s W L)(hW:∀ k n,C.yb W2 k n=C.yb W k n):Bk Y A s W2 L:={ h with has:=fun k n=>by rw[hW];exact h.has k n }
theorem renorm(h:Bk Y A s W L)(hr:Rk n W L t)(hl:Y.length<=60):Rk 200 (C.zU W) L t:=by
 obtain⟨xc,hR⟩:=hr
 let ds:List DT:=Y.zipIdx.filterMap fun y=>if s y.2=true then some y.1.e.dot else none
 have hds:ds.length<=60:=by
  have:=List.length_filterMap_le (fun y:yz×Nat=>if s y.2=true then some y.1.e.dot else none) Y.zipIdx;rw[List.length_zipIdx] at this;show(Y.zipIdx.filterMap fun y=>if s y.2=true then some y.1.e.dot else none).length<=60;omega
 have hmem:∀ d,d∈ds↔∃ (i:Nat) (f:yz),Y[i]?=some f/\s i=true/\f.e.dot=d:=fun d=>by
  show d∈Y.zipIdx.filterMap _↔_;rw[List.mem_filterMap]
  constructor
  ·rintro⟨y,hy,h1⟩;have:=List.mem_zipIdx_iff_getElem?.1 hy
   by_cases hs:s y.2=true
   ·rw[if_pos hs] at h1;cases h1;exact⟨y.2,y.1,this,hs,rfl⟩
   ·rw[if_neg hs] at h1;cases h1
  ·rintro⟨i,f,h1,h2,h3⟩;exact⟨(f,i),List.mem_zipIdx_iff_getElem?.2 h1,by simp[h2,h3]⟩
 have hhas:∀ k n,C.yb W k n=C.yb (C.yF ds) k n:=fun k n=>by
  rw[Bool.eq_iff_iff,C.qj]
  constructor
  ·intro hw;have hp:=C.wua hw;obtain⟨i,f,h1,h2,h3⟩:=(h.has k n).1 hw;exact⟨⟨k,n⟩,(hmem _).2 ⟨i,f,h1,h2,h3⟩,V.xH.2 ⟨by show 1<=k;omega,hp.2.1,hp.2.2⟩,rfl,rfl⟩
  ·rintro⟨d,h1,_,rfl,rfl⟩;obtain⟨i,f,h2,h3,h4⟩:=(hmem d).1 h1;exact(h.has _ _).2 ⟨i,f,h2,h3,h4⟩
 have e:C.zU W=C.zU (C.yF ds):=C.Qv hhas;have l1:=C.vP (C.yF ds);have l2:=C.vQ (C.yF ds);have l3:=C.vR ds;have l4:=C.Xi ds;have l5:=ja h ⟨hR.srt,fun e he=>(hR.good e he).1,hR.dots,hR.alive⟩;exact⟨xc,{ hR with
  ctx:=by rw[hR.ctx,C.ug (C.yo W)]
  xctx:=fun k n=>by rw[C.zu];exact hR.xctx k n
  dots:=fun d hd=>by rw[C.zu];exact hR.dots d hd
  wl:=by rw[e];omega
  wt:=by rw[e];omega
  ll:=by omega }⟩
end
structure Inv(i:Nat)(fs:List L20fact)(nx st:Nat->Int)(bk:Nat->Bkt)(Y:List yz)(S:Nat->Nat->Bool)(W:Nat->List PT)(L:Nat->List EV):Prop where
 st_:St Y S W L
 fs_:Fs fs Y
 len:Y.length<=i
 m:∀ k,k < 3->Msk (st k)/\∀ j,vp (st k) j=S k j
 nx_:∀ k,k < 3->0<=nx k/\nx k<=i/\∀ (j:Nat) (f:yz),Y[j]?=some f->f.e.dot.dev=(k:Int)+1->f.e.dot.n<=nx k
 rk:∀ k,k < 3->Rk 200 (W k) (L k) (bk k)
theorem St.wc{Y:List yz}{S:Nat->Nat->Bool}{W W2:Nat->List PT}{L:Nat->List EV}(h:St Y S W L)(hW:∀ q k n,C.yb (W2 q) k n=C.yb (W q) k n):St Y S W2 L:=
 ⟨h.facts,h.tr,fun k hk=>(h.bk k hk).wc (hW k)⟩
theorem yxa{W:Nat->List PT}{w:Nat}{V:List PT}:∀ q k n,C.yb (upd W w (C.zU V) q) k n=C.yb (upd W w V q) k n:=fun q k n=>by
 by_cases e:q=w
 ·subst e;rw[zF,zF,C.zu]
 ·rw[yA _ _ e,yA _ _ e]
section
variable{i:Nat}{fs:List L20fact}{nx st:Nat->Int}{bk:Nat->Bkt}{Y:List yz}{S:Nat->Nat->Bool}{W:Nat->List PT}{L:Nat->List EV}{w v:Nat}{e:EV}
theorem jb(h:Inv i fs nx st bk Y S W L)(hi:i < 40)(hw:w < 3)(hd1:e.dot.dev=(w:Int)+1)(hd2:e.dot.n=nx w+1)(hk:e.kind=1\/e.kind=2)(hb:e.kills=[])(hg:yJ e=true)(oe:OkE e){nv mv:Int}(hnv:nv=nx w+1)(hmv:Msk mv/\∀ j,vp mv j=(vp (st w) j||decide (j=fs.length))) :
  ∃ t':Bkt,yg e (bk w).1 (bk w).2.2.2.1 (bk w).2.2.2.2 (bk w).2.1 (bk w).2.2.1=pure (full (XJ (L w) (S w) e),0) /\
   zj (full (XJ (L w) (S w) e)) (bk w).1 (bk w).2.2.2.1 (bk w).2.2.2.2 (bk w).2.1 (bk w).2.2.1=pure (0,t'.1,t'.2.2.2.1,t'.2.2.2.2,t'.2.1,t'.2.2.1) /\
   ∃ Y2 S2 W2 L2,Inv (i+1) (fs++[⟨e,st w⟩]) (upd nx w nv) (upd st w mv) (upd bk w t') Y2 S2 W2 L2:=by
 have hl:=h.len;have hF:=h.st_.facts;have hB:=h.st_.bk w hw;have hnew:∀ (j:Nat) (f:yz),Y[j]?=some f->f.e.dot≠e.dot:=fun j f hj he=>by
  have:=(h.nx_ w hw).2.2 j f hj (by rw[he,hd1]);rw[he,hd2] at this;omega
 obtain⟨xc,hR⟩:=h.rk w hw;have ho:=(h.rk w hw).okb;obtain⟨m1,m2⟩:=vaa hF hB hk hb hg (by omega) hnew;have gf:=vZa hF hB ho hk hg (by omega) hnew;have okx:OkE (full (XJ (L w) (S w) e)):=by have:=G.make_ok hR oe;rw[m2] at this;exact this
 have hmk:=(hR.make (by omega) oe).1;rw[m2] at hmk;obtain⟨c',xc',a,p,b,q,p1,_,R2⟩:=hR.put (by omega) okx gf m1;have hS:=h.st_.make hw ho hk hb (G.VB hg) hnew;have hB2:=hS.bk w hw;rw[zF,zF,zF] at hB2;have hrn:=renorm (t:=(c',b,q,a,p)) hB2 ⟨xc',R2⟩ (by simp;omega);refine⟨(c',b,q,a,p),hmk,p1,_,_,upd W w (C.zU (W w++C.yF (yE [full (XJ (L w) (S w) e)]))),_,hS.wc yxa,⟨?_,?_,fun j q f hq hf=>?_⟩,by simp;omega,fun k hk3=>?_,fun k hk3=>?_,fun k hk3=>?_⟩
 ·simp[h.fs_.len]
 ·have:=h.fs_.len;simp;omega
 ·rw[List.getElem?_append] at hq;have hlen:=h.fs_.len;rcases zP.1 hf with hf | ⟨rfl,rfl⟩
  ·have:=uM hf;rw[if_pos (by omega)] at hq;exact h.fs_.at_ j q f hq hf
  ·rw[if_neg (by omega),hlen,Nat.sub_self] at hq
   cases hq
   exact⟨rfl,(h.m w hw).1,(h.m w hw).2⟩
 ·by_cases e1:k=w
  ·subst e1;rw[zF,zF];refine⟨hmv.1,fun j=>?_⟩;rw[hmv.2,(h.m k hw).2,h.fs_.len]
  ·rw[yA _ _ e1,yA _ _ e1];exact h.m k hk3
 ·obtain⟨n1,n2,n3⟩:=h.nx_ k hk3
  by_cases e1:k=w
  ·subst e1;rw[zF,hnv];refine⟨by omega,by omega,fun j f hf hd=>?_⟩;rcases zP.1 hf with hf | ⟨rfl,rfl⟩
   ·have:=n3 j f hf hd;omega
   ·show e.dot.n<=_;omega
  ·rw[yA _ _ e1];refine⟨by omega,by omega,fun j f hf hd=>?_⟩;rcases zP.1 hf with hf | ⟨rfl,rfl⟩
   ·exact n3 j f hf hd
   ·have hd':e.dot.dev=(k:Int)+1:=hd;rw[hd1] at hd';omega
 ·by_cases e1:k=w
  ·subst e1;rw[zF,zF,zF];exact hrn
  ·rw[yA _ _ e1,yA _ _ e1,yA _ _ e1];exact h.rk k hk3
theorem vV(h:Inv i fs nx st bk Y S W L)(hi:i < 40)(hw:w < 3)(hv:v < 3):∃ (c:List PT) (d:DL) (t':Bkt),
  zH (bk v).1 (bk v).2.2.2.1 (bk v).2.2.2.2 (bk v).2.1 (bk v).2.2.1=pure c /\
  zt c (bk w).1 (bk w).2.2.2.1 (bk w).2.2.2.2 (bk w).2.1 (bk w).2.2.1=pure d /\
  ze d (bk v).1 (bk v).2.2.2.1 (bk v).2.2.2.2 (bk v).2.1 (bk v).2.2.1=pure (0,t'.1,t'.2.2.2.1,t'.2.2.2.2,t'.2.1,t'.2.2.1) /\
  ∃ W2 L2,Inv (i+1) fs nx (upd st v (bOr .u64 (st v) (st w))) (upd bk v t') Y (upd S v fun j=>S v j||S w j) W2 L2:=by
 have hl:=h.len;have hF:=h.st_.facts;obtain⟨xv,hRv⟩:=h.rk v hv;obtain⟨xw,hRw⟩:=h.rk w hw;have ho:=(h.rk w hw).okb;have b1:=hRv.wl;have b2:=hRv.wt;have b3:=hRw.wl;have b4:=hRw.wt;have n1:=C.vP (W v);have n2:=C.vQ (W v);have n3:=C.vP (W w);have n4:=C.vQ (W w);have hok:C.Ok (C.zU (W v)):=G.ZZ (by omega) (by omega);have e1:=hRv.Ctx (by omega);have e2:=hRw.Since (by omega) hok;have od:=hRw.okSince (by omega) (y:=C.zU (W v)) ⟨by omega,by omega⟩;obtain⟨a1,a2⟩:=xia (Lv:=L v) (Wv:=W v) hF (h.st_.bk w hw) ho (by omega);have hel:=ja (h.st_.bk w hw) ho;have hev:(ZG (W w) (L w) (C.zU (W v))).events.length<=60:=by
  have:=List.length_filter_le (fun x=>!zr (C.zU (W v)) x) (L w);show((L w).filter fun x=>!zr (C.zU (W v)) x).length<=60;omega
 obtain⟨c',xc',a,p,b,q,p1,R2⟩:=hRv.ApplyP od (j:=400) ⟨by show(C.zU (W w)).length<=400;omega,by show C.uB (C.zU (W w))<=400;omega⟩ (by omega);rw[a1] at p1;rw[a2] at R2;have hS:=h.st_.tell hw hv ho;have hB2:=hS.bk v hv;rw[zF,zF,zF] at hB2;have hrn:=renorm (t:=(c',b,q,a,p)) hB2 ⟨xc',R2⟩ (by omega);refine⟨_,_,(c',b,q,a,p),e1,e2,p1,upd W v (C.zU (((L w).filter fun x=>!zr (C.zU (W v)) x).foldl Vs (W v,L v) |>.1 |> (·++C.zU (W w)))),_,hS.wc yxa,h.fs_,by omega,fun k hk3=>?_,fun k hk3=>?_,fun k hk3=>?_⟩
 ·by_cases e1:k=v
  ·subst e1;rw[zF,zF];obtain⟨o1,o2⟩:=yva (h.m k hk3).1 (h.m w hw).1;exact⟨o1,fun j=>by rw[o2,(h.m k hk3).2,(h.m w hw).2]⟩
  ·rw[yA _ _ e1,yA _ _ e1];exact h.m k hk3
 ·obtain⟨n1,n2,n3⟩:=h.nx_ k hk3;exact⟨n1,by omega,n3⟩
 ·by_cases e1:k=v
  ·subst e1;rw[zF,zF,zF];exact hrn
  ·rw[yA _ _ e1,yA _ _ e1,yA _ _ e1];exact h.rk k hk3
theorem Ve(h:Inv i fs nx st bk Y S W L)(hi:i < 40)(hw:w < 3):∃ (c0 c1 c2 y1 y2:List PT) (k:Int) (t':Bkt),
  zH (bk 0).1 (bk 0).2.2.2.1 (bk 0).2.2.2.2 (bk 0).2.1 (bk 0).2.2.1=pure c0/\zH (bk 1).1 (bk 1).2.2.2.1 (bk 1).2.2.2.2 (bk 1).2.1 (bk 1).2.2.1=pure c1/\zH (bk 2).1 (bk 2).2.2.2.1 (bk 2).2.2.2.2 (bk 2).2.1 (bk 2).2.2.1=pure c2 /\
  vE c0 c1=pure y1/\vE y1 c2=pure y2 /\
  yW y2 (bk w).1 (bk w).2.2.2.1 (bk w).2.2.2.2 (bk w).2.1 (bk w).2.2.1=pure (k,t'.2.2.2.1,t'.2.2.2.2,t'.2.1,t'.2.2.1)/\t'.1=(bk w).1 /\
  ∃ L2,Inv (i+1) fs nx st (upd bk w t') Y S W L2:=by
 have hl:=h.len;have hF:=h.st_.facts;obtain⟨x0,R0⟩:=h.rk 0 (by omega);obtain⟨x1,R1⟩:=h.rk 1 (by omega);obtain⟨x2,R2⟩:=h.rk 2 (by omega);obtain⟨xw,hRw⟩:=h.rk w hw;have sm:∀ {q9:List PT},q9.length<=200->C.uB q9<=200->C.Ok (C.zU q9)/\(C.zU q9).length<=200/\C.uB (C.zU q9)<=400:=fun {q9} h1 h2=>by
  have:=C.vP q9;have:=C.vQ q9;exact⟨G.ZZ (by omega) (by omega),by omega,by omega⟩
 obtain⟨o0,l0,t0⟩:=sm R0.wl R0.wt;obtain⟨o1,l1,t1⟩:=sm R1.wl R1.wt;obtain⟨o2,l2,t2⟩:=sm R2.wl R2.wt;have om:=C.zta (op:=(·&&·)) rfl (a:=C.zU (W 0)) (b:=C.zU (W 1)) ⟨by omega,by omega⟩ ⟨by omega,by omega⟩;have lm:=C.wma (·&&·) (C.zU (W 0)) (C.zU (W 1));have tm:=C.woa (op:=(·&&·)) rfl (C.zU (W 0)) (C.zU (W 1));have om2:=C.zta (op:=(·&&·)) rfl (a:=C.opC (·&&·) (C.zU (W 0)) (C.zU (W 1))) (b:=C.zU (W 2)) ⟨by omega,by omega⟩ ⟨by omega,by omega⟩;obtain⟨k,a,p,b,q,p1,_,R3,_⟩:=hRw.prune (by omega) om2;have hS:=h.st_.prune hw (y:=C.opC (·&&·) (C.opC (·&&·) (C.zU (W 0)) (C.zU (W 1))) (C.zU (W 2))) fun k n=>by
  rw[C.xx rfl,C.xx rfl,C.zu,C.zu,C.zu,Bool.and_assoc]
 refine⟨_,_,_,_,_,k,((bk w).1,b,q,a,p),R0.Ctx (by omega),R1.Ctx (by omega),R2.Ctx (by omega),C.yla _ _ o0 o1,C.yla _ _ om o2,p1,rfl,_,hS,h.fs_,by omega,h.m,fun k hk3=>?_,fun k hk3=>?_⟩
 ·obtain⟨n1,n2,n3⟩:=h.nx_ k hk3;exact⟨n1,by omega,n3⟩
 ·by_cases e1:k=w
  ·subst e1;rw[zF,zF];exact⟨xw,R3⟩
  ·rw[yA _ _ e1,yA _ _ e1];exact h.rk k hk3
theorem Vf(h:Inv i fs nx st bk Y S W L)(hi:i<=40){k:Nat}(hk:k < 3):∃ (r:Int) (y:List EV),
  un fs (st k)=pure r/\uf fs (bk k).1 (bk k).2.2.2.1 (bk k).2.2.2.2 (bk k).2.1 (bk k).2.2.1=pure r/\zZ (bk k).1 (bk k).2.2.2.1 (bk k).2.2.2.2 (bk k).2.1 (bk k).2.2.1=pure y/\YM r=pure (y.length:Int):=by
 have hl:=h.len;have hF:=h.st_.facts;obtain⟨xc,hR⟩:=h.rk k hk;have ho:=(h.rk k hk).okb;obtain⟨r,e1,r1,r2⟩:=shown_eq h.fs_ (h.m k hk).1 (h.m k hk).2;have hlen:=G.Xm (L k);have hll:=hR.ll;obtain⟨q,e2,q1,q2⟩:=live_eq h.fs_ (y:=yx (L k)) (by omega);have hq:q=r:=msk_ext q1 r1 fun j=>by
  rw[Bool.eq_iff_iff,q2,r2]
  constructor
  ·rintro⟨f,a,b⟩;exact(US hF (h.st_.bk k hk) a).1 b
  ·rintro hs;obtain⟨f,a,_⟩:=id hs;exact⟨f,a,(US hF (h.st_.bk k hk) a).2 hs⟩
 have e3:=hR.Live (by omega);refine⟨r,_,e1,?_,e3,?_⟩
 ·unfold uf;rw[e3,zB,zA,e2,zA,hq]
 ·rw[many_eq r1,Xm hF (h.st_.bk k hk) ho (n:=64) (by omega) r2]
end
end Go.Ep.M.T
namespace Go.Ep.M.T
open Go
open E (OkE yJ wn)
open F (uC zw yE vS ZY OkD)
open G (Rep yx yC WB Vs jX xd zr ZG uO WC)
theorem bindE{α β:Type}{m:M α}{f:α->M β}{Q:α->Prop}{R:β->Prop}(h:∃ a,m=pure a/\Q a)(k:∀ a,Q a->∃ b,f a=pure b/\R b):∃ b,m.bind f=pure b/\R b:=by
 obtain⟨a,rfl,h⟩:=h;rw[zA];exact k a h
structure vda(x:L20Deed):Prop where
 kind:0<=x.kind/\x.kind<=255
 who:0<=x.who/\x.who<=255
 whom:0<=x.whom/\x.whom<=255
 cid:0<=x.cid/\x.cid<=255
 field:0<=x.field/\x.field<=255
theorem rem3{n:Int}(h:0<=n/\n<=100000):(IntKind.i64.wrap (Int.tmod n 3)=0\/IntKind.i64.wrap (Int.tmod n 3)=1\/IntKind.i64.wrap (Int.tmod n 3)=2)/\(IntKind.u64.wrap (Int.tmod n 3)=0\/IntKind.u64.wrap (Int.tmod n 3)=1\/IntKind.u64.wrap (Int.tmod n 3)=2):=by
 rw[Int.tmod_eq_emod_of_nonneg h.1,Wp (by omega) (by omega),qK (by omega) (by omega)];exact⟨by omega,by omega⟩
def VE(dev n kd cid fl:Int):EV:=⟨⟨IntKind.u16.wrap dev,IntKind.u64.wrap (n+1)⟩,kd,IntKind.u64.wrap (281474976710657+IntKind.u64.wrap (Int.tmod cid 3)),fl,⟨#[]⟩,[]⟩
theorem jc{dev n kd cid fl:Int}(hdev:1<=dev/\dev<=3)(hn:0<=n/\n<=1000)(hc:0<=cid/\cid<=255)(hk:(kd=1/\(fl=1\/fl=2))\/(kd=2/\fl=0)) :
  (VE dev n kd cid fl).dot.dev=dev/\(VE dev n kd cid fl).dot.n=n+1/\yJ (VE dev n kd cid fl)=true/\OkE (VE dev n kd cid fl):=by
 have d1:IntKind.u16.wrap dev=dev:=wU16 (by omega) (by omega);have d2:IntKind.u64.wrap (n+1)=n+1:=qK (by omega) (by omega);have d3:∃ r,IntKind.u64.wrap (281474976710657+IntKind.u64.wrap (Int.tmod cid 3))=281474976710657+r/\0<=r/\r<=2:=by
  have:=(rem3 (n:=cid) ⟨hc.1,by omega⟩).2;refine⟨IntKind.u64.wrap (Int.tmod cid 3),qK (by omega) (by omega),by omega,by omega⟩
 obtain⟨r,d3,r0,r1⟩:=d3;unfold VE;rw[d1,d2,d3];refine⟨rfl,rfl,?_,⟨by show 0<=dev;omega,by show dev<=65535;omega,by show 0<=n+1;omega,by show n+1<=_;omega⟩,by show 0<=kd/\kd<=255;omega,by show 0<=281474976710657+r/\281474976710657+r<=18446744073709551615;omega,by show 0<=fl/\fl<=255;omega,by show(⟨#[]⟩:ByteArray).size<=1000000000;decide,(fun d hd=>nomatch hd),Nat.zero_le _⟩;unfold yJ;rw[Bool.and_eq_true,Bool.and_eq_true,Bool.and_eq_true];refine⟨⟨?_,?_⟩,?_,rfl⟩
 ·refine V.xH.2 ⟨?_,?_,?_⟩
  ·show 1<=(281474976710657+r) / 281474976710656;omega
  ·show 1<=(281474976710657+r) % 281474976710656;omega
  ·show(281474976710657+r) % 281474976710656<=_;omega
 ·exact V.xH.2 ⟨by show 1<=dev;omega,by show 1<=n+1;omega,by show n+1<=_;omega⟩
 ·have ht:E.QA ⟨#[]⟩=true:=by decide
  have hn:E.zJa ⟨#[]⟩=true:=by decide
  unfold E.vIa;show((decide (kd=1)&&(E.zIa fl&&E.QA ⟨#[]⟩))||(decide (kd=2)&&(decide (fl=0)&&E.zJa ⟨#[]⟩)))=true;rw[ht,hn];rcases hk with⟨rfl,rfl | rfl⟩ | ⟨rfl,rfl⟩ <;> decide
theorem deed_kf(x:L20Deed)(hx:vda x):∃ kd fl:Int,(cond (decide (x.kind=2)) (pure ((2:Int),(0:Int))) (pure ((1:Int),IntKind.u8.wrap (1+Int.tmod x.field 2))):M (Int×Int))=pure (kd,fl)/\((kd=1/\(fl=1\/fl=2))\/(kd=2/\fl=0)):=by
 by_cases h:x.kind=2
 ·exact⟨2,0,by rw[decide_eq_true h];rfl,.inr ⟨rfl,rfl⟩⟩
 ·refine⟨1,IntKind.u8.wrap (1+Int.tmod x.field 2),by rw[decide_eq_false h];rfl,.inl ⟨rfl,?_⟩⟩;have:=hx.field;rw[Int.tmod_eq_emod_of_nonneg this.1,wU8 (by omega) (by omega)];omega
theorem QG{fs:List L20fact}(h:fs.length<=60){m:Int}(hm:Msk m)(q:L20fact):Msk (bOr .u64 m (IntKind.u64.wrap (1*2 ^ (min (Int.toNat (IntKind.i64.wrap (((fs++[q]).length:Int) - 1))) 64)))) /\
  ∀ j,vp (bOr .u64 m (IntKind.u64.wrap (1*2 ^ (min (Int.toNat (IntKind.i64.wrap (((fs++[q]).length:Int) - 1))) 64)))) j=(vp m j||decide (j=fs.length)):=by
 have e:IntKind.i64.wrap (((fs++[q]).length:Int) - 1)=((fs.length:Nat):Int):=by rw[List.length_append,List.length_singleton,Wp (by omega) (by omega)];omega
 rw[e];obtain⟨s1,s2⟩:=z3a (show fs.length < 64 by omega);obtain⟨o1,o2⟩:=yva hm s1;exact⟨o1,fun j=>by rw[o2,s2]⟩
abbrev Tr_:=List L20fact×(Nat->Int)×(Nat->Int)×(Nat->Bkt)
abbrev To_:=List L20fact×Int×Int×Int×Int×Int×Int×List PT×Bool×(List (DT×EV))×Bool×(List (DT×EV))×List PT×Bool×(List (DT×EV))×Bool×(List (DT×EV))×List PT×Bool×(List (DT×EV))×Bool×(List (DT×EV))
def xja(t:Tr_):To_:=(t.1,t.2.1 0,t.2.1 1,t.2.1 2,t.2.2.1 0,t.2.2.1 1,t.2.2.1 2,(t.2.2.2 2).1,(t.2.2.2 2).2.1,(t.2.2.2 2).2.2.1,(t.2.2.2 2).2.2.2.1,(t.2.2.2 2).2.2.2.2,(t.2.2.2 1).1,(t.2.2.2 1).2.1,(t.2.2.2 1).2.2.1,(t.2.2.2 1).2.2.2.1,(t.2.2.2 1).2.2.2.2,(t.2.2.2 0).1,(t.2.2.2 0).2.1,(t.2.2.2 0).2.2.1,(t.2.2.2 0).2.2.2.1,(t.2.2.2 0).2.2.2.2)
def InvE(i:Nat)(t:Tr_):Prop:=∃ Y S W L,Inv i t.1 t.2.1 t.2.2.1 t.2.2.2 Y S W L
theorem xka(l:List L20Deed)(hl:l.length<=40){i:Nat}{x:L20Deed}(hx:l[i]?=some x)(hi:i < l.length)(hin:vda x)(t:Tr_)(h:InvE i t):∃ t',yX l ((i:Int),xja t)=pure (.next (((i+1:Nat):Int),xja t'))/\InvE (i+1) t':=by
 obtain⟨fs,nx,st,bk⟩:=t;obtain⟨Y,S,W,L,h⟩:=h;have hi40:i < 40:=by omega
 have hlen:fs.length<=40:=by have h1:=h.fs_.len;have h2:=h.len;have e1:(fs,nx,st,bk).1.length=Y.length:=h1;have e2:(fs,nx,st,bk).1.length=fs.length:=rfl;omega
 have hwho:=(rem3 (n:=x.who) ⟨hin.who.1,by have:=hin.who.2;omega⟩).1;have hwhom:=(rem3 (n:=x.whom) ⟨hin.whom.1,by have:=hin.whom.2;omega⟩).1;have hdl:decide ((i:Int) < (l.length:Int))=true:=by simpa using hi
 suffices main:∃ z,yX l ((i:Int),xja (fs,nx,st,bk))=pure z/\∃ t',z=.next (((i+1:Nat):Int),xja t')/\InvE (i+1) t' by
  obtain⟨z,h1,t',rfl,h2⟩:=main;exact⟨t',h1,h2⟩
 unfold yX xja;dsimp only;rw[hdl,cond_true,zJ hx,zA];refine bindE (Q:=fun z=>∃ t',z=.brk (xja t')/\InvE (i+1) t') ?_ ?_
 ·refine bindE (Q:=fun z=>∃ t',z=.brk (xja t')/\InvE (i+1) t') ?_ ?_
  ·by_cases k3:x.kind=0\/x.kind=1\/x.kind=2
   ·have hK:(cond (decide (x.kind=0)) (pure (decide (x.kind=0))) (cond (decide (x.kind=1)) (pure (decide (x.kind=1))) (pure (decide (x.kind=2)))):M Bool)=pure true:=by rcases k3 with e | e | e <;> simp[e]
    rw[hK,zA,cond_true];obtain⟨kd,fl,hkf,hkf2⟩:=deed_kf x hin;rcases hwho with hw | hw | hw
    ·rw[hw];simp only[Int.reduceEq,decide_true,decide_false,cond_true,cond_false,zC];rw[hkf,zA];dsimp only;obtain⟨n1,n2,_⟩:=h.nx_ 0 (by omega);dsimp only at n1 n2;obtain⟨g1,g2,g3,g4⟩:=jc (dev:=1) (n:=nx 0) (kd:=kd) (cid:=x.cid) (fl:=fl) (by omega) ⟨n1,by omega⟩ hin.cid hkf2;obtain⟨t',e1,e2,hI⟩:=jb h hi40 (w:=0) (e:=VE 1 (nx 0) kd x.cid fl) (by omega) g1 g2 (by show kd=1\/kd=2;omega) rfl g3 g4 (nv:=IntKind.u64.wrap (nx 0+1)) (qK (by omega) (by omega)) (QG (by show fs.length<=60;omega) (h.m 0 (by omega)).1 ⟨VE 1 (nx 0) kd x.cid fl,st 0⟩);unfold VE at e1 e2 hI;dsimp only at e1 e2 hI;rw[e1,zB,zA];simp only[decide_true,Bool.not_true,cond_false];rw[e2,zB,zA,zA];simp only[decide_true,Bool.not_true,cond_false];rw[zC (by simp;omega),zC (by rw[List.length_append,List.length_singleton,Wp (by omega) (by omega)];omega)];exact⟨_,rfl,(_,upd nx 0 _,upd st 0 _,upd bk 0 t'),rfl,hI⟩
    ·rw[hw];simp only[Int.reduceEq,decide_true,decide_false,cond_true,cond_false,zC];rw[hkf,zA];dsimp only;obtain⟨n1,n2,_⟩:=h.nx_ 1 (by omega);dsimp only at n1 n2;obtain⟨g1,g2,g3,g4⟩:=jc (dev:=2) (n:=nx 1) (kd:=kd) (cid:=x.cid) (fl:=fl) (by omega) ⟨n1,by omega⟩ hin.cid hkf2;obtain⟨t',e1,e2,hI⟩:=jb h hi40 (w:=1) (e:=VE 2 (nx 1) kd x.cid fl) (by omega) g1 g2 (by show kd=1\/kd=2;omega) rfl g3 g4 (nv:=IntKind.u64.wrap (nx 1+1)) (qK (by omega) (by omega)) (QG (by show fs.length<=60;omega) (h.m 1 (by omega)).1 ⟨VE 2 (nx 1) kd x.cid fl,st 1⟩);unfold VE at e1 e2 hI;dsimp only at e1 e2 hI;rw[e1,zB,zA];simp only[decide_true,Bool.not_true,cond_false];rw[e2,zB,zA,zA];simp only[decide_true,Bool.not_true,cond_false];rw[zC (by simp;omega),zC (by rw[List.length_append,List.length_singleton,Wp (by omega) (by omega)];omega)];exact⟨_,rfl,(_,upd nx 1 _,upd st 1 _,upd bk 1 t'),rfl,hI⟩
    ·rw[hw];simp only[Int.reduceEq,decide_true,decide_false,cond_true,cond_false,zC];rw[hkf,zA];dsimp only;obtain⟨n1,n2,_⟩:=h.nx_ 2 (by omega);dsimp only at n1 n2;obtain⟨g1,g2,g3,g4⟩:=jc (dev:=3) (n:=nx 2) (kd:=kd) (cid:=x.cid) (fl:=fl) (by omega) ⟨n1,by omega⟩ hin.cid hkf2;obtain⟨t',e1,e2,hI⟩:=jb h hi40 (w:=2) (e:=VE 3 (nx 2) kd x.cid fl) (by omega) g1 g2 (by show kd=1\/kd=2;omega) rfl g3 g4 (nv:=IntKind.u64.wrap (nx 2+1)) (qK (by omega) (by omega)) (QG (by show fs.length<=60;omega) (h.m 2 (by omega)).1 ⟨VE 3 (nx 2) kd x.cid fl,st 2⟩);unfold VE at e1 e2 hI;dsimp only at e1 e2 hI;rw[e1,zB,zA];simp only[decide_true,Bool.not_true,cond_false];rw[e2,zB,zA,zA];simp only[decide_true,Bool.not_true,cond_false];rw[zC (by simp;omega),zC (by rw[List.length_append,List.length_singleton,Wp (by omega) (by omega)];omega)];exact⟨_,rfl,(_,upd nx 2 _,upd st 2 _,upd bk 2 t'),rfl,hI⟩
   ·have hK:(cond (decide (x.kind=0)) (pure (decide (x.kind=0))) (cond (decide (x.kind=1)) (pure (decide (x.kind=1))) (pure (decide (x.kind=2)))):M Bool)=pure false:=by
     have a0:¬ x.kind=0:=fun e=>k3 (.inl e)
     have a1:¬ x.kind=1:=fun e=>k3 (.inr (.inl e))
     have a2:¬ x.kind=2:=fun e=>k3 (.inr (.inr e))
     simp[a0,a1,a2]
    rw[hK,zA,cond_false]
    by_cases kt:x.kind=3
    ·rw[decide_eq_true kt,cond_true];rcases hwhom with hv | hv | hv <;> rcases hwho with hw | hw | hw
     ·rw[hv,hw];simp only[Int.reduceEq,decide_true,decide_false,cond_true,cond_false,zC];obtain⟨c,d,t',e1,e2,e3,W2,L2,hI⟩:=vV h hi40 (w:=0) (v:=0) (by omega) (by omega);rw[e1,zB,zA,e2,zB,zA,e3,zB,zA];simp only[decide_true,Bool.not_true,cond_false];exact⟨_,rfl,(fs,nx,upd st 0 _,upd bk 0 t'),rfl,Y,_,W2,L2,hI⟩
     ·rw[hv,hw];simp only[Int.reduceEq,decide_true,decide_false,cond_true,cond_false,zC];obtain⟨c,d,t',e1,e2,e3,W2,L2,hI⟩:=vV h hi40 (w:=1) (v:=0) (by omega) (by omega);rw[e1,zB,zA,e2,zB,zA,e3,zB,zA];simp only[decide_true,Bool.not_true,cond_false];exact⟨_,rfl,(fs,nx,upd st 0 _,upd bk 0 t'),rfl,Y,_,W2,L2,hI⟩
     ·rw[hv,hw];simp only[Int.reduceEq,decide_true,decide_false,cond_true,cond_false,zC];obtain⟨c,d,t',e1,e2,e3,W2,L2,hI⟩:=vV h hi40 (w:=2) (v:=0) (by omega) (by omega);rw[e1,zB,zA,e2,zB,zA,e3,zB,zA];simp only[decide_true,Bool.not_true,cond_false];exact⟨_,rfl,(fs,nx,upd st 0 _,upd bk 0 t'),rfl,Y,_,W2,L2,hI⟩
     ·rw[hv,hw];simp only[Int.reduceEq,decide_true,decide_false,cond_true,cond_false,zC];obtain⟨c,d,t',e1,e2,e3,W2,L2,hI⟩:=vV h hi40 (w:=0) (v:=1) (by omega) (by omega);rw[e1,zB,zA,e2,zB,zA,e3,zB,zA];simp only[decide_true,Bool.not_true,cond_false];exact⟨_,rfl,(fs,nx,upd st 1 _,upd bk 1 t'),rfl,Y,_,W2,L2,hI⟩
     ·rw[hv,hw];simp only[Int.reduceEq,decide_true,decide_false,cond_true,cond_false,zC];obtain⟨c,d,t',e1,e2,e3,W2,L2,hI⟩:=vV h hi40 (w:=1) (v:=1) (by omega) (by omega);rw[e1,zB,zA,e2,zB,zA,e3,zB,zA];simp only[decide_true,Bool.not_true,cond_false];exact⟨_,rfl,(fs,nx,upd st 1 _,upd bk 1 t'),rfl,Y,_,W2,L2,hI⟩
     ·rw[hv,hw];simp only[Int.reduceEq,decide_true,decide_false,cond_true,cond_false,zC];obtain⟨c,d,t',e1,e2,e3,W2,L2,hI⟩:=vV h hi40 (w:=2) (v:=1) (by omega) (by omega);rw[e1,zB,zA,e2,zB,zA,e3,zB,zA];simp only[decide_true,Bool.not_true,cond_false];exact⟨_,rfl,(fs,nx,upd st 1 _,upd bk 1 t'),rfl,Y,_,W2,L2,hI⟩
     ·rw[hv,hw];simp only[Int.reduceEq,decide_true,decide_false,cond_true,cond_false,zC];obtain⟨c,d,t',e1,e2,e3,W2,L2,hI⟩:=vV h hi40 (w:=0) (v:=2) (by omega) (by omega);rw[e1,zB,zA,e2,zB,zA,e3,zB,zA];simp only[decide_true,Bool.not_true,cond_false];exact⟨_,rfl,(fs,nx,upd st 2 _,upd bk 2 t'),rfl,Y,_,W2,L2,hI⟩
     ·rw[hv,hw];simp only[Int.reduceEq,decide_true,decide_false,cond_true,cond_false,zC];obtain⟨c,d,t',e1,e2,e3,W2,L2,hI⟩:=vV h hi40 (w:=1) (v:=2) (by omega) (by omega);rw[e1,zB,zA,e2,zB,zA,e3,zB,zA];simp only[decide_true,Bool.not_true,cond_false];exact⟨_,rfl,(fs,nx,upd st 2 _,upd bk 2 t'),rfl,Y,_,W2,L2,hI⟩
     ·rw[hv,hw];simp only[Int.reduceEq,decide_true,decide_false,cond_true,cond_false,zC];obtain⟨c,d,t',e1,e2,e3,W2,L2,hI⟩:=vV h hi40 (w:=2) (v:=2) (by omega) (by omega);rw[e1,zB,zA,e2,zB,zA,e3,zB,zA];simp only[decide_true,Bool.not_true,cond_false];exact⟨_,rfl,(fs,nx,upd st 2 _,upd bk 2 t'),rfl,Y,_,W2,L2,hI⟩
    ·rw[decide_eq_false kt,cond_false];rcases hwho with hw | hw | hw
     ·rw[hw];simp only[Int.reduceEq,decide_true,decide_false,cond_true,cond_false,zC];obtain⟨c0,c1,c2,y1,y2,k,t',e0,e1,e2,e3,e4,e5,e6,L2,hI⟩:=Ve h hi40 (w:=0) (by omega);rw[e0,zB,zA,e1,zB,zA,e3,zB,zA,e2,zB,zA,e4,zB,zA,e5,zB,zA];exact⟨_,rfl,(fs,nx,st,upd bk 0 t'),by unfold xja;dsimp only;rw[<- e6];rfl,Y,S,W,L2,hI⟩
     ·rw[hw];simp only[Int.reduceEq,decide_true,decide_false,cond_true,cond_false,zC];obtain⟨c0,c1,c2,y1,y2,k,t',e0,e1,e2,e3,e4,e5,e6,L2,hI⟩:=Ve h hi40 (w:=1) (by omega);rw[e0,zB,zA,e1,zB,zA,e3,zB,zA,e2,zB,zA,e4,zB,zA,e5,zB,zA];exact⟨_,rfl,(fs,nx,st,upd bk 1 t'),by unfold xja;dsimp only;rw[<- e6];rfl,Y,S,W,L2,hI⟩
     ·rw[hw];simp only[Int.reduceEq,decide_true,decide_false,cond_true,cond_false,zC];obtain⟨c0,c1,c2,y1,y2,k,t',e0,e1,e2,e3,e4,e5,e6,L2,hI⟩:=Ve h hi40 (w:=2) (by omega);rw[e0,zB,zA,e1,zB,zA,e3,zB,zA,e2,zB,zA,e4,zB,zA,e5,zB,zA];exact⟨_,rfl,(fs,nx,st,upd bk 2 t'),by unfold xja;dsimp only;rw[<- e6];rfl,Y,S,W,L2,hI⟩
  ·rintro z ⟨t',rfl,Y,S,W,L,h⟩;obtain⟨fs,nx,st,bk⟩:=t';rw[Za];unfold xja;dsimp only at h ⊢;obtain⟨r0,y0,a0,b0,c0,d0⟩:=Vf h (by omega) (k:=0) (by omega);obtain⟨r1,y1,a1,b1,c1,d1⟩:=Vf h (by omega) (k:=1) (by omega);obtain⟨r2,y2,a2,b2,c2,d2⟩:=Vf h (by omega) (k:=2) (by omega);rw[a0,zB,zA,b0,zB,zA];simp only[decide_true,Bool.not_true,cond_false];rw[c0,zB,zA,d0,zB,zA,zA];simp only[decide_true,Bool.not_true,cond_false];rw[a1,zB,zA,b1,zB,zA];simp only[decide_true,Bool.not_true,cond_false];rw[c1,zB,zA,d1,zB,zA,zA];simp only[decide_true,Bool.not_true,cond_false];rw[a2,zB,zA,b2,zB,zA];simp only[decide_true,Bool.not_true,cond_false];rw[c2,zB,zA,d2,zB,zA,zA];simp only[decide_true,Bool.not_true,cond_false];exact⟨_,rfl,(fs,nx,st,bk),rfl,Y,S,W,L,h⟩
 ·rintro z ⟨t',rfl,hI⟩;rw[Za];unfold xja;dsimp only;rw[yH (show i < 9223372036854775807 by omega)];exact⟨_,rfl,t',rfl,hI⟩
theorem inv_nil : InvE 0 ([],(fun _=>0),(fun _=>0),fun _=>([],true,[],true,[])):=⟨[],fun _ _=>false,fun _=>[],fun _=>[],St.nil,⟨rfl,by decide,fun j q f h=>by simp at h⟩,Nat.le_refl _,fun k _=>⟨Xq.1,fun j=>Xq.2 j⟩,fun k _=>⟨(by show(0:Int)<=0;decide),(by show(0:Int)<=((0:Nat):Int);decide),fun j f h=>by simp at h⟩,fun k _=>⟨[],Rep.new.mono (by decide)⟩⟩
theorem deltaRight_eq(l:List L20Deed)(hin:∀ x∈l,vda x):vk l=pure true:=by
 unfold vk
 by_cases h40:40 < l.length
 ·rw[decide_eq_true (show(40:Int) < (l.length:Int) by omega),cond_true,G.vXa,zB,zA]
 ·rw[decide_eq_false (show ¬ (40:Int) < (l.length:Int) by omega),cond_false];obtain⟨r,e,hr⟩:=G.xea (body:=yX l) l (fun i (t:Tr_)=>((i:Int),xja t)) InvE (fun r=>r=.brk ()) (fun i x t hx hi h=>xka l (by omega) hx hi (hin x (List.mem_of_getElem? hx)) t h) (fun t _=>⟨_,by unfold yX;simp,rfl⟩) _ inv_nil;subst hr;unfold we;simp only[zB,zA];have e':loop (yX l) (0,([]:List L20fact),0,0,0,0,0,0,([]:List PT),true,([]:List (DT×EV)),true,([]:List (DT×EV)),([]:List PT),true,([]:List (DT×EV)),true,([]:List (DT×EV)),([]:List PT),true,([]:List (DT×EV)),true,([]:List (DT×EV)))=pure (.brk ()):=e;rw[e',zA,Za,G.vXa,zB,zA]
end Go.Ep.M.T
namespace Go.Ep
open Go.RowKit Go.ChangeShapes Go.WideShapes
abbrev All : Nat->Prop:=fun _=>True
mutual
def QH{H:Type}:DataW H->Nat
 | .lit (.string bytes)=>bytes.length+1
 | .lit _=>1
 | .nil=>1
 | .ptr d=>QH d+1
 | .slice elems spare=>vj elems+vj spare+1
 | .agg parts=>vj parts+1
 | .iface _ d=>QH d+1
 | .map entries=>jd entries+1
 | .held _=>1
def vj{H:Type}:List (DataW H)->Nat
 | []=>0
 | d::r=>QH d+vj r
def jd{H:Type}:List (Lit×DataW H)->Nat
 | []=>0
 | x::r=>vea x+jd r
def vea{H:Type}:Lit×DataW H->Nat
 | (.string bytes,d)=>bytes.length+QH d+1
 | (_,d)=>QH d+1
end
theorem yya{H:Type}(d:DataW H):1<=QH d:=by
 cases d with
 | lit l=>cases l <;> simp[QH]
 | nil=>simp[QH]
 | ptr d=>simp[QH]
 | slice elems spare=>simp[QH]
 | agg parts=>simp[QH]
 | iface t d=>simp[QH]
 | map entries=>simp[QH]
 | held h=>simp[QH]
theorem z4a{H:Type}(l r:List (DataW H)):vj (l++r)=vj l+vj r:=by
 induction l with
 | nil=>simp[vj]
 | cons x l ih=>simp only[List.cons_append,vj,ih];omega
def szL{α:Type}(sz:α->Nat):List α->Nat
 | []=>0
 | a::r=>sz a+szL sz r
theorem szL_app{α:Type}(sz:α->Nat)(l r:List α):szL sz (l++r)=szL sz l+szL sz r:=by
 induction l with
 | nil=>simp[szL]
 | cons x l ih=>simp only[List.cons_append,szL,ih];omega
structure Opn(P:Program)(t:TypeId)(k:Nat){α:Type}(enc:α->List DV)(ok:α->Prop)(sz:α->Nat):Prop where
 cells:P.cellsOf t=k
 op:∀ {H:Type} {en:TypeId×Value->H} {w:World} {fuel:Nat} {cs:List Value} {x:DataW H×List MemPlace},DataW.trod en P w 0 (fun _=>true) true fuel t cs=some x ->
  ∃ a,ok a/\cs.length=k/\(enc a).length=k/\(∀ (j:Nat) (y:DV) (u:Value),(enc a)[j]?=some y->cs[j]?=some u->DRd w All y u)/\sz a<=QH x.1
section
variable{P:Program}{t:TypeId}
theorem Opn.map{k:Nat}{α β:Type}{enc:α->List DV}{enc':β->List DV}{ok:α->Prop}{ok':β->Prop}{sz:α->Nat}{sz':β->Nat}(h:Opn P t k enc ok sz)(f:α->β)(he:∀ a,ok a->enc' (f a)=enc a)(ho:∀ a,ok a->ok' (f a))(hz:∀ a,sz' (f a)<=sz a):Opn P t k enc' ok' sz':=
 ⟨h.cells,fun hx=>let ⟨a,h1,h2,h3,h4,h5⟩:=h.op hx;⟨f a,ho a h1,h2,by rw[he a h1];exact h3,by rw[he a h1];exact h4,Nat.le_trans (hz a) h5⟩⟩
theorem z5a{w:World}{y:DV}{u:Value}(h:DRd w All y u):∀ (j:Nat) (y':DV) (u':Value),[y][j]?=some y'->[u][j]?=some u'->DRd w All y' u':=by
 intro j y' u' h1 h2
 cases j with
 | zero=>simp at h1 h2;subst h1;subst h2;exact h
 | succ j=>simp at h1
def okK(k:IntKind)(n:Int):Prop:=(Lit.int k n).wf=true
theorem Opn.int{k:IntKind}(hu:P.underlying t=some (.int k))(hc:P.cellsOf t=1):Opn P t 1 (eK k) (okK k) (fun _=>1):=by
 refine⟨hc,fun {H en w fuel cs x} h=>?_⟩
 cases fuel with
 | zero=>simp[DataW.trod] at h
 | succ fuel=>
  unfold DataW.trod at h;rw[hu] at h
  split at h <;> simp_all
  case h_2 n _=>
   obtain⟨⟨h1,h2⟩,_⟩:=h;subst h1;refine⟨n,h2,rfl,?_,yya _⟩;intro j y u h1 h3;exact z5a (.v _ rfl) j y u h1 h3
theorem okU8{n:Int}(h:okK .u8 n):0<=n/\n < 256:=by
 simp[okK,Lit.wf,IntKind.min,IntKind.max,IntKind.signed,IntKind.bits] at h;omega
theorem Opn.slice{e:TypeId}{k:Nat}{α:Type}{enc:α->List DV}{ok:α->Prop}{sz:α->Nat}(h:Opn P e k enc ok sz)(hu:P.underlying t=some (.slice e))(hc:P.cellsOf t=1)(hk:0 < k) :
  Opn P t 1 (eL enc) (fun l=>l.length<=9223372036854775807/\∀ a∈l,ok a) (fun l=>szL sz l+1):=by
 refine⟨hc,fun {H en w fuel cs x} hx=>?_⟩;rcases Deep.open_slice hu hx with⟨rfl,_⟩ | ⟨a,len,cap,m,n,D,Pl,rfl,_,hl,hm,hmm,hxD,hel⟩
 ·exact⟨[],⟨Nat.zero_le _,by simp⟩,rfl,rfl,z5a (.nil none 0 (Nat.zero_le _) (fun _=>rfl)),yya _⟩
 simp only[if_true] at hmm;subst hmm;rw[h.cells] at hel;have hcut:∀ n0,n0<=len->∃ l:List α,l.length=n0/\(∀ a∈l,ok a)/\szL sz l<=vj ((List.range n0).map D)/\∀ (i:Nat) (b:α),l[i]?=some b->(enc b).length=k/\∀ (j:Nat) (y:DV),(enc b)[j]?=some y->∃ u,w.cell? (a.add (i*k+j))=some u/\DRd w All y u:=by
  intro n0
  induction n0 with
  | zero=>intro _;exact⟨[],rfl,by simp,by simp[szL],by simp⟩
  | succ n0 ih=>
   intro hn;obtain⟨l,h1,h2,hz,h3⟩:=ih (by omega);obtain⟨cs',hc',ht'⟩:=hel n0 (by omega);obtain⟨b,hb1,hb2,hb3,hb4,hb5⟩:=h.op ht';obtain⟨_,_,hcell⟩:=World.cells?_some hc';refine⟨l++[b],by simp[h1],?_,by rw[szL_app,List.range_succ,List.map_append,z4a];simp only[szL,List.map_cons,List.map_nil,vj];simp only at hb5;omega,?_⟩
   ·intro a ha;rcases List.mem_append.1 ha with ha | ha
    ·exact h2 a ha
    ·simp at ha;subst ha;exact hb1
   ·intro i b' hi;rw[List.getElem?_append] at hi
    split at hi
    ·exact h3 i b' hi
    ·rename_i hge
     have hi0:i=n0:=by
      have:i - l.length < 1:=by simpa using (List.getElem?_eq_some_iff.1 hi).1
      omega
     subst hi0;simp[h1] at hi;subst hi;refine⟨hb3,fun j y hy=>?_⟩;have hj:j < k:=by rw[<- hb3];exact(List.getElem?_eq_some_iff.1 hy).1
     have hcj:=hcell j hj;rw[Deep.add_add] at hcj;have hu':cs'[j]?=some (cs'[j]'(by omega)):=List.getElem?_eq_getElem (by omega);exact⟨_,by rw[hcj,hu'],hb4 j y _ hy hu'⟩
 obtain⟨l,h1,h2,hz,h3⟩:=hcut len (Nat.le_refl _);refine⟨l,⟨by unfold maxLen at hm;omega,h2⟩,rfl,rfl,z5a ?_,?_⟩
 rotate_left
 ·rw[hxD];simp only[QH];omega
 by_cases h0:len=0
 ·have:l=[]:=List.eq_nil_of_length_eq_zero (by omega);subst this;subst h0;exact .nil _ _ hm (fun e=>by cases e)
 ·-- the first cell tells that the address is a plain one
  have hl0:0 < l.length:=by omega
  obtain⟨hk0,hc0⟩:=h3 0 _ (List.getElem?_eq_getElem hl0);obtain⟨u0,hu0,_⟩:=hc0 0 _ (List.getElem?_eq_getElem (by omega:0 < (enc l[0]).length));have hspot:a.spot=none:=by simpa[Addr.add] using World.cell?_spot hu0
  obtain⟨b,off,spot⟩:=a;simp only at hspot;subst hspot;have hb:b < w.heap.size:=by
   rw[Addr.add_lit] at hu0;unfold World.cell? at hu0
   cases hh:w.heap[b]? with
   | none=>simp[hh] at hu0
   | some o=>exact(Array.getElem?_eq_some_iff.1 hh).1
  have hlen:(l.map enc).length=len:=by simp[h1]
  rw[<- hlen];refine .sl _ b off m k (fun i j=>(w.cell? ⟨b,off+(i*k+j),none⟩).getD undef) (by omega) hm trivial hb ?_ ?_ ?_
  ·intro i cs hi;rw[List.getElem?_map] at hi
   cases hx:l[i]? with
   | none=>simp[hx] at hi
   | some y=>simp[hx] at hi;subst hi;exact(h3 i y hx).1
  ·intro i j hi hj;have hil:i < l.length:=by simpa using hi
   obtain⟨e1,e2⟩:=h3 i _ (List.getElem?_eq_getElem hil);obtain⟨u,hu,_⟩:=e2 j _ (List.getElem?_eq_getElem (by omega:j < (enc l[i]).length));rw[Addr.add_lit] at hu;simp[hu]
  ·intro i cs j x hi hx;rw[List.getElem?_map] at hi
   cases hy:l[i]? with
   | none=>simp[hy] at hi
   | some y=>
    simp[hy] at hi;subst hi;obtain⟨u,hu,hd⟩:=(h3 i y hy).2 j x hx;rw[Addr.add_lit] at hu;simpa[hu] using hd
structure OpnF(P:Program)(fs:List Field)(off k:Nat){α:Type}(enc:α->List DV)(ok:α->Prop)(sz:α->Nat):Prop where
 op:∀ {H:Type} {en:TypeId×Value->H} {w:World} {n:Nat} {cs:List Value} {xs:List (DataW H×List MemPlace)},xs.length=fs.length ->
  (∀ (i:Nat) (f:Field),fs[i]?=some f->DataW.trod en P w 0 (fun _=>true) true n f.type ((cs.drop f.offset).take (P.cellsOf f.type))=xs[i]?) ->
  ∃ a,ok a/\(enc a).length=k/\(∀ (j:Nat) (y:DV) (u:Value),(enc a)[j]?=some y->cs[off+j]?=some u->DRd w All y u)/\sz a<=vj (xs.map (·.1))
theorem OpnF.nil(off:Nat):OpnF P [] off 0 (fun _:Unit=>[]) (fun _=>True) (fun _=>0):=⟨fun _ _=>⟨(),trivial,rfl,by simp,Nat.zero_le _⟩⟩
theorem OpnF.cons{f:Field}{fs:List Field}{off k1 k2:Nat}{α β:Type}{e1:α->List DV}{o1:α->Prop}{e2:β->List DV}{o2:β->Prop}{z1:α->Nat}{z2:β->Nat}(h1:Opn P f.type k1 e1 o1 z1)(ho:f.offset=off)(h2:OpnF P fs (off+k1) k2 e2 o2 z2) :
  OpnF P (f::fs) off (k1+k2) (fun p:α×β=>e1 p.1++e2 p.2) (fun p=>o1 p.1/\o2 p.2) (fun p=>z1 p.1+z2 p.2):=by
 refine⟨fun {H en w n cs xs} hlen hx=>?_⟩
 cases xs with
 | nil=>simp at hlen
 | cons x xs=>
  have hx0:=hx 0 f rfl;simp only[List.getElem?_cons_zero] at hx0;obtain⟨a,ha1,ha2,ha3,ha4,ha5⟩:=h1.op hx0;obtain⟨b,hb1,hb2,hb3,hb4⟩:=h2.op (xs:=xs) (by simpa using hlen) (fun i f' hf=>by have:=hx (i+1) f' (by simpa using hf);simpa using this);refine⟨(a,b),⟨ha1,hb1⟩,by simp[ha3,hb2],?_,by simp only[List.map_cons,vj];omega⟩;intro j y u hy hu;simp only[List.getElem?_append] at hy
  by_cases hj:j < k1
  ·rw[if_pos (by omega)] at hy;refine ha4 j y u hy ?_;rw[List.getElem?_take,h1.cells,if_pos hj,List.getElem?_drop,ho];exact hu
  ·rw[if_neg (by omega),ha3] at hy;refine hb3 (j - k1) y u hy ?_;rw[<- hu]
   congr 1
   omega
theorem Opn.struct{fs:List Field}{k:Nat}{α:Type}{enc:α->List DV}{ok:α->Prop}{sz:α->Nat}(hu:P.underlying t=some (.struct fs.toArray))(hc:P.cellsOf t=k)(h:OpnF P fs 0 k enc ok sz):Opn P t k enc ok (fun a=>sz a+1):=by
 refine⟨hc,fun {H en w fuel cs x} hx=>?_⟩;obtain⟨xs,n,_,hxe,hlen,hxl,hf⟩:=DataW.trod_struct hu hx;obtain⟨a,h1,h2,h3,h4⟩:=h.op (cs:=cs) (xs:=xs) (by simpa using hxl) (fun i f hi=>hf i f (by simpa using hi));exact⟨a,h1,by rw[hlen,hc],h2,fun j y u hy hu=>h3 j y u hy (by simpa using hu),by rw[hxe];simp only[QH];omega⟩
theorem Opn.arg{H:Type}{en:TypeId×Value->H}{w:World}{v:Value}{d:DataW H}{ps:List MemPlace}{α:Type}{enc:α->DV}{ok:α->Prop}{sz:α->Nat}(h:Opn P t 1 (fun a=>[enc a]) ok sz)
  (hx:DataW.Trod en P w 0 (fun _=>true) true t v d ps) (h1:v.oneCell'=true):∃ a,ok a/\Rd w g0 All (.d (enc a)) v/\sz a<=QH d:=by
 obtain⟨fuel,hf⟩:=hx;obtain⟨a,ha,_,_,hr,hz⟩:=h.op hf;have hcs:v.cells.toList=[v]:=by cases v <;> first | rfl | (simp[Value.oneCell'] at h1;done)
 exact⟨a,ha,.d (hr 0 _ v rfl (by rw[hcs];rfl)),hz⟩
theorem VF{H:Type}{en:TypeId×Value->H}(hl:laidOutB P=true){W W':World}(hb:Below W.heap.size W W'):∀ {ts:List TypeId} {vs:List Value} {ds:List (DataW H)} {ps:List MemPlace},
  (∀ t∈ts,P.readableRec t=true/\t < P.types.size)->DataW.TrodAll en P W 0 (fun _=>true) true ts vs ds ps->(∀ x∈ps,x.block < W.heap.size)->DataW.TrodAll en P W' 0 (fun b=>decide (b < W.heap.size)) true ts vs ds ps
 | [],[],[],ps,_,h,_=>h
 | t::ts,v::vs,d::ds,ps,hr,h,hlt=>by
  obtain⟨p,q,h1,h2,rfl⟩:=h;have hrt:=hr t (by simp);exact⟨p,q,Below.trod hl hrt.1 hrt.2 h1 hb (fun x hx=>hlt x (List.mem_append.2 (.inl hx))),VF hl hb (fun t ht=>hr t (by simp[ht])) h2 (fun x hx=>hlt x (List.mem_append.2 (.inr hx))),rfl⟩
 | [],[],_::_,_,_,h,_=>h.elim
 | [],_::_,_,_,_,h,_=>h.elim
 | _::_,[],_,_,_,h,_=>h.elim
 | _::_,_::_,[],_,_,h,_=>h.elim
theorem je{H:Type}{en:TypeId×Value->H}{w:World}{base:Nat}{sp:Nat->Bool}{hd:Bool}:∀ {ts:List TypeId} {vs:List Value} {ds:List (DataW H)} {ps:List MemPlace},DataW.TrodAll en P w base sp hd ts vs ds ps->ds.length=ts.length
 | [],[],[],_,_=>rfl
 | _::_,_::_,_::_,_,h=>by
  obtain⟨_,_,_,h2,_⟩:=h;simp[je h2]
 | [],[],_::_,_,h=>h.elim
 | [],_::_,_,_,h=>h.elim
 | _::_,[],_,_,h=>h.elim
 | _::_,_::_,[],_,h=>h.elim
theorem vfa{H:Type}{en:TypeId×Value->H}{fn:Func}{s:ChangeSpec}{tb:TypeId}{W W':World}{args:Array Value}{ds gs:List (DataW H)}{before:List MemPlace}(hl:laidOutB P=true)
  (hW:DataW.Whole en P fn.params.toList s.vars false W args.toList ds gs before) (hv:s.vars=[]) (hs:∀ ds:List (DataW H),ds.length=fn.params.size->(s.fn H ds).results=[.lit (.bool true)]/\(s.fn H ds).args=ds/\(s.fn H ds).vars=[])
  (hres:fn.resultTypes=#[tb]) (htb:P.underlying tb=some .bool) (hr:∀ t∈fn.params.toList,P.readableRec t=true/\t < P.types.size) (hb:Below W.heap.size W W') :
  s.post en P fn false true false false W args (.bool true) W':=by
 have hW':=hW;obtain⟨p,q,hA,hV,hpq,hfz,hnd⟩:=hW;rw[hv] at hV;obtain⟨rfl,rfl⟩:=trodVars_none hV;simp only[List.append_nil] at hpq;subst hpq;have hlt:∀ x∈before,x.block < W.heap.size:=fun x hx=>by simpa using hW'.lt x hx
 have hlen:ds.length=fn.params.size:=by simpa using je hA
 obtain⟨e1,e2,e3⟩:=hs (ds++[]) (by simpa using hlen);refine⟨ds,[],before,[],before,[],hW',?_,?_,?_,hb.frame _,fun h=>by cases h⟩
 ·rw[e1,hres];exact trodAll_mk1 (shut_bool htb true)
 ·rw[e2,List.append_nil];exact VF hl hb hr hA hlt
 ·rw[e3,hv];rfl
end
end Go.Ep
namespace Go.Ep
set_option linter.unusedVariables false
def L20Deed.ok(x:L20Deed):Prop:=okK .u8 x.kind/\okK .u8 x.who/\okK .u8 x.whom/\okK .u8 x.cid/\okK .u8 x.field
def L20Deed.sz(x:L20Deed):Nat:=(1+(1+(1+(1+(1+0)))))+1
end Go.Ep
namespace Go.Proofs
open Go.Ep
set_option maxRecDepth 100000
theorem opnL20Deed : Opn Tryz.prog 31 5 L20Deed.e L20Deed.ok L20Deed.sz:=(Opn.struct Tryz.underlying31 (by kernel_rfl) (OpnF.cons (Opn.int Tryz.underlying5 (by kernel_rfl)) rfl (OpnF.cons (Opn.int Tryz.underlying5 (by kernel_rfl)) rfl (OpnF.cons (Opn.int Tryz.underlying5 (by kernel_rfl)) rfl (OpnF.cons (Opn.int Tryz.underlying5 (by kernel_rfl)) rfl (OpnF.cons (Opn.int Tryz.underlying5 (by kernel_rfl)) rfl (OpnF.nil _))))))).map (fun p=>⟨p.1,p.2.1,p.2.2.1,p.2.2.2.1,p.2.2.2.2.1⟩) (fun _ _=>rfl) (fun p h=>⟨h.1,h.2.1,h.2.2.1,h.2.2.2.1,h.2.2.2.2.1⟩) (fun _=>Nat.le_refl _)
end Go.Proofs

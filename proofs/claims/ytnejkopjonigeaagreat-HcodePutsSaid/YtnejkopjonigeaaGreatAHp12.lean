/- Side texts. -/
import Derived.Test.YtnejkopjonigeaaGreatAHp5
import Derived.Test.YtnejkopjonigeaaGreatAHp10
import Derived.Test.YtnejkopjonigeaaGreatAHp11
set_option linter.unusedVariables false
set_option linter.unusedSimpArgs false
namespace Go.Ep.M.N
open Go
theorem vda(n:Int):IntKind.u8.wrap n=n % 256:=by simp[IntKind.wrap,IntKind.bits,IntKind.signed]
def Ws(n:Nat):Nat:=if n=0 then 0 else Ws (n / 256)+1
theorem Ym : Ws 0=0:=by rw[Ws];rfl
theorem Wt{n:Nat}(h:n≠0):Ws n=Ws (n / 256)+1:=by rw[Ws,if_neg h]
theorem qh : ∀ (k n:Nat),n < 256 ^ k->Ws n<=k
 | 0,n,h=>by
  have:n=0:=by simpa using h
  rw[this,Ym];exact Nat.le_refl _
 | k+1,n,h=>by
  by_cases h0:n=0
  ·rw[h0,Ym];omega
  ·rw[Wt h0];have:=qh k (n / 256) (by rw[Nat.pow_succ] at h;omega);omega
theorem yCa : ∀ (k n:Nat),256 ^ k<=n->k+1<=Ws n
 | 0,n,h=>by
  have:n≠0:=by intro h0;rw[h0] at h;simp at h
  rw[Wt this];omega
 | k+1,n,h=>by
  have hp:0 < 256 ^ k:=Nat.pow_pos (by decide);rw[Nat.pow_succ] at h;have:n≠0:=by omega
  rw[Wt this];have:=yCa k (n / 256) (by omega);omega
theorem Qr{n:Nat}(h:n < 18446744073709551616):Ws n<=8:=qh 8 n (by simpa using h)
theorem fdiv256(n:Nat):Int.fdiv (n:Int) (2 ^ 8)=((n / 256:Nat):Int):=by
 rw[Int.fdiv_eq_ediv_of_nonneg _ (by decide)];have:(2 ^ 8:Int)=256:=rfl;rw[this];omega
theorem vea(n:Nat):Int.tdiv (n:Int) 256=((n / 256:Nat):Int):=by
 rw[Int.tdiv_eq_ediv_of_nonneg (by omega)];omega
theorem len_loop : ∀ (n k:Nat),k+Ws n<=1000->loop uw ((n:Int),(k:Int))=pure (((k+Ws n:Nat)):Int):=by
 intro n
 induction n using Nat.strongRecOn with
 | _ n ih=>
  intro k hk
  by_cases h0:n=0
  ·subst h0;rw[Ym,Nat.add_zero];exact zQ (by unfold uw;simp)
  ·rw[Wt h0] at hk ⊢;rw[zb (s':=(((n / 256:Nat):Int),((k+1:Nat):Int))) (by
    unfold uw;have:decide ((0:Int) < (n:Int))=true:=by simp;omega
    simp only[this,cond_true,fdiv256,zq (show k < 9223372036854775807 by omega)]),ih (n / 256) (by omega) (k+1) (by omega)]
   congr 2;omega
theorem Len_eq{v:Int}(h0:0<=v)(h:v<=18446744073709551615):WT v=pure (Ws v.toNat:Int):=by
 obtain⟨n,rfl⟩:=Int.eq_ofNat_of_zero_le h0;unfold WT;have:=len_loop n 0 (by have:=Qr (n:=n) (by omega);omega);rw[show(0:Int)=((0:Nat):Int) from rfl,this,zA,Nat.zero_add,Int.toNat_natCast]
theorem vfa : ∀ (n k:Nat),n < 18446744073709551616->k+Ws n<=1000->loop XT ((n:Int),(k:Int))=pure (((k+Ws n:Nat)):Int):=by
 intro n
 induction n using Nat.strongRecOn with
 | _ n ih=>
  intro k hn hk
  by_cases h0:n=0
  ·subst h0;rw[Ym,Nat.add_zero];exact zQ (by unfold XT;simp)
  ·rw[Wt h0] at hk ⊢;rw[zb (s':=(((n / 256:Nat):Int),((k+1:Nat):Int))) (by
    unfold XT;have:decide ((0:Int) < (n:Int))=true:=by simp;omega
    simp only[this,cond_true,vea,zq (show k < 9223372036854775807 by omega),ZA (show(0:Int)<=((n / 256:Nat):Int) by omega) (by omega)]),ih (n / 256) (by omega) (k+1) (by omega) (by omega)]
   congr 2;omega
theorem rLen_eq{v:Int}(h0:0<=v)(h:v<=18446744073709551615):Jl v=pure (Ws v.toNat:Int):=by
 obtain⟨n,rfl⟩:=Int.eq_ofNat_of_zero_le h0;unfold Jl;have:=vfa n 0 (by omega) (by have:=Qr (n:=n) (by omega);omega);rw[show(0:Int)=((0:Nat):Int) from rfl,this,zA,Nat.zero_add,Int.toNat_natCast]
def Yn(n i:Nat):Int:=((n / 256 ^ i % 256:Nat):Int)
theorem Byte_eq(n i:Nat)(hi:i<=7):XH (n:Int) (i:Int)=pure (Yn n i):=by
 have h8:i=0\/i=1\/i=2\/i=3\/i=4\/i=5\/i=6\/i=7:=by omega
 unfold XH Yn;rw[ZA (show(0:Int)<=(i:Int) by omega) (by omega),ZA (show(0:Int)<=8*(i:Int) by omega) (by omega)];have hd:decide ((7:Int) < (i:Int))=false:=by simp;omega
 simp only[hd,cond_false];rw[zD (by omega),vda,Int.fdiv_eq_ediv_of_nonneg _ (by exact Int.le_of_lt (Int.pow_pos (by decide)))]
 congr 1
 have e:(2:Int) ^ min (8*(i:Int)).toNat 64=((256 ^ i:Nat):Int):=by
  rcases h8 with rfl | rfl | rfl | rfl | rfl | rfl | rfl | rfl <;> rfl
 rw[e];exact(by rw[Int.natCast_emod,Int.natCast_ediv];rfl)
theorem x5a(m:Nat):∀ (j:Nat) (n:Nat),j<=m->m<=7->n < 18446744073709551616->loop (vF (m:Int)) ((n:Int),(j:Int))=pure ((n / 256 ^ (m - j):Nat):Int):=by
 have key:∀ (d j n:Nat),j+d=m->m<=7->n < 18446744073709551616->loop (vF (m:Int)) ((n:Int),(j:Int))=pure ((n / 256 ^ d:Nat):Int):=by
  intro d
  induction d with
  | zero=>
   intro j n hj hm hn;have:j=m:=by omega
   subst this;rw[zQ (r:=(n:Int)) (by unfold vF;simp)];simp
  | succ d ih=>
   intro j n hj hm hn;rw[zb (s':=(((n / 256:Nat):Int),((j+1:Nat):Int))) (by
    unfold vF;have:decide ((j:Int) < (m:Int))=true:=by simp;omega
    simp only[this,cond_true,vea,zq (show j < 9223372036854775807 by omega),ZA (show(0:Int)<=((n / 256:Nat):Int) by omega) (by omega)]),ih (j+1) (n / 256) (by omega) hm (by omega)]
   rw[Nat.pow_succ,Nat.mul_comm,Nat.div_div_eq_div_mul]
 intro j n hj hm hn;exact key (m - j) j n (by omega) hm hn
theorem rByte_eq(n i:Nat)(hi:i<=7)(hn:n < 18446744073709551616):UJ (n:Int) (i:Int)=pure (Yn n i):=by
 unfold UJ Yn;have h1:decide ((i:Int) < 0)=false:=by simp
 have h2:decide ((7:Int) < (i:Int))=false:=by simp;omega
 have h3:loop (vF (i:Int)) ((n:Int),0)=pure ((n / 256 ^ (i - 0):Nat):Int):=x5a i 0 n (by omega) hi hn;rw[h1,h2,cond_false,zA,cond_false,h3,zA,Nat.sub_zero,Int.tmod_eq_emod_of_nonneg (Int.natCast_nonneg _),vda]
 congr 1
 generalize n / 256 ^ i=q
 omega
def be(n:Nat):Nat->List Int
 | 0=>[]
 | k+1=>Yn n k::be n k
theorem be_len(n:Nat):∀ k,(be n k).length=k
 | 0=>rfl
 | k+1=>by simp[be,be_len n k]
def wPa(n:Nat):List Int:=(Ws n:Int)::be n (Ws n)
def xC(v:Int):List Int:=wPa v.toNat
theorem zO{v:Int}(h:v<=18446744073709551615):(xC v).length<=9:=by
 have:=Qr (n:=v.toNat) (by omega);simp[xC,wPa,be_len];omega
theorem xFa(n:Nat):∀ (k:Nat) (out:List Int),k<=8->out.length+k<=100000000000000->loop (vr (n:Int)) ((k:Int) - 1,out)=pure (out++be n k)
 | 0,out,_,_=>by
  rw[be,List.append_nil];exact zQ (by unfold vr;simp)
 | k+1,out,hk,ho=>by
  have e:((k+1:Nat):Int) - 1=(k:Int):=by omega
  rw[e,zb (s':=((k:Int) - 1,out++[Yn n k])) (by
   unfold vr;have h1:decide ((0:Int)<=(k:Int))=true:=by simp
   simp only[h1,cond_true,Byte_eq n k (by omega),zB,zA];rw[zD (by simp;omega),ue (by omega) (by omega)]),xFa n k _ (by omega) (by simp;omega),be,List.append_assoc]
  rfl
theorem vga(b:List Int){v:Int}(h0:0<=v)(h:v<=18446744073709551615)(hb:b.length<=10000000000000):XI b v=pure (b++xC v):=by
 have h8:=Qr (n:=v.toNat) (by omega);unfold XI;rw[Len_eq h0 h,zB,zA,ue (show -9223372036854775808<=(b.length:Int)+(Ws v.toNat:Int) by omega) (by omega),ue (by omega) (by omega),zD (by omega),zD (by simp;omega),zD (by simp;omega),wU8 (by omega) (by omega),ue (by omega) (by omega)];have:=xFa v.toNat (Ws v.toNat) (([]:List Int)++b++[(Ws v.toNat:Int)]) h8 (by simp;omega);rw[show((v.toNat:Nat):Int)=v by omega] at this;rw[this,zA];simp[xC,wPa]
theorem Qs(n:Nat)(hn:n < 18446744073709551616):∀ (k:Nat) (out:List Int),k<=8->out.length+k<=100000000000000->loop (vu (n:Int)) ((k:Int) - 1,out)=pure (out++be n k)
 | 0,out,_,_=>by
  rw[be,List.append_nil];exact zQ (by unfold vu;simp)
 | k+1,out,hk,ho=>by
  have e:((k+1:Nat):Int) - 1=(k:Int):=by omega
  rw[e,zb (s':=((k:Int) - 1,out++[Yn n k])) (by
   unfold vu;have h1:decide ((0:Int)<=(k:Int))=true:=by simp
   simp only[h1,cond_true,rByte_eq n k (by omega) hn,zB,zA];rw[zD (by simp;omega),ue (by omega) (by omega)]),Qs n hn k _ (by omega) (by simp;omega),be,List.append_assoc]
  rfl
theorem yB(b:List Int){v:Int}(h0:0<=v)(h:v<=18446744073709551615)(hb:b.length<=10000000000000):zl b v=pure (b++xC v):=by
 have h8:=Qr (n:=v.toNat) (by omega);unfold zl;rw[rLen_eq h0 h,zD (by simp;omega),zB,zA,zD (by simp;omega),wU8 (by omega) (by omega),ue (by omega) (by omega)];have:=Qs v.toNat (by omega) (Ws v.toNat) (([]:List Int)++b++[(Ws v.toNat:Int)]) h8 (by simp;omega);rw[show((v.toNat:Nat):Int)=v by omega] at this;rw[this,zA];simp[xC,wPa]
def By(l:List Int):Prop:=∀ x∈l,0<=x/\x<=255
theorem By.drop{l:List Int}(h:By l)(n:Nat):By (l.drop n):=fun x hx=>h x (List.mem_of_mem_drop hx)
theorem By.take{l:List Int}(h:By l)(n:Nat):By (l.take n):=fun x hx=>h x (List.mem_of_mem_take hx)
theorem By.app{a b:List Int}(ha:By a)(hb:By b):By (a++b):=fun x hx=>(List.mem_append.1 hx).elim (ha x) (hb x)
theorem By.nil : By []:=fun x hx=>by cases hx
def jp(l:List Int):Int:=l.foldl (fun v x=>v*256+x) 0
theorem jQ : ∀ (l:List Int) (v k:Nat),By l->v < 256 ^ k->∃ n:Nat,l.foldl (fun v x=>v*256+x) (v:Int)=(n:Int)/\n < 256 ^ (k+l.length)/\v*256 ^ l.length<=n
 | [],v,k,_,hv=>⟨v,rfl,by simpa using hv,by simp⟩
 | x::r,v,k,hb,hv=>by
  have hx:=hb x (by simp);obtain⟨n,h1,h2,h3⟩:=jQ r (v*256+x.toNat) (k+1) (fun y hy=>hb y (by simp[hy])) (by rw[Nat.pow_succ];omega);refine⟨n,?_,by rw[show k+(x::r).length=k+1+r.length by simp;omega];exact h2,?_⟩
  ·rw[List.foldl_cons,<- h1]
   congr 1;omega
  ·refine Nat.le_trans ?_ h3;rw[List.length_cons,Nat.pow_succ];have:v*(256 ^ r.length*256)=v*256*256 ^ r.length:=by rw[Nat.mul_comm (256 ^ r.length),Nat.mul_assoc]
   rw[this];exact Nat.mul_le_mul_right _ (by omega)
theorem vha{l:List Int}(h:By l)(h8:l.length<=8):0<=jp l/\jp l<=18446744073709551615:=by
 obtain⟨n,h1,h2,_⟩:=jQ l 0 0 h (by decide);have h3:256 ^ (0+l.length)<=256 ^ 8:=Nat.pow_le_pow_right (by decide) (by omega);have h4:(256:Nat) ^ 8=18446744073709551616:=by decide
 rw[jp,show(0:Int)=((0:Nat):Int) from rfl,h1];omega
theorem bor_eq{v:Nat}{x:Int}(hv:v < 72057594037927936)(hx:0<=x/\x<=255):bOr .u64 (IntKind.u64.wrap ((v:Int)*2 ^ 8)) (IntKind.u64.wrap x)=(v:Int)*256+x:=by
 obtain⟨y,rfl⟩:=Int.eq_ofNat_of_zero_le hx.1;have e:((v:Int)*2 ^ 8)=((2 ^ 8*v:Nat):Int):=by
  have:(2 ^ 8:Int)=256:=rfl;have:(2 ^ 8:Nat)=256:=rfl;omega
 have hb:2 ^ 8*v+y < 18446744073709551616:=by
  have:(2 ^ 8:Nat)=256:=rfl;omega
 rw[e,ZA (by omega) (by omega),ZA (by omega) (by omega)];unfold bOr;have bv:∀ q:Nat,q < 18446744073709551616->(BitVec.ofInt IntKind.u64.bits (q:Int)).toNat=q:=fun q hq=>by
  show(BitVec.ofInt 64 (q:Int)).toNat=q;rw[BitVec.toNat_ofInt];omega
 rw[BitVec.toNat_or,bv _ (by omega),bv _ (by omega),<- Nat.two_pow_add_eq_or_of_lt (show y < 2 ^ 8 by have:(2 ^ 8:Nat)=256:=rfl;omega) v,ZA (by omega) (by omega)];have:(2 ^ 8:Nat)=256:=rfl;omega
def rdN : List Int->Int×Nat×Int
 | []=>(0,0,2)
 | n::r=>if 8 < n\/(0 < n/\r.head?=some 0) then (0,0,4) else if (r.length:Int) < n then (0,0,2) else (jp (r.take n.toNat),n.toNat+1,0)
theorem qi(n:Int)(r:List Int):rdN (n::r)=if 8 < n\/(0 < n/\r.head?=some 0) then (0,0,4) else if (r.length:Int) < n then (0,0,2) else (jp (r.take n.toNat),n.toNat+1,0):=rfl
theorem jR(b:List Int)(hb:By b):(rdN b=(0,0,2)\/rdN b=(0,0,4))\/∃ n r,b=n::r/\0<=n/\n<=8/\n<=(r.length:Int)/\¬ (0 < n/\r.head?=some 0)/\rdN b=(jp (r.take n.toNat),n.toNat+1,0):=by
 cases b with
 | nil=>exact .inl (.inl rfl)
 | cons n r=>
  have hn:=hb n (by simp);rw[qi]
  by_cases h1:8 < n\/(0 < n/\r.head?=some 0)
  ·rw[if_pos h1];exact .inl (.inr rfl)
  ·rw[if_neg h1]
   by_cases h2:(r.length:Int) < n
   ·rw[if_pos h2];exact .inl (.inl rfl)
   ·rw[if_neg h2];exact .inr ⟨n,r,rfl,hn.1,by omega,by omega,fun h=>h1 (.inr h),rfl⟩
theorem jS(b:List Int)(hb:By b):0<=(rdN b).1/\(rdN b).1<=18446744073709551615/\(rdN b).2.1<=b.length/\((rdN b).2.2=0\/(rdN b).2.2=2\/(rdN b).2.2=4):=by
 rcases jR b hb with(h | h) | ⟨n,r,rfl,h0,h8,hl,_,h⟩
 ·rw[h];simp
 ·rw[h];simp
 ·rw[h];have:=vha (l:=r.take n.toNat) (fun x hx=>hb x (by simp[List.mem_of_mem_take hx])) (by rw[List.length_take];omega);refine⟨this.1,this.2,?_,.inl rfl⟩;simp;omega
theorem xGa{r:List Int}(h:r≠[]):∃ y,r.head?=some y/\r[0]?=some y:=by
 cases r with
 | nil=>exact absurd rfl h
 | cons y t=>exact⟨y,rfl,rfl⟩
theorem Read_eq(b:List Int)(hb:By b)(hl:b.length<=1000000000000):Jp b 0=pure ((rdN b).1,((rdN b).2.1:Int),(rdN b).2.2):=by
 unfold Jp;have h0:decide ((b.length:Int) < 0)=false:=by simp
 rw[show decide ((0:Int) < 0)=false from rfl,cond_false,h0,zA,cond_false]
 cases b with
 | nil=>rfl
 | cons n r=>
  have hn:=hb n (by simp);have hr:By r:=fun x hx=>hb x (by simp[hx])
  have h1:decide ((0:Int)=((n::r).length:Int))=false:=by simp;omega
  have hrl:r.length<=1000000000000:=by simp at hl;omega
  have e1:List.drop (Int.toNat (IntKind.i64.wrap (0+1))) (List.take (Int.toNat ((n::r).length:Int)) (n::r))=r:=by
   rw[ue (by omega) (by omega),Int.toNat_natCast,List.take_length];rfl
  rw[h1,cond_false,YO (y:=n) (by omega) rfl,zA,zD (by rw[ue (by omega) (by omega)];simp;omega),e1,ue (n:=n) (by omega) (by omega)];rw[qi];have hc:(cond (decide (8 < n)) (pure true) (cond (decide (0 < n)) (cond (decide ((0:Int) < (r.length:Int))) ((idx r 0).bind fun x14=>pure (decide (x14=0))) (pure false)) (pure false)):M Bool)=pure (decide (8 < n\/(0 < n/\r.head?=some 0))):=by
   by_cases c1:8 < n
   ·simp[c1]
   ·by_cases c2:0 < n
    ·by_cases c3:r=[]
     ·subst c3;simp[c1,c2]
     ·obtain⟨y,h5,h6⟩:=xGa c3;have c4:0 < r.length:=List.length_pos_iff.2 c3;simp[c1,c2,c4,YO (l:=r) (i:=0) (y:=y) (by omega) h6,h5,zA]
    ·simp[c1,c2]
  rw[hc,zA]
  by_cases c1:8 < n\/(0 < n/\r.head?=some 0)
  ·rw[decide_eq_true c1,cond_true,if_pos c1];rfl
  ·rw[decide_eq_false c1,cond_false,if_neg c1]
   by_cases c2:(r.length:Int) < n
   ·rw[decide_eq_true c2,cond_true,if_pos c2];rfl
   ·rw[decide_eq_false c2,cond_false,if_neg c2,zD (by omega)];have e2:List.drop (Int.toNat 0) (List.take (Int.toNat (IntKind.i64.wrap n)) (List.drop (Int.toNat (IntKind.i64.wrap (0+1))) (List.take (Int.toNat ((n::r).length:Int)) (n::r))))=r.take n.toNat:=by
     rw[e1,ue (by omega) (by omega)];rfl
    have hlen:(r.take n.toNat).length=n.toNat:=by rw[List.length_take];omega
    have hloop:=ZW (body:=uV n 0 (n::r)) (r.take n.toNat) (fun i t=>(t,(i:Int))) (fun v x=>v*256+x) (fun t=>pure t) (fun i t=>∃ m:Nat,t=(m:Int)/\m < 256 ^ i) (fun i x t hx hi hI=>by
     obtain⟨m,rfl,hm⟩:=hI;have hxr:=(hr.take n.toNat) x (List.mem_of_getElem? hx);have hm7:m < 72057594037927936:=by
      have h3:256 ^ i<=256 ^ 7:=Nat.pow_le_pow_right (by decide) (by omega);have h4:(256:Nat) ^ 7=72057594037927936:=by decide
      omega
     refine⟨?_,m*256+x.toNat,by omega,by rw[Nat.pow_succ];omega⟩;unfold uV;have hd:decide ((i:Int) < ((r.take n.toNat).length:Int))=true:=by simpa using hi
     simp only[e2,hd,cond_true,zF hx,zA,bor_eq hm7 hxr,zq (show i < 9223372036854775807 by omega)]) (fun t _=>by
     unfold uV;have hd:decide (((r.take n.toNat).length:Int) < ((r.take n.toNat).length:Int))=false:=by simp
     simp only[e2,hd,cond_false,zA]) 0 ⟨0,rfl,by decide⟩
    have hloop':loop (uV n 0 (n::r)) (0,0)=pure (jp (r.take n.toNat)):=hloop;rw[hloop',zA,ue (n:=0+1) (by omega) (by omega),ue (by omega) (by omega)];have:((0:Int)+1+n)=((n.toNat+1:Nat):Int):=by omega
    rw[this]
theorem rRead_eq(B:List Int)(at_:Nat)(hB:By B)(hl:B.length<=1000000000000)(ha:at_<=B.length) :
  Jq B (at_:Int)=pure ((rdN (B.drop at_)).1,(if (rdN (B.drop at_)).2.2=0 then ((at_+(rdN (B.drop at_)).2.1:Nat):Int) else 0),(rdN (B.drop at_)).2.2):=by
 unfold Jq;have h0:decide ((at_:Int) < 0)=false:=by simp
 have h0':decide ((B.length:Int) < (at_:Int))=false:=by simp;omega
 rw[h0,cond_false,h0',zA,cond_false]
 by_cases hend:at_=B.length
 ·have hd:B.drop at_=[]:=by rw[hend,List.drop_length]
  have h1:decide ((at_:Int)=(B.length:Int))=true:=by simp[hend]
  rw[h1,cond_true,hd];rfl
 ·have h1:decide ((at_:Int)=(B.length:Int))=false:=by simp;omega
  have hlt:at_ < B.length:=by omega
  obtain⟨n,r,hd⟩:∃ n r,B.drop at_=n::r:=by
   rw[List.drop_eq_getElem_cons hlt];exact⟨_,_,rfl⟩
  have hnB:B[at_]?=some n:=by
   have:=congrArg List.head? hd;rw[List.head?_drop] at this;exact this
  have hrB:∀ j,B[at_+1+j]?=r[j]?:=fun j=>by
   have:=congrArg (fun l=>l[j+1]?) hd;simp only[List.getElem?_drop,List.getElem?_cons_succ] at this;rw[<- this];congr 1;omega
  have hlenr:r.length+1+at_=B.length:=by
   have:=congrArg List.length hd;simp at this;omega
  have hb:By (n::r):=hd▸hB.drop at_;have hn:=hb n (by simp);have hr:By r:=fun x hx=>hb x (by simp[hx])
  rw[h1,cond_false,zF hnB,zA,ue (n:=n) (by omega) (by omega),hd];rw[qi];have hleft:IntKind.i64.wrap (IntKind.i64.wrap ((B.length:Int) - (at_:Int)) - 1)=(r.length:Int):=by
   rw[ue (n:=(B.length:Int) - (at_:Int)) (by omega) (by omega),ue (by omega) (by omega)];omega
  have hc:(cond (decide (8 < n)) (pure true) (cond (decide (0 < n)) (cond (decide ((0:Int) < (IntKind.i64.wrap (IntKind.i64.wrap ((B.length:Int) - (at_:Int)) - 1)))) ((idx B (IntKind.i64.wrap ((at_:Int)+1))).bind fun x14=>pure (decide (x14=0))) (pure false)) (pure false)):M Bool)=pure (decide (8 < n\/(0 < n/\r.head?=some 0))):=by
   rw[hleft]
   by_cases c1:8 < n
   ·simp[c1]
   ·by_cases c2:0 < n
    ·by_cases c3:r=[]
     ·subst c3;simp[c1,c2]
     ·obtain⟨y,h5,h6⟩:=xGa c3;have c4:0 < r.length:=List.length_pos_iff.2 c3;have h7:idx B (IntKind.i64.wrap ((at_:Int)+1))=pure y:=by
       rw[ue (by omega) (by omega)];exact zF (i:=at_+1) (by rw[<- h6,<- hrB 0])
      simp[c1,c2,c4,h7,h5,zA]
    ·simp[c1,c2]
  rw[hc,zA]
  by_cases c1:8 < n\/(0 < n/\r.head?=some 0)
  ·rw[decide_eq_true c1,cond_true,if_pos c1];rfl
  ·rw[decide_eq_false c1,cond_false,if_neg c1,hleft]
   by_cases c2:(r.length:Int) < n
   ·rw[decide_eq_true c2,cond_true,if_pos c2];rfl
   ·rw[decide_eq_false c2,cond_false,if_neg c2];have hlen:(r.take n.toNat).length=n.toNat:=by rw[List.length_take];omega
    have hloop:=ZW (body:=uW n B (at_:Int)) (r.take n.toNat) (fun i t=>(t,((i+1:Nat):Int))) (fun v x=>v*256+x) (fun t=>pure t) (fun i t=>∃ m:Nat,t=(m:Int)/\m < 256 ^ i) (fun i x t hx hi hI=>by
     obtain⟨m,rfl,hm⟩:=hI;have hxr:=(hr.take n.toNat) x (List.mem_of_getElem? hx);have hm7:m < 72057594037927936:=by
      have h3:256 ^ i<=256 ^ 7:=Nat.pow_le_pow_right (by decide) (by omega);have h4:(256:Nat) ^ 7=72057594037927936:=by decide
      omega
     refine⟨?_,m*256+x.toNat,by omega,by rw[Nat.pow_succ];omega⟩;unfold uW;have hd2:decide (((i+1:Nat):Int)<=n)=true:=by simp;omega
     have hx2:B[at_+(i+1)]?=some x:=by
      rw[List.getElem?_take] at hx
      split at hx
      ·rw[<- hx,<- hrB i];congr 1;omega
      ·cases hx
     have hix:idx B (IntKind.i64.wrap ((at_:Int)+((i+1:Nat):Int)))=pure x:=by
      rw[ue (by omega) (by omega)];exact zF (i:=at_+(i+1)) hx2
     simp only[ue (n:=n) (by omega) (by omega),hd2,cond_true,hix,zA,ZA (n:=(m:Int)*256) (by omega) (by omega),ZA (n:=x) (by omega) (by omega),ZA (n:=(m:Int)*256+x) (by omega) (by omega),zq (show i+1 < 9223372036854775807 by omega)]) (fun t _=>by
     unfold uW;have hd2:decide (((((r.take n.toNat).length+1:Nat)):Int)<=n)=false:=by rw[hlen];simp;omega
     simp only[ue (n:=n) (by omega) (by omega),hd2,cond_false,zA]) 0 ⟨0,rfl,by decide⟩
    have hloop':loop (uW n B (at_:Int)) (0,1)=pure (jp (r.take n.toNat)):=hloop;rw[hloop',zA,ue (n:=(at_:Int)+1) (by omega) (by omega),ue (by omega) (by omega)];have:((at_:Int)+1+n)=((at_+(n.toNat+1):Nat):Int):=by omega
    rw[this];rfl
theorem be_of : ∀ (l:List Int),By l->∀ n:Nat,jp l=(n:Int)->be n l.length=l:=by
 intro l;have key:∀ (m:Nat) (l:List Int),l.length=m->By l->∀ n:Nat,jp l=(n:Int)->be n l.length=l:=by
  intro m
  induction m with
  | zero=>intro l hl _ n _;have:=List.eq_nil_of_length_eq_zero hl;subst this;rfl
  | succ m ih=>
   intro l hl hb n hn
   cases l with
   | nil=>simp at hl
   | cons x r=>
    have hx:=hb x (by simp);have hr:By r:=fun y hy=>hb y (by simp[hy])
    obtain⟨q,h1,h2,h3⟩:=jQ r 0 0 hr (by decide);obtain⟨q2,h4,h5,h6⟩:=jQ r x.toNat 1 hr (by omega);have hq:jp r=(q:Int):=h1;have hq2:jp (x::r)=(q2:Int):=by
     rw[jp,List.foldl_cons,<- h4];congr 1;omega
    have hrl:r.length=m:=by simpa using hl
    have e:q2=n:=by omega
    subst e;have hlin:∀ (l:List Int) (v:Int),l.foldl (fun v x=>v*256+x) v=v*256 ^ l.length+jp l:=by
     intro l
     induction l with
     | nil=>intro v;simp[jp]
     | cons y t iht=>
      intro v;have e:jp (y::t)=y*256 ^ t.length+jp t:=by rw[jp,List.foldl_cons,iht];simp
      rw[List.foldl_cons,iht,e,List.length_cons,Int.pow_succ,Int.add_mul,Int.mul_assoc,Int.mul_comm 256,Int.add_assoc]
    have hsum:(q2:Int)=x*256 ^ r.length+(q:Int):=by
     rw[<- hq,<- hlin r x,<- hq2,jp,List.foldl_cons];congr 1;omega
    have hqlt:q < 256 ^ r.length:=by simpa using h2
    have hnat:q2=x.toNat*256 ^ r.length+q:=by
     have:((q2:Nat):Int)=((x.toNat*256 ^ r.length+q:Nat):Int):=by
      rw[hsum,Int.natCast_add,Int.natCast_mul,Int.natCast_pow,Int.toNat_of_nonneg hx.1];rfl
     exact Int.ofNat.inj this
    have hp:0 < 256 ^ r.length:=Nat.pow_pos (by decide);have hdiv:q2 / 256 ^ r.length=x.toNat:=by
     rw[hnat,Nat.mul_comm,Nat.mul_add_div hp,Nat.div_eq_of_lt hqlt,Nat.add_zero]
    rw[List.length_cons,be];have hb1:Yn q2 r.length=x:=by unfold Yn;rw[hdiv];omega
    rw[hb1]
    congr 1
    have hbe:∀ k,k<=r.length->be q2 k=be q k:=by
     intro k hk
     induction k with
     | zero=>rfl
     | succ k ihk=>
      rw[be,be,ihk (by omega)]
      congr 1
      show((q2 / 256 ^ k % 256:Nat):Int)=((q / 256 ^ k % 256:Nat):Int)
      congr 1
      have hs:256 ^ r.length=256 ^ k*(256*256 ^ (r.length - k - 1)):=by
       rw[<- Nat.pow_succ',<- Nat.pow_add];congr 1;omega
      have hpk:0 < 256 ^ k:=Nat.pow_pos (by decide);rw[hnat,hs,Nat.mul_left_comm,Nat.mul_add_div hpk];rw[Nat.mul_left_comm,Nat.mul_add_mod]
    rw[hbe _ (Nat.le_refl _)];exact ih r hrl hr q hq
 exact key l.length l rfl
theorem rdN_one{b:List Int}(hb:By b)(h:(rdN b).2.2=0):b=xC (rdN b).1++b.drop (rdN b).2.1:=by
 rcases jR b hb with(h1 | h1) | ⟨n,r,rfl,h0,h8,hl,hh,h1⟩
 ·rw[h1] at h;simp at h
 ·rw[h1] at h;simp at h
 ·rw[h1];have hr:By r:=fun x hx=>hb x (by simp[hx])
  have hbt:=hr.take n.toNat;have hlt:(r.take n.toNat).length=n.toNat:=by rw[List.length_take];omega
  obtain⟨q,h2,h3,h4⟩:=jQ (r.take n.toNat) 0 0 hbt (by decide);have hq:jp (r.take n.toNat)=(q:Int):=h2;have hbe:=be_of _ hbt q hq;rw[hlt] at hbe;have hlen:Ws q=n.toNat:=by
   apply Nat.le_antisymm
   ·exact qh _ _ (by simpa[hlt] using h3)
   ·rcases Nat.eq_zero_or_pos n.toNat with hz | hz
    ·omega
    ·obtain⟨k,hk⟩:∃ k,n.toNat=k+1:=⟨n.toNat - 1,by omega⟩
     rw[hk];refine yCa k q ?_;rw[hk,be] at hbe;have hne:Yn q k≠0:=by
      intro e;rw[e] at hbe;refine hh ⟨by omega,?_⟩;have:=congrArg List.head? hbe;rw[List.head?_cons,List.head?_take,if_neg (by omega)] at this;exact this.symm
     unfold Yn at hne;have hp:0 < 256 ^ k:=Nat.pow_pos (by decide);rcases Nat.lt_or_ge q (256 ^ k) with hlt2 | hge
     ·rw[Nat.div_eq_of_lt hlt2] at hne;simp at hne
     ·exact hge
  show n::r=xC (jp (r.take n.toNat))++(n::r).drop (n.toNat+1);rw[hq,xC,Int.toNat_natCast,wPa,hlen,hbe,List.drop_succ_cons,List.cons_append,List.take_append_drop]
  congr 1;omega
abbrev RS:=List Int×Int
structure Ok(s:RS):Prop where
 by_:By s.1
 len:s.1.length<=1000000000
 nil:s.2≠0->s.1=[]
def vK(e:Int)(s:RS):RS:=if s.2=0/\e≠0 then ([],e) else s
def zg(s:RS):Int×RS:=if s.2≠0 then (0,s) else if (rdN s.1).2.2≠0 then (0,vK (rdN s.1).2.2 s) else ((rdN s.1).1,(s.1.drop (rdN s.1).2.1,0))
def yL(m:Int)(s:RS):Int×RS:=if m < (zg s).1 then (0,vK 4 (zg s).2) else zg s
def uE(s:RS):Int×RS:=if s.2≠0 then (0,s) else match s.1 with | []=>(0,vK 2 s) | x::r=>(x,(r,0))
def Yo(m:Int)(s:RS):ByteArray×RS:=
 if (zg s).2.2≠0 then (⟨#[]⟩,(zg s).2) else if max m 0 < (zg s).1 then (⟨#[]⟩,vK 3 (zg s).2) else if ((zg s).2.1.length:Int) < (zg s).1 then (⟨#[]⟩,vK 2 (zg s).2)
 else (yaa ((zg s).2.1.take (zg s).1.toNat),((zg s).2.1.drop (zg s).1.toNat,0))
theorem Xz{s:RS}(h:Ok s)(e:Int):Ok (vK e s):=by
 unfold vK
 by_cases c:s.2=0/\e≠0
 ·rw[if_pos c];exact⟨By.nil,by simp,fun _=>rfl⟩
 ·rw[if_neg c];exact h
theorem vS{s:RS}{e:Int}(h:e≠0):(vK e s).2≠0:=by
 unfold vK
 by_cases c:s.2=0
 ·rw[if_pos ⟨c,h⟩];exact h
 ·rw[if_neg (fun q=>c q.1)];exact c
theorem fail_of{s:RS}(e:Int)(h:s.2≠0):vK e s=s:=if_neg fun q=>h q.1
theorem num_of{s:RS}(h:s.2≠0):zg s=(0,s):=if_pos h
theorem Yp{s:RS}(h:Ok s):Ok (zg s).2/\0<=(zg s).1/\(zg s).1<=18446744073709551615:=by
 unfold zg;have hr:=jS s.1 h.by_
 by_cases c:s.2≠0
 ·rw[if_pos c];exact⟨h,by simp,by simp⟩
 ·rw[if_neg c]
  by_cases c2:(rdN s.1).2.2≠0
  ·rw[if_pos c2];exact⟨Xz h _,by simp,by simp⟩
  ·rw[if_neg c2];exact⟨⟨h.by_.drop _,by simp;have:=h.len;omega,fun h=>absurd rfl h⟩,hr.1,hr.2.1⟩
theorem qj{s:RS}(h:Ok s){m:Int}(hm:0<=m):Ok (yL m s).2/\0<=(yL m s).1/\(yL m s).1<=m:=by
 unfold yL;obtain⟨h1,h2,h3⟩:=Yp h
 by_cases c:m < (zg s).1
 ·rw[if_pos c];exact⟨Xz h1 _,by simp,hm⟩
 ·rw[if_neg c];exact⟨h1,h2,by omega⟩
theorem via{s:RS}(h:Ok s):Ok (uE s).2/\0<=(uE s).1/\(uE s).1<=255:=by
 unfold uE
 by_cases c:s.2≠0
 ·rw[if_pos c];exact⟨h,by simp,by simp⟩
 ·rw[if_neg c]
  cases hs:s.1 with
  | nil=>exact⟨Xz h _,by simp,by simp⟩
  | cons x r=>
   have hb:=h.by_;have hl:=h.len;rw[hs] at hb hl;exact⟨⟨fun y hy=>hb y (by simp[hy]),by simp at hl ⊢;omega,fun h=>absurd rfl h⟩,(hb x (by simp)).1,(hb x (by simp)).2⟩
theorem ok_text{s:RS}(h:Ok s)(m:Int):Ok (Yo m s).2:=by
 unfold Yo;obtain⟨h1,h2,h3⟩:=Yp h
 split
 ·exact h1
 ·split
  ·exact Xz h1 _
  ·split
   ·exact Xz h1 _
   ·exact⟨h1.by_.drop _,by simp;have:=h1.len;omega,fun h=>absurd rfl h⟩
theorem xHa(b:List Int)(e:Int):yI b e=pure (e,b,e):=rfl
theorem VU(e:Int)(s:RS):zX e s.1 s.2=pure (vK e s):=by
 unfold zX vK
 by_cases c:s.2=0 <;> by_cases c2:e=0 <;> simp[c,c2,zA] <;> rw[<- c]
theorem vja(b:List Int)(n:Nat)(e:Int)(h:n<=b.length):wI (n:Int) b e=pure (b.take n,b.drop n,e):=by
 unfold wI;rw[zD (by omega),zD (by omega)];simp
theorem xIa{s:RS}(h:Ok s):yb s.1 s.2=pure (zg s):=by
 unfold yb zg;rw[xHa,zB,zA]
 by_cases c:s.2=0
 ·have hr:=jS s.1 h.by_;simp only[c,decide_true,Bool.not_true,cond_false,Read_eq s.1 h.by_ (by have:=h.len;omega),zB,zA,ne_eq,not_true_eq_false,if_false]
  by_cases c2:(rdN s.1).2.2=0
  ·simp only[c2,decide_true,Bool.not_true,cond_false,vja s.1 (rdN s.1).2.1 0 hr.2.2.1,zB,zA,not_true_eq_false,if_false]
  ·have:=VU (rdN s.1).2.2 s;rw[c] at this;simp only[c2,decide_false,Bool.not_false,cond_true,this,zB,zA,not_false_eq_true,if_true]
 ·simp[c]
theorem Upto_eq{s:RS}(h:Ok s)(m:Int):wv m s.1 s.2=pure (yL m s):=by
 unfold wv yL;rw[xIa h,zB,zA]
 by_cases c:m < (zg s).1
 ·rw[decide_eq_true c,cond_true,if_pos c,VU 4 (zg s).2,zB,zA]
 ·rw[decide_eq_false c,cond_false,if_neg c]
theorem Left_eq(s:RS):ww s.1 s.2=pure ((s.1.length:Int),s):=by
 unfold ww YC;rw[zB,zA]
theorem vka{s:RS}(h:Ok s){m:Int}(hm:m<=9223372036854775807):uy m s.1 s.2=pure (Yo m s):=by
 unfold uy Yo;obtain⟨h1,h2,h3⟩:=Yp h;rw[xIa h,zB,zA,xHa,zB,zA]
 by_cases c:(zg s).2.2=0
 ·simp only[c,decide_true,Bool.not_true,cond_false,ne_eq,not_true_eq_false,if_false];rw[ZA (n:=max m 0) (by omega) (by omega)]
  by_cases c2:max m 0 < (zg s).1
  ·have hF:=VU 3 (zg s).2;rw[c] at hF;rw[decide_eq_true c2,cond_true,if_pos c2,hF,zB,zA]
  ·have hL:=Left_eq (zg s).2;rw[c] at hL;rw[decide_eq_false c2,cond_false,if_neg c2,hL,zB,zA];have hlen:=h1.len;rw[ZA (n:=((zg s).2.1.length:Int)) (by omega) (by omega)]
   by_cases c3:((zg s).2.1.length:Int) < (zg s).1
   ·have hF:=VU 2 (zg s).2;rw[decide_eq_true c3,cond_true,if_pos c3,hF,zB,zA]
   ·rw[decide_eq_false c3,cond_false,if_neg c3,ue (by omega) (by omega)];have ht:=vja (zg s).2.1 (zg s).1.toNat (zg s).2.2 (by omega);rw[Int.toNat_of_nonneg h2] at ht;rw[ht,zB,zA,c]
 ·simp[c]
theorem vla(b row:List Int)(h:row.length+b.length<=100000000000000):ya b row=pure (row++b):=by
 unfold ya;rw[zD (by omega)]
theorem xd{v:Int}(row:List Int)(h0:0<=v)(h:v<=18446744073709551615)(hr:row.length<=10000000000000):zJ v row=pure (row++xC v):=by
 unfold zJ;have:=zO h;rw[vga [] h0 h (by simp),zB,zA,List.nil_append,vla _ _ (by omega),zB,zA]
theorem Bytes_eq(row:List Int)(h:row.length<=100000000000000):xB row=pure (row,row):=by
 unfold xB;rw[zD (by omega)]
theorem ql(c:Int)(row:List Int)(hr:row.length<=10000000000000):yP c row=pure (row++[c]):=by
 unfold yP;rw[vla _ _ (by simp;omega),zB,zA]
structure Sim(B:List Int)(a:Int)(s:RS):Prop where
 lo:0<=a
 hi:a<=B.length
 eq:s.2=0->s.1=B.drop a.toNat
structure OkB(B:List Int):Prop where
 by_:By B
 len:B.length<=1000000000
theorem OkB.ok{B:List Int}(h:OkB B):Ok (B,0):=⟨h.by_,h.len,fun h=>absurd rfl h⟩
theorem Sim.fail{B:List Int}{a:Int}{s:RS}(h:Sim B a s){e:Int}(he:e≠0):Sim B a (vK e s):=⟨h.lo,h.hi,fun h2=>absurd h2 (vS he)⟩
theorem Sim.bad{B:List Int}{a:Int}{s t:RS}(h:Sim B a s)(ht:t.2≠0):Sim B a t:=⟨h.lo,h.hi,fun h2=>absurd h2 ht⟩
variable{B:List Int}{a:Int}{s:RS}
theorem UT(B:List Int)(a:Int)(s:RS){e:Int}(he:e≠0):zS e B a s.2=pure (B,a,(vK e s).2):=by
 unfold zS vK
 by_cases c:s.2=0 <;> simp[c,he]
theorem yDa(hB:OkB B)(h:Sim B a s):∃ a',zw B a s.2=pure ((zg s).1,B,a',(zg s).2.2)/\Sim B a' (zg s).2:=by
 obtain⟨m,rfl⟩:=Int.eq_ofNat_of_zero_le h.lo;have hm:m<=B.length:=by have:=h.hi;omega
 unfold zw zg
 by_cases c:s.2=0
 ·have hd:=h.eq c;rw[Int.toNat_natCast] at hd;have hr:=jS s.1 (by rw[hd];exact hB.by_.drop _);rw[hd] at hr ⊢;simp only[c,decide_true,Bool.not_true,cond_false,rRead_eq B m hB.by_ (by have:=hB.len;omega) hm,zB,zA,ne_eq,not_true_eq_false,if_false]
  by_cases c2:(rdN (B.drop m)).2.2=0
  ·simp only[c2,decide_true,Bool.not_true,cond_false,if_true,not_true_eq_false,if_false];refine⟨_,rfl,by omega,?_,fun _=>?_⟩
   ·have:=hr.2.2.1;rw[List.length_drop] at this;omega
   ·rw[List.drop_drop];congr 1
  ·have:=UT B (m:Int) s c2;rw[c] at this;simp only[c2,decide_false,Bool.not_false,cond_true,if_false,this,zB,zA,not_false_eq_true,if_true];exact⟨_,rfl,h.fail c2⟩
 ·have:decide (s.2=0)=false:=by simp[c]
  simp only[this,Bool.not_false,cond_true,ne_eq,c,not_false_eq_true,if_true];exact⟨_,rfl,h⟩
theorem rUpto_eq(hB:OkB B)(h:Sim B a s)(m:Int):∃ a',yg m B a s.2=pure ((yL m s).1,B,a',(yL m s).2.2)/\Sim B a' (yL m s).2:=by
 obtain⟨a1,h1,h2⟩:=yDa hB h;unfold yg yL;rw[h1,zB,zA]
 by_cases c:m < (zg s).1
 ·rw[decide_eq_true c,cond_true,if_pos c,UT B a1 (zg s).2 (by decide),zB,zA];exact⟨_,rfl,h2.fail (by decide)⟩
 ·rw[decide_eq_false c,cond_false,if_neg c];exact⟨_,rfl,h2⟩
end Go.Ep.M.N
namespace Go.Ep.M.D
open Go
theorem Vj{a b:DT}:zU a b=true↔a.dev < b.dev\/(a.dev=b.dev/\a.n < b.n):=by simp[zU]
theorem Vk(a:DT):zU a a=false:=by
 cases h:zU a a with
 | false=>rfl
 | true=>rw[Vj] at h;omega
theorem Wu{a b c:DT}(h1:zU a b=true)(h2:zU b c=true):zU a c=true:=by rw[Vj] at *;omega
theorem VV{a b:DT}(h:zU a b=true):zU b a=false:=by
 cases h2:zU b a with
 | false=>rfl
 | true=>rw[Vj] at h h2;omega
theorem Qt{a b:DT}(h1:zU a b=false)(h2:zU b a=false):a=b:=by
 have h3:¬ (zU a b=true):=by simp[h1]
 have h4:¬ (zU b a=true):=by simp[h2]
 rw[Vj] at h3 h4
 cases a;cases b
 simp only[DT.mk.injEq] at *
 omega
abbrev Srt(l:List DT):Prop:=l.Pairwise fun x y=>zU x y=true
theorem yEa : ∀ {l l':List DT},Srt l->Srt l'->(∀ d,d∈l↔d∈l')->l=l'
 | [],[],_,_,_=>rfl
 | [],y::r,_,_,h=>by have:=(h y).2 (by simp);simp at this
 | x::r,[],_,_,h=>by have:=(h x).1 (by simp);simp at this
 | x::r,y::t,h1,h2,h=>by
  have hx:=(h x).1 (by simp);have hy:=(h y).2 (by simp);have e:x=y:=by
   rcases List.mem_cons.1 hx with e | hx
   ·exact e
   ·rcases List.mem_cons.1 hy with e | hy
    ·exact e.symm
    ·have a1:=(List.pairwise_cons.1 h2).1 x hx;have a2:=(List.pairwise_cons.1 h1).1 y hy;rw[VV a1] at a2;cases a2
  subst e
  congr 1
  refine yEa (List.pairwise_cons.1 h1).2 (List.pairwise_cons.1 h2).2 fun d=>?_
  have h3:=h d;simp only[List.mem_cons] at h3
  constructor
  ·intro hd;rcases h3.1 (.inr hd) with e | h4
   ·have:=(List.pairwise_cons.1 h1).1 d hd;rw[e,Vk] at this;cases this
   ·exact h4
  ·intro hd;rcases h3.2 (.inr hd) with e | h4
   ·have:=(List.pairwise_cons.1 h2).1 d hd;rw[e,Vk] at this;cases this
   ·exact h4
def jq(s:List DT)(d:DT):List DT:=(s.filter fun x=>zU x d)++[d]++(s.filter fun x=>zU d x)
theorem ins_mem{s:List DT}{d x:DT}:x∈jq s d↔x=d\/x∈s:=by
 simp only[jq,List.mem_append,List.mem_filter,List.mem_singleton]
 constructor
 ·rintro((h | h) | h)
  ·exact .inr h.1
  ·exact .inl h
  ·exact .inr h.1
 ·rintro(h | h)
  ·exact .inl (.inr h)
  ·cases h1:zU x d with
   | true=>exact .inl (.inl ⟨h,rfl⟩)
   | false=>
    cases h2:zU d x with
    | true=>exact .inr ⟨h,rfl⟩
    | false=>exact .inl (.inr (Qt h1 h2))
theorem ins_srt{s:List DT}(h:Srt s)(d:DT):Srt (jq s d):=by
 unfold Srt jq;rw[List.pairwise_append,List.pairwise_append];refine⟨⟨h.filter _,by simp,fun a ha b hb=>?_⟩,h.filter _,fun a ha b hb=>?_⟩
 ·rw[List.mem_singleton.1 hb];exact(List.mem_filter.1 ha).2
 ·have hb:=(List.mem_filter.1 hb).2;rcases List.mem_append.1 ha with ha | ha
  ·exact Wu (List.mem_filter.1 ha).2 hb
  ·rw[List.mem_singleton.1 ha];exact hb
theorem jT(s:List DT)(d:DT):(jq s d).length<=s.length+1:=by
 unfold jq;have h:∀ l:List DT,(l.filter fun x=>zU x d).length+(l.filter fun x=>zU d x).length<=l.length:=by
  intro l
  induction l with
  | nil=>simp
  | cons x r ih=>
   cases h1:zU x d with
   | true=>simp[h1,VV h1];omega
   | false=>
    cases h2:zU d x with
    | true=>simp[h1,h2];omega
    | false=>simp[h1,h2];omega
 have:=h s;simp;omega
def xI(l:List DT):List DT:=l.foldl jq []
theorem UU : ∀ (l s:List DT),Srt s->Srt (l.foldl jq s)/\(∀ d,d∈l.foldl jq s↔d∈s\/d∈l)/\(l.foldl jq s).length<=s.length+l.length
 | [],s,h=>⟨h,by simp,by simp⟩
 | x::r,s,h=>by
  obtain⟨h1,h2,h3⟩:=UU r (jq s x) (ins_srt h x);refine⟨h1,fun d=>?_,?_⟩
  ·rw[List.foldl_cons,h2 d,ins_mem,List.mem_cons]
   constructor
   ·rintro((h | h) | h)
    ·exact .inr (.inl h)
    ·exact .inl h
    ·exact .inr (.inr h)
   ·rintro(h | h | h)
    ·exact .inl (.inr h)
    ·exact .inl (.inl h)
    ·exact .inr h
  ·have:=jT s x;rw[List.foldl_cons,List.length_cons];omega
theorem xJa(l:List DT):Srt (xI l):=(UU l [] List.Pairwise.nil).1
theorem Wv{l:List DT}{d:DT}:d∈xI l↔d∈l:=by simpa[xI] using (UU l [] List.Pairwise.nil).2.1 d
theorem UV(l:List DT):(xI l).length<=l.length:=by simpa[xI] using (UU l [] List.Pairwise.nil).2.2
theorem vma{l:List DT}(h:Srt l):xI l=l:=yEa (xJa l) h fun _=>Wv
theorem Yq(s:List DT)(d:DT)(h:s.length<=1000000000000):ZF s d=pure (jq s d):=V.VP s d h
def ddS(out:List DT)(x:DT):List DT:=if out.getLast?=some x then out else out++[x]
def dd(l:List DT):List DT:=l.foldl ddS []
theorem jU(l:List DT)(x:DT):dd (l++[x])=ddS (dd l) x:=by simp[dd]
theorem yFa(l:List DT):(dd l).getLast?=l.getLast?:=by
 rcases R.xL l with rfl | ⟨r,y,rfl⟩
 ·rfl
 ·rw[jU];unfold ddS
  by_cases c:(dd r).getLast?=some y
  ·rw[if_pos c,c];simp
  ·rw[if_neg c];simp
theorem dd_mem{l:List DT}{d:DT}:d∈dd l↔d∈l:=by
 have:∀ (l s:List DT),d∈l.foldl ddS s↔d∈s\/d∈l:=by
  intro l
  induction l with
  | nil=>intro s;simp
  | cons x r ih=>
   intro s;rw[List.foldl_cons,ih];have h2:d∈ddS s x↔d∈s\/d=x:=by
    unfold ddS
    split
    ·rename_i h
     exact⟨.inl,fun h3=>h3.elim id fun e=>by rw[e];exact List.mem_of_getLast? h⟩
    ·simp
   rw[h2,List.mem_cons];exact or_assoc
 simpa[dd] using this l []
theorem dd_srt{l:List DT}(h:l.Pairwise fun x y=>zU y x=false):Srt (dd l):=by
 have:∀ (n:Nat) (l:List DT),l.length=n->(l.Pairwise fun x y=>zU y x=false)->Srt (dd l):=by
  intro n
  induction n with
  | zero=>intro l hl _;have:=List.eq_nil_of_length_eq_zero hl;subst this;exact List.Pairwise.nil
  | succ n ih=>
   intro l hl h;rcases R.xL l with rfl | ⟨r,y,rfl⟩
   ·simp at hl
   ·rw[List.pairwise_append] at h;have hr:=ih r (by simpa using hl) h.1;rw[jU];unfold ddS
    split
    ·exact hr
    ·rename_i hne
     unfold Srt;rw[List.pairwise_append];refine⟨hr,by simp,fun a ha b hb=>?_⟩;rw[List.mem_singleton.1 hb];have ha':=dd_mem.1 ha;have h1:=h.2.2 a ha' y (by simp)
     cases h2:zU a y with
     | true=>rfl
     | false=>
      exfalso;have e:=Qt h2 h1;subst e;rw[yFa] at hne;rcases R.xL r with rfl | ⟨q,z,rfl⟩
      ·simp at ha'
      ·have hz:zU a z=false:=h.2.2 z (by simp) a (by simp);rcases List.mem_append.1 ha' with h5 | h5
       ·have h6:zU z a=false:=by
         have:=(List.pairwise_append.1 h.1).2.2 a h5 z (by simp);exact this
        have:=Qt hz h6;subst this;simp at hne
       ·rw[List.mem_singleton.1 h5] at hne;simp at hne
 exact this l.length l rfl h
theorem Wk(l:List DT)(h:l.length<=1000000000000):yD l=pure l:=by
 unfold yD;refine uN ⟨⟨false,fun h=>by cases h⟩,fun b hb=>?_⟩
 cases b with
 | true=>show([]:List DT)=l;exact(hb rfl).symm
 | false=>
  show _/\([]++l=l)
  exact⟨by simp;omega,List.nil_append l⟩
theorem x6a(x y:DT):(decide (x.dev=y.dev)&&decide (x.n=y.n))=decide (x=y):=by
 cases x;cases y;simp[Bool.decide_and]
theorem vb{l:List DT}{m:Nat}{x:DT}(h:l[m]?=some x):l.take (m+1)=l.take m++[x]:=by
 rw[List.take_add_one,h];rfl
theorem Qu{l:List DT}{m:Nat}{x:DT}(h:l[m]?=some x):(l.take (m+1)).getLast?=some x:=by rw[vb h];simp
theorem VW(s:List DT)(k:Nat)(hk:k < s.length)(hl:s.length<=1000000000000):∀ (d k2 kk:Nat) (v:List DT),k+k2+d=s.length->1<=k2->v.length=s.length->kk+1<=k+k2->v.take kk=dd (s.take (k+k2))->v.drop (k+k2 - 1)=s.drop (k+k2 - 1) ->
  ∃ (kk':Nat) (v':List DT),loop (ze s (k:Int)) ((kk:Int),(k2:Int),v)=pure ((kk':Int),v')/\v'.length=s.length/\kk'<=s.length/\v'.take kk'=dd s
 | 0,k2,kk,v,hd,h1,hv,hkk,ht,_=>by
  refine⟨kk,v,zQ ?_,hv,by omega,by rw[ht,show k+k2=s.length by omega,List.take_length]⟩;unfold ze;have:decide ((k2:Int) < (((s.length - (k:Int).toNat:Nat)):Int))=false:=by simp;omega
  simp only[this,cond_false]
 | d+1,k2,kk,v,hd,h1,hv,hkk,ht,hdr=>by
  have hvg:∀ j,k+k2 - 1<=j->v[j]?=s[j]?:=fun j hj=>by
   have:=congrArg (fun l=>l[j - (k+k2 - 1)]?) hdr;simp only[List.getElem?_drop] at this;rw[show k+k2 - 1+(j - (k+k2 - 1))=j by omega] at this;exact this
  obtain⟨x,hx⟩:∃ x,s[k+k2]?=some x:=⟨_,List.getElem?_eq_getElem (by omega)⟩
  obtain⟨y,hy⟩:∃ y,s[k+k2 - 1]?=some y:=⟨_,List.getElem?_eq_getElem (by omega)⟩
  have hlast:(dd (s.take (k+k2))).getLast?=some y:=by
   rw[yFa];have:=Qu hy
   rwa [show k+k2 - 1+1=k+k2 by omega] at this
  have hdd:dd (s.take (k+k2+1))=if y=x then dd (s.take (k+k2)) else dd (s.take (k+k2))++[x]:=by
   rw[vb hx,jU];unfold ddS;rw[hlast]
   by_cases c:y=x
   ·rw[if_pos c,if_pos (by rw[c])]
   ·rw[if_neg c,if_neg (by intro e;exact c (Option.some.inj e))]
  have hb:ze s (k:Int) ((kk:Int),(k2:Int),v)=pure (.next (if y=x then ((kk:Int),((k2+1:Nat):Int),v) else (((kk+1:Nat):Int),((k2+1:Nat):Int),v.set kk x))):=by
   unfold ze;have hc:decide ((k2:Int) < (((s.length - (k:Int).toNat:Nat)):Int))=true:=by simp;omega
   have e1:IntKind.i64.wrap ((k2:Int) - 1)=((k2 - 1:Nat):Int):=by rw[ue (by omega) (by omega)];omega
   have i1:idx v ((((k:Int).toNat+(k2:Int).toNat:Nat)):Int)=pure x:=zF (by rw[Int.toNat_natCast,Int.toNat_natCast,hvg _ (by omega)];exact hx);have i2:idx v ((((k:Int).toNat+(((k2 - 1:Nat):Int)).toNat:Nat)):Int)=pure y:=zF (by rw[Int.toNat_natCast,Int.toNat_natCast,hvg _ (by omega),show k+(k2 - 1)=k+k2 - 1 by omega];exact hy);obtain⟨z,hz⟩:∃ z,v[kk]?=some z:=⟨_,List.getElem?_eq_getElem (by omega)⟩
   have i3:idx v (kk:Int)=pure z:=zF hz;simp only[hc,cond_true,e1];rw[zD (by simp;omega),i1,zA,zD (by simp;omega),i2,zA];simp only[x6a]
   by_cases c:y=x
   ·have c1:decide (x=y)=true:=decide_eq_true c.symm;simp only[c1,Bool.not_true,cond_false,zA,zq (show k2 < 9223372036854775807 by omega),if_pos c]
   ·have c1:decide (x=y)=false:=decide_eq_false (fun e=>c e.symm);simp only[c1,Bool.not_false,cond_true,if_neg c];rw[zD (by simp;omega),i3];simp only[zA,zq (show k2 < 9223372036854775807 by omega),zq (show kk < 9223372036854775807 by omega),Int.toNat_natCast]
  by_cases c:y=x
  ·rw[if_pos c] at hb hdd;rw[zb hb];refine VW s k hk hl d (k2+1) kk v (by omega) (by omega) hv (by omega) (by rw[ht,<- hdd];rfl) ?_;have:=congrArg (List.drop 1) hdr;rw[List.drop_drop,List.drop_drop,show k+k2 - 1+1=k+(k2+1) - 1 by omega] at this;exact this
  ·rw[if_neg c] at hb hdd;rw[zb hb];refine VW s k hk hl d (k2+1) (kk+1) (v.set kk x) (by omega) (by omega) (by simpa using hv) (by omega) ?_ ?_
   ·have h5:(v.set kk x)[kk]?=some x:=by rw[List.getElem?_set];simp;omega
    rw[vb h5,List.take_set,List.set_eq_of_length_le (by rw[List.length_take];omega),ht,<- hdd];rfl
   ·rw[List.drop_set,if_pos (by omega)];have:=congrArg (List.drop 1) hdr;rw[List.drop_drop,List.drop_drop,show k+k2 - 1+1=k+(k2+1) - 1 by omega] at this;exact this
theorem x7a(s:List DT)(hl:s.length<=1000000000000):zp s=pure (dd s):=by
 unfold zp
 by_cases h2:s.length < 2
 ·have:decide ((s.length:Int) < 2)=true:=by simp;omega
  rw[this,cond_true]
  match s,h2 with
  | [],_=>rfl
  | [x],_=>rfl
 ·have:decide ((s.length:Int) < 2)=false:=by simp;omega
  rw[this,cond_false];have key:∀ d k,k+d=s.length->1<=k->dd (s.take k)=s.take k->(loop (zf s) (k:Int)).bind (exk fun _=>pure s)=pure (dd s):=by
   intro d
   induction d with
   | zero=>
    intro k hk h1 hd;rw[zQ (r:=.brk ()) (by
     unfold zf;have:decide ((k:Int) < (s.length:Int))=false:=by simp;omega
     simp only[this,cond_false])]
    rw[show k=s.length by omega,List.take_length] at hd;show pure s=pure (dd s);rw[hd]
   | succ d ih=>
    intro k hk h1 hd;obtain⟨x,hx⟩:∃ x,s[k]?=some x:=⟨_,List.getElem?_eq_getElem (by omega)⟩
    obtain⟨y,hy⟩:∃ y,s[k - 1]?=some y:=⟨_,List.getElem?_eq_getElem (by omega)⟩
    have hlast:(dd (s.take k)).getLast?=some y:=by
     rw[yFa];have:=Qu hy
     rwa [show k - 1+1=k by omega] at this
    have hc:decide ((k:Int) < (s.length:Int))=true:=by simp;omega
    have i1:idx s (k:Int)=pure x:=zF hx;have i2:idx s (IntKind.i64.wrap ((k:Int) - 1))=pure y:=by
     rw[ue (by omega) (by omega)];exact YO (by omega) (by rw[show((k:Int) - 1).toNat=k - 1 by omega];exact hy)
    by_cases c:x=y
    ·subst c;obtain⟨kk,v,h5,h6,h7,h8⟩:=VW s k (by omega) hl d 1 k s (by omega) (by omega) rfl (by omega) (by
      rw[vb hx,jU,ddS,if_pos hlast,hd]) (by rw[show k+1 - 1=k by omega])
     rw[zQ (r:=.ret (dd s)) (by
      unfold zf;simp only[hc,cond_true,i1,i2,zA,x6a,decide_true];rw[zD (by omega),show(1:Int)=((1:Nat):Int) from rfl,h5,zA];simp only[];rw[zD (by omega),zD (by simp;omega),zD (by
       simp only[List.length_append,List.length_take,List.length_replicate,List.length_drop,Int.toNat_natCast];omega),zA,Ja]
      congr 3
      rw[Int.toNat_natCast,List.append_assoc,List.take_append_of_le_length (by rw[List.length_take];omega),List.take_take,Nat.min_self,h8])]
     rfl
    ·have c1:decide (x=y)=false:=decide_eq_false c;rw[zb (s':=((k+1:Nat):Int)) (by
      unfold zf;simp only[hc,cond_true,i1,i2,zA,x6a,c1,cond_false,Ze,zq (show k < 9223372036854775807 by omega)])]
     refine ih (k+1) (by omega) (by omega) ?_;rw[vb hx,jU,ddS,if_neg (by rw[hlast];intro e;exact c (Option.some.inj e).symm),hd]
  have:=key (s.length - 1) 1 (by omega) (by omega) (by
   obtain⟨x,r,rfl⟩:∃ x r,s=x::r:=by
    cases s with
    | nil=>simp at h2
    | cons x r=>exact⟨x,r,rfl⟩
   rfl)
  exact this
theorem vQa{l:List DT}{Q:List DT->Prop}(h:∀ s,s.Perm l->(s.Pairwise fun x y=>zU y x=false)->Q s):(srt zU l).wp Q:=by
 refine⟨⟨l.mergeSort (fun x y=>!zU y x),List.mergeSort_perm _ _,?_⟩,fun s ⟨h1,h2⟩=>h s h1 h2⟩;refine(List.pairwise_mergeSort (fun a b c h1 h2=>?_) (fun a b=>?_) l).imp fun {x y} h=>by simpa using h
 ·simp only[Bool.not_eq_true'] at h1 h2 ⊢
  cases h3:zU c a with
  | false=>rfl
  | true=>
   rw[Vj] at h3;have h4:¬ (zU b a=true):=by simp[h1]
   have h5:¬ (zU c b=true):=by simp[h2]
   rw[Vj] at h4 h5;omega
 ·cases h1:zU b a with
  | false=>rfl
  | true=>rw[VV h1];rfl
theorem yGa(l:List DT)(h:l.length<=1000000000000):XD l=pure (xI l):=by
 unfold XD;rw[Wk l h,zB,zA,zD (by omega)];refine uN (vQa fun s hs hp=>?_);show(bind (det (zp s)) fun y8=>pure y8).wp _;rw[x7a s (by rw[hs.length_eq];exact h),zB,zA];exact yEa (dd_srt hp) (xJa l) fun d=>by rw[dd_mem,Wv];exact hs.mem_iff
theorem cmp16_eq(x y:Int):xR x y=pure (R.vRa x y):=by
 unfold xR wH R.vRa;simp only[decide_true,Bool.not_true,zB,zA,cond_false,yu]
 split
 ·rfl
 ·split <;> rfl
theorem vna(a b:DT):Zg a b=pure (V.z3a a b):=by
 unfold Zg;rw[cmp16_eq,zB,zA,R.vSa,zB,zA];unfold V.z3a R.vRa
 cases a with | mk d n=>cases b with | mk e m=>
 simp only[DT.mk.injEq,zU]
 by_cases h1:d < e
 ·have:¬ d=e:=by omega
  simp[h1,this]
 ·by_cases h2:e < d
  ·have:¬ d=e:=by omega
   simp[h1,h2,this]
  ·have h3:d=e:=by omega
   subst h3
   by_cases h4:n < m
   ·have:¬ n=m:=by omega
    simp[h4,this]
   ·by_cases h5:m < n
    ·have:¬ n=m:=by omega
     simp[h4,h5,this]
    ·have:n=m:=by omega
     simp[this]
theorem YA{σ ρ ε:Type}{body:σ->M (Step σ ρ)}(l:List ε)(f:ε->List Int)(row:List Int)(N:Nat)(mk:Nat->List Int->σ)(g:List Int->M ρ)(hN:row.length+(l.flatMap f).length<=N)
  (h1:∀ (i:Nat) (x:ε) (out:List Int),l[i]?=some x->i < l.length->out.length+(f x).length<=N->body (mk i out)=pure (.next (mk (i+1) (out++f x))))
  (h2:∀ out,body (mk l.length out)=(g out).bind fun r=>pure (.done r)):loop body (mk 0 row)=g (row++l.flatMap f):=by
 have key:∀ (k i:Nat) (out:List Int),i+k=l.length->out.length+((l.drop i).flatMap f).length<=N->loop body (mk i out)=g (out++(l.drop i).flatMap f):=by
  intro k
  induction k with
  | zero=>
   intro i out hi _;have:i=l.length:=by omega
   subst this;rw[Ue,h2,List.drop_length];simp only[List.flatMap_nil,List.append_nil]
   rfl
  | succ k ih=>
   intro i out hi hl;have hlt:i < l.length:=by omega
   rw[List.drop_eq_getElem_cons hlt,List.flatMap_cons,List.length_append] at hl;rw[zb (h1 i l[i] out (List.getElem?_eq_getElem hlt) hlt (by omega)),ih (i+1) _ (by omega) (by rw[List.length_append];omega),List.drop_eq_getElem_cons hlt,List.flatMap_cons,List.append_assoc]
 simpa using key l.length 0 row (by omega) (by simpa using hN)
theorem yv{ε:Type}(l:List ε)(f:ε->List Int)(k:Nat)(h:∀ x∈l,(f x).length<=k):(l.flatMap f).length<=k*l.length:=by
 induction l with
 | nil=>simp
 | cons x r ih=>
  have h1:=h x (by simp);have h2:=ih fun y hy=>h y (by simp[hy])
  rw[List.flatMap_cons,List.length_append,List.length_cons,Nat.mul_add];omega
structure OkD(d:DT):Prop where
 d0:0<=d.dev
 d1:d.dev<=65535
 n0:0<=d.n
 n1:d.n<=18446744073709551615
def encD(d:DT):List Int:=N.xC d.dev++N.xC d.n
theorem Xa{d:DT}(h:OkD d):(encD d).length<=18:=by
 have h1:=N.zO (v:=d.dev) (by have:=h.d1;omega);have h2:=N.zO (v:=d.n) h.n1;rw[encD,List.length_append];omega
theorem Qv{d:DT}(h:OkD d)(row:List Int)(hr:row.length<=1000000000000):xx d row=pure (row++encD d):=by
 have h1:=N.zO (v:=d.dev) (by have:=h.d1;omega);unfold xx;rw[ZA h.d0 (by have:=h.d1;omega),N.xd row h.d0 (by have:=h.d1;omega) (by omega),zB,zA,N.xd _ h.n0 h.n1 (by rw[List.length_append];omega),zB,zA,encD,List.append_assoc]
theorem JM{d:DT}(h:OkD d)(row:List Int)(hr:row.length<=1000000000000):ZQ row d=pure (row++encD d):=by
 have h1:=N.zO (v:=d.dev) (by have:=h.d1;omega);unfold ZQ;rw[ZA h.d0 (by have:=h.d1;omega),N.yB row h.d0 (by have:=h.d1;omega) (by omega),zB,zA,N.yB _ h.n0 h.n1 (by rw[List.length_append];omega),zB,zA,encD,List.append_assoc]
def wY(l:List DT):List DT:=l.filter V.yJ
def Vo(l:List DT):List Int:=N.xC (xI (wY l)).length++(xI (wY l)).flatMap encD
theorem voa(l : List DT)(hl : l.length<=1000000000000) : loop (yl l) (0, [])=pure (wY l) := by
  have := ZW (body := yl l) l (fun i t => ((i : Int), t)) (fun t d => if V.yJ d=true then t++[d] else t) (fun t => pure t) (fun i t => t.length<=i) (fun i x t hx hi hI => by
    have hd : decide ((i : Int) < (l.length : Int))=true := by simpa using hi
    refine ⟨?_, by split
                   · simp; omega
                   · omega⟩
    unfold yl;simp only[hd, cond_true, zF hx, zA, V.ug, zB, zq (show i < 9223372036854775807 by omega)]
    by_cases c : V.yJ x=true
    · rw[c, cond_true, zD (by simp; omega), zA, if_pos rfl]
    · simp only[Bool.not_eq_true] at c;rw[c, cond_false, zA]; rfl) (fun t _ => by
    unfold yl;simp[zA]) [] (by simp)
  rw[show(0 : Int)=((0 : Nat) : Int) from rfl, this]
  congr 1
  have key : ∀ (l t : List DT), l.foldl (fun t d => if V.yJ d=true then t++[d] else t) t=t++wY l := by
    intro l
    induction l with
    | nil => intro t; simp[wY]
    | cons x r ih =>
      intro t;rw[List.foldl_cons, ih];unfold wY
      by_cases c : V.yJ x=true
      · rw[if_pos c, List.filter_cons_of_pos c, List.append_assoc]; rfl
      · rw[if_neg c, List.filter_cons_of_neg c]
  simpa using key l []
theorem good_mem{l:List DT}{d:DT}:d∈xI (wY l)↔d∈l/\V.yJ d=true:=by rw[Wv,wY,List.mem_filter]
theorem UW(l:List DT):(xI (wY l)).length<=l.length:=Nat.le_trans (UV _) (List.length_filter_le _ _)
theorem Ww{l:List DT}(h:∀ d∈l,OkD d):∀ d∈xI (wY l),OkD d:=fun d hd=>h d (good_mem.1 hd).1
theorem vpa{l:List DT}(h:∀ d∈l,OkD d)(hl:l.length<=1000000000000):(Vo l).length<=9+18*l.length:=by
 have h1:=N.zO (v:=((xI (wY l)).length:Int)) (by have:=UW l;omega);have h2:=yv (xI (wY l)) encD 18 fun x hx=>Xa (Ww h x hx)
 have h3:=UW l;rw[Vo,List.length_append];omega
theorem x8a{l:List DT}(h:∀ d∈l,OkD d)(hl:l.length<=1000000000)(row:List Int)(hr:row.length<=100000000000):wk l row=pure (row++Vo l):=by
 have h3:=UW l;have h1:=N.zO (v:=((xI (wY l)).length:Int)) (by omega);have h2:=yv (xI (wY l)) encD 18 fun x hx=>Xa (Ww h x hx)
 unfold wk;rw[voa l (by omega),zA,yGa _ (by have:=List.length_filter_le V.yJ l;unfold wY;omega),zB,zA,ZA (by omega) (by omega),N.xd row (by omega) (by omega) (by omega),zB,zA];have:=YA (body:=xU (xI (wY l))) (xI (wY l)) encD (row++N.xC ((xI (wY l)).length:Int)) 1000000000000 (fun i out=>((i:Int),out)) (fun t=>pure t) (by rw[List.length_append];omega) (fun i x out hx hi ho=>by
  have hd:decide ((i:Int) < ((xI (wY l)).length:Int))=true:=by simpa using hi
  unfold xU;simp only[hd,cond_true,zF hx,zA,Qv (Ww h x (List.mem_of_getElem? hx)) out (by omega),zB,zq (show i < 9223372036854775807 by omega)]) (fun out=>by
  unfold xU;simp[zA])
 rw[show(0:Int)=((0:Nat):Int) from rfl,this,Vo,List.append_assoc]
theorem VX(l : List DT)(hl : l.length<=1000000000000) : loop (xy l) ([], 0)=pure (xI (wY l)) := by
  have := ZW (body := xy l) l (fun i t => (t, (i : Int))) (fun t d => if V.yJ d=true then jq t d else t) (fun t => pure t) (fun i t => t.length<=i) (fun i x t hx hi hI => by
    have hd : decide ((i : Int) < (l.length : Int))=true := by simpa using hi
    refine ⟨?_, by split
                   · have := jT t x; omega
                   · omega⟩
    unfold xy;simp only[hd, cond_true, zF hx, zA, V.vG, zB, zq (show i < 9223372036854775807 by omega)]
    by_cases c : V.yJ x=true
    · rw[c, cond_true, Yq t x (by omega), zB, zA, zA, if_pos rfl]
    · simp only[Bool.not_eq_true] at c;rw[c, cond_false, zA]; rfl) (fun t _ => by
    unfold xy;simp[zA]) [] (by simp)
  rw[show(0 : Int)=((0 : Nat) : Int) from rfl, this]
  congr 1
  have key : ∀ (l t : List DT), l.foldl (fun t d => if V.yJ d=true then jq t d else t) t=(wY l).foldl jq t := by
    intro l
    induction l with
    | nil => intro t; rfl
    | cons x r ih =>
      intro t;rw[List.foldl_cons, ih];unfold wY
      by_cases c : V.yJ x=true
      · rw[if_pos c, List.filter_cons_of_pos c]; rfl
      · rw[if_neg c, List.filter_cons_of_neg c]
  exact key l []
theorem yHa{l:List DT}(h:∀ d∈l,OkD d)(hl:l.length<=1000000000)(row:List Int)(hr:row.length<=100000000000):Zq row l=pure (row++Vo l):=by
 have h3:=UW l;have h1:=N.zO (v:=((xI (wY l)).length:Int)) (by omega);have h2:=yv (xI (wY l)) encD 18 fun x hx=>Xa (Ww h x hx)
 unfold Zq;rw[VX l (by omega),zA,ZA (by omega) (by omega),N.yB row (by omega) (by omega) (by omega),zB,zA];have:=YA (body:=vQ (xI (wY l))) (xI (wY l)) encD (row++N.xC ((xI (wY l)).length:Int)) 1000000000000 (fun i out=>(out,(i:Int))) (fun t=>pure t) (by rw[List.length_append];omega) (fun i x out hx hi ho=>by
  have hd:decide ((i:Int) < ((xI (wY l)).length:Int))=true:=by simpa using hi
  unfold vQ;simp only[hd,cond_true,zF hx,zA,JM (Ww h x (List.mem_of_getElem? hx)) out (by omega),zB,zq (show i < 9223372036854775807 by omega)]) (fun out=>by
  unfold vQ;simp[zA])
 rw[show(0:Int)=((0:Nat):Int) from rfl,this,zA,Vo,List.append_assoc]
def zQa(x:RN):List Int:=N.xC x.lo++N.xC x.hi
def encP(p:PT):List Int:=N.xC p.dev++(N.xC p.runs.length++p.runs.flatMap zQa)
def wPa(c:List PT):List Int:=N.xC c.length++c.flatMap encP
def qn(c:List PT):List Int:=wPa (C.yT c)
structure OkP(p:PT):Prop where
 d0:0<=p.dev
 d1:p.dev<=65535
 r:∀ x∈p.runs,(0<=x.lo/\x.lo<=18446744073709551615)/\0<=x.hi/\x.hi<=18446744073709551615
theorem qp{x:RN}(h:(0<=x.lo/\x.lo<=18446744073709551615)/\0<=x.hi/\x.hi<=18446744073709551615):(zQa x).length<=18:=by
 have h1:=N.zO h.1.2;have h2:=N.zO h.2.2;rw[zQa,List.length_append];omega
theorem encP_len{p:PT}(h:OkP p)(hl:p.runs.length<=1000000000000):(encP p).length<=18+18*p.runs.length:=by
 have h1:=N.zO (v:=p.dev) (by have:=h.d1;omega);have h2:=N.zO (v:=(p.runs.length:Int)) (by omega);have h3:=yv p.runs zQa 18 fun x hx=>qp (h.r x hx)
 rw[encP,List.length_append,List.length_append];omega
theorem jV(c:List PT)(h:∀ p∈c,OkP p)(hl:C.xW c<=1000000000000):(c.flatMap encP).length<=18*c.length+18*C.xW c:=by
 induction c with
 | nil=>simp
 | cons p r ih=>
  have e:C.xW (p::r)=p.runs.length+C.xW r:=by simp[C.xW]
  have h1:=encP_len (h p (by simp)) (by omega);have h2:=ih (fun q hq=>h q (by simp[hq])) (by omega);rw[List.flatMap_cons,List.length_append,List.length_cons,e];omega
theorem qq{c:List PT}(h:∀ p∈c,OkP p)(hc:c.length<=1000000000000)(hl:C.xW c<=1000000000000):(wPa c).length<=9+18*c.length+18*C.xW c:=by
 have h1:=N.zO (v:=(c.length:Int)) (by omega);have h2:=jV c h hl;rw[wPa,List.length_append];omega
theorem qr{c:List PT}(h:∀ p∈c,p.dev<=65535):∀ p∈C.yT c,OkP p:=fun p hp=>by
 have h1:=(C.uI c).nf p hp;refine⟨by omega,?_,fun x hx=>?_⟩
 ·have h2:=(C.vH.1 hp).1;obtain⟨q,hq,e⟩:=(C.vA.1 h2).1;rw[<- e];exact h q hq
 ·have:=R.zh.1 (h1.2.2.may x hx);omega
theorem vqa{c:List PT}(ho:C.Ok c)(h:∀ p∈c,p.dev<=65535)(hs:c.length<=100000000/\C.xW c<=100000000)(row:List Int)(hr:row.length<=100000000000):xK c row=pure (row++qn c):=by
 have hn:=C.Yj c;have ht:=C.Yk c;have hp:=qr h;have hl:=qq hp (by omega) (by omega);have h9:=N.zO (v:=((C.yT c).length:Int)) (by omega);have hf:=jV (C.yT c) hp (by omega);unfold xK;rw[C.VT c ho.sm,zB,zA,ZA (by omega) (by omega),N.xd row (by omega) (by omega) (by omega),zB,zA];have:=YA (body:=xi (C.yT c)) (C.yT c) encP (row++N.xC ((C.yT c).length:Int)) 1000000000000 (fun i out=>((i:Int),out)) (fun t=>pure t) (by rw[List.length_append];omega) (fun i p out hx hi hout=>by
  have hd:decide ((i:Int) < ((C.yT c).length:Int))=true:=by simpa using hi
  have hm:=List.mem_of_getElem? hx;have hpp:=hp p hm;have hrl:p.runs.length<=1000000000:=by have:=C.Qn p hm;omega
  have e1:=N.zO (v:=p.dev) (by have:=hpp.d1;omega);have e2:=N.zO (v:=(p.runs.length:Int)) (by omega);have e3:=yv p.runs zQa 18 fun x hx=>qp (hpp.r x hx)
  unfold xi;simp only[hd,cond_true,zF hx,zA];rw[ZA hpp.d0 (by have:=hpp.d1;omega),N.xd out hpp.d0 (by have:=hpp.d1;omega) (by omega),zB,zA,ZA (by omega) (by omega),N.xd _ (by omega) (by omega) (by rw[List.length_append];omega),zB,zA];have:=YA (body:=xh p) p.runs zQa (out++N.xC p.dev++N.xC (p.runs.length:Int)) 2000000000000 (fun i out=>((i:Int),out)) (fun t=>pure t) (by rw[List.length_append,List.length_append];omega) (fun j x out2 hx2 hj hout2=>by
   have hd2:decide ((j:Int) < (p.runs.length:Int))=true:=by simpa using hj
   have hxr:=hpp.r x (List.mem_of_getElem? hx2);have e4:=N.zO hxr.1.2;unfold xh;simp only[hd2,cond_true,zF hx2,zA];rw[N.xd out2 hxr.1.1 hxr.1.2 (by omega),zB,zA,N.xd _ hxr.2.1 hxr.2.2 (by rw[List.length_append];omega),zB,zA,zq (show j < 9223372036854775807 by omega),zQa,List.append_assoc]) (fun out=>by
   unfold xh;simp[zA])
  rw[show(0:Int)=((0:Nat):Int) from rfl,this,zA,zq (show i < 9223372036854775807 by omega),encP];simp only[List.append_assoc]) (fun out=>by
  unfold xi;simp[zA])
 rw[show(0:Int)=((0:Nat):Int) from rfl,this,qn,wPa,List.append_assoc]
theorem x9a{c:List PT}(ho:C.Ok c)(h:∀ p∈c,p.dev<=65535)(hs:c.length<=100000000/\C.xW c<=100000000)(row:List Int)(hr:row.length<=100000000000):uG row c=pure (row++qn c):=by
 have hn:=C.Yj c;have ht:=C.Yk c;have hp:=qr h;have hl:=qq hp (by omega) (by omega);have h9:=N.zO (v:=((C.yT c).length:Int)) (by omega);have hf:=jV (C.yT c) hp (by omega);unfold uG;rw[C.xBa c ho,zB,zA,ZA (by omega) (by omega),N.yB row (by omega) (by omega) (by omega),zB,zA];have:=YA (body:=vw (C.yT c)) (C.yT c) encP (row++N.xC ((C.yT c).length:Int)) 1000000000000 (fun i out=>(out,(i:Int))) (fun t=>pure t) (by rw[List.length_append];omega) (fun i p out hx hi hout=>by
  have hd:decide ((i:Int) < ((C.yT c).length:Int))=true:=by simpa using hi
  have hm:=List.mem_of_getElem? hx;have hpp:=hp p hm;have hrl:p.runs.length<=1000000000:=by have:=C.Qn p hm;omega
  have e1:=N.zO (v:=p.dev) (by have:=hpp.d1;omega);have e2:=N.zO (v:=(p.runs.length:Int)) (by omega);have e3:=yv p.runs zQa 18 fun x hx=>qp (hpp.r x hx)
  unfold vw;simp only[hd,cond_true,zF hx,zA];rw[ZA hpp.d0 (by have:=hpp.d1;omega),N.yB out hpp.d0 (by have:=hpp.d1;omega) (by omega),zB,zA,ZA (by omega) (by omega),N.yB _ (by omega) (by omega) (by rw[List.length_append];omega),zB,zA];have:=YA (body:=vv (C.yT c) (i:Int)) p.runs zQa (out++N.xC p.dev++N.xC (p.runs.length:Int)) 2000000000000 (fun i out=>(out,(i:Int))) (fun t=>pure t) (by rw[List.length_append,List.length_append];omega) (fun j x out2 hx2 hj hout2=>by
   have hd2:decide ((j:Int) < (p.runs.length:Int))=true:=by simpa using hj
   have hxr:=hpp.r x (List.mem_of_getElem? hx2);have e4:=N.zO hxr.1.2;unfold vv;simp only[hd2,cond_true,zF hx,zF hx2,zA];rw[N.yB out2 hxr.1.1 hxr.1.2 (by omega),zB,zA,N.yB _ hxr.2.1 hxr.2.2 (by rw[List.length_append];omega),zB,zA,zq (show j < 9223372036854775807 by omega),zQa,List.append_assoc]) (fun out=>by
   unfold vv;simp[zF hx,zA])
  rw[show(0:Int)=((0:Nat):Int) from rfl,this,zA,zq (show i < 9223372036854775807 by omega),encP];simp only[List.append_assoc]) (fun out=>by
  unfold vw;simp[zA])
 rw[show(0:Int)=((0:Nat):Int) from rfl,this,zA,qn,wPa,List.append_assoc]
open N (RS Ok zg yL vK OkB Sim)
def Vp(c:Bool)(s:RS):RS:=if c=true then vK 4 s else s
def fin{α:Type}(z x:α)(t:RS):α×RS:=if t.2≠0 then (z,t) else (x,t)
theorem yIa(e:Int)(s:RS):(vK e s).1.length<=s.1.length:=by unfold vK;split <;> simp
theorem vra{s:RS}(h:Ok s)(c:Bool):Ok (Vp c s):=by unfold Vp;split;exact N.Xz h _;exact h
theorem bad4_le(c:Bool)(s:RS):(Vp c s).1.length<=s.1.length:=by unfold Vp;split;exact yIa _ _;exact Nat.le_refl _
theorem yJa{c:Bool}{s:RS}(h:(Vp c s).2=0):c=false/\s.2=0/\Vp c s=s:=by
 unfold Vp at h ⊢
 cases c with
 | true=>exact absurd h (N.vS (by decide))
 | false=>exact⟨rfl,h,rfl⟩
theorem vsa{c:Bool}{s:RS}(h:s.2≠0):Vp c s=s:=by unfold Vp;split;exact N.fail_of 4 h;rfl
theorem xKa{α:Type}(z x:α)(t:RS):(fin z x t).2=t:=by unfold fin;split <;> rfl
theorem Qw{α:Type}{z x:α}{t:RS}(h:t.2=0):fin z x t=(x,t):=if_neg (by simp[h])
theorem yKa{α:Type}{z x:α}{t:RS}(h:t.2≠0):fin z x t=(z,t):=if_pos h
theorem vta(c:Bool)(s:RS):((cond c ((det (zX 4 s.1 s.2)).bind fun y=>pure (y.1,y.2)) (pure (s.1,s.2))):M RS)=pure (Vp c s):=by
 cases c with
 | true=>rw[cond_true,N.VU,zB,zA];rfl
 | false=>rfl
theorem pbad_neg(c:Bool)(s:RS):((cond (!c) ((det (zX 4 s.1 s.2)).bind fun y=>pure (y.1,y.2)) (pure (s.1,s.2))):M RS)=pure (Vp (!c) s):=vta (!c) s
theorem pfin_eq{α:Type}(z x:α)(t:RS):((det (yI t.1 t.2)).bind fun y=>(cond (!decide (y.1=0)) (pure (z,y.2.1,y.2.2)) (pure (x,y.2.1,y.2.2)):M (α×List Int×Int)))=pure (fin z x t):=by
 rw[N.xHa,zB,zA]
 by_cases h:t.2=0
 ·rw[Qw h,decide_eq_true h];rfl
 ·rw[yKa h,decide_eq_false h];rfl
theorem vua(B:List Int)(a:Int)(c:Bool)(s:RS):((cond c ((det (zS 4 B a s.2)).bind fun y=>pure (y.1,y.2.1,y.2.2)) (pure (B,a,s.2))):M (List Int×Int×Int))=pure (B,a,(Vp c s).2):=by
 cases c with
 | true=>rw[cond_true,N.UT B a s (by decide),zB,zA];rfl
 | false=>rfl
theorem xLa{B:List Int}{a:Int}{s:RS}(h:Sim B a s)(c:Bool):Sim B a (Vp c s):=by unfold Vp;split;exact h.fail (by decide);exact h
theorem vva(e:Int)(m:M Bool)(q:Bool)(h:m=pure q):(cond (decide (e=0)) m (pure false):M Bool)=pure (decide (e=0)&&q):=by rw[h,zj]
theorem xMa(q:Bool)(s:RS):Vp (decide (s.2=0)&&q) s=Vp q s:=by
 by_cases h:s.2=0
 ·rw[decide_eq_true h,Bool.true_and]
 ·rw[decide_eq_false h,Bool.false_and,vsa h,vsa h]
theorem vwa(s:RS):(zg s).2.1.length<=s.1.length:=by
 unfold zg
 split
 ·exact Nat.le_refl _
 ·split
  ·exact yIa _ _
  ·simp
theorem num_lt{s:RS}(hO:Ok s)(h0:s.2=0)(h:(zg s).2.2=0):(zg s).2.1.length+1<=s.1.length:=by
 unfold zg at h ⊢;rw[if_neg (by simp[h0])] at h ⊢
 by_cases c:(N.rdN s.1).2.2=0
 ·rw[if_neg (by simp[c])];rcases N.jR s.1 hO.by_ with(h1 | h1) | ⟨n,r,h1,h2,h3,h4,_,h5⟩
  ·rw[h1] at c;simp at c
  ·rw[h1] at c;simp at c
  ·rw[h5,h1];simp
 ·rw[if_pos c] at h;exact absurd h (N.vS c)
theorem qu{s:RS}(h:(zg s).2.2≠0):(zg s).1=0:=by
 unfold zg at h ⊢
 by_cases c:s.2≠0
 ·rw[if_pos c]
 ·rw[if_neg c] at h ⊢
  by_cases c2:(N.rdN s.1).2.2≠0
  ·rw[if_pos c2]
  ·rw[if_neg c2] at h;exact absurd rfl h
theorem upto_le(m:Int)(s:RS):(yL m s).2.1.length<=s.1.length:=by
 have h1:=vwa s;have h2:=yIa 4 (zg s).2;unfold yL
 by_cases c:m < (zg s).1
 ·rw[if_pos c];exact Nat.le_trans h2 h1
 ·rw[if_neg c];exact h1
theorem num_bad{s:RS}(h:s.2≠0):(zg s).2=s:=by rw[N.num_of h]
theorem Qy{s:RS}(h:(zg s).2.2=0):s.2=0:=Classical.byContradiction fun c=>by rw[num_bad c] at h;exact c h
theorem yLa{m:Int}{s:RS}(h:(yL m s).2.2=0):(zg s).2.2=0/\yL m s=zg s:=by
 unfold yL at h ⊢
 by_cases c:m < (zg s).1
 ·rw[if_pos c] at h;exact absurd h (N.vS (by decide))
 ·rw[if_neg c] at h ⊢;exact⟨h,rfl⟩
def vxa(s:RS):DT:=⟨(yL 65535 s).1,(zg (yL 65535 s).2).1⟩
def dotT(s:RS):RS:=Vp (!V.yJ (vxa s)) (zg (yL 65535 s).2).2
def ul(s:RS):DT×RS:=fin ⟨0,0⟩ (vxa s) (dotT s)
theorem Qz{s:RS}(h:Ok s):Ok (ul s).2/\OkD (ul s).1/\OkD (vxa s):=by
 obtain⟨h1,h2,h3⟩:=N.qj h (m:=65535) (by decide);obtain⟨h4,h5,h6⟩:=N.Yp h1;have ht:Ok (dotT s):=vra h4 _;have hr:OkD (vxa s):=⟨h2,h3,h5,h6⟩
 unfold ul
 by_cases c:(dotT s).2=0
 ·rw[Qw c];exact⟨ht,hr,hr⟩
 ·rw[yKa c];exact⟨ht,⟨Int.le_refl _,by simp,Int.le_refl _,by simp⟩,hr⟩
theorem xNa{s:RS}(h:(ul s).2.2=0):V.yJ (ul s).1=true/\(yL 65535 s).2.2=0/\(zg (yL 65535 s).2).2.2=0/\ul s=(vxa s,(zg (yL 65535 s).2).2):=by
 unfold ul at h ⊢;rw[xKa] at h;rw[Qw h];obtain⟨h1,h2,h3⟩:=yJa h;refine⟨by simpa using h1,Qy h2,h2,?_⟩;show(vxa s,dotT s)=_;rw[show dotT s=(zg (yL 65535 s).2).2 from h3]
theorem dot_le(s:RS):(ul s).2.1.length<=s.1.length:=by
 unfold ul;rw[xKa];exact Nat.le_trans (bad4_le _ _) (Nat.le_trans (vwa _) (upto_le _ _))
theorem dot_lt{s:RS}(hO:Ok s)(h0:s.2=0)(h:(ul s).2.2=0):(ul s).2.1.length+1<=s.1.length:=by
 obtain⟨_,h1,h2,h3⟩:=xNa h;obtain⟨h4,h5⟩:=yLa h1;rw[h3];have h6:=vwa (yL 65535 s).2;rw[h5] at h6 ⊢;have h7:=num_lt hO h0 h4;exact Nat.le_trans (Nat.add_le_add_right h6 1) h7
theorem Dot_eq{s:RS}(h:Ok s):Xv s.1 s.2=pure (ul s):=by
 obtain⟨h1,h2,h3⟩:=N.qj h (m:=65535) (by decide);unfold Xv ul;rw[N.Upto_eq h,zB,zA,N.xIa h1,zB,zA,wU16 h2 h3,V.ug,zB,zA];have e:=pbad_neg (V.yJ (vxa s)) (zg (yL 65535 s).2).2;unfold vxa at e;rw[e,zA];exact pfin_eq _ _ _
variable{B:List Int}{a:Int}{s:RS}
theorem rDot_eq(hB:OkB B)(hO:Ok s)(h:Sim B a s):∃ a',Ur B a s.2=pure ((ul s).1,B,a',(ul s).2.2)/\Sim B a' (ul s).2:=by
 obtain⟨h1,h2,h3⟩:=N.qj hO (m:=65535) (by decide);obtain⟨a1,e1,s1⟩:=N.rUpto_eq hB h 65535;obtain⟨a2,e2,s2⟩:=N.yDa hB s1;unfold Ur ul;rw[e1,zB,zA,e2,zB,zA,wU16 h2 h3];have e3:=vva (zg (yL 65535 s).2).2.2 ((det (vP ⟨(yL 65535 s).1,(zg (yL 65535 s).2).1⟩)).bind fun v10=>pure (!v10)) (!V.yJ (vxa s)) (by rw[V.vG,zB,zA];rfl);have e4:=vua B a2 (decide ((zg (yL 65535 s).2).2.2=0)&&!V.yJ (vxa s)) (zg (yL 65535 s).2).2;rw[xMa] at e4;simp only[] at e3 e4 ⊢;rw[e3,zA,e4,zA];rw[xKa];refine⟨a2,?_,xLa s2 _⟩;show(cond (!decide ((dotT s).2=0)) (pure (⟨0,0⟩,B,a2,(dotT s).2)) (pure (vxa s,B,a2,(dotT s).2)):M _)=_
 by_cases c:(dotT s).2=0
 ·rw[Qw c,decide_eq_true c];rfl
 ·rw[yKa c,decide_eq_false c];rfl
def jW(out:List DT)(x:DT):Bool:=match out.getLast? with | some y=>decide (0<=V.z3a y x) | none=>false
def uq(out:List DT)(s:RS):RS:=Vp (jW out (ul s).1) (ul s).2
def zm : Nat->List DT->RS->List DT×RS
 | 0,out,s=>(out,s)
 | k+1,out,s=>if (uq out s).2≠0 then ([],uq out s) else zm k (out++[(ul s).1]) (uq out s)
def wc(most:Int)(s:RS):List DT×RS:=if max most 0 < (zg s).1 then ([],vK 3 (zg s).2) else zm (zg s).1.toNat [] (zg s).2
theorem Yr{k:Nat}{out:List DT}{s:RS}(h:(uq out s).2≠0):zm (k+1) out s=([],uq out s):=if_pos h
theorem ZZ{k:Nat}{out:List DT}{s:RS}(h:(uq out s).2=0):zm (k+1) out s=zm k (out++[(ul s).1]) (uq out s):=if_neg (by simp[h])
theorem Wx{s:RS}(h:Ok s)(out:List DT):Ok (uq out s):=vra (Qz h).1 _
theorem xOa : ∀ (k:Nat) (out:List DT) (s:RS),Ok s->Ok (zm k out s).2
 | 0,_,_,h=>h
 | k+1,out,s,h=>by
  by_cases c:(uq out s).2=0
  ·rw[ZZ c];exact xOa k _ _ (Wx h out)
  ·rw[Yr c];exact Wx h out
theorem vYa{s:RS}(h:Ok s)(most:Int):Ok (wc most s).2:=by
 have h1:=N.Yp h;unfold wc
 split
 ·exact N.Xz h1.1 _
 ·exact xOa _ _ _ h1.1
theorem qv{out:List DT}(h:out.length<=1000000000000)(x:DT)(cmp:DT->DT->M Int)(hc:∀ y,cmp y x=pure (V.z3a y x)) :
  ((cond (decide (0<=IntKind.i64.wrap ((out.length:Int) - 1))) ((idx out (IntKind.i64.wrap ((out.length:Int) - 1))).bind fun x61=>(det (cmp x61 x)).bind fun v63=>pure (decide (0<=v63))) (pure false)):M Bool)=pure (jW out x):=by
 unfold jW;rcases R.xL out with rfl | ⟨r,y,rfl⟩
 ·rfl
 ·have hl:((r++[y]).length:Int) - 1=(r.length:Int):=by simp
  rw[hl,ue (by omega) (by simp at h;omega)];have:decide ((0:Int)<=(r.length:Int))=true:=by simp
  rw[this,cond_true,zF (y:=y) (by simp),zA,hc,zB,zA];simp
theorem qw{out:List DT}{s:RS}(h:(uq out s).2=0):jW out (ul s).1=false/\(ul s).2.2=0/\uq out s=(ul s).2:=yJa h
theorem zAa{y4:Int×List Int×Int}(hn:0<=y4.1/\y4.1<=18446744073709551615):∀ (k i:Nat) (out:List DT) (s:RS),(i:Int)+k=y4.1->Ok s->s.2=0->out.length+s.1.length<=1000000000 ->
  (loop (yz y4) ((i:Int),out,s.1,s.2)).bind (exk fun⟨out9,v10,v11⟩=>pure (out9,v10,v11))=pure (zm k out s)
 | 0,i,out,s,hi,_,_,_=>by
  rw[zQ (r:=.brk (out,s.1,s.2)) (by
   unfold yz;have:decide ((i:Int) < y4.1)=false:=by simp;omega
   simp only[this,cond_false])]
  rfl
 | k+1,i,out,s,hi,hO,h0,hl=>by
  have hd:=Qz hO;have hc:decide ((i:Int) < y4.1)=true:=by simp;omega
  have hlast:=qv (out:=out) (by omega) (ul s).1 Zg (fun y=>vna y _);have hw:IntKind.u64.wrap ((i:Int)+1)=((i+1:Nat):Int):=by rw[ZA (by omega) (by omega)];omega
  have hb:yz y4 ((i:Int),out,s.1,s.2)=(det (yI (uq out s).1 (uq out s).2)).bind fun y70=>cond (!decide (y70.1=0)) (pure (.done (.ret ([],y70.2.1,y70.2.2)))) (yM ((out.length+[(ul s).1].length)*16<=140737488355328) (pure (.next (IntKind.u64.wrap ((i:Int)+1),out++[(ul s).1],y70.2.1,y70.2.2)))):=by
   unfold yz;have e:=vta (jW out (ul s).1) (ul s).2;simp only[hc,cond_true,Dot_eq hO,zB,zA];rw[hlast,zA,e,zA]
   rfl
  rw[N.xHa,zB,zA] at hb
  by_cases c:(uq out s).2=0
  ·obtain⟨_,c2,c3⟩:=qw c;have hlt:=dot_lt hO h0 c2;rw[decide_eq_true c,Bool.not_true,cond_false,zD (by simp;omega),hw] at hb;rw[zb hb,ZZ c];exact zAa hn k (i+1) _ (uq out s) (by omega) (Wx hO out) c (by rw[c3];simp;omega)
  ·rw[decide_eq_false c,Bool.not_false,cond_true] at hb;rw[zQ hb,Yr c]
   rfl
theorem vya{s:RS}(hO:Ok s){most:Int}(hm:most<=9223372036854775807):Vf most s.1 s.2=pure (wc most s):=by
 obtain⟨h1,h2,h3⟩:=N.Yp hO;unfold Vf wc;rw[N.xIa hO,zB,zA,ZA (n:=max most 0) (by omega) (by omega)]
 by_cases c:max most 0 < (zg s).1
 ·rw[decide_eq_true c,cond_true,if_pos c,N.VU 3 (zg s).2,zB,zA]
 ·rw[decide_eq_false c,cond_false,if_neg c]
  by_cases c2:(zg s).2.2=0
  ·exact zAa (y4:=zg s) ⟨h2,h3⟩ (zg s).1.toNat 0 [] (zg s).2 (by omega) h1 c2 (by simp;have:=h1.len;omega)
  ·have hz:=qu c2;rw[hz,zQ (r:=.brk ([],(zg s).2.1,(zg s).2.2)) (by
    unfold yz;simp only[hz,show decide ((0:Int) < 0)=false from rfl,cond_false])]
   rfl
theorem JN(hB:OkB B){y7:Int×List Int×Int×Int}(hn:0<=y7.1/\y7.1<=18446744073709551615):∀ (k i:Nat) (out:List DT) (s:RS) (a:Int),(i:Int)+k=y7.1->Ok s->s.2=0->Sim B a s->out.length+s.1.length<=1000000000 ->
  ∃ out' a',loop (yY y7) ((i:Int),out,B,a,s.2)=pure (out',B,a',(zm k out s).2.2)/\Sim B a' (zm k out s).2/\((zm k out s).2.2=0->out'=(zm k out s).1)/\((zm k out s).2.2≠0->(zm k out s).1=[])
 | 0,i,out,s,a,hi,_,h0,hS,_=>by
  refine⟨out,a,zQ ?_,hS,fun _=>rfl,fun h=>absurd h0 h⟩;unfold yY;have:decide ((i:Int) < y7.1)=false:=by simp;omega
  simp only[this,cond_false,zA]
  rfl
 | k+1,i,out,s,a,hi,hO,h0,hS,hl=>by
  have hc:decide ((i:Int) < y7.1)=true:=by simp;omega
  obtain⟨a1,e1,s1⟩:=rDot_eq hB hO hS;have hlast:=qv (out:=out) (by omega) (ul s).1 ZE (fun y=>V.ZX y _);have hle:=dot_le s;have hw:IntKind.u64.wrap ((i:Int)+1)=((i+1:Nat):Int):=by rw[ZA (by omega) (by omega)];omega
  have hb:yY y7 ((i:Int),out,B,a,s.2)=pure (.next (((i+1:Nat):Int),out++[(ul s).1],B,a1,(uq out s).2)):=by
   unfold yY;have e3:=vva (ul s).2.2 _ _ hlast;have e4:=vua B a1 (decide ((ul s).2.2=0)&&jW out (ul s).1) (ul s).2;rw[xMa] at e4;simp only[hc,cond_true,decide_eq_true h0,zA,e1,zB];rw[e3,zA,e4,zA];simp only[];rw[zD (by simp;omega),hw]
   rfl
  have hs2:Sim B a1 (uq out s):=xLa s1 _;rw[zb hb]
  by_cases c:(uq out s).2=0
  ·obtain⟨_,c2,c3⟩:=qw c;have hlt:=dot_lt hO h0 c2;rw[ZZ c];exact JN hB hn k (i+1) _ (uq out s) a1 (by omega) (Wx hO out) c hs2 (by rw[c3];simp;omega)
  ·rw[Yr c];refine⟨out++[(ul s).1],a1,zQ ?_,hs2,fun h=>absurd h c,fun _=>rfl⟩;unfold yY;have hq:(cond (decide (((i+1:Nat):Int) < y7.1)) (pure (decide ((uq out s).2=0))) (pure false):M Bool)=pure false:=by
    rw[decide_eq_false c];cases decide (((i+1:Nat):Int) < y7.1) <;> rfl
   simp only[];rw[hq,zA]
   rfl
theorem xPa(hB:OkB B)(hO:Ok s)(h:Sim B a s){most:Int}(hm:most<=9223372036854775807):∃ a',JC most B a s.2=pure ((wc most s).1,B,a',(wc most s).2.2)/\Sim B a' (wc most s).2:=by
 obtain⟨h1,h2,h3⟩:=N.Yp hO;obtain⟨a1,e1,s1⟩:=N.yDa hB h;unfold JC wc;have hmost:(cond (decide (most < 0)) (pure 0) (pure most):M Int)=pure (max most 0):=by
  by_cases c:most < 0
  ·rw[decide_eq_true c,cond_true];congr 1;omega
  ·rw[decide_eq_false c,cond_false];congr 1;omega
 rw[hmost,zA,e1,zB,zA,ZA (n:=max most 0) (by omega) (by omega)];have done:∀ (out:List DT) (a2:Int) (i:Int) (t:RS),t.2≠0->loop (yY ((zg s).1,B,a1,(zg s).2.2)) (i,out,B,a2,t.2)=pure (out,B,a2,t.2):=fun out a2 i t ht=>zQ (by
  unfold yY;have hq:(cond (decide (i < (zg s).1)) (pure (decide (t.2=0))) (pure false):M Bool)=pure false:=by
   rw[decide_eq_false ht];cases decide (i < (zg s).1) <;> rfl
  simp only[];rw[hq,zA]
  rfl)
 by_cases c:max most 0 < (zg s).1
 ·have hF:=N.UT B a1 (zg s).2 (e:=3) (by decide);have hb:=N.vS (s:=(zg s).2) (e:=3) (by decide);rw[decide_eq_true c,cond_true,if_pos c,hF,zB,zA,zA];simp only[];rw[done _ _ _ _ hb,zA];simp only[decide_eq_false hb,Bool.not_false,cond_true];exact⟨_,rfl,s1.fail (by decide)⟩
 ·rw[decide_eq_false c,cond_false,if_neg c,zA];simp only[]
  by_cases c2:(zg s).2.2=0
  ·obtain⟨out',a',e2,s2,q1,q2⟩:=JN hB (y7:=((zg s).1,B,a1,(zg s).2.2)) ⟨h2,h3⟩ (zg s).1.toNat 0 [] (zg s).2 a1 (by simp;omega) h1 c2 s1 (by simp;have:=h1.len;omega);have e2':loop (yY ((zg s).1,B,a1,(zg s).2.2)) (0,[],B,a1,(zg s).2.2)=pure (out',B,a',(zm (zg s).1.toNat [] (zg s).2).2.2):=e2;rw[e2',zA];refine⟨a',?_,s2⟩
   by_cases c3:(zm (zg s).1.toNat [] (zg s).2).2.2=0
   ·simp only[decide_eq_true c3,Bool.not_true,cond_false,q1 c3]
   ·simp only[decide_eq_false c3,Bool.not_false,cond_true,q2 c3]
  ·rw[qu c2] at *
   rw[done _ _ _ _ c2,zA];simp only[decide_eq_false c2,Bool.not_false,cond_true];exact⟨_,rfl,s1⟩
open N (RS Ok zg yL vK OkB Sim)
def runsL : Nat->List RN->RS->List RN×RS
 | 0,out,s=>(out,s)
 | k+1,out,s=>
  if (zg (zg s).2).2.2≠0 then (out++[⟨(zg s).1,(zg (zg s).2).1⟩],(zg (zg s).2).2) else runsL k (out++[⟨(zg s).1,(zg (zg s).2).1⟩]) (zg (zg s).2).2
def partS(s:RS):PT×RS:=(⟨(yL 65535 s).1,(runsL (zg (yL 65535 s).2).1.toNat [] (zg (yL 65535 s).2).2).1⟩,(runsL (zg (yL 65535 s).2).1.toNat [] (zg (yL 65535 s).2).2).2)
def ctxL : Nat->List PT->RS->Bool×List PT×RS
 | 0,out,s=>(true,out,s)
 | k+1,out,s=>if (partS s).2.2≠0 then (false,[],(partS s).2) else ctxL k (out++[(partS s).1]) (partS s).2
def ctxS(s:RS):List PT×RS:=
 let r:=ctxL (zg s).1.toNat [] (zg s).2
 if r.1=true then fin [] r.2.1 (Vp (!decide (r.2.1=C.yT r.2.1)) r.2.2) else ([],r.2.2)
variable{B:List Int}{a:Int}{s:RS}
open N (RS Ok zg yL vK OkB Sim)
def Ys : List DT->Bool
 | []=>true
 | x::r=>(match r with | []=>true | y::_=>zU x y)&&Ys r
theorem xQa : ∀ {l:List DT},Ys l=true↔Srt l
 | []=>⟨fun _=>List.Pairwise.nil,fun _=>rfl⟩
 | [x]=>⟨fun _=>by simp[Srt],fun _=>rfl⟩
 | x::y::r=>by
  show(zU x y&&Ys (y::r))=true↔_;rw[Bool.and_eq_true,xQa (l:=y::r)];unfold Srt;rw[List.pairwise_cons (a:=x)]
  constructor
  ·rintro⟨h1,h2⟩;refine⟨fun z hz=>?_,h2⟩;rcases List.mem_cons.1 hz with rfl | hz
   ·exact h1
   ·exact Wu h1 ((List.pairwise_cons.1 h2).1 z hz)
  ·rintro⟨h1,h2⟩;exact⟨h1 y (by simp),h2⟩
theorem vza(x y:DT):decide (0<=V.z3a x y)=!zU x y:=by
 by_cases h:zU x y=true
 ·have:=V.UN.2 h;rw[h];simp;omega
 ·have h2:¬ V.z3a x y < 0:=fun e=>h (V.UN.1 e)
  simp only[Bool.not_eq_true] at h;rw[h];simp;omega
theorem wAa(l:List DT)(hl:l.length<=1000000000000):XR l=pure (Ys l):=by
 unfold XR;have key:∀ (k i:Nat) (x:DT) (r:List DT),i+k=l.length->l.drop i=r->i≠0->l[i - 1]?=some x->loop (xl l) (i:Int)=pure (if Ys (x::r)=true then .brk () else .ret false):=by
  intro k
  induction k with
  | zero=>
   intro i x r hi hr h1 hx;have:r=[]:=by rw[<- hr];exact List.drop_eq_nil_of_le (by omega)
   subst this;exact zQ (by
    unfold xl;have:decide ((i:Int) < (l.length:Int))=false:=by simp;omega
    simp only[this,cond_false];rfl)
  | succ k ih=>
   intro i x r hi hr h1 hx;have hlt:i < l.length:=by omega
   have hr2:r=l[i]::l.drop (i+1):=by rw[<- hr];exact List.drop_eq_getElem_cons hlt
   have hy:=List.getElem?_eq_getElem hlt;have hi1:idx l (IntKind.i64.wrap ((i:Int) - 1))=pure x:=by
    rw[ue (by omega) (by omega)];exact YO (by omega) (by rw[show((i:Int) - 1).toNat=i - 1 by omega];exact hx)
   have hb:xl l (i:Int)=cond (!zU x l[i]) (pure (.done (.ret false))) (pure (.next ((i+1:Nat):Int))):=by
    unfold xl;have:decide ((i:Int) < (l.length:Int))=true:=by simp;omega
    simp only[this,cond_true,hi1,zF hy,zA,V.ZX,zB,vza,zq (show i < 9223372036854775807 by omega)]
   rw[hr2];show _=(pure (if (zU x l[i]&&Ys (l[i]::l.drop (i+1)))=true then Ex.brk () else Ex.ret false):M (Ex Unit Bool))
   cases c:zU x l[i] with
   | true=>
    rw[c] at hb;rw[zb hb,Bool.true_and];exact ih (i+1) l[i] _ (by omega) rfl (by omega) hy
   | false=>
    rw[c] at hb;rw[zQ hb];rfl
 cases l with
 | nil=>
  rw[zQ (r:=.brk ()) (by unfold xl;rfl)];rfl
 | cons x r=>
  have:=key r.length 1 x r (by simp;omega) rfl (by decide) rfl;rw[show((1:Nat):Int)=1 from rfl] at this;rw[this,zA]
  cases Ys (x::r) <;> rfl
theorem zBa{l:List DT}(hs:Srt l)(h:∀ d∈l,V.yJ d=true):xI (wY l)=l:=by
 have e:wY l=l:=List.filter_eq_self.2 h;rw[e];exact vma hs
open N (RS Ok zg yL vK OkB Sim)
theorem jX{s:RS}(hO:Ok s)(h:(zg s).2.2=0):s.1=N.xC (zg s).1++(zg s).2.1:=by
 have h0:=Qy h;unfold zg at h ⊢;rw[if_neg (by simp[h0])] at h ⊢
 by_cases c:(N.rdN s.1).2.2=0
 ·rw[if_neg (by simp[c])];exact N.rdN_one hO.by_ c
 ·rw[if_pos c] at h;exact absurd h (N.vS c)
theorem upto_inv{s:RS}(hO:Ok s){m:Int}(h:(yL m s).2.2=0):s.1=N.xC (yL m s).1++(yL m s).2.1:=by
 obtain⟨h1,h2⟩:=yLa h;rw[h2];exact jX hO h1
theorem v0a{s:RS}(hO:Ok s)(h:(ul s).2.2=0):s.1=encD (ul s).1++(ul s).2.1:=by
 obtain⟨_,h1,h2,h3⟩:=xNa h;have e1:=upto_inv hO h1;have e2:=jX (N.qj hO (m:=65535) (by decide)).1 h2;rw[h3];show s.1=(N.xC (yL 65535 s).1++N.xC (zg (yL 65535 s).2).1)++_;rw[List.append_assoc,<- e2];exact e1
theorem zCa : ∀ (k:Nat) (out:List DT) (s:RS),Ok s->s.2=0->Srt out->(∀ d∈out,V.yJ d=true)->(zm k out s).2.2=0->∃ l,(zm k out s).1=out++l/\l.length=k/\s.1=l.flatMap encD++(zm k out s).2.1/\Srt (out++l)/\(∀ d∈out++l,V.yJ d=true)/\∀ d∈l,OkD d
 | 0,out,s,_,_,hs,hg,_=>⟨[],by simp[zm],rfl,by simp[zm],by simpa using hs,by simpa using hg,by simp⟩
 | k+1,out,s,hO,h0,hs,hg,h=>by
  by_cases c:(uq out s).2=0
  ·obtain⟨c1,c2,c3⟩:=qw c;rw[ZZ c] at h ⊢;have hgd:=(xNa c2).1;have hs2:Srt (out++[(ul s).1]):=by
    unfold Srt;rw[List.pairwise_append];refine⟨hs,by simp,fun a ha b hb=>?_⟩;rw[List.mem_singleton.1 hb];rcases R.xL out with rfl | ⟨q,y,rfl⟩
    ·simp at ha
    ·have hy:zU y (ul s).1=true:=by
      unfold jW at c1;simp only[List.getLast?_append,List.getLast?_singleton,Option.some_or,vza] at c1;simpa using c1
     rcases List.mem_append.1 ha with h5 | h5
     ·exact Wu ((List.pairwise_append.1 hs).2.2 a h5 y (by simp)) hy
     ·rw[List.mem_singleton.1 h5];exact hy
   obtain⟨l,e1,e2,e3,e4,e5,e6⟩:=zCa k _ _ (Wx hO out) c hs2 (fun d hd=>by
    rcases List.mem_append.1 hd with h5 | h5
    ·exact hg d h5
    ·rw[List.mem_singleton.1 h5];exact hgd) h
   refine⟨(ul s).1::l,by rw[e1];simp,by simp[e2],?_,by simpa using e4,by simpa using e5,fun d hd=>?_⟩
   ·rw[List.flatMap_cons,List.append_assoc,<- e3,c3];exact v0a hO c2
   ·rcases List.mem_cons.1 hd with rfl | h5
    ·exact(Qz hO).2.1
    ·exact e6 d h5
  ·rw[Yr c] at h;exact absurd h c
theorem xRa{s:RS}(hO:Ok s){most:Int}(h:(wc most s).2.2=0):s.1=Vo (wc most s).1++(wc most s).2.1/\Srt (wc most s).1/\(∀ d∈(wc most s).1,V.yJ d=true/\OkD d)/\((wc most s).1.length:Int)<=max most 0:=by
 obtain⟨h1,h2,h3⟩:=N.Yp hO;unfold wc at h ⊢
 by_cases c:max most 0 < (zg s).1
 ·rw[if_pos c] at h;exact absurd h (N.vS (by decide))
 ·rw[if_neg c] at h ⊢;have c2:(zg s).2.2=0:=Classical.byContradiction fun c2=>by
   rw[qu c2] at h;exact c2 h
  obtain⟨l,e1,e2,e3,e4,e5,e6⟩:=zCa _ [] _ h1 c2 List.Pairwise.nil (by simp) h;rw[List.nil_append] at e1 e4 e5;rw[e1];refine⟨?_,e4,fun d hd=>⟨e5 d hd,e6 d hd⟩,by omega⟩;rw[Vo,zBa e4 e5,List.append_assoc,<- e3,e2,Int.toNat_of_nonneg h2];exact jX hO c2
theorem dots_bad{s:RS}{most:Int}(h:(wc most s).2.2≠0):(wc most s).1=[]:=by
 have hL:∀ (k:Nat) (out:List DT) (s:RS),s.2=0\/out=[]->(zm k out s).2.2≠0->(zm k out s).1=[]:=by
  intro k
  induction k with
  | zero=>
   intro out s h1 h2;rcases h1 with h1 | h1
   ·exact absurd h1 h2
   ·exact h1
  | succ k ih=>
   intro out s _ h2
   by_cases c:(uq out s).2=0
   ·rw[ZZ c] at h2 ⊢;exact ih _ _ (.inl c) h2
   ·rw[Yr c]
 unfold wc at h ⊢
 split at h
 ·rename_i c;rw[if_pos c]
 ·rename_i c;rw[if_neg c];exact hL _ _ _ (.inr rfl) h
end Go.Ep.M.D
namespace Go.Ep.M.E
open Go
theorem xe(s:ByteArray):(yV s).length=s.size:=by simp[yV]
theorem zDa(l:List Int):(yaa l).data.toList=l.map fun n=>UInt8.ofNat n.toNat:=by
 have key:∀ (l:List Int) (r:ByteArray),(l.foldl (fun r n=>r.push (UInt8.ofNat n.toNat)) r).data.toList=r.data.toList++l.map fun n=>UInt8.ofNat n.toNat:=by
  intro l
  induction l with
  | nil=>intro r;simp
  | cons x t ih=>intro r;rw[List.foldl_cons,ih];simp
 have:=key l ByteArray.empty;simpa[yaa] using this
theorem wBa{l:List Int}(h:N.By l):yV (yaa l)=l:=by
 rw[yV,zDa,List.map_map];apply List.ext_getElem?;intro i;rw[List.getElem?_map]
 cases hx:l[i]? with
 | none=>rfl
 | some x=>
  have:=h x (List.mem_of_getElem? hx);simp only[Option.map_some,Function.comp_apply,UInt8.toNat_ofNat']
  congr 1;omega
theorem jY(l:List Int):(yaa l).size=l.length:=by
 have:=congrArg List.length (zDa l);simpa using this
def cidD(v:Int):DT:=⟨v / 281474976710656,v % 281474976710656⟩
theorem band48{v:Int}(h0:0<=v)(h:v<=18446744073709551615):bAnd .u64 v 281474976710655=v % 281474976710656:=by
 obtain⟨n,rfl⟩:=Int.eq_ofNat_of_zero_le h0;unfold bAnd;have bv:∀ q:Nat,q < 18446744073709551616->(BitVec.ofInt IntKind.u64.bits (q:Int)).toNat=q:=fun q hq=>by
  show(BitVec.ofInt 64 (q:Int)).toNat=q;rw[BitVec.toNat_ofInt];omega
 have e:(281474976710655:Int)=((281474976710655:Nat):Int):=rfl;rw[e,BitVec.toNat_and,bv n (by omega),bv _ (by decide)];have h2:n &&& 281474976710655=n % 281474976710656:=Nat.and_two_pow_sub_one_eq_mod n 48;rw[h2,ZA (by omega) (by omega)];omega
theorem Split_eq{v:Int}(h0:0<=v)(h:v<=18446744073709551615):Zh v=pure ((cidD v).dev,(cidD v).n):=by
 unfold Zh cidD;have e:(2 ^ 48:Int)=281474976710656:=rfl;rw[band48 h0 h,Int.fdiv_eq_ediv_of_nonneg _ (by decide),e,wU16 (by omega) (by omega)]
theorem v1a{v:Int}(h0:0<=v)(h:v<=18446744073709551615):WZ v=pure ((cidD v).dev,(cidD v).n):=by
 unfold WZ cidD;rw[Int.tdiv_eq_ediv_of_nonneg h0,Int.tmod_eq_emod_of_nonneg h0,ZA (by omega) (by omega),wU16 (by omega) (by omega)]
def jZ(v:Int):Bool:=V.yJ (cidD v)
theorem v2a{v:Int}(h0:0<=v)(h:v<=18446744073709551615):Yz v=pure (if jZ v=true then cidD v else ⟨0,0⟩,jZ v):=by
 unfold Yz;rw[Split_eq h0 h,zB,zA,V.ug,zB,zA];show cond (!jZ v) _ _=_
 cases jZ v <;> rfl
theorem wCa{v:Int}(h0:0<=v)(h:v<=18446744073709551615):XQ v=pure (if jZ v=true then cidD v else ⟨0,0⟩,jZ v):=by
 unfold XQ;rw[v1a h0 h,zB,zA,V.vG,zB,zA];show cond (!jZ v) _ _=_
 cases jZ v <;> rfl
def yMa(f:Int):Bool:=decide (1<=f)&&decide (f<=5)
theorem Field_eq(f:Int):XA f=pure (yMa f):=by unfold XA yMa;rw[zj];rfl
theorem v3a(f:Int):UC f=pure (yMa f):=by unfold UC yMa;rw[zj];rfl
def okB(x:Int):Bool:=decide (32<=x)&&decide (x<=126)
def yNa(s:ByteArray):Bool:=decide (s.size<=60)&&(yV s).all okB
theorem Yt{α:Type}(l:List α)(p:α->Bool):(l.zipIdx.all fun y=>p y.1)=l.all p:=by
 rw[Bool.eq_iff_iff,List.all_eq_true,List.all_eq_true]
 constructor
 ·intro h x hx;obtain⟨i,hi⟩:=List.getElem?_of_mem hx;exact h (x,i) (by rw[List.mk_mem_zipIdx_iff_getElem?];exact hi)
 ·intro h y hy;exact h y.1 (List.fst_mem_of_mem_zipIdx hy)
theorem okB_eq(x:Int)(f:M Bool)(hf:f=pure (decide (126 < x))):(cond (decide (x < 32)) (pure true) f:M Bool)=pure (!okB x):=by
 rw[hf];unfold okB
 by_cases h1:x < 32
 ·have:¬ 32<=x:=by omega
  simp[h1,this]
 ·have:32<=x:=by omega
  by_cases h2:126 < x
  ·have:¬ x<=126:=by omega
   simp[h1,h2,this]
  ·have:x<=126:=by omega
   simp[h1,h2, *]
theorem v4a(s:ByteArray)(hs:s.size<=1000000000000):loop (wg s) 0=pure (if (yV s).all okB=true then Ex.brk () else Ex.ret false):=by
 have:=wW (body:=wg s) (yV s) (fun i=>(i:Int)) (fun _ x=>okB x) (Ex.brk ()) (Ex.ret false) (fun i x hx hi=>by
  have hd:decide ((i:Int) < (s.size:Int))=true:=by rw[<- xe];simpa using hi
  have hi2:i < s.size:=by rw[<- xe];exact hi
  unfold wg;simp only[hd,cond_true,zF hx,zA,okB_eq x _ rfl,zq (show i < 9223372036854775807 by omega)]
  cases okB x <;> rfl) (by
  unfold wg;simp[xe])
 rw[show(0:Int)=((0:Nat):Int) from rfl,this,Yt]
theorem wDa(s:ByteArray)(hs:s.size<=1000000000000):loop (uS s) 0=pure (if (yV s).all okB=true then Ex.brk () else Ex.ret false):=by
 have:=wW (body:=uS s) (yV s) (fun i=>(i:Int)) (fun _ x=>okB x) (Ex.brk ()) (Ex.ret false) (fun i x hx hi=>by
  have hd:decide ((i:Int) < (s.size:Int))=true:=by rw[<- xe];simpa using hi
  have hi2:i < s.size:=by rw[<- xe];exact hi
  unfold uS;simp only[hd,cond_true,zF hx,zA,okB_eq x _ rfl,zq (show i < 9223372036854775807 by omega)]
  cases okB x <;> rfl) (by
  unfold uS;simp[xe])
 rw[show(0:Int)=((0:Nat):Int) from rfl,this,Yt]
theorem vka(s:ByteArray)(hs:s.size<=1000000000000):XB s=pure (yNa s):=by
 unfold XB yNa;rw[v4a s hs]
 by_cases h:s.size<=60
 ·have:decide ((60:Int) < (s.size:Int))=false:=by simp;omega
  rw[this,cond_false,zA,decide_eq_true h,Bool.true_and]
  cases (yV s).all okB <;> rfl
 ·have:decide ((60:Int) < (s.size:Int))=true:=by simp;omega
  rw[this,cond_true,decide_eq_false h,Bool.false_and]
theorem rText_eq(s:ByteArray)(hs:s.size<=1000000000000):UD s=pure (yNa s):=by
 unfold UD yNa;rw[wDa s hs,zA]
 cases (yV s).all okB with
 | false=>rw[Bool.and_false];rfl
 | true=>
  rw[if_pos rfl,Ze,Bool.and_true]
  congr 1
  by_cases h:s.size<=60
  ·rw[decide_eq_true h];simp;omega
  ·rw[decide_eq_false h];simp;omega
structure OkE(e:EV):Prop where
 dot:D.OkD e.dot
 kind:0<=e.kind/\e.kind<=255
 cid:0<=e.cid/\e.cid<=18446744073709551615
 field:0<=e.field/\e.field<=255
 text:e.text.size<=1000000000
 kills:∀ d∈e.kills,D.OkD d
 klen:e.kills.length<=1000000000
def v5a(s:ByteArray):Bool:=decide (s=⟨#[]⟩)
def goodK(e:EV):Bool:=(decide (e.kind=1)&&(yMa e.field&&yNa e.text))||(decide (e.kind=2)&&(decide (e.field=0)&&v5a e.text))
def wEa(e:EV):Bool:=decide (e.kills.length<=256)&&(D.Ys e.kills&&e.kills.all fun d=>V.yJ d&&!decide (d=e.dot))
def ye(e:EV):Bool:=(jZ e.cid&&V.yJ e.dot)&&(goodK e&&wEa e)
theorem v6a(l:List DT)(hl:l.length<=1000000000000):XC l=pure (D.Ys l):=by
 unfold XC;have key:∀ (k i:Nat) (x:DT) (r:List DT),i+k=l.length->l.drop i=r->i≠0->l[i - 1]?=some x->loop (yj l) (i:Int)=pure (if D.Ys (x::r)=true then Ex.brk () else Ex.ret false):=by
  intro k
  induction k with
  | zero=>
   intro i x r hi hr h1 hx;have:r=[]:=by rw[<- hr];exact List.drop_eq_nil_of_le (by omega)
   subst this;exact zQ (by
    unfold yj;have:decide ((i:Int) < (l.length:Int))=false:=by simp;omega
    simp only[this,cond_false];rfl)
  | succ k ih=>
   intro i x r hi hr h1 hx;have hlt:i < l.length:=by omega
   have hr2:r=l[i]::l.drop (i+1):=by rw[<- hr];exact List.drop_eq_getElem_cons hlt
   have hy:=List.getElem?_eq_getElem hlt;have hi1:idx l (IntKind.i64.wrap ((i:Int) - 1))=pure x:=by
    rw[ue (by omega) (by omega)];exact YO (by omega) (by rw[show((i:Int) - 1).toNat=i - 1 by omega];exact hx)
   have hb:yj l (i:Int)=cond (!zU x l[i]) (pure (.done (.ret false))) (pure (.next ((i+1:Nat):Int))):=by
    unfold yj;have h2:decide ((i:Int) < (l.length:Int))=true:=by simp;omega
    have h3:decide ((0:Int) < (i:Int))=true:=by simp;omega
    simp only[h2,h3,cond_true,hi1,zF hy,zA,D.vna,zB,D.vza,zq (show i < 9223372036854775807 by omega)]
   rw[hr2];show _=(pure (if (zU x l[i]&&D.Ys (l[i]::l.drop (i+1)))=true then Ex.brk () else Ex.ret false):M (Ex Unit Bool))
   cases c:zU x l[i] with
   | true=>
    rw[c] at hb;rw[zb hb,Bool.true_and];exact ih (i+1) l[i] _ (by omega) rfl (by omega) hy
   | false=>
    rw[c] at hb;rw[zQ hb];rfl
 cases l with
 | nil=>
  rw[zQ (r:=Ex.brk ()) (by unfold yj;rfl)];rfl
 | cons x r=>
  have h0:yj (x::r) 0=pure (.next 1):=by
   unfold yj;have h2:decide ((0:Int) < ((x::r).length:Int))=true:=decide_eq_true (by rw[List.length_cons];omega);simp only[h2,cond_true,show decide ((0:Int) < 0)=false from rfl,cond_false,zA];rw[ue (by omega) (by omega)]
   rfl
  have:=key r.length 1 x r (by simp;omega) rfl (by decide) rfl;rw[show((1:Nat):Int)=1 from rfl] at this;rw[zb h0,this,zA]
  cases D.Ys (x::r) <;> rfl
theorem wFa(e:EV)(hl:e.kills.length<=1000000000000):loop (wh e) 0=pure (if (e.kills.all fun d=>V.yJ d&&!decide (d=e.dot))=true then Ex.brk () else Ex.ret false):=by
 have:=wW (body:=wh e) e.kills (fun i=>(i:Int)) (fun _ d=>V.yJ d&&!decide (d=e.dot)) (Ex.brk ()) (Ex.ret false) (fun i x hx hi=>by
  have hd:decide ((i:Int) < (e.kills.length:Int))=true:=by simpa using hi
  unfold wh;simp only[hd,cond_true,zF hx,zA,V.ug,zB,D.x6a,zq (show i < 9223372036854775807 by omega)]
  cases V.yJ x <;> cases decide (x=e.dot) <;> rfl) (by
  unfold wh;simp)
 rw[show(0:Int)=((0:Nat):Int) from rfl,this,Yt e.kills fun d=>V.yJ d&&!decide (d=e.dot)]
theorem qc{e:EV}(h:OkE e):ZL e=pure (ye e):=by
 have hk:=h.klen;have ht:=h.text;unfold ZL ye;rw[v2a h.cid.1 h.cid.2,zB,zA,V.ug,zB,zA,wFa e (by omega),v6a e.kills (by omega),Field_eq,vka e.text (by omega)];simp only[]
 cases jZ e.cid with
 | false=>rfl
 | true=>
  cases V.yJ e.dot with
  | false=>rfl
  | true=>
   have hl:decide ((256:Int) < (e.kills.length:Int))=!decide (e.kills.length<=256):=by
    by_cases c:e.kills.length<=256
    ·rw[decide_eq_true c];simp;omega
    ·rw[decide_eq_false c];simp;omega
   have tail:(cond (decide ((256:Int) < (e.kills.length:Int))) (pure true) ((det (pure (D.Ys e.kills))).bind fun v23=>pure (!v23))).bind (fun v21=>cond v21 (pure false) ((pure (if (e.kills.all fun d=>V.yJ d&&!decide (d=e.dot))=true then Ex.brk () else Ex.ret false)).bind (exk fun _=>pure true)))=pure (wEa e):=by
    unfold wEa;rw[hl,zB,zA]
    cases decide (e.kills.length<=256) with
    | false=>rfl
    | true=>
     cases D.Ys e.kills with
     | false=>rfl
     | true=>cases e.kills.all fun d=>V.yJ d&&!decide (d=e.dot) <;> rfl
   simp only[Bool.not_true,cond_false,zA,zB,Bool.true_and] at tail ⊢;unfold goodK v5a
   by_cases k1:e.kind=1
   ·have k2:decide (e.kind=2)=false:=by rw[k1];rfl
    rw[decide_eq_true k1,cond_true,k2,Bool.true_and,Bool.false_and,Bool.or_false]
    cases yMa e.field with
    | false=>rfl
    | true=>
     cases yNa e.text with
     | false=>rfl
     | true=>exact tail
   ·rw[decide_eq_false k1,cond_false,Bool.false_and,Bool.false_or]
    by_cases k2:e.kind=2
    ·rw[decide_eq_true k2,cond_true,Bool.true_and]
     cases decide (e.field=0) with
     | false=>rfl
     | true=>
      cases decide (e.text=(⟨#[]⟩:ByteArray)) with
      | false=>rfl
      | true=>exact tail
    ·rw[decide_eq_false k2];rfl
theorem qf(l:List DT)(d:DT)(hl:l.length<=1000000000000):Uq l d=pure (l.any fun x=>decide (x=d)):=by
 unfold Uq;have:=wW (body:=XS l d) l (fun i=>(i:Int)) (fun _ x=>!decide (x=d)) (Ex.brk ()) (Ex.ret true) (fun i x hx hi=>by
  have hd:decide ((i:Int) < (l.length:Int))=true:=by simpa using hi
  unfold XS;simp only[hd,cond_true,zF hx,zA,D.x6a,zq (show i < 9223372036854775807 by omega)]
  cases decide (x=d) <;> rfl) (by
  unfold XS;simp)
 rw[show(0:Int)=((0:Nat):Int) from rfl,this,zA,Yt l fun x=>!decide (x=d)];have e:(l.any fun x=>decide (x=d))=!(l.all fun x=>!decide (x=d)):=by simp[List.all_eq_not_any_not]
 rw[e]
 cases l.all fun x=>!decide (x=d) <;> rfl
theorem VX(e:EV)(hl:e.kills.length<=1000000000000):loop (uT e) 0=pure (if e.kills.all V.yJ=true then Ex.brk () else Ex.ret false):=by
 have:=wW (body:=uT e) e.kills (fun i=>(i:Int)) (fun _ d=>V.yJ d) (Ex.brk ()) (Ex.ret false) (fun i x hx hi=>by
  have hd:decide ((i:Int) < (e.kills.length:Int))=true:=by simpa using hi
  unfold uT;simp only[hd,cond_true,zF hx,zA,V.vG,zB,zq (show i < 9223372036854775807 by omega)]
  cases V.yJ x <;> rfl) (by
  unfold uT;simp)
 rw[show(0:Int)=((0:Nat):Int) from rfl,this,Yt e.kills V.yJ]
theorem UR{e:EV}(h:OkE e):UE e=pure (ye e):=by
 have hk:=h.klen;have ht:=h.text;unfold UE ye;rw[wCa h.cid.1 h.cid.2,zB,zA,V.vG,zB,zA,VX e (by omega),D.wAa e.kills (by omega),v3a,rText_eq e.text (by omega),qf e.kills e.dot (by omega)];simp only[]
 cases jZ e.cid with
 | false=>rfl
 | true=>
  cases V.yJ e.dot with
  | false=>rfl
  | true=>
   have hl:decide ((e.kills.length:Int)<=256)=decide (e.kills.length<=256):=by
    by_cases c:e.kills.length<=256
    ·rw[decide_eq_true c];simp;omega
    ·rw[decide_eq_false c];simp;omega
   have hall:(e.kills.all fun d=>V.yJ d&&!decide (d=e.dot))=(e.kills.all V.yJ&&!(e.kills.any fun x=>decide (x=e.dot))):=by
    rw[Bool.eq_iff_iff,Bool.and_eq_true,List.all_eq_true,List.all_eq_true,Bool.not_eq_true',List.any_eq_false]
    constructor
    ·intro h;exact⟨fun x hx=>by have:=h x hx;rw[Bool.and_eq_true] at this;exact this.1,fun x hx=>by have:=h x hx;rw[Bool.and_eq_true] at this;simpa using this.2⟩
    ·rintro⟨h1,h2⟩ x hx;rw[Bool.and_eq_true];exact⟨h1 x hx,by simpa using h2 x hx⟩
   have tail:((pure (if e.kills.all V.yJ=true then Ex.brk () else Ex.ret false):M (Ex Unit Bool)).bind (exk fun _=>(cond (decide ((e.kills.length:Int)<=256)) ((det (pure (D.Ys e.kills))).bind fun v46=>cond v46 ((det (pure (e.kills.any fun x=>decide (x=e.dot)))).bind fun v49=>pure (!v49)) (pure false)) (pure false)).bind fun v44=>pure v44))=pure (wEa e):=by
    unfold wEa;rw[hl,hall];simp only[zB,zA]
    cases e.kills.all V.yJ with
    | false=>cases decide (e.kills.length<=256) <;> cases D.Ys e.kills <;> rfl
    | true=>cases decide (e.kills.length<=256) <;> cases D.Ys e.kills <;> cases e.kills.any fun x=>decide (x=e.dot) <;> rfl
   simp only[Bool.not_true,cond_false,zA,zB,Bool.true_and] at tail ⊢;unfold goodK v5a
   by_cases k1:e.kind=1
   ·have k2:decide (e.kind=2)=false:=by rw[k1];rfl
    rw[decide_eq_true k1,k2];simp only[Bool.not_true,cond_false,cond_true,zA,Bool.true_and,Bool.false_and,Bool.or_false]
    cases yMa e.field with
    | false=>rfl
    | true=>
     cases yNa e.text with
     | false=>rfl
     | true=>exact tail
   ·rw[decide_eq_false k1];simp only[Bool.not_false,cond_true,zA,Bool.false_and,Bool.false_or]
    by_cases k2:e.kind=2
    ·rw[decide_eq_true k2];simp only[Bool.not_true,cond_false,cond_true,Bool.true_and]
     cases decide (e.field=0) with
     | false=>rfl
     | true=>
      cases decide (e.text=(⟨#[]⟩:ByteArray)) with
      | false=>rfl
      | true=>exact tail
    ·rw[decide_eq_false k2];rfl
def fewE(l:List EV)(most:Nat):Bool:=decide (l.length<=most)&&l.all fun e=>decide (e.kills.length<=300)&&decide (e.text.size<=200)
theorem qg(l:List EV)(most:Nat)(hm:most<=1000000):Jg l (most:Int)=pure (fewE l most):=by
 unfold Jg fewE
 by_cases h:l.length<=most
 ·have hd:decide ((most:Int) < (l.length:Int))=false:=by simp;omega
  have:=wW (body:=Yy l) l (fun i=>(i:Int)) (fun _ e=>decide (e.kills.length<=300)&&decide (e.text.size<=200)) (Ex.brk ()) (Ex.ret false) (fun i x hx hi=>by
   have hd:decide ((i:Int) < (l.length:Int))=true:=by simpa using hi
   unfold Yy;simp only[hd,cond_true,zF hx,zA,zq (show i < 9223372036854775807 by omega)]
   by_cases c:x.kills.length<=300
   ·have h1:decide ((300:Int) < (x.kills.length:Int))=false:=by simp;omega
    rw[h1,cond_false,decide_eq_true c,Bool.true_and,zA]
    by_cases c2:x.text.size<=200
    ·have h2:decide ((200:Int) < (x.text.size:Int))=false:=by simp;omega
     rw[h2,decide_eq_true c2];rfl
    ·have h2:decide ((200:Int) < (x.text.size:Int))=true:=by simp;omega
     rw[h2,decide_eq_false c2];rfl
   ·have h1:decide ((300:Int) < (x.kills.length:Int))=true:=by simp;omega
    rw[h1,cond_true,decide_eq_false c,Bool.false_and];rfl) (by
   unfold Yy;simp)
  rw[hd,cond_false,decide_eq_true h,Bool.true_and,show(0:Int)=((0:Nat):Int) from rfl,this,zA,Yt l fun e=>decide (e.kills.length<=300)&&decide (e.text.size<=200)]
  cases l.all fun e=>decide (e.kills.length<=300)&&decide (e.text.size<=200) <;> rfl
 ·have hd:decide ((most:Int) < (l.length:Int))=true:=by simp;omega
  rw[hd,cond_true,decide_eq_false h,Bool.false_and]
theorem few_mem{l:List EV}{most:Nat}(h:fewE l most=true):l.length<=most/\∀ e∈l,e.kills.length<=300/\e.text.size<=200:=by
 unfold fewE at h;rw[Bool.and_eq_true,List.all_eq_true] at h;exact⟨by simpa using h.1,fun e he=>by simpa using h.2 e he⟩
def encT(s:ByteArray):List Int:=N.xC s.size++yV s
def zEa(e:EV):List Int:=D.encD e.dot++([e.kind]++(N.xC e.cid++([e.field]++(encT e.text++D.Vo e.kills))))
theorem qx{s:ByteArray}(h:s.size<=1000000000):(encT s).length<=9+s.size:=by
 have:=N.zO (v:=(s.size:Int)) (by omega);rw[encT,List.length_append,xe];omega
theorem encE_len{e:EV}(h:OkE e):(zEa e).length<=47+e.text.size+18*e.kills.length:=by
 have h1:=D.Xa h.dot;have h2:=N.zO h.cid.2;have h3:=qx h.text;have h4:=D.vpa h.kills (by have:=h.klen;omega);simp only[zEa,List.length_append,List.length_singleton];omega
theorem wGa{s:ByteArray}(h:s.size<=1000000000)(row:List Int)(hr:row.length<=1000000000000):xS s row=pure (row++encT s):=by
 have:=N.zO (v:=(s.size:Int)) (by omega);unfold xS;rw[ZA (by omega) (by omega),N.xd row (by omega) (by omega) (by omega),zB,zA,zD (by omega),N.vla _ _ (by rw[List.length_append,xe];omega),zB,zA,encT,List.append_assoc]
theorem yOa{s:ByteArray}(h:s.size<=1000000000)(row:List Int)(hr:row.length<=1000000000000):UK row s=pure (row++encT s):=by
 have h9:=N.zO (v:=(s.size:Int)) (by omega);unfold UK;rw[ZA (by omega) (by omega),N.yB row (by omega) (by omega) (by omega),zB,zA];have:=D.YA (body:=Zp s) (yV s) (fun x=>[x]) (row++N.xC (s.size:Int)) 2000000000000 (fun i out=>((i:Int),out)) (fun t=>pure t) (by
  have:=D.yv (yV s) (fun x=>[x]) 1 (by simp);rw[xe] at this;rw[List.length_append];omega) (fun i x out hx hi ho=>by
  have hi2:i < s.size:=by rw[<- xe];exact hi
  have hd:decide ((i:Int) < (s.size:Int))=true:=by simpa using hi2
  unfold Zp;simp only[hd,cond_true,zF hx,zA];rw[zD (by simp at ho ⊢;omega),zq (show i < 9223372036854775807 by omega)]) (fun out=>by
  unfold Zp;simp[xe,zA])
 rw[show(0:Int)=((0:Nat):Int) from rfl,this,zA,encT,List.append_assoc];have e:∀ l:List Int,(l.flatMap fun x=>[x])=l:=by
  intro l
  induction l with
  | nil=>rfl
  | cons x r ih=>rw[List.flatMap_cons,ih];rfl
 rw[e]
theorem xSa{e:EV}(h:OkE e)(row:List Int)(hr:row.length<=10000000000):Zi e row=pure (row++zEa e):=by
 have h1:=D.Xa h.dot;have h2:=N.zO h.cid.2;have h3:=qx h.text;have ht:=h.text;have hk:=h.klen;unfold Zi;rw[D.Qv h.dot row (by omega),zB,zA,N.ql _ _ (by rw[List.length_append];omega),zB,zA,N.xd _ h.cid.1 h.cid.2 (by simp only[List.length_append,List.length_singleton];omega),zB,zA,
  N.ql _ _ (by simp only[List.length_append,List.length_singleton];omega),zB,zA,wGa h.text _ (by simp only[List.length_append,List.length_singleton];omega),zB,zA,
  D.x8a h.kills (by omega) _ (by simp only[List.length_append,List.length_singleton];omega),zB,zA]
 simp only[zEa,List.append_assoc]
theorem Yq{e:EV}(h:OkE e)(row:List Int)(hr:row.length<=10000000000):Jm row e=pure (row++zEa e):=by
 have h1:=D.Xa h.dot;have h2:=N.zO h.cid.2;have h3:=qx h.text;have ht:=h.text;have hk:=h.klen;unfold Jm;rw[D.JM h.dot row (by omega),zB,zA,zD (by simp only[List.length_append,List.length_singleton];omega),N.yB _ h.cid.1 h.cid.2 (by simp only[List.length_append,List.length_singleton];omega),zB,zA,
  zD (by simp only[List.length_append,List.length_singleton];omega),yOa h.text _ (by simp only[List.length_append,List.length_singleton];omega),zB,zA,
  D.yHa h.kills (by omega) _ (by simp only[List.length_append,List.length_singleton];omega),zB,zA]
 simp only[zEa,List.append_assoc]
def WA(l:List EV):List Int:=N.xC l.length++l.flatMap zEa
theorem v7a{l:List EV}(h:∀ e∈l,OkE e)(hl:l.length<=1000000000)(row:List Int)(hr:row.length+(l.flatMap zEa).length<=1000000000):vO l row=pure (row++WA l):=by
 have h9:=N.zO (v:=(l.length:Int)) (by omega);unfold vO;rw[ZA (by omega) (by omega),N.xd row (by omega) (by omega) (by omega),zB,zA];have:=D.YA (body:=xj l) l zEa (row++N.xC (l.length:Int)) 2000000000 (fun i out=>((i:Int),out)) (fun t=>pure t) (by rw[List.length_append];omega) (fun i x out hx hi ho=>by
  have hd:decide ((i:Int) < (l.length:Int))=true:=by simpa using hi
  unfold xj;simp only[hd,cond_true,zF hx,zA,xSa (h x (List.mem_of_getElem? hx)) out (by omega),zB,zq (show i < 9223372036854775807 by omega)]) (fun out=>by
  unfold xj;simp[zA])
 rw[show(0:Int)=((0:Nat):Int) from rfl,this,WA,List.append_assoc]
theorem wHa{l:List EV}(h:∀ e∈l,OkE e)(hl:l.length<=1000000000)(row:List Int)(hr:row.length+(l.flatMap zEa).length<=1000000000):XU row l=pure (row++WA l):=by
 have h9:=N.zO (v:=(l.length:Int)) (by omega);unfold XU;rw[ZA (by omega) (by omega),N.yB row (by omega) (by omega) (by omega),zB,zA];have:=D.YA (body:=vy l) l zEa (row++N.xC (l.length:Int)) 2000000000 (fun i out=>(out,(i:Int))) (fun t=>pure t) (by rw[List.length_append];omega) (fun i x out hx hi ho=>by
  have hd:decide ((i:Int) < (l.length:Int))=true:=by simpa using hi
  unfold vy;simp only[hd,cond_true,zF hx,zA,Yq (h x (List.mem_of_getElem? hx)) out (by omega),zB,zq (show i < 9223372036854775807 by omega)]) (fun out=>by
  unfold vy;simp[zA])
 rw[show(0:Int)=((0:Nat):Int) from rfl,this,zA,WA,List.append_assoc]
theorem len_of{n k:Nat}(h1:256 ^ k<=n)(h2:n < 256 ^ (k+1)):N.Ws n=k+1:=by
 have:=N.yCa k n h1;have:=N.qh (k+1) n h2;omega
theorem zFa{l:List EV}(h:∀ e∈l,OkE e)(hf:∀ e∈l,e.kills.length<=300/\e.text.size<=200):(l.flatMap zEa).length<=6000*l.length:=
 D.yv l zEa 6000 fun e he=>by have:=encE_len (h e he);have:=hf e he;omega
open N (RS Ok zg yL uE Yo vK OkB Sim)
open D (Vp fin)
def s1(s:RS):RS:=(D.ul s).2
def s2(s:RS):RS:=(uE (s1 s)).2
def s3(s:RS):RS:=(zg (s2 s)).2
def s4(s:RS):RS:=(uE (s3 s)).2
def s5(s:RS):RS:=(Yo 60 (s4 s)).2
def s6(s:RS):RS:=(D.wc 256 (s5 s)).2
def getE(s:RS):EV:=⟨(D.ul s).1,(uE (s1 s)).1,(zg (s2 s)).1,(uE (s3 s)).1,(Yo 60 (s4 s)).1,(D.wc 256 (s5 s)).1⟩
def noE : EV:=⟨⟨0,0⟩,0,0,0,⟨#[]⟩,[]⟩
def getT(s:RS):RS:=Vp (!ye (getE s)) (s6 s)
def xn(s:RS):EV×RS:=fin noE (getE s) (getT s)
theorem v8a{s:RS}(h:Ok s)(m:Int):(Yo m s).1.size<=1000000000:=by
 have h1:=(N.Yp h).1.len;unfold Yo
 split
 ·exact(by decide:(0:Nat)<=1000000000)
 ·split
  ·exact(by decide:(0:Nat)<=1000000000)
  ·split
   ·exact(by decide:(0:Nat)<=1000000000)
   ·rw[jY,List.length_take];omega
theorem dots_okD{s:RS}(h:Ok s)(most:Int):(∀ d∈(D.wc most s).1,D.OkD d)/\(D.wc most s).1.length<=1000000000:=by
 by_cases c:(D.wc most s).2.2=0
 ·obtain⟨e1,e2,e3,e4⟩:=D.xRa h c;have hl:=congrArg List.length e1;have hs:=h.len;have h9:(D.xI (D.wY (D.wc most s).1))=(D.wc most s).1:=D.zBa e2 fun d hd=>(e3 d hd).1
  have h8:∀ l:List DT,l.length<=(l.flatMap D.encD).length:=by
   intro l
   induction l with
   | nil=>simp
   | cons x t ih=>
    have:1<=(D.encD x).length:=by rw[D.encD,List.length_append,N.xC,N.wPa,List.length_cons];omega
    rw[List.flatMap_cons,List.length_append,List.length_cons];omega
  have h7:=h8 (D.wc most s).1;refine⟨fun d hd=>(e3 d hd).2,?_⟩;rw[List.length_append,D.Vo,h9,List.length_append] at hl;omega
 ·rw[D.dots_bad c];simp
theorem ok_get{s:RS}(h:Ok s):Ok (s1 s)/\Ok (s2 s)/\Ok (s3 s)/\Ok (s4 s)/\Ok (s5 s)/\Ok (s6 s)/\OkE (getE s):=by
 have o1:Ok (s1 s):=(D.Qz h).1;have o2:=N.via o1;have o3:=N.Yp (s:=s2 s) o2.1;have o4:=N.via (s:=s3 s) o3.1;have o5:=N.ok_text (s:=s4 s) o4.1 60;have o6:=D.vYa (s:=s5 s) o5 256;obtain⟨k1,k2⟩:=dots_okD (s:=s5 s) o5 256;exact⟨o1,o2.1,o3.1,o4.1,o5,o6,(D.Qz h).2.1,o2.2,o3.2,o4.2,v8a (s:=s4 s) o4.1 60,k1,k2⟩
variable{B:List Int}{a:Int}{s:RS}
theorem v9a{s:RS}(h:(uE s).2.2=0):s.2=0/\s.1=(uE s).1::(uE s).2.1:=by
 unfold uE at h ⊢
 by_cases c:s.2≠0
 ·rw[if_pos c] at h;exact absurd h c
 ·rw[if_neg c] at h ⊢
  cases hs:s.1 with
  | nil=>rw[hs] at h;exact absurd h (N.vS (by decide))
  | cons x r=>exact⟨Classical.byContradiction c,rfl⟩
theorem text_ok{m:Int}{s:RS}(hO:Ok s)(h:(Yo m s).2.2=0):(zg s).2.2=0/\s.1=encT (Yo m s).1++(Yo m s).2.1/\((Yo m s).1.size:Int)<=max m 0:=by
 obtain⟨k1,k2,k3⟩:=N.Yp hO;unfold Yo at h ⊢
 by_cases c:(zg s).2.2≠0
 ·rw[if_pos c] at h;exact absurd h c
 ·rw[if_neg c] at h ⊢
  by_cases c2:max m 0 < (zg s).1
  ·rw[if_pos c2] at h;exact absurd h (N.vS (by decide))
  ·rw[if_neg c2] at h ⊢
   by_cases c3:((zg s).2.1.length:Int) < (zg s).1
   ·rw[if_pos c3] at h;exact absurd h (N.vS (by decide))
   ·rw[if_neg c3];have hz:(zg s).2.2=0:=Classical.byContradiction c;refine⟨hz,?_,?_⟩
    ·show s.1=(N.xC ((yaa _).size:Int)++yV (yaa _))++_;rw[jY,wBa (k1.by_.take _),List.length_take,show((min (zg s).1.toNat (zg s).2.1.length:Nat):Int)=(zg s).1 by omega,List.append_assoc,List.take_append_drop];exact D.jX hO hz
    ·show((yaa _).size:Int)<=_;rw[jY,List.length_take];omega
theorem get_inv{s:RS}(hO:Ok s)(h:(xn s).2.2=0):s.2=0/\ye (xn s).1=true/\OkE (xn s).1/\s.1=zEa (xn s).1++(xn s).2.1:=by
 obtain⟨o1,o2,o3,o4,o5,o6,oe⟩:=ok_get hO;unfold xn at h ⊢;rw[D.xKa] at h;rw[D.Qw h];obtain⟨g1,g2,g3⟩:=D.yJa (c:=!ye (getE s)) (s:=s6 s) h;have i6:=D.xRa o5 g2;have z5:(s5 s).2=0:=Classical.byContradiction fun c=>by
  have:(D.wc 256 (s5 s)).2.2≠0:=by
   have hn:=N.num_of c;unfold D.wc;rw[hn];rw[if_neg (by show ¬ max 256 0 < (0:Int);omega)];exact c
  exact this g2
 obtain⟨z5',i5,_⟩:=text_ok (m:=60) o4 z5;have z4:=D.Qy z5';obtain⟨z3,i4⟩:=v9a (s:=s3 s) z4;have i3:=D.jX o2 z3;have z2:=D.Qy z3;obtain⟨z1,i2⟩:=v9a (s:=s1 s) z2;have i1:=D.v0a hO z1;have z0:s.2=0:=D.Qy (D.yLa (D.xNa z1).2.1).1;refine⟨z0,by simpa using g1,oe,?_⟩;show s.1=zEa (getE s)++(getT s).1;rw[show getT s=s6 s from g3];show s.1=(D.encD (D.ul s).1++([(uE (s1 s)).1]++(N.xC (zg (s2 s)).1++([(uE (s3 s)).1]++(encT (Yo 60 (s4 s)).1++D.Vo (D.wc 256 (s5 s)).1)))))++(s6 s).1;simp only[List.append_assoc];have j6:(s5 s).1=D.Vo (D.wc 256 (s5 s)).1++(s6 s).1:=i6.1;have j5:(s4 s).1=encT (Yo 60 (s4 s)).1++(s5 s).1:=i5;have j4:(s3 s).1=[(uE (s3 s)).1]++(s4 s).1:=i4;have j3:(s2 s).1=N.xC (zg (s2 s)).1++(s3 s).1:=i3;have j2:(s1 s).1=[(uE (s1 s)).1]++(s2 s).1:=i2;have j1:s.1=D.encD (D.ul s).1++(s1 s).1:=i1;rw[<- j6,<- j5,<- j4,<- j3,<- j2];exact j1
theorem get_lt{s:RS}(hO:Ok s)(h:(xn s).2.2=0):(xn s).2.1.length+1<=s.1.length:=by
 have:=(get_inv hO h).2.2.2;have hl:=congrArg List.length this;have:1<=(zEa (xn s).1).length:=by simp only[zEa,List.length_append,List.length_singleton];omega
 rw[List.length_append] at hl;omega
open N (RS Ok zg yL uE Yo vK OkB Sim)
open D (Vp fin)
def lastGeE(out:List EV)(x:EV):Bool:=match out.getLast? with | some y=>decide (0<=V.z3a y.dot x.dot) | none=>false
def allT(out:List EV)(s:RS):RS:=Vp (lastGeE out (xn s).1) (xn s).2
def allL : Nat->List EV->RS->List EV×RS
 | 0,out,s=>(out,s)
 | k+1,out,s=>if (allT out s).2≠0 then ([],allT out s) else allL k (out++[(xn s).1]) (allT out s)
def allS(most:Int)(s:RS):List EV×RS:=if max most 0 < (zg s).1 then ([],vK 3 (zg s).2) else allL (zg s).1.toNat [] (zg s).2
variable{B:List Int}{a:Int}{s:RS}
abbrev ZH(l:List EV):Prop:=l.Pairwise fun x y=>zU x.dot y.dot=true
theorem yPa(e:EV)(h:e.kills.length<=1000000000000):xJ e=pure e:=by
 unfold xJ;rw[D.Wk _ h,zB,zA]
def e4 : EV:=⟨⟨0,0⟩,0,0,0,⟨#[101]⟩,[]⟩
end Go.Ep.M.E

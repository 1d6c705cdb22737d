/- Texts that the walks and laws lean on, side by side. -/
import Derived.Test.YtkebaehlcmgccaaGreatMBr3
import Derived.Test.YtkebaehlcmgccaaGreatMBr10
import Derived.Test.YtkebaehlcmgccaaGreatMBr11
set_option linter.unusedVariables false
set_option linter.unusedSimpArgs false
namespace Go.Ep.M.N
open Go

theorem wU8_mod (n:Int):IntKind.u8.wrap n = n % 256:=by simp [IntKind.wrap,IntKind.bits,IntKind.signed]
def lenN (n:Nat):Nat:=if n = 0 then 0 else lenN (n / 256) + 1
theorem VJ : lenN 0 = 0:=by rw [lenN];rfl
theorem Ue {n:Nat} (h:n ≠ 0):lenN n = lenN (n / 256) + 1:=by rw [lenN,if_neg h]
theorem yLa : ∀ (k n:Nat),n < 256 ^ k -> lenN n <= k
 | 0,n,h=>by
  have:n = 0:=by simpa using h
  rw [this,VJ];exact Nat.le_refl _
 | k + 1,n,h=>by
  by_cases h0:n = 0
  ·rw [h0,VJ];omega
  ·rw [Ue h0];have:=yLa k (n / 256) (by rw [Nat.pow_succ] at h;omega);omega
theorem vSa : ∀ (k n:Nat),256 ^ k <= n -> k + 1 <= lenN n
 | 0,n,h=>by
  have:n ≠ 0:=by intro h0;rw [h0] at h;simp at h
  rw [Ue this];omega
 | k + 1,n,h=>by
  have hp:0 < 256 ^ k:=Nat.pow_pos (by decide);rw [Nat.pow_succ] at h;have:n ≠ 0:=by omega
  rw [Ue this];have:=vSa k (n / 256) (by omega);omega
theorem vTa {n:Nat} (h:n < 18446744073709551616):lenN n <= 8:=yLa 8 n (by simpa using h)

theorem fdiv256 (n:Nat):Int.fdiv (n:Int) (2 ^ 8) = ((n / 256:Nat):Int):=by
 rw [Int.fdiv_eq_ediv_of_nonneg _ (by decide)];have:(2 ^ 8:Int) = 256:=rfl;rw [this];omega
theorem len_loop : ∀ (n k:Nat),k + lenN n <= 1000 -> loop ZG ((n:Int),(k:Int)) = pure (((k + lenN n:Nat)):Int):=by
 intro n
 induction n using Nat.strongRecOn with
 | _ n ih=>
  intro k hk
  by_cases h0:n = 0
  ·subst h0;rw [VJ,Nat.add_zero];exact zO (by unfold ZG;simp)
  ·rw [Ue h0] at hk ⊢;rw [zi (s':=(((n / 256:Nat):Int),((k + 1:Nat):Int))) (by
    unfold ZG;have:decide ((0:Int) < (n:Int)) = true:=by simp;omega
    simp only [this,cond_true,fdiv256,yJ (show k < 9223372036854775807 by omega)]),ih (n / 256) (by omega) (k + 1) (by omega)]
   congr 2;omega
theorem Len_eq {v:Int} (h0:0 <= v) (h:v <= 18446744073709551615):We v = pure (lenN v.toNat:Int):=by
 obtain ⟨n,rfl⟩:=Int.eq_ofNat_of_zero_le h0;unfold We;have:=len_loop n 0 (by have:=vTa (n:=n) (by omega);omega);rw [show (0:Int) = ((0:Nat):Int) from rfl,this,zA,Nat.zero_add,Int.toNat_natCast]
def UB (n i:Nat):Int:=((n / 256 ^ i % 256:Nat):Int)
theorem Byte_eq (n i:Nat) (hi:i <= 7):XX (n:Int) (i:Int) = pure (UB n i):=by
 have h8:i = 0 \/ i = 1 \/ i = 2 \/ i = 3 \/ i = 4 \/ i = 5 \/ i = 6 \/ i = 7:=by omega
 unfold XX UB;rw [wU64 (show (0:Int) <= (i:Int) by omega) (by omega),wU64 (show (0:Int) <= 8 * (i:Int) by omega) (by omega)];have hd:decide ((7:Int) < (i:Int)) = false:=by simp;omega
 simp only [hd,cond_false];rw [zF (by omega),wU8_mod,Int.fdiv_eq_ediv_of_nonneg _ (by exact Int.le_of_lt (Int.pow_pos (by decide)))]
 congr 1
 have e:(2:Int) ^ min (8 * (i:Int)).toNat 64 = ((256 ^ i:Nat):Int):=by
  rcases h8 with rfl | rfl | rfl | rfl | rfl | rfl | rfl | rfl <;> rfl
 rw [e];exact (by rw [Int.natCast_emod,Int.natCast_ediv];rfl)
def be (n:Nat):Nat -> List Int
 | 0=>[]
 | k + 1=>UB n k :: be n k
theorem be_len (n:Nat):∀ k,(be n k).length = k
 | 0=>rfl
 | k + 1=>by simp [be,be_len n k]
def encN (n:Nat):List Int:=(lenN n:Int) :: be n (lenN n)
def encI (v:Int):List Int:=encN v.toNat
theorem yF {v:Int} (h:v <= 18446744073709551615):(encI v).length <= 9:=by
 have:=vTa (n:=v.toNat) (by omega);simp [encI,encN,be_len];omega
theorem xCa (n:Nat):∀ (k:Nat) (out:List Int),k <= 8 -> out.length + k <= 100000000000000 -> loop (uD (n:Int)) ((k:Int) - 1,out) = pure (out ++ be n k)
 | 0,out,_,_=>by
  rw [be,List.append_nil];exact zO (by unfold uD;simp)
 | k + 1,out,hk,ho=>by
  have e:((k + 1:Nat):Int) - 1 = (k:Int):=by omega
  rw [e,zi (s':=((k:Int) - 1,out ++ [UB n k])) (by
   unfold uD;have h1:decide ((0:Int) <= (k:Int)) = true:=by simp
   simp only [h1,cond_true,Byte_eq n k (by omega),zB,zA];rw [zF (by simp;omega),wI64 (by omega) (by omega)]),xCa n k _ (by omega) (by simp;omega),be,List.append_assoc]
  rfl
theorem vUa (b:List Int) {v:Int} (h0:0 <= v) (h:v <= 18446744073709551615) (hb:b.length <= 10000000000000):XY b v = pure (b ++ encI v):=by
 have h8:=vTa (n:=v.toNat) (by omega);unfold XY;rw [Len_eq h0 h,zB,zA,wI64 (show -9223372036854775808 <= (b.length:Int) + (lenN v.toNat:Int) by omega) (by omega),wI64 (by omega) (by omega),zF (by omega),zF (by simp;omega),zF (by simp;omega),wU8 (by omega) (by omega),wI64 (by omega) (by omega)];have:=xCa v.toNat (lenN v.toNat) (([]:List Int) ++ b ++ [(lenN v.toNat:Int)]) h8 (by simp;omega);rw [show ((v.toNat:Nat):Int) = v by omega] at this;rw [this,zA];simp [encI,encN]

def By (l:List Int):Prop:=∀ x ∈ l,0 <= x /\ x <= 255
theorem By.drop {l:List Int} (h:By l) (n:Nat):By (l.drop n):=fun x hx=>h x (List.mem_of_mem_drop hx)
theorem By.take {l:List Int} (h:By l) (n:Nat):By (l.take n):=fun x hx=>h x (List.mem_of_mem_take hx)
theorem By.app {a b:List Int} (ha:By a) (hb:By b):By (a ++ b):=fun x hx=>(List.mem_append.1 hx).elim (ha x) (hb x)
theorem By.nil : By []:=fun x hx=>by cases hx
def valB (l:List Int):Int:=l.foldl (fun v x=>v * 256 + x) 0
theorem jc : ∀ (l:List Int) (v k:Nat),By l -> v < 256 ^ k -> ∃ n:Nat,l.foldl (fun v x=>v * 256 + x) (v:Int) = (n:Int) /\ n < 256 ^ (k + l.length) /\ v * 256 ^ l.length <= n
 | [],v,k,_,hv=>⟨v,rfl,by simpa using hv,by simp⟩
 | x :: r,v,k,hb,hv=>by
  have hx:=hb x (by simp);obtain ⟨n,h1,h2,h3⟩:=jc r (v * 256 + x.toNat) (k + 1) (fun y hy=>hb y (by simp [hy])) (by rw [Nat.pow_succ];omega);refine ⟨n,?_,by rw [show k + (x :: r).length = k + 1 + r.length by simp;omega];exact h2,?_⟩
  ·rw [List.foldl_cons,<- h1]
   congr 1;omega
  ·refine Nat.le_trans ?_ h3;rw [List.length_cons,Nat.pow_succ];have:v * (256 ^ r.length * 256) = v * 256 * 256 ^ r.length:=by rw [Nat.mul_comm (256 ^ r.length),Nat.mul_assoc]
   rw [this];exact Nat.mul_le_mul_right _ (by omega)
theorem vVa {l:List Int} (h:By l) (h8:l.length <= 8):0 <= valB l /\ valB l <= 18446744073709551615:=by
 obtain ⟨n,h1,h2,_⟩:=jc l 0 0 h (by decide);have h3:256 ^ (0 + l.length) <= 256 ^ 8:=Nat.pow_le_pow_right (by decide) (by omega);have h4:(256:Nat) ^ 8 = 18446744073709551616:=by decide
 rw [valB,show (0:Int) = ((0:Nat):Int) from rfl,h1];omega
theorem bor_eq {v:Nat} {x:Int} (hv:v < 72057594037927936) (hx:0 <= x /\ x <= 255):bOr .u64 (IntKind.u64.wrap ((v:Int) * 2 ^ 8)) (IntKind.u64.wrap x) = (v:Int) * 256 + x:=by
 obtain ⟨y,rfl⟩:=Int.eq_ofNat_of_zero_le hx.1;have e:((v:Int) * 2 ^ 8) = ((2 ^ 8 * v:Nat):Int):=by
  have:(2 ^ 8:Int) = 256:=rfl;have:(2 ^ 8:Nat) = 256:=rfl;omega
 have hb:2 ^ 8 * v + y < 18446744073709551616:=by
  have:(2 ^ 8:Nat) = 256:=rfl;omega
 rw [e,wU64 (by omega) (by omega),wU64 (by omega) (by omega)];unfold bOr;have bv:∀ q:Nat,q < 18446744073709551616 -> (BitVec.ofInt IntKind.u64.bits (q:Int)).toNat = q:=fun q hq=>by
  show (BitVec.ofInt 64 (q:Int)).toNat = q;rw [BitVec.toNat_ofInt];omega
 rw [BitVec.toNat_or,bv _ (by omega),bv _ (by omega),<- Nat.two_pow_add_eq_or_of_lt (show y < 2 ^ 8 by have:(2 ^ 8:Nat) = 256:=rfl;omega) v,wU64 (by omega) (by omega)];have:(2 ^ 8:Nat) = 256:=rfl;omega

def rdN : List Int -> Int × Nat × Int
 | []=>(0,0,2)
 | n :: r=>if 8 < n \/ (0 < n /\ r.head? = some 0) then (0,0,4) else if (r.length:Int) < n then (0,0,2) else (valB (r.take n.toNat),n.toNat + 1,0)
theorem QB (n:Int) (r:List Int):rdN (n :: r) = if 8 < n \/ (0 < n /\ r.head? = some 0) then (0,0,4) else if (r.length:Int) < n then (0,0,2) else (valB (r.take n.toNat),n.toNat + 1,0):=rfl
theorem jd (b:List Int) (hb:By b):(rdN b = (0,0,2) \/ rdN b = (0,0,4)) \/ ∃ n r,b = n :: r /\ 0 <= n /\ n <= 8 /\ n <= (r.length:Int) /\ ¬ (0 < n /\ r.head? = some 0) /\ rdN b = (valB (r.take n.toNat),n.toNat + 1,0):=by
 cases b with
 | nil=>exact .inl (.inl rfl)
 | cons n r=>
  have hn:=hb n (by simp);rw [QB]
  by_cases h1:8 < n \/ (0 < n /\ r.head? = some 0)
  ·rw [if_pos h1];exact .inl (.inr rfl)
  ·rw [if_neg h1]
   by_cases h2:(r.length:Int) < n
   ·rw [if_pos h2];exact .inl (.inl rfl)
   ·rw [if_neg h2];exact .inr ⟨n,r,rfl,hn.1,by omega,by omega,fun h=>h1 (.inr h),rfl⟩
theorem je (b:List Int) (hb:By b):0 <= (rdN b).1 /\ (rdN b).1 <= 18446744073709551615 /\ (rdN b).2.1 <= b.length /\ ((rdN b).2.2 = 0 \/ (rdN b).2.2 = 2 \/ (rdN b).2.2 = 4):=by
 rcases jd b hb with (h | h) | ⟨n,r,rfl,h0,h8,hl,_,h⟩
 ·rw [h];simp
 ·rw [h];simp
 ·rw [h];have:=vVa (l:=r.take n.toNat) (fun x hx=>hb x (by simp [List.mem_of_mem_take hx])) (by rw [List.length_take];omega);refine ⟨this.1,this.2,?_,.inl rfl⟩;simp;omega
theorem xDa {r:List Int} (h:r ≠ []):∃ y,r.head? = some y /\ r[0]? = some y:=by
 cases r with
 | nil=>exact absurd rfl h
 | cons y t=>exact ⟨y,rfl,rfl⟩
theorem Read_eq (b:List Int) (hb:By b) (hl:b.length <= 1000000000000):UP b 0 = pure ((rdN b).1,((rdN b).2.1:Int),(rdN b).2.2):=by
 unfold UP;have h0:decide ((b.length:Int) < 0) = false:=by simp
 rw [show decide ((0:Int) < 0) = false from rfl,cond_false,h0,zA,cond_false]
 cases b with
 | nil=>rfl
 | cons n r=>
  have hn:=hb n (by simp);have hr:By r:=fun x hx=>hb x (by simp [hx])
  have h1:decide ((0:Int) = ((n :: r).length:Int)) = false:=by simp;omega
  have hrl:r.length <= 1000000000000:=by simp at hl;omega
  have e1:List.drop (Int.toNat (IntKind.i64.wrap (0 + 1))) (List.take (Int.toNat ((n :: r).length:Int)) (n :: r)) = r:=by
   rw [wI64 (by omega) (by omega),Int.toNat_natCast,List.take_length];rfl
  rw [h1,cond_false,WB (y:=n) (by omega) rfl,zA,zF (by rw [wI64 (by omega) (by omega)];simp;omega),e1,wI64 (n:=n) (by omega) (by omega)];rw [QB];have hc:(cond (decide (8 < n)) (pure true) (cond (decide (0 < n)) (cond (decide ((0:Int) < (r.length:Int))) ((idx r 0).bind fun x14=>pure (decide (x14 = 0))) (pure false)) (pure false)):M Bool) = pure (decide (8 < n \/ (0 < n /\ r.head? = some 0))):=by
   by_cases c1:8 < n
   ·simp [c1]
   ·by_cases c2:0 < n
    ·by_cases c3:r = []
     ·subst c3;simp [c1,c2]
     ·obtain ⟨y,h5,h6⟩:=xDa c3;have c4:0 < r.length:=List.length_pos_iff.2 c3;simp [c1,c2,c4,WB (l:=r) (i:=0) (y:=y) (by omega) h6,h5,zA]
    ·simp [c1,c2]
  rw [hc,zA]
  by_cases c1:8 < n \/ (0 < n /\ r.head? = some 0)
  ·rw [decide_eq_true c1,cond_true,if_pos c1];rfl
  ·rw [decide_eq_false c1,cond_false,if_neg c1]
   by_cases c2:(r.length:Int) < n
   ·rw [decide_eq_true c2,cond_true,if_pos c2];rfl
   ·rw [decide_eq_false c2,cond_false,if_neg c2,zF (by omega)];have e2:List.drop (Int.toNat 0) (List.take (Int.toNat (IntKind.i64.wrap n)) (List.drop (Int.toNat (IntKind.i64.wrap (0 + 1))) (List.take (Int.toNat ((n :: r).length:Int)) (n :: r)))) = r.take n.toNat:=by
     rw [e1,wI64 (by omega) (by omega)];rfl
    have hlen:(r.take n.toNat).length = n.toNat:=by rw [List.length_take];omega
    have hloop:=Yg (body:=uX n 0 (n :: r)) (r.take n.toNat) (fun i t=>(t,(i:Int))) (fun v x=>v * 256 + x) (fun t=>pure t) (fun i t=>∃ m:Nat,t = (m:Int) /\ m < 256 ^ i) (fun i x t hx hi hI=>by
     obtain ⟨m,rfl,hm⟩:=hI;have hxr:=(hr.take n.toNat) x (List.mem_of_getElem? hx);have hm7:m < 72057594037927936:=by
      have h3:256 ^ i <= 256 ^ 7:=Nat.pow_le_pow_right (by decide) (by omega);have h4:(256:Nat) ^ 7 = 72057594037927936:=by decide
      omega
     refine ⟨?_,m * 256 + x.toNat,by omega,by rw [Nat.pow_succ];omega⟩;unfold uX;have hd:decide ((i:Int) < ((r.take n.toNat).length:Int)) = true:=by simpa using hi
     simp only [e2,hd,cond_true,zK hx,zA,bor_eq hm7 hxr,yJ (show i < 9223372036854775807 by omega)]) (fun t _=>by
     unfold uX;have hd:decide (((r.take n.toNat).length:Int) < ((r.take n.toNat).length:Int)) = false:=by simp
     simp only [e2,hd,cond_false,zA]) 0 ⟨0,rfl,by decide⟩
    have hloop':loop (uX n 0 (n :: r)) (0,0) = pure (valB (r.take n.toNat)):=hloop;rw [hloop',zA,wI64 (n:=0 + 1) (by omega) (by omega),wI64 (by omega) (by omega)];have:((0:Int) + 1 + n) = ((n.toNat + 1:Nat):Int):=by omega
    rw [this]
theorem rRead_eq (B:List Int) (at_:Nat) (hB:By B) (hl:B.length <= 1000000000000) (ha:at_ <= B.length) :
  UU B (at_:Int) = pure ((rdN (B.drop at_)).1,(if (rdN (B.drop at_)).2.2 = 0 then ((at_ + (rdN (B.drop at_)).2.1:Nat):Int) else 0),(rdN (B.drop at_)).2.2):=by
 unfold UU;have h0:decide ((at_:Int) < 0) = false:=by simp
 have h0':decide ((B.length:Int) < (at_:Int)) = false:=by simp;omega
 rw [h0,cond_false,h0',zA,cond_false]
 by_cases hend:at_ = B.length
 ·have hd:B.drop at_ = []:=by rw [hend,List.drop_length]
  have h1:decide ((at_:Int) = (B.length:Int)) = true:=by simp [hend]
  rw [h1,cond_true,hd];rfl
 ·have h1:decide ((at_:Int) = (B.length:Int)) = false:=by simp;omega
  have hlt:at_ < B.length:=by omega
  obtain ⟨n,r,hd⟩:∃ n r,B.drop at_ = n :: r:=by
   rw [List.drop_eq_getElem_cons hlt];exact ⟨_,_,rfl⟩
  have hnB:B[at_]? = some n:=by
   have:=congrArg List.head? hd;rw [List.head?_drop] at this;exact this
  have hrB:∀ j,B[at_ + 1 + j]? = r[j]?:=fun j=>by
   have:=congrArg (fun l=>l[j + 1]?) hd;simp only [List.getElem?_drop,List.getElem?_cons_succ] at this;rw [<- this];congr 1;omega
  have hlenr:r.length + 1 + at_ = B.length:=by
   have:=congrArg List.length hd;simp at this;omega
  have hb:By (n :: r):=hd ▸ hB.drop at_;have hn:=hb n (by simp);have hr:By r:=fun x hx=>hb x (by simp [hx])
  rw [h1,cond_false,zK hnB,zA,wI64 (n:=n) (by omega) (by omega),hd];rw [QB];have hleft:IntKind.i64.wrap (IntKind.i64.wrap ((B.length:Int) - (at_:Int)) - 1) = (r.length:Int):=by
   rw [wI64 (n:=(B.length:Int) - (at_:Int)) (by omega) (by omega),wI64 (by omega) (by omega)];omega
  have hc:(cond (decide (8 < n)) (pure true) (cond (decide (0 < n)) (cond (decide ((0:Int) < (IntKind.i64.wrap (IntKind.i64.wrap ((B.length:Int) - (at_:Int)) - 1)))) ((idx B (IntKind.i64.wrap ((at_:Int) + 1))).bind fun x14=>pure (decide (x14 = 0))) (pure false)) (pure false)):M Bool) = pure (decide (8 < n \/ (0 < n /\ r.head? = some 0))):=by
   rw [hleft]
   by_cases c1:8 < n
   ·simp [c1]
   ·by_cases c2:0 < n
    ·by_cases c3:r = []
     ·subst c3;simp [c1,c2]
     ·obtain ⟨y,h5,h6⟩:=xDa c3;have c4:0 < r.length:=List.length_pos_iff.2 c3;have h7:idx B (IntKind.i64.wrap ((at_:Int) + 1)) = pure y:=by
       rw [wI64 (by omega) (by omega)];exact zK (i:=at_ + 1) (by rw [<- h6,<- hrB 0])
      simp [c1,c2,c4,h7,h5,zA]
    ·simp [c1,c2]
  rw [hc,zA]
  by_cases c1:8 < n \/ (0 < n /\ r.head? = some 0)
  ·rw [decide_eq_true c1,cond_true,if_pos c1];rfl
  ·rw [decide_eq_false c1,cond_false,if_neg c1,hleft]
   by_cases c2:(r.length:Int) < n
   ·rw [decide_eq_true c2,cond_true,if_pos c2];rfl
   ·rw [decide_eq_false c2,cond_false,if_neg c2];have hlen:(r.take n.toNat).length = n.toNat:=by rw [List.length_take];omega
    have hloop:=Yg (body:=ud n B (at_:Int)) (r.take n.toNat) (fun i t=>(t,((i + 1:Nat):Int))) (fun v x=>v * 256 + x) (fun t=>pure t) (fun i t=>∃ m:Nat,t = (m:Int) /\ m < 256 ^ i) (fun i x t hx hi hI=>by
     obtain ⟨m,rfl,hm⟩:=hI;have hxr:=(hr.take n.toNat) x (List.mem_of_getElem? hx);have hm7:m < 72057594037927936:=by
      have h3:256 ^ i <= 256 ^ 7:=Nat.pow_le_pow_right (by decide) (by omega);have h4:(256:Nat) ^ 7 = 72057594037927936:=by decide
      omega
     refine ⟨?_,m * 256 + x.toNat,by omega,by rw [Nat.pow_succ];omega⟩;unfold ud;have hd2:decide (((i + 1:Nat):Int) <= n) = true:=by simp;omega
     have hx2:B[at_ + (i + 1)]? = some x:=by
      rw [List.getElem?_take] at hx
      split at hx
      ·rw [<- hx,<- hrB i];congr 1;omega
      ·cases hx
     have hix:idx B (IntKind.i64.wrap ((at_:Int) + ((i + 1:Nat):Int))) = pure x:=by
      rw [wI64 (by omega) (by omega)];exact zK (i:=at_ + (i + 1)) hx2
     simp only [wI64 (n:=n) (by omega) (by omega),hd2,cond_true,hix,zA,wU64 (n:=(m:Int) * 256) (by omega) (by omega),wU64 (n:=x) (by omega) (by omega),wU64 (n:=(m:Int) * 256 + x) (by omega) (by omega),yJ (show i + 1 < 9223372036854775807 by omega)]) (fun t _=>by
     unfold ud;have hd2:decide (((((r.take n.toNat).length + 1:Nat)):Int) <= n) = false:=by rw [hlen];simp;omega
     simp only [wI64 (n:=n) (by omega) (by omega),hd2,cond_false,zA]) 0 ⟨0,rfl,by decide⟩
    have hloop':loop (ud n B (at_:Int)) (0,1) = pure (valB (r.take n.toNat)):=hloop;rw [hloop',zA,wI64 (n:=(at_:Int) + 1) (by omega) (by omega),wI64 (by omega) (by omega)];have:((at_:Int) + 1 + n) = ((at_ + (n.toNat + 1):Nat):Int):=by omega
    rw [this];rfl


theorem be_of : ∀ (l:List Int),By l -> ∀ n:Nat,valB l = (n:Int) -> be n l.length = l:=by
 intro l;have key:∀ (m:Nat) (l:List Int),l.length = m -> By l -> ∀ n:Nat,valB l = (n:Int) -> be n l.length = l:=by
  intro m
  induction m with
  | zero=>intro l hl _ n _;have:=List.eq_nil_of_length_eq_zero hl;subst this;rfl
  | succ m ih=>
   intro l hl hb n hn
   cases l with
   | nil=>simp at hl
   | cons x r=>
    have hx:=hb x (by simp);have hr:By r:=fun y hy=>hb y (by simp [hy])
    obtain ⟨q,h1,h2,h3⟩:=jc r 0 0 hr (by decide);obtain ⟨q2,h4,h5,h6⟩:=jc r x.toNat 1 hr (by omega);have hq:valB r = (q:Int):=h1;have hq2:valB (x :: r) = (q2:Int):=by
     rw [valB,List.foldl_cons,<- h4];congr 1;omega
    have hrl:r.length = m:=by simpa using hl
    have e:q2 = n:=by omega
    subst e;have hlin:∀ (l:List Int) (v:Int),l.foldl (fun v x=>v * 256 + x) v = v * 256 ^ l.length + valB l:=by
     intro l
     induction l with
     | nil=>intro v;simp [valB]
     | cons y t iht=>
      intro v;have e:valB (y :: t) = y * 256 ^ t.length + valB t:=by rw [valB,List.foldl_cons,iht];simp
      rw [List.foldl_cons,iht,e,List.length_cons,Int.pow_succ,Int.add_mul,Int.mul_assoc,Int.mul_comm 256,Int.add_assoc]
    have hsum:(q2:Int) = x * 256 ^ r.length + (q:Int):=by
     rw [<- hq,<- hlin r x,<- hq2,valB,List.foldl_cons];congr 1;omega
    have hqlt:q < 256 ^ r.length:=by simpa using h2
    have hnat:q2 = x.toNat * 256 ^ r.length + q:=by
     have:((q2:Nat):Int) = ((x.toNat * 256 ^ r.length + q:Nat):Int):=by
      rw [hsum,Int.natCast_add,Int.natCast_mul,Int.natCast_pow,Int.toNat_of_nonneg hx.1];rfl
     exact Int.ofNat.inj this
    have hp:0 < 256 ^ r.length:=Nat.pow_pos (by decide);have hdiv:q2 / 256 ^ r.length = x.toNat:=by
     rw [hnat,Nat.mul_comm,Nat.mul_add_div hp,Nat.div_eq_of_lt hqlt,Nat.add_zero]
    rw [List.length_cons,be];have hb1:UB q2 r.length = x:=by unfold UB;rw [hdiv];omega
    rw [hb1]
    congr 1
    have hbe:∀ k,k <= r.length -> be q2 k = be q k:=by
     intro k hk
     induction k with
     | zero=>rfl
     | succ k ihk=>
      rw [be,be,ihk (by omega)]
      congr 1
      show ((q2 / 256 ^ k % 256:Nat):Int) = ((q / 256 ^ k % 256:Nat):Int)
      congr 1
      have hs:256 ^ r.length = 256 ^ k * (256 * 256 ^ (r.length - k - 1)):=by
       rw [<- Nat.pow_succ',<- Nat.pow_add];congr 1;omega
      have hpk:0 < 256 ^ k:=Nat.pow_pos (by decide);rw [hnat,hs,Nat.mul_left_comm,Nat.mul_add_div hpk];rw [Nat.mul_left_comm,Nat.mul_add_mod]
    rw [hbe _ (Nat.le_refl _)];exact ih r hrl hr q hq
 exact key l.length l rfl
theorem rdN_one {b:List Int} (hb:By b) (h:(rdN b).2.2 = 0):b = encI (rdN b).1 ++ b.drop (rdN b).2.1:=by
 rcases jd b hb with (h1 | h1) | ⟨n,r,rfl,h0,h8,hl,hh,h1⟩
 ·rw [h1] at h;simp at h
 ·rw [h1] at h;simp at h
 ·rw [h1];have hr:By r:=fun x hx=>hb x (by simp [hx])
  have hbt:=hr.take n.toNat;have hlt:(r.take n.toNat).length = n.toNat:=by rw [List.length_take];omega
  obtain ⟨q,h2,h3,h4⟩:=jc (r.take n.toNat) 0 0 hbt (by decide);have hq:valB (r.take n.toNat) = (q:Int):=h2;have hbe:=be_of _ hbt q hq;rw [hlt] at hbe;have hlen:lenN q = n.toNat:=by
   apply Nat.le_antisymm
   ·exact yLa _ _ (by simpa [hlt] using h3)
   ·rcases Nat.eq_zero_or_pos n.toNat with hz | hz
    ·omega
    ·obtain ⟨k,hk⟩:∃ k,n.toNat = k + 1:=⟨n.toNat - 1,by omega⟩
     rw [hk];refine vSa k q ?_;rw [hk,be] at hbe;have hne:UB q k ≠ 0:=by
      intro e;rw [e] at hbe;refine hh ⟨by omega,?_⟩;have:=congrArg List.head? hbe;rw [List.head?_cons,List.head?_take,if_neg (by omega)] at this;exact this.symm
     unfold UB at hne;have hp:0 < 256 ^ k:=Nat.pow_pos (by decide);rcases Nat.lt_or_ge q (256 ^ k) with hlt2 | hge
     ·rw [Nat.div_eq_of_lt hlt2] at hne;simp at hne
     ·exact hge
  show n :: r = encI (valB (r.take n.toNat)) ++ (n :: r).drop (n.toNat + 1);rw [hq,encI,Int.toNat_natCast,encN,hlen,hbe,List.drop_succ_cons,List.cons_append,List.take_append_drop]
  congr 1;omega

abbrev RS:=List Int × Int
structure Ok (s:RS):Prop where
 by_:By s.1
 len:s.1.length <= 1000000000
 nil:s.2 ≠ 0 -> s.1 = []
def wb (e:Int) (s:RS):RS:=if s.2 = 0 /\ e ≠ 0 then ([],e) else s
def numS (s:RS):Int × RS:=if s.2 ≠ 0 then (0,s) else if (rdN s.1).2.2 ≠ 0 then (0,wb (rdN s.1).2.2 s) else ((rdN s.1).1,(s.1.drop (rdN s.1).2.1,0))
def zw (m:Int) (s:RS):Int × RS:=if m < (numS s).1 then (0,wb 4 (numS s).2) else numS s
def vB (s:RS):Int × RS:=if s.2 ≠ 0 then (0,s) else match s.1 with | []=>(0,wb 2 s) | x :: r=>(x,(r,0))
def uw (m:Int) (s:RS):ByteArray × RS:=
 if (numS s).2.2 ≠ 0 then (⟨#[]⟩,(numS s).2) else if max m 0 < (numS s).1 then (⟨#[]⟩,wb 3 (numS s).2) else if ((numS s).2.1.length:Int) < (numS s).1 then (⟨#[]⟩,wb 2 (numS s).2)
 else (strL ((numS s).2.1.take (numS s).1.toNat),((numS s).2.1.drop (numS s).1.toNat,0))
def endS (s:RS):Int × RS:=let t:=if 0 < s.1.length then wb 4 s else s;(t.2,t)
theorem XN {s:RS} (h:Ok s) (e:Int):Ok (wb e s):=by
 unfold wb
 by_cases c:s.2 = 0 /\ e ≠ 0
 ·rw [if_pos c];exact ⟨By.nil,by simp,fun _=>rfl⟩
 ·rw [if_neg c];exact h
theorem xL {s:RS} {e:Int} (h:e ≠ 0):(wb e s).2 ≠ 0:=by
 unfold wb
 by_cases c:s.2 = 0
 ·rw [if_pos ⟨c,h⟩];exact h
 ·rw [if_neg (fun q=>c q.1)];exact c
theorem fail_of {s:RS} (e:Int) (h:s.2 ≠ 0):wb e s = s:=if_neg fun q=>h q.1
theorem vWa {s:RS} (h:s.2 ≠ 0):numS s = (0,s):=if_pos h
theorem yX {s:RS} (h:Ok s):Ok (numS s).2 /\ 0 <= (numS s).1 /\ (numS s).1 <= 18446744073709551615:=by
 unfold numS;have hr:=je s.1 h.by_
 by_cases c:s.2 ≠ 0
 ·rw [if_pos c];exact ⟨h,by simp,by simp⟩
 ·rw [if_neg c]
  by_cases c2:(rdN s.1).2.2 ≠ 0
  ·rw [if_pos c2];exact ⟨XN h _,by simp,by simp⟩
  ·rw [if_neg c2];exact ⟨⟨h.by_.drop _,by simp;have:=h.len;omega,fun h=>absurd rfl h⟩,hr.1,hr.2.1⟩
theorem XO {s:RS} (h:Ok s) {m:Int} (hm:0 <= m):Ok (zw m s).2 /\ 0 <= (zw m s).1 /\ (zw m s).1 <= m:=by
 unfold zw;obtain ⟨h1,h2,h3⟩:=yX h
 by_cases c:m < (numS s).1
 ·rw [if_pos c];exact ⟨XN h1 _,by simp,hm⟩
 ·rw [if_neg c];exact ⟨h1,h2,by omega⟩
theorem vXa {s:RS} (h:Ok s):Ok (vB s).2 /\ 0 <= (vB s).1 /\ (vB s).1 <= 255:=by
 unfold vB
 by_cases c:s.2 ≠ 0
 ·rw [if_pos c];exact ⟨h,by simp,by simp⟩
 ·rw [if_neg c]
  cases hs:s.1 with
  | nil=>exact ⟨XN h _,by simp,by simp⟩
  | cons x r=>
   have hb:=h.by_;have hl:=h.len;rw [hs] at hb hl;exact ⟨⟨fun y hy=>hb y (by simp [hy]),by simp at hl ⊢;omega,fun h=>absurd rfl h⟩,(hb x (by simp)).1,(hb x (by simp)).2⟩
theorem ok_text {s:RS} (h:Ok s) (m:Int):Ok (uw m s).2:=by
 unfold uw;obtain ⟨h1,h2,h3⟩:=yX h
 split
 ·exact h1
 ·split
  ·exact XN h1 _
  ·split
   ·exact XN h1 _
   ·exact ⟨h1.by_.drop _,by simp;have:=h1.len;omega,fun h=>absurd rfl h⟩

theorem New_eq (b:List Int) (h:b.length <= 1000000000):Zp b = pure (b,0):=by
 unfold Zp;rw [zF (by omega)]
theorem WE (b:List Int) (e:Int):zQ b e = pure (e,b,e):=rfl
theorem ZY (e:Int) (s:RS):zJ e s.1 s.2 = pure (wb e s):=by
 unfold zJ wb
 by_cases c:s.2 = 0 <;> by_cases c2:e = 0 <;> simp [c,c2,zA] <;> rw [<- c]
theorem yMa (b:List Int) (n:Nat) (e:Int) (h:n <= b.length):yb (n:Int) b e = pure (b.take n,b.drop n,e):=by
 unfold yb;rw [zF (by omega),zF (by omega)];simp
theorem WF {s:RS} (h:Ok s):zU s.1 s.2 = pure (numS s):=by
 unfold zU numS;rw [WE,zB,zA]
 by_cases c:s.2 = 0
 ·have hr:=je s.1 h.by_;simp only [c,decide_true,Bool.not_true,cond_false,Read_eq s.1 h.by_ (by have:=h.len;omega),zB,zA,ne_eq,not_true_eq_false,if_false]
  by_cases c2:(rdN s.1).2.2 = 0
  ·simp only [c2,decide_true,Bool.not_true,cond_false,yMa s.1 (rdN s.1).2.1 0 hr.2.2.1,zB,zA,not_true_eq_false,if_false]
  ·have:=ZY (rdN s.1).2.2 s;rw [c] at this;simp only [c2,decide_false,Bool.not_false,cond_true,this,zB,zA,not_false_eq_true,if_true]
 ·simp [c]
theorem vYa {s:RS} (h:Ok s) (m:Int):yj m s.1 s.2 = pure (zw m s):=by
 unfold yj zw;rw [WF h,zB,zA]
 by_cases c:m < (numS s).1
 ·rw [decide_eq_true c,cond_true,if_pos c,ZY 4 (numS s).2,zB,zA]
 ·rw [decide_eq_false c,cond_false,if_neg c]
theorem yNa (s:RS):yK s.1 s.2 = pure ((s.1.length:Int),s):=by
 unfold yK vr;rw [zB,zA]
theorem xEa {s:RS} (h:Ok s):yB s.1 s.2 = pure (vB s):=by
 unfold yB vB;rw [WE,zB,zA]
 by_cases c:s.2 = 0
 ·obtain ⟨b,e⟩:=s;simp only at c;subst c;have hL:=yNa (b,0);simp only at hL
  cases b with
  | nil=>
   have:=ZY 2 ([],0);simp only at this;simp [hL,zB,zA,this]
  | cons x r=>
   have ht:=yMa (x :: r) 1 0 (by simp);simp only [show ((1:Nat):Int) = 1 from rfl] at ht;have hd:decide (((x :: r).length:Int) = 0) = false:=by simp;omega
   simp only [decide_true,Bool.not_true,cond_false,hL,zB,zA,hd,ht];rw [WB (l:=List.take 1 (x :: r)) (i:=0) (y:=x) (by omega) rfl,zA];simp
 ·simp [c]
theorem yOa {s:RS} (h:Ok s) {m:Int} (hm:m <= 9223372036854775807):yk m s.1 s.2 = pure (uw m s):=by
 unfold yk uw;obtain ⟨h1,h2,h3⟩:=yX h;rw [WF h,zB,zA,WE,zB,zA]
 by_cases c:(numS s).2.2 = 0
 ·simp only [c,decide_true,Bool.not_true,cond_false,ne_eq,not_true_eq_false,if_false];rw [wU64 (n:=max m 0) (by omega) (by omega)]
  by_cases c2:max m 0 < (numS s).1
  ·have hF:=ZY 3 (numS s).2;rw [c] at hF;rw [decide_eq_true c2,cond_true,if_pos c2,hF,zB,zA]
  ·have hL:=yNa (numS s).2;rw [c] at hL;rw [decide_eq_false c2,cond_false,if_neg c2,hL,zB,zA];have hlen:=h1.len;rw [wU64 (n:=((numS s).2.1.length:Int)) (by omega) (by omega)]
   by_cases c3:((numS s).2.1.length:Int) < (numS s).1
   ·have hF:=ZY 2 (numS s).2;rw [decide_eq_true c3,cond_true,if_pos c3,hF,zB,zA]
   ·rw [decide_eq_false c3,cond_false,if_neg c3,wI64 (by omega) (by omega)];have ht:=yMa (numS s).2.1 (numS s).1.toNat (numS s).2.2 (by omega);rw [Int.toNat_of_nonneg h2] at ht;rw [ht,zB,zA,c]
 ·simp [c]
theorem End_eq (s:RS):yr s.1 s.2 = pure (endS s):=by
 unfold yr endS;rw [yNa,zB,zA]
 by_cases c:0 < s.1.length
 ·have:decide ((0:Int) < (s.1.length:Int)) = true:=by simpa using c
  simp only [this,cond_true,ZY,zB,zA,if_pos c,WE]
 ·have:decide ((0:Int) < (s.1.length:Int)) = false:=by simpa using c
  simp only [this,cond_false,zA,if_neg c,WE,zB]

theorem vZa (b row:List Int) (h:row.length + b.length <= 100000000000000):yQ b row = pure (row ++ b):=by
 unfold yQ;rw [zF (by omega)]
theorem ux {v:Int} (row:List Int) (h0:0 <= v) (h:v <= 18446744073709551615) (hr:row.length <= 10000000000000):zT v row = pure (row ++ encI v):=by
 unfold zT;have:=yF h;rw [vUa [] h0 h (by simp),zB,zA,List.nil_append,vZa _ _ (by omega),zB,zA]
theorem xFa (row:List Int) (h:row.length <= 100000000000000):yV row = pure (row,row):=by
 unfold yV;rw [zF (by omega)]
theorem xGa (c:Int) (row:List Int) (hr:row.length <= 10000000000000):yf c row = pure (row ++ [c]):=by
 unfold yf;rw [vZa _ _ (by simp;omega),zB,zA]


structure Sim (B:List Int) (a:Int) (s:RS):Prop where
 lo:0 <= a
 hi:a <= B.length
 eq:s.2 = 0 -> s.1 = B.drop a.toNat
structure OkB (B:List Int):Prop where
 by_:By B
 len:B.length <= 1000000000
theorem Sim.start (B:List Int):Sim B 0 (B,0):=⟨Int.le_refl _,by omega,fun _=>rfl⟩
theorem OkB.ok {B:List Int} (h:OkB B):Ok (B,0):=⟨h.by_,h.len,fun h=>absurd rfl h⟩
theorem Sim.fail {B:List Int} {a:Int} {s:RS} (h:Sim B a s) {e:Int} (he:e ≠ 0):Sim B a (wb e s):=⟨h.lo,h.hi,fun h2=>absurd h2 (xL he)⟩
theorem Sim.bad {B:List Int} {a:Int} {s t:RS} (h:Sim B a s) (ht:t.2 ≠ 0):Sim B a t:=⟨h.lo,h.hi,fun h2=>absurd h2 ht⟩
variable {B:List Int} {a:Int} {s:RS}
theorem vb (B:List Int) (a:Int) (s:RS) {e:Int} (he:e ≠ 0):zD e B a s.2 = pure (B,a,(wb e s).2):=by
 unfold zD wb
 by_cases c:s.2 = 0 <;> simp [c,he]
theorem ZZ (hB:OkB B) (h:Sim B a s):∃ a',zI B a s.2 = pure ((numS s).1,B,a',(numS s).2.2) /\ Sim B a' (numS s).2:=by
 obtain ⟨m,rfl⟩:=Int.eq_ofNat_of_zero_le h.lo;have hm:m <= B.length:=by have:=h.hi;omega
 unfold zI numS
 by_cases c:s.2 = 0
 ·have hd:=h.eq c;rw [Int.toNat_natCast] at hd;have hr:=je s.1 (by rw [hd];exact hB.by_.drop _);rw [hd] at hr ⊢;simp only [c,decide_true,Bool.not_true,cond_false,rRead_eq B m hB.by_ (by have:=hB.len;omega) hm,zB,zA,ne_eq,not_true_eq_false,if_false]
  by_cases c2:(rdN (B.drop m)).2.2 = 0
  ·simp only [c2,decide_true,Bool.not_true,cond_false,if_true,not_true_eq_false,if_false];refine ⟨_,rfl,by omega,?_,fun _=>?_⟩
   ·have:=hr.2.2.1;rw [List.length_drop] at this;omega
   ·rw [List.drop_drop];congr 1
  ·have:=vb B (m:Int) s c2;rw [c] at this;simp only [c2,decide_false,Bool.not_false,cond_true,if_false,this,zB,zA,not_false_eq_true,if_true];exact ⟨_,rfl,h.fail c2⟩
 ·have:decide (s.2 = 0) = false:=by simp [c]
  simp only [this,Bool.not_false,cond_true,ne_eq,c,not_false_eq_true,if_true];exact ⟨_,rfl,h⟩
theorem xHa (hB:OkB B) (h:Sim B a s) (m:Int):∃ a',zh m B a s.2 = pure ((zw m s).1,B,a',(zw m s).2.2) /\ Sim B a' (zw m s).2:=by
 obtain ⟨a1,h1,h2⟩:=ZZ hB h;unfold zh zw;rw [h1,zB,zA]
 by_cases c:m < (numS s).1
 ·rw [decide_eq_true c,cond_true,if_pos c,vb B a1 (numS s).2 (by decide),zB,zA];exact ⟨_,rfl,h2.fail (by decide)⟩
 ·rw [decide_eq_false c,cond_false,if_neg c];exact ⟨_,rfl,h2⟩
theorem zFa (hB:OkB B) (h:Sim B a s):∃ a',zb B a s.2 = pure ((vB s).1,B,a',(vB s).2.2) /\ Sim B a' (vB s).2:=by
 obtain ⟨m,rfl⟩:=Int.eq_ofNat_of_zero_le h.lo;have hm:m <= B.length:=by have:=h.hi;omega
 have hlen:=hB.len;unfold zb vB
 by_cases c:s.2 = 0
 ·have hd:=h.eq c;rw [Int.toNat_natCast] at hd;simp only [c,decide_true,Bool.not_true,cond_false,ne_eq,not_true_eq_false,if_false]
  by_cases hend:B.length <= m
  ·have:decide ((B.length:Int) <= (m:Int)) = true:=by simpa using hend
   have hnil:s.1 = []:=by rw [hd];exact List.drop_eq_nil_of_le hend
   have hF:=vb B (m:Int) s (e:=2) (by decide);rw [c] at hF;simp only [this,cond_true,hF,zB,zA,hnil];exact ⟨_,rfl,h.fail (by decide)⟩
  ·have:decide ((B.length:Int) <= (m:Int)) = false:=by simp;omega
   have hlt:m < B.length:=by omega
   have hs:s.1 = B[m] :: B.drop (m + 1):=by rw [hd];exact List.drop_eq_getElem_cons hlt
   have hi:idx B (IntKind.i64.wrap (IntKind.i64.wrap ((m:Int) + 1) - 1)) = pure B[m]:=by
    rw [wI64 (n:=(m:Int) + 1) (by omega) (by omega),wI64 (by omega) (by omega)];exact WB (by omega) (by rw [show ((m:Int) + 1 - 1).toNat = m by omega];exact List.getElem?_eq_getElem hlt)
   simp only [this,cond_false,hi,zA,hs];refine ⟨_,rfl,?_,?_,fun _=>?_⟩
   ·rw [wI64 (by omega) (by omega)];omega
   ·rw [wI64 (by omega) (by omega)];omega
   ·rw [wI64 (by omega) (by omega)];show B.drop (m + 1) = _
    congr 1
 ·have:decide (s.2 = 0) = false:=by simp [c]
  simp only [this,Bool.not_false,cond_true,ne_eq,c,not_false_eq_true,if_true];exact ⟨_,rfl,h⟩
theorem vaa (hB:OkB B) (hO:Ok s) (h:Sim B a s) {q:Int} (hq:q <= 9223372036854775807):∃ a',zp q B a s.2 = pure ((uw q s).1,B,a',(uw q s).2.2) /\ Sim B a' (uw q s).2:=by
 obtain ⟨a1,h1,h2⟩:=ZZ hB h;obtain ⟨k1,k2,k3⟩:=yX hO;have hlen:=hB.len;unfold zp uw;rw [h1,zB,zA];have hmost:(cond (decide (q < 0)) (pure 0) (pure q):M Int) = pure (max q 0):=by
  by_cases c:q < 0
  ·rw [decide_eq_true c,cond_true];congr 1;omega
  ·rw [decide_eq_false c,cond_false];congr 1;omega
 rw [hmost,zA,wU64 (n:=max q 0) (by omega) (by omega)]
 generalize hns:numS s = ns at *
 obtain ⟨n,b,e⟩:=ns;simp only at *
 by_cases c:e = 0
 ·subst c
  by_cases c2:max q 0 < n
  ·have hF:=vb B a1 (b,0) (e:=3) (by decide);simp only at hF;simp only [decide_eq_true c2,cond_true,hF,zB,zA];have hb:(wb 3 (b,0)).2 = 3:=rfl;simp only [hb,show decide ((3:Int) = 0) = false from rfl,cond_false,zA,Bool.not_false,cond_true,ne_eq,not_true_eq_false,if_false,if_pos c2];exact ⟨_,rfl,h2.fail (by decide)⟩
  ·simp only [decide_eq_false c2,cond_false,zA,decide_true,cond_true,ne_eq,not_true_eq_false,if_false,if_neg c2];have hbl:(b.length:Int) = B.length - a1:=by
    have h3:=h2.eq rfl;simp only at h3;rw [h3,List.length_drop];have:=h2.lo;have:=h2.hi;omega
   have h4:=h2.lo;have h5:=h2.hi;rw [wI64 (n:=(B.length:Int) - a1) (by omega) (by omega),wU64 (n:=(B.length:Int) - a1) (by omega) (by omega),<- hbl]
   by_cases c3:(b.length:Int) < n
   ·have hF:=vb B a1 (b,0) (e:=2) (by decide);simp only at hF;have hb:(wb 2 (b,0)).2 = 2:=rfl;simp only [decide_eq_true c3,cond_true,hF,zB,zA,hb,show decide ((2:Int) = 0) = false from rfl,Bool.not_false,if_pos c3];exact ⟨_,rfl,h2.fail (by decide)⟩
   ·have hn:IntKind.i64.wrap n = n:=wI64 (by omega) (by omega);simp only [decide_eq_false c3,cond_false,zA,decide_true,Bool.not_true,if_neg c3,hn];rw [wI64 (n:=a1 + n) (by omega) (by omega),zF (by omega)];have h3:=h2.eq rfl;simp only at h3;refine ⟨_,by congr 2;rw [h3];congr 1;rw [List.drop_take];congr 1;omega,?_,?_,fun _=>?_⟩
    ·omega
    ·omega
    ·show b.drop n.toNat = _;rw [h3,List.drop_drop];congr 1;omega
 ·have hd:decide (e = 0) = false:=by simp [c]
  have hx:max q 0 < n \/ ¬ max q 0 < n:=by omega
  have hz:n = 0:=by
   unfold numS at hns
   by_cases c4:s.2 = 0
   ·rw [if_neg (by simp [c4])] at hns
    by_cases c5:(rdN s.1).2.2 = 0
    ·rw [if_neg (by simp [c5])] at hns;have:=congrArg (fun x=>x.2.2) hns;simp only at this;exact absurd this.symm c
    ·rw [if_pos c5] at hns;exact (congrArg (fun x=>x.1) hns).symm
   ·rw [if_pos c4] at hns;exact (congrArg (fun x=>x.1) hns).symm
  subst hz;have hd2:decide (max q 0 < 0) = false:=by simp;omega
  rw [if_pos (show e ≠ 0 from c)];simp only [hd2,cond_false,zA,hd,Bool.not_false,cond_true];exact ⟨_,rfl,h2⟩
theorem xIa (hB:OkB B) (hO:Ok s) (h:Sim B a s):∃ a',zt B a s.2 = pure ((endS s).1,B,a',(endS s).1):=by
 have hlen:=hB.len;unfold zt yZ endS
 by_cases c:s.2 = 0
 ·have h3:=h.eq c;have h4:=h.lo;have h5:=h.hi;have hbl:(s.1.length:Int) = B.length - a:=by rw [h3,List.length_drop];omega
  have e1:IntKind.i64.wrap ((B.length:Int) - a) = (s.1.length:Int):=by rw [wI64 (by omega) (by omega)];omega
  simp only [c,decide_true,Bool.not_true,cond_false,e1,zB,zA]
  by_cases c2:0 < s.1.length
  ·have:decide ((0:Int) < (s.1.length:Int)) = true:=by simpa using c2
   have hF:=vb B a s (e:=4) (by decide);rw [c] at hF;simp only [this,cond_true,hF,zB,zA,if_pos c2];exact ⟨_,rfl⟩
  ·have:decide ((0:Int) < (s.1.length:Int)) = false:=by simpa using c2
   simp only [this,cond_false,zA,if_neg c2,c];exact ⟨_,rfl⟩
 ·have hn:=hO.nil c;have:decide (s.2 = 0) = false:=by simp [c]
  simp only [this,Bool.not_false,cond_true,zB,zA,show decide ((0:Int) < 0) = false from rfl,cond_false,hn,List.length_nil,show ¬ (0 < 0) by omega,if_false];exact ⟨_,rfl⟩
end Go.Ep.M.N

namespace Go.Ep.M.D
open Go

theorem UC {a b:TDot}:zV a b = true ↔ a.dev < b.dev \/ (a.dev = b.dev /\ a.n < b.n):=by simp [zV]
theorem UD (a:TDot):zV a a = false:=by
 cases h:zV a a with
 | false=>rfl
 | true=>rw [UC] at h;omega
theorem Xt {a b c:TDot} (h1:zV a b = true) (h2:zV b c = true):zV a c = true:=by rw [UC] at *;omega
theorem Vo {a b:TDot} (h:zV a b = true):zV b a = false:=by
 cases h2:zV b a with
 | false=>rfl
 | true=>rw [UC] at h h2;omega
theorem zGa {a b:TDot} (h1:zV a b = false) (h2:zV b a = false):a = b:=by
 have h3:¬ (zV a b = true):=by simp [h1]
 have h4:¬ (zV b a = true):=by simp [h2]
 rw [UC] at h3 h4
 cases a;cases b
 simp only [TDot.mk.injEq] at *
 omega
abbrev Srt (l:List TDot):Prop:=l.Pairwise fun x y=>zV x y = true
theorem yPa : ∀ {l l':List TDot},Srt l -> Srt l' -> (∀ d,d ∈ l ↔ d ∈ l') -> l = l'
 | [],[],_,_,_=>rfl
 | [],y :: r,_,_,h=>by have:=(h y).2 (by simp);simp at this
 | x :: r,[],_,_,h=>by have:=(h x).1 (by simp);simp at this
 | x :: r,y :: t,h1,h2,h=>by
  have hx:=(h x).1 (by simp);have hy:=(h y).2 (by simp);have e:x = y:=by
   rcases List.mem_cons.1 hx with e | hx
   ·exact e
   ·rcases List.mem_cons.1 hy with e | hy
    ·exact e.symm
    ·have a1:=(List.pairwise_cons.1 h2).1 x hx;have a2:=(List.pairwise_cons.1 h1).1 y hy;rw [Vo a1] at a2;cases a2
  subst e
  congr 1
  refine yPa (List.pairwise_cons.1 h1).2 (List.pairwise_cons.1 h2).2 fun d=>?_
  have h3:=h d;simp only [List.mem_cons] at h3
  constructor
  ·intro hd;rcases h3.1 (.inr hd) with e | h4
   ·have:=(List.pairwise_cons.1 h1).1 d hd;rw [e,UD] at this;cases this
   ·exact h4
  ·intro hd;rcases h3.2 (.inr hd) with e | h4
   ·have:=(List.pairwise_cons.1 h2).1 d hd;rw [e,UD] at this;cases this
   ·exact h4

def insD (s:List TDot) (d:TDot):List TDot:=(s.filter fun x=>zV x d) ++ [d] ++ (s.filter fun x=>zV d x)
theorem ins_mem {s:List TDot} {d x:TDot}:x ∈ insD s d ↔ x = d \/ x ∈ s:=by
 simp only [insD,List.mem_append,List.mem_filter,List.mem_singleton]
 constructor
 ·rintro ((h | h) | h)
  ·exact .inr h.1
  ·exact .inl h
  ·exact .inr h.1
 ·rintro (h | h)
  ·exact .inl (.inr h)
  ·cases h1:zV x d with
   | true=>exact .inl (.inl ⟨h,rfl⟩)
   | false=>
    cases h2:zV d x with
    | true=>exact .inr ⟨h,rfl⟩
    | false=>exact .inl (.inr (zGa h1 h2))
theorem ins_srt {s:List TDot} (h:Srt s) (d:TDot):Srt (insD s d):=by
 unfold Srt insD;rw [List.pairwise_append,List.pairwise_append];refine ⟨⟨h.filter _,by simp,fun a ha b hb=>?_⟩,h.filter _,fun a ha b hb=>?_⟩
 ·rw [List.mem_singleton.1 hb];exact (List.mem_filter.1 ha).2
 ·have hb:=(List.mem_filter.1 hb).2;rcases List.mem_append.1 ha with ha | ha
  ·exact Xt (List.mem_filter.1 ha).2 hb
  ·rw [List.mem_singleton.1 ha];exact hb
theorem QC (s:List TDot) (d:TDot):(insD s d).length <= s.length + 1:=by
 unfold insD;have h:∀ l:List TDot,(l.filter fun x=>zV x d).length + (l.filter fun x=>zV d x).length <= l.length:=by
  intro l
  induction l with
  | nil=>simp
  | cons x r ih=>
   cases h1:zV x d with
   | true=>simp [h1,Vo h1];omega
   | false=>
    cases h2:zV d x with
    | true=>simp [h1,h2];omega
    | false=>simp [h1,h2];omega
 have:=h s;simp;omega
def wP (l:List TDot):List TDot:=l.foldl insD []
theorem Uf : ∀ (l s:List TDot),Srt s -> Srt (l.foldl insD s) /\ (∀ d,d ∈ l.foldl insD s ↔ d ∈ s \/ d ∈ l) /\ (l.foldl insD s).length <= s.length + l.length
 | [],s,h=>⟨h,by simp,by simp⟩
 | x :: r,s,h=>by
  obtain ⟨h1,h2,h3⟩:=Uf r (insD s x) (ins_srt h x);refine ⟨h1,fun d=>?_,?_⟩
  ·rw [List.foldl_cons,h2 d,ins_mem,List.mem_cons]
   constructor
   ·rintro ((h | h) | h)
    ·exact .inr (.inl h)
    ·exact .inl h
    ·exact .inr (.inr h)
   ·rintro (h | h | h)
    ·exact .inl (.inr h)
    ·exact .inl (.inl h)
    ·exact .inr h
  ·have:=QC s x;rw [List.foldl_cons,List.length_cons];omega
theorem xJa (l:List TDot):Srt (wP l):=(Uf l [] List.Pairwise.nil).1
theorem VK {l:List TDot} {d:TDot}:d ∈ wP l ↔ d ∈ l:=by simpa [wP] using (Uf l [] List.Pairwise.nil).2.1 d
theorem Xu (l:List TDot):(wP l).length <= l.length:=by simpa [wP] using (Uf l [] List.Pairwise.nil).2.2
theorem vba {l:List TDot} (h:Srt l):wP l = l:=yPa (xJa l) h fun _=>VK
theorem yQa (s:List TDot) (d:TDot) (h:s.length <= 1000000000000):YM s d = pure (insD s d):=V.Vh s d h

def ddS (out:List TDot) (x:TDot):List TDot:=if out.getLast? = some x then out else out ++ [x]
def dd (l:List TDot):List TDot:=l.foldl ddS []
theorem jf (l:List TDot) (x:TDot):dd (l ++ [x]) = ddS (dd l) x:=by simp [dd]
theorem yRa (l:List TDot):(dd l).getLast? = l.getLast?:=by
 rcases R.yc l with rfl | ⟨r,y,rfl⟩
 ·rfl
 ·rw [jf];unfold ddS
  by_cases c:(dd r).getLast? = some y
  ·rw [if_pos c,c];simp
  ·rw [if_neg c];simp
theorem dd_mem {l:List TDot} {d:TDot}:d ∈ dd l ↔ d ∈ l:=by
 have:∀ (l s:List TDot),d ∈ l.foldl ddS s ↔ d ∈ s \/ d ∈ l:=by
  intro l
  induction l with
  | nil=>intro s;simp
  | cons x r ih=>
   intro s;rw [List.foldl_cons,ih];have h2:d ∈ ddS s x ↔ d ∈ s \/ d = x:=by
    unfold ddS
    split
    ·rename_i h
     exact ⟨.inl,fun h3=>h3.elim id fun e=>by rw [e];exact List.mem_of_getLast? h⟩
    ·simp
   rw [h2,List.mem_cons];exact or_assoc
 simpa [dd] using this l []
theorem dd_srt {l:List TDot} (h:l.Pairwise fun x y=>zV y x = false):Srt (dd l):=by
 have:∀ (n:Nat) (l:List TDot),l.length = n -> (l.Pairwise fun x y=>zV y x = false) -> Srt (dd l):=by
  intro n
  induction n with
  | zero=>intro l hl _;have:=List.eq_nil_of_length_eq_zero hl;subst this;exact List.Pairwise.nil
  | succ n ih=>
   intro l hl h;rcases R.yc l with rfl | ⟨r,y,rfl⟩
   ·simp at hl
   ·rw [List.pairwise_append] at h;have hr:=ih r (by simpa using hl) h.1;rw [jf];unfold ddS
    split
    ·exact hr
    ·rename_i hne
     unfold Srt;rw [List.pairwise_append];refine ⟨hr,by simp,fun a ha b hb=>?_⟩;rw [List.mem_singleton.1 hb];have ha':=dd_mem.1 ha;have h1:=h.2.2 a ha' y (by simp)
     cases h2:zV a y with
     | true=>rfl
     | false=>
      exfalso;have e:=zGa h2 h1;subst e;rw [yRa] at hne;rcases R.yc r with rfl | ⟨q,z,rfl⟩
      ·simp at ha'
      ·have hz:zV a z = false:=h.2.2 z (by simp) a (by simp);rcases List.mem_append.1 ha' with h5 | h5
       ·have h6:zV z a = false:=by
         have:=(List.pairwise_append.1 h.1).2.2 a h5 z (by simp);exact this
        have:=zGa hz h6;subst this;simp at hne
       ·rw [List.mem_singleton.1 h5] at hne;simp at hne
 exact this l.length l rfl h

theorem QD (l:List TDot) (h:l.length <= 1000000000000):zy l = pure l:=by
 unfold zy;refine uT ⟨⟨false,fun h=>by cases h⟩,fun b hb=>?_⟩
 cases b with
 | true=>show ([]:List TDot) = l;exact (hb rfl).symm
 | false=>
  show _ /\ ([] ++ l = l)
  exact ⟨by simp;omega,List.nil_append l⟩
theorem ySa (x y:TDot):(decide (x.dev = y.dev) && decide (x.n = y.n)) = decide (x = y):=by
 cases x;cases y;simp [Bool.decide_and]
theorem XP {l:List TDot} {m:Nat} {x:TDot} (h:l[m]? = some x):l.take (m + 1) = l.take m ++ [x]:=by
 rw [List.take_add_one,h];rfl
theorem zHa {l:List TDot} {m:Nat} {x:TDot} (h:l[m]? = some x):(l.take (m + 1)).getLast? = some x:=by rw [XP h];simp
theorem Vp (s:List TDot) (k:Nat) (hk:k < s.length) (hl:s.length <= 1000000000000):∀ (d k2 kk:Nat) (v:List TDot),k + k2 + d = s.length -> 1 <= k2 -> v.length = s.length -> kk + 1 <= k + k2 -> v.take kk = dd (s.take (k + k2)) -> v.drop (k + k2 - 1) = s.drop (k + k2 - 1) ->
  ∃ (kk':Nat) (v':List TDot),loop (zf s (k:Int)) ((kk:Int),(k2:Int),v) = pure ((kk':Int),v') /\ v'.length = s.length /\ kk' <= s.length /\ v'.take kk' = dd s
 | 0,k2,kk,v,hd,h1,hv,hkk,ht,_=>by
  refine ⟨kk,v,zO ?_,hv,by omega,by rw [ht,show k + k2 = s.length by omega,List.take_length]⟩;unfold zf;have:decide ((k2:Int) < (((s.length - (k:Int).toNat:Nat)):Int)) = false:=by simp;omega
  simp only [this,cond_false]
 | d + 1,k2,kk,v,hd,h1,hv,hkk,ht,hdr=>by
  have hvg:∀ j,k + k2 - 1 <= j -> v[j]? = s[j]?:=fun j hj=>by
   have:=congrArg (fun l=>l[j - (k + k2 - 1)]?) hdr;simp only [List.getElem?_drop] at this;rw [show k + k2 - 1 + (j - (k + k2 - 1)) = j by omega] at this;exact this
  obtain ⟨x,hx⟩:∃ x,s[k + k2]? = some x:=⟨_,List.getElem?_eq_getElem (by omega)⟩
  obtain ⟨y,hy⟩:∃ y,s[k + k2 - 1]? = some y:=⟨_,List.getElem?_eq_getElem (by omega)⟩
  have hlast:(dd (s.take (k + k2))).getLast? = some y:=by
   rw [yRa];have:=zHa hy
   rwa [show k + k2 - 1 + 1 = k + k2 by omega] at this
  have hdd:dd (s.take (k + k2 + 1)) = if y = x then dd (s.take (k + k2)) else dd (s.take (k + k2)) ++ [x]:=by
   rw [XP hx,jf];unfold ddS;rw [hlast]
   by_cases c:y = x
   ·rw [if_pos c,if_pos (by rw [c])]
   ·rw [if_neg c,if_neg (by intro e;exact c (Option.some.inj e))]
  have hb:zf s (k:Int) ((kk:Int),(k2:Int),v) = pure (.next (if y = x then ((kk:Int),((k2 + 1:Nat):Int),v) else (((kk + 1:Nat):Int),((k2 + 1:Nat):Int),v.set kk x))):=by
   unfold zf;have hc:decide ((k2:Int) < (((s.length - (k:Int).toNat:Nat)):Int)) = true:=by simp;omega
   have e1:IntKind.i64.wrap ((k2:Int) - 1) = ((k2 - 1:Nat):Int):=by rw [wI64 (by omega) (by omega)];omega
   have i1:idx v ((((k:Int).toNat + (k2:Int).toNat:Nat)):Int) = pure x:=zK (by rw [Int.toNat_natCast,Int.toNat_natCast,hvg _ (by omega)];exact hx);have i2:idx v ((((k:Int).toNat + (((k2 - 1:Nat):Int)).toNat:Nat)):Int) = pure y:=zK (by rw [Int.toNat_natCast,Int.toNat_natCast,hvg _ (by omega),show k + (k2 - 1) = k + k2 - 1 by omega];exact hy);obtain ⟨z,hz⟩:∃ z,v[kk]? = some z:=⟨_,List.getElem?_eq_getElem (by omega)⟩
   have i3:idx v (kk:Int) = pure z:=zK hz;simp only [hc,cond_true,e1];rw [zF (by simp;omega),i1,zA,zF (by simp;omega),i2,zA];simp only [ySa]
   by_cases c:y = x
   ·have c1:decide (x = y) = true:=decide_eq_true c.symm;simp only [c1,Bool.not_true,cond_false,zA,yJ (show k2 < 9223372036854775807 by omega),if_pos c]
   ·have c1:decide (x = y) = false:=decide_eq_false (fun e=>c e.symm);simp only [c1,Bool.not_false,cond_true,if_neg c];rw [zF (by simp;omega),i3];simp only [zA,yJ (show k2 < 9223372036854775807 by omega),yJ (show kk < 9223372036854775807 by omega),Int.toNat_natCast]
  by_cases c:y = x
  ·rw [if_pos c] at hb hdd;rw [zi hb];refine Vp s k hk hl d (k2 + 1) kk v (by omega) (by omega) hv (by omega) (by rw [ht,<- hdd];rfl) ?_;have:=congrArg (List.drop 1) hdr;rw [List.drop_drop,List.drop_drop,show k + k2 - 1 + 1 = k + (k2 + 1) - 1 by omega] at this;exact this
  ·rw [if_neg c] at hb hdd;rw [zi hb];refine Vp s k hk hl d (k2 + 1) (kk + 1) (v.set kk x) (by omega) (by omega) (by simpa using hv) (by omega) ?_ ?_
   ·have h5:(v.set kk x)[kk]? = some x:=by rw [List.getElem?_set];simp;omega
    rw [XP h5,List.take_set,List.set_eq_of_length_le (by rw [List.length_take];omega),ht,<- hdd];rfl
   ·rw [List.drop_set,if_pos (by omega)];have:=congrArg (List.drop 1) hdr;rw [List.drop_drop,List.drop_drop,show k + k2 - 1 + 1 = k + (k2 + 1) - 1 by omega] at this;exact this
theorem x9a (s:List TDot) (hl:s.length <= 1000000000000):zn s = pure (dd s):=by
 unfold zn
 by_cases h2:s.length < 2
 ·have:decide ((s.length:Int) < 2) = true:=by simp;omega
  rw [this,cond_true]
  match s,h2 with
  | [],_=>rfl
  | [x],_=>rfl
 ·have:decide ((s.length:Int) < 2) = false:=by simp;omega
  rw [this,cond_false];have key:∀ d k,k + d = s.length -> 1 <= k -> dd (s.take k) = s.take k -> (loop (zg s) (k:Int)).bind (exk fun _=>pure s) = pure (dd s):=by
   intro d
   induction d with
   | zero=>
    intro k hk h1 hd;rw [zO (r:=.brk ()) (by
     unfold zg;have:decide ((k:Int) < (s.length:Int)) = false:=by simp;omega
     simp only [this,cond_false])]
    rw [show k = s.length by omega,List.take_length] at hd;show pure s = pure (dd s);rw [hd]
   | succ d ih=>
    intro k hk h1 hd;obtain ⟨x,hx⟩:∃ x,s[k]? = some x:=⟨_,List.getElem?_eq_getElem (by omega)⟩
    obtain ⟨y,hy⟩:∃ y,s[k - 1]? = some y:=⟨_,List.getElem?_eq_getElem (by omega)⟩
    have hlast:(dd (s.take k)).getLast? = some y:=by
     rw [yRa];have:=zHa hy
     rwa [show k - 1 + 1 = k by omega] at this
    have hc:decide ((k:Int) < (s.length:Int)) = true:=by simp;omega
    have i1:idx s (k:Int) = pure x:=zK hx;have i2:idx s (IntKind.i64.wrap ((k:Int) - 1)) = pure y:=by
     rw [wI64 (by omega) (by omega)];exact WB (by omega) (by rw [show ((k:Int) - 1).toNat = k - 1 by omega];exact hy)
    by_cases c:x = y
    ·subst c;obtain ⟨kk,v,h5,h6,h7,h8⟩:=Vp s k (by omega) hl d 1 k s (by omega) (by omega) rfl (by omega) (by
      rw [XP hx,jf,ddS,if_pos hlast,hd]) (by rw [show k + 1 - 1 = k by omega])
     rw [zO (r:=.ret (dd s)) (by
      unfold zg;simp only [hc,cond_true,i1,i2,zA,ySa,decide_true];rw [zF (by omega),show (1:Int) = ((1:Nat):Int) from rfl,h5,zA];simp only [];rw [zF (by omega),zF (by simp;omega),zF (by
       simp only [List.length_append,List.length_take,List.length_replicate,List.length_drop,Int.toNat_natCast];omega),zA,Uu]
      congr 3
      rw [Int.toNat_natCast,List.append_assoc,List.take_append_of_le_length (by rw [List.length_take];omega),List.take_take,Nat.min_self,h8])]
     rfl
    ·have c1:decide (x = y) = false:=decide_eq_false c;rw [zi (s':=((k + 1:Nat):Int)) (by
      unfold zg;simp only [hc,cond_true,i1,i2,zA,ySa,c1,cond_false,YG,yJ (show k < 9223372036854775807 by omega)])]
     refine ih (k + 1) (by omega) (by omega) ?_;rw [XP hx,jf,ddS,if_neg (by rw [hlast];intro e;exact c (Option.some.inj e).symm),hd]
  have:=key (s.length - 1) 1 (by omega) (by omega) (by
   obtain ⟨x,r,rfl⟩:∃ x r,s = x :: r:=by
    cases s with
    | nil=>simp at h2
    | cons x r=>exact ⟨x,r,rfl⟩
   rfl)
  exact this
theorem vFa {l:List TDot} {Q:List TDot -> Prop} (h:∀ s,s.Perm l -> (s.Pairwise fun x y=>zV y x = false) -> Q s):(srt zV l).wp Q:=by
 refine ⟨⟨l.mergeSort (fun x y=>!zV y x),List.mergeSort_perm _ _,?_⟩,fun s ⟨h1,h2⟩=>h s h1 h2⟩;refine (List.pairwise_mergeSort (fun a b c h1 h2=>?_) (fun a b=>?_) l).imp fun {x y} h=>by simpa using h
 ·simp only [Bool.not_eq_true'] at h1 h2 ⊢
  cases h3:zV c a with
  | false=>rfl
  | true=>
   rw [UC] at h3;have h4:¬ (zV b a = true):=by simp [h1]
   have h5:¬ (zV c b = true):=by simp [h2]
   rw [UC] at h4 h5;omega
 ·cases h1:zV b a with
  | false=>rfl
  | true=>rw [Vo h1];rfl
theorem yTa (l:List TDot) (h:l.length <= 1000000000000):XZ l = pure (wP l):=by
 unfold XZ;rw [QD l h,zB,zA,zF (by omega)];refine uT (vFa fun s hs hp=>?_);show (bind (det (zn s)) fun y8=>pure y8).wp _;rw [x9a s (by rw [hs.length_eq];exact h),zB,zA];exact yPa (dd_srt hp) (xJa l) fun d=>by rw [dd_mem,VK];exact hs.mem_iff

theorem cmp16_eq (x y:Int):xF x y = pure (R.cmp3 x y):=by
 unfold xF xx R.cmp3;simp only [decide_true,Bool.not_true,zB,zA,cond_false,ww]
 split
 ·rfl
 ·split <;> rfl
theorem Jd (a b:TDot):we a b = pure (V.cmpD a b):=by
 unfold we;rw [cmp16_eq,zB,zA,R.vGa,zB,zA];unfold V.cmpD R.cmp3
 cases a with | mk d n=>cases b with | mk e m=>
 simp only [TDot.mk.injEq,zV]
 by_cases h1:d < e
 ·have:¬ d = e:=by omega
  simp [h1,this]
 ·by_cases h2:e < d
  ·have:¬ d = e:=by omega
   simp [h1,h2,this]
  ·have h3:d = e:=by omega
   subst h3
   by_cases h4:n < m
   ·have:¬ n = m:=by omega
    simp [h4,this]
   ·by_cases h5:m < n
    ·have:¬ n = m:=by omega
     simp [h4,h5,this]
    ·have:n = m:=by omega
     simp [this]


theorem QE {σ ρ ε:Type} {body:σ -> M (Step σ ρ)} (l:List ε) (f:ε -> List Int) (row:List Int) (N:Nat) (mk:Nat -> List Int -> σ) (g:List Int -> M ρ) (hN:row.length + (l.flatMap f).length <= N)
  (h1:∀ (i:Nat) (x:ε) (out:List Int),l[i]? = some x -> i < l.length -> out.length + (f x).length <= N -> body (mk i out) = pure (.next (mk (i + 1) (out ++ f x))))
  (h2:∀ out,body (mk l.length out) = (g out).bind fun r=>pure (.done r)):loop body (mk 0 row) = g (row ++ l.flatMap f):=by
 have key:∀ (k i:Nat) (out:List Int),i + k = l.length -> out.length + ((l.drop i).flatMap f).length <= N -> loop body (mk i out) = g (out ++ (l.drop i).flatMap f):=by
  intro k
  induction k with
  | zero=>
   intro i out hi _;have:i = l.length:=by omega
   subst this;rw [Uv,h2,List.drop_length];simp only [List.flatMap_nil,List.append_nil]
   rfl
  | succ k ih=>
   intro i out hi hl;have hlt:i < l.length:=by omega
   rw [List.drop_eq_getElem_cons hlt,List.flatMap_cons,List.length_append] at hl;rw [zi (h1 i l[i] out (List.getElem?_eq_getElem hlt) hlt (by omega)),ih (i + 1) _ (by omega) (by rw [List.length_append];omega),List.drop_eq_getElem_cons hlt,List.flatMap_cons,List.append_assoc]
 simpa using key l.length 0 row (by omega) (by simpa using hN)
theorem VL {ε:Type} (l:List ε) (f:ε -> List Int) (k:Nat) (h:∀ x ∈ l,(f x).length <= k):(l.flatMap f).length <= k * l.length:=by
 induction l with
 | nil=>simp
 | cons x r ih=>
  have h1:=h x (by simp);have h2:=ih fun y hy=>h y (by simp [hy])
  rw [List.flatMap_cons,List.length_append,List.length_cons,Nat.mul_add];omega

structure OkD (d:TDot):Prop where
 d0:0 <= d.dev
 d1:d.dev <= 65535
 n0:0 <= d.n
 n1:d.n <= 18446744073709551615
def encD (d:TDot):List Int:=N.encI d.dev ++ N.encI d.n
theorem Ug {d:TDot} (h:OkD d):(encD d).length <= 18:=by
 have h1:=N.yF (v:=d.dev) (by have:=h.d1;omega);have h2:=N.yF (v:=d.n) h.n1;rw [encD,List.length_append];omega
theorem zIa {d:TDot} (h:OkD d) (row:List Int) (hr:row.length <= 1000000000000):xp d row = pure (row ++ encD d):=by
 have h1:=N.yF (v:=d.dev) (by have:=h.d1;omega);unfold xp;rw [wU64 h.d0 (by have:=h.d1;omega),N.ux row h.d0 (by have:=h.d1;omega) (by omega),zB,zA,N.ux _ h.n0 h.n1 (by rw [List.length_append];omega),zB,zA,encD,List.append_assoc]
def ZC (l:List TDot):List TDot:=l.filter V.yS
def JI (l:List TDot):List Int:=N.encI (wP (ZC l)).length ++ (wP (ZC l)).flatMap encD
theorem vca (l : List TDot) (hl : l.length <= 1000000000000) : loop (yg l) (0, []) = pure (ZC l) := by
  have := Yg (body := yg l) l (fun i t => ((i : Int), t)) (fun t d => if V.yS d = true then t ++ [d] else t) (fun t => pure t) (fun i t => t.length <= i) (fun i x t hx hi hI => by
    have hd : decide ((i : Int) < (l.length : Int)) = true := by simpa using hi
    refine ⟨?_, by split
                   · simp; omega
                   · omega⟩
    unfold yg;simp only [hd, cond_true, zK hx, zA, V.ur, zB, yJ (show i < 9223372036854775807 by omega)]
    by_cases c : V.yS x = true
    · rw [c, cond_true, zF (by simp; omega), zA, if_pos rfl]
    · simp only [Bool.not_eq_true] at c;rw [c, cond_false, zA]; rfl) (fun t _ => by
    unfold yg;simp [zA]) [] (by simp)
  rw [show (0 : Int) = ((0 : Nat) : Int) from rfl, this]
  congr 1
  have key : ∀ (l t : List TDot), l.foldl (fun t d => if V.yS d = true then t ++ [d] else t) t = t ++ ZC l := by
    intro l
    induction l with
    | nil => intro t; simp [ZC]
    | cons x r ih =>
      intro t;rw [List.foldl_cons, ih];unfold ZC
      by_cases c : V.yS x = true
      · rw [if_pos c, List.filter_cons_of_pos c, List.append_assoc]; rfl
      · rw [if_neg c, List.filter_cons_of_neg c]
  simpa using key l []
theorem good_mem {l:List TDot} {d:TDot}:d ∈ wP (ZC l) ↔ d ∈ l /\ V.yS d = true:=by rw [VK,ZC,List.mem_filter]
theorem QF (l:List TDot):(wP (ZC l)).length <= l.length:=Nat.le_trans (Xu _) (List.length_filter_le _ _)
theorem QG {l:List TDot} (h:∀ d ∈ l,OkD d):∀ d ∈ wP (ZC l),OkD d:=fun d hd=>h d (good_mem.1 hd).1
theorem vda {l:List TDot} (h:∀ d ∈ l,OkD d) (hl:l.length <= 1000000000000):(JI l).length <= 9 + 18 * l.length:=by
 have h1:=N.yF (v:=((wP (ZC l)).length:Int)) (by have:=QF l;omega);have h2:=VL (wP (ZC l)) encD 18 fun x hx=>Ug (QG h x hx)
 have h3:=QF l;rw [JI,List.length_append];omega
theorem wAa {l:List TDot} (h:∀ d ∈ l,OkD d) (hl:l.length <= 1000000000) (row:List Int) (hr:row.length <= 100000000000):wg l row = pure (row ++ JI l):=by
 have h3:=QF l;have h1:=N.yF (v:=((wP (ZC l)).length:Int)) (by omega);have h2:=VL (wP (ZC l)) encD 18 fun x hx=>Ug (QG h x hx)
 unfold wg;rw [vca l (by omega),zA,yTa _ (by have:=List.length_filter_le V.yS l;unfold ZC;omega),zB,zA,wU64 (by omega) (by omega),N.ux row (by omega) (by omega) (by omega),zB,zA];have:=QE (body:=xI (wP (ZC l))) (wP (ZC l)) encD (row ++ N.encI ((wP (ZC l)).length:Int)) 1000000000000 (fun i out=>((i:Int),out)) (fun t=>pure t) (by rw [List.length_append];omega) (fun i x out hx hi ho=>by
  have hd:decide ((i:Int) < ((wP (ZC l)).length:Int)) = true:=by simpa using hi
  unfold xI;simp only [hd,cond_true,zK hx,zA,zIa (QG h x (List.mem_of_getElem? hx)) out (by omega),zB,yJ (show i < 9223372036854775807 by omega)]) (fun out=>by
  unfold xI;simp [zA])
 rw [show (0:Int) = ((0:Nat):Int) from rfl,this,JI,List.append_assoc]
def encR (x:TRun):List Int:=N.encI x.lo ++ N.encI x.hi
def encP (p:TPart):List Int:=N.encI p.dev ++ (N.encI p.runs.length ++ p.runs.flatMap encR)
def encN (c:List TPart):List Int:=N.encI c.length ++ c.flatMap encP
def encC (c:List TPart):List Int:=encN (C.zo c)
structure OkP (p:TPart):Prop where
 d0:0 <= p.dev
 d1:p.dev <= 65535
 r:∀ x ∈ p.runs,(0 <= x.lo /\ x.lo <= 18446744073709551615) /\ 0 <= x.hi /\ x.hi <= 18446744073709551615
theorem xKa {x:TRun} (h:(0 <= x.lo /\ x.lo <= 18446744073709551615) /\ 0 <= x.hi /\ x.hi <= 18446744073709551615):(encR x).length <= 18:=by
 have h1:=N.yF h.1.2;have h2:=N.yF h.2.2;rw [encR,List.length_append];omega
theorem encP_len {p:TPart} (h:OkP p) (hl:p.runs.length <= 1000000000000):(encP p).length <= 18 + 18 * p.runs.length:=by
 have h1:=N.yF (v:=p.dev) (by have:=h.d1;omega);have h2:=N.yF (v:=(p.runs.length:Int)) (by omega);have h3:=VL p.runs encR 18 fun x hx=>xKa (h.r x hx)
 rw [encP,List.length_append,List.length_append];omega
theorem zJa (c:List TPart) (h:∀ p ∈ c,OkP p) (hl:C.totC c <= 1000000000000):(c.flatMap encP).length <= 18 * c.length + 18 * C.totC c:=by
 induction c with
 | nil=>simp
 | cons p r ih=>
  have e:C.totC (p :: r) = p.runs.length + C.totC r:=by simp [C.totC]
  have h1:=encP_len (h p (by simp)) (by omega);have h2:=ih (fun q hq=>h q (by simp [hq])) (by omega);rw [List.flatMap_cons,List.length_append,List.length_cons,e];omega
theorem xLa {c:List TPart} (h:∀ p ∈ c,OkP p) (hc:c.length <= 1000000000000) (hl:C.totC c <= 1000000000000):(encN c).length <= 9 + 18 * c.length + 18 * C.totC c:=by
 have h1:=N.yF (v:=(c.length:Int)) (by omega);have h2:=zJa c h hl;rw [encN,List.length_append];omega
theorem QH {c:List TPart} (h:∀ p ∈ c,p.dev <= 65535):∀ p ∈ C.zo c,OkP p:=fun p hp=>by
 have h1:=(C.vQ c).nf p hp;refine ⟨by omega,?_,fun x hx=>?_⟩
 ·have h2:=(C.vO.1 hp).1;obtain ⟨q,hq,e⟩:=(C.xz.1 h2).1;rw [<- e];exact h q hq
 ·have:=R.zd.1 (h1.2.2.may x hx);omega


theorem zKa {c:List TPart} (ho:C.Ok c) (h:∀ p ∈ c,p.dev <= 65535) (hs:c.length <= 100000000 /\ C.totC c <= 100000000) (row:List Int) (hr:row.length <= 100000000000):xn c row = pure (row ++ encC c):=by
 have hn:=C.XK c;have ht:=C.XL c;have hp:=QH h;have hl:=xLa hp (by omega) (by omega);have h9:=N.yF (v:=((C.zo c).length:Int)) (by omega);have hf:=zJa (C.zo c) hp (by omega);unfold xn;rw [C.qy c ho.sm,zB,zA,wU64 (by omega) (by omega),N.ux row (by omega) (by omega) (by omega),zB,zA];have:=QE (body:=xZ (C.zo c)) (C.zo c) encP (row ++ N.encI ((C.zo c).length:Int)) 1000000000000 (fun i out=>((i:Int),out)) (fun t=>pure t) (by rw [List.length_append];omega) (fun i p out hx hi hout=>by
  have hd:decide ((i:Int) < ((C.zo c).length:Int)) = true:=by simpa using hi
  have hm:=List.mem_of_getElem? hx;have hpp:=hp p hm;have hrl:p.runs.length <= 1000000000:=by have:=C.y8a p hm;omega
  have e1:=N.yF (v:=p.dev) (by have:=hpp.d1;omega);have e2:=N.yF (v:=(p.runs.length:Int)) (by omega);have e3:=VL p.runs encR 18 fun x hx=>xKa (hpp.r x hx)
  unfold xZ;simp only [hd,cond_true,zK hx,zA];rw [wU64 hpp.d0 (by have:=hpp.d1;omega),N.ux out hpp.d0 (by have:=hpp.d1;omega) (by omega),zB,zA,wU64 (by omega) (by omega),N.ux _ (by omega) (by omega) (by rw [List.length_append];omega),zB,zA];have:=QE (body:=xY p) p.runs encR (out ++ N.encI p.dev ++ N.encI (p.runs.length:Int)) 2000000000000 (fun i out=>((i:Int),out)) (fun t=>pure t) (by rw [List.length_append,List.length_append];omega) (fun j x out2 hx2 hj hout2=>by
   have hd2:decide ((j:Int) < (p.runs.length:Int)) = true:=by simpa using hj
   have hxr:=hpp.r x (List.mem_of_getElem? hx2);have e4:=N.yF hxr.1.2;unfold xY;simp only [hd2,cond_true,zK hx2,zA];rw [N.ux out2 hxr.1.1 hxr.1.2 (by omega),zB,zA,N.ux _ hxr.2.1 hxr.2.2 (by rw [List.length_append];omega),zB,zA,yJ (show j < 9223372036854775807 by omega),encR,List.append_assoc]) (fun out=>by
   unfold xY;simp [zA])
  rw [show (0:Int) = ((0:Nat):Int) from rfl,this,zA,yJ (show i < 9223372036854775807 by omega),encP];simp only [List.append_assoc]) (fun out=>by
  unfold xZ;simp [zA])
 rw [show (0:Int) = ((0:Nat):Int) from rfl,this,encC,encN,List.append_assoc]
open N (RS Ok numS zw wb endS OkB Sim)

def bad4 (c:Bool) (s:RS):RS:=if c = true then wb 4 s else s
def fin {α:Type} (z x:α) (t:RS):α × RS:=if t.2 ≠ 0 then (z,t) else (x,t)
theorem yUa (e:Int) (s:RS):(wb e s).1.length <= s.1.length:=by unfold wb;split <;> simp
theorem Vq {s:RS} (h:Ok s) (c:Bool):Ok (bad4 c s):=by unfold bad4;split;exact N.XN h _;exact h
theorem bad4_le (c:Bool) (s:RS):(bad4 c s).1.length <= s.1.length:=by unfold bad4;split;exact yUa _ _;exact Nat.le_refl _
theorem Vr {c:Bool} {s:RS} (h:(bad4 c s).2 = 0):c = false /\ s.2 = 0 /\ bad4 c s = s:=by
 unfold bad4 at h ⊢
 cases c with
 | true=>exact absurd h (N.xL (by decide))
 | false=>exact ⟨rfl,h,rfl⟩
theorem vea {c:Bool} {s:RS} (h:s.2 ≠ 0):bad4 c s = s:=by unfold bad4;split;exact N.fail_of 4 h;rfl
theorem vfa {s:RS}:(bad4 true s).2 ≠ 0:=N.xL (by decide)
theorem Zz {s:RS}:bad4 false s = s:=rfl
theorem Yo {α:Type} (z x:α) (t:RS):(fin z x t).2 = t:=by unfold fin;split <;> rfl
theorem WG {α:Type} {z x:α} {t:RS} (h:t.2 = 0):fin z x t = (x,t):=if_neg (by simp [h])
theorem Za {α:Type} {z x:α} {t:RS} (h:t.2 ≠ 0):fin z x t = (z,t):=if_pos h
theorem yVa (c:Bool) (s:RS):((cond c ((det (zJ 4 s.1 s.2)).bind fun y=>pure (y.1,y.2)) (pure (s.1,s.2))):M RS) = pure (bad4 c s):=by
 cases c with
 | true=>rw [cond_true,N.ZY,zB,zA];rfl
 | false=>rfl
theorem QI (c:Bool) (s:RS):((cond (!c) ((det (zJ 4 s.1 s.2)).bind fun y=>pure (y.1,y.2)) (pure (s.1,s.2))):M RS) = pure (bad4 (!c) s):=yVa (!c) s
theorem yWa {α:Type} (z x:α) (t:RS):((det (zQ t.1 t.2)).bind fun y=>(cond (!decide (y.1 = 0)) (pure (z,y.2.1,y.2.2)) (pure (x,y.2.1,y.2.2)):M (α × List Int × Int))) = pure (fin z x t):=by
 rw [N.WE,zB,zA]
 by_cases h:t.2 = 0
 ·rw [WG h,decide_eq_true h];rfl
 ·rw [Za h,decide_eq_false h];rfl
theorem Vs (B:List Int) (a:Int) (c:Bool) (s:RS):((cond c ((det (zD 4 B a s.2)).bind fun y=>pure (y.1,y.2.1,y.2.2)) (pure (B,a,s.2))):M (List Int × Int × Int)) = pure (B,a,(bad4 c s).2):=by
 cases c with
 | true=>rw [cond_true,N.vb B a s (by decide),zB,zA];rfl
 | false=>rfl
theorem Xv {B:List Int} {a:Int} {s:RS} (h:Sim B a s) (c:Bool):Sim B a (bad4 c s):=by unfold bad4;split;exact h.fail (by decide);exact h
theorem jg (e:Int) (m:M Bool) (q:Bool) (h:m = pure q):(cond (decide (e = 0)) m (pure false):M Bool) = pure (decide (e = 0) && q):=by rw [h,zj]
theorem VM (q:Bool) (s:RS):bad4 (decide (s.2 = 0) && q) s = bad4 q s:=by
 by_cases h:s.2 = 0
 ·rw [decide_eq_true h,Bool.true_and]
 ·rw [decide_eq_false h,Bool.false_and,vea h,vea h]

theorem zLa (s:RS):(numS s).2.1.length <= s.1.length:=by
 unfold numS
 split
 ·exact Nat.le_refl _
 ·split
  ·exact yUa _ _
  ·simp
theorem zMa {s:RS} (hO:Ok s) (h0:s.2 = 0) (h:(numS s).2.2 = 0):(numS s).2.1.length + 1 <= s.1.length:=by
 unfold numS at h ⊢;rw [if_neg (by simp [h0])] at h ⊢
 by_cases c:(N.rdN s.1).2.2 = 0
 ·rw [if_neg (by simp [c])];rcases N.jd s.1 hO.by_ with (h1 | h1) | ⟨n,r,h1,h2,h3,h4,_,h5⟩
  ·rw [h1] at c;simp at c
  ·rw [h1] at c;simp at c
  ·rw [h5,h1];simp
 ·rw [if_pos c] at h;exact absurd h (N.xL c)
theorem xM {s:RS} (h:(numS s).2.2 ≠ 0):(numS s).1 = 0:=by
 unfold numS at h ⊢
 by_cases c:s.2 ≠ 0
 ·rw [if_pos c]
 ·rw [if_neg c] at h ⊢
  by_cases c2:(N.rdN s.1).2.2 ≠ 0
  ·rw [if_pos c2]
  ·rw [if_neg c2] at h;exact absurd rfl h
theorem upto_le (m:Int) (s:RS):(zw m s).2.1.length <= s.1.length:=by
 have h1:=zLa s;have h2:=yUa 4 (numS s).2;unfold zw
 by_cases c:m < (numS s).1
 ·rw [if_pos c];exact Nat.le_trans h2 h1
 ·rw [if_neg c];exact h1
theorem num_bad {s:RS} (h:s.2 ≠ 0):(numS s).2 = s:=by rw [N.vWa h]
theorem WH {s:RS} (h:(numS s).2.2 = 0):s.2 = 0:=Classical.byContradiction fun c=>by rw [num_bad c] at h;exact c h
theorem QJ {m:Int} {s:RS} (h:(zw m s).2.2 = 0):(numS s).2.2 = 0 /\ zw m s = numS s:=by
 unfold zw at h ⊢
 by_cases c:m < (numS s).1
 ·rw [if_pos c] at h;exact absurd h (N.xL (by decide))
 ·rw [if_neg c] at h ⊢;exact ⟨h,rfl⟩

def dotR (s:RS):TDot:=⟨(zw 65535 s).1,(numS (zw 65535 s).2).1⟩
def dotT (s:RS):RS:=bad4 (!V.yS (dotR s)) (numS (zw 65535 s).2).2
def dotS (s:RS):TDot × RS:=fin ⟨0,0⟩ (dotR s) (dotT s)
theorem zNa {s:RS} (h:Ok s):Ok (dotS s).2 /\ OkD (dotS s).1 /\ OkD (dotR s):=by
 obtain ⟨h1,h2,h3⟩:=N.XO h (m:=65535) (by decide);obtain ⟨h4,h5,h6⟩:=N.yX h1;have ht:Ok (dotT s):=Vq h4 _;have hr:OkD (dotR s):=⟨h2,h3,h5,h6⟩
 unfold dotS
 by_cases c:(dotT s).2 = 0
 ·rw [WG c];exact ⟨ht,hr,hr⟩
 ·rw [Za c];exact ⟨ht,⟨Int.le_refl _,by simp,Int.le_refl _,by simp⟩,hr⟩
theorem xMa {s:RS} (h:(dotS s).2.2 = 0):V.yS (dotS s).1 = true /\ (zw 65535 s).2.2 = 0 /\ (numS (zw 65535 s).2).2.2 = 0 /\ dotS s = (dotR s,(numS (zw 65535 s).2).2):=by
 unfold dotS at h ⊢;rw [Yo] at h;rw [WG h];obtain ⟨h1,h2,h3⟩:=Vr h;refine ⟨by simpa using h1,WH h2,h2,?_⟩;show (dotR s,dotT s) = _;rw [show dotT s = (numS (zw 65535 s).2).2 from h3]
theorem dot_le (s:RS):(dotS s).2.1.length <= s.1.length:=by
 unfold dotS;rw [Yo];exact Nat.le_trans (bad4_le _ _) (Nat.le_trans (zLa _) (upto_le _ _))
theorem dot_lt {s:RS} (hO:Ok s) (h0:s.2 = 0) (h:(dotS s).2.2 = 0):(dotS s).2.1.length + 1 <= s.1.length:=by
 obtain ⟨_,h1,h2,h3⟩:=xMa h;obtain ⟨h4,h5⟩:=QJ h1;rw [h3];have h6:=zLa (zw 65535 s).2;rw [h5] at h6 ⊢;have h7:=zMa hO h0 h4;exact Nat.le_trans (Nat.add_le_add_right h6 1) h7
theorem Dot_eq {s:RS} (h:Ok s):vI s.1 s.2 = pure (dotS s):=by
 obtain ⟨h1,h2,h3⟩:=N.XO h (m:=65535) (by decide);unfold vI dotS;rw [N.vYa h,zB,zA,N.WF h1,zB,zA,wU16 h2 h3,V.ur,zB,zA];have e:=QI (V.yS (dotR s)) (numS (zw 65535 s).2).2;unfold dotR at e;rw [e,zA];exact yWa _ _ _
variable {B:List Int} {a:Int} {s:RS}
theorem vga (hB:OkB B) (hO:Ok s) (h:Sim B a s):∃ a',Zn B a s.2 = pure ((dotS s).1,B,a',(dotS s).2.2) /\ Sim B a' (dotS s).2:=by
 obtain ⟨h1,h2,h3⟩:=N.XO hO (m:=65535) (by decide);obtain ⟨a1,e1,s1⟩:=N.xHa hB h 65535;obtain ⟨a2,e2,s2⟩:=N.ZZ hB s1;unfold Zn dotS;rw [e1,zB,zA,e2,zB,zA,wU16 h2 h3];have e3:=jg (numS (zw 65535 s).2).2.2 ((det (uI ⟨(zw 65535 s).1,(numS (zw 65535 s).2).1⟩)).bind fun v10=>pure (!v10)) (!V.yS (dotR s)) (by rw [V.ut,zB,zA];rfl);have e4:=Vs B a2 (decide ((numS (zw 65535 s).2).2.2 = 0) && !V.yS (dotR s)) (numS (zw 65535 s).2).2;rw [VM] at e4;simp only [] at e3 e4 ⊢;rw [e3,zA,e4,zA];rw [Yo];refine ⟨a2,?_,Xv s2 _⟩;show (cond (!decide ((dotT s).2 = 0)) (pure (⟨0,0⟩,B,a2,(dotT s).2)) (pure (dotR s,B,a2,(dotT s).2)):M _) = _
 by_cases c:(dotT s).2 = 0
 ·rw [WG c,decide_eq_true c];rfl
 ·rw [Za c,decide_eq_false c];rfl

def jh (out:List TDot) (x:TDot):Bool:=match out.getLast? with | some y=>decide (0 <= V.cmpD y x) | none=>false
def ZD (out:List TDot) (s:RS):RS:=bad4 (jh out (dotS s).1) (dotS s).2
def zq : Nat -> List TDot -> RS -> List TDot × RS
 | 0,out,s=>(out,s)
 | k + 1,out,s=>if (ZD out s).2 ≠ 0 then ([],ZD out s) else zq k (out ++ [(dotS s).1]) (ZD out s)
def xt (most:Int) (s:RS):List TDot × RS:=if max most 0 < (numS s).1 then ([],wb 3 (numS s).2) else zq (numS s).1.toNat [] (numS s).2
theorem XQ {k:Nat} {out:List TDot} {s:RS} (h:(ZD out s).2 ≠ 0):zq (k + 1) out s = ([],ZD out s):=if_pos h
theorem YA {k:Nat} {out:List TDot} {s:RS} (h:(ZD out s).2 = 0):zq (k + 1) out s = zq k (out ++ [(dotS s).1]) (ZD out s):=if_neg (by simp [h])
theorem VN {s:RS} (h:Ok s) (out:List TDot):Ok (ZD out s):=Vq (zNa h).1 _
theorem xNa : ∀ (k:Nat) (out:List TDot) (s:RS),Ok s -> Ok (zq k out s).2
 | 0,_,_,h=>h
 | k + 1,out,s,h=>by
  by_cases c:(ZD out s).2 = 0
  ·rw [YA c];exact xNa k _ _ (VN h out)
  ·rw [XQ c];exact VN h out
theorem ok_dots {s:RS} (h:Ok s) (most:Int):Ok (xt most s).2:=by
 have h1:=N.yX h;unfold xt
 split
 ·exact N.XN h1.1 _
 ·exact xNa _ _ _ h1.1
theorem xOa {out:List TDot} (h:out.length <= 1000000000000) (x:TDot) (cmp:TDot -> TDot -> M Int) (hc:∀ y,cmp y x = pure (V.cmpD y x)) :
  ((cond (decide (0 <= IntKind.i64.wrap ((out.length:Int) - 1))) ((idx out (IntKind.i64.wrap ((out.length:Int) - 1))).bind fun x61=>(det (cmp x61 x)).bind fun v63=>pure (decide (0 <= v63))) (pure false)):M Bool) = pure (jh out x):=by
 unfold jh;rcases R.yc out with rfl | ⟨r,y,rfl⟩
 ·rfl
 ·have hl:((r ++ [y]).length:Int) - 1 = (r.length:Int):=by simp
  rw [hl,wI64 (by omega) (by simp at h;omega)];have:decide ((0:Int) <= (r.length:Int)) = true:=by simp
  rw [this,cond_true,zK (y:=y) (by simp),zA,hc,zB,zA];simp
theorem QK {out:List TDot} {s:RS} (h:(ZD out s).2 = 0):jh out (dotS s).1 = false /\ (dotS s).2.2 = 0 /\ ZD out s = (dotS s).2:=Vr h
theorem zOa {y4:Int × List Int × Int} (hn:0 <= y4.1 /\ y4.1 <= 18446744073709551615):∀ (k i:Nat) (out:List TDot) (s:RS),(i:Int) + k = y4.1 -> Ok s -> s.2 = 0 -> out.length + s.1.length <= 1000000000 ->
  (loop (yq y4) ((i:Int),out,s.1,s.2)).bind (exk fun ⟨out9,v10,v11⟩=>pure (out9,v10,v11)) = pure (zq k out s)
 | 0,i,out,s,hi,_,_,_=>by
  rw [zO (r:=.brk (out,s.1,s.2)) (by
   unfold yq;have:decide ((i:Int) < y4.1) = false:=by simp;omega
   simp only [this,cond_false])]
  rfl
 | k + 1,i,out,s,hi,hO,h0,hl=>by
  have hd:=zNa hO;have hc:decide ((i:Int) < y4.1) = true:=by simp;omega
  have hlast:=xOa (out:=out) (by omega) (dotS s).1 we (fun y=>Jd y _);have hw:IntKind.u64.wrap ((i:Int) + 1) = ((i + 1:Nat):Int):=by rw [wU64 (by omega) (by omega)];omega
  have hb:yq y4 ((i:Int),out,s.1,s.2) = (det (zQ (ZD out s).1 (ZD out s).2)).bind fun y70=>cond (!decide (y70.1 = 0)) (pure (.done (.ret ([],y70.2.1,y70.2.2)))) (need ((out.length + [(dotS s).1].length) * 16 <= 140737488355328) (pure (.next (IntKind.u64.wrap ((i:Int) + 1),out ++ [(dotS s).1],y70.2.1,y70.2.2)))):=by
   unfold yq;have e:=yVa (jh out (dotS s).1) (dotS s).2;simp only [hc,cond_true,Dot_eq hO,zB,zA];rw [hlast,zA,e,zA]
   rfl
  rw [N.WE,zB,zA] at hb
  by_cases c:(ZD out s).2 = 0
  ·obtain ⟨_,c2,c3⟩:=QK c;have hlt:=dot_lt hO h0 c2;rw [decide_eq_true c,Bool.not_true,cond_false,zF (by simp;omega),hw] at hb;rw [zi hb,YA c];exact zOa hn k (i + 1) _ (ZD out s) (by omega) (VN hO out) c (by rw [c3];simp;omega)
  ·rw [decide_eq_false c,Bool.not_false,cond_true] at hb;rw [zO hb,XQ c]
   rfl
theorem QL {s:RS} (hO:Ok s) {most:Int} (hm:most <= 9223372036854775807):vf most s.1 s.2 = pure (xt most s):=by
 obtain ⟨h1,h2,h3⟩:=N.yX hO;unfold vf xt;rw [N.WF hO,zB,zA,wU64 (n:=max most 0) (by omega) (by omega)]
 by_cases c:max most 0 < (numS s).1
 ·rw [decide_eq_true c,cond_true,if_pos c,N.ZY 3 (numS s).2,zB,zA]
 ·rw [decide_eq_false c,cond_false,if_neg c]
  by_cases c2:(numS s).2.2 = 0
  ·exact zOa (y4:=numS s) ⟨h2,h3⟩ (numS s).1.toNat 0 [] (numS s).2 (by omega) h1 c2 (by simp;have:=h1.len;omega)
  ·have hz:=xM c2;rw [hz,zO (r:=.brk ([],(numS s).2.1,(numS s).2.2)) (by
    unfold yq;simp only [hz,show decide ((0:Int) < 0) = false from rfl,cond_false])]
   rfl
theorem Je (hB:OkB B) {y7:Int × List Int × Int × Int} (hn:0 <= y7.1 /\ y7.1 <= 18446744073709551615):∀ (k i:Nat) (out:List TDot) (s:RS) (a:Int),(i:Int) + k = y7.1 -> Ok s -> s.2 = 0 -> Sim B a s -> out.length + s.1.length <= 1000000000 ->
  ∃ out' a',loop (yO y7) ((i:Int),out,B,a,s.2) = pure (out',B,a',(zq k out s).2.2) /\ Sim B a' (zq k out s).2 /\ ((zq k out s).2.2 = 0 -> out' = (zq k out s).1) /\ ((zq k out s).2.2 ≠ 0 -> (zq k out s).1 = [])
 | 0,i,out,s,a,hi,_,h0,hS,_=>by
  refine ⟨out,a,zO ?_,hS,fun _=>rfl,fun h=>absurd h0 h⟩;unfold yO;have:decide ((i:Int) < y7.1) = false:=by simp;omega
  simp only [this,cond_false,zA]
  rfl
 | k + 1,i,out,s,a,hi,hO,h0,hS,hl=>by
  have hc:decide ((i:Int) < y7.1) = true:=by simp;omega
  obtain ⟨a1,e1,s1⟩:=vga hB hO hS;have hlast:=xOa (out:=out) (by omega) (dotS s).1 wh (fun y=>V.vN y _);have hle:=dot_le s;have hw:IntKind.u64.wrap ((i:Int) + 1) = ((i + 1:Nat):Int):=by rw [wU64 (by omega) (by omega)];omega
  have hb:yO y7 ((i:Int),out,B,a,s.2) = pure (.next (((i + 1:Nat):Int),out ++ [(dotS s).1],B,a1,(ZD out s).2)):=by
   unfold yO;have e3:=jg (dotS s).2.2 _ _ hlast;have e4:=Vs B a1 (decide ((dotS s).2.2 = 0) && jh out (dotS s).1) (dotS s).2;rw [VM] at e4;simp only [hc,cond_true,decide_eq_true h0,zA,e1,zB];rw [e3,zA,e4,zA];simp only [];rw [zF (by simp;omega),hw]
   rfl
  have hs2:Sim B a1 (ZD out s):=Xv s1 _;rw [zi hb]
  by_cases c:(ZD out s).2 = 0
  ·obtain ⟨_,c2,c3⟩:=QK c;have hlt:=dot_lt hO h0 c2;rw [YA c];exact Je hB hn k (i + 1) _ (ZD out s) a1 (by omega) (VN hO out) c hs2 (by rw [c3];simp;omega)
  ·rw [XQ c];refine ⟨out ++ [(dotS s).1],a1,zO ?_,hs2,fun h=>absurd h c,fun _=>rfl⟩;unfold yO;have hq:(cond (decide (((i + 1:Nat):Int) < y7.1)) (pure (decide ((ZD out s).2 = 0))) (pure false):M Bool) = pure false:=by
    rw [decide_eq_false c];cases decide (((i + 1:Nat):Int) < y7.1) <;> rfl
   simp only [];rw [hq,zA]
   rfl
theorem Uh (hB:OkB B) (hO:Ok s) (h:Sim B a s) {most:Int} (hm:most <= 9223372036854775807):∃ a',Zo most B a s.2 = pure ((xt most s).1,B,a',(xt most s).2.2) /\ Sim B a' (xt most s).2:=by
 obtain ⟨h1,h2,h3⟩:=N.yX hO;obtain ⟨a1,e1,s1⟩:=N.ZZ hB h;unfold Zo xt;have hmost:(cond (decide (most < 0)) (pure 0) (pure most):M Int) = pure (max most 0):=by
  by_cases c:most < 0
  ·rw [decide_eq_true c,cond_true];congr 1;omega
  ·rw [decide_eq_false c,cond_false];congr 1;omega
 rw [hmost,zA,e1,zB,zA,wU64 (n:=max most 0) (by omega) (by omega)];have done:∀ (out:List TDot) (a2:Int) (i:Int) (t:RS),t.2 ≠ 0 -> loop (yO ((numS s).1,B,a1,(numS s).2.2)) (i,out,B,a2,t.2) = pure (out,B,a2,t.2):=fun out a2 i t ht=>zO (by
  unfold yO;have hq:(cond (decide (i < (numS s).1)) (pure (decide (t.2 = 0))) (pure false):M Bool) = pure false:=by
   rw [decide_eq_false ht];cases decide (i < (numS s).1) <;> rfl
  simp only [];rw [hq,zA]
  rfl)
 by_cases c:max most 0 < (numS s).1
 ·have hF:=N.vb B a1 (numS s).2 (e:=3) (by decide);have hb:=N.xL (s:=(numS s).2) (e:=3) (by decide);rw [decide_eq_true c,cond_true,if_pos c,hF,zB,zA,zA];simp only [];rw [done _ _ _ _ hb,zA];simp only [decide_eq_false hb,Bool.not_false,cond_true];exact ⟨_,rfl,s1.fail (by decide)⟩
 ·rw [decide_eq_false c,cond_false,if_neg c,zA];simp only []
  by_cases c2:(numS s).2.2 = 0
  ·obtain ⟨out',a',e2,s2,q1,q2⟩:=Je hB (y7:=((numS s).1,B,a1,(numS s).2.2)) ⟨h2,h3⟩ (numS s).1.toNat 0 [] (numS s).2 a1 (by simp;omega) h1 c2 s1 (by simp;have:=h1.len;omega);have e2':loop (yO ((numS s).1,B,a1,(numS s).2.2)) (0,[],B,a1,(numS s).2.2) = pure (out',B,a',(zq (numS s).1.toNat [] (numS s).2).2.2):=e2;rw [e2',zA];refine ⟨a',?_,s2⟩
   by_cases c3:(zq (numS s).1.toNat [] (numS s).2).2.2 = 0
   ·simp only [decide_eq_true c3,Bool.not_true,cond_false,q1 c3]
   ·simp only [decide_eq_false c3,Bool.not_false,cond_true,q2 c3]
  ·rw [xM c2] at *
   rw [done _ _ _ _ c2,zA];simp only [decide_eq_false c2,Bool.not_false,cond_true];exact ⟨_,rfl,s1⟩

open N (RS Ok numS zw wb endS OkB Sim)

def vR : Nat -> List TRun -> RS -> List TRun × RS
 | 0,out,s=>(out,s)
 | k + 1,out,s=>
  if (numS (numS s).2).2.2 ≠ 0 then (out ++ [⟨(numS s).1,(numS (numS s).2).1⟩],(numS (numS s).2).2) else vR k (out ++ [⟨(numS s).1,(numS (numS s).2).1⟩]) (numS (numS s).2).2
def ya (s:RS):TPart × RS:=(⟨(zw 65535 s).1,(vR (numS (zw 65535 s).2).1.toNat [] (numS (zw 65535 s).2).2).1⟩,(vR (numS (zw 65535 s).2).1.toNat [] (numS (zw 65535 s).2).2).2)
theorem VO {k:Nat} {out:List TRun} {s:RS} (h:(numS (numS s).2).2.2 ≠ 0):vR (k + 1) out s = (out ++ [⟨(numS s).1,(numS (numS s).2).1⟩],(numS (numS s).2).2):=if_pos h
theorem Xw {k:Nat} {out:List TRun} {s:RS} (h:(numS (numS s).2).2.2 = 0):vR (k + 1) out s = vR k (out ++ [⟨(numS s).1,(numS (numS s).2).1⟩]) (numS (numS s).2).2:=if_neg (by simp [h])
theorem vha {s:RS} (hO:Ok s) (h0:s.2 = 0) (h:(numS (numS s).2).2.2 = 0):(numS (numS s).2).2.1.length + 2 <= s.1.length:=by
 have h1:=WH h;have h2:=zMa hO h0 h1;have h3:=zMa (N.yX hO).1 h1 h;omega
theorem two_le (s:RS):(numS (numS s).2).2.1.length <= s.1.length:=Nat.le_trans (zLa _) (zLa _)
def RunOk (x:TRun):Prop:=(0 <= x.lo /\ x.lo <= 18446744073709551615) /\ 0 <= x.hi /\ x.hi <= 18446744073709551615
theorem xPa {s:RS} (h:Ok s):Ok (numS (numS s).2).2 /\ RunOk ⟨(numS s).1,(numS (numS s).2).1⟩:=by
 obtain ⟨h1,h2,h3⟩:=N.yX h;obtain ⟨h4,h5,h6⟩:=N.yX h1;exact ⟨h4,⟨h2,h3⟩,h5,h6⟩
theorem ji : ∀ (k:Nat) (out:List TRun) (s:RS),Ok s -> s.2 = 0 -> (∀ x ∈ out,RunOk x) -> Ok (vR k out s).2 /\ (∀ x ∈ (vR k out s).1,RunOk x) /\ (vR k out s).1.length + (vR k out s).2.1.length <= out.length + s.1.length + 1 /\
  ((vR k out s).2.2 = 0 -> (vR k out s).1.length + (vR k out s).2.1.length <= out.length + s.1.length /\ (vR k out s).1.length = out.length + k)
 | 0,out,s,h,_,ho=>⟨h,ho,by show out.length + s.1.length <= _;omega,fun _=>⟨Nat.le_refl _,rfl⟩⟩
 | k + 1,out,s,h,h0,ho=>by
  obtain ⟨h1,h2⟩:=xPa h;have ho':∀ x ∈ out ++ [⟨(numS s).1,(numS (numS s).2).1⟩],RunOk x:=fun x hx=>by
   rcases List.mem_append.1 hx with h | h
   ·exact ho x h
   ·rw [List.mem_singleton.1 h];exact h2
  by_cases c:(numS (numS s).2).2.2 = 0
  ·rw [Xw c];obtain ⟨q1,q2,q3,q4⟩:=ji k _ _ h1 c ho';have hlt:=vha h h0 c;simp only [List.length_append,List.length_singleton] at q3 q4;refine ⟨q1,q2,by omega,fun hz=>?_⟩;have:=q4 hz;omega
  ·rw [VO c];have:=two_le s;exact ⟨h1,ho',by simp;omega,fun hz=>absurd hz c⟩
theorem zPa {y5:Int × List Int × Int} (hn:0 <= y5.1 /\ y5.1 <= 18446744073709551615):∀ (k i:Nat) (out:List TRun) (s:RS),(i:Int) + k = y5.1 -> Ok s -> s.2 = 0 -> out.length + s.1.length <= 1000000000 ->
  loop (yp y5) ((i:Int),out,s.1,s.2) = pure (vR k out s)
 | 0,i,out,s,hi,_,_,_=>by
  exact zO (by
   unfold yp;have:decide ((i:Int) < y5.1) = false:=by simp;omega
   simp only [this,cond_false]
   rfl)
 | k + 1,i,out,s,hi,hO,h0,hl=>by
  obtain ⟨h1,h2,h3⟩:=N.yX hO;have hc:decide ((i:Int) < y5.1) = true:=by simp;omega
  have hw:IntKind.u64.wrap ((i:Int) + 1) = ((i + 1:Nat):Int):=by rw [wU64 (by omega) (by omega)];omega
  have hb:yp y5 ((i:Int),out,s.1,s.2) = cond (!decide ((numS (numS s).2).2.2 = 0)) (pure (.done (out ++ [⟨(numS s).1,(numS (numS s).2).1⟩],(numS (numS s).2).2))) (pure (.next (((i + 1:Nat):Int),out ++ [⟨(numS s).1,(numS (numS s).2).1⟩],(numS (numS s).2).2.1,(numS (numS s).2).2.2))):=by
   unfold yp;simp only [hc,cond_true,N.WF hO,N.WF h1,zB,zA,N.WE];rw [zF (by simp;omega),hw]
  by_cases c:(numS (numS s).2).2.2 = 0
  ·have hlt:=vha hO h0 c;rw [decide_eq_true c,Bool.not_true,cond_false] at hb;rw [zi hb,Xw c];exact zPa hn k (i + 1) _ (numS (numS s).2).2 (by omega) (xPa hO).1 c (by simp;omega)
  ·rw [decide_eq_false c,Bool.not_false,cond_true] at hb;rw [zO hb,VO c]
theorem part_eq {s:RS} (hO:Ok s):ZM s.1 s.2 = pure (ya s):=by
 obtain ⟨h1,h2,h3⟩:=N.XO hO (m:=65535) (by decide);obtain ⟨h4,h5,h6⟩:=N.yX h1;unfold ZM ya;rw [N.vYa hO,zB,zA,N.WF h1,zB,zA,wU16 h2 h3]
 by_cases c:(numS (zw 65535 s).2).2.2 = 0
 ·have:=zPa (y5:=numS (zw 65535 s).2) ⟨h5,h6⟩ (numS (zw 65535 s).2).1.toNat 0 [] (numS (zw 65535 s).2).2 (by omega) h4 c (by simp;have:=h4.len;omega);rw [show ((0:Nat):Int) = 0 from rfl] at this;rw [this,zA]
 ·have hz:=xM c;rw [hz,zO (r:=([],(numS (zw 65535 s).2).2)) (by
   unfold yp;simp only [hz,show decide ((0:Int) < 0) = false from rfl,cond_false]),zA]
  rfl
theorem Xx {s:RS} (hO:Ok s) (h0:s.2 = 0):Ok (ya s).2 /\ OkP (ya s).1 /\ ((ya s).1.runs.length <= 1000000001) /\ ((ya s).2.2 = 0 -> (ya s).1.runs.length + (ya s).2.1.length + 2 <= s.1.length):=by
 obtain ⟨h1,h2,h3⟩:=N.XO hO (m:=65535) (by decide);obtain ⟨h4,h5,h6⟩:=N.yX h1;have hl:=h4.len;unfold ya
 by_cases c:(numS (zw 65535 s).2).2.2 = 0
 ·obtain ⟨q1,q2,q3,q4⟩:=ji (numS (zw 65535 s).2).1.toNat [] _ h4 c (by simp);refine ⟨q1,⟨h2,h3,q2⟩,by simp at q3 ⊢;omega,fun hz=>?_⟩;have hq:=q4 hz;obtain ⟨e1,e2⟩:=QJ (WH c);have h7:=zMa hO h0 e1;have h8:=zMa h1 (WH c) c;rw [e2] at h8 hq ⊢;simp only [List.length_nil,Nat.zero_add] at hq ⊢;omega
 ·rw [xM c];refine ⟨h4,⟨h2,h3,by intro x hx;cases hx⟩,by simp [vR],fun hz=>absurd hz c⟩
def ctxL : Nat -> List TPart -> RS -> Bool × List TPart × RS
 | 0,out,s=>(true,out,s)
 | k + 1,out,s=>if (ya s).2.2 ≠ 0 then (false,[],(ya s).2) else ctxL k (out ++ [(ya s).1]) (ya s).2
def ctxS (s:RS):List TPart × RS:=
 let r:=ctxL (numS s).1.toNat [] (numS s).2
 if r.1 = true then fin [] r.2.1 (bad4 (!decide (r.2.1 = C.zo r.2.1)) r.2.2) else ([],r.2.2)
theorem VP {k:Nat} {out:List TPart} {s:RS} (h:(ya s).2.2 ≠ 0):ctxL (k + 1) out s = (false,[],(ya s).2):=if_pos h
theorem XR {k:Nat} {out:List TPart} {s:RS} (h:(ya s).2.2 = 0):ctxL (k + 1) out s = ctxL k (out ++ [(ya s).1]) (ya s).2:=if_neg (by simp [h])
theorem tot_snoc (c:List TPart) (p:TPart):C.totC (c ++ [p]) = C.totC c + p.runs.length:=by rw [C.qu];simp [C.totC]
theorem YB : ∀ (k:Nat) (out:List TPart) (s:RS),Ok s -> s.2 = 0 -> (∀ p ∈ out,OkP p) -> out.length + C.totC out + s.1.length <= 1000000000 -> Ok (ctxL k out s).2.2 /\ (∀ p ∈ (ctxL k out s).2.1,OkP p) /\ (ctxL k out s).2.1.length + C.totC (ctxL k out s).2.1 <= 1000000000 /\
  ((ctxL k out s).1 = true ↔ (ctxL k out s).2.2.2 = 0) /\ ((ctxL k out s).1 = true -> (ctxL k out s).2.1.length = out.length + k /\ (ctxL k out s).2.2.1.length <= s.1.length)
 | 0,out,s,h,h0,ho,hl=>⟨h,ho,by show out.length + C.totC out <= _;omega,⟨fun _=>h0,fun _=>rfl⟩,fun _=>⟨rfl,Nat.le_refl _⟩⟩
 | k + 1,out,s,h,h0,ho,hl=>by
  obtain ⟨h1,h2,h3,h4⟩:=Xx h h0
  by_cases c:(ya s).2.2 = 0
  ·rw [XR c];have:=h4 c;obtain ⟨q1,q2,q3,q4,q5⟩:=YB k (out ++ [(ya s).1]) (ya s).2 h1 c (fun p hp=>by
    rcases List.mem_append.1 hp with h | h
    ·exact ho p h
    ·rw [List.mem_singleton.1 h];exact h2) (by rw [tot_snoc];simp;omega)
   refine ⟨q1,q2,q3,q4,fun hz=>?_⟩;have:=q5 hz;simp at this;omega
  ·rw [VP c];exact ⟨h1,by simp,by simp [C.totC],⟨fun h=>(by cases h),fun h=>absurd h c⟩,fun h=>(by cases h)⟩
theorem xQa : ∀ (k:Nat) (out:List TPart) (s:RS),(ctxL k out s).1 = false -> (ctxL k out s).2.1 = []
 | 0,out,s,h=>by cases h
 | k + 1,out,s,h=>by
  by_cases c:(ya s).2.2 = 0
  ·rw [XR c] at h ⊢;exact xQa k _ _ h
  ·rw [VP c]
theorem xRa {y3:Int × List Int × Int} (hn:0 <= y3.1 /\ y3.1 <= 18446744073709551615):∀ (k i:Nat) (out:List TPart) (s:RS),(i:Int) + k = y3.1 -> Ok s -> s.2 = 0 -> out.length + s.1.length <= 1000000000 ->
  loop (xC y3) ((i:Int),out,s.1,s.2) = pure (if (ctxL k out s).1 = true then .brk (ctxL k out s).2 else .ret (ctxL k out s).2)
 | 0,i,out,s,hi,_,_,_=>by
  exact zO (by
   unfold xC;have:decide ((i:Int) < y3.1) = false:=by simp;omega
   simp only [this,cond_false]
   rfl)
 | k + 1,i,out,s,hi,hO,h0,hl=>by
  obtain ⟨h1,h2,h3,h4⟩:=Xx hO h0;have hc:decide ((i:Int) < y3.1) = true:=by simp;omega
  have hw:IntKind.u64.wrap ((i:Int) + 1) = ((i + 1:Nat):Int):=by rw [wU64 (by omega) (by omega)];omega
  have hb:xC y3 ((i:Int),out,s.1,s.2) = cond (!decide ((ya s).2.2 = 0)) (pure (.done (.ret ([],(ya s).2)))) (pure (.next (((i + 1:Nat):Int),out ++ [(ya s).1],(ya s).2.1,(ya s).2.2))):=by
   unfold xC;simp only [hc,cond_true,part_eq hO,zB,zA,N.WE];rw [zF (by simp;omega),hw]
  by_cases c:(ya s).2.2 = 0
  ·have hlt:=h4 c;rw [decide_eq_true c,Bool.not_true,cond_false] at hb;rw [zi hb,XR c];exact xRa hn k (i + 1) _ (ya s).2 (by omega) h1 c (by simp;omega)
  ·rw [decide_eq_false c,Bool.not_false,cond_true] at hb;rw [zO hb,VP c]
   rfl
theorem zQa {c:List TPart} (h:∀ p ∈ c,OkP p) (hl:c.length + C.totC c <= 1000000000):C.Ok c:=⟨fun p hp=>(h p hp).d0,by omega,by omega⟩
theorem via {s:RS} (hO:Ok s):wH s.1 s.2 = pure (ctxS s):=by
 obtain ⟨h1,h2,h3⟩:=N.yX hO;unfold wH ctxS;rw [N.WF hO,zB,zA];have good:∀ (c:List TPart) (t:RS),C.Ok c -> ((det (vV c)).bind fun v37=>cond (!v37) ((det (zJ 4 t.1 t.2)).bind fun y40=>pure (([]:List TPart),y40.1,y40.2)) (pure (c,t.1,t.2))) = pure (if decide (c = C.zo c) = true then (c,t) else ([],wb 4 t)):=fun c t hc=>by
  rw [C.XM c hc.sm,zB,zA]
  cases decide (c = C.zo c) with
  | true=>rfl
  | false=>rw [Bool.not_false,cond_true,N.ZY,zB,zA];rfl
 by_cases c2:(numS s).2.2 = 0
 ·have:=xRa (y3:=numS s) ⟨h2,h3⟩ (numS s).1.toNat 0 [] (numS s).2 (by omega) h1 c2 (by simp;have:=h1.len;omega);rw [show ((0:Nat):Int) = 0 from rfl] at this;rw [this,zA];obtain ⟨q1,q2,q3,q4,_⟩:=YB (numS s).1.toNat [] (numS s).2 h1 c2 (by simp) (by simp [C.totC];have:=h1.len;omega);have qn:=xQa (numS s).1.toNat [] (numS s).2
  generalize ctxL (numS s).1.toNat [] (numS s).2 = r at *
  obtain ⟨b,c,t⟩:=r;simp only [] at *
  cases b with
  | false=>rw [qn rfl];rfl
  | true=>
   have hz:=q4.1 rfl;show ((det (vV c)).bind _) = _;rw [good c t (zQa q2 q3),if_pos rfl]
   cases hg:decide (c = C.zo c) with
   | true=>rw [if_pos rfl,Bool.not_true,Zz,WG hz]
   | false=>rw [if_neg (by simp),Bool.not_false,Za vfa];rfl
 ·have hz:=xM c2;rw [hz,zO (r:=.brk ([],(numS s).2)) (by
   unfold xC;simp only [hz,show decide ((0:Int) < 0) = false from rfl,cond_false]),zA]
  show ((det (vV [])).bind _) = pure (if true = true then fin [] [] (bad4 (!decide (([]:List TPart) = C.zo [])) (numS s).2) else ([],(numS s).2));rw [good [] (numS s).2 C.ok_nil,if_pos rfl];have e:C.zo [] = []:=rfl;rw [e];simp only [decide_true,if_true,Bool.not_true,Zz];rw [Za c2]
theorem xu {s:RS} (hO:Ok s):Ok (ctxS s).2 /\ (∀ p ∈ (ctxS s).1,OkP p) /\ (ctxS s).1.length + C.totC (ctxS s).1 <= 1000000000 /\ ((ctxS s).2.2 ≠ 0 -> (ctxS s).1 = []) /\ ((ctxS s).2.2 = 0 -> (ctxS s).1 = C.zo (ctxS s).1):=by
 obtain ⟨h1,h2,h3⟩:=N.yX hO;unfold ctxS
 by_cases c2:(numS s).2.2 = 0
 ·obtain ⟨q1,q2,q3,q4,_⟩:=YB (numS s).1.toNat [] (numS s).2 h1 c2 (by simp) (by simp [C.totC];have:=h1.len;omega)
  generalize ctxL (numS s).1.toNat [] (numS s).2 = r at *
  obtain ⟨b,c,t⟩:=r;simp only [] at *
  cases b with
  | false=>exact ⟨q1,by simp,by simp [C.totC],fun _=>rfl,fun _=>rfl⟩
  | true=>
   rw [if_pos rfl,Yo];refine ⟨Vq q1 _,?_⟩
   by_cases hb:(bad4 (!decide (c = C.zo c)) t).2 = 0
   ·rw [WG hb];have:=(Vr hb).1;exact ⟨q2,q3,fun h=>absurd hb h,fun _=>by simpa using this⟩
   ·rw [Za hb];exact ⟨by simp,by simp [C.totC],fun _=>rfl,fun h=>absurd h hb⟩
 ·rw [xM c2];show Ok (if true = true then fin [] [] (bad4 (!decide (([]:List TPart) = C.zo [])) (numS s).2) else ([],(numS s).2)).2 /\ _;have e:C.zo [] = []:=rfl;simp only [ctxL,Int.toNat_zero,e,decide_true,Bool.not_true,Zz,if_true,Za c2];exact ⟨h1,by simp,by simp [C.totC],fun _=>trivial,fun _=>trivial⟩

variable {B:List Int} {a:Int} {s:RS}
theorem Jg (hB:OkB B) {y:Int × List Int × Int × Int} (hn:0 <= y.1 /\ y.1 <= 18446744073709551615):∀ (k i:Nat) (out:List TRun) (s:RS) (a:Int),(i:Int) + k = y.1 -> Ok s -> s.2 = 0 -> Sim B a s -> out.length + s.1.length <= 1000000000 ->
  ∃ a',loop (yi y) ((i:Int),out,B,a,s.2) = pure ((vR k out s).1,B,a',(vR k out s).2.2) /\ Sim B a' (vR k out s).2
 | 0,i,out,s,a,hi,_,h0,hS,_=>by
  refine ⟨a,zO ?_,hS⟩;unfold yi;have:decide ((i:Int) < y.1) = false:=by simp;omega
  simp only [this,cond_false,zA]
  rfl
 | k + 1,i,out,s,a,hi,hO,h0,hS,hl=>by
  obtain ⟨h1,h2,h3⟩:=N.yX hO;have hc:decide ((i:Int) < y.1) = true:=by simp;omega
  obtain ⟨a1,e1,s1⟩:=N.ZZ hB hS;obtain ⟨a2,e2,s2⟩:=N.ZZ hB s1;have hw:IntKind.u64.wrap ((i:Int) + 1) = ((i + 1:Nat):Int):=by rw [wU64 (by omega) (by omega)];omega
  have hb:yi y ((i:Int),out,B,a,s.2) = pure (.next (((i + 1:Nat):Int),out ++ [⟨(numS s).1,(numS (numS s).2).1⟩],B,a2,(numS (numS s).2).2.2)):=by
   unfold yi;simp only [hc,cond_true,decide_eq_true h0,zA,e1,zB];rw [zF (by simp;omega)];simp only [e2,zB,zA];rw [zF (by simp;omega),hw]
   rfl
  rw [zi hb]
  by_cases c:(numS (numS s).2).2.2 = 0
  ·have hlt:=vha hO h0 c;rw [Xw c];exact Jg hB hn k (i + 1) _ (numS (numS s).2).2 a2 (by omega) (xPa hO).1 c s2 (by simp;omega)
  ·rw [VO c];refine ⟨a2,zO ?_,s2⟩;unfold yi;have hq:(cond (decide (((i + 1:Nat):Int) < y.1)) (pure (decide ((numS (numS s).2).2.2 = 0))) (pure false):M Bool) = pure false:=by
    rw [decide_eq_false c];cases decide (((i + 1:Nat):Int) < y.1) <;> rfl
   simp only [];rw [hq,zA]
   rfl
theorem wBa {y:Int × List Int × Int × Int} (i a:Int) (out:List TRun) {e:Int} (he:e ≠ 0):loop (yi y) (i,out,B,a,e) = pure (out,B,a,e):=zO (by
 unfold yi;have hq:(cond (decide (i < y.1)) (pure (decide (e = 0))) (pure false):M Bool) = pure false:=by
  rw [decide_eq_false he];cases decide (i < y.1) <;> rfl
 simp only [];rw [hq,zA]
 rfl)
theorem wCa (hB:OkB B) (hO:Ok s) (h0:s.2 = 0) (hS:Sim B a s) (out:List TPart) (ho:out.length <= 1000000000) :
  ∃ a',((det (zh 65535 B a s.2)).bind fun y133=>(det (zI y133.2.1 y133.2.2.1 y133.2.2.2)).bind fun y135=>
   (loop (yi y135) (0,([]:List TRun),y135.2.1,y135.2.2.1,y135.2.2.2)).bind fun ⟨p137,v138,v139,v140⟩=>
   need ((List.length out + List.length ([(⟨(IntKind.u16.wrap y133.1),p137⟩:TPart)])) * 32 <= 140737488355328) (pure (out ++ [(⟨(IntKind.u16.wrap y133.1),p137⟩:TPart)],v138,v139,v140)))
   = pure (out ++ [(ya s).1],B,a',(ya s).2.2) /\ Sim B a' (ya s).2:=by
 obtain ⟨h1,h2,h3⟩:=N.XO hO (m:=65535) (by decide);obtain ⟨h4,h5,h6⟩:=N.yX h1;obtain ⟨a1,e1,s1⟩:=N.xHa hB hS 65535;obtain ⟨a2,e2,s2⟩:=N.ZZ hB s1;rw [e1,zB,zA];simp only [e2,zB,zA,wU16 h2 h3];unfold ya
 by_cases c:(numS (zw 65535 s).2).2.2 = 0
 ·obtain ⟨a3,e3,s3⟩:=Jg hB (y:=((numS (zw 65535 s).2).1,B,a2,(numS (zw 65535 s).2).2.2)) ⟨h5,h6⟩ (numS (zw 65535 s).2).1.toNat 0 [] (numS (zw 65535 s).2).2 a2 (by simp;omega) h4 c s2 (by simp;have:=h4.len;omega);rw [show ((0:Nat):Int) = 0 from rfl] at e3;rw [e3,zA];simp only [];rw [zF (by simp;omega)];exact ⟨a3,rfl,s3⟩
 ·rw [xM c,wBa _ _ _ c,zA];simp only [];rw [zF (by simp;omega)];exact ⟨a2,rfl,s2⟩
theorem zRa (hB:OkB B) {y:Int × List Int × Int × Int} (hn:0 <= y.1 /\ y.1 <= 18446744073709551615):∀ (k i:Nat) (out:List TPart) (s:RS) (a:Int),(i:Int) + k = y.1 -> Ok s -> s.2 = 0 -> Sim B a s -> out.length + s.1.length <= 1000000000 ->
  ∃ out' a',loop (yt y) ((i:Int),out,B,a,s.2) = pure (out',B,a',(ctxL k out s).2.2.2) /\ Sim B a' (ctxL k out s).2.2 /\ ((ctxL k out s).1 = true -> out' = (ctxL k out s).2.1)
 | 0,i,out,s,a,hi,_,h0,hS,_=>by
  refine ⟨out,a,zO ?_,hS,fun _=>rfl⟩;unfold yt;have:decide ((i:Int) < y.1) = false:=by simp;omega
  simp only [this,cond_false,zA]
  rfl
 | k + 1,i,out,s,a,hi,hO,h0,hS,hl=>by
  obtain ⟨h1,h2,h3,h4⟩:=Xx hO h0;have hc:decide ((i:Int) < y.1) = true:=by simp;omega
  obtain ⟨a1,e1,s1⟩:=wCa hB hO h0 hS out (by omega);have hw:IntKind.u64.wrap ((i:Int) + 1) = ((i + 1:Nat):Int):=by rw [wU64 (by omega) (by omega)];omega
  have hb:yt y ((i:Int),out,B,a,s.2) = pure (.next (((i + 1:Nat):Int),out ++ [(ya s).1],B,a1,(ya s).2.2)):=by
   unfold yt;simp only [hc,cond_true,decide_eq_true h0,zA];rw [e1,zA,hw]
  rw [zi hb]
  by_cases c:(ya s).2.2 = 0
  ·have hlt:=h4 c;rw [XR c];exact zRa hB hn k (i + 1) _ (ya s).2 a1 (by omega) h1 c s1 (by simp;omega)
  ·rw [VP c];refine ⟨out ++ [(ya s).1],a1,zO ?_,s1,fun h=>by cases h⟩;unfold yt;have hq:(cond (decide (((i + 1:Nat):Int) < y.1)) (pure (decide ((ya s).2.2 = 0))) (pure false):M Bool) = pure false:=by
    rw [decide_eq_false c];cases decide (((i + 1:Nat):Int) < y.1) <;> rfl
   simp only [];rw [hq,zA]
   rfl
theorem yXa (hB:OkB B) (hO:Ok s) (h:Sim B a s):∃ a',ue B a s.2 = pure ((ctxS s).1,B,a',(ctxS s).2.2) /\ Sim B a' (ctxS s).2:=by
 obtain ⟨h1,h2,h3⟩:=N.yX hO;obtain ⟨a1,e1,s1⟩:=N.ZZ hB h;unfold ue ctxS;rw [e1,zB,zA]
 by_cases c2:(numS s).2.2 = 0
 ·obtain ⟨out',a2,e2,s2,q⟩:=zRa hB (y:=((numS s).1,B,a1,(numS s).2.2)) ⟨h2,h3⟩ (numS s).1.toNat 0 [] (numS s).2 a1 (by simp;omega) h1 c2 s1 (by simp;have:=h1.len;omega);rw [show ((0:Nat):Int) = 0 from rfl] at e2;simp only [];rw [e2,zA];obtain ⟨q1,q2,q3,q4,_⟩:=YB (numS s).1.toNat [] (numS s).2 h1 c2 (by simp) (by simp [C.totC];have:=h1.len;omega)
  generalize ctxL (numS s).1.toNat [] (numS s).2 = r at *
  obtain ⟨b,c,t⟩:=r;simp only [] at *
  cases b with
  | false=>
   have hz:t.2 ≠ 0:=fun h=>by have:=q4.2 h;cases this
   simp only [decide_eq_false hz,cond_false,zA,Bool.not_false,cond_true,Bool.false_eq_true,if_false];exact ⟨a2,rfl,s2⟩
  | true=>
   have hz:=q4.1 rfl;have e:=q rfl;subst e;have e4:=Vs B a2 (!decide (out' = C.zo out')) t;simp only [decide_eq_true hz,cond_true,C.ZT out' (zQa q2 q3),zB,zA,if_true];rw [e4,zA,Yo];refine ⟨a2,?_,Xv s2 _⟩;simp only []
   by_cases hb:(bad4 (!decide (out' = C.zo out')) t).2 = 0
   ·rw [WG hb,decide_eq_true hb];rfl
   ·rw [Za hb,decide_eq_false hb];rfl
 ·have hst:loop (yt ((numS s).1,B,a1,(numS s).2.2)) (0,[],B,a1,(numS s).2.2) = pure ([],B,a1,(numS s).2.2):=zO (by
   unfold yt;have hq:(cond (decide ((0:Int) < (numS s).1)) (pure (decide ((numS s).2.2 = 0))) (pure false):M Bool) = pure false:=by
    rw [decide_eq_false c2];cases decide ((0:Int) < (numS s).1) <;> rfl
   simp only [];rw [hq,zA]
   rfl)
  simp only [];rw [hst,zA,xM c2];have e:C.zo [] = []:=rfl;simp only [decide_eq_false c2,cond_false,zA,Bool.not_false,cond_true,ctxL,Int.toNat_zero,e,decide_true,Bool.not_true,Zz,if_true,Za c2];exact ⟨a1,rfl,s1⟩

open N (RS Ok numS zw wb endS OkB Sim)

def XS : List TDot -> Bool
 | []=>true
 | x :: r=>(match r with | []=>true | y :: _=>zV x y) && XS r
theorem xSa : ∀ {l:List TDot},XS l = true ↔ Srt l
 | []=>⟨fun _=>List.Pairwise.nil,fun _=>rfl⟩
 | [x]=>⟨fun _=>by simp [Srt],fun _=>rfl⟩
 | x :: y :: r=>by
  show (zV x y && XS (y :: r)) = true ↔ _;rw [Bool.and_eq_true,xSa (l:=y :: r)];unfold Srt;rw [List.pairwise_cons (a:=x)]
  constructor
  ·rintro ⟨h1,h2⟩;refine ⟨fun z hz=>?_,h2⟩;rcases List.mem_cons.1 hz with rfl | hz
   ·exact h1
   ·exact Xt h1 ((List.pairwise_cons.1 h2).1 z hz)
  ·rintro ⟨h1,h2⟩;exact ⟨h1 y (by simp),h2⟩
theorem xTa (x y:TDot):decide (0 <= V.cmpD x y) = !zV x y:=by
 by_cases h:zV x y = true
 ·have:=V.Ua.2 h;rw [h];simp;omega
 ·have h2:¬ V.cmpD x y < 0:=fun e=>h (V.Ua.1 e)
  simp only [Bool.not_eq_true] at h;rw [h];simp;omega
theorem wDa (l:List TDot) (hl:l.length <= 1000000000000):Xp l = pure (XS l):=by
 unfold Xp;have key:∀ (k i:Nat) (x:TDot) (r:List TDot),i + k = l.length -> l.drop i = r -> i ≠ 0 -> l[i - 1]? = some x -> loop (xe l) (i:Int) = pure (if XS (x :: r) = true then .brk () else .ret false):=by
  intro k
  induction k with
  | zero=>
   intro i x r hi hr h1 hx;have:r = []:=by rw [<- hr];exact List.drop_eq_nil_of_le (by omega)
   subst this;exact zO (by
    unfold xe;have:decide ((i:Int) < (l.length:Int)) = false:=by simp;omega
    simp only [this,cond_false];rfl)
  | succ k ih=>
   intro i x r hi hr h1 hx;have hlt:i < l.length:=by omega
   have hr2:r = l[i] :: l.drop (i + 1):=by rw [<- hr];exact List.drop_eq_getElem_cons hlt
   have hy:=List.getElem?_eq_getElem hlt;have hi1:idx l (IntKind.i64.wrap ((i:Int) - 1)) = pure x:=by
    rw [wI64 (by omega) (by omega)];exact WB (by omega) (by rw [show ((i:Int) - 1).toNat = i - 1 by omega];exact hx)
   have hb:xe l (i:Int) = cond (!zV x l[i]) (pure (.done (.ret false))) (pure (.next ((i + 1:Nat):Int))):=by
    unfold xe;have:decide ((i:Int) < (l.length:Int)) = true:=by simp;omega
    simp only [this,cond_true,hi1,zK hy,zA,V.vN,zB,xTa,yJ (show i < 9223372036854775807 by omega)]
   rw [hr2];show _ = (pure (if (zV x l[i] && XS (l[i] :: l.drop (i + 1))) = true then Ex.brk () else Ex.ret false):M (Ex Unit Bool))
   cases c:zV x l[i] with
   | true=>
    rw [c] at hb;rw [zi hb,Bool.true_and];exact ih (i + 1) l[i] _ (by omega) rfl (by omega) hy
   | false=>
    rw [c] at hb;rw [zO hb];rfl
 cases l with
 | nil=>
  rw [zO (r:=.brk ()) (by unfold xe;rfl)];rfl
 | cons x r=>
  have:=key r.length 1 x r (by simp;omega) rfl (by decide) rfl;rw [show ((1:Nat):Int) = 1 from rfl] at this;rw [this,zA]
  cases XS (x :: r) <;> rfl

theorem zSa {l:List TDot} (hs:Srt l) (h:∀ d ∈ l,V.yS d = true):wP (ZC l) = l:=by
 have e:ZC l = l:=List.filter_eq_self.2 h;rw [e];exact vba hs
open N (RS Ok numS zw wb endS OkB Sim)

theorem Zb {s:RS} (hO:Ok s) (h:(numS s).2.2 = 0):s.1 = N.encI (numS s).1 ++ (numS s).2.1:=by
 have h0:=WH h;unfold numS at h ⊢;rw [if_neg (by simp [h0])] at h ⊢
 by_cases c:(N.rdN s.1).2.2 = 0
 ·rw [if_neg (by simp [c])];exact N.rdN_one hO.by_ c
 ·rw [if_pos c] at h;exact absurd h (N.xL c)
theorem xUa {s:RS} (hO:Ok s) {m:Int} (h:(zw m s).2.2 = 0):s.1 = N.encI (zw m s).1 ++ (zw m s).2.1:=by
 obtain ⟨h1,h2⟩:=QJ h;rw [h2];exact Zb hO h1
theorem vja {s:RS} (hO:Ok s) (h:(dotS s).2.2 = 0):s.1 = encD (dotS s).1 ++ (dotS s).2.1:=by
 obtain ⟨_,h1,h2,h3⟩:=xMa h;have e1:=xUa hO h1;have e2:=Zb (N.XO hO (m:=65535) (by decide)).1 h2;rw [h3];show s.1 = (N.encI (zw 65535 s).1 ++ N.encI (numS (zw 65535 s).2).1) ++ _;rw [List.append_assoc,<- e2];exact e1
theorem zTa : ∀ (k:Nat) (out:List TDot) (s:RS),Ok s -> s.2 = 0 -> Srt out -> (∀ d ∈ out,V.yS d = true) -> (zq k out s).2.2 = 0 -> ∃ l,(zq k out s).1 = out ++ l /\ l.length = k /\ s.1 = l.flatMap encD ++ (zq k out s).2.1 /\ Srt (out ++ l) /\ (∀ d ∈ out ++ l,V.yS d = true) /\ ∀ d ∈ l,OkD d
 | 0,out,s,_,_,hs,hg,_=>⟨[],by simp [zq],rfl,by simp [zq],by simpa using hs,by simpa using hg,by simp⟩
 | k + 1,out,s,hO,h0,hs,hg,h=>by
  by_cases c:(ZD out s).2 = 0
  ·obtain ⟨c1,c2,c3⟩:=QK c;rw [YA c] at h ⊢;have hgd:=(xMa c2).1;have hs2:Srt (out ++ [(dotS s).1]):=by
    unfold Srt;rw [List.pairwise_append];refine ⟨hs,by simp,fun a ha b hb=>?_⟩;rw [List.mem_singleton.1 hb];rcases R.yc out with rfl | ⟨q,y,rfl⟩
    ·simp at ha
    ·have hy:zV y (dotS s).1 = true:=by
      unfold jh at c1;simp only [List.getLast?_append,List.getLast?_singleton,Option.some_or,xTa] at c1;simpa using c1
     rcases List.mem_append.1 ha with h5 | h5
     ·exact Xt ((List.pairwise_append.1 hs).2.2 a h5 y (by simp)) hy
     ·rw [List.mem_singleton.1 h5];exact hy
   obtain ⟨l,e1,e2,e3,e4,e5,e6⟩:=zTa k _ _ (VN hO out) c hs2 (fun d hd=>by
    rcases List.mem_append.1 hd with h5 | h5
    ·exact hg d h5
    ·rw [List.mem_singleton.1 h5];exact hgd) h
   refine ⟨(dotS s).1 :: l,by rw [e1];simp,by simp [e2],?_,by simpa using e4,by simpa using e5,fun d hd=>?_⟩
   ·rw [List.flatMap_cons,List.append_assoc,<- e3,c3];exact vja hO c2
   ·rcases List.mem_cons.1 hd with rfl | h5
    ·exact (zNa hO).2.1
    ·exact e6 d h5
  ·rw [XQ c] at h;exact absurd h c
theorem xVa {s:RS} (hO:Ok s) {most:Int} (h:(xt most s).2.2 = 0):s.1 = JI (xt most s).1 ++ (xt most s).2.1 /\ Srt (xt most s).1 /\ (∀ d ∈ (xt most s).1,V.yS d = true /\ OkD d) /\ ((xt most s).1.length:Int) <= max most 0:=by
 obtain ⟨h1,h2,h3⟩:=N.yX hO;unfold xt at h ⊢
 by_cases c:max most 0 < (numS s).1
 ·rw [if_pos c] at h;exact absurd h (N.xL (by decide))
 ·rw [if_neg c] at h ⊢;have c2:(numS s).2.2 = 0:=Classical.byContradiction fun c2=>by
   rw [xM c2] at h;exact c2 h
  obtain ⟨l,e1,e2,e3,e4,e5,e6⟩:=zTa _ [] _ h1 c2 List.Pairwise.nil (by simp) h;rw [List.nil_append] at e1 e4 e5;rw [e1];refine ⟨?_,e4,fun d hd=>⟨e5 d hd,e6 d hd⟩,by omega⟩;rw [JI,zSa e4 e5,List.append_assoc,<- e3,e2,Int.toNat_of_nonneg h2];exact Zb hO c2
theorem dots_bad {s:RS} {most:Int} (h:(xt most s).2.2 ≠ 0):(xt most s).1 = []:=by
 have hL:∀ (k:Nat) (out:List TDot) (s:RS),s.2 = 0 \/ out = [] -> (zq k out s).2.2 ≠ 0 -> (zq k out s).1 = []:=by
  intro k
  induction k with
  | zero=>
   intro out s h1 h2;rcases h1 with h1 | h1
   ·exact absurd h1 h2
   ·exact h1
  | succ k ih=>
   intro out s _ h2
   by_cases c:(ZD out s).2 = 0
   ·rw [YA c] at h2 ⊢;exact ih _ _ (.inl c) h2
   ·rw [XQ c]
 unfold xt at h ⊢
 split at h
 ·rename_i c;rw [if_pos c]
 ·rename_i c;rw [if_neg c];exact hL _ _ _ (.inr rfl) h
theorem zUa : ∀ (k:Nat) (out:List TRun) (s:RS),Ok s -> (vR k out s).2.2 = 0 -> ∃ l,(vR k out s).1 = out ++ l /\ l.length = k /\ s.1 = l.flatMap encR ++ (vR k out s).2.1
 | 0,out,s,_,_=>⟨[],by simp [vR],rfl,by simp [vR]⟩
 | k + 1,out,s,hO,h=>by
  by_cases c:(numS (numS s).2).2.2 = 0
  ·rw [Xw c] at h ⊢;obtain ⟨l,e1,e2,e3⟩:=zUa k _ _ (xPa hO).1 h;refine ⟨⟨(numS s).1,(numS (numS s).2).1⟩ :: l,by rw [e1];simp,by simp [e2],?_⟩;rw [List.flatMap_cons,List.append_assoc,<- e3,encR,List.append_assoc,<- Zb (N.yX hO).1 c];exact Zb hO (WH c)
  ·rw [VO c] at h;exact absurd h c
theorem part_inv {s:RS} (hO:Ok s) (h:(ya s).2.2 = 0):s.1 = encP (ya s).1 ++ (ya s).2.1:=by
 obtain ⟨h1,h2,h3⟩:=N.XO hO (m:=65535) (by decide);obtain ⟨h4,h5,h6⟩:=N.yX h1;unfold ya at h ⊢;have c:(numS (zw 65535 s).2).2.2 = 0:=Classical.byContradiction fun c=>by rw [xM c] at h;exact c h
 obtain ⟨l,e1,e2,e3⟩:=zUa _ [] _ h4 h;rw [List.nil_append] at e1;show s.1 = (N.encI (zw 65535 s).1 ++ (N.encI ((vR (numS (zw 65535 s).2).1.toNat [] (numS (zw 65535 s).2).2).1.length:Int) ++ (vR (numS (zw 65535 s).2).1.toNat [] (numS (zw 65535 s).2).2).1.flatMap encR)) ++ (vR (numS (zw 65535 s).2).1.toNat [] (numS (zw 65535 s).2).2).2.1;rw [e1,List.append_assoc,List.append_assoc,<- e3,e2,Int.toNat_of_nonneg h5,<- Zb h1 c];exact xUa hO (WH c)
theorem xWa : ∀ (k:Nat) (out:List TPart) (s:RS),Ok s -> s.2 = 0 -> (ctxL k out s).1 = true -> ∃ l,(ctxL k out s).2.1 = out ++ l /\ l.length = k /\ s.1 = l.flatMap encP ++ (ctxL k out s).2.2.1
 | 0,out,s,_,_,_=>⟨[],by simp [ctxL],rfl,by simp [ctxL]⟩
 | k + 1,out,s,hO,h0,h=>by
  by_cases c:(ya s).2.2 = 0
  ·rw [XR c] at h ⊢;obtain ⟨l,e1,e2,e3⟩:=xWa k _ _ (Xx hO h0).1 c h;refine ⟨(ya s).1 :: l,by rw [e1];simp,by simp [e2],?_⟩;rw [List.flatMap_cons,List.append_assoc,<- e3];exact part_inv hO c
  ·rw [VP c] at h;cases h
theorem vka {s:RS} (hO:Ok s) (h:(ctxS s).2.2 = 0):s.1 = encC (ctxS s).1 ++ (ctxS s).2.1:=by
 have hn:=(xu hO).2.2.2.2 h;obtain ⟨h1,h2,h3⟩:=N.yX hO;rw [encC,<- hn];unfold ctxS at h ⊢;have c:(numS s).2.2 = 0:=Classical.byContradiction fun c=>by
  have hz:=xM c;have e:C.zo [] = []:=rfl;simp only [hz,ctxL,Int.toNat_zero,e,decide_true,Bool.not_true,Zz,if_true,Yo] at h;exact c h
 have hi:=xWa (numS s).1.toNat [] (numS s).2 h1 c;obtain ⟨q1,q2,q3,q4,_⟩:=YB (numS s).1.toNat [] (numS s).2 h1 c (by simp) (by simp [C.totC];have:=h1.len;omega)
 generalize ctxL (numS s).1.toNat [] (numS s).2 = r at *
 obtain ⟨b,x,t⟩:=r;simp only [] at *
 cases b with
 | false=>
  have hz:t.2 = 0:=h;have:=q4.2 hz;cases this
 | true=>
  rw [if_pos rfl] at h ⊢;rw [Yo] at h;rw [WG h,(Vr h).2.2];obtain ⟨l,e1,e2,e3⟩:=hi rfl;rw [List.nil_append] at e1;subst e1;show s.1 = (N.encI (x.length:Int) ++ x.flatMap encP) ++ t.1;rw [List.append_assoc,<- e3,e2,Int.toNat_of_nonneg h2];exact Zb hO c
theorem end_ok {s:RS} (h:(endS s).1 = 0):s.1 = [] /\ s.2 = 0:=by
 unfold endS at h
 by_cases c:0 < s.1.length
 ·simp only [if_pos c] at h;exact absurd h (N.xL (by decide))
 ·simp only [if_neg c] at h;exact ⟨List.eq_nil_of_length_eq_zero (by omega),h⟩
end Go.Ep.M.D


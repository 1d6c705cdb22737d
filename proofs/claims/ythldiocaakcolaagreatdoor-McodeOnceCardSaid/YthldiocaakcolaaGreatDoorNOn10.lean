/- Side texts. -/
import Derived.Test.YthldiocaakcolaaGreatDoorNOn3
import Derived.Test.YthldiocaakcolaaGreatDoorNOn8
import Derived.Test.YthldiocaakcolaaGreatDoorNOn9
set_option linter.unusedVariables false
set_option linter.unusedSimpArgs false
namespace Go.Ep.M.N
open Go

theorem wU8_mod (n:Int):IntKind.u8.wrap n = n % 256:=by simp [IntKind.wrap,IntKind.bits,IntKind.signed]
def Yv (n:Nat):Nat:=if n = 0 then 0 else Yv (n / 256) + 1
theorem Zg : Yv 0 = 0:=by rw [Yv];rfl
theorem YQ {n:Nat} (h:n ≠ 0):Yv n = Yv (n / 256) + 1:=by rw [Yv,if_neg h]
theorem QI : ∀ (k n:Nat),n < 256 ^ k -> Yv n <= k
 | 0,n,h=>by
  have:n = 0:=by simpa using h
  rw [this,Zg];exact Nat.le_refl _
 | k + 1,n,h=>by
  by_cases h0:n = 0
  ·rw [h0,Zg];omega
  ·rw [YQ h0];have:=QI k (n / 256) (by rw [Nat.pow_succ] at h;omega);omega
theorem v9a : ∀ (n:Nat),n < 256 ^ Yv n:=by
 intro n
 induction n using Nat.strongRecOn with
 | _ n ih=>
  by_cases h0:n = 0
  ·rw [h0,Zg];decide
  ·rw [YQ h0,Nat.pow_succ];have:=ih (n / 256) (by omega);omega
theorem uAa : ∀ (k n:Nat),256 ^ k <= n -> k + 1 <= Yv n
 | 0,n,h=>by
  have:n ≠ 0:=by intro h0;rw [h0] at h;simp at h
  rw [YQ this];omega
 | k + 1,n,h=>by
  have hp:0 < 256 ^ k:=Nat.pow_pos (by decide);rw [Nat.pow_succ] at h;have:n ≠ 0:=by omega
  rw [YQ this];have:=uAa k (n / 256) (by omega);omega
theorem zea {n:Nat} (h:n < 18446744073709551616):Yv n <= 8:=QI 8 n (by simpa using h)

theorem fdiv256 (n:Nat):Int.fdiv (n:Int) (2 ^ 8) = ((n / 256:Nat):Int):=by
 rw [Int.fdiv_eq_ediv_of_nonneg _ (by decide)];have:(2 ^ 8:Int) = 256:=rfl;rw [this];omega
theorem len_loop : ∀ (n k:Nat),k + Yv n <= 1000 -> loop ZD ((n:Int),(k:Int)) = pure (((k + Yv n:Nat)):Int):=by
 intro n
 induction n using Nat.strongRecOn with
 | _ n ih=>
  intro k hk
  by_cases h0:n = 0
  ·subst h0;rw [Zg,Nat.add_zero];exact zV (by unfold ZD;simp)
  ·rw [YQ h0] at hk ⊢;rw [zT (s':=(((n / 256:Nat):Int),((k + 1:Nat):Int))) (by
    unfold ZD;have:decide ((0:Int) < (n:Int)) = true:=by simp;omega
    simp only [this,cond_true,fdiv256,yN (show k < 9223372036854775807 by omega)]),ih (n / 256) (by omega) (k + 1) (by omega)]
   congr 2;omega
theorem Len_eq {v:Int} (h0:0 <= v) (h:v <= 18446744073709551615):Wa v = pure (Yv v.toNat:Int):=by
 obtain ⟨n,rfl⟩:=Int.eq_ofNat_of_zero_le h0;unfold Wa;have:=len_loop n 0 (by have:=zea (n:=n) (by omega);omega);rw [show (0:Int) = ((0:Nat):Int) from rfl,this,zA,Nat.zero_add,Int.toNat_natCast]
def uq (n i:Nat):Int:=((n / 256 ^ i % 256:Nat):Int)
theorem zfa (n i:Nat):0 <= uq n i /\ uq n i <= 255:=by unfold uq;omega
theorem Byte_eq (n i:Nat) (hi:i <= 7):XN (n:Int) (i:Int) = pure (uq n i):=by
 have h8:i = 0 \/ i = 1 \/ i = 2 \/ i = 3 \/ i = 4 \/ i = 5 \/ i = 6 \/ i = 7:=by omega
 unfold XN uq;rw [WF (show (0:Int) <= (i:Int) by omega) (by omega),WF (show (0:Int) <= 8 * (i:Int) by omega) (by omega)];have hd:decide ((7:Int) < (i:Int)) = false:=by simp;omega
 simp only [hd,cond_false];rw [zC (by omega),wU8_mod,Int.fdiv_eq_ediv_of_nonneg _ (by exact Int.le_of_lt (Int.pow_pos (by decide)))]
 congr 1
 have e:(2:Int) ^ min (8 * (i:Int)).toNat 64 = ((256 ^ i:Nat):Int):=by
  rcases h8 with rfl | rfl | rfl | rfl | rfl | rfl | rfl | rfl <;> rfl
 rw [e];exact (by rw [Int.natCast_emod,Int.natCast_ediv];rfl)
def be (n:Nat):Nat -> List Int
 | 0=>[]
 | k + 1=>uq n k :: be n k
theorem uBa (n:Nat):∀ k,(be n k).length = k
 | 0=>rfl
 | k + 1=>by simp [be,uBa n k]
def zga (n:Nat):List Int:=(Yv n:Int) :: be n (Yv n)
def ya (v:Int):List Int:=zga v.toNat
theorem zh {v:Int} (h:v <= 18446744073709551615):(ya v).length <= 9:=by
 have:=zea (n:=v.toNat) (by omega);simp [ya,zga,uBa];omega
theorem xfa (n:Nat):∀ (k:Nat) (out:List Int),k <= 8 -> out.length + k <= 100000000000000 -> loop (uH (n:Int)) ((k:Int) - 1,out) = pure (out ++ be n k)
 | 0,out,_,_=>by
  rw [be,List.append_nil];exact zV (by unfold uH;simp)
 | k + 1,out,hk,ho=>by
  have e:((k + 1:Nat):Int) - 1 = (k:Int):=by omega
  rw [e,zT (s':=((k:Int) - 1,out ++ [uq n k])) (by
   unfold uH;have h1:decide ((0:Int) <= (k:Int)) = true:=by simp
   simp only [h1,cond_true,Byte_eq n k (by omega),zB,zA];rw [zC (by simp;omega),Yt (by omega) (by omega)]),xfa n k _ (by omega) (by simp;omega),be,List.append_assoc]
  rfl
theorem uCa (b:List Int) {v:Int} (h0:0 <= v) (h:v <= 18446744073709551615) (hb:b.length <= 10000000000000):XO b v = pure (b ++ ya v):=by
 have h8:=zea (n:=v.toNat) (by omega);unfold XO;rw [Len_eq h0 h,zB,zA,Yt (show -9223372036854775808 <= (b.length:Int) + (Yv v.toNat:Int) by omega) (by omega),Yt (by omega) (by omega),zC (by omega),zC (by simp;omega),zC (by simp;omega),wU8 (by omega) (by omega),Yt (by omega) (by omega)];have:=xfa v.toNat (Yv v.toNat) (([]:List Int) ++ b ++ [(Yv v.toNat:Int)]) h8 (by simp;omega);rw [show ((v.toNat:Nat):Int) = v by omega] at this;rw [this,zA];simp [ya,zga]

def By (l:List Int):Prop:=∀ x ∈ l,0 <= x /\ x <= 255
theorem By.drop {l:List Int} (h:By l) (n:Nat):By (l.drop n):=fun x hx=>h x (List.mem_of_mem_drop hx)
theorem By.take {l:List Int} (h:By l) (n:Nat):By (l.take n):=fun x hx=>h x (List.mem_of_mem_take hx)
theorem By.app {a b:List Int} (ha:By a) (hb:By b):By (a ++ b):=fun x hx=>(List.mem_append.1 hx).elim (ha x) (hb x)
theorem By.nil : By []:=fun x hx=>by cases hx
theorem by_be (n:Nat):∀ k,By (be n k)
 | 0=>By.nil
 | k + 1=>fun x hx=>by
  rcases List.mem_cons.1 hx with rfl | h
  ·exact zfa n k
  ·exact by_be n k x h
theorem uB {v:Int} (h:v <= 18446744073709551615):By (ya v):=fun x hx=>by
 have:=zea (n:=v.toNat) (by omega);rcases List.mem_cons.1 hx with rfl | h
 ·omega
 ·exact by_be _ _ x h

def jr (l:List Int):Int:=l.foldl (fun v x=>v * 256 + x) 0
theorem jX : ∀ (l:List Int) (v k:Nat),By l -> v < 256 ^ k -> ∃ n:Nat,l.foldl (fun v x=>v * 256 + x) (v:Int) = (n:Int) /\ n < 256 ^ (k + l.length) /\ v * 256 ^ l.length <= n
 | [],v,k,_,hv=>⟨v,rfl,by simpa using hv,by simp⟩
 | x :: r,v,k,hb,hv=>by
  have hx:=hb x (by simp);obtain ⟨n,h1,h2,h3⟩:=jX r (v * 256 + x.toNat) (k + 1) (fun y hy=>hb y (by simp [hy])) (by rw [Nat.pow_succ];omega);refine ⟨n,?_,by rw [show k + (x :: r).length = k + 1 + r.length by simp;omega];exact h2,?_⟩
  ·rw [List.foldl_cons,<- h1]
   congr 1;omega
  ·refine Nat.le_trans ?_ h3;rw [List.length_cons,Nat.pow_succ];have:v * (256 ^ r.length * 256) = v * 256 * 256 ^ r.length:=by rw [Nat.mul_comm (256 ^ r.length),Nat.mul_assoc]
   rw [this];exact Nat.mul_le_mul_right _ (by omega)
theorem uDa {l:List Int} (h:By l) (h8:l.length <= 8):0 <= jr l /\ jr l <= 18446744073709551615:=by
 obtain ⟨n,h1,h2,_⟩:=jX l 0 0 h (by decide);have h3:256 ^ (0 + l.length) <= 256 ^ 8:=Nat.pow_le_pow_right (by decide) (by omega);have h4:(256:Nat) ^ 8 = 18446744073709551616:=by decide
 rw [jr,show (0:Int) = ((0:Nat):Int) from rfl,h1];omega
theorem bor_eq {v:Nat} {x:Int} (hv:v < 72057594037927936) (hx:0 <= x /\ x <= 255):bOr .u64 (IntKind.u64.wrap ((v:Int) * 2 ^ 8)) (IntKind.u64.wrap x) = (v:Int) * 256 + x:=by
 obtain ⟨y,rfl⟩:=Int.eq_ofNat_of_zero_le hx.1;have e:((v:Int) * 2 ^ 8) = ((2 ^ 8 * v:Nat):Int):=by
  have:(2 ^ 8:Int) = 256:=rfl;have:(2 ^ 8:Nat) = 256:=rfl;omega
 have hb:2 ^ 8 * v + y < 18446744073709551616:=by
  have:(2 ^ 8:Nat) = 256:=rfl;omega
 rw [e,WF (by omega) (by omega),WF (by omega) (by omega)];unfold bOr;have bv:∀ q:Nat,q < 18446744073709551616 -> (BitVec.ofInt IntKind.u64.bits (q:Int)).toNat = q:=fun q hq=>by
  show (BitVec.ofInt 64 (q:Int)).toNat = q;rw [BitVec.toNat_ofInt];omega
 rw [BitVec.toNat_or,bv _ (by omega),bv _ (by omega),<- Nat.two_pow_add_eq_or_of_lt (show y < 2 ^ 8 by have:(2 ^ 8:Nat) = 256:=rfl;omega) v,WF (by omega) (by omega)];have:(2 ^ 8:Nat) = 256:=rfl;omega

def rdN : List Int -> Int × Nat × Int
 | []=>(0,0,2)
 | n :: r=>if 8 < n \/ (0 < n /\ r.head? = some 0) then (0,0,4) else if (r.length:Int) < n then (0,0,2) else (jr (r.take n.toNat),n.toNat + 1,0)
theorem QJ (n:Int) (r:List Int):rdN (n :: r) = if 8 < n \/ (0 < n /\ r.head? = some 0) then (0,0,4) else if (r.length:Int) < n then (0,0,2) else (jr (r.take n.toNat),n.toNat + 1,0):=rfl
theorem jY (b:List Int) (hb:By b):(rdN b = (0,0,2) \/ rdN b = (0,0,4)) \/ ∃ n r,b = n :: r /\ 0 <= n /\ n <= 8 /\ n <= (r.length:Int) /\ ¬ (0 < n /\ r.head? = some 0) /\ rdN b = (jr (r.take n.toNat),n.toNat + 1,0):=by
 cases b with
 | nil=>exact .inl (.inl rfl)
 | cons n r=>
  have hn:=hb n (by simp);rw [QJ]
  by_cases h1:8 < n \/ (0 < n /\ r.head? = some 0)
  ·rw [if_pos h1];exact .inl (.inr rfl)
  ·rw [if_neg h1]
   by_cases h2:(r.length:Int) < n
   ·rw [if_pos h2];exact .inl (.inl rfl)
   ·rw [if_neg h2];exact .inr ⟨n,r,rfl,hn.1,by omega,by omega,fun h=>h1 (.inr h),rfl⟩
theorem zha (b:List Int) (hb:By b):0 <= (rdN b).1 /\ (rdN b).1 <= 18446744073709551615 /\ (rdN b).2.1 <= b.length /\ ((rdN b).2.2 = 0 \/ (rdN b).2.2 = 2 \/ (rdN b).2.2 = 4):=by
 rcases jY b hb with (h | h) | ⟨n,r,rfl,h0,h8,hl,_,h⟩
 ·rw [h];simp
 ·rw [h];simp
 ·rw [h];have:=uDa (l:=r.take n.toNat) (fun x hx=>hb x (by simp [List.mem_of_mem_take hx])) (by rw [List.length_take];omega);refine ⟨this.1,this.2,?_,.inl rfl⟩;simp;omega
theorem xga {r:List Int} (h:r ≠ []):∃ y,r.head? = some y /\ r[0]? = some y:=by
 cases r with
 | nil=>exact absurd rfl h
 | cons y t=>exact ⟨y,rfl,rfl⟩
theorem Read_eq (b:List Int) (hb:By b) (hl:b.length <= 1000000000000):UK b 0 = pure ((rdN b).1,((rdN b).2.1:Int),(rdN b).2.2):=by
 unfold UK;have h0:decide ((b.length:Int) < 0) = false:=by simp
 rw [show decide ((0:Int) < 0) = false from rfl,cond_false,h0,zA,cond_false]
 cases b with
 | nil=>rfl
 | cons n r=>
  have hn:=hb n (by simp);have hr:By r:=fun x hx=>hb x (by simp [hx])
  have h1:decide ((0:Int) = ((n :: r).length:Int)) = false:=by simp;omega
  have hrl:r.length <= 1000000000000:=by simp at hl;omega
  have e1:List.drop (Int.toNat (IntKind.i64.wrap (0 + 1))) (List.take (Int.toNat ((n :: r).length:Int)) (n :: r)) = r:=by
   rw [Yt (by omega) (by omega),Int.toNat_natCast,List.take_length];rfl
  rw [h1,cond_false,WT (y:=n) (by omega) rfl,zA,zC (by rw [Yt (by omega) (by omega)];simp;omega),e1,Yt (n:=n) (by omega) (by omega)];rw [QJ];have hc:(cond (decide (8 < n)) (pure true) (cond (decide (0 < n)) (cond (decide ((0:Int) < (r.length:Int))) ((idx r 0).bind fun x14=>pure (decide (x14 = 0))) (pure false)) (pure false)):M Bool) = pure (decide (8 < n \/ (0 < n /\ r.head? = some 0))):=by
   by_cases c1:8 < n
   ·simp [c1]
   ·by_cases c2:0 < n
    ·by_cases c3:r = []
     ·subst c3;simp [c1,c2]
     ·obtain ⟨y,h5,h6⟩:=xga c3;have c4:0 < r.length:=List.length_pos_iff.2 c3;simp [c1,c2,c4,WT (l:=r) (i:=0) (y:=y) (by omega) h6,h5,zA]
    ·simp [c1,c2]
  rw [hc,zA]
  by_cases c1:8 < n \/ (0 < n /\ r.head? = some 0)
  ·rw [decide_eq_true c1,cond_true,if_pos c1];rfl
  ·rw [decide_eq_false c1,cond_false,if_neg c1]
   by_cases c2:(r.length:Int) < n
   ·rw [decide_eq_true c2,cond_true,if_pos c2];rfl
   ·rw [decide_eq_false c2,cond_false,if_neg c2,zC (by omega)];have e2:List.drop (Int.toNat 0) (List.take (Int.toNat (IntKind.i64.wrap n)) (List.drop (Int.toNat (IntKind.i64.wrap (0 + 1))) (List.take (Int.toNat ((n :: r).length:Int)) (n :: r)))) = r.take n.toNat:=by
     rw [e1,Yt (by omega) (by omega)];rfl
    have hlen:(r.take n.toNat).length = n.toNat:=by rw [List.length_take];omega
    have hloop:=Yu (body:=ua n 0 (n :: r)) (r.take n.toNat) (fun i t=>(t,(i:Int))) (fun v x=>v * 256 + x) (fun t=>pure t) (fun i t=>∃ m:Nat,t = (m:Int) /\ m < 256 ^ i) (fun i x t hx hi hI=>by
     obtain ⟨m,rfl,hm⟩:=hI;have hxr:=(hr.take n.toNat) x (List.mem_of_getElem? hx);have hm7:m < 72057594037927936:=by
      have h3:256 ^ i <= 256 ^ 7:=Nat.pow_le_pow_right (by decide) (by omega);have h4:(256:Nat) ^ 7 = 72057594037927936:=by decide
      omega
     refine ⟨?_,m * 256 + x.toNat,by omega,by rw [Nat.pow_succ];omega⟩;unfold ua;have hd:decide ((i:Int) < ((r.take n.toNat).length:Int)) = true:=by simpa using hi
     simp only [e2,hd,cond_true,zH hx,zA,bor_eq hm7 hxr,yN (show i < 9223372036854775807 by omega)]) (fun t _=>by
     unfold ua;have hd:decide (((r.take n.toNat).length:Int) < ((r.take n.toNat).length:Int)) = false:=by simp
     simp only [e2,hd,cond_false,zA]) 0 ⟨0,rfl,by decide⟩
    have hloop':loop (ua n 0 (n :: r)) (0,0) = pure (jr (r.take n.toNat)):=hloop;rw [hloop',zA,Yt (n:=0 + 1) (by omega) (by omega),Yt (by omega) (by omega)];have:((0:Int) + 1 + n) = ((n.toNat + 1:Nat):Int):=by omega
    rw [this]

theorem be_val (n:Nat):∀ k,jr (be n k) = ((n % 256 ^ k:Nat):Int):=by
 intro k;have key:∀ (k v:Nat),(be n k).foldl (fun v x=>v * 256 + x) (v:Int) = ((v * 256 ^ k + n % 256 ^ k:Nat):Int):=by
  intro k
  induction k with
  | zero=>intro v;simp [be,Nat.mod_one]
  | succ k ih=>
   intro v;rw [be,List.foldl_cons,show (v:Int) * 256 + uq n k = ((v * 256 + n / 256 ^ k % 256:Nat):Int) by unfold uq;omega,ih]
   congr 1
   have h1:n % 256 ^ (k + 1) = 256 ^ k * (n / 256 ^ k % 256) + n % 256 ^ k:=by
    rw [Nat.pow_succ,Nat.mod_mul];omega
   rw [h1,Nat.add_mul,Nat.pow_succ,Nat.mul_comm (256 ^ k) (n / 256 ^ k % 256),Nat.add_assoc]
   congr 1
   rw [Nat.mul_comm (256 ^ k) 256,Nat.mul_assoc]
 have:=key k 0;simpa [jr] using this
theorem be_head {n:Nat} (h:Yv n ≠ 0):(be n (Yv n)).head? ≠ some 0:=by
 obtain ⟨k,hk⟩:∃ k,Yv n = k + 1:=⟨Yv n - 1,by omega⟩
 rw [hk,be,List.head?_cons];intro e;have h1:uq n k = 0:=by injection e
 unfold uq at h1;have h2:=v9a n;rw [hk,Nat.pow_succ] at h2;have hp:0 < 256 ^ k:=Nat.pow_pos (by decide);have h4:n / 256 ^ k < 256:=(Nat.div_lt_iff_lt_mul hp).2 (by rw [Nat.mul_comm];exact h2);have h3:n / 256 ^ k = 0:=by
  generalize n / 256 ^ k = q at h1 h4 ⊢
  omega
 have h5:n < 256 ^ k:=by
  rcases Nat.div_eq_zero_iff.1 h3 with h | h
  ·omega
  ·exact h
 have:=QI k n h5;omega
theorem rdN_enc {v:Int} (h0:0 <= v) (h:v <= 18446744073709551615) (r:List Int):rdN (ya v ++ r) = (v,(ya v).length,0):=by
 have h8:=zea (n:=v.toNat) (by omega);have hl:=uBa v.toNat (Yv v.toNat);have hv:=be_val v.toNat (Yv v.toNat);rw [Nat.mod_eq_of_lt (v9a _)] at hv;show rdN ((Yv v.toNat:Int) :: (be v.toNat (Yv v.toNat) ++ r)) = _;rw [QJ,if_neg,if_neg (by rw [List.length_append];omega)]
 ·rw [Int.toNat_natCast,List.take_append_of_le_length (by omega),List.take_of_length_le (by omega),hv];simp [ya,zga,hl];omega
 ·intro hc;rcases hc with hc | ⟨hc1,hc2⟩
  ·omega
  ·have hne:Yv v.toNat ≠ 0:=by omega
   refine be_head hne ?_;rw [List.head?_append] at hc2;obtain ⟨y,h5,_⟩:=xga (r:=be v.toNat (Yv v.toNat)) (by intro e;rw [e] at hl;simp at hl;omega);rw [h5] at hc2 ⊢;exact hc2
theorem be_of : ∀ (l:List Int),By l -> ∀ n:Nat,jr l = (n:Int) -> be n l.length = l:=by
 intro l;have key:∀ (m:Nat) (l:List Int),l.length = m -> By l -> ∀ n:Nat,jr l = (n:Int) -> be n l.length = l:=by
  intro m
  induction m with
  | zero=>intro l hl _ n _;have:=List.eq_nil_of_length_eq_zero hl;subst this;rfl
  | succ m ih=>
   intro l hl hb n hn
   cases l with
   | nil=>simp at hl
   | cons x r=>
    have hx:=hb x (by simp);have hr:By r:=fun y hy=>hb y (by simp [hy])
    obtain ⟨q,h1,h2,h3⟩:=jX r 0 0 hr (by decide);obtain ⟨q2,h4,h5,h6⟩:=jX r x.toNat 1 hr (by omega);have hq:jr r = (q:Int):=h1;have hq2:jr (x :: r) = (q2:Int):=by
     rw [jr,List.foldl_cons,<- h4];congr 1;omega
    have hrl:r.length = m:=by simpa using hl
    have e:q2 = n:=by omega
    subst e;have hlin:∀ (l:List Int) (v:Int),l.foldl (fun v x=>v * 256 + x) v = v * 256 ^ l.length + jr l:=by
     intro l
     induction l with
     | nil=>intro v;simp [jr]
     | cons y t iht=>
      intro v;have e:jr (y :: t) = y * 256 ^ t.length + jr t:=by rw [jr,List.foldl_cons,iht];simp
      rw [List.foldl_cons,iht,e,List.length_cons,Int.pow_succ,Int.add_mul,Int.mul_assoc,Int.mul_comm 256,Int.add_assoc]
    have hsum:(q2:Int) = x * 256 ^ r.length + (q:Int):=by
     rw [<- hq,<- hlin r x,<- hq2,jr,List.foldl_cons];congr 1;omega
    have hqlt:q < 256 ^ r.length:=by simpa using h2
    have hnat:q2 = x.toNat * 256 ^ r.length + q:=by
     have:((q2:Nat):Int) = ((x.toNat * 256 ^ r.length + q:Nat):Int):=by
      rw [hsum,Int.natCast_add,Int.natCast_mul,Int.natCast_pow,Int.toNat_of_nonneg hx.1];rfl
     exact Int.ofNat.inj this
    have hp:0 < 256 ^ r.length:=Nat.pow_pos (by decide);have hdiv:q2 / 256 ^ r.length = x.toNat:=by
     rw [hnat,Nat.mul_comm,Nat.mul_add_div hp,Nat.div_eq_of_lt hqlt,Nat.add_zero]
    rw [List.length_cons,be];have hb1:uq q2 r.length = x:=by unfold uq;rw [hdiv];omega
    rw [hb1]
    congr 1
    have hbe:∀ k,k <= r.length -> be q2 k = be q k:=by
     intro k hk
     induction k with
     | zero=>rfl
     | succ k ihk=>
      rw [be,be,ihk (by omega)]
      congr 1
      show ((q2 / 256 ^ k % 256:Nat):Int) = ((q / 256 ^ k % 256:Nat):Int)
      congr 1
      have hs:256 ^ r.length = 256 ^ k * (256 * 256 ^ (r.length - k - 1)):=by
       rw [<- Nat.pow_succ',<- Nat.pow_add];congr 1;omega
      have hpk:0 < 256 ^ k:=Nat.pow_pos (by decide);rw [hnat,hs,Nat.mul_left_comm,Nat.mul_add_div hpk];rw [Nat.mul_left_comm,Nat.mul_add_mod]
    rw [hbe _ (Nat.le_refl _)];exact ih r hrl hr q hq
 exact key l.length l rfl
theorem rdN_one {b:List Int} (hb:By b) (h:(rdN b).2.2 = 0):b = ya (rdN b).1 ++ b.drop (rdN b).2.1:=by
 rcases jY b hb with (h1 | h1) | ⟨n,r,rfl,h0,h8,hl,hh,h1⟩
 ·rw [h1] at h;simp at h
 ·rw [h1] at h;simp at h
 ·rw [h1];have hr:By r:=fun x hx=>hb x (by simp [hx])
  have hbt:=hr.take n.toNat;have hlt:(r.take n.toNat).length = n.toNat:=by rw [List.length_take];omega
  obtain ⟨q,h2,h3,h4⟩:=jX (r.take n.toNat) 0 0 hbt (by decide);have hq:jr (r.take n.toNat) = (q:Int):=h2;have hbe:=be_of _ hbt q hq;rw [hlt] at hbe;have hlen:Yv q = n.toNat:=by
   apply Nat.le_antisymm
   ·exact QI _ _ (by simpa [hlt] using h3)
   ·rcases Nat.eq_zero_or_pos n.toNat with hz | hz
    ·omega
    ·obtain ⟨k,hk⟩:∃ k,n.toNat = k + 1:=⟨n.toNat - 1,by omega⟩
     rw [hk];refine uAa k q ?_;rw [hk,be] at hbe;have hne:uq q k ≠ 0:=by
      intro e;rw [e] at hbe;refine hh ⟨by omega,?_⟩;have:=congrArg List.head? hbe;rw [List.head?_cons,List.head?_take,if_neg (by omega)] at this;exact this.symm
     unfold uq at hne;have hp:0 < 256 ^ k:=Nat.pow_pos (by decide);rcases Nat.lt_or_ge q (256 ^ k) with hlt2 | hge
     ·rw [Nat.div_eq_of_lt hlt2] at hne;simp at hne
     ·exact hge
  show n :: r = ya (jr (r.take n.toNat)) ++ (n :: r).drop (n.toNat + 1);rw [hq,ya,Int.toNat_natCast,zga,hlen,hbe,List.drop_succ_cons,List.cons_append,List.take_append_drop]
  congr 1;omega

abbrev RS:=List Int × Int
structure Ok (s:RS):Prop where
 by_:By s.1
 len:s.1.length <= 1000000000
 nil:s.2 ≠ 0 -> s.1 = []
def vU (e:Int) (s:RS):RS:=if s.2 = 0 /\ e ≠ 0 then ([],e) else s
def zO (s:RS):Int × RS:=if s.2 ≠ 0 then (0,s) else if (rdN s.1).2.2 ≠ 0 then (0,vU (rdN s.1).2.2 s) else ((rdN s.1).1,(s.1.drop (rdN s.1).2.1,0))
def zw (m:Int) (s:RS):Int × RS:=if m < (zO s).1 then (0,vU 4 (zO s).2) else zO s
def yq (s:RS):Int × RS:=if s.2 ≠ 0 then (0,s) else match s.1 with | []=>(0,vU 2 s) | x :: r=>(x,(r,0))
def Zh (m:Int) (s:RS):ByteArray × RS:=
 if (zO s).2.2 ≠ 0 then (⟨#[]⟩,(zO s).2) else if max m 0 < (zO s).1 then (⟨#[]⟩,vU 3 (zO s).2) else if ((zO s).2.1.length:Int) < (zO s).1 then (⟨#[]⟩,vU 2 (zO s).2)
 else (Xm ((zO s).2.1.take (zO s).1.toNat),((zO s).2.1.drop (zO s).1.toNat,0))
def Qi (s:RS):Int × RS:=let t:=if 0 < s.1.length then vU 4 s else s;(t.2,t)
theorem Yw {s:RS} (h:Ok s) (e:Int):Ok (vU e s):=by
 unfold vU
 by_cases c:s.2 = 0 /\ e ≠ 0
 ·rw [if_pos c];exact ⟨By.nil,by simp,fun _=>rfl⟩
 ·rw [if_neg c];exact h
theorem xh {s:RS} {e:Int} (h:e ≠ 0):(vU e s).2 ≠ 0:=by
 unfold vU
 by_cases c:s.2 = 0
 ·rw [if_pos ⟨c,h⟩];exact h
 ·rw [if_neg (fun q=>c q.1)];exact c
theorem fail_of {s:RS} (e:Int) (h:s.2 ≠ 0):vU e s = s:=if_neg fun q=>h q.1
theorem num_of {s:RS} (h:s.2 ≠ 0):zO s = (0,s):=if_pos h
theorem ym {s:RS} (h:Ok s):Ok (zO s).2 /\ 0 <= (zO s).1 /\ (zO s).1 <= 18446744073709551615:=by
 unfold zO;have hr:=zha s.1 h.by_
 by_cases c:s.2 ≠ 0
 ·rw [if_pos c];exact ⟨h,by simp,by simp⟩
 ·rw [if_neg c]
  by_cases c2:(rdN s.1).2.2 ≠ 0
  ·rw [if_pos c2];exact ⟨Yw h _,by simp,by simp⟩
  ·rw [if_neg c2];exact ⟨⟨h.by_.drop _,by simp;have:=h.len;omega,fun h=>absurd rfl h⟩,hr.1,hr.2.1⟩
theorem ZL {s:RS} (h:Ok s) {m:Int} (hm:0 <= m):Ok (zw m s).2 /\ 0 <= (zw m s).1 /\ (zw m s).1 <= m:=by
 unfold zw;obtain ⟨h1,h2,h3⟩:=ym h
 by_cases c:m < (zO s).1
 ·rw [if_pos c];exact ⟨Yw h1 _,by simp,hm⟩
 ·rw [if_neg c];exact ⟨h1,h2,by omega⟩
theorem WG {s:RS} (h:Ok s):Ok (yq s).2 /\ 0 <= (yq s).1 /\ (yq s).1 <= 255:=by
 unfold yq
 by_cases c:s.2 ≠ 0
 ·rw [if_pos c];exact ⟨h,by simp,by simp⟩
 ·rw [if_neg c]
  cases hs:s.1 with
  | nil=>exact ⟨Yw h _,by simp,by simp⟩
  | cons x r=>
   have hb:=h.by_;have hl:=h.len;rw [hs] at hb hl;exact ⟨⟨fun y hy=>hb y (by simp [hy]),by simp at hl ⊢;omega,fun h=>absurd rfl h⟩,(hb x (by simp)).1,(hb x (by simp)).2⟩
theorem ok_text {s:RS} (h:Ok s) (m:Int):Ok (Zh m s).2:=by
 unfold Zh;obtain ⟨h1,h2,h3⟩:=ym h
 split
 ·exact h1
 ·split
  ·exact Yw h1 _
  ·split
   ·exact Yw h1 _
   ·exact ⟨h1.by_.drop _,by simp;have:=h1.len;omega,fun h=>absurd rfl h⟩

theorem New_eq (b:List Int) (h:b.length <= 1000000000):XQ b = pure (b,0):=by
 unfold XQ;rw [zC (by omega)]
theorem Xp (b:List Int) (e:Int):zN b e = pure (e,b,e):=rfl
theorem ZM (e:Int) (s:RS):zF e s.1 s.2 = pure (vU e s):=by
 unfold zF vU
 by_cases c:s.2 = 0 <;> by_cases c2:e = 0 <;> simp [c,c2,zA] <;> rw [<- c]
theorem yka (b:List Int) (n:Nat) (e:Int) (h:n <= b.length):yY (n:Int) b e = pure (b.take n,b.drop n,e):=by
 unfold yY;rw [zC (by omega),zC (by omega)];simp
theorem Ya {s:RS} (h:Ok s):zJ s.1 s.2 = pure (zO s):=by
 unfold zJ zO;rw [Xp,zB,zA]
 by_cases c:s.2 = 0
 ·have hr:=zha s.1 h.by_;simp only [c,decide_true,Bool.not_true,cond_false,Read_eq s.1 h.by_ (by have:=h.len;omega),zB,zA,ne_eq,not_true_eq_false,if_false]
  by_cases c2:(rdN s.1).2.2 = 0
  ·simp only [c2,decide_true,Bool.not_true,cond_false,yka s.1 (rdN s.1).2.1 0 hr.2.2.1,zB,zA,not_true_eq_false,if_false]
  ·have:=ZM (rdN s.1).2.2 s;rw [c] at this;simp only [c2,decide_false,Bool.not_false,cond_true,this,zB,zA,not_false_eq_true,if_true]
 ·simp [c]
theorem yla {s:RS} (h:Ok s) (m:Int):yA m s.1 s.2 = pure (zw m s):=by
 unfold yA zw;rw [Ya h,zB,zA]
 by_cases c:m < (zO s).1
 ·rw [decide_eq_true c,cond_true,if_pos c,ZM 4 (zO s).2,zB,zA]
 ·rw [decide_eq_false c,cond_false,if_neg c]
theorem yma (s:RS):yI s.1 s.2 = pure ((s.1.length:Int),s):=by
 unfold yI vt;rw [zB,zA]
theorem UZ {s:RS} (h:Ok s):zd s.1 s.2 = pure (yq s):=by
 unfold zd yq;rw [Xp,zB,zA]
 by_cases c:s.2 = 0
 ·obtain ⟨b,e⟩:=s;simp only at c;subst c;have hL:=yma (b,0);simp only at hL
  cases b with
  | nil=>
   have:=ZM 2 ([],0);simp only at this;simp [hL,zB,zA,this]
  | cons x r=>
   have ht:=yka (x :: r) 1 0 (by simp);simp only [show ((1:Nat):Int) = 1 from rfl] at ht;have hd:decide (((x :: r).length:Int) = 0) = false:=by simp;omega
   simp only [decide_true,Bool.not_true,cond_false,hL,zB,zA,hd,ht];rw [WT (l:=List.take 1 (x :: r)) (i:=0) (y:=x) (by omega) rfl,zA];simp
 ·simp [c]
theorem yna {s:RS} (h:Ok s) {m:Int} (hm:m <= 9223372036854775807):yh m s.1 s.2 = pure (Zh m s):=by
 unfold yh Zh;obtain ⟨h1,h2,h3⟩:=ym h;rw [Ya h,zB,zA,Xp,zB,zA]
 by_cases c:(zO s).2.2 = 0
 ·simp only [c,decide_true,Bool.not_true,cond_false,ne_eq,not_true_eq_false,if_false];rw [WF (n:=max m 0) (by omega) (by omega)]
  by_cases c2:max m 0 < (zO s).1
  ·have hF:=ZM 3 (zO s).2;rw [c] at hF;rw [decide_eq_true c2,cond_true,if_pos c2,hF,zB,zA]
  ·have hL:=yma (zO s).2;rw [c] at hL;rw [decide_eq_false c2,cond_false,if_neg c2,hL,zB,zA];have hlen:=h1.len;rw [WF (n:=((zO s).2.1.length:Int)) (by omega) (by omega)]
   by_cases c3:((zO s).2.1.length:Int) < (zO s).1
   ·have hF:=ZM 2 (zO s).2;rw [decide_eq_true c3,cond_true,if_pos c3,hF,zB,zA]
   ·rw [decide_eq_false c3,cond_false,if_neg c3,Yt (by omega) (by omega)];have ht:=yka (zO s).2.1 (zO s).1.toNat (zO s).2.2 (by omega);rw [Int.toNat_of_nonneg h2] at ht;rw [ht,zB,zA,c]
 ·simp [c]
theorem End_eq (s:RS):xb s.1 s.2 = pure (Qi s):=by
 unfold xb Qi;rw [yma,zB,zA]
 by_cases c:0 < s.1.length
 ·have:decide ((0:Int) < (s.1.length:Int)) = true:=by simpa using c
  simp only [this,cond_true,ZM,zB,zA,if_pos c,Xp]
 ·have:decide ((0:Int) < (s.1.length:Int)) = false:=by simpa using c
  simp only [this,cond_false,zA,if_neg c,Xp,zB]

theorem uEa (b row:List Int) (h:row.length + b.length <= 100000000000000):yQ b row = pure (row ++ b):=by
 unfold yQ;rw [zC (by omega)]
theorem vF {v:Int} (row:List Int) (h0:0 <= v) (h:v <= 18446744073709551615) (hr:row.length <= 10000000000000):zG v row = pure (row ++ ya v):=by
 unfold zG;have:=zh h;rw [uCa [] h0 h (by simp),zB,zA,List.nil_append,uEa _ _ (by omega),zB,zA]
theorem Bytes_eq (row:List Int) (h:row.length <= 100000000000000):yS row = pure (row,row):=by
 unfold yS;rw [zC (by omega)]
theorem QK (c:Int) (row:List Int) (hr:row.length <= 10000000000000):zo c row = pure (row ++ [c]):=by
 unfold zo;rw [uEa _ _ (by simp;omega),zB,zA]


structure Sim (B:List Int) (a:Int) (s:RS):Prop where
 lo:0 <= a
 hi:a <= B.length
 eq:s.2 = 0 -> s.1 = B.drop a.toNat
structure OkB (B:List Int):Prop where
 by_:By B
 len:B.length <= 1000000000
theorem Sim.start (B:List Int):Sim B 0 (B,0):=⟨Int.le_refl _,by omega,fun _=>rfl⟩
theorem OkB.ok {B:List Int} (h:OkB B):Ok (B,0):=⟨h.by_,h.len,fun h=>absurd rfl h⟩
theorem Sim.bad {B:List Int} {a:Int} {s t:RS} (h:Sim B a s) (ht:t.2 ≠ 0):Sim B a t:=⟨h.lo,h.hi,fun h2=>absurd h2 ht⟩
variable {B:List Int} {a:Int} {s:RS}
end Go.Ep.M.N

namespace Go.Ep.M.D
open Go

theorem JY {a b:DT}:za a b = true ↔ a.dev < b.dev \/ (a.dev = b.dev /\ a.n < b.n):=by simp [za]
theorem xha (a:DT):za a a = false:=by
 cases h:za a a with
 | false=>rfl
 | true=>rw [JY] at h;omega
theorem Xc {a b c:DT} (h1:za a b = true) (h2:za b c = true):za a c = true:=by rw [JY] at *;omega
theorem yoa {a b:DT} (h:za a b = true):za b a = false:=by
 cases h2:za b a with
 | false=>rfl
 | true=>rw [JY] at h h2;omega
theorem xia {a b:DT} (h1:za a b = false) (h2:za b a = false):a = b:=by
 have h3:¬ (za a b = true):=by simp [h1]
 have h4:¬ (za b a = true):=by simp [h2]
 rw [JY] at h3 h4
 cases a;cases b
 simp only [DT.mk.injEq] at *
 omega
abbrev Srt (l:List DT):Prop:=l.Pairwise fun x y=>za x y = true
theorem ypa : ∀ {l l':List DT},Srt l -> Srt l' -> (∀ d,d ∈ l ↔ d ∈ l') -> l = l'
 | [],[],_,_,_=>rfl
 | [],y :: r,_,_,h=>by have:=(h y).2 (by simp);simp at this
 | x :: r,[],_,_,h=>by have:=(h x).1 (by simp);simp at this
 | x :: r,y :: t,h1,h2,h=>by
  have hx:=(h x).1 (by simp);have hy:=(h y).2 (by simp);have e:x = y:=by
   rcases List.mem_cons.1 hx with e | hx
   ·exact e
   ·rcases List.mem_cons.1 hy with e | hy
    ·exact e.symm
    ·have a1:=(List.pairwise_cons.1 h2).1 x hx;have a2:=(List.pairwise_cons.1 h1).1 y hy;rw [yoa a1] at a2;cases a2
  subst e
  congr 1
  refine ypa (List.pairwise_cons.1 h1).2 (List.pairwise_cons.1 h2).2 fun d=>?_
  have h3:=h d;simp only [List.mem_cons] at h3
  constructor
  ·intro hd;rcases h3.1 (.inr hd) with e | h4
   ·have:=(List.pairwise_cons.1 h1).1 d hd;rw [e,xha] at this;cases this
   ·exact h4
  ·intro hd;rcases h3.2 (.inr hd) with e | h4
   ·have:=(List.pairwise_cons.1 h2).1 d hd;rw [e,xha] at this;cases this
   ·exact h4

def Qj (s:List DT) (d:DT):List DT:=(s.filter fun x=>za x d) ++ [d] ++ (s.filter fun x=>za d x)
theorem ins_mem {s:List DT} {d x:DT}:x ∈ Qj s d ↔ x = d \/ x ∈ s:=by
 simp only [Qj,List.mem_append,List.mem_filter,List.mem_singleton]
 constructor
 ·rintro ((h | h) | h)
  ·exact .inr h.1
  ·exact .inl h
  ·exact .inr h.1
 ·rintro (h | h)
  ·exact .inl (.inr h)
  ·cases h1:za x d with
   | true=>exact .inl (.inl ⟨h,rfl⟩)
   | false=>
    cases h2:za d x with
    | true=>exact .inr ⟨h,rfl⟩
    | false=>exact .inl (.inr (xia h1 h2))
theorem ins_srt {s:List DT} (h:Srt s) (d:DT):Srt (Qj s d):=by
 unfold Srt Qj;rw [List.pairwise_append,List.pairwise_append];refine ⟨⟨h.filter _,by simp,fun a ha b hb=>?_⟩,h.filter _,fun a ha b hb=>?_⟩
 ·rw [List.mem_singleton.1 hb];exact (List.mem_filter.1 ha).2
 ·have hb:=(List.mem_filter.1 hb).2;rcases List.mem_append.1 ha with ha | ha
  ·exact Xc (List.mem_filter.1 ha).2 hb
  ·rw [List.mem_singleton.1 ha];exact hb
theorem QL (s:List DT) (d:DT):(Qj s d).length <= s.length + 1:=by
 unfold Qj;have h:∀ l:List DT,(l.filter fun x=>za x d).length + (l.filter fun x=>za d x).length <= l.length:=by
  intro l
  induction l with
  | nil=>simp
  | cons x r ih=>
   cases h1:za x d with
   | true=>simp [h1,yoa h1];omega
   | false=>
    cases h2:za d x with
    | true=>simp [h1,h2];omega
    | false=>simp [h1,h2];omega
 have:=h s;simp;omega
def xx (l:List DT):List DT:=l.foldl Qj []
theorem Ua : ∀ (l s:List DT),Srt s -> Srt (l.foldl Qj s) /\ (∀ d,d ∈ l.foldl Qj s ↔ d ∈ s \/ d ∈ l) /\ (l.foldl Qj s).length <= s.length + l.length
 | [],s,h=>⟨h,by simp,by simp⟩
 | x :: r,s,h=>by
  obtain ⟨h1,h2,h3⟩:=Ua r (Qj s x) (ins_srt h x);refine ⟨h1,fun d=>?_,?_⟩
  ·rw [List.foldl_cons,h2 d,ins_mem,List.mem_cons]
   constructor
   ·rintro ((h | h) | h)
    ·exact .inr (.inl h)
    ·exact .inl h
    ·exact .inr (.inr h)
   ·rintro (h | h | h)
    ·exact .inl (.inr h)
    ·exact .inl (.inl h)
    ·exact .inr h
  ·have:=QL s x;rw [List.foldl_cons,List.length_cons];omega
theorem xja (l:List DT):Srt (xx l):=(Ua l [] List.Pairwise.nil).1
theorem QM {l:List DT} {d:DT}:d ∈ xx l ↔ d ∈ l:=by simpa [xx] using (Ua l [] List.Pairwise.nil).2.1 d
theorem Ub (l:List DT):(xx l).length <= l.length:=by simpa [xx] using (Ua l [] List.Pairwise.nil).2.2
theorem uFa {l:List DT} (h:Srt l):xx l = l:=ypa (xja l) h fun _=>QM
theorem yqa (s:List DT) (d:DT) (h:s.length <= 1000000000000):Yl s d = pure (Qj s d):=V.VZ s d h

def ddS (out:List DT) (x:DT):List DT:=if out.getLast? = some x then out else out ++ [x]
def dd (l:List DT):List DT:=l.foldl ddS []
theorem jZ (l:List DT) (x:DT):dd (l ++ [x]) = ddS (dd l) x:=by simp [dd]
theorem yra (l:List DT):(dd l).getLast? = l.getLast?:=by
 rcases R.yZ l with rfl | ⟨r,y,rfl⟩
 ·rfl
 ·rw [jZ];unfold ddS
  by_cases c:(dd r).getLast? = some y
  ·rw [if_pos c,c];simp
  ·rw [if_neg c];simp
theorem dd_mem {l:List DT} {d:DT}:d ∈ dd l ↔ d ∈ l:=by
 have:∀ (l s:List DT),d ∈ l.foldl ddS s ↔ d ∈ s \/ d ∈ l:=by
  intro l
  induction l with
  | nil=>intro s;simp
  | cons x r ih=>
   intro s;rw [List.foldl_cons,ih];have h2:d ∈ ddS s x ↔ d ∈ s \/ d = x:=by
    unfold ddS
    split
    ·rename_i h
     exact ⟨.inl,fun h3=>h3.elim id fun e=>by rw [e];exact List.mem_of_getLast? h⟩
    ·simp
   rw [h2,List.mem_cons];exact or_assoc
 simpa [dd] using this l []
theorem dd_srt {l:List DT} (h:l.Pairwise fun x y=>za y x = false):Srt (dd l):=by
 have:∀ (n:Nat) (l:List DT),l.length = n -> (l.Pairwise fun x y=>za y x = false) -> Srt (dd l):=by
  intro n
  induction n with
  | zero=>intro l hl _;have:=List.eq_nil_of_length_eq_zero hl;subst this;exact List.Pairwise.nil
  | succ n ih=>
   intro l hl h;rcases R.yZ l with rfl | ⟨r,y,rfl⟩
   ·simp at hl
   ·rw [List.pairwise_append] at h;have hr:=ih r (by simpa using hl) h.1;rw [jZ];unfold ddS
    split
    ·exact hr
    ·rename_i hne
     unfold Srt;rw [List.pairwise_append];refine ⟨hr,by simp,fun a ha b hb=>?_⟩;rw [List.mem_singleton.1 hb];have ha':=dd_mem.1 ha;have h1:=h.2.2 a ha' y (by simp)
     cases h2:za a y with
     | true=>rfl
     | false=>
      exfalso;have e:=xia h2 h1;subst e;rw [yra] at hne;rcases R.yZ r with rfl | ⟨q,z,rfl⟩
      ·simp at ha'
      ·have hz:za a z = false:=h.2.2 z (by simp) a (by simp);rcases List.mem_append.1 ha' with h5 | h5
       ·have h6:za z a = false:=by
         have:=(List.pairwise_append.1 h.1).2.2 a h5 z (by simp);exact this
        have:=xia hz h6;subst this;simp at hne
       ·rw [List.mem_singleton.1 h5] at hne;simp at hne
 exact this l.length l rfl h

theorem Clone_eq (l:List DT) (h:l.length <= 1000000000000):yM l = pure l:=by
 unfold yM;refine Zq ⟨⟨false,fun h=>by cases h⟩,fun b hb=>?_⟩
 cases b with
 | true=>show ([]:List DT) = l;exact (hb rfl).symm
 | false=>
  show _ /\ ([] ++ l = l)
  exact ⟨by simp;omega,List.nil_append l⟩
theorem ysa (x y:DT):(decide (x.dev = y.dev) && decide (x.n = y.n)) = decide (x = y):=by
 cases x;cases y;simp [Bool.decide_and]
theorem Yx {l:List DT} {m:Nat} {x:DT} (h:l[m]? = some x):l.take (m + 1) = l.take m ++ [x]:=by
 rw [List.take_add_one,h];rfl
theorem zia {l:List DT} {m:Nat} {x:DT} (h:l[m]? = some x):(l.take (m + 1)).getLast? = some x:=by rw [Yx h];simp
theorem Vi (s:List DT) (k:Nat) (hk:k < s.length) (hl:s.length <= 1000000000000):∀ (d k2 kk:Nat) (v:List DT),k + k2 + d = s.length -> 1 <= k2 -> v.length = s.length -> kk + 1 <= k + k2 -> v.take kk = dd (s.take (k + k2)) -> v.drop (k + k2 - 1) = s.drop (k + k2 - 1) ->
  ∃ (kk':Nat) (v':List DT),loop (ze s (k:Int)) ((kk:Int),(k2:Int),v) = pure ((kk':Int),v') /\ v'.length = s.length /\ kk' <= s.length /\ v'.take kk' = dd s
 | 0,k2,kk,v,hd,h1,hv,hkk,ht,_=>by
  refine ⟨kk,v,zV ?_,hv,by omega,by rw [ht,show k + k2 = s.length by omega,List.take_length]⟩;unfold ze;have:decide ((k2:Int) < (((s.length - (k:Int).toNat:Nat)):Int)) = false:=by simp;omega
  simp only [this,cond_false]
 | d + 1,k2,kk,v,hd,h1,hv,hkk,ht,hdr=>by
  have hvg:∀ j,k + k2 - 1 <= j -> v[j]? = s[j]?:=fun j hj=>by
   have:=congrArg (fun l=>l[j - (k + k2 - 1)]?) hdr;simp only [List.getElem?_drop] at this;rw [show k + k2 - 1 + (j - (k + k2 - 1)) = j by omega] at this;exact this
  obtain ⟨x,hx⟩:∃ x,s[k + k2]? = some x:=⟨_,List.getElem?_eq_getElem (by omega)⟩
  obtain ⟨y,hy⟩:∃ y,s[k + k2 - 1]? = some y:=⟨_,List.getElem?_eq_getElem (by omega)⟩
  have hlast:(dd (s.take (k + k2))).getLast? = some y:=by
   rw [yra];have:=zia hy
   rwa [show k + k2 - 1 + 1 = k + k2 by omega] at this
  have hdd:dd (s.take (k + k2 + 1)) = if y = x then dd (s.take (k + k2)) else dd (s.take (k + k2)) ++ [x]:=by
   rw [Yx hx,jZ];unfold ddS;rw [hlast]
   by_cases c:y = x
   ·rw [if_pos c,if_pos (by rw [c])]
   ·rw [if_neg c,if_neg (by intro e;exact c (Option.some.inj e))]
  have hb:ze s (k:Int) ((kk:Int),(k2:Int),v) = pure (.next (if y = x then ((kk:Int),((k2 + 1:Nat):Int),v) else (((kk + 1:Nat):Int),((k2 + 1:Nat):Int),v.set kk x))):=by
   unfold ze;have hc:decide ((k2:Int) < (((s.length - (k:Int).toNat:Nat)):Int)) = true:=by simp;omega
   have e1:IntKind.i64.wrap ((k2:Int) - 1) = ((k2 - 1:Nat):Int):=by rw [Yt (by omega) (by omega)];omega
   have i1:idx v ((((k:Int).toNat + (k2:Int).toNat:Nat)):Int) = pure x:=zH (by rw [Int.toNat_natCast,Int.toNat_natCast,hvg _ (by omega)];exact hx);have i2:idx v ((((k:Int).toNat + (((k2 - 1:Nat):Int)).toNat:Nat)):Int) = pure y:=zH (by rw [Int.toNat_natCast,Int.toNat_natCast,hvg _ (by omega),show k + (k2 - 1) = k + k2 - 1 by omega];exact hy);obtain ⟨z,hz⟩:∃ z,v[kk]? = some z:=⟨_,List.getElem?_eq_getElem (by omega)⟩
   have i3:idx v (kk:Int) = pure z:=zH hz;simp only [hc,cond_true,e1];rw [zC (by simp;omega),i1,zA,zC (by simp;omega),i2,zA];simp only [ysa]
   by_cases c:y = x
   ·have c1:decide (x = y) = true:=decide_eq_true c.symm;simp only [c1,Bool.not_true,cond_false,zA,yN (show k2 < 9223372036854775807 by omega),if_pos c]
   ·have c1:decide (x = y) = false:=decide_eq_false (fun e=>c e.symm);simp only [c1,Bool.not_false,cond_true,if_neg c];rw [zC (by simp;omega),i3];simp only [zA,yN (show k2 < 9223372036854775807 by omega),yN (show kk < 9223372036854775807 by omega),Int.toNat_natCast]
  by_cases c:y = x
  ·rw [if_pos c] at hb hdd;rw [zT hb];refine Vi s k hk hl d (k2 + 1) kk v (by omega) (by omega) hv (by omega) (by rw [ht,<- hdd];rfl) ?_;have:=congrArg (List.drop 1) hdr;rw [List.drop_drop,List.drop_drop,show k + k2 - 1 + 1 = k + (k2 + 1) - 1 by omega] at this;exact this
  ·rw [if_neg c] at hb hdd;rw [zT hb];refine Vi s k hk hl d (k2 + 1) (kk + 1) (v.set kk x) (by omega) (by omega) (by simpa using hv) (by omega) ?_ ?_
   ·have h5:(v.set kk x)[kk]? = some x:=by rw [List.getElem?_set];simp;omega
    rw [Yx h5,List.take_set,List.set_eq_of_length_le (by rw [List.length_take];omega),ht,<- hdd];rfl
   ·rw [List.drop_set,if_pos (by omega)];have:=congrArg (List.drop 1) hdr;rw [List.drop_drop,List.drop_drop,show k + k2 - 1 + 1 = k + (k2 + 1) - 1 by omega] at this;exact this
theorem wea (s:List DT) (hl:s.length <= 1000000000000):zn s = pure (dd s):=by
 unfold zn
 by_cases h2:s.length < 2
 ·have:decide ((s.length:Int) < 2) = true:=by simp;omega
  rw [this,cond_true]
  match s,h2 with
  | [],_=>rfl
  | [x],_=>rfl
 ·have:decide ((s.length:Int) < 2) = false:=by simp;omega
  rw [this,cond_false];have key:∀ d k,k + d = s.length -> 1 <= k -> dd (s.take k) = s.take k -> (loop (zf s) (k:Int)).bind (exk fun _=>pure s) = pure (dd s):=by
   intro d
   induction d with
   | zero=>
    intro k hk h1 hd;rw [zV (r:=.brk ()) (by
     unfold zf;have:decide ((k:Int) < (s.length:Int)) = false:=by simp;omega
     simp only [this,cond_false])]
    rw [show k = s.length by omega,List.take_length] at hd;show pure s = pure (dd s);rw [hd]
   | succ d ih=>
    intro k hk h1 hd;obtain ⟨x,hx⟩:∃ x,s[k]? = some x:=⟨_,List.getElem?_eq_getElem (by omega)⟩
    obtain ⟨y,hy⟩:∃ y,s[k - 1]? = some y:=⟨_,List.getElem?_eq_getElem (by omega)⟩
    have hlast:(dd (s.take k)).getLast? = some y:=by
     rw [yra];have:=zia hy
     rwa [show k - 1 + 1 = k by omega] at this
    have hc:decide ((k:Int) < (s.length:Int)) = true:=by simp;omega
    have i1:idx s (k:Int) = pure x:=zH hx;have i2:idx s (IntKind.i64.wrap ((k:Int) - 1)) = pure y:=by
     rw [Yt (by omega) (by omega)];exact WT (by omega) (by rw [show ((k:Int) - 1).toNat = k - 1 by omega];exact hy)
    by_cases c:x = y
    ·subst c;obtain ⟨kk,v,h5,h6,h7,h8⟩:=Vi s k (by omega) hl d 1 k s (by omega) (by omega) rfl (by omega) (by
      rw [Yx hx,jZ,ddS,if_pos hlast,hd]) (by rw [show k + 1 - 1 = k by omega])
     rw [zV (r:=.ret (dd s)) (by
      unfold zf;simp only [hc,cond_true,i1,i2,zA,ysa,decide_true];rw [zC (by omega),show (1:Int) = ((1:Nat):Int) from rfl,h5,zA];simp only [];rw [zC (by omega),zC (by simp;omega),zC (by
       simp only [List.length_append,List.length_take,List.length_replicate,List.length_drop,Int.toNat_natCast];omega),zA,wn]
      congr 3
      rw [Int.toNat_natCast,List.append_assoc,List.take_append_of_le_length (by rw [List.length_take];omega),List.take_take,Nat.min_self,h8])]
     rfl
    ·have c1:decide (x = y) = false:=decide_eq_false c;rw [zT (s':=((k + 1:Nat):Int)) (by
      unfold zf;simp only [hc,cond_true,i1,i2,zA,ysa,c1,cond_false,wV,yN (show k < 9223372036854775807 by omega)])]
     refine ih (k + 1) (by omega) (by omega) ?_;rw [Yx hx,jZ,ddS,if_neg (by rw [hlast];intro e;exact c (Option.some.inj e).symm),hd]
  have:=key (s.length - 1) 1 (by omega) (by omega) (by
   obtain ⟨x,r,rfl⟩:∃ x r,s = x :: r:=by
    cases s with
    | nil=>simp at h2
    | cons x r=>exact ⟨x,r,rfl⟩
   rfl)
  exact this
theorem vya {l:List DT} {Q:List DT -> Prop} (h:∀ s,s.Perm l -> (s.Pairwise fun x y=>za y x = false) -> Q s):(srt za l).wp Q:=by
 refine ⟨⟨l.mergeSort (fun x y=>!za y x),List.mergeSort_perm _ _,?_⟩,fun s ⟨h1,h2⟩=>h s h1 h2⟩;refine (List.pairwise_mergeSort (fun a b c h1 h2=>?_) (fun a b=>?_) l).imp fun {x y} h=>by simpa using h
 ·simp only [Bool.not_eq_true'] at h1 h2 ⊢
  cases h3:za c a with
  | false=>rfl
  | true=>
   rw [JY] at h3;have h4:¬ (za b a = true):=by simp [h1]
   have h5:¬ (za c b = true):=by simp [h2]
   rw [JY] at h4 h5;omega
 ·cases h1:za b a with
  | false=>rfl
  | true=>rw [yoa h1];rfl
theorem yta (l:List DT) (h:l.length <= 1000000000000):XJ l = pure (xx l):=by
 unfold XJ;rw [Clone_eq l h,zB,zA,zC (by omega)];refine Zq (vya fun s hs hp=>?_);show (bind (det (zn s)) fun y8=>pure y8).wp _;rw [wea s (by rw [hs.length_eq];exact h),zB,zA];exact ypa (dd_srt hp) (xja l) fun d=>by rw [dd_mem,QM];exact hs.mem_iff

theorem cmp16_eq (x y:Int):xH x y = pure (R.vza x y):=by
 unfold xH wH R.vza;simp only [decide_true,Bool.not_true,zB,zA,cond_false,vC]
 split
 ·rfl
 ·split <;> rfl
theorem JZ (a b:DT):vL a b = pure (V.yCa a b):=by
 unfold vL;rw [cmp16_eq,zB,zA,R.v0a,zB,zA];unfold V.yCa R.vza
 cases a with | mk d n=>cases b with | mk e m=>
 simp only [DT.mk.injEq,za]
 by_cases h1:d < e
 ·have:¬ d = e:=by omega
  simp [h1,this]
 ·by_cases h2:e < d
  ·have:¬ d = e:=by omega
   simp [h1,h2,this]
  ·have h3:d = e:=by omega
   subst h3
   by_cases h4:n < m
   ·have:¬ n = m:=by omega
    simp [h4,this]
   ·by_cases h5:m < n
    ·have:¬ n = m:=by omega
     simp [h4,h5,this]
    ·have:n = m:=by omega
     simp [this]


theorem QN {σ ρ ε:Type} {body:σ -> M (Step σ ρ)} (l:List ε) (f:ε -> List Int) (row:List Int) (N:Nat) (mk:Nat -> List Int -> σ) (g:List Int -> M ρ) (hN:row.length + (l.flatMap f).length <= N)
  (h1:∀ (i:Nat) (x:ε) (out:List Int),l[i]? = some x -> i < l.length -> out.length + (f x).length <= N -> body (mk i out) = pure (.next (mk (i + 1) (out ++ f x))))
  (h2:∀ out,body (mk l.length out) = (g out).bind fun r=>pure (.done r)):loop body (mk 0 row) = g (row ++ l.flatMap f):=by
 have key:∀ (k i:Nat) (out:List Int),i + k = l.length -> out.length + ((l.drop i).flatMap f).length <= N -> loop body (mk i out) = g (out ++ (l.drop i).flatMap f):=by
  intro k
  induction k with
  | zero=>
   intro i out hi _;have:i = l.length:=by omega
   subst this;rw [Um,h2,List.drop_length];simp only [List.flatMap_nil,List.append_nil]
   rfl
  | succ k ih=>
   intro i out hi hl;have hlt:i < l.length:=by omega
   rw [List.drop_eq_getElem_cons hlt,List.flatMap_cons,List.length_append] at hl;rw [zT (h1 i l[i] out (List.getElem?_eq_getElem hlt) hlt (by omega)),ih (i + 1) _ (by omega) (by rw [List.length_append];omega),List.drop_eq_getElem_cons hlt,List.flatMap_cons,List.append_assoc]
 simpa using key l.length 0 row (by omega) (by simpa using hN)
theorem VB {ε:Type} (l:List ε) (f:ε -> List Int) (k:Nat) (h:∀ x ∈ l,(f x).length <= k):(l.flatMap f).length <= k * l.length:=by
 induction l with
 | nil=>simp
 | cons x r ih=>
  have h1:=h x (by simp);have h2:=ih fun y hy=>h y (by simp [hy])
  rw [List.flatMap_cons,List.length_append,List.length_cons,Nat.mul_add];omega

structure OkD (d:DT):Prop where
 d0:0 <= d.dev
 d1:d.dev <= 65535
 n0:0 <= d.n
 n1:d.n <= 18446744073709551615
def encD (d:DT):List Int:=N.ya d.dev ++ N.ya d.n
theorem Uc {d:DT} (h:OkD d):(encD d).length <= 18:=by
 have h1:=N.zh (v:=d.dev) (by have:=h.d1;omega);have h2:=N.zh (v:=d.n) h.n1;rw [encD,List.length_append];omega
theorem zja {d:DT} (h:OkD d) (row:List Int) (hr:row.length <= 1000000000000):xr d row = pure (row ++ encD d):=by
 have h1:=N.zh (v:=d.dev) (by have:=h.d1;omega);unfold xr;rw [WF h.d0 (by have:=h.d1;omega),N.vF row h.d0 (by have:=h.d1;omega) (by omega),zB,zA,N.vF _ h.n0 h.n1 (by rw [List.length_append];omega),zB,zA,encD,List.append_assoc]
def ux (l:List DT):List DT:=l.filter V.yF
def uM (l:List DT):List Int:=N.ya (xx (ux l)).length ++ (xx (ux l)).flatMap encD
theorem uGa (l : List DT) (hl : l.length <= 1000000000000) : loop (yg l) (0, []) = pure (ux l) := by
  have := Yu (body := yg l) l (fun i t => ((i : Int), t)) (fun t d => if V.yF d = true then t ++ [d] else t) (fun t => pure t) (fun i t => t.length <= i) (fun i x t hx hi hI => by
    have hd : decide ((i : Int) < (l.length : Int)) = true := by simpa using hi
    refine ⟨?_, by split
                   · simp; omega
                   · omega⟩
    unfold yg;simp only [hd, cond_true, zH hx, zA, V.ul, zB, yN (show i < 9223372036854775807 by omega)]
    by_cases c : V.yF x = true
    · rw [c, cond_true, zC (by simp; omega), zA, if_pos rfl]
    · simp only [Bool.not_eq_true] at c;rw [c, cond_false, zA]; rfl) (fun t _ => by
    unfold yg;simp [zA]) [] (by simp)
  rw [show (0 : Int) = ((0 : Nat) : Int) from rfl, this]
  congr 1
  have key : ∀ (l t : List DT), l.foldl (fun t d => if V.yF d = true then t ++ [d] else t) t = t ++ ux l := by
    intro l
    induction l with
    | nil => intro t; simp [ux]
    | cons x r ih =>
      intro t;rw [List.foldl_cons, ih];unfold ux
      by_cases c : V.yF x = true
      · rw [if_pos c, List.filter_cons_of_pos c, List.append_assoc]; rfl
      · rw [if_neg c, List.filter_cons_of_neg c]
  simpa using key l []
theorem xka {l:List DT} {d:DT}:d ∈ xx (ux l) ↔ d ∈ l /\ V.yF d = true:=by rw [QM,ux,List.mem_filter]
theorem Ud (l:List DT):(xx (ux l)).length <= l.length:=Nat.le_trans (Ub _) (List.length_filter_le _ _)
theorem QO {l:List DT} (h:∀ d ∈ l,OkD d):∀ d ∈ xx (ux l),OkD d:=fun d hd=>h d (xka.1 hd).1
theorem uHa {l:List DT} (h:∀ d ∈ l,OkD d) (hl:l.length <= 1000000000000):(uM l).length <= 9 + 18 * l.length:=by
 have h1:=N.zh (v:=((xx (ux l)).length:Int)) (by have:=Ud l;omega);have h2:=VB (xx (ux l)) encD 18 fun x hx=>Uc (QO h x hx)
 have h3:=Ud l;rw [uM,List.length_append];omega
theorem wfa {l:List DT} (h:∀ d ∈ l,OkD d) (hl:l.length <= 1000000000) (row:List Int) (hr:row.length <= 100000000000):wx l row = pure (row ++ uM l):=by
 have h3:=Ud l;have h1:=N.zh (v:=((xx (ux l)).length:Int)) (by omega);have h2:=VB (xx (ux l)) encD 18 fun x hx=>Uc (QO h x hx)
 unfold wx;rw [uGa l (by omega),zA,yta _ (by have:=List.length_filter_le V.yF l;unfold ux;omega),zB,zA,WF (by omega) (by omega),N.vF row (by omega) (by omega) (by omega),zB,zA];have:=QN (body:=xJ (xx (ux l))) (xx (ux l)) encD (row ++ N.ya ((xx (ux l)).length:Int)) 1000000000000 (fun i out=>((i:Int),out)) (fun t=>pure t) (by rw [List.length_append];omega) (fun i x out hx hi ho=>by
  have hd:decide ((i:Int) < ((xx (ux l)).length:Int)) = true:=by simpa using hi
  unfold xJ;simp only [hd,cond_true,zH hx,zA,zja (QO h x (List.mem_of_getElem? hx)) out (by omega),zB,yN (show i < 9223372036854775807 by omega)]) (fun out=>by
  unfold xJ;simp [zA])
 rw [show (0:Int) = ((0:Nat):Int) from rfl,this,uM,List.append_assoc]
def jt (x:RN):List Int:=N.ya x.lo ++ N.ya x.hi
def QP (p:PT):List Int:=N.ya p.dev ++ (N.ya p.runs.length ++ p.runs.flatMap jt)
def zga (c:List PT):List Int:=N.ya c.length ++ c.flatMap QP
def Yh (c:List PT):List Int:=zga (C.zk c)
structure OkP (p:PT):Prop where
 d0:0 <= p.dev
 d1:p.dev <= 65535
 r:∀ x ∈ p.runs,(0 <= x.lo /\ x.lo <= 18446744073709551615) /\ 0 <= x.hi /\ x.hi <= 18446744073709551615
theorem xla {x:RN} (h:(0 <= x.lo /\ x.lo <= 18446744073709551615) /\ 0 <= x.hi /\ x.hi <= 18446744073709551615):(jt x).length <= 18:=by
 have h1:=N.zh h.1.2;have h2:=N.zh h.2.2;rw [jt,List.length_append];omega
theorem encP_len {p:PT} (h:OkP p) (hl:p.runs.length <= 1000000000000):(QP p).length <= 18 + 18 * p.runs.length:=by
 have h1:=N.zh (v:=p.dev) (by have:=h.d1;omega);have h2:=N.zh (v:=(p.runs.length:Int)) (by omega);have h3:=VB p.runs jt 18 fun x hx=>xla (h.r x hx)
 rw [QP,List.length_append,List.length_append];omega
theorem zka (c:List PT) (h:∀ p ∈ c,OkP p) (hl:C.yJ c <= 1000000000000):(c.flatMap QP).length <= 18 * c.length + 18 * C.yJ c:=by
 induction c with
 | nil=>simp
 | cons p r ih=>
  have e:C.yJ (p :: r) = p.runs.length + C.yJ r:=by simp [C.yJ]
  have h1:=encP_len (h p (by simp)) (by omega);have h2:=ih (fun q hq=>h q (by simp [hq])) (by omega);rw [List.flatMap_cons,List.length_append,List.length_cons,e];omega
theorem xma {c:List PT} (h:∀ p ∈ c,OkP p) (hc:c.length <= 1000000000000) (hl:C.yJ c <= 1000000000000):(zga c).length <= 9 + 18 * c.length + 18 * C.yJ c:=by
 have h1:=N.zh (v:=(c.length:Int)) (by omega);have h2:=zka c h hl;rw [zga,List.length_append];omega
theorem Ue {c:List PT} (h:∀ p ∈ c,p.dev <= 65535):∀ p ∈ C.zk c,OkP p:=fun p hp=>by
 have h1:=(C.vT c).nf p hp;refine ⟨by omega,?_,fun x hx=>?_⟩
 ·have h2:=(C.vR.1 hp).1;obtain ⟨q,hq,e⟩:=(C.wO.1 h2).1;rw [<- e];exact h q hq
 ·have:=R.zc.1 (h1.2.2.may x hx);omega


theorem VC {c:List PT} (ho:C.Ok c) (h:∀ p ∈ c,p.dev <= 65535) (hs:c.length <= 100000000 /\ C.yJ c <= 100000000) (row:List Int) (hr:row.length <= 100000000000):zx c row = pure (row ++ Yh c):=by
 have hn:=C.un c;have ht:=C.uo c;have hp:=Ue h;have hl:=xma hp (by omega) (by omega);have h9:=N.zh (v:=((C.zk c).length:Int)) (by omega);have hf:=zka (C.zk c) hp (by omega);unfold zx;rw [C.yia c ho.sm,zB,zA,WF (by omega) (by omega),N.vF row (by omega) (by omega) (by omega),zB,zA];have:=QN (body:=xZ (C.zk c)) (C.zk c) QP (row ++ N.ya ((C.zk c).length:Int)) 1000000000000 (fun i out=>((i:Int),out)) (fun t=>pure t) (by rw [List.length_append];omega) (fun i p out hx hi hout=>by
  have hd:decide ((i:Int) < ((C.zk c).length:Int)) = true:=by simpa using hi
  have hm:=List.mem_of_getElem? hx;have hpp:=hp p hm;have hrl:p.runs.length <= 1000000000:=by have:=C.JX p hm;omega
  have e1:=N.zh (v:=p.dev) (by have:=hpp.d1;omega);have e2:=N.zh (v:=(p.runs.length:Int)) (by omega);have e3:=VB p.runs jt 18 fun x hx=>xla (hpp.r x hx)
  unfold xZ;simp only [hd,cond_true,zH hx,zA];rw [WF hpp.d0 (by have:=hpp.d1;omega),N.vF out hpp.d0 (by have:=hpp.d1;omega) (by omega),zB,zA,WF (by omega) (by omega),N.vF _ (by omega) (by omega) (by rw [List.length_append];omega),zB,zA];have:=QN (body:=xY p) p.runs jt (out ++ N.ya p.dev ++ N.ya (p.runs.length:Int)) 2000000000000 (fun i out=>((i:Int),out)) (fun t=>pure t) (by rw [List.length_append,List.length_append];omega) (fun j x out2 hx2 hj hout2=>by
   have hd2:decide ((j:Int) < (p.runs.length:Int)) = true:=by simpa using hj
   have hxr:=hpp.r x (List.mem_of_getElem? hx2);have e4:=N.zh hxr.1.2;unfold xY;simp only [hd2,cond_true,zH hx2,zA];rw [N.vF out2 hxr.1.1 hxr.1.2 (by omega),zB,zA,N.vF _ hxr.2.1 hxr.2.2 (by rw [List.length_append];omega),zB,zA,yN (show j < 9223372036854775807 by omega),jt,List.append_assoc]) (fun out=>by
   unfold xY;simp [zA])
  rw [show (0:Int) = ((0:Nat):Int) from rfl,this,zA,yN (show i < 9223372036854775807 by omega),QP];simp only [List.append_assoc]) (fun out=>by
  unfold xZ;simp [zA])
 rw [show (0:Int) = ((0:Nat):Int) from rfl,this,Yh,zga,List.append_assoc]
theorem strL_inj {a b:List Int} (ha:N.By a) (hb:N.By b) (h:Xm a = Xm b):a = b:=by
 have key:∀ (l:List Int) (r:ByteArray),(l.foldl (fun r n=>r.push (UInt8.ofNat n.toNat)) r).data.toList = r.data.toList ++ l.map fun n=>UInt8.ofNat n.toNat:=by
  intro l
  induction l with
  | nil=>intro r;simp
  | cons x t ih=>intro r;rw [List.foldl_cons,ih];simp
 have e:a.map (fun n=>UInt8.ofNat n.toNat) = b.map fun n=>UInt8.ofNat n.toNat:=by
  have h1:=key a ByteArray.empty;have h2:=key b ByteArray.empty;have h3:=congrArg (fun s:ByteArray=>s.data.toList) h;simp only [Xm] at h3;rw [h1,h2] at h3;simpa using h3
 have:∀ (a b:List Int),N.By a -> N.By b -> a.map (fun n=>UInt8.ofNat n.toNat) = b.map (fun n=>UInt8.ofNat n.toNat) -> a = b:=by
  intro a
  induction a with
  | nil=>intro b _ _ h;cases b with
   | nil=>rfl
   | cons=>simp at h
  | cons x t ih=>
   intro b ha hb h
   cases b with
   | nil=>simp at h
   | cons y u=>
    simp only [List.map_cons,List.cons.injEq] at h;have hx:=ha x (by simp);have hy:=hb y (by simp);have e:=congrArg UInt8.toNat h.1;simp only [UInt8.toNat_ofNat'] at e;rw [ih u (fun z hz=>ha z (by simp [hz])) (fun z hz=>hb z (by simp [hz])) h.2]
    congr 1;omega
 exact this a b ha hb e
theorem by_encC (c:List PT) (h:∀ p ∈ C.zk c,OkP p) (hl:(C.zk c).length <= 1000000000000 /\ C.yJ (C.zk c) <= 1000000000000):N.By (Yh c):=by
 have hR:∀ p,OkP p -> ∀ x ∈ p.runs,N.By (jt x):=fun p hp x hx=>(N.uB (hp.r x hx).1.2).app (N.uB (hp.r x hx).2.2)
 have flat:∀ {ε:Type} (l:List ε) (f:ε -> List Int),(∀ x ∈ l,N.By (f x)) -> N.By (l.flatMap f):=fun l f hf y hy=>by
  obtain ⟨x,hx,h⟩:=List.mem_flatMap.1 hy;exact hf x hx y h
 refine (N.uB (by omega)).app (flat _ _ fun p hp=>?_);have hpp:=h p hp;have:=C.JX p hp;exact (N.uB (by have:=hpp.d1;omega)).app ((N.uB (by omega)).app (flat _ _ (hR p hpp)))
open N (RS Ok zO zw vU Qi OkB Sim)

def UB (c:Bool) (s:RS):RS:=if c = true then vU 4 s else s
def fin {α:Type} (z x:α) (t:RS):α × RS:=if t.2 ≠ 0 then (z,t) else (x,t)
theorem Yy (e:Int) (s:RS):(vU e s).1.length <= s.1.length:=by unfold vU;split <;> simp
theorem Vj {s:RS} (h:Ok s) (c:Bool):Ok (UB c s):=by unfold UB;split;exact N.Yw h _;exact h
theorem Vk {c:Bool} {s:RS} (h:(UB c s).2 = 0):c = false /\ s.2 = 0 /\ UB c s = s:=by
 unfold UB at h ⊢
 cases c with
 | true=>exact absurd h (N.xh (by decide))
 | false=>exact ⟨rfl,h,rfl⟩
theorem uIa {s:RS}:(UB true s).2 ≠ 0:=N.xh (by decide)
theorem uS {s:RS}:UB false s = s:=rfl
theorem VD {α:Type} (z x:α) (t:RS):(fin z x t).2 = t:=by unfold fin;split <;> rfl
theorem ja {α:Type} {z x:α} {t:RS} (h:t.2 = 0):fin z x t = (x,t):=if_neg (by simp [h])
theorem Vl {α:Type} {z x:α} {t:RS} (h:t.2 ≠ 0):fin z x t = (z,t):=if_pos h
theorem yua (c:Bool) (s:RS):((cond c ((det (zF 4 s.1 s.2)).bind fun y=>pure (y.1,y.2)) (pure (s.1,s.2))):M RS) = pure (UB c s):=by
 cases c with
 | true=>rw [cond_true,N.ZM,zB,zA];rfl
 | false=>rfl
theorem QQ (c:Bool) (s:RS):((cond (!c) ((det (zF 4 s.1 s.2)).bind fun y=>pure (y.1,y.2)) (pure (s.1,s.2))):M RS) = pure (UB (!c) s):=yua (!c) s
theorem yva {α:Type} (z x:α) (t:RS):((det (zN t.1 t.2)).bind fun y=>(cond (!decide (y.1 = 0)) (pure (z,y.2.1,y.2.2)) (pure (x,y.2.1,y.2.2)):M (α × List Int × Int))) = pure (fin z x t):=by
 rw [N.Xp,zB,zA]
 by_cases h:t.2 = 0
 ·rw [ja h,decide_eq_true h];rfl
 ·rw [Vl h,decide_eq_false h];rfl
theorem VE (s:RS):(zO s).2.1.length <= s.1.length:=by
 unfold zO
 split
 ·exact Nat.le_refl _
 ·split
  ·exact Yy _ _
  ·simp
theorem zla {s:RS} (hO:Ok s) (h0:s.2 = 0) (h:(zO s).2.2 = 0):(zO s).2.1.length + 1 <= s.1.length:=by
 unfold zO at h ⊢;rw [if_neg (by simp [h0])] at h ⊢
 by_cases c:(N.rdN s.1).2.2 = 0
 ·rw [if_neg (by simp [c])];rcases N.jY s.1 hO.by_ with (h1 | h1) | ⟨n,r,h1,h2,h3,h4,_,h5⟩
  ·rw [h1] at c;simp at c
  ·rw [h1] at c;simp at c
  ·rw [h5,h1];simp
 ·rw [if_pos c] at h;exact absurd h (N.xh c)
theorem vd {s:RS} (h:(zO s).2.2 ≠ 0):(zO s).1 = 0:=by
 unfold zO at h ⊢
 by_cases c:s.2 ≠ 0
 ·rw [if_pos c]
 ·rw [if_neg c] at h ⊢
  by_cases c2:(N.rdN s.1).2.2 ≠ 0
  ·rw [if_pos c2]
  ·rw [if_neg c2] at h;exact absurd rfl h
theorem uJa (m:Int) (s:RS):(zw m s).2.1.length <= s.1.length:=by
 have h1:=VE s;have h2:=Yy 4 (zO s).2;unfold zw
 by_cases c:m < (zO s).1
 ·rw [if_pos c];exact Nat.le_trans h2 h1
 ·rw [if_neg c];exact h1
theorem num_bad {s:RS} (h:s.2 ≠ 0):(zO s).2 = s:=by rw [N.num_of h]
theorem Xq {s:RS} (h:(zO s).2.2 = 0):s.2 = 0:=Classical.byContradiction fun c=>by rw [num_bad c] at h;exact c h
theorem QR {m:Int} {s:RS} (h:(zw m s).2.2 = 0):(zO s).2.2 = 0 /\ zw m s = zO s:=by
 unfold zw at h ⊢
 by_cases c:m < (zO s).1
 ·rw [if_pos c] at h;exact absurd h (N.xh (by decide))
 ·rw [if_neg c] at h ⊢;exact ⟨h,rfl⟩

def dotR (s:RS):DT:=⟨(zw 65535 s).1,(zO (zw 65535 s).2).1⟩
def dotT (s:RS):RS:=UB (!V.yF (dotR s)) (zO (zw 65535 s).2).2
def Yg (s:RS):DT × RS:=fin ⟨0,0⟩ (dotR s) (dotT s)
theorem zma {s:RS} (h:Ok s):Ok (Yg s).2 /\ OkD (Yg s).1 /\ OkD (dotR s):=by
 obtain ⟨h1,h2,h3⟩:=N.ZL h (m:=65535) (by decide);obtain ⟨h4,h5,h6⟩:=N.ym h1;have ht:Ok (dotT s):=Vj h4 _;have hr:OkD (dotR s):=⟨h2,h3,h5,h6⟩
 unfold Yg
 by_cases c:(dotT s).2 = 0
 ·rw [ja c];exact ⟨ht,hr,hr⟩
 ·rw [Vl c];exact ⟨ht,⟨Int.le_refl _,by simp,Int.le_refl _,by simp⟩,hr⟩
theorem xna {s:RS} (h:(Yg s).2.2 = 0):V.yF (Yg s).1 = true /\ (zw 65535 s).2.2 = 0 /\ (zO (zw 65535 s).2).2.2 = 0 /\ Yg s = (dotR s,(zO (zw 65535 s).2).2):=by
 unfold Yg at h ⊢;rw [VD] at h;rw [ja h];obtain ⟨h1,h2,h3⟩:=Vk h;refine ⟨by simpa using h1,Xq h2,h2,?_⟩;show (dotR s,dotT s) = _;rw [show dotT s = (zO (zw 65535 s).2).2 from h3]
theorem dot_lt {s:RS} (hO:Ok s) (h0:s.2 = 0) (h:(Yg s).2.2 = 0):(Yg s).2.1.length + 1 <= s.1.length:=by
 obtain ⟨_,h1,h2,h3⟩:=xna h;obtain ⟨h4,h5⟩:=QR h1;rw [h3];have h6:=VE (zw 65535 s).2;rw [h5] at h6 ⊢;have h7:=zla hO h0 h4;exact Nat.le_trans (Nat.add_le_add_right h6 1) h7
theorem Dot_eq {s:RS} (h:Ok s):vN s.1 s.2 = pure (Yg s):=by
 obtain ⟨h1,h2,h3⟩:=N.ZL h (m:=65535) (by decide);unfold vN Yg;rw [N.yla h,zB,zA,N.Ya h1,zB,zA,wU16 h2 h3,V.ul,zB,zA];have e:=QQ (V.yF (dotR s)) (zO (zw 65535 s).2).2;unfold dotR at e;rw [e,zA];exact yva _ _ _
variable {B:List Int} {a:Int} {s:RS}
def Vy (out:List DT) (x:DT):Bool:=match out.getLast? with | some y=>decide (0 <= V.yCa y x) | none=>false
def YR (out:List DT) (s:RS):RS:=UB (Vy out (Yg s).1) (Yg s).2
def zq : Nat -> List DT -> RS -> List DT × RS
 | 0,out,s=>(out,s)
 | k + 1,out,s=>if (YR out s).2 ≠ 0 then ([],YR out s) else zq k (out ++ [(Yg s).1]) (YR out s)
def vG (most:Int) (s:RS):List DT × RS:=if max most 0 < (zO s).1 then ([],vU 3 (zO s).2) else zq (zO s).1.toNat [] (zO s).2
theorem VF {k:Nat} {out:List DT} {s:RS} (h:(YR out s).2 ≠ 0):zq (k + 1) out s = ([],YR out s):=if_pos h
theorem Zi {k:Nat} {out:List DT} {s:RS} (h:(YR out s).2 = 0):zq (k + 1) out s = zq k (out ++ [(Yg s).1]) (YR out s):=if_neg (by simp [h])
theorem Uf {s:RS} (h:Ok s) (out:List DT):Ok (YR out s):=Vj (zma h).1 _
theorem xoa : ∀ (k:Nat) (out:List DT) (s:RS),Ok s -> Ok (zq k out s).2
 | 0,_,_,h=>h
 | k + 1,out,s,h=>by
  by_cases c:(YR out s).2 = 0
  ·rw [Zi c];exact xoa k _ _ (Uf h out)
  ·rw [VF c];exact Uf h out
theorem v8a {s:RS} (h:Ok s) (most:Int):Ok (vG most s).2:=by
 have h1:=N.ym h;unfold vG
 split
 ·exact N.Yw h1.1 _
 ·exact xoa _ _ _ h1.1
theorem xpa {out:List DT} (h:out.length <= 1000000000000) (x:DT) (cmp:DT -> DT -> M Int) (hc:∀ y,cmp y x = pure (V.yCa y x)) :
  ((cond (decide (0 <= IntKind.i64.wrap ((out.length:Int) - 1))) ((idx out (IntKind.i64.wrap ((out.length:Int) - 1))).bind fun x61=>(det (cmp x61 x)).bind fun v63=>pure (decide (0 <= v63))) (pure false)):M Bool) = pure (Vy out x):=by
 unfold Vy;rcases R.yZ out with rfl | ⟨r,y,rfl⟩
 ·rfl
 ·have hl:((r ++ [y]).length:Int) - 1 = (r.length:Int):=by simp
  rw [hl,Yt (by omega) (by simp at h;omega)];have:decide ((0:Int) <= (r.length:Int)) = true:=by simp
  rw [this,cond_true,zH (y:=y) (by simp),zA,hc,zB,zA];simp
theorem xqa {out:List DT} {s:RS} (h:(YR out s).2 = 0):Vy out (Yg s).1 = false /\ (Yg s).2.2 = 0 /\ YR out s = (Yg s).2:=Vk h
theorem zna {y4:Int × List Int × Int} (hn:0 <= y4.1 /\ y4.1 <= 18446744073709551615):∀ (k i:Nat) (out:List DT) (s:RS),(i:Int) + k = y4.1 -> Ok s -> s.2 = 0 -> out.length + s.1.length <= 1000000000 ->
  (loop (yo y4) ((i:Int),out,s.1,s.2)).bind (exk fun ⟨out9,v10,v11⟩=>pure (out9,v10,v11)) = pure (zq k out s)
 | 0,i,out,s,hi,_,_,_=>by
  rw [zV (r:=.brk (out,s.1,s.2)) (by
   unfold yo;have:decide ((i:Int) < y4.1) = false:=by simp;omega
   simp only [this,cond_false])]
  rfl
 | k + 1,i,out,s,hi,hO,h0,hl=>by
  have hd:=zma hO;have hc:decide ((i:Int) < y4.1) = true:=by simp;omega
  have hlast:=xpa (out:=out) (by omega) (Yg s).1 vL (fun y=>JZ y _);have hw:IntKind.u64.wrap ((i:Int) + 1) = ((i + 1:Nat):Int):=by rw [WF (by omega) (by omega)];omega
  have hb:yo y4 ((i:Int),out,s.1,s.2) = (det (zN (YR out s).1 (YR out s).2)).bind fun y70=>cond (!decide (y70.1 = 0)) (pure (.done (.ret ([],y70.2.1,y70.2.2)))) (yV ((out.length + [(Yg s).1].length) * 16 <= 140737488355328) (pure (.next (IntKind.u64.wrap ((i:Int) + 1),out ++ [(Yg s).1],y70.2.1,y70.2.2)))):=by
   unfold yo;have e:=yua (Vy out (Yg s).1) (Yg s).2;simp only [hc,cond_true,Dot_eq hO,zB,zA];rw [hlast,zA,e,zA]
   rfl
  rw [N.Xp,zB,zA] at hb
  by_cases c:(YR out s).2 = 0
  ·obtain ⟨_,c2,c3⟩:=xqa c;have hlt:=dot_lt hO h0 c2;rw [decide_eq_true c,Bool.not_true,cond_false,zC (by simp;omega),hw] at hb;rw [zT hb,Zi c];exact zna hn k (i + 1) _ (YR out s) (by omega) (Uf hO out) c (by rw [c3];simp;omega)
  ·rw [decide_eq_false c,Bool.not_false,cond_true] at hb;rw [zV hb,VF c]
   rfl
theorem ywa {s:RS} (hO:Ok s) {most:Int} (hm:most <= 9223372036854775807):vj most s.1 s.2 = pure (vG most s):=by
 obtain ⟨h1,h2,h3⟩:=N.ym hO;unfold vj vG;rw [N.Ya hO,zB,zA,WF (n:=max most 0) (by omega) (by omega)]
 by_cases c:max most 0 < (zO s).1
 ·rw [decide_eq_true c,cond_true,if_pos c,N.ZM 3 (zO s).2,zB,zA]
 ·rw [decide_eq_false c,cond_false,if_neg c]
  by_cases c2:(zO s).2.2 = 0
  ·exact zna (y4:=zO s) ⟨h2,h3⟩ (zO s).1.toNat 0 [] (zO s).2 (by omega) h1 c2 (by simp;have:=h1.len;omega)
  ·have hz:=vd c2;rw [hz,zV (r:=.brk ([],(zO s).2.1,(zO s).2.2)) (by
    unfold yo;simp only [hz,show decide ((0:Int) < 0) = false from rfl,cond_false])]
   rfl
open N (RS Ok zO zw vU Qi OkB Sim)

def vq : Nat -> List RN -> RS -> List RN × RS
 | 0,out,s=>(out,s)
 | k + 1,out,s=>
  if (zO (zO s).2).2.2 ≠ 0 then (out ++ [⟨(zO s).1,(zO (zO s).2).1⟩],(zO (zO s).2).2) else vq k (out ++ [⟨(zO s).1,(zO (zO s).2).1⟩]) (zO (zO s).2).2
def xA (s:RS):PT × RS:=(⟨(zw 65535 s).1,(vq (zO (zw 65535 s).2).1.toNat [] (zO (zw 65535 s).2).2).1⟩,(vq (zO (zw 65535 s).2).1.toNat [] (zO (zw 65535 s).2).2).2)
theorem jb {k:Nat} {out:List RN} {s:RS} (h:(zO (zO s).2).2.2 ≠ 0):vq (k + 1) out s = (out ++ [⟨(zO s).1,(zO (zO s).2).1⟩],(zO (zO s).2).2):=if_pos h
theorem Xd {k:Nat} {out:List RN} {s:RS} (h:(zO (zO s).2).2.2 = 0):vq (k + 1) out s = vq k (out ++ [⟨(zO s).1,(zO (zO s).2).1⟩]) (zO (zO s).2).2:=if_neg (by simp [h])
theorem two_lt {s:RS} (hO:Ok s) (h0:s.2 = 0) (h:(zO (zO s).2).2.2 = 0):(zO (zO s).2).2.1.length + 2 <= s.1.length:=by
 have h1:=Xq h;have h2:=zla hO h0 h1;have h3:=zla (N.ym hO).1 h1 h;omega
theorem two_le (s:RS):(zO (zO s).2).2.1.length <= s.1.length:=Nat.le_trans (VE _) (VE _)
def uKa (x:RN):Prop:=(0 <= x.lo /\ x.lo <= 18446744073709551615) /\ 0 <= x.hi /\ x.hi <= 18446744073709551615
theorem uLa {s:RS} (h:Ok s):Ok (zO (zO s).2).2 /\ uKa ⟨(zO s).1,(zO (zO s).2).1⟩:=by
 obtain ⟨h1,h2,h3⟩:=N.ym h;obtain ⟨h4,h5,h6⟩:=N.ym h1;exact ⟨h4,⟨h2,h3⟩,h5,h6⟩
theorem jc : ∀ (k:Nat) (out:List RN) (s:RS),Ok s -> s.2 = 0 -> (∀ x ∈ out,uKa x) -> Ok (vq k out s).2 /\ (∀ x ∈ (vq k out s).1,uKa x) /\ (vq k out s).1.length + (vq k out s).2.1.length <= out.length + s.1.length + 1 /\
  ((vq k out s).2.2 = 0 -> (vq k out s).1.length + (vq k out s).2.1.length <= out.length + s.1.length /\ (vq k out s).1.length = out.length + k)
 | 0,out,s,h,_,ho=>⟨h,ho,by show out.length + s.1.length <= _;omega,fun _=>⟨Nat.le_refl _,rfl⟩⟩
 | k + 1,out,s,h,h0,ho=>by
  obtain ⟨h1,h2⟩:=uLa h;have ho':∀ x ∈ out ++ [⟨(zO s).1,(zO (zO s).2).1⟩],uKa x:=fun x hx=>by
   rcases List.mem_append.1 hx with h | h
   ·exact ho x h
   ·rw [List.mem_singleton.1 h];exact h2
  by_cases c:(zO (zO s).2).2.2 = 0
  ·rw [Xd c];obtain ⟨q1,q2,q3,q4⟩:=jc k _ _ h1 c ho';have hlt:=two_lt h h0 c;simp only [List.length_append,List.length_singleton] at q3 q4;refine ⟨q1,q2,by omega,fun hz=>?_⟩;have:=q4 hz;omega
  ·rw [jb c];have:=two_le s;exact ⟨h1,ho',by simp;omega,fun hz=>absurd hz c⟩
theorem zoa {y5:Int × List Int × Int} (hn:0 <= y5.1 /\ y5.1 <= 18446744073709551615):∀ (k i:Nat) (out:List RN) (s:RS),(i:Int) + k = y5.1 -> Ok s -> s.2 = 0 -> out.length + s.1.length <= 1000000000 ->
  loop (yn y5) ((i:Int),out,s.1,s.2) = pure (vq k out s)
 | 0,i,out,s,hi,_,_,_=>by
  exact zV (by
   unfold yn;have:decide ((i:Int) < y5.1) = false:=by simp;omega
   simp only [this,cond_false]
   rfl)
 | k + 1,i,out,s,hi,hO,h0,hl=>by
  obtain ⟨h1,h2,h3⟩:=N.ym hO;have hc:decide ((i:Int) < y5.1) = true:=by simp;omega
  have hw:IntKind.u64.wrap ((i:Int) + 1) = ((i + 1:Nat):Int):=by rw [WF (by omega) (by omega)];omega
  have hb:yn y5 ((i:Int),out,s.1,s.2) = cond (!decide ((zO (zO s).2).2.2 = 0)) (pure (.done (out ++ [⟨(zO s).1,(zO (zO s).2).1⟩],(zO (zO s).2).2))) (pure (.next (((i + 1:Nat):Int),out ++ [⟨(zO s).1,(zO (zO s).2).1⟩],(zO (zO s).2).2.1,(zO (zO s).2).2.2))):=by
   unfold yn;simp only [hc,cond_true,N.Ya hO,N.Ya h1,zB,zA,N.Xp];rw [zC (by simp;omega),hw]
  by_cases c:(zO (zO s).2).2.2 = 0
  ·have hlt:=two_lt hO h0 c;rw [decide_eq_true c,Bool.not_true,cond_false] at hb;rw [zT hb,Xd c];exact zoa hn k (i + 1) _ (zO (zO s).2).2 (by omega) (uLa hO).1 c (by simp;omega)
  ·rw [decide_eq_false c,Bool.not_false,cond_true] at hb;rw [zV hb,jb c]
theorem part_eq {s:RS} (hO:Ok s):ZE s.1 s.2 = pure (xA s):=by
 obtain ⟨h1,h2,h3⟩:=N.ZL hO (m:=65535) (by decide);obtain ⟨h4,h5,h6⟩:=N.ym h1;unfold ZE xA;rw [N.yla hO,zB,zA,N.Ya h1,zB,zA,wU16 h2 h3]
 by_cases c:(zO (zw 65535 s).2).2.2 = 0
 ·have:=zoa (y5:=zO (zw 65535 s).2) ⟨h5,h6⟩ (zO (zw 65535 s).2).1.toNat 0 [] (zO (zw 65535 s).2).2 (by omega) h4 c (by simp;have:=h4.len;omega);rw [show ((0:Nat):Int) = 0 from rfl] at this;rw [this,zA]
 ·have hz:=vd c;rw [hz,zV (r:=([],(zO (zw 65535 s).2).2)) (by
   unfold yn;simp only [hz,show decide ((0:Int) < 0) = false from rfl,cond_false]),zA]
  rfl
theorem Vm {s:RS} (hO:Ok s) (h0:s.2 = 0):Ok (xA s).2 /\ OkP (xA s).1 /\ ((xA s).1.runs.length <= 1000000001) /\ ((xA s).2.2 = 0 -> (xA s).1.runs.length + (xA s).2.1.length + 2 <= s.1.length):=by
 obtain ⟨h1,h2,h3⟩:=N.ZL hO (m:=65535) (by decide);obtain ⟨h4,h5,h6⟩:=N.ym h1;have hl:=h4.len;unfold xA
 by_cases c:(zO (zw 65535 s).2).2.2 = 0
 ·obtain ⟨q1,q2,q3,q4⟩:=jc (zO (zw 65535 s).2).1.toNat [] _ h4 c (by simp);refine ⟨q1,⟨h2,h3,q2⟩,by simp at q3 ⊢;omega,fun hz=>?_⟩;have hq:=q4 hz;obtain ⟨e1,e2⟩:=QR (Xq c);have h7:=zla hO h0 e1;have h8:=zla h1 (Xq c) c;rw [e2] at h8 hq ⊢;simp only [List.length_nil,Nat.zero_add] at hq ⊢;omega
 ·rw [vd c];refine ⟨h4,⟨h2,h3,by intro x hx;cases hx⟩,by simp [vq],fun hz=>absurd hz c⟩
def WH : Nat -> List PT -> RS -> Bool × List PT × RS
 | 0,out,s=>(true,out,s)
 | k + 1,out,s=>if (xA s).2.2 ≠ 0 then (false,[],(xA s).2) else WH k (out ++ [(xA s).1]) (xA s).2
def wj (s:RS):List PT × RS:=
 let r:=WH (zO s).1.toNat [] (zO s).2
 if r.1 = true then fin [] r.2.1 (UB (!decide (r.2.1 = C.zk r.2.1)) r.2.2) else ([],r.2.2)
theorem Ug {k:Nat} {out:List PT} {s:RS} (h:(xA s).2.2 ≠ 0):WH (k + 1) out s = (false,[],(xA s).2):=if_pos h
theorem Yz {k:Nat} {out:List PT} {s:RS} (h:(xA s).2.2 = 0):WH (k + 1) out s = WH k (out ++ [(xA s).1]) (xA s).2:=if_neg (by simp [h])
theorem tot_snoc (c:List PT) (p:PT):C.yJ (c ++ [p]) = C.yJ c + p.runs.length:=by rw [C.QA];simp [C.yJ]
theorem Xe : ∀ (k:Nat) (out:List PT) (s:RS),Ok s -> s.2 = 0 -> (∀ p ∈ out,OkP p) -> out.length + C.yJ out + s.1.length <= 1000000000 -> Ok (WH k out s).2.2 /\ (∀ p ∈ (WH k out s).2.1,OkP p) /\ (WH k out s).2.1.length + C.yJ (WH k out s).2.1 <= 1000000000 /\
  ((WH k out s).1 = true ↔ (WH k out s).2.2.2 = 0) /\ ((WH k out s).1 = true -> (WH k out s).2.1.length = out.length + k /\ (WH k out s).2.2.1.length <= s.1.length)
 | 0,out,s,h,h0,ho,hl=>⟨h,ho,by show out.length + C.yJ out <= _;omega,⟨fun _=>h0,fun _=>rfl⟩,fun _=>⟨rfl,Nat.le_refl _⟩⟩
 | k + 1,out,s,h,h0,ho,hl=>by
  obtain ⟨h1,h2,h3,h4⟩:=Vm h h0
  by_cases c:(xA s).2.2 = 0
  ·rw [Yz c];have:=h4 c;obtain ⟨q1,q2,q3,q4,q5⟩:=Xe k (out ++ [(xA s).1]) (xA s).2 h1 c (fun p hp=>by
    rcases List.mem_append.1 hp with h | h
    ·exact ho p h
    ·rw [List.mem_singleton.1 h];exact h2) (by rw [tot_snoc];simp;omega)
   refine ⟨q1,q2,q3,q4,fun hz=>?_⟩;have:=q5 hz;simp at this;omega
  ·rw [Ug c];exact ⟨h1,by simp,by simp [C.yJ],⟨fun h=>(by cases h),fun h=>absurd h c⟩,fun h=>(by cases h)⟩
theorem xra : ∀ (k:Nat) (out:List PT) (s:RS),(WH k out s).1 = false -> (WH k out s).2.1 = []
 | 0,out,s,h=>by cases h
 | k + 1,out,s,h=>by
  by_cases c:(xA s).2.2 = 0
  ·rw [Yz c] at h ⊢;exact xra k _ _ h
  ·rw [Ug c]
theorem xsa {y3:Int × List Int × Int} (hn:0 <= y3.1 /\ y3.1 <= 18446744073709551615):∀ (k i:Nat) (out:List PT) (s:RS),(i:Int) + k = y3.1 -> Ok s -> s.2 = 0 -> out.length + s.1.length <= 1000000000 ->
  loop (xC y3) ((i:Int),out,s.1,s.2) = pure (if (WH k out s).1 = true then .brk (WH k out s).2 else .ret (WH k out s).2)
 | 0,i,out,s,hi,_,_,_=>by
  exact zV (by
   unfold xC;have:decide ((i:Int) < y3.1) = false:=by simp;omega
   simp only [this,cond_false]
   rfl)
 | k + 1,i,out,s,hi,hO,h0,hl=>by
  obtain ⟨h1,h2,h3,h4⟩:=Vm hO h0;have hc:decide ((i:Int) < y3.1) = true:=by simp;omega
  have hw:IntKind.u64.wrap ((i:Int) + 1) = ((i + 1:Nat):Int):=by rw [WF (by omega) (by omega)];omega
  have hb:xC y3 ((i:Int),out,s.1,s.2) = cond (!decide ((xA s).2.2 = 0)) (pure (.done (.ret ([],(xA s).2)))) (pure (.next (((i + 1:Nat):Int),out ++ [(xA s).1],(xA s).2.1,(xA s).2.2))):=by
   unfold xC;simp only [hc,cond_true,part_eq hO,zB,zA,N.Xp];rw [zC (by simp;omega),hw]
  by_cases c:(xA s).2.2 = 0
  ·have hlt:=h4 c;rw [decide_eq_true c,Bool.not_true,cond_false] at hb;rw [zT hb,Yz c];exact xsa hn k (i + 1) _ (xA s).2 (by omega) h1 c (by simp;omega)
  ·rw [decide_eq_false c,Bool.not_false,cond_true] at hb;rw [zV hb,Ug c]
   rfl
theorem xta {c:List PT} (h:∀ p ∈ c,OkP p) (hl:c.length + C.yJ c <= 1000000000):C.Ok c:=⟨fun p hp=>(h p hp).d0,by omega,by omega⟩
theorem xua {s:RS} (hO:Ok s):xP s.1 s.2 = pure (wj s):=by
 obtain ⟨h1,h2,h3⟩:=N.ym hO;unfold xP wj;rw [N.Ya hO,zB,zA];have good:∀ (c:List PT) (t:RS),C.Ok c -> ((det (wI c)).bind fun v37=>cond (!v37) ((det (zF 4 t.1 t.2)).bind fun y40=>pure (([]:List PT),y40.1,y40.2)) (pure (c,t.1,t.2))) = pure (if decide (c = C.zk c) = true then (c,t) else ([],vU 4 t)):=fun c t hc=>by
  rw [C.ZK c hc.sm,zB,zA]
  cases decide (c = C.zk c) with
  | true=>rfl
  | false=>rw [Bool.not_false,cond_true,N.ZM,zB,zA];rfl
 by_cases c2:(zO s).2.2 = 0
 ·have:=xsa (y3:=zO s) ⟨h2,h3⟩ (zO s).1.toNat 0 [] (zO s).2 (by omega) h1 c2 (by simp;have:=h1.len;omega);rw [show ((0:Nat):Int) = 0 from rfl] at this;rw [this,zA];obtain ⟨q1,q2,q3,q4,_⟩:=Xe (zO s).1.toNat [] (zO s).2 h1 c2 (by simp) (by simp [C.yJ];have:=h1.len;omega);have qn:=xra (zO s).1.toNat [] (zO s).2
  generalize WH (zO s).1.toNat [] (zO s).2 = r at *
  obtain ⟨b,c,t⟩:=r;simp only [] at *
  cases b with
  | false=>rw [qn rfl];rfl
  | true=>
   have hz:=q4.1 rfl;show ((det (wI c)).bind _) = _;rw [good c t (xta q2 q3),if_pos rfl]
   cases hg:decide (c = C.zk c) with
   | true=>rw [if_pos rfl,Bool.not_true,uS,ja hz]
   | false=>rw [if_neg (by simp),Bool.not_false,Vl uIa];rfl
 ·have hz:=vd c2;rw [hz,zV (r:=.brk ([],(zO s).2)) (by
   unfold xC;simp only [hz,show decide ((0:Int) < 0) = false from rfl,cond_false]),zA]
  show ((det (wI [])).bind _) = pure (if true = true then fin [] [] (UB (!decide (([]:List PT) = C.zk [])) (zO s).2) else ([],(zO s).2));rw [good [] (zO s).2 C.ok_nil,if_pos rfl];have e:C.zk [] = []:=rfl;rw [e];simp only [decide_true,if_true,Bool.not_true,uS];rw [Vl c2]
theorem zj {s:RS} (hO:Ok s):Ok (wj s).2 /\ (∀ p ∈ (wj s).1,OkP p) /\ (wj s).1.length + C.yJ (wj s).1 <= 1000000000 /\ ((wj s).2.2 ≠ 0 -> (wj s).1 = []) /\ ((wj s).2.2 = 0 -> (wj s).1 = C.zk (wj s).1):=by
 obtain ⟨h1,h2,h3⟩:=N.ym hO;unfold wj
 by_cases c2:(zO s).2.2 = 0
 ·obtain ⟨q1,q2,q3,q4,_⟩:=Xe (zO s).1.toNat [] (zO s).2 h1 c2 (by simp) (by simp [C.yJ];have:=h1.len;omega)
  generalize WH (zO s).1.toNat [] (zO s).2 = r at *
  obtain ⟨b,c,t⟩:=r;simp only [] at *
  cases b with
  | false=>exact ⟨q1,by simp,by simp [C.yJ],fun _=>rfl,fun _=>rfl⟩
  | true=>
   rw [if_pos rfl,VD];refine ⟨Vj q1 _,?_⟩
   by_cases hb:(UB (!decide (c = C.zk c)) t).2 = 0
   ·rw [ja hb];have:=(Vk hb).1;exact ⟨q2,q3,fun h=>absurd hb h,fun _=>by simpa using this⟩
   ·rw [Vl hb];exact ⟨by simp,by simp [C.yJ],fun _=>rfl,fun h=>absurd h hb⟩
 ·rw [vd c2];show Ok (if true = true then fin [] [] (UB (!decide (([]:List PT) = C.zk [])) (zO s).2) else ([],(zO s).2)).2 /\ _;have e:C.zk [] = []:=rfl;simp only [WH,Int.toNat_zero,e,decide_true,Bool.not_true,uS,if_true,Vl c2];exact ⟨h1,by simp,by simp [C.yJ],fun _=>trivial,fun _=>trivial⟩

variable {B:List Int} {a:Int} {s:RS}
open N (RS Ok zO zw vU Qi OkB Sim)

def XA : List DT -> Bool
 | []=>true
 | x :: r=>(match r with | []=>true | y :: _=>za x y) && XA r
theorem QS : ∀ {l:List DT},XA l = true ↔ Srt l
 | []=>⟨fun _=>List.Pairwise.nil,fun _=>rfl⟩
 | [x]=>⟨fun _=>by simp [Srt],fun _=>rfl⟩
 | x :: y :: r=>by
  show (za x y && XA (y :: r)) = true ↔ _;rw [Bool.and_eq_true,QS (l:=y :: r)];unfold Srt;rw [List.pairwise_cons (a:=x)]
  constructor
  ·rintro ⟨h1,h2⟩;refine ⟨fun z hz=>?_,h2⟩;rcases List.mem_cons.1 hz with rfl | hz
   ·exact h1
   ·exact Xc h1 ((List.pairwise_cons.1 h2).1 z hz)
  ·rintro ⟨h1,h2⟩;exact ⟨h1 y (by simp),h2⟩
theorem Ja (x y:DT):decide (0 <= V.yCa x y) = !za x y:=by
 by_cases h:za x y = true
 ·have:=V.UV.2 h;rw [h];simp;omega
 ·have h2:¬ V.yCa x y < 0:=fun e=>h (V.UV.1 e)
  simp only [Bool.not_eq_true] at h;rw [h];simp;omega
theorem wga (l:List DT) (hl:l.length <= 1000000000000):VV l = pure (XA l):=by
 unfold VV;have key:∀ (k i:Nat) (x:DT) (r:List DT),i + k = l.length -> l.drop i = r -> i ≠ 0 -> l[i - 1]? = some x -> loop (xd l) (i:Int) = pure (if XA (x :: r) = true then .brk () else .ret false):=by
  intro k
  induction k with
  | zero=>
   intro i x r hi hr h1 hx;have:r = []:=by rw [<- hr];exact List.drop_eq_nil_of_le (by omega)
   subst this;exact zV (by
    unfold xd;have:decide ((i:Int) < (l.length:Int)) = false:=by simp;omega
    simp only [this,cond_false];rfl)
  | succ k ih=>
   intro i x r hi hr h1 hx;have hlt:i < l.length:=by omega
   have hr2:r = l[i] :: l.drop (i + 1):=by rw [<- hr];exact List.drop_eq_getElem_cons hlt
   have hy:=List.getElem?_eq_getElem hlt;have hi1:idx l (IntKind.i64.wrap ((i:Int) - 1)) = pure x:=by
    rw [Yt (by omega) (by omega)];exact WT (by omega) (by rw [show ((i:Int) - 1).toNat = i - 1 by omega];exact hx)
   have hb:xd l (i:Int) = cond (!za x l[i]) (pure (.done (.ret false))) (pure (.next ((i + 1:Nat):Int))):=by
    unfold xd;have:decide ((i:Int) < (l.length:Int)) = true:=by simp;omega
    simp only [this,cond_true,hi1,zH hy,zA,V.Zd,zB,Ja,yN (show i < 9223372036854775807 by omega)]
   rw [hr2];show _ = (pure (if (za x l[i] && XA (l[i] :: l.drop (i + 1))) = true then Ex.brk () else Ex.ret false):M (Ex Unit Bool))
   cases c:za x l[i] with
   | true=>
    rw [c] at hb;rw [zT hb,Bool.true_and];exact ih (i + 1) l[i] _ (by omega) rfl (by omega) hy
   | false=>
    rw [c] at hb;rw [zV hb];rfl
 cases l with
 | nil=>
  rw [zV (r:=.brk ()) (by unfold xd;rfl)];rfl
 | cons x r=>
  have:=key r.length 1 x r (by simp;omega) rfl (by decide) rfl;rw [show ((1:Nat):Int) = 1 from rfl] at this;rw [this,zA]
  cases XA (x :: r) <;> rfl

theorem vy {v:Int} (h0:0 <= v) (h:v <= 18446744073709551615) (r:List Int):zO (N.ya v ++ r,0) = (v,(r,0)):=by
 have e:=N.rdN_enc h0 h r;unfold zO;simp only [e,ne_eq,not_true_eq_false,if_false,List.drop_left]
theorem QT {v m:Int} (h0:0 <= v) (h:v <= m) (hm:m <= 18446744073709551615) (r:List Int):zw m (N.ya v ++ r,0) = (v,(r,0)):=by
 unfold zw;rw [vy h0 (by omega) r];exact if_neg (by simp;omega)
theorem uMa {d:DT} (h:OkD d) (hg:V.yF d = true) (r:List Int):Yg (encD d ++ r,0) = (d,(r,0)):=by
 have e1:=QT h.d0 h.d1 (by decide) (N.ya d.n ++ r);have e2:=vy h.n0 h.n1 r;have e:encD d ++ r = N.ya d.dev ++ (N.ya d.n ++ r):=by rw [encD,List.append_assoc]
 have hR:dotR (encD d ++ r,0) = d:=by unfold dotR;rw [e,e1];simp only [e2]
 unfold Yg dotT;rw [hR,hg,e,e1];simp only [e2,Bool.not_true,uS]
 rfl
theorem wha {out:List DT} {x:DT} (h:∀ y ∈ out,za y x = true):Vy out x = false:=by
 unfold Vy
 cases hl:out.getLast? with
 | none=>rfl
 | some y=>
  have:=h y (List.mem_of_getLast? hl);simp only [Ja,this,Bool.not_true]
theorem zpa : ∀ (l out:List DT) (r:List Int),Srt (out ++ l) -> (∀ d ∈ l,OkD d /\ V.yF d = true) -> zq l.length out (l.flatMap encD ++ r,0) = (out ++ l,(r,0))
 | [],out,r,_,_=>by simp [zq]
 | x :: t,out,r,hs,h=>by
  have hx:=h x (by simp);have e:Yg ((x :: t).flatMap encD ++ r,0) = (x,(t.flatMap encD ++ r,0)):=by
   rw [List.flatMap_cons,List.append_assoc];exact uMa hx.1 hx.2 _
  have hT:YR out ((x :: t).flatMap encD ++ r,0) = (t.flatMap encD ++ r,0):=by
   unfold YR;rw [e];simp only [];rw [wha fun y hy=>(List.pairwise_append.1 hs).2.2 y hy x (by simp)]
   rfl
  rw [List.length_cons,Zi (by rw [hT]),hT,e];simp only [];rw [zpa t (out ++ [x]) r (by rw [List.append_assoc];exact hs) (fun d hd=>h d (by simp [hd])),List.append_assoc]
  rfl
theorem jd {l:List DT} (hs:Srt l) (h:∀ d ∈ l,V.yF d = true):xx (ux l) = l:=by
 have e:ux l = l:=List.filter_eq_self.2 h;rw [e];exact uFa hs
theorem dots_enc {l:List DT} (hs:Srt l) (h:∀ d ∈ l,OkD d /\ V.yF d = true) {most:Int} (hm:(l.length:Int) <= most) (hl:l.length <= 1000000000000) (r:List Int):vG most (uM l ++ r,0) = (l,(r,0)):=by
 have e1:=jd hs fun d hd=>(h d hd).2
 have e2:uM l ++ r = N.ya (l.length:Int) ++ (l.flatMap encD ++ r):=by rw [uM,e1,List.append_assoc]
 unfold vG;rw [e2,vy (by omega) (by omega)];simp only [];rw [if_neg (by omega),Int.toNat_natCast,zpa l [] r (by simpa using hs) h]
 rfl
theorem zqa : ∀ (l out:List RN) (r:List Int),(∀ x ∈ l,uKa x) -> vq l.length out (l.flatMap jt ++ r,0) = (out ++ l,(r,0))
 | [],out,r,_=>by simp [vq]
 | x :: t,out,r,h=>by
  have hx:=h x (by simp);have e1:zO ((x :: t).flatMap jt ++ r,0) = (x.lo,(N.ya x.hi ++ (t.flatMap jt ++ r),0)):=by
   rw [List.flatMap_cons,jt,List.append_assoc,List.append_assoc];exact vy hx.1.1 hx.1.2 _
  have e2:zO (N.ya x.hi ++ (t.flatMap jt ++ r),0) = (x.hi,(t.flatMap jt ++ r,0)):=vy hx.2.1 hx.2.2 _;rw [List.length_cons,Xd (by rw [e1];simp only [e2]),e1];simp only [e2];rw [zqa t _ r fun y hy=>h y (by simp [hy]),List.append_assoc]
  rfl
theorem part_enc {p:PT} (h:OkP p) (hl:p.runs.length <= 1000000000000) (r:List Int):xA (QP p ++ r,0) = (p,(r,0)):=by
 have e:QP p ++ r = N.ya p.dev ++ (N.ya (p.runs.length:Int) ++ (p.runs.flatMap jt ++ r)):=by rw [QP,List.append_assoc,List.append_assoc]
 have e1:=QT h.d0 h.d1 (by decide) (N.ya (p.runs.length:Int) ++ (p.runs.flatMap jt ++ r));have e2:=vy (v:=(p.runs.length:Int)) (by omega) (by omega) (p.runs.flatMap jt ++ r);unfold xA;rw [e,e1];simp only [e2,Int.toNat_natCast];rw [zqa p.runs [] r h.r]
 rfl
theorem xva : ∀ (c out:List PT) (r:List Int),(∀ p ∈ c,OkP p /\ p.runs.length <= 1000000000000) -> WH c.length out (c.flatMap QP ++ r,0) = (true,out ++ c,(r,0))
 | [],out,r,_=>by simp [WH]
 | p :: t,out,r,h=>by
  have hp:=h p (by simp);have e:xA ((p :: t).flatMap QP ++ r,0) = (p,(t.flatMap QP ++ r,0)):=by
   rw [List.flatMap_cons,List.append_assoc];exact part_enc hp.1 hp.2 _
  rw [List.length_cons,Yz (by rw [e]),e];simp only [];rw [xva t _ r fun q hq=>h q (by simp [hq]),List.append_assoc]
  rfl
theorem ctx_encN {c:List PT} (hc:c = C.zk c) (h:∀ p ∈ c,OkP p) (hl:c.length <= 1000000000000 /\ C.yJ c <= 1000000000000) (r:List Int):wj (zga c ++ r,0) = (c,(r,0)):=by
 have e:zga c ++ r = N.ya (c.length:Int) ++ (c.flatMap QP ++ r):=by rw [zga,List.append_assoc]
 have e1:=vy (v:=(c.length:Int)) (by omega) (by omega) (c.flatMap QP ++ r);have e2:=xva c [] r fun p hp=>⟨h p hp,by have:=C.JX p hp;omega⟩
 unfold wj;rw [e,e1];simp only [Int.toNat_natCast];simp only [e2,List.nil_append,if_true];have hdc:decide (c = C.zk c) = true:=decide_eq_true hc;rw [hdc]
 rfl
theorem uNa (c:List PT):C.zk c = C.zk (C.zk c):=(C.Vg (C.vT c)).symm
theorem QU {c:List PT} (h:∀ p ∈ c,p.dev <= 65535) (hl:c.length <= 100000000 /\ C.yJ c <= 100000000) (r:List Int):wj (Yh c ++ r,0) = (C.zk c,(r,0)):=
 ctx_encN (uNa c) (Ue h) ⟨by have:=C.un c;omega,by have:=C.uo c;omega⟩ r
open N (RS Ok zO zw vU Qi OkB Sim)

theorem vz {s:RS} (hO:Ok s) (h:(zO s).2.2 = 0):s.1 = N.ya (zO s).1 ++ (zO s).2.1:=by
 have h0:=Xq h;unfold zO at h ⊢;rw [if_neg (by simp [h0])] at h ⊢
 by_cases c:(N.rdN s.1).2.2 = 0
 ·rw [if_neg (by simp [c])];exact N.rdN_one hO.by_ c
 ·rw [if_pos c] at h;exact absurd h (N.xh c)
theorem QV {s:RS} (hO:Ok s) {m:Int} (h:(zw m s).2.2 = 0):s.1 = N.ya (zw m s).1 ++ (zw m s).2.1:=by
 obtain ⟨h1,h2⟩:=QR h;rw [h2];exact vz hO h1
theorem uOa {s:RS} (hO:Ok s) (h:(Yg s).2.2 = 0):s.1 = encD (Yg s).1 ++ (Yg s).2.1:=by
 obtain ⟨_,h1,h2,h3⟩:=xna h;have e1:=QV hO h1;have e2:=vz (N.ZL hO (m:=65535) (by decide)).1 h2;rw [h3];show s.1 = (N.ya (zw 65535 s).1 ++ N.ya (zO (zw 65535 s).2).1) ++ _;rw [List.append_assoc,<- e2];exact e1
theorem zra : ∀ (k:Nat) (out:List DT) (s:RS),Ok s -> s.2 = 0 -> Srt out -> (∀ d ∈ out,V.yF d = true) -> (zq k out s).2.2 = 0 -> ∃ l,(zq k out s).1 = out ++ l /\ l.length = k /\ s.1 = l.flatMap encD ++ (zq k out s).2.1 /\ Srt (out ++ l) /\ (∀ d ∈ out ++ l,V.yF d = true) /\ ∀ d ∈ l,OkD d
 | 0,out,s,_,_,hs,hg,_=>⟨[],by simp [zq],rfl,by simp [zq],by simpa using hs,by simpa using hg,by simp⟩
 | k + 1,out,s,hO,h0,hs,hg,h=>by
  by_cases c:(YR out s).2 = 0
  ·obtain ⟨c1,c2,c3⟩:=xqa c;rw [Zi c] at h ⊢;have hgd:=(xna c2).1;have hs2:Srt (out ++ [(Yg s).1]):=by
    unfold Srt;rw [List.pairwise_append];refine ⟨hs,by simp,fun a ha b hb=>?_⟩;rw [List.mem_singleton.1 hb];rcases R.yZ out with rfl | ⟨q,y,rfl⟩
    ·simp at ha
    ·have hy:za y (Yg s).1 = true:=by
      unfold Vy at c1;simp only [List.getLast?_append,List.getLast?_singleton,Option.some_or,Ja] at c1;simpa using c1
     rcases List.mem_append.1 ha with h5 | h5
     ·exact Xc ((List.pairwise_append.1 hs).2.2 a h5 y (by simp)) hy
     ·rw [List.mem_singleton.1 h5];exact hy
   obtain ⟨l,e1,e2,e3,e4,e5,e6⟩:=zra k _ _ (Uf hO out) c hs2 (fun d hd=>by
    rcases List.mem_append.1 hd with h5 | h5
    ·exact hg d h5
    ·rw [List.mem_singleton.1 h5];exact hgd) h
   refine ⟨(Yg s).1 :: l,by rw [e1];simp,by simp [e2],?_,by simpa using e4,by simpa using e5,fun d hd=>?_⟩
   ·rw [List.flatMap_cons,List.append_assoc,<- e3,c3];exact uOa hO c2
   ·rcases List.mem_cons.1 hd with rfl | h5
    ·exact (zma hO).2.1
    ·exact e6 d h5
  ·rw [VF c] at h;exact absurd h c
theorem xwa {s:RS} (hO:Ok s) {most:Int} (h:(vG most s).2.2 = 0):s.1 = uM (vG most s).1 ++ (vG most s).2.1 /\ Srt (vG most s).1 /\ (∀ d ∈ (vG most s).1,V.yF d = true /\ OkD d) /\ ((vG most s).1.length:Int) <= max most 0:=by
 obtain ⟨h1,h2,h3⟩:=N.ym hO;unfold vG at h ⊢
 by_cases c:max most 0 < (zO s).1
 ·rw [if_pos c] at h;exact absurd h (N.xh (by decide))
 ·rw [if_neg c] at h ⊢;have c2:(zO s).2.2 = 0:=Classical.byContradiction fun c2=>by
   rw [vd c2] at h;exact c2 h
  obtain ⟨l,e1,e2,e3,e4,e5,e6⟩:=zra _ [] _ h1 c2 List.Pairwise.nil (by simp) h;rw [List.nil_append] at e1 e4 e5;rw [e1];refine ⟨?_,e4,fun d hd=>⟨e5 d hd,e6 d hd⟩,by omega⟩;rw [uM,jd e4 e5,List.append_assoc,<- e3,e2,Int.toNat_of_nonneg h2];exact vz hO c2
theorem dots_bad {s:RS} {most:Int} (h:(vG most s).2.2 ≠ 0):(vG most s).1 = []:=by
 have hL:∀ (k:Nat) (out:List DT) (s:RS),s.2 = 0 \/ out = [] -> (zq k out s).2.2 ≠ 0 -> (zq k out s).1 = []:=by
  intro k
  induction k with
  | zero=>
   intro out s h1 h2;rcases h1 with h1 | h1
   ·exact absurd h1 h2
   ·exact h1
  | succ k ih=>
   intro out s _ h2
   by_cases c:(YR out s).2 = 0
   ·rw [Zi c] at h2 ⊢;exact ih _ _ (.inl c) h2
   ·rw [VF c]
 unfold vG at h ⊢
 split at h
 ·rename_i c;rw [if_pos c]
 ·rename_i c;rw [if_neg c];exact hL _ _ _ (.inr rfl) h
theorem zsa : ∀ (k:Nat) (out:List RN) (s:RS),Ok s -> (vq k out s).2.2 = 0 -> ∃ l,(vq k out s).1 = out ++ l /\ l.length = k /\ s.1 = l.flatMap jt ++ (vq k out s).2.1
 | 0,out,s,_,_=>⟨[],by simp [vq],rfl,by simp [vq]⟩
 | k + 1,out,s,hO,h=>by
  by_cases c:(zO (zO s).2).2.2 = 0
  ·rw [Xd c] at h ⊢;obtain ⟨l,e1,e2,e3⟩:=zsa k _ _ (uLa hO).1 h;refine ⟨⟨(zO s).1,(zO (zO s).2).1⟩ :: l,by rw [e1];simp,by simp [e2],?_⟩;rw [List.flatMap_cons,List.append_assoc,<- e3,jt,List.append_assoc,<- vz (N.ym hO).1 c];exact vz hO (Xq c)
  ·rw [jb c] at h;exact absurd h c
theorem part_inv {s:RS} (hO:Ok s) (h:(xA s).2.2 = 0):s.1 = QP (xA s).1 ++ (xA s).2.1:=by
 obtain ⟨h1,h2,h3⟩:=N.ZL hO (m:=65535) (by decide);obtain ⟨h4,h5,h6⟩:=N.ym h1;unfold xA at h ⊢;have c:(zO (zw 65535 s).2).2.2 = 0:=Classical.byContradiction fun c=>by rw [vd c] at h;exact c h
 obtain ⟨l,e1,e2,e3⟩:=zsa _ [] _ h4 h;rw [List.nil_append] at e1;show s.1 = (N.ya (zw 65535 s).1 ++ (N.ya ((vq (zO (zw 65535 s).2).1.toNat [] (zO (zw 65535 s).2).2).1.length:Int) ++ (vq (zO (zw 65535 s).2).1.toNat [] (zO (zw 65535 s).2).2).1.flatMap jt)) ++ (vq (zO (zw 65535 s).2).1.toNat [] (zO (zw 65535 s).2).2).2.1;rw [e1,List.append_assoc,List.append_assoc,<- e3,e2,Int.toNat_of_nonneg h5,<- vz h1 c];exact QV hO (Xq c)
theorem xxa : ∀ (k:Nat) (out:List PT) (s:RS),Ok s -> s.2 = 0 -> (WH k out s).1 = true -> ∃ l,(WH k out s).2.1 = out ++ l /\ l.length = k /\ s.1 = l.flatMap QP ++ (WH k out s).2.2.1
 | 0,out,s,_,_,_=>⟨[],by simp [WH],rfl,by simp [WH]⟩
 | k + 1,out,s,hO,h0,h=>by
  by_cases c:(xA s).2.2 = 0
  ·rw [Yz c] at h ⊢;obtain ⟨l,e1,e2,e3⟩:=xxa k _ _ (Vm hO h0).1 c h;refine ⟨(xA s).1 :: l,by rw [e1];simp,by simp [e2],?_⟩;rw [List.flatMap_cons,List.append_assoc,<- e3];exact part_inv hO c
  ·rw [Ug c] at h;cases h
theorem uPa {s:RS} (hO:Ok s) (h:(wj s).2.2 = 0):s.1 = Yh (wj s).1 ++ (wj s).2.1:=by
 have hn:=(zj hO).2.2.2.2 h;obtain ⟨h1,h2,h3⟩:=N.ym hO;rw [Yh,<- hn];unfold wj at h ⊢;have c:(zO s).2.2 = 0:=Classical.byContradiction fun c=>by
  have hz:=vd c;have e:C.zk [] = []:=rfl;simp only [hz,WH,Int.toNat_zero,e,decide_true,Bool.not_true,uS,if_true,VD] at h;exact c h
 have hi:=xxa (zO s).1.toNat [] (zO s).2 h1 c;obtain ⟨q1,q2,q3,q4,_⟩:=Xe (zO s).1.toNat [] (zO s).2 h1 c (by simp) (by simp [C.yJ];have:=h1.len;omega)
 generalize WH (zO s).1.toNat [] (zO s).2 = r at *
 obtain ⟨b,x,t⟩:=r;simp only [] at *
 cases b with
 | false=>
  have hz:t.2 = 0:=h;have:=q4.2 hz;cases this
 | true=>
  rw [if_pos rfl] at h ⊢;rw [VD] at h;rw [ja h,(Vk h).2.2];obtain ⟨l,e1,e2,e3⟩:=hi rfl;rw [List.nil_append] at e1;subst e1;show s.1 = (N.ya (x.length:Int) ++ x.flatMap QP) ++ t.1;rw [List.append_assoc,<- e3,e2,Int.toNat_of_nonneg h2];exact vz hO c
theorem end_ok {s:RS} (h:(Qi s).1 = 0):s.1 = [] /\ s.2 = 0:=by
 unfold Qi at h
 by_cases c:0 < s.1.length
 ·simp only [if_pos c] at h;exact absurd h (N.xh (by decide))
 ·simp only [if_neg c] at h;exact ⟨List.eq_nil_of_length_eq_zero (by omega),h⟩
end Go.Ep.M.D


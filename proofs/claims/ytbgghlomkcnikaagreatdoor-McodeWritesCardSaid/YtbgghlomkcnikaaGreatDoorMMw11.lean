/- Side texts. -/
import Derived.Test.YtbgghlomkcnikaaGreatDoorMMw3
import Derived.Test.YtbgghlomkcnikaaGreatDoorMMw9
import Derived.Test.YtbgghlomkcnikaaGreatDoorMMw10
set_option linter.unusedVariables false
set_option linter.unusedSimpArgs false
namespace Go.Ep.M.N
open Go

theorem wRa (n:Int):IntKind.u8.wrap n = n % 256:=by simp [IntKind.wrap,IntKind.bits,IntKind.signed]
def WG (n:Nat):Nat:=if n = 0 then 0 else WG (n / 256) + 1
theorem uq : WG 0 = 0:=by rw [WG];rfl
theorem Zg {n:Nat} (h:n ≠ 0):WG n = WG (n / 256) + 1:=by rw [WG,if_neg h]
theorem zPa : ∀ (k n:Nat),n < 256 ^ k -> WG n <= k
 | 0,n,h=>by
  have:n = 0:=by simpa using h
  rw [this,uq];exact Nat.le_refl _
 | k + 1,n,h=>by
  by_cases h0:n = 0
  ·rw [h0,uq];omega
  ·rw [Zg h0];have:=zPa k (n / 256) (by rw [Nat.pow_succ] at h;omega);omega
theorem wSa : ∀ (k n:Nat),256 ^ k <= n -> k + 1 <= WG n
 | 0,n,h=>by
  have:n ≠ 0:=by intro h0;rw [h0] at h;simp at h
  rw [Zg this];omega
 | k + 1,n,h=>by
  have hp:0 < 256 ^ k:=Nat.pow_pos (by decide);rw [Nat.pow_succ] at h;have:n ≠ 0:=by omega
  rw [Zg this];have:=wSa k (n / 256) (by omega);omega
theorem ja {n:Nat} (h:n < 18446744073709551616):WG n <= 8:=zPa 8 n (by simpa using h)

theorem fdiv256 (n:Nat):Int.fdiv (n:Int) (2 ^ 8) = ((n / 256:Nat):Int):=by
 rw [Int.fdiv_eq_ediv_of_nonneg _ (by decide)];have:(2 ^ 8:Int) = 256:=rfl;rw [this];omega
theorem wTa (n:Nat):Int.tdiv (n:Int) 256 = ((n / 256:Nat):Int):=by
 rw [Int.tdiv_eq_ediv_of_nonneg (by omega)];omega
theorem len_loop : ∀ (n k:Nat),k + WG n <= 1000 -> loop uP ((n:Int),(k:Int)) = pure (((k + WG n:Nat)):Int):=by
 intro n
 induction n using Nat.strongRecOn with
 | _ n ih=>
  intro k hk
  by_cases h0:n = 0
  ·subst h0;rw [uq,Nat.add_zero];exact zZ (by unfold uP;simp)
  ·rw [Zg h0] at hk ⊢;rw [zQ (s':=(((n / 256:Nat):Int),((k + 1:Nat):Int))) (by
    unfold uP;have:decide ((0:Int) < (n:Int)) = true:=by simp;omega
    simp only [this,cond_true,fdiv256,zn (show k < 9223372036854775807 by omega)]),ih (n / 256) (by omega) (k + 1) (by omega)]
   congr 2;omega
theorem Len_eq {v:Int} (h0:0 <= v) (h:v <= 18446744073709551615):XU v = pure (WG v.toNat:Int):=by
 obtain ⟨n,rfl⟩:=Int.eq_ofNat_of_zero_le h0;unfold XU;have:=len_loop n 0 (by have:=ja (n:=n) (by omega);omega);rw [show (0:Int) = ((0:Nat):Int) from rfl,this,zA,Nat.zero_add,Int.toNat_natCast]
theorem wUa : ∀ (n k:Nat),n < 18446744073709551616 -> k + WG n <= 1000 -> loop Yd ((n:Int),(k:Int)) = pure (((k + WG n:Nat)):Int):=by
 intro n
 induction n using Nat.strongRecOn with
 | _ n ih=>
  intro k hn hk
  by_cases h0:n = 0
  ·subst h0;rw [uq,Nat.add_zero];exact zZ (by unfold Yd;simp)
  ·rw [Zg h0] at hk ⊢;rw [zQ (s':=(((n / 256:Nat):Int),((k + 1:Nat):Int))) (by
    unfold Yd;have:decide ((0:Int) < (n:Int)) = true:=by simp;omega
    simp only [this,cond_true,wTa,zn (show k < 9223372036854775807 by omega),Xu (show (0:Int) <= ((n / 256:Nat):Int) by omega) (by omega)]),ih (n / 256) (by omega) (k + 1) (by omega) (by omega)]
   congr 2;omega
theorem rLen_eq {v:Int} (h0:0 <= v) (h:v <= 18446744073709551615):jy v = pure (WG v.toNat:Int):=by
 obtain ⟨n,rfl⟩:=Int.eq_ofNat_of_zero_le h0;unfold jy;have:=wUa n 0 (by omega) (by have:=ja (n:=n) (by omega);omega);rw [show (0:Int) = ((0:Nat):Int) from rfl,this,zA,Nat.zero_add,Int.toNat_natCast]

def uT (n i:Nat):Int:=((n / 256 ^ i % 256:Nat):Int)
theorem QB (n i:Nat):0 <= uT n i /\ uT n i <= 255:=by unfold uT;omega
theorem Byte_eq (n i:Nat) (hi:i <= 7):YS (n:Int) (i:Int) = pure (uT n i):=by
 have h8:i = 0 \/ i = 1 \/ i = 2 \/ i = 3 \/ i = 4 \/ i = 5 \/ i = 6 \/ i = 7:=by omega
 unfold YS uT;rw [Xu (show (0:Int) <= (i:Int) by omega) (by omega),Xu (show (0:Int) <= 8 * (i:Int) by omega) (by omega)];have hd:decide ((7:Int) < (i:Int)) = false:=by simp;omega
 simp only [hd,cond_false];rw [zD (by omega),wRa,Int.fdiv_eq_ediv_of_nonneg _ (by exact Int.le_of_lt (Int.pow_pos (by decide)))]
 congr 1
 have e:(2:Int) ^ min (8 * (i:Int)).toNat 64 = ((256 ^ i:Nat):Int):=by
  rcases h8 with rfl | rfl | rfl | rfl | rfl | rfl | rfl | rfl <;> rfl
 rw [e];exact (by rw [Int.natCast_emod,Int.natCast_ediv];rfl)
theorem y1a (m:Nat):∀ (j:Nat) (n:Nat),j <= m -> m <= 7 -> n < 18446744073709551616 -> loop (xx (m:Int)) ((n:Int),(j:Int)) = pure ((n / 256 ^ (m - j):Nat):Int):=by
 have key:∀ (d j n:Nat),j + d = m -> m <= 7 -> n < 18446744073709551616 -> loop (xx (m:Int)) ((n:Int),(j:Int)) = pure ((n / 256 ^ d:Nat):Int):=by
  intro d
  induction d with
  | zero=>
   intro j n hj hm hn;have:j = m:=by omega
   subst this;rw [zZ (r:=(n:Int)) (by unfold xx;simp)];simp
  | succ d ih=>
   intro j n hj hm hn;rw [zQ (s':=(((n / 256:Nat):Int),((j + 1:Nat):Int))) (by
    unfold xx;have:decide ((j:Int) < (m:Int)) = true:=by simp;omega
    simp only [this,cond_true,wTa,zn (show j < 9223372036854775807 by omega),Xu (show (0:Int) <= ((n / 256:Nat):Int) by omega) (by omega)]),ih (j + 1) (n / 256) (by omega) hm (by omega)]
   rw [Nat.pow_succ,Nat.mul_comm,Nat.div_div_eq_div_mul]
 intro j n hj hm hn;exact key (m - j) j n (by omega) hm hn
theorem rByte_eq (n i:Nat) (hi:i <= 7) (hn:n < 18446744073709551616):VS (n:Int) (i:Int) = pure (uT n i):=by
 unfold VS uT;have h1:decide ((i:Int) < 0) = false:=by simp
 have h2:decide ((7:Int) < (i:Int)) = false:=by simp;omega
 have h3:loop (xx (i:Int)) ((n:Int),0) = pure ((n / 256 ^ (i - 0):Nat):Int):=y1a i 0 n (by omega) hi hn;rw [h1,h2,cond_false,zA,cond_false,h3,zA,Nat.sub_zero,Int.tmod_eq_emod_of_nonneg (Int.natCast_nonneg _),wRa]
 congr 1
 generalize n / 256 ^ i = q
 omega

def be (n:Nat):Nat -> List Int
 | 0=>[]
 | k + 1=>uT n k :: be n k
theorem be_len (n:Nat):∀ k,(be n k).length = k
 | 0=>rfl
 | k + 1=>by simp [be,be_len n k]
def xIa (n:Nat):List Int:=(WG n:Int) :: be n (WG n)
def xE (v:Int):List Int:=xIa v.toNat
theorem zR {v:Int} (h:v <= 18446744073709551615):(xE v).length <= 9:=by
 have:=ja (n:=v.toNat) (by omega);simp [xE,xIa,be_len];omega
theorem yLa (n:Nat):∀ (k:Nat) (out:List Int),k <= 8 -> out.length + k <= 100000000000000 -> loop (vI (n:Int)) ((k:Int) - 1,out) = pure (out ++ be n k)
 | 0,out,_,_=>by
  rw [be,List.append_nil];exact zZ (by unfold vI;simp)
 | k + 1,out,hk,ho=>by
  have e:((k + 1:Nat):Int) - 1 = (k:Int):=by omega
  rw [e,zQ (s':=((k:Int) - 1,out ++ [uT n k])) (by
   unfold vI;have h1:decide ((0:Int) <= (k:Int)) = true:=by simp
   simp only [h1,cond_true,Byte_eq n k (by omega),zB,zA];rw [zD (by simp;omega),Wz (by omega) (by omega)]),yLa n k _ (by omega) (by simp;omega),be,List.append_assoc]
  rfl
theorem wVa (b:List Int) {v:Int} (h0:0 <= v) (h:v <= 18446744073709551615) (hb:b.length <= 10000000000000):YT b v = pure (b ++ xE v):=by
 have h8:=ja (n:=v.toNat) (by omega);unfold YT;rw [Len_eq h0 h,zB,zA,Wz (show -9223372036854775808 <= (b.length:Int) + (WG v.toNat:Int) by omega) (by omega),Wz (by omega) (by omega),zD (by omega),zD (by simp;omega),zD (by simp;omega),wU8 (by omega) (by omega),Wz (by omega) (by omega)];have:=yLa v.toNat (WG v.toNat) (([]:List Int) ++ b ++ [(WG v.toNat:Int)]) h8 (by simp;omega);rw [show ((v.toNat:Nat):Int) = v by omega] at this;rw [this,zA];simp [xE,xIa]
theorem QC (n:Nat) (hn:n < 18446744073709551616):∀ (k:Nat) (out:List Int),k <= 8 -> out.length + k <= 100000000000000 -> loop (vL (n:Int)) ((k:Int) - 1,out) = pure (out ++ be n k)
 | 0,out,_,_=>by
  rw [be,List.append_nil];exact zZ (by unfold vL;simp)
 | k + 1,out,hk,ho=>by
  have e:((k + 1:Nat):Int) - 1 = (k:Int):=by omega
  rw [e,zQ (s':=((k:Int) - 1,out ++ [uT n k])) (by
   unfold vL;have h1:decide ((0:Int) <= (k:Int)) = true:=by simp
   simp only [h1,cond_true,rByte_eq n k (by omega) hn,zB,zA];rw [zD (by simp;omega),Wz (by omega) (by omega)]),QC n hn k _ (by omega) (by simp;omega),be,List.append_assoc]
  rfl
theorem zy (b:List Int) {v:Int} (h0:0 <= v) (h:v <= 18446744073709551615) (hb:b.length <= 10000000000000):zc b v = pure (b ++ xE v):=by
 have h8:=ja (n:=v.toNat) (by omega);unfold zc;rw [rLen_eq h0 h,zD (by simp;omega),zB,zA,zD (by simp;omega),wU8 (by omega) (by omega),Wz (by omega) (by omega)];have:=QC v.toNat (by omega) (WG v.toNat) (([]:List Int) ++ b ++ [(WG v.toNat:Int)]) h8 (by simp;omega);rw [show ((v.toNat:Nat):Int) = v by omega] at this;rw [this,zA];simp [xE,xIa]


def By (l:List Int):Prop:=∀ x ∈ l,0 <= x /\ x <= 255
theorem By.drop {l:List Int} (h:By l) (n:Nat):By (l.drop n):=fun x hx=>h x (List.mem_of_mem_drop hx)
theorem By.take {l:List Int} (h:By l) (n:Nat):By (l.take n):=fun x hx=>h x (List.mem_of_mem_take hx)
theorem By.app {a b:List Int} (ha:By a) (hb:By b):By (a ++ b):=fun x hx=>(List.mem_append.1 hx).elim (ha x) (hb x)
theorem By.nil : By []:=fun x hx=>by cases hx
theorem by_be (n:Nat):∀ k,By (be n k)
 | 0=>By.nil
 | k + 1=>fun x hx=>by
  rcases List.mem_cons.1 hx with rfl | h
  ·exact QB n k
  ·exact by_be n k x h
theorem vD {v:Int} (h:v <= 18446744073709551615):By (xE v):=fun x hx=>by
 have:=ja (n:=v.toNat) (by omega);rcases List.mem_cons.1 hx with rfl | h
 ·omega
 ·exact by_be _ _ x h

def Jp (l:List Int):Int:=l.foldl (fun v x=>v * 256 + x) 0
theorem UW : ∀ (l:List Int) (v k:Nat),By l -> v < 256 ^ k -> ∃ n:Nat,l.foldl (fun v x=>v * 256 + x) (v:Int) = (n:Int) /\ n < 256 ^ (k + l.length) /\ v * 256 ^ l.length <= n
 | [],v,k,_,hv=>⟨v,rfl,by simpa using hv,by simp⟩
 | x :: r,v,k,hb,hv=>by
  have hx:=hb x (by simp);obtain ⟨n,h1,h2,h3⟩:=UW r (v * 256 + x.toNat) (k + 1) (fun y hy=>hb y (by simp [hy])) (by rw [Nat.pow_succ];omega);refine ⟨n,?_,by rw [show k + (x :: r).length = k + 1 + r.length by simp;omega];exact h2,?_⟩
  ·rw [List.foldl_cons,<- h1]
   congr 1;omega
  ·refine Nat.le_trans ?_ h3;rw [List.length_cons,Nat.pow_succ];have:v * (256 ^ r.length * 256) = v * 256 * 256 ^ r.length:=by rw [Nat.mul_comm (256 ^ r.length),Nat.mul_assoc]
   rw [this];exact Nat.mul_le_mul_right _ (by omega)
theorem wWa {l:List Int} (h:By l) (h8:l.length <= 8):0 <= Jp l /\ Jp l <= 18446744073709551615:=by
 obtain ⟨n,h1,h2,_⟩:=UW l 0 0 h (by decide);have h3:256 ^ (0 + l.length) <= 256 ^ 8:=Nat.pow_le_pow_right (by decide) (by omega);have h4:(256:Nat) ^ 8 = 18446744073709551616:=by decide
 rw [Jp,show (0:Int) = ((0:Nat):Int) from rfl,h1];omega
def rdN : List Int -> Int × Nat × Int
 | []=>(0,0,2)
 | n :: r=>if 8 < n \/ (0 < n /\ r.head? = some 0) then (0,0,4) else if (r.length:Int) < n then (0,0,2) else (Jp (r.take n.toNat),n.toNat + 1,0)
theorem rdN_cons (n:Int) (r:List Int):rdN (n :: r) = if 8 < n \/ (0 < n /\ r.head? = some 0) then (0,0,4) else if (r.length:Int) < n then (0,0,2) else (Jp (r.take n.toNat),n.toNat + 1,0):=rfl
theorem QD (b:List Int) (hb:By b):(rdN b = (0,0,2) \/ rdN b = (0,0,4)) \/ ∃ n r,b = n :: r /\ 0 <= n /\ n <= 8 /\ n <= (r.length:Int) /\ ¬ (0 < n /\ r.head? = some 0) /\ rdN b = (Jp (r.take n.toNat),n.toNat + 1,0):=by
 cases b with
 | nil=>exact .inl (.inl rfl)
 | cons n r=>
  have hn:=hb n (by simp);rw [rdN_cons]
  by_cases h1:8 < n \/ (0 < n /\ r.head? = some 0)
  ·rw [if_pos h1];exact .inl (.inr rfl)
  ·rw [if_neg h1]
   by_cases h2:(r.length:Int) < n
   ·rw [if_pos h2];exact .inl (.inl rfl)
   ·rw [if_neg h2];exact .inr ⟨n,r,rfl,hn.1,by omega,by omega,fun h=>h1 (.inr h),rfl⟩
theorem wXa (b:List Int) (hb:By b):0 <= (rdN b).1 /\ (rdN b).1 <= 18446744073709551615 /\ (rdN b).2.1 <= b.length /\ ((rdN b).2.2 = 0 \/ (rdN b).2.2 = 2 \/ (rdN b).2.2 = 4):=by
 rcases QD b hb with (h | h) | ⟨n,r,rfl,h0,h8,hl,_,h⟩
 ·rw [h];simp
 ·rw [h];simp
 ·rw [h];have:=wWa (l:=r.take n.toNat) (fun x hx=>hb x (by simp [List.mem_of_mem_take hx])) (by rw [List.length_take];omega);refine ⟨this.1,this.2,?_,.inl rfl⟩;simp;omega
theorem be_of : ∀ (l:List Int),By l -> ∀ n:Nat,Jp l = (n:Int) -> be n l.length = l:=by
 intro l;have key:∀ (m:Nat) (l:List Int),l.length = m -> By l -> ∀ n:Nat,Jp l = (n:Int) -> be n l.length = l:=by
  intro m
  induction m with
  | zero=>intro l hl _ n _;have:=List.eq_nil_of_length_eq_zero hl;subst this;rfl
  | succ m ih=>
   intro l hl hb n hn
   cases l with
   | nil=>simp at hl
   | cons x r=>
    have hx:=hb x (by simp);have hr:By r:=fun y hy=>hb y (by simp [hy])
    obtain ⟨q,h1,h2,h3⟩:=UW r 0 0 hr (by decide);obtain ⟨q2,h4,h5,h6⟩:=UW r x.toNat 1 hr (by omega);have hq:Jp r = (q:Int):=h1;have hq2:Jp (x :: r) = (q2:Int):=by
     rw [Jp,List.foldl_cons,<- h4];congr 1;omega
    have hrl:r.length = m:=by simpa using hl
    have e:q2 = n:=by omega
    subst e;have hlin:∀ (l:List Int) (v:Int),l.foldl (fun v x=>v * 256 + x) v = v * 256 ^ l.length + Jp l:=by
     intro l
     induction l with
     | nil=>intro v;simp [Jp]
     | cons y t iht=>
      intro v;have e:Jp (y :: t) = y * 256 ^ t.length + Jp t:=by rw [Jp,List.foldl_cons,iht];simp
      rw [List.foldl_cons,iht,e,List.length_cons,Int.pow_succ,Int.add_mul,Int.mul_assoc,Int.mul_comm 256,Int.add_assoc]
    have hsum:(q2:Int) = x * 256 ^ r.length + (q:Int):=by
     rw [<- hq,<- hlin r x,<- hq2,Jp,List.foldl_cons];congr 1;omega
    have hqlt:q < 256 ^ r.length:=by simpa using h2
    have hnat:q2 = x.toNat * 256 ^ r.length + q:=by
     have:((q2:Nat):Int) = ((x.toNat * 256 ^ r.length + q:Nat):Int):=by
      rw [hsum,Int.natCast_add,Int.natCast_mul,Int.natCast_pow,Int.toNat_of_nonneg hx.1];rfl
     exact Int.ofNat.inj this
    have hp:0 < 256 ^ r.length:=Nat.pow_pos (by decide);have hdiv:q2 / 256 ^ r.length = x.toNat:=by
     rw [hnat,Nat.mul_comm,Nat.mul_add_div hp,Nat.div_eq_of_lt hqlt,Nat.add_zero]
    rw [List.length_cons,be];have hb1:uT q2 r.length = x:=by unfold uT;rw [hdiv];omega
    rw [hb1]
    congr 1
    have hbe:∀ k,k <= r.length -> be q2 k = be q k:=by
     intro k hk
     induction k with
     | zero=>rfl
     | succ k ihk=>
      rw [be,be,ihk (by omega)]
      congr 1
      show ((q2 / 256 ^ k % 256:Nat):Int) = ((q / 256 ^ k % 256:Nat):Int)
      congr 1
      have hs:256 ^ r.length = 256 ^ k * (256 * 256 ^ (r.length - k - 1)):=by
       rw [<- Nat.pow_succ',<- Nat.pow_add];congr 1;omega
      have hpk:0 < 256 ^ k:=Nat.pow_pos (by decide);rw [hnat,hs,Nat.mul_left_comm,Nat.mul_add_div hpk];rw [Nat.mul_left_comm,Nat.mul_add_mod]
    rw [hbe _ (Nat.le_refl _)];exact ih r hrl hr q hq
 exact key l.length l rfl
theorem rdN_one {b:List Int} (hb:By b) (h:(rdN b).2.2 = 0):b = xE (rdN b).1 ++ b.drop (rdN b).2.1:=by
 rcases QD b hb with (h1 | h1) | ⟨n,r,rfl,h0,h8,hl,hh,h1⟩
 ·rw [h1] at h;simp at h
 ·rw [h1] at h;simp at h
 ·rw [h1];have hr:By r:=fun x hx=>hb x (by simp [hx])
  have hbt:=hr.take n.toNat;have hlt:(r.take n.toNat).length = n.toNat:=by rw [List.length_take];omega
  obtain ⟨q,h2,h3,h4⟩:=UW (r.take n.toNat) 0 0 hbt (by decide);have hq:Jp (r.take n.toNat) = (q:Int):=h2;have hbe:=be_of _ hbt q hq;rw [hlt] at hbe;have hlen:WG q = n.toNat:=by
   apply Nat.le_antisymm
   ·exact zPa _ _ (by simpa [hlt] using h3)
   ·rcases Nat.eq_zero_or_pos n.toNat with hz | hz
    ·omega
    ·obtain ⟨k,hk⟩:∃ k,n.toNat = k + 1:=⟨n.toNat - 1,by omega⟩
     rw [hk];refine wSa k q ?_;rw [hk,be] at hbe;have hne:uT q k ≠ 0:=by
      intro e;rw [e] at hbe;refine hh ⟨by omega,?_⟩;have:=congrArg List.head? hbe;rw [List.head?_cons,List.head?_take,if_neg (by omega)] at this;exact this.symm
     unfold uT at hne;have hp:0 < 256 ^ k:=Nat.pow_pos (by decide);rcases Nat.lt_or_ge q (256 ^ k) with hlt2 | hge
     ·rw [Nat.div_eq_of_lt hlt2] at hne;simp at hne
     ·exact hge
  show n :: r = xE (Jp (r.take n.toNat)) ++ (n :: r).drop (n.toNat + 1);rw [hq,xE,Int.toNat_natCast,xIa,hlen,hbe,List.drop_succ_cons,List.cons_append,List.take_append_drop]
  congr 1;omega

abbrev RS:=List Int × Int
structure Ok (s:RS):Prop where
 by_:By s.1
 len:s.1.length <= 1000000000
 nil:s.2 ≠ 0 -> s.1 = []
def Zh (e:Int) (s:RS):RS:=if s.2 = 0 /\ e ≠ 0 then ([],e) else s
def yV (s:RS):Int × RS:=if s.2 ≠ 0 then (0,s) else if (rdN s.1).2.2 ≠ 0 then (0,Zh (rdN s.1).2.2 s) else ((rdN s.1).1,(s.1.drop (rdN s.1).2.1,0))
def xd (m:Int) (s:RS):Int × RS:=if m < (yV s).1 then (0,Zh 4 (yV s).2) else yV s
def Zq (s:RS):Int × RS:=if s.2 ≠ 0 then (0,s) else match s.1 with | []=>(0,Zh 2 s) | x :: r=>(x,(r,0))
def XE (m:Int) (s:RS):ByteArray × RS:=
 if (yV s).2.2 ≠ 0 then (⟨#[]⟩,(yV s).2) else if max m 0 < (yV s).1 then (⟨#[]⟩,Zh 3 (yV s).2) else if ((yV s).2.1.length:Int) < (yV s).1 then (⟨#[]⟩,Zh 2 (yV s).2)
 else (Qb ((yV s).2.1.take (yV s).1.toNat),((yV s).2.1.drop (yV s).1.toNat,0))
def endS (s:RS):Int × RS:=let t:=if 0 < s.1.length then Zh 4 s else s;(t.2,t)
theorem XF {s:RS} (h:Ok s) (e:Int):Ok (Zh e s):=by
 unfold Zh
 by_cases c:s.2 = 0 /\ e ≠ 0
 ·rw [if_pos c];exact ⟨By.nil,by simp,fun _=>rfl⟩
 ·rw [if_neg c];exact h
theorem Zi {s:RS} {e:Int} (h:e ≠ 0):(Zh e s).2 ≠ 0:=by
 unfold Zh
 by_cases c:s.2 = 0
 ·rw [if_pos ⟨c,h⟩];exact h
 ·rw [if_neg (fun q=>c q.1)];exact c
theorem num_of {s:RS} (h:s.2 ≠ 0):yV s = (0,s):=if_pos h
theorem Wy {s:RS} (h:Ok s):Ok (yV s).2 /\ 0 <= (yV s).1 /\ (yV s).1 <= 18446744073709551615:=by
 unfold yV;have hr:=wXa s.1 h.by_
 by_cases c:s.2 ≠ 0
 ·rw [if_pos c];exact ⟨h,by simp,by simp⟩
 ·rw [if_neg c]
  by_cases c2:(rdN s.1).2.2 ≠ 0
  ·rw [if_pos c2];exact ⟨XF h _,by simp,by simp⟩
  ·rw [if_neg c2];exact ⟨⟨h.by_.drop _,by simp;have:=h.len;omega,fun h=>absurd rfl h⟩,hr.1,hr.2.1⟩
theorem wYa {s:RS} (h:Ok s) {m:Int} (hm:0 <= m):Ok (xd m s).2 /\ 0 <= (xd m s).1 /\ (xd m s).1 <= m:=by
 unfold xd;obtain ⟨h1,h2,h3⟩:=Wy h
 by_cases c:m < (yV s).1
 ·rw [if_pos c];exact ⟨XF h1 _,by simp,hm⟩
 ·rw [if_neg c];exact ⟨h1,h2,by omega⟩
theorem wZa {s:RS} (h:Ok s):Ok (Zq s).2 /\ 0 <= (Zq s).1 /\ (Zq s).1 <= 255:=by
 unfold Zq
 by_cases c:s.2 ≠ 0
 ·rw [if_pos c];exact ⟨h,by simp,by simp⟩
 ·rw [if_neg c]
  cases hs:s.1 with
  | nil=>exact ⟨XF h _,by simp,by simp⟩
  | cons x r=>
   have hb:=h.by_;have hl:=h.len;rw [hs] at hb hl;exact ⟨⟨fun y hy=>hb y (by simp [hy]),by simp at hl ⊢;omega,fun h=>absurd rfl h⟩,(hb x (by simp)).1,(hb x (by simp)).2⟩
theorem ok_text {s:RS} (h:Ok s) (m:Int):Ok (XE m s).2:=by
 unfold XE;obtain ⟨h1,h2,h3⟩:=Wy h
 split
 ·exact h1
 ·split
  ·exact XF h1 _
  ·split
   ·exact XF h1 _
   ·exact ⟨h1.by_.drop _,by simp;have:=h1.len;omega,fun h=>absurd rfl h⟩

theorem waa (b row:List Int) (h:row.length + b.length <= 100000000000000):yF b row = pure (row ++ b):=by
 unfold yF;rw [zD (by omega)]
theorem xr {v:Int} (row:List Int) (h0:0 <= v) (h:v <= 18446744073709551615) (hr:row.length <= 10000000000000):zG v row = pure (row ++ xE v):=by
 unfold zG;have:=zR h;rw [wVa [] h0 h (by simp),zB,zA,List.nil_append,waa _ _ (by omega),zB,zA]
theorem Bytes_eq (row:List Int) (h:row.length <= 100000000000000):yH row = pure (row,row):=by
 unfold yH;rw [zD (by omega)]
theorem Jq (c:Int) (row:List Int) (hr:row.length <= 10000000000000):zg c row = pure (row ++ [c]):=by
 unfold zg;rw [waa _ _ (by simp;omega),zB,zA]


structure Sim (B:List Int) (a:Int) (s:RS):Prop where
 lo:0 <= a
 hi:a <= B.length
 eq:s.2 = 0 -> s.1 = B.drop a.toNat
structure OkB (B:List Int):Prop where
 by_:By B
 len:B.length <= 1000000000
theorem Sim.start (B:List Int):Sim B 0 (B,0):=⟨Int.le_refl _,by omega,fun _=>rfl⟩
theorem OkB.ok {B:List Int} (h:OkB B):Ok (B,0):=⟨h.by_,h.len,fun h=>absurd rfl h⟩
variable {B:List Int} {a:Int} {s:RS}
end Go.Ep.M.N

namespace Go.Ep.M.D
open Go

theorem jb {a b:DT}:zT a b = true ↔ a.dev < b.dev \/ (a.dev = b.dev /\ a.n < b.n):=by simp [zT]
theorem yMa (a:DT):zT a a = false:=by
 cases h:zT a a with
 | false=>rfl
 | true=>rw [jb] at h;omega
theorem Vd {a b c:DT} (h1:zT a b = true) (h2:zT b c = true):zT a c = true:=by rw [jb] at *;omega
theorem zQa {a b:DT} (h:zT a b = true):zT b a = false:=by
 cases h2:zT b a with
 | false=>rfl
 | true=>rw [jb] at h h2;omega
theorem yNa {a b:DT} (h1:zT a b = false) (h2:zT b a = false):a = b:=by
 have h3:¬ (zT a b = true):=by simp [h1]
 have h4:¬ (zT b a = true):=by simp [h2]
 rw [jb] at h3 h4
 cases a;cases b
 simp only [DT.mk.injEq] at *
 omega
abbrev Srt (l:List DT):Prop:=l.Pairwise fun x y=>zT x y = true
theorem zRa : ∀ {l l':List DT},Srt l -> Srt l' -> (∀ d,d ∈ l ↔ d ∈ l') -> l = l'
 | [],[],_,_,_=>rfl
 | [],y :: r,_,_,h=>by have:=(h y).2 (by simp);simp at this
 | x :: r,[],_,_,h=>by have:=(h x).1 (by simp);simp at this
 | x :: r,y :: t,h1,h2,h=>by
  have hx:=(h x).1 (by simp);have hy:=(h y).2 (by simp);have e:x = y:=by
   rcases List.mem_cons.1 hx with e | hx
   ·exact e
   ·rcases List.mem_cons.1 hy with e | hy
    ·exact e.symm
    ·have a1:=(List.pairwise_cons.1 h2).1 x hx;have a2:=(List.pairwise_cons.1 h1).1 y hy;rw [zQa a1] at a2;cases a2
  subst e
  congr 1
  refine zRa (List.pairwise_cons.1 h1).2 (List.pairwise_cons.1 h2).2 fun d=>?_
  have h3:=h d;simp only [List.mem_cons] at h3
  constructor
  ·intro hd;rcases h3.1 (.inr hd) with e | h4
   ·have:=(List.pairwise_cons.1 h1).1 d hd;rw [e,yMa] at this;cases this
   ·exact h4
  ·intro hd;rcases h3.2 (.inr hd) with e | h4
   ·have:=(List.pairwise_cons.1 h2).1 d hd;rw [e,yMa] at this;cases this
   ·exact h4

def Uz (s:List DT) (d:DT):List DT:=(s.filter fun x=>zT x d) ++ [d] ++ (s.filter fun x=>zT d x)
theorem ins_mem {s:List DT} {d x:DT}:x ∈ Uz s d ↔ x = d \/ x ∈ s:=by
 simp only [Uz,List.mem_append,List.mem_filter,List.mem_singleton]
 constructor
 ·rintro ((h | h) | h)
  ·exact .inr h.1
  ·exact .inl h
  ·exact .inr h.1
 ·rintro (h | h)
  ·exact .inl (.inr h)
  ·cases h1:zT x d with
   | true=>exact .inl (.inl ⟨h,rfl⟩)
   | false=>
    cases h2:zT d x with
    | true=>exact .inr ⟨h,rfl⟩
    | false=>exact .inl (.inr (yNa h1 h2))
theorem ins_srt {s:List DT} (h:Srt s) (d:DT):Srt (Uz s d):=by
 unfold Srt Uz;rw [List.pairwise_append,List.pairwise_append];refine ⟨⟨h.filter _,by simp,fun a ha b hb=>?_⟩,h.filter _,fun a ha b hb=>?_⟩
 ·rw [List.mem_singleton.1 hb];exact (List.mem_filter.1 ha).2
 ·have hb:=(List.mem_filter.1 hb).2;rcases List.mem_append.1 ha with ha | ha
  ·exact Vd (List.mem_filter.1 ha).2 hb
  ·rw [List.mem_singleton.1 ha];exact hb
theorem UX (s:List DT) (d:DT):(Uz s d).length <= s.length + 1:=by
 unfold Uz;have h:∀ l:List DT,(l.filter fun x=>zT x d).length + (l.filter fun x=>zT d x).length <= l.length:=by
  intro l
  induction l with
  | nil=>simp
  | cons x r ih=>
   cases h1:zT x d with
   | true=>simp [h1,zQa h1];omega
   | false=>
    cases h2:zT d x with
    | true=>simp [h1,h2];omega
    | false=>simp [h1,h2];omega
 have:=h s;simp;omega
def ya (l:List DT):List DT:=l.foldl Uz []
theorem Ve : ∀ (l s:List DT),Srt s -> Srt (l.foldl Uz s) /\ (∀ d,d ∈ l.foldl Uz s ↔ d ∈ s \/ d ∈ l) /\ (l.foldl Uz s).length <= s.length + l.length
 | [],s,h=>⟨h,by simp,by simp⟩
 | x :: r,s,h=>by
  obtain ⟨h1,h2,h3⟩:=Ve r (Uz s x) (ins_srt h x);refine ⟨h1,fun d=>?_,?_⟩
  ·rw [List.foldl_cons,h2 d,ins_mem,List.mem_cons]
   constructor
   ·rintro ((h | h) | h)
    ·exact .inr (.inl h)
    ·exact .inl h
    ·exact .inr (.inr h)
   ·rintro (h | h | h)
    ·exact .inl (.inr h)
    ·exact .inl (.inl h)
    ·exact .inr h
  ·have:=UX s x;rw [List.foldl_cons,List.length_cons];omega
theorem yOa (l:List DT):Srt (ya l):=(Ve l [] List.Pairwise.nil).1
theorem Jr {l:List DT} {d:DT}:d ∈ ya l ↔ d ∈ l:=by simpa [ya] using (Ve l [] List.Pairwise.nil).2.1 d
theorem Vf (l:List DT):(ya l).length <= l.length:=by simpa [ya] using (Ve l [] List.Pairwise.nil).2.2
theorem wba {l:List DT} (h:Srt l):ya l = l:=zRa (yOa l) h fun _=>Jr
theorem Wj (s:List DT) (d:DT) (h:s.length <= 1000000000000):uW s d = pure (Uz s d):=V.WY s d h

def ddS (out:List DT) (x:DT):List DT:=if out.getLast? = some x then out else out ++ [x]
def dd (l:List DT):List DT:=l.foldl ddS []
theorem UY (l:List DT) (x:DT):dd (l ++ [x]) = ddS (dd l) x:=by simp [dd]
theorem zSa (l:List DT):(dd l).getLast? = l.getLast?:=by
 rcases R.yv l with rfl | ⟨r,y,rfl⟩
 ·rfl
 ·rw [UY];unfold ddS
  by_cases c:(dd r).getLast? = some y
  ·rw [if_pos c,c];simp
  ·rw [if_neg c];simp
theorem dd_mem {l:List DT} {d:DT}:d ∈ dd l ↔ d ∈ l:=by
 have:∀ (l s:List DT),d ∈ l.foldl ddS s ↔ d ∈ s \/ d ∈ l:=by
  intro l
  induction l with
  | nil=>intro s;simp
  | cons x r ih=>
   intro s;rw [List.foldl_cons,ih];have h2:d ∈ ddS s x ↔ d ∈ s \/ d = x:=by
    unfold ddS
    split
    ·rename_i h
     exact ⟨.inl,fun h3=>h3.elim id fun e=>by rw [e];exact List.mem_of_getLast? h⟩
    ·simp
   rw [h2,List.mem_cons];exact or_assoc
 simpa [dd] using this l []
theorem dd_srt {l:List DT} (h:l.Pairwise fun x y=>zT y x = false):Srt (dd l):=by
 have:∀ (n:Nat) (l:List DT),l.length = n -> (l.Pairwise fun x y=>zT y x = false) -> Srt (dd l):=by
  intro n
  induction n with
  | zero=>intro l hl _;have:=List.eq_nil_of_length_eq_zero hl;subst this;exact List.Pairwise.nil
  | succ n ih=>
   intro l hl h;rcases R.yv l with rfl | ⟨r,y,rfl⟩
   ·simp at hl
   ·rw [List.pairwise_append] at h;have hr:=ih r (by simpa using hl) h.1;rw [UY];unfold ddS
    split
    ·exact hr
    ·rename_i hne
     unfold Srt;rw [List.pairwise_append];refine ⟨hr,by simp,fun a ha b hb=>?_⟩;rw [List.mem_singleton.1 hb];have ha':=dd_mem.1 ha;have h1:=h.2.2 a ha' y (by simp)
     cases h2:zT a y with
     | true=>rfl
     | false=>
      exfalso;have e:=yNa h2 h1;subst e;rw [zSa] at hne;rcases R.yv r with rfl | ⟨q,z,rfl⟩
      ·simp at ha'
      ·have hz:zT a z = false:=h.2.2 z (by simp) a (by simp);rcases List.mem_append.1 ha' with h5 | h5
       ·have h6:zT z a = false:=by
         have:=(List.pairwise_append.1 h.1).2.2 a h5 z (by simp);exact this
        have:=yNa hz h6;subst this;simp at hne
       ·rw [List.mem_singleton.1 h5] at hne;simp at hne
 exact this l.length l rfl h

theorem Clone_eq (l:List DT) (h:l.length <= 1000000000000):yD l = pure l:=by
 unfold yD;refine uw ⟨⟨false,fun h=>by cases h⟩,fun b hb=>?_⟩
 cases b with
 | true=>show ([]:List DT) = l;exact (hb rfl).symm
 | false=>
  show _ /\ ([] ++ l = l)
  exact ⟨by simp;omega,List.nil_append l⟩
theorem y2a (x y:DT):(decide (x.dev = y.dev) && decide (x.n = y.n)) = decide (x = y):=by
 cases x;cases y;simp [Bool.decide_and]
theorem YC {l:List DT} {m:Nat} {x:DT} (h:l[m]? = some x):l.take (m + 1) = l.take m ++ [x]:=by
 rw [List.take_add_one,h];rfl
theorem QE {l:List DT} {m:Nat} {x:DT} (h:l[m]? = some x):(l.take (m + 1)).getLast? = some x:=by rw [YC h];simp
theorem Wk (s:List DT) (k:Nat) (hk:k < s.length) (hl:s.length <= 1000000000000):∀ (d k2 kk:Nat) (v:List DT),k + k2 + d = s.length -> 1 <= k2 -> v.length = s.length -> kk + 1 <= k + k2 -> v.take kk = dd (s.take (k + k2)) -> v.drop (k + k2 - 1) = s.drop (k + k2 - 1) ->
  ∃ (kk':Nat) (v':List DT),loop (zW s (k:Int)) ((kk:Int),(k2:Int),v) = pure ((kk':Int),v') /\ v'.length = s.length /\ kk' <= s.length /\ v'.take kk' = dd s
 | 0,k2,kk,v,hd,h1,hv,hkk,ht,_=>by
  refine ⟨kk,v,zZ ?_,hv,by omega,by rw [ht,show k + k2 = s.length by omega,List.take_length]⟩;unfold zW;have:decide ((k2:Int) < (((s.length - (k:Int).toNat:Nat)):Int)) = false:=by simp;omega
  simp only [this,cond_false]
 | d + 1,k2,kk,v,hd,h1,hv,hkk,ht,hdr=>by
  have hvg:∀ j,k + k2 - 1 <= j -> v[j]? = s[j]?:=fun j hj=>by
   have:=congrArg (fun l=>l[j - (k + k2 - 1)]?) hdr;simp only [List.getElem?_drop] at this;rw [show k + k2 - 1 + (j - (k + k2 - 1)) = j by omega] at this;exact this
  obtain ⟨x,hx⟩:∃ x,s[k + k2]? = some x:=⟨_,List.getElem?_eq_getElem (by omega)⟩
  obtain ⟨y,hy⟩:∃ y,s[k + k2 - 1]? = some y:=⟨_,List.getElem?_eq_getElem (by omega)⟩
  have hlast:(dd (s.take (k + k2))).getLast? = some y:=by
   rw [zSa];have:=QE hy
   rwa [show k + k2 - 1 + 1 = k + k2 by omega] at this
  have hdd:dd (s.take (k + k2 + 1)) = if y = x then dd (s.take (k + k2)) else dd (s.take (k + k2)) ++ [x]:=by
   rw [YC hx,UY];unfold ddS;rw [hlast]
   by_cases c:y = x
   ·rw [if_pos c,if_pos (by rw [c])]
   ·rw [if_neg c,if_neg (by intro e;exact c (Option.some.inj e))]
  have hb:zW s (k:Int) ((kk:Int),(k2:Int),v) = pure (.next (if y = x then ((kk:Int),((k2 + 1:Nat):Int),v) else (((kk + 1:Nat):Int),((k2 + 1:Nat):Int),v.set kk x))):=by
   unfold zW;have hc:decide ((k2:Int) < (((s.length - (k:Int).toNat:Nat)):Int)) = true:=by simp;omega
   have e1:IntKind.i64.wrap ((k2:Int) - 1) = ((k2 - 1:Nat):Int):=by rw [Wz (by omega) (by omega)];omega
   have i1:idx v ((((k:Int).toNat + (k2:Int).toNat:Nat)):Int) = pure x:=zH (by rw [Int.toNat_natCast,Int.toNat_natCast,hvg _ (by omega)];exact hx);have i2:idx v ((((k:Int).toNat + (((k2 - 1:Nat):Int)).toNat:Nat)):Int) = pure y:=zH (by rw [Int.toNat_natCast,Int.toNat_natCast,hvg _ (by omega),show k + (k2 - 1) = k + k2 - 1 by omega];exact hy);obtain ⟨z,hz⟩:∃ z,v[kk]? = some z:=⟨_,List.getElem?_eq_getElem (by omega)⟩
   have i3:idx v (kk:Int) = pure z:=zH hz;simp only [hc,cond_true,e1];rw [zD (by simp;omega),i1,zA,zD (by simp;omega),i2,zA];simp only [y2a]
   by_cases c:y = x
   ·have c1:decide (x = y) = true:=decide_eq_true c.symm;simp only [c1,Bool.not_true,cond_false,zA,zn (show k2 < 9223372036854775807 by omega),if_pos c]
   ·have c1:decide (x = y) = false:=decide_eq_false (fun e=>c e.symm);simp only [c1,Bool.not_false,cond_true,if_neg c];rw [zD (by simp;omega),i3];simp only [zA,zn (show k2 < 9223372036854775807 by omega),zn (show kk < 9223372036854775807 by omega),Int.toNat_natCast]
  by_cases c:y = x
  ·rw [if_pos c] at hb hdd;rw [zQ hb];refine Wk s k hk hl d (k2 + 1) kk v (by omega) (by omega) hv (by omega) (by rw [ht,<- hdd];rfl) ?_;have:=congrArg (List.drop 1) hdr;rw [List.drop_drop,List.drop_drop,show k + k2 - 1 + 1 = k + (k2 + 1) - 1 by omega] at this;exact this
  ·rw [if_neg c] at hb hdd;rw [zQ hb];refine Wk s k hk hl d (k2 + 1) (kk + 1) (v.set kk x) (by omega) (by omega) (by simpa using hv) (by omega) ?_ ?_
   ·have h5:(v.set kk x)[kk]? = some x:=by rw [List.getElem?_set];simp;omega
    rw [YC h5,List.take_set,List.set_eq_of_length_le (by rw [List.length_take];omega),ht,<- hdd];rfl
   ·rw [List.drop_set,if_pos (by omega)];have:=congrArg (List.drop 1) hdr;rw [List.drop_drop,List.drop_drop,show k + k2 - 1 + 1 = k + (k2 + 1) - 1 by omega] at this;exact this
theorem y3a (s:List DT) (hl:s.length <= 1000000000000):zf s = pure (dd s):=by
 unfold zf
 by_cases h2:s.length < 2
 ·have:decide ((s.length:Int) < 2) = true:=by simp;omega
  rw [this,cond_true]
  match s,h2 with
  | [],_=>rfl
  | [x],_=>rfl
 ·have:decide ((s.length:Int) < 2) = false:=by simp;omega
  rw [this,cond_false];have key:∀ d k,k + d = s.length -> 1 <= k -> dd (s.take k) = s.take k -> (loop (zX s) (k:Int)).bind (exk fun _=>pure s) = pure (dd s):=by
   intro d
   induction d with
   | zero=>
    intro k hk h1 hd;rw [zZ (r:=.brk ()) (by
     unfold zX;have:decide ((k:Int) < (s.length:Int)) = false:=by simp;omega
     simp only [this,cond_false])]
    rw [show k = s.length by omega,List.take_length] at hd;show pure s = pure (dd s);rw [hd]
   | succ d ih=>
    intro k hk h1 hd;obtain ⟨x,hx⟩:∃ x,s[k]? = some x:=⟨_,List.getElem?_eq_getElem (by omega)⟩
    obtain ⟨y,hy⟩:∃ y,s[k - 1]? = some y:=⟨_,List.getElem?_eq_getElem (by omega)⟩
    have hlast:(dd (s.take k)).getLast? = some y:=by
     rw [zSa];have:=QE hy
     rwa [show k - 1 + 1 = k by omega] at this
    have hc:decide ((k:Int) < (s.length:Int)) = true:=by simp;omega
    have i1:idx s (k:Int) = pure x:=zH hx;have i2:idx s (IntKind.i64.wrap ((k:Int) - 1)) = pure y:=by
     rw [Wz (by omega) (by omega)];exact jH (by omega) (by rw [show ((k:Int) - 1).toNat = k - 1 by omega];exact hy)
    by_cases c:x = y
    ·subst c;obtain ⟨kk,v,h5,h6,h7,h8⟩:=Wk s k (by omega) hl d 1 k s (by omega) (by omega) rfl (by omega) (by
      rw [YC hx,UY,ddS,if_pos hlast,hd]) (by rw [show k + 1 - 1 = k by omega])
     rw [zZ (r:=.ret (dd s)) (by
      unfold zX;simp only [hc,cond_true,i1,i2,zA,y2a,decide_true];rw [zD (by omega),show (1:Int) = ((1:Nat):Int) from rfl,h5,zA];simp only [];rw [zD (by omega),zD (by simp;omega),zD (by
       simp only [List.length_append,List.length_take,List.length_replicate,List.length_drop,Int.toNat_natCast];omega),zA,xw]
      congr 3
      rw [Int.toNat_natCast,List.append_assoc,List.take_append_of_le_length (by rw [List.length_take];omega),List.take_take,Nat.min_self,h8])]
     rfl
    ·have c1:decide (x = y) = false:=decide_eq_false c;rw [zQ (s':=((k + 1:Nat):Int)) (by
      unfold zX;simp only [hc,cond_true,i1,i2,zA,y2a,c1,cond_false,xh,zn (show k < 9223372036854775807 by omega)])]
     refine ih (k + 1) (by omega) (by omega) ?_;rw [YC hx,UY,ddS,if_neg (by rw [hlast];intro e;exact c (Option.some.inj e).symm),hd]
  have:=key (s.length - 1) 1 (by omega) (by omega) (by
   obtain ⟨x,r,rfl⟩:∃ x r,s = x :: r:=by
    cases s with
    | nil=>simp at h2
    | cons x r=>exact ⟨x,r,rfl⟩
   rfl)
  exact this
theorem wGa {l:List DT} {Q:List DT -> Prop} (h:∀ s,s.Perm l -> (s.Pairwise fun x y=>zT y x = false) -> Q s):(srt zT l).wp Q:=by
 refine ⟨⟨l.mergeSort (fun x y=>!zT y x),List.mergeSort_perm _ _,?_⟩,fun s ⟨h1,h2⟩=>h s h1 h2⟩;refine (List.pairwise_mergeSort (fun a b c h1 h2=>?_) (fun a b=>?_) l).imp fun {x y} h=>by simpa using h
 ·simp only [Bool.not_eq_true'] at h1 h2 ⊢
  cases h3:zT c a with
  | false=>rfl
  | true=>
   rw [jb] at h3;have h4:¬ (zT b a = true):=by simp [h1]
   have h5:¬ (zT c b = true):=by simp [h2]
   rw [jb] at h4 h5;omega
 ·cases h1:zT b a with
  | false=>rfl
  | true=>rw [zQa h1];rfl
theorem zTa (l:List DT) (h:l.length <= 1000000000000):YO l = pure (ya l):=by
 unfold YO;rw [Clone_eq l h,zB,zA,zD (by omega)];refine uw (wGa fun s hs hp=>?_);show (bind (det (zf s)) fun y8=>pure y8).wp _;rw [y3a s (by rw [hs.length_eq];exact h),zB,zA];exact zRa (dd_srt hp) (yOa l) fun d=>by rw [dd_mem,Jr];exact hs.mem_iff

theorem cmp16_eq (x y:Int):yf x y = pure (R.wHa x y):=by
 unfold yf xM R.wHa;simp only [decide_true,Bool.not_true,zB,zA,cond_false,xP]
 split
 ·rfl
 ·split <;> rfl
theorem yPa (a b:DT):ZA a b = pure (V.z4a a b):=by
 unfold ZA;rw [cmp16_eq,zB,zA,R.wIa,zB,zA];unfold V.z4a R.wHa
 cases a with | mk d n=>cases b with | mk e m=>
 simp only [DT.mk.injEq,zT]
 by_cases h1:d < e
 ·have:¬ d = e:=by omega
  simp [h1,this]
 ·by_cases h2:e < d
  ·have:¬ d = e:=by omega
   simp [h1,h2,this]
  ·have h3:d = e:=by omega
   subst h3
   by_cases h4:n < m
   ·have:¬ n = m:=by omega
    simp [h4,this]
   ·by_cases h5:m < n
    ·have:¬ n = m:=by omega
     simp [h4,h5,this]
    ·have:n = m:=by omega
     simp [this]


theorem Zj {σ ρ ε:Type} {body:σ -> M (Step σ ρ)} (l:List ε) (f:ε -> List Int) (row:List Int) (N:Nat) (mk:Nat -> List Int -> σ) (g:List Int -> M ρ) (hN:row.length + (l.flatMap f).length <= N)
  (h1:∀ (i:Nat) (x:ε) (out:List Int),l[i]? = some x -> i < l.length -> out.length + (f x).length <= N -> body (mk i out) = pure (.next (mk (i + 1) (out ++ f x))))
  (h2:∀ out,body (mk l.length out) = (g out).bind fun r=>pure (.done r)):loop body (mk 0 row) = g (row ++ l.flatMap f):=by
 have key:∀ (k i:Nat) (out:List Int),i + k = l.length -> out.length + ((l.drop i).flatMap f).length <= N -> loop body (mk i out) = g (out ++ (l.drop i).flatMap f):=by
  intro k
  induction k with
  | zero=>
   intro i out hi _;have:i = l.length:=by omega
   subst this;rw [Vn,h2,List.drop_length];simp only [List.flatMap_nil,List.append_nil]
   rfl
  | succ k ih=>
   intro i out hi hl;have hlt:i < l.length:=by omega
   rw [List.drop_eq_getElem_cons hlt,List.flatMap_cons,List.length_append] at hl;rw [zQ (h1 i l[i] out (List.getElem?_eq_getElem hlt) hlt (by omega)),ih (i + 1) _ (by omega) (by rw [List.length_append];omega),List.drop_eq_getElem_cons hlt,List.flatMap_cons,List.append_assoc]
 simpa using key l.length 0 row (by omega) (by simpa using hN)
theorem uU {ε:Type} (l:List ε) (f:ε -> List Int) (k:Nat) (h:∀ x ∈ l,(f x).length <= k):(l.flatMap f).length <= k * l.length:=by
 induction l with
 | nil=>simp
 | cons x r ih=>
  have h1:=h x (by simp);have h2:=ih fun y hy=>h y (by simp [hy])
  rw [List.flatMap_cons,List.length_append,List.length_cons,Nat.mul_add];omega

structure OkD (d:DT):Prop where
 d0:0 <= d.dev
 d1:d.dev <= 65535
 n0:0 <= d.n
 n1:d.n <= 18446744073709551615
def encD (d:DT):List Int:=N.xE d.dev ++ N.xE d.n
theorem Yg {d:DT} (h:OkD d):(encD d).length <= 18:=by
 have h1:=N.zR (v:=d.dev) (by have:=h.d1;omega);have h2:=N.zR (v:=d.n) h.n1;rw [encD,List.length_append];omega
theorem QF {d:DT} (h:OkD d) (row:List Int) (hr:row.length <= 1000000000000):xI d row = pure (row ++ encD d):=by
 have h1:=N.zR (v:=d.dev) (by have:=h.d1;omega);unfold xI;rw [Xu h.d0 (by have:=h.d1;omega),N.xr row h.d0 (by have:=h.d1;omega) (by omega),zB,zA,N.xr _ h.n0 h.n1 (by rw [List.length_append];omega),zB,zA,encD,List.append_assoc]
theorem jc {d:DT} (h:OkD d) (row:List Int) (hr:row.length <= 1000000000000):uh row d = pure (row ++ encD d):=by
 have h1:=N.zR (v:=d.dev) (by have:=h.d1;omega);unfold uh;rw [Xu h.d0 (by have:=h.d1;omega),N.zy row h.d0 (by have:=h.d1;omega) (by omega),zB,zA,N.zy _ h.n0 h.n1 (by rw [List.length_append];omega),zB,zA,encD,List.append_assoc]
def xW (l:List DT):List DT:=l.filter V.yA
def WH (l:List DT):List Int:=N.xE (ya (xW l)).length ++ (ya (xW l)).flatMap encD
theorem wca (l : List DT) (hl : l.length <= 1000000000000) : loop (yP l) (0, []) = pure (xW l) := by
  have := Zz (body := yP l) l (fun i t => ((i : Int), t)) (fun t d => if V.yA d = true then t ++ [d] else t) (fun t => pure t) (fun i t => t.length <= i) (fun i x t hx hi hI => by
    have hd : decide ((i : Int) < (l.length : Int)) = true := by simpa using hi
    refine ⟨?_, by split
                   · simp; omega
                   · omega⟩
    unfold yP;simp only [hd, cond_true, zH hx, zA, V.Za, zB, zn (show i < 9223372036854775807 by omega)]
    by_cases c : V.yA x = true
    · rw [c, cond_true, zD (by simp; omega), zA, if_pos rfl]
    · simp only [Bool.not_eq_true] at c;rw [c, cond_false, zA]; rfl) (fun t _ => by
    unfold yP;simp [zA]) [] (by simp)
  rw [show (0 : Int) = ((0 : Nat) : Int) from rfl, this]
  congr 1
  have key : ∀ (l t : List DT), l.foldl (fun t d => if V.yA d = true then t ++ [d] else t) t = t ++ xW l := by
    intro l
    induction l with
    | nil => intro t; simp [xW]
    | cons x r ih =>
      intro t;rw [List.foldl_cons, ih];unfold xW
      by_cases c : V.yA x = true
      · rw [if_pos c, List.filter_cons_of_pos c, List.append_assoc]; rfl
      · rw [if_neg c, List.filter_cons_of_neg c]
  simpa using key l []
theorem yQa {l:List DT} {d:DT}:d ∈ ya (xW l) ↔ d ∈ l /\ V.yA d = true:=by rw [Jr,xW,List.mem_filter]
theorem WI (l:List DT):(ya (xW l)).length <= l.length:=Nat.le_trans (Vf _) (List.length_filter_le _ _)
theorem WJ {l:List DT} (h:∀ d ∈ l,OkD d):∀ d ∈ ya (xW l),OkD d:=fun d hd=>h d (yQa.1 hd).1
theorem wda {l:List DT} (h:∀ d ∈ l,OkD d) (hl:l.length <= 1000000000000):(WH l).length <= 9 + 18 * l.length:=by
 have h1:=N.zR (v:=((ya (xW l)).length:Int)) (by have:=WI l;omega);have h2:=uU (ya (xW l)) encD 18 fun x hx=>Yg (WJ h x hx)
 have h3:=WI l;rw [WH,List.length_append];omega
theorem y4a {l:List DT} (h:∀ d ∈ l,OkD d) (hl:l.length <= 1000000000) (row:List Int) (hr:row.length <= 100000000000):xm l row = pure (row ++ WH l):=by
 have h3:=WI l;have h1:=N.zR (v:=((ya (xW l)).length:Int)) (by omega);have h2:=uU (ya (xW l)) encD 18 fun x hx=>Yg (WJ h x hx)
 unfold xm;rw [wca l (by omega),zA,zTa _ (by have:=List.length_filter_le V.yA l;unfold xW;omega),zB,zA,Xu (by omega) (by omega),N.xr row (by omega) (by omega) (by omega),zB,zA];have:=Zj (body:=yh (ya (xW l))) (ya (xW l)) encD (row ++ N.xE ((ya (xW l)).length:Int)) 1000000000000 (fun i out=>((i:Int),out)) (fun t=>pure t) (by rw [List.length_append];omega) (fun i x out hx hi ho=>by
  have hd:decide ((i:Int) < ((ya (xW l)).length:Int)) = true:=by simpa using hi
  unfold yh;simp only [hd,cond_true,zH hx,zA,QF (WJ h x (List.mem_of_getElem? hx)) out (by omega),zB,zn (show i < 9223372036854775807 by omega)]) (fun out=>by
  unfold yh;simp [zA])
 rw [show (0:Int) = ((0:Nat):Int) from rfl,this,WH,List.append_assoc]
theorem Wl (l : List DT) (hl : l.length <= 1000000000000) : loop (xJ l) ([], 0) = pure (ya (xW l)) := by
  have := Zz (body := xJ l) l (fun i t => (t, (i : Int))) (fun t d => if V.yA d = true then Uz t d else t) (fun t => pure t) (fun i t => t.length <= i) (fun i x t hx hi hI => by
    have hd : decide ((i : Int) < (l.length : Int)) = true := by simpa using hi
    refine ⟨?_, by split
                   · have := UX t x; omega
                   · omega⟩
    unfold xJ;simp only [hd, cond_true, zH hx, zA, V.vz, zB, zn (show i < 9223372036854775807 by omega)]
    by_cases c : V.yA x = true
    · rw [c, cond_true, Wj t x (by omega), zB, zA, zA, if_pos rfl]
    · simp only [Bool.not_eq_true] at c;rw [c, cond_false, zA]; rfl) (fun t _ => by
    unfold xJ;simp [zA]) [] (by simp)
  rw [show (0 : Int) = ((0 : Nat) : Int) from rfl, this]
  congr 1
  have key : ∀ (l t : List DT), l.foldl (fun t d => if V.yA d = true then Uz t d else t) t = (xW l).foldl Uz t := by
    intro l
    induction l with
    | nil => intro t; rfl
    | cons x r ih =>
      intro t;rw [List.foldl_cons, ih];unfold xW
      by_cases c : V.yA x = true
      · rw [if_pos c, List.filter_cons_of_pos c]; rfl
      · rw [if_neg c, List.filter_cons_of_neg c]
  exact key l []
theorem zUa {l:List DT} (h:∀ d ∈ l,OkD d) (hl:l.length <= 1000000000) (row:List Int) (hr:row.length <= 100000000000):ZP row l = pure (row ++ WH l):=by
 have h3:=WI l;have h1:=N.zR (v:=((ya (xW l)).length:Int)) (by omega);have h2:=uU (ya (xW l)) encD 18 fun x hx=>Yg (WJ h x hx)
 unfold ZP;rw [Wl l (by omega),zA,Xu (by omega) (by omega),N.zy row (by omega) (by omega) (by omega),zB,zA];have:=Zj (body:=wY (ya (xW l))) (ya (xW l)) encD (row ++ N.xE ((ya (xW l)).length:Int)) 1000000000000 (fun i out=>(out,(i:Int))) (fun t=>pure t) (by rw [List.length_append];omega) (fun i x out hx hi ho=>by
  have hd:decide ((i:Int) < ((ya (xW l)).length:Int)) = true:=by simpa using hi
  unfold wY;simp only [hd,cond_true,zH hx,zA,jc (WJ h x (List.mem_of_getElem? hx)) out (by omega),zB,zn (show i < 9223372036854775807 by omega)]) (fun out=>by
  unfold wY;simp [zA])
 rw [show (0:Int) = ((0:Nat):Int) from rfl,this,zA,WH,List.append_assoc]

def wea (x:RN):List Int:=N.xE x.lo ++ N.xE x.hi
def encP (p:PT):List Int:=N.xE p.dev ++ (N.xE p.runs.length ++ p.runs.flatMap wea)
def xIa (c:List PT):List Int:=N.xE c.length ++ c.flatMap encP
def jA (c:List PT):List Int:=xIa (C.zm c)
structure OkP (p:PT):Prop where
 d0:0 <= p.dev
 d1:p.dev <= 65535
 r:∀ x ∈ p.runs,(0 <= x.lo /\ x.lo <= 18446744073709551615) /\ 0 <= x.hi /\ x.hi <= 18446744073709551615
theorem Js {x:RN} (h:(0 <= x.lo /\ x.lo <= 18446744073709551615) /\ 0 <= x.hi /\ x.hi <= 18446744073709551615):(wea x).length <= 18:=by
 have h1:=N.zR h.1.2;have h2:=N.zR h.2.2;rw [wea,List.length_append];omega
theorem encP_len {p:PT} (h:OkP p) (hl:p.runs.length <= 1000000000000):(encP p).length <= 18 + 18 * p.runs.length:=by
 have h1:=N.zR (v:=p.dev) (by have:=h.d1;omega);have h2:=N.zR (v:=(p.runs.length:Int)) (by omega);have h3:=uU p.runs wea 18 fun x hx=>Js (h.r x hx)
 rw [encP,List.length_append,List.length_append];omega
theorem UZ (c:List PT) (h:∀ p ∈ c,OkP p) (hl:C.xB c <= 1000000000000):(c.flatMap encP).length <= 18 * c.length + 18 * C.xB c:=by
 induction c with
 | nil=>simp
 | cons p r ih=>
  have e:C.xB (p :: r) = p.runs.length + C.xB r:=by simp [C.xB]
  have h1:=encP_len (h p (by simp)) (by omega);have h2:=ih (fun q hq=>h q (by simp [hq])) (by omega);rw [List.flatMap_cons,List.length_append,List.length_cons,e];omega
theorem Jt {c:List PT} (h:∀ p ∈ c,OkP p) (hc:c.length <= 1000000000000) (hl:C.xB c <= 1000000000000):(xIa c).length <= 9 + 18 * c.length + 18 * C.xB c:=by
 have h1:=N.zR (v:=(c.length:Int)) (by omega);have h2:=UZ c h hl;rw [xIa,List.length_append];omega
theorem Vg {c:List PT} (h:∀ p ∈ c,p.dev <= 65535):∀ p ∈ C.zm c,OkP p:=fun p hp=>by
 have h1:=(C.vb c).nf p hp;refine ⟨by omega,?_,fun x hx=>?_⟩
 ·have h2:=(C.wG.1 hp).1;obtain ⟨q,hq,e⟩:=(C.xR.1 h2).1;rw [<- e];exact h q hq
 ·have:=R.zU.1 (h1.2.2.may x hx);omega


theorem WK {c:List PT} (ho:C.Ok c) (h:∀ p ∈ c,p.dev <= 65535) (hs:c.length <= 100000000 /\ C.xB c <= 100000000) (row:List Int) (hr:row.length <= 100000000000):zk c row = pure (row ++ jA c):=by
 have hn:=C.uB c;have ht:=C.uC c;have hp:=Vg h;have hl:=Jt hp (by omega) (by omega);have h9:=N.zR (v:=((C.zm c).length:Int)) (by omega);have hf:=UZ (C.zm c) hp (by omega);unfold zk;rw [C.zNa c ho.sm,zB,zA,Xu (by omega) (by omega),N.xr row (by omega) (by omega) (by omega),zB,zA];have:=Zj (body:=yp (C.zm c)) (C.zm c) encP (row ++ N.xE ((C.zm c).length:Int)) 1000000000000 (fun i out=>((i:Int),out)) (fun t=>pure t) (by rw [List.length_append];omega) (fun i p out hx hi hout=>by
  have hd:decide ((i:Int) < ((C.zm c).length:Int)) = true:=by simpa using hi
  have hm:=List.mem_of_getElem? hx;have hpp:=hp p hm;have hrl:p.runs.length <= 1000000000:=by have:=C.jZ p hm;omega
  have e1:=N.zR (v:=p.dev) (by have:=hpp.d1;omega);have e2:=N.zR (v:=(p.runs.length:Int)) (by omega);have e3:=uU p.runs wea 18 fun x hx=>Js (hpp.r x hx)
  unfold yp;simp only [hd,cond_true,zH hx,zA];rw [Xu hpp.d0 (by have:=hpp.d1;omega),N.xr out hpp.d0 (by have:=hpp.d1;omega) (by omega),zB,zA,Xu (by omega) (by omega),N.xr _ (by omega) (by omega) (by rw [List.length_append];omega),zB,zA];have:=Zj (body:=yo p) p.runs wea (out ++ N.xE p.dev ++ N.xE (p.runs.length:Int)) 2000000000000 (fun i out=>((i:Int),out)) (fun t=>pure t) (by rw [List.length_append,List.length_append];omega) (fun j x out2 hx2 hj hout2=>by
   have hd2:decide ((j:Int) < (p.runs.length:Int)) = true:=by simpa using hj
   have hxr:=hpp.r x (List.mem_of_getElem? hx2);have e4:=N.zR hxr.1.2;unfold yo;simp only [hd2,cond_true,zH hx2,zA];rw [N.xr out2 hxr.1.1 hxr.1.2 (by omega),zB,zA,N.xr _ hxr.2.1 hxr.2.2 (by rw [List.length_append];omega),zB,zA,zn (show j < 9223372036854775807 by omega),wea,List.append_assoc]) (fun out=>by
   unfold yo;simp [zA])
  rw [show (0:Int) = ((0:Nat):Int) from rfl,this,zA,zn (show i < 9223372036854775807 by omega),encP];simp only [List.append_assoc]) (fun out=>by
  unfold yp;simp [zA])
 rw [show (0:Int) = ((0:Nat):Int) from rfl,this,jA,xIa,List.append_assoc]
theorem Yh {c:List PT} (ho:C.Ok c) (h:∀ p ∈ c,p.dev <= 65535) (hs:c.length <= 100000000 /\ C.xB c <= 100000000) (row:List Int) (hr:row.length <= 100000000000):yt row c = pure (row ++ jA c):=by
 have hn:=C.uB c;have ht:=C.uC c;have hp:=Vg h;have hl:=Jt hp (by omega) (by omega);have h9:=N.zR (v:=((C.zm c).length:Int)) (by omega);have hf:=UZ (C.zm c) hp (by omega);unfold yt;rw [C.Vc c ho,zB,zA,Xu (by omega) (by omega),N.zy row (by omega) (by omega) (by omega),zB,zA];have:=Zj (body:=vN (C.zm c)) (C.zm c) encP (row ++ N.xE ((C.zm c).length:Int)) 1000000000000 (fun i out=>(out,(i:Int))) (fun t=>pure t) (by rw [List.length_append];omega) (fun i p out hx hi hout=>by
  have hd:decide ((i:Int) < ((C.zm c).length:Int)) = true:=by simpa using hi
  have hm:=List.mem_of_getElem? hx;have hpp:=hp p hm;have hrl:p.runs.length <= 1000000000:=by have:=C.jZ p hm;omega
  have e1:=N.zR (v:=p.dev) (by have:=hpp.d1;omega);have e2:=N.zR (v:=(p.runs.length:Int)) (by omega);have e3:=uU p.runs wea 18 fun x hx=>Js (hpp.r x hx)
  unfold vN;simp only [hd,cond_true,zH hx,zA];rw [Xu hpp.d0 (by have:=hpp.d1;omega),N.zy out hpp.d0 (by have:=hpp.d1;omega) (by omega),zB,zA,Xu (by omega) (by omega),N.zy _ (by omega) (by omega) (by rw [List.length_append];omega),zB,zA];have:=Zj (body:=vM (C.zm c) (i:Int)) p.runs wea (out ++ N.xE p.dev ++ N.xE (p.runs.length:Int)) 2000000000000 (fun i out=>(out,(i:Int))) (fun t=>pure t) (by rw [List.length_append,List.length_append];omega) (fun j x out2 hx2 hj hout2=>by
   have hd2:decide ((j:Int) < (p.runs.length:Int)) = true:=by simpa using hj
   have hxr:=hpp.r x (List.mem_of_getElem? hx2);have e4:=N.zR hxr.1.2;unfold vM;simp only [hd2,cond_true,zH hx,zH hx2,zA];rw [N.zy out2 hxr.1.1 hxr.1.2 (by omega),zB,zA,N.zy _ hxr.2.1 hxr.2.2 (by rw [List.length_append];omega),zB,zA,zn (show j < 9223372036854775807 by omega),wea,List.append_assoc]) (fun out=>by
   unfold vM;simp [zH hx,zA])
  rw [show (0:Int) = ((0:Nat):Int) from rfl,this,zA,zn (show i < 9223372036854775807 by omega),encP];simp only [List.append_assoc]) (fun out=>by
  unfold vN;simp [zA])
 rw [show (0:Int) = ((0:Nat):Int) from rfl,this,zA,jA,xIa,List.append_assoc]
theorem by_encC (c:List PT) (h:∀ p ∈ C.zm c,OkP p) (hl:(C.zm c).length <= 1000000000000 /\ C.xB (C.zm c) <= 1000000000000):N.By (jA c):=by
 have hR:∀ p,OkP p -> ∀ x ∈ p.runs,N.By (wea x):=fun p hp x hx=>(N.vD (hp.r x hx).1.2).app (N.vD (hp.r x hx).2.2)
 have flat:∀ {ε:Type} (l:List ε) (f:ε -> List Int),(∀ x ∈ l,N.By (f x)) -> N.By (l.flatMap f):=fun l f hf y hy=>by
  obtain ⟨x,hx,h⟩:=List.mem_flatMap.1 hy;exact hf x hx y h
 refine (N.vD (by omega)).app (flat _ _ fun p hp=>?_);have hpp:=h p hp;have:=C.jZ p hp;exact (N.vD (by have:=hpp.d1;omega)).app ((N.vD (by omega)).app (flat _ _ (hR p hpp)))
open N (RS Ok yV xd Zh endS OkB Sim)

def yRa (c:Bool) (s:RS):RS:=if c = true then Zh 4 s else s
def fin {α:Type} (z x:α) (t:RS):α × RS:=if t.2 ≠ 0 then (z,t) else (x,t)
theorem wfa {s:RS} (h:Ok s) (c:Bool):Ok (yRa c s):=by unfold yRa;split;exact N.XF h _;exact h
theorem zVa {c:Bool} {s:RS} (h:(yRa c s).2 = 0):c = false /\ s.2 = 0 /\ yRa c s = s:=by
 unfold yRa at h ⊢
 cases c with
 | true=>exact absurd h (N.Zi (by decide))
 | false=>exact ⟨rfl,h,rfl⟩
theorem fin_st {α:Type} (z x:α) (t:RS):(fin z x t).2 = t:=by unfold fin;split <;> rfl
theorem wga {α:Type} {z x:α} {t:RS} (h:t.2 = 0):fin z x t = (x,t):=if_neg (by simp [h])
theorem fin_bad {α:Type} {z x:α} {t:RS} (h:t.2 ≠ 0):fin z x t = (z,t):=if_pos h
theorem num_zero {s:RS} (h:(yV s).2.2 ≠ 0):(yV s).1 = 0:=by
 unfold yV at h ⊢
 by_cases c:s.2 ≠ 0
 ·rw [if_pos c]
 ·rw [if_neg c] at h ⊢
  by_cases c2:(N.rdN s.1).2.2 ≠ 0
  ·rw [if_pos c2]
  ·rw [if_neg c2] at h;exact absurd rfl h
theorem num_bad {s:RS} (h:s.2 ≠ 0):(yV s).2 = s:=by rw [N.num_of h]
theorem QG {s:RS} (h:(yV s).2.2 = 0):s.2 = 0:=Classical.byContradiction fun c=>by rw [num_bad c] at h;exact c h
theorem wha {m:Int} {s:RS} (h:(xd m s).2.2 = 0):(yV s).2.2 = 0 /\ xd m s = yV s:=by
 unfold xd at h ⊢
 by_cases c:m < (yV s).1
 ·rw [if_pos c] at h;exact absurd h (N.Zi (by decide))
 ·rw [if_neg c] at h ⊢;exact ⟨h,rfl⟩

def dotR (s:RS):DT:=⟨(xd 65535 s).1,(yV (xd 65535 s).2).1⟩
def dotT (s:RS):RS:=yRa (!V.yA (dotR s)) (yV (xd 65535 s).2).2
def Vh (s:RS):DT × RS:=fin ⟨0,0⟩ (dotR s) (dotT s)
theorem ySa {s:RS} (h:Ok s):Ok (Vh s).2 /\ OkD (Vh s).1 /\ OkD (dotR s):=by
 obtain ⟨h1,h2,h3⟩:=N.wYa h (m:=65535) (by decide);obtain ⟨h4,h5,h6⟩:=N.Wy h1;have ht:Ok (dotT s):=wfa h4 _;have hr:OkD (dotR s):=⟨h2,h3,h5,h6⟩
 unfold Vh
 by_cases c:(dotT s).2 = 0
 ·rw [wga c];exact ⟨ht,hr,hr⟩
 ·rw [fin_bad c];exact ⟨ht,⟨Int.le_refl _,by simp,Int.le_refl _,by simp⟩,hr⟩
theorem wia {s:RS} (h:(Vh s).2.2 = 0):V.yA (Vh s).1 = true /\ (xd 65535 s).2.2 = 0 /\ (yV (xd 65535 s).2).2.2 = 0 /\ Vh s = (dotR s,(yV (xd 65535 s).2).2):=by
 unfold Vh at h ⊢;rw [fin_st] at h;rw [wga h];obtain ⟨h1,h2,h3⟩:=zVa h;refine ⟨by simpa using h1,QG h2,h2,?_⟩;show (dotR s,dotT s) = _;rw [show dotT s = (yV (xd 65535 s).2).2 from h3]
variable {B:List Int} {a:Int} {s:RS}
def wja (out:List DT) (x:DT):Bool:=match out.getLast? with | some y=>decide (0 <= V.z4a y x) | none=>false
def Wm (out:List DT) (s:RS):RS:=yRa (wja out (Vh s).1) (Vh s).2
def zi : Nat -> List DT -> RS -> List DT × RS
 | 0,out,s=>(out,s)
 | k + 1,out,s=>if (Wm out s).2 ≠ 0 then ([],Wm out s) else zi k (out ++ [(Vh s).1]) (Wm out s)
def vT (most:Int) (s:RS):List DT × RS:=if max most 0 < (yV s).1 then ([],Zh 3 (yV s).2) else zi (yV s).1.toNat [] (yV s).2
theorem Ua {k:Nat} {out:List DT} {s:RS} (h:(Wm out s).2 ≠ 0):zi (k + 1) out s = ([],Wm out s):=if_pos h
theorem Wn {k:Nat} {out:List DT} {s:RS} (h:(Wm out s).2 = 0):zi (k + 1) out s = zi k (out ++ [(Vh s).1]) (Wm out s):=if_neg (by simp [h])
theorem Ju {s:RS} (h:Ok s) (out:List DT):Ok (Wm out s):=wfa (ySa h).1 _
theorem yTa : ∀ (k:Nat) (out:List DT) (s:RS),Ok s -> Ok (zi k out s).2
 | 0,_,_,h=>h
 | k + 1,out,s,h=>by
  by_cases c:(Wm out s).2 = 0
  ·rw [Wn c];exact yTa k _ _ (Ju h out)
  ·rw [Ua c];exact Ju h out
theorem wQa {s:RS} (h:Ok s) (most:Int):Ok (vT most s).2:=by
 have h1:=N.Wy h;unfold vT
 split
 ·exact N.XF h1.1 _
 ·exact yTa _ _ _ h1.1
theorem dotsT_ok {out:List DT} {s:RS} (h:(Wm out s).2 = 0):wja out (Vh s).1 = false /\ (Vh s).2.2 = 0 /\ Wm out s = (Vh s).2:=zVa h
open N (RS Ok yV xd Zh endS OkB Sim)

def runsL : Nat -> List RN -> RS -> List RN × RS
 | 0,out,s=>(out,s)
 | k + 1,out,s=>
  if (yV (yV s).2).2.2 ≠ 0 then (out ++ [⟨(yV s).1,(yV (yV s).2).1⟩],(yV (yV s).2).2) else runsL k (out ++ [⟨(yV s).1,(yV (yV s).2).1⟩]) (yV (yV s).2).2
def partS (s:RS):PT × RS:=(⟨(xd 65535 s).1,(runsL (yV (xd 65535 s).2).1.toNat [] (yV (xd 65535 s).2).2).1⟩,(runsL (yV (xd 65535 s).2).1.toNat [] (yV (xd 65535 s).2).2).2)
def ctxL : Nat -> List PT -> RS -> Bool × List PT × RS
 | 0,out,s=>(true,out,s)
 | k + 1,out,s=>if (partS s).2.2 ≠ 0 then (false,[],(partS s).2) else ctxL k (out ++ [(partS s).1]) (partS s).2
def ctxS (s:RS):List PT × RS:=
 let r:=ctxL (yV s).1.toNat [] (yV s).2
 if r.1 = true then fin [] r.2.1 (yRa (!decide (r.2.1 = C.zm r.2.1)) r.2.2) else ([],r.2.2)
variable {B:List Int} {a:Int} {s:RS}
open N (RS Ok yV xd Zh endS OkB Sim)

def YD : List DT -> Bool
 | []=>true
 | x :: r=>(match r with | []=>true | y :: _=>zT x y) && YD r
theorem yUa : ∀ {l:List DT},YD l = true ↔ Srt l
 | []=>⟨fun _=>List.Pairwise.nil,fun _=>rfl⟩
 | [x]=>⟨fun _=>by simp [Srt],fun _=>rfl⟩
 | x :: y :: r=>by
  show (zT x y && YD (y :: r)) = true ↔ _;rw [Bool.and_eq_true,yUa (l:=y :: r)];unfold Srt;rw [List.pairwise_cons (a:=x)]
  constructor
  ·rintro ⟨h1,h2⟩;refine ⟨fun z hz=>?_,h2⟩;rcases List.mem_cons.1 hz with rfl | hz
   ·exact h1
   ·exact Vd h1 ((List.pairwise_cons.1 h2).1 z hz)
  ·rintro ⟨h1,h2⟩;exact ⟨h1 y (by simp),h2⟩
theorem wka (x y:DT):decide (0 <= V.z4a x y) = !zT x y:=by
 by_cases h:zT x y = true
 ·have:=V.JZ.2 h;rw [h];simp;omega
 ·have h2:¬ V.z4a x y < 0:=fun e=>h (V.JZ.1 e)
  simp only [Bool.not_eq_true] at h;rw [h];simp;omega
theorem y5a (l:List DT) (hl:l.length <= 1000000000000):Yb l = pure (YD l):=by
 unfold Yb;have key:∀ (k i:Nat) (x:DT) (r:List DT),i + k = l.length -> l.drop i = r -> i ≠ 0 -> l[i - 1]? = some x -> loop (yr l) (i:Int) = pure (if YD (x :: r) = true then .brk () else .ret false):=by
  intro k
  induction k with
  | zero=>
   intro i x r hi hr h1 hx;have:r = []:=by rw [<- hr];exact List.drop_eq_nil_of_le (by omega)
   subst this;exact zZ (by
    unfold yr;have:decide ((i:Int) < (l.length:Int)) = false:=by simp;omega
    simp only [this,cond_false];rfl)
  | succ k ih=>
   intro i x r hi hr h1 hx;have hlt:i < l.length:=by omega
   have hr2:r = l[i] :: l.drop (i + 1):=by rw [<- hr];exact List.drop_eq_getElem_cons hlt
   have hy:=List.getElem?_eq_getElem hlt;have hi1:idx l (IntKind.i64.wrap ((i:Int) - 1)) = pure x:=by
    rw [Wz (by omega) (by omega)];exact jH (by omega) (by rw [show ((i:Int) - 1).toNat = i - 1 by omega];exact hx)
   have hb:yr l (i:Int) = cond (!zT x l[i]) (pure (.done (.ret false))) (pure (.next ((i + 1:Nat):Int))):=by
    unfold yr;have:decide ((i:Int) < (l.length:Int)) = true:=by simp;omega
    simp only [this,cond_true,hi1,zH hy,zA,V.un,zB,wka,zn (show i < 9223372036854775807 by omega)]
   rw [hr2];show _ = (pure (if (zT x l[i] && YD (l[i] :: l.drop (i + 1))) = true then Ex.brk () else Ex.ret false):M (Ex Unit Bool))
   cases c:zT x l[i] with
   | true=>
    rw [c] at hb;rw [zQ hb,Bool.true_and];exact ih (i + 1) l[i] _ (by omega) rfl (by omega) hy
   | false=>
    rw [c] at hb;rw [zZ hb];rfl
 cases l with
 | nil=>
  rw [zZ (r:=.brk ()) (by unfold yr;rfl)];rfl
 | cons x r=>
  have:=key r.length 1 x r (by simp;omega) rfl (by decide) rfl;rw [show ((1:Nat):Int) = 1 from rfl] at this;rw [this,zA]
  cases YD (x :: r) <;> rfl

theorem QH {l:List DT} (hs:Srt l) (h:∀ d ∈ l,V.yA d = true):ya (xW l) = l:=by
 have e:xW l = l:=List.filter_eq_self.2 h;rw [e];exact wba hs
open N (RS Ok yV xd Zh endS OkB Sim)

theorem Ub {s:RS} (hO:Ok s) (h:(yV s).2.2 = 0):s.1 = N.xE (yV s).1 ++ (yV s).2.1:=by
 have h0:=QG h;unfold yV at h ⊢;rw [if_neg (by simp [h0])] at h ⊢
 by_cases c:(N.rdN s.1).2.2 = 0
 ·rw [if_neg (by simp [c])];exact N.rdN_one hO.by_ c
 ·rw [if_pos c] at h;exact absurd h (N.Zi c)
theorem upto_inv {s:RS} (hO:Ok s) {m:Int} (h:(xd m s).2.2 = 0):s.1 = N.xE (xd m s).1 ++ (xd m s).2.1:=by
 obtain ⟨h1,h2⟩:=wha h;rw [h2];exact Ub hO h1
theorem wla {s:RS} (hO:Ok s) (h:(Vh s).2.2 = 0):s.1 = encD (Vh s).1 ++ (Vh s).2.1:=by
 obtain ⟨_,h1,h2,h3⟩:=wia h;have e1:=upto_inv hO h1;have e2:=Ub (N.wYa hO (m:=65535) (by decide)).1 h2;rw [h3];show s.1 = (N.xE (xd 65535 s).1 ++ N.xE (yV (xd 65535 s).2).1) ++ _;rw [List.append_assoc,<- e2];exact e1
theorem QI : ∀ (k:Nat) (out:List DT) (s:RS),Ok s -> s.2 = 0 -> Srt out -> (∀ d ∈ out,V.yA d = true) -> (zi k out s).2.2 = 0 -> ∃ l,(zi k out s).1 = out ++ l /\ l.length = k /\ s.1 = l.flatMap encD ++ (zi k out s).2.1 /\ Srt (out ++ l) /\ (∀ d ∈ out ++ l,V.yA d = true) /\ ∀ d ∈ l,OkD d
 | 0,out,s,_,_,hs,hg,_=>⟨[],by simp [zi],rfl,by simp [zi],by simpa using hs,by simpa using hg,by simp⟩
 | k + 1,out,s,hO,h0,hs,hg,h=>by
  by_cases c:(Wm out s).2 = 0
  ·obtain ⟨c1,c2,c3⟩:=dotsT_ok c;rw [Wn c] at h ⊢;have hgd:=(wia c2).1;have hs2:Srt (out ++ [(Vh s).1]):=by
    unfold Srt;rw [List.pairwise_append];refine ⟨hs,by simp,fun a ha b hb=>?_⟩;rw [List.mem_singleton.1 hb];rcases R.yv out with rfl | ⟨q,y,rfl⟩
    ·simp at ha
    ·have hy:zT y (Vh s).1 = true:=by
      unfold wja at c1;simp only [List.getLast?_append,List.getLast?_singleton,Option.some_or,wka] at c1;simpa using c1
     rcases List.mem_append.1 ha with h5 | h5
     ·exact Vd ((List.pairwise_append.1 hs).2.2 a h5 y (by simp)) hy
     ·rw [List.mem_singleton.1 h5];exact hy
   obtain ⟨l,e1,e2,e3,e4,e5,e6⟩:=QI k _ _ (Ju hO out) c hs2 (fun d hd=>by
    rcases List.mem_append.1 hd with h5 | h5
    ·exact hg d h5
    ·rw [List.mem_singleton.1 h5];exact hgd) h
   refine ⟨(Vh s).1 :: l,by rw [e1];simp,by simp [e2],?_,by simpa using e4,by simpa using e5,fun d hd=>?_⟩
   ·rw [List.flatMap_cons,List.append_assoc,<- e3,c3];exact wla hO c2
   ·rcases List.mem_cons.1 hd with rfl | h5
    ·exact (ySa hO).2.1
    ·exact e6 d h5
  ·rw [Ua c] at h;exact absurd h c
theorem yVa {s:RS} (hO:Ok s) {most:Int} (h:(vT most s).2.2 = 0):s.1 = WH (vT most s).1 ++ (vT most s).2.1 /\ Srt (vT most s).1 /\ (∀ d ∈ (vT most s).1,V.yA d = true /\ OkD d) /\ ((vT most s).1.length:Int) <= max most 0:=by
 obtain ⟨h1,h2,h3⟩:=N.Wy hO;unfold vT at h ⊢
 by_cases c:max most 0 < (yV s).1
 ·rw [if_pos c] at h;exact absurd h (N.Zi (by decide))
 ·rw [if_neg c] at h ⊢;have c2:(yV s).2.2 = 0:=Classical.byContradiction fun c2=>by
   rw [num_zero c2] at h;exact c2 h
  obtain ⟨l,e1,e2,e3,e4,e5,e6⟩:=QI _ [] _ h1 c2 List.Pairwise.nil (by simp) h;rw [List.nil_append] at e1 e4 e5;rw [e1];refine ⟨?_,e4,fun d hd=>⟨e5 d hd,e6 d hd⟩,by omega⟩;rw [WH,QH e4 e5,List.append_assoc,<- e3,e2,Int.toNat_of_nonneg h2];exact Ub hO c2
theorem dots_bad {s:RS} {most:Int} (h:(vT most s).2.2 ≠ 0):(vT most s).1 = []:=by
 have hL:∀ (k:Nat) (out:List DT) (s:RS),s.2 = 0 \/ out = [] -> (zi k out s).2.2 ≠ 0 -> (zi k out s).1 = []:=by
  intro k
  induction k with
  | zero=>
   intro out s h1 h2;rcases h1 with h1 | h1
   ·exact absurd h1 h2
   ·exact h1
  | succ k ih=>
   intro out s _ h2
   by_cases c:(Wm out s).2 = 0
   ·rw [Wn c] at h2 ⊢;exact ih _ _ (.inl c) h2
   ·rw [Ua c]
 unfold vT at h ⊢
 split at h
 ·rename_i c;rw [if_pos c]
 ·rename_i c;rw [if_neg c];exact hL _ _ _ (.inr rfl) h
end Go.Ep.M.D

namespace Go.Ep.M.E
open Go

theorem yn (s:ByteArray):(zr s).length = s.size:=by simp [zr]
theorem by_bytes (s:ByteArray):N.By (zr s):=fun x hx=>by
 simp only [zr,List.mem_map] at hx;obtain ⟨b,_,rfl⟩:=hx;have:=b.toNat_lt;omega
theorem QJ (l:List Int):(Qb l).data.toList = l.map fun n=>UInt8.ofNat n.toNat:=by
 have key:∀ (l:List Int) (r:ByteArray),(l.foldl (fun r n=>r.push (UInt8.ofNat n.toNat)) r).data.toList = r.data.toList ++ l.map fun n=>UInt8.ofNat n.toNat:=by
  intro l
  induction l with
  | nil=>intro r;simp
  | cons x t ih=>intro r;rw [List.foldl_cons,ih];simp
 have:=key l ByteArray.empty;simpa [Qb] using this
theorem y6a {l:List Int} (h:N.By l):zr (Qb l) = l:=by
 rw [zr,QJ,List.map_map];apply List.ext_getElem?;intro i;rw [List.getElem?_map]
 cases hx:l[i]? with
 | none=>rfl
 | some x=>
  have:=h x (List.mem_of_getElem? hx);simp only [Option.map_some,Function.comp_apply,UInt8.toNat_ofNat']
  congr 1;omega
theorem Uc (l:List Int):(Qb l).size = l.length:=by
 have:=congrArg List.length (QJ l);simpa using this

def cidD (v:Int):DT:=⟨v / 281474976710656,v % 281474976710656⟩
theorem band48 {v:Int} (h0:0 <= v) (h:v <= 18446744073709551615):QR .u64 v 281474976710655 = v % 281474976710656:=by
 obtain ⟨n,rfl⟩:=Int.eq_ofNat_of_zero_le h0;unfold QR;have bv:∀ q:Nat,q < 18446744073709551616 -> (BitVec.ofInt IntKind.u64.bits (q:Int)).toNat = q:=fun q hq=>by
  show (BitVec.ofInt 64 (q:Int)).toNat = q;rw [BitVec.toNat_ofInt];omega
 have e:(281474976710655:Int) = ((281474976710655:Nat):Int):=rfl;rw [e,BitVec.toNat_and,bv n (by omega),bv _ (by decide)];have h2:n &&& 281474976710655 = n % 281474976710656:=Nat.and_two_pow_sub_one_eq_mod n 48;rw [h2,Xu (by omega) (by omega)];omega
theorem Split_eq {v:Int} (h0:0 <= v) (h:v <= 18446744073709551615):uz v = pure ((cidD v).dev,(cidD v).n):=by
 unfold uz cidD;have e:(2 ^ 48:Int) = 281474976710656:=rfl;rw [band48 h0 h,Int.fdiv_eq_ediv_of_nonneg _ (by decide),e,wU16 (by omega) (by omega)]
theorem wma {v:Int} (h0:0 <= v) (h:v <= 18446744073709551615):Xb v = pure ((cidD v).dev,(cidD v).n):=by
 unfold Xb cidD;rw [Int.tdiv_eq_ediv_of_nonneg h0,Int.tmod_eq_emod_of_nonneg h0,Xu (by omega) (by omega),wU16 (by omega) (by omega)]
def ye (v:Int):Bool:=V.yA (cidD v)
theorem wna {v:Int} (h0:0 <= v) (h:v <= 18446744073709551615):YJ v = pure (if ye v = true then cidD v else ⟨0,0⟩,ye v):=by
 unfold YJ;rw [Split_eq h0 h,zB,zA,V.Za,zB,zA];show cond (!ye v) _ _ = _
 cases ye v <;> rfl
theorem y7a {v:Int} (h0:0 <= v) (h:v <= 18446744073709551615):Ya v = pure (if ye v = true then cidD v else ⟨0,0⟩,ye v):=by
 unfold Ya;rw [wma h0 h,zB,zA,V.vz,zB,zA];show cond (!ye v) _ _ = _
 cases ye v <;> rfl

def zWa (f:Int):Bool:=decide (1 <= f) && decide (f <= 5)
theorem Field_eq (f:Int):YK f = pure (zWa f):=by unfold YK zWa;rw [zM];rfl
theorem woa (f:Int):VL f = pure (zWa f):=by unfold VL zWa;rw [zM];rfl
def okB (x:Int):Bool:=decide (32 <= x) && decide (x <= 126)
def zXa (s:ByteArray):Bool:=decide (s.size <= 60) && (zr s).all okB
theorem uZ {α:Type} (l:List α) (p:α -> Bool):(l.zipIdx.all fun y=>p y.1) = l.all p:=by
 rw [Bool.eq_iff_iff,List.all_eq_true,List.all_eq_true]
 constructor
 ·intro h x hx;obtain ⟨i,hi⟩:=List.getElem?_of_mem hx;exact h (x,i) (by rw [List.mk_mem_zipIdx_iff_getElem?];exact hi)
 ·intro h y hy;exact h y.1 (List.fst_mem_of_mem_zipIdx hy)
theorem okB_eq (x:Int) (f:M Bool) (hf:f = pure (decide (126 < x))):(cond (decide (x < 32)) (pure true) f:M Bool) = pure (!okB x):=by
 rw [hf];unfold okB
 by_cases h1:x < 32
 ·have:¬ 32 <= x:=by omega
  simp [h1,this]
 ·have:32 <= x:=by omega
  by_cases h2:126 < x
  ·have:¬ x <= 126:=by omega
   simp [h1,h2,this]
  ·have:x <= 126:=by omega
   simp [h1,h2, *]
theorem wpa (s:ByteArray) (hs:s.size <= 1000000000000):loop (xi s) 0 = pure (if (zr s).all okB = true then Ex.brk () else Ex.ret false):=by
 have:=yd (body:=xi s) (zr s) (fun i=>(i:Int)) (fun _ x=>okB x) (Ex.brk ()) (Ex.ret false) (fun i x hx hi=>by
  have hd:decide ((i:Int) < (s.size:Int)) = true:=by rw [<- yn];simpa using hi
  have hi2:i < s.size:=by rw [<- yn];exact hi
  unfold xi;simp only [hd,cond_true,zH hx,zA,okB_eq x _ rfl,zn (show i < 9223372036854775807 by omega)]
  cases okB x <;> rfl) (by
  unfold xi;simp [yn])
 rw [show (0:Int) = ((0:Nat):Int) from rfl,this,uZ]
theorem y8a (s:ByteArray) (hs:s.size <= 1000000000000):loop (vl s) 0 = pure (if (zr s).all okB = true then Ex.brk () else Ex.ret false):=by
 have:=yd (body:=vl s) (zr s) (fun i=>(i:Int)) (fun _ x=>okB x) (Ex.brk ()) (Ex.ret false) (fun i x hx hi=>by
  have hd:decide ((i:Int) < (s.size:Int)) = true:=by rw [<- yn];simpa using hi
  have hi2:i < s.size:=by rw [<- yn];exact hi
  unfold vl;simp only [hd,cond_true,zH hx,zA,okB_eq x _ rfl,zn (show i < 9223372036854775807 by omega)]
  cases okB x <;> rfl) (by
  unfold vl;simp [yn])
 rw [show (0:Int) = ((0:Nat):Int) from rfl,this,uZ]
theorem Text_eq (s:ByteArray) (hs:s.size <= 1000000000000):YL s = pure (zXa s):=by
 unfold YL zXa;rw [wpa s hs]
 by_cases h:s.size <= 60
 ·have:decide ((60:Int) < (s.size:Int)) = false:=by simp;omega
  rw [this,cond_false,zA,decide_eq_true h,Bool.true_and]
  cases (zr s).all okB <;> rfl
 ·have:decide ((60:Int) < (s.size:Int)) = true:=by simp;omega
  rw [this,cond_true,decide_eq_false h,Bool.false_and]
theorem rText_eq (s:ByteArray) (hs:s.size <= 1000000000000):VM s = pure (zXa s):=by
 unfold VM zXa;rw [y8a s hs,zA]
 cases (zr s).all okB with
 | false=>rw [Bool.and_false];rfl
 | true=>
  rw [if_pos rfl,xh,Bool.and_true]
  congr 1
  by_cases h:s.size <= 60
  ·rw [decide_eq_true h];simp;omega
  ·rw [decide_eq_false h];simp;omega

structure OkE (e:EV):Prop where
 dot:D.OkD e.dot
 kind:0 <= e.kind /\ e.kind <= 255
 cid:0 <= e.cid /\ e.cid <= 18446744073709551615
 field:0 <= e.field /\ e.field <= 255
 text:e.text.size <= 1000000000
 kills:∀ d ∈ e.kills,D.OkD d
 klen:e.kills.length <= 1000000000
def wqa (s:ByteArray):Bool:=decide (s = ⟨#[]⟩)
def goodK (e:EV):Bool:=(decide (e.kind = 1) && (zWa e.field && zXa e.text)) || (decide (e.kind = 2) && (decide (e.field = 0) && wqa e.text))
def y9a (e:EV):Bool:=decide (e.kills.length <= 256) && (D.YD e.kills && e.kills.all fun d=>V.yA d && !decide (d = e.dot))
def yG (e:EV):Bool:=(ye e.cid && V.yA e.dot) && (goodK e && y9a e)
theorem wra (l:List DT) (hl:l.length <= 1000000000000):YM l = pure (D.YD l):=by
 unfold YM;have key:∀ (k i:Nat) (x:DT) (r:List DT),i + k = l.length -> l.drop i = r -> i ≠ 0 -> l[i - 1]? = some x -> loop (yO l) (i:Int) = pure (if D.YD (x :: r) = true then Ex.brk () else Ex.ret false):=by
  intro k
  induction k with
  | zero=>
   intro i x r hi hr h1 hx;have:r = []:=by rw [<- hr];exact List.drop_eq_nil_of_le (by omega)
   subst this;exact zZ (by
    unfold yO;have:decide ((i:Int) < (l.length:Int)) = false:=by simp;omega
    simp only [this,cond_false];rfl)
  | succ k ih=>
   intro i x r hi hr h1 hx;have hlt:i < l.length:=by omega
   have hr2:r = l[i] :: l.drop (i + 1):=by rw [<- hr];exact List.drop_eq_getElem_cons hlt
   have hy:=List.getElem?_eq_getElem hlt;have hi1:idx l (IntKind.i64.wrap ((i:Int) - 1)) = pure x:=by
    rw [Wz (by omega) (by omega)];exact jH (by omega) (by rw [show ((i:Int) - 1).toNat = i - 1 by omega];exact hx)
   have hb:yO l (i:Int) = cond (!zT x l[i]) (pure (.done (.ret false))) (pure (.next ((i + 1:Nat):Int))):=by
    unfold yO;have h2:decide ((i:Int) < (l.length:Int)) = true:=by simp;omega
    have h3:decide ((0:Int) < (i:Int)) = true:=by simp;omega
    simp only [h2,h3,cond_true,hi1,zH hy,zA,D.yPa,zB,D.wka,zn (show i < 9223372036854775807 by omega)]
   rw [hr2];show _ = (pure (if (zT x l[i] && D.YD (l[i] :: l.drop (i + 1))) = true then Ex.brk () else Ex.ret false):M (Ex Unit Bool))
   cases c:zT x l[i] with
   | true=>
    rw [c] at hb;rw [zQ hb,Bool.true_and];exact ih (i + 1) l[i] _ (by omega) rfl (by omega) hy
   | false=>
    rw [c] at hb;rw [zZ hb];rfl
 cases l with
 | nil=>
  rw [zZ (r:=Ex.brk ()) (by unfold yO;rfl)];rfl
 | cons x r=>
  have h0:yO (x :: r) 0 = pure (.next 1):=by
   unfold yO;have h2:decide ((0:Int) < ((x :: r).length:Int)) = true:=decide_eq_true (by rw [List.length_cons];omega);simp only [h2,cond_true,show decide ((0:Int) < 0) = false from rfl,cond_false,zA];rw [Wz (by omega) (by omega)]
   rfl
  have:=key r.length 1 x r (by simp;omega) rfl (by decide) rfl;rw [show ((1:Nat):Int) = 1 from rfl] at this;rw [zQ h0,this,zA]
  cases D.YD (x :: r) <;> rfl
theorem xAa (e:EV) (hl:e.kills.length <= 1000000000000):loop (xj e) 0 = pure (if (e.kills.all fun d=>V.yA d && !decide (d = e.dot)) = true then Ex.brk () else Ex.ret false):=by
 have:=yd (body:=xj e) e.kills (fun i=>(i:Int)) (fun _ d=>V.yA d && !decide (d = e.dot)) (Ex.brk ()) (Ex.ret false) (fun i x hx hi=>by
  have hd:decide ((i:Int) < (e.kills.length:Int)) = true:=by simpa using hi
  unfold xj;simp only [hd,cond_true,zH hx,zA,V.Za,zB,D.y2a,zn (show i < 9223372036854775807 by omega)]
  cases V.yA x <;> cases decide (x = e.dot) <;> rfl) (by
  unfold xj;simp)
 rw [show (0:Int) = ((0:Nat):Int) from rfl,this,uZ e.kills fun d=>V.yA d && !decide (d = e.dot)]
theorem YA {e:EV} (h:OkE e):ue e = pure (yG e):=by
 have hk:=h.klen;have ht:=h.text;unfold ue yG;rw [wna h.cid.1 h.cid.2,zB,zA,V.Za,zB,zA,xAa e (by omega),wra e.kills (by omega),Field_eq,Text_eq e.text (by omega)];simp only []
 cases ye e.cid with
 | false=>rfl
 | true=>
  cases V.yA e.dot with
  | false=>rfl
  | true=>
   have hl:decide ((256:Int) < (e.kills.length:Int)) = !decide (e.kills.length <= 256):=by
    by_cases c:e.kills.length <= 256
    ·rw [decide_eq_true c];simp;omega
    ·rw [decide_eq_false c];simp;omega
   have tail:(cond (decide ((256:Int) < (e.kills.length:Int))) (pure true) ((det (pure (D.YD e.kills))).bind fun v23=>pure (!v23))).bind (fun v21=>cond v21 (pure false) ((pure (if (e.kills.all fun d=>V.yA d && !decide (d = e.dot)) = true then Ex.brk () else Ex.ret false)).bind (exk fun _=>pure true))) = pure (y9a e):=by
    unfold y9a;rw [hl,zB,zA]
    cases decide (e.kills.length <= 256) with
    | false=>rfl
    | true=>
     cases D.YD e.kills with
     | false=>rfl
     | true=>cases e.kills.all fun d=>V.yA d && !decide (d = e.dot) <;> rfl
   simp only [Bool.not_true,cond_false,zA,zB,Bool.true_and] at tail ⊢;unfold goodK wqa
   by_cases k1:e.kind = 1
   ·have k2:decide (e.kind = 2) = false:=by rw [k1];rfl
    rw [decide_eq_true k1,cond_true,k2,Bool.true_and,Bool.false_and,Bool.or_false]
    cases zWa e.field with
    | false=>rfl
    | true=>
     cases zXa e.text with
     | false=>rfl
     | true=>exact tail
   ·rw [decide_eq_false k1,cond_false,Bool.false_and,Bool.false_or]
    by_cases k2:e.kind = 2
    ·rw [decide_eq_true k2,cond_true,Bool.true_and]
     cases decide (e.field = 0) with
     | false=>rfl
     | true=>
      cases decide (e.text = (⟨#[]⟩:ByteArray)) with
      | false=>rfl
      | true=>exact tail
    ·rw [decide_eq_false k2];rfl
theorem Wh (l:List DT) (d:DT) (hl:l.length <= 1000000000000):Vz l d = pure (l.any fun x=>decide (x = d)):=by
 unfold Vz;have:=yd (body:=Yc l d) l (fun i=>(i:Int)) (fun _ x=>!decide (x = d)) (Ex.brk ()) (Ex.ret true) (fun i x hx hi=>by
  have hd:decide ((i:Int) < (l.length:Int)) = true:=by simpa using hi
  unfold Yc;simp only [hd,cond_true,zH hx,zA,D.y2a,zn (show i < 9223372036854775807 by omega)]
  cases decide (x = d) <;> rfl) (by
  unfold Yc;simp)
 rw [show (0:Int) = ((0:Nat):Int) from rfl,this,zA,uZ l fun x=>!decide (x = d)];have e:(l.any fun x=>decide (x = d)) = !(l.all fun x=>!decide (x = d)):=by simp [List.all_eq_not_any_not]
 rw [e]
 cases l.all fun x=>!decide (x = d) <;> rfl
theorem Wl (e:EV) (hl:e.kills.length <= 1000000000000):loop (vn e) 0 = pure (if e.kills.all V.yA = true then Ex.brk () else Ex.ret false):=by
 have:=yd (body:=vn e) e.kills (fun i=>(i:Int)) (fun _ d=>V.yA d) (Ex.brk ()) (Ex.ret false) (fun i x hx hi=>by
  have hd:decide ((i:Int) < (e.kills.length:Int)) = true:=by simpa using hi
  unfold vn;simp only [hd,cond_true,zH hx,zA,V.vz,zB,zn (show i < 9223372036854775807 by omega)]
  cases V.yA x <;> rfl) (by
  unfold vn;simp)
 rw [show (0:Int) = ((0:Nat):Int) from rfl,this,uZ e.kills V.yA]
theorem vS {e:EV} (h:OkE e):Xc e = pure (yG e):=by
 have hk:=h.klen;have ht:=h.text;unfold Xc yG;rw [y7a h.cid.1 h.cid.2,zB,zA,V.vz,zB,zA,Wl e (by omega),D.y5a e.kills (by omega),woa,rText_eq e.text (by omega),Wh e.kills e.dot (by omega)];simp only []
 cases ye e.cid with
 | false=>rfl
 | true=>
  cases V.yA e.dot with
  | false=>rfl
  | true=>
   have hl:decide ((e.kills.length:Int) <= 256) = decide (e.kills.length <= 256):=by
    by_cases c:e.kills.length <= 256
    ·rw [decide_eq_true c];simp;omega
    ·rw [decide_eq_false c];simp;omega
   have hall:(e.kills.all fun d=>V.yA d && !decide (d = e.dot)) = (e.kills.all V.yA && !(e.kills.any fun x=>decide (x = e.dot))):=by
    rw [Bool.eq_iff_iff,Bool.and_eq_true,List.all_eq_true,List.all_eq_true,Bool.not_eq_true',List.any_eq_false]
    constructor
    ·intro h;exact ⟨fun x hx=>by have:=h x hx;rw [Bool.and_eq_true] at this;exact this.1,fun x hx=>by have:=h x hx;rw [Bool.and_eq_true] at this;simpa using this.2⟩
    ·rintro ⟨h1,h2⟩ x hx;rw [Bool.and_eq_true];exact ⟨h1 x hx,by simpa using h2 x hx⟩
   have tail:((pure (if e.kills.all V.yA = true then Ex.brk () else Ex.ret false):M (Ex Unit Bool)).bind (exk fun _=>(cond (decide ((e.kills.length:Int) <= 256)) ((det (pure (D.YD e.kills))).bind fun v46=>cond v46 ((det (pure (e.kills.any fun x=>decide (x = e.dot)))).bind fun v49=>pure (!v49)) (pure false)) (pure false)).bind fun v44=>pure v44)) = pure (y9a e):=by
    unfold y9a;rw [hl,hall];simp only [zB,zA]
    cases e.kills.all V.yA with
    | false=>cases decide (e.kills.length <= 256) <;> cases D.YD e.kills <;> rfl
    | true=>cases decide (e.kills.length <= 256) <;> cases D.YD e.kills <;> cases e.kills.any fun x=>decide (x = e.dot) <;> rfl
   simp only [Bool.not_true,cond_false,zA,zB,Bool.true_and] at tail ⊢;unfold goodK wqa
   by_cases k1:e.kind = 1
   ·have k2:decide (e.kind = 2) = false:=by rw [k1];rfl
    rw [decide_eq_true k1,k2];simp only [Bool.not_true,cond_false,cond_true,zA,Bool.true_and,Bool.false_and,Bool.or_false]
    cases zWa e.field with
    | false=>rfl
    | true=>
     cases zXa e.text with
     | false=>rfl
     | true=>exact tail
   ·rw [decide_eq_false k1];simp only [Bool.not_false,cond_true,zA,Bool.false_and,Bool.false_or]
    by_cases k2:e.kind = 2
    ·rw [decide_eq_true k2];simp only [Bool.not_true,cond_false,cond_true,Bool.true_and]
     cases decide (e.field = 0) with
     | false=>rfl
     | true=>
      cases decide (e.text = (⟨#[]⟩:ByteArray)) with
      | false=>rfl
      | true=>exact tail
    ·rw [decide_eq_false k2];rfl


def fewE (l:List EV) (most:Nat):Bool:=decide (l.length <= most) && l.all fun e=>decide (e.kills.length <= 300) && decide (e.text.size <= 200)
theorem Wi (l:List EV) (most:Nat) (hm:most <= 1000000):Vp l (most:Int) = pure (fewE l most):=by
 unfold Vp fewE
 by_cases h:l.length <= most
 ·have hd:decide ((most:Int) < (l.length:Int)) = false:=by simp;omega
  have:=yd (body:=YH l) l (fun i=>(i:Int)) (fun _ e=>decide (e.kills.length <= 300) && decide (e.text.size <= 200)) (Ex.brk ()) (Ex.ret false) (fun i x hx hi=>by
   have hd:decide ((i:Int) < (l.length:Int)) = true:=by simpa using hi
   unfold YH;simp only [hd,cond_true,zH hx,zA,zn (show i < 9223372036854775807 by omega)]
   by_cases c:x.kills.length <= 300
   ·have h1:decide ((300:Int) < (x.kills.length:Int)) = false:=by simp;omega
    rw [h1,cond_false,decide_eq_true c,Bool.true_and,zA]
    by_cases c2:x.text.size <= 200
    ·have h2:decide ((200:Int) < (x.text.size:Int)) = false:=by simp;omega
     rw [h2,decide_eq_true c2];rfl
    ·have h2:decide ((200:Int) < (x.text.size:Int)) = true:=by simp;omega
     rw [h2,decide_eq_false c2];rfl
   ·have h1:decide ((300:Int) < (x.kills.length:Int)) = true:=by simp;omega
    rw [h1,cond_true,decide_eq_false c,Bool.false_and];rfl) (by
   unfold YH;simp)
  rw [hd,cond_false,decide_eq_true h,Bool.true_and,show (0:Int) = ((0:Nat):Int) from rfl,this,zA,uZ l fun e=>decide (e.kills.length <= 300) && decide (e.text.size <= 200)]
  cases l.all fun e=>decide (e.kills.length <= 300) && decide (e.text.size <= 200) <;> rfl
 ·have hd:decide ((most:Int) < (l.length:Int)) = true:=by simp;omega
  rw [hd,cond_true,decide_eq_false h,Bool.false_and]
theorem wsa {l:List EV} {most:Nat} (h:fewE l most = true):l.length <= most /\ ∀ e ∈ l,e.kills.length <= 300 /\ e.text.size <= 200:=by
 unfold fewE at h;rw [Bool.and_eq_true,List.all_eq_true] at h;exact ⟨by simpa using h.1,fun e he=>by simpa using h.2 e he⟩
def wta (s:ByteArray):List Int:=N.xE s.size ++ zr s
def QK (e:EV):List Int:=D.encD e.dot ++ ([e.kind] ++ (N.xE e.cid ++ ([e.field] ++ (wta e.text ++ D.WH e.kills))))
theorem Jv {s:ByteArray} (h:s.size <= 1000000000):(wta s).length <= 9 + s.size:=by
 have:=N.zR (v:=(s.size:Int)) (by omega);rw [wta,List.length_append,yn];omega
theorem encE_len {e:EV} (h:OkE e):(QK e).length <= 47 + e.text.size + 18 * e.kills.length:=by
 have h1:=D.Yg h.dot;have h2:=N.zR h.cid.2;have h3:=Jv h.text;have h4:=D.wda h.kills (by have:=h.klen;omega);simp only [QK,List.length_append,List.length_singleton];omega
theorem xBa {s:ByteArray} (h:s.size <= 1000000000) (row:List Int) (hr:row.length <= 1000000000000):yg s row = pure (row ++ wta s):=by
 have:=N.zR (v:=(s.size:Int)) (by omega);unfold yg;rw [Xu (by omega) (by omega),N.xr row (by omega) (by omega) (by omega),zB,zA,zD (by omega),N.waa _ _ (by rw [List.length_append,yn];omega),zB,zA,wta,List.append_assoc]
theorem zYa {s:ByteArray} (h:s.size <= 1000000000) (row:List Int) (hr:row.length <= 1000000000000):VT row s = pure (row ++ wta s):=by
 have h9:=N.zR (v:=(s.size:Int)) (by omega);unfold VT;rw [Xu (by omega) (by omega),N.zy row (by omega) (by omega) (by omega),zB,zA];have:=D.Zj (body:=ZO s) (zr s) (fun x=>[x]) (row ++ N.xE (s.size:Int)) 2000000000000 (fun i out=>((i:Int),out)) (fun t=>pure t) (by
  have:=D.uU (zr s) (fun x=>[x]) 1 (by simp);rw [yn] at this;rw [List.length_append];omega) (fun i x out hx hi ho=>by
  have hi2:i < s.size:=by rw [<- yn];exact hi
  have hd:decide ((i:Int) < (s.size:Int)) = true:=by simpa using hi2
  unfold ZO;simp only [hd,cond_true,zH hx,zA];rw [zD (by simp at ho ⊢;omega),zn (show i < 9223372036854775807 by omega)]) (fun out=>by
  unfold ZO;simp [yn,zA])
 rw [show (0:Int) = ((0:Nat):Int) from rfl,this,zA,wta,List.append_assoc];have e:∀ l:List Int,(l.flatMap fun x=>[x]) = l:=by
  intro l
  induction l with
  | nil=>rfl
  | cons x r ih=>rw [List.flatMap_cons,ih];rfl
 rw [e]
theorem Put_eq {e:EV} (h:OkE e) (row:List Int) (hr:row.length <= 10000000000):ZB e row = pure (row ++ QK e):=by
 have h1:=D.Yg h.dot;have h2:=N.zR h.cid.2;have h3:=Jv h.text;have ht:=h.text;have hk:=h.klen;unfold ZB;rw [D.QF h.dot row (by omega),zB,zA,N.Jq _ _ (by rw [List.length_append];omega),zB,zA,N.xr _ h.cid.1 h.cid.2 (by simp only [List.length_append,List.length_singleton];omega),zB,zA,
  N.Jq _ _ (by simp only [List.length_append,List.length_singleton];omega),zB,zA,xBa h.text _ (by simp only [List.length_append,List.length_singleton];omega),zB,zA,
  D.y4a h.kills (by omega) _ (by simp only [List.length_append,List.length_singleton];omega),zB,zA]
 simp only [QK,List.append_assoc]
theorem Wj {e:EV} (h:OkE e) (row:List Int) (hr:row.length <= 10000000000):jz row e = pure (row ++ QK e):=by
 have h1:=D.Yg h.dot;have h2:=N.zR h.cid.2;have h3:=Jv h.text;have ht:=h.text;have hk:=h.klen;unfold jz;rw [D.jc h.dot row (by omega),zB,zA,zD (by simp only [List.length_append,List.length_singleton];omega),N.zy _ h.cid.1 h.cid.2 (by simp only [List.length_append,List.length_singleton];omega),zB,zA,
  zD (by simp only [List.length_append,List.length_singleton];omega),zYa h.text _ (by simp only [List.length_append,List.length_singleton];omega),zB,zA,
  D.zUa h.kills (by omega) _ (by simp only [List.length_append,List.length_singleton];omega),zB,zA]
 simp only [QK,List.append_assoc]
def YE (l:List EV):List Int:=N.xE l.length ++ l.flatMap QK
theorem QL {l:List EV} (h:∀ e ∈ l,OkE e) (hl:l.length <= 1000000000) (row:List Int) (hr:row.length + (l.flatMap QK).length <= 1000000000):yc l row = pure (row ++ YE l):=by
 have h9:=N.zR (v:=(l.length:Int)) (by omega);unfold yc;rw [Xu (by omega) (by omega),N.xr row (by omega) (by omega) (by omega),zB,zA];have:=D.Zj (body:=yq l) l QK (row ++ N.xE (l.length:Int)) 2000000000 (fun i out=>((i:Int),out)) (fun t=>pure t) (by rw [List.length_append];omega) (fun i x out hx hi ho=>by
  have hd:decide ((i:Int) < (l.length:Int)) = true:=by simpa using hi
  unfold yq;simp only [hd,cond_true,zH hx,zA,Put_eq (h x (List.mem_of_getElem? hx)) out (by omega),zB,zn (show i < 9223372036854775807 by omega)]) (fun out=>by
  unfold yq;simp [zA])
 rw [show (0:Int) = ((0:Nat):Int) from rfl,this,YE,List.append_assoc]
theorem jd {l:List EV} (h:∀ e ∈ l,OkE e) (hl:l.length <= 1000000000) (row:List Int) (hr:row.length + (l.flatMap QK).length <= 1000000000):vY row l = pure (row ++ YE l):=by
 have h9:=N.zR (v:=(l.length:Int)) (by omega);unfold vY;rw [Xu (by omega) (by omega),N.zy row (by omega) (by omega) (by omega),zB,zA];have:=D.Zj (body:=vO l) l QK (row ++ N.xE (l.length:Int)) 2000000000 (fun i out=>(out,(i:Int))) (fun t=>pure t) (by rw [List.length_append];omega) (fun i x out hx hi ho=>by
  have hd:decide ((i:Int) < (l.length:Int)) = true:=by simpa using hi
  unfold vO;simp only [hd,cond_true,zH hx,zA,Wj (h x (List.mem_of_getElem? hx)) out (by omega),zB,zn (show i < 9223372036854775807 by omega)]) (fun out=>by
  unfold vO;simp [zA])
 rw [show (0:Int) = ((0:Nat):Int) from rfl,this,zA,YE,List.append_assoc]
theorem Ud {l:List EV} (h:∀ e ∈ l,OkE e) (hf:∀ e ∈ l,e.kills.length <= 300 /\ e.text.size <= 200):(l.flatMap QK).length <= 6000 * l.length:=
 D.uU l QK 6000 fun e he=>by have:=encE_len (h e he);have:=hf e he;omega
open N (RS Ok yV xd Zq XE Zh endS OkB Sim)
open D (yRa fin)

def s1 (s:RS):RS:=(D.Vh s).2
def s2 (s:RS):RS:=(Zq (s1 s)).2
def s3 (s:RS):RS:=(yV (s2 s)).2
def s4 (s:RS):RS:=(Zq (s3 s)).2
def s5 (s:RS):RS:=(XE 60 (s4 s)).2
def s6 (s:RS):RS:=(D.vT 256 (s5 s)).2
def getE (s:RS):EV:=⟨(D.Vh s).1,(Zq (s1 s)).1,(yV (s2 s)).1,(Zq (s3 s)).1,(XE 60 (s4 s)).1,(D.vT 256 (s5 s)).1⟩
def noE : EV:=⟨⟨0,0⟩,0,0,0,⟨#[]⟩,[]⟩
def getT (s:RS):RS:=yRa (!yG (getE s)) (s6 s)
def xa (s:RS):EV × RS:=fin noE (getE s) (getT s)
theorem wua {s:RS} (h:Ok s) (m:Int):(XE m s).1.size <= 1000000000:=by
 have h1:=(N.Wy h).1.len;unfold XE
 split
 ·exact (by decide:(0:Nat) <= 1000000000)
 ·split
  ·exact (by decide:(0:Nat) <= 1000000000)
  ·split
   ·exact (by decide:(0:Nat) <= 1000000000)
   ·rw [Uc,List.length_take];omega
theorem dots_okD {s:RS} (h:Ok s) (most:Int):(∀ d ∈ (D.vT most s).1,D.OkD d) /\ (D.vT most s).1.length <= 1000000000:=by
 by_cases c:(D.vT most s).2.2 = 0
 ·obtain ⟨e1,e2,e3,e4⟩:=D.yVa h c;have hl:=congrArg List.length e1;have hs:=h.len;have h9:(D.ya (D.xW (D.vT most s).1)) = (D.vT most s).1:=D.QH e2 fun d hd=>(e3 d hd).1
  have h8:∀ l:List DT,l.length <= (l.flatMap D.encD).length:=by
   intro l
   induction l with
   | nil=>simp
   | cons x t ih=>
    have:1 <= (D.encD x).length:=by rw [D.encD,List.length_append,N.xE,N.xIa,List.length_cons];omega
    rw [List.flatMap_cons,List.length_append,List.length_cons];omega
  have h7:=h8 (D.vT most s).1;refine ⟨fun d hd=>(e3 d hd).2,?_⟩;rw [List.length_append,D.WH,h9,List.length_append] at hl;omega
 ·rw [D.dots_bad c];simp
theorem ok_get {s:RS} (h:Ok s):Ok (s1 s) /\ Ok (s2 s) /\ Ok (s3 s) /\ Ok (s4 s) /\ Ok (s5 s) /\ Ok (s6 s) /\ OkE (getE s):=by
 have o1:Ok (s1 s):=(D.ySa h).1;have o2:=N.wZa o1;have o3:=N.Wy (s:=s2 s) o2.1;have o4:=N.wZa (s:=s3 s) o3.1;have o5:=N.ok_text (s:=s4 s) o4.1 60;have o6:=D.wQa (s:=s5 s) o5 256;obtain ⟨k1,k2⟩:=dots_okD (s:=s5 s) o5 256;exact ⟨o1,o2.1,o3.1,o4.1,o5,o6,(D.ySa h).2.1,o2.2,o3.2,o4.2,wua (s:=s4 s) o4.1 60,k1,k2⟩
variable {B:List Int} {a:Int} {s:RS}
theorem wva {s:RS} (h:(Zq s).2.2 = 0):s.2 = 0 /\ s.1 = (Zq s).1 :: (Zq s).2.1:=by
 unfold Zq at h ⊢
 by_cases c:s.2 ≠ 0
 ·rw [if_pos c] at h;exact absurd h c
 ·rw [if_neg c] at h ⊢
  cases hs:s.1 with
  | nil=>rw [hs] at h;exact absurd h (N.Zi (by decide))
  | cons x r=>exact ⟨Classical.byContradiction c,rfl⟩
theorem text_ok {m:Int} {s:RS} (hO:Ok s) (h:(XE m s).2.2 = 0):(yV s).2.2 = 0 /\ s.1 = wta (XE m s).1 ++ (XE m s).2.1 /\ ((XE m s).1.size:Int) <= max m 0:=by
 obtain ⟨k1,k2,k3⟩:=N.Wy hO;unfold XE at h ⊢
 by_cases c:(yV s).2.2 ≠ 0
 ·rw [if_pos c] at h;exact absurd h c
 ·rw [if_neg c] at h ⊢
  by_cases c2:max m 0 < (yV s).1
  ·rw [if_pos c2] at h;exact absurd h (N.Zi (by decide))
  ·rw [if_neg c2] at h ⊢
   by_cases c3:((yV s).2.1.length:Int) < (yV s).1
   ·rw [if_pos c3] at h;exact absurd h (N.Zi (by decide))
   ·rw [if_neg c3];have hz:(yV s).2.2 = 0:=Classical.byContradiction c;refine ⟨hz,?_,?_⟩
    ·show s.1 = (N.xE ((Qb _).size:Int) ++ zr (Qb _)) ++ _;rw [Uc,y6a (k1.by_.take _),List.length_take,show ((min (yV s).1.toNat (yV s).2.1.length:Nat):Int) = (yV s).1 by omega,List.append_assoc,List.take_append_drop];exact D.Ub hO hz
    ·show ((Qb _).size:Int) <= _;rw [Uc,List.length_take];omega
theorem get_inv {s:RS} (hO:Ok s) (h:(xa s).2.2 = 0):s.2 = 0 /\ yG (xa s).1 = true /\ OkE (xa s).1 /\ s.1 = QK (xa s).1 ++ (xa s).2.1:=by
 obtain ⟨o1,o2,o3,o4,o5,o6,oe⟩:=ok_get hO;unfold xa at h ⊢;rw [D.fin_st] at h;rw [D.wga h];obtain ⟨g1,g2,g3⟩:=D.zVa (c:=!yG (getE s)) (s:=s6 s) h;have i6:=D.yVa o5 g2;have z5:(s5 s).2 = 0:=Classical.byContradiction fun c=>by
  have:(D.vT 256 (s5 s)).2.2 ≠ 0:=by
   have hn:=N.num_of c;unfold D.vT;rw [hn];rw [if_neg (by show ¬ max 256 0 < (0:Int);omega)];exact c
  exact this g2
 obtain ⟨z5',i5,_⟩:=text_ok (m:=60) o4 z5;have z4:=D.QG z5';obtain ⟨z3,i4⟩:=wva (s:=s3 s) z4;have i3:=D.Ub o2 z3;have z2:=D.QG z3;obtain ⟨z1,i2⟩:=wva (s:=s1 s) z2;have i1:=D.wla hO z1;have z0:s.2 = 0:=D.QG (D.wha (D.wia z1).2.1).1;refine ⟨z0,by simpa using g1,oe,?_⟩;show s.1 = QK (getE s) ++ (getT s).1;rw [show getT s = s6 s from g3];show s.1 = (D.encD (D.Vh s).1 ++ ([(Zq (s1 s)).1] ++ (N.xE (yV (s2 s)).1 ++ ([(Zq (s3 s)).1] ++ (wta (XE 60 (s4 s)).1 ++ D.WH (D.vT 256 (s5 s)).1))))) ++ (s6 s).1;simp only [List.append_assoc];have j6:(s5 s).1 = D.WH (D.vT 256 (s5 s)).1 ++ (s6 s).1:=i6.1;have j5:(s4 s).1 = wta (XE 60 (s4 s)).1 ++ (s5 s).1:=i5;have j4:(s3 s).1 = [(Zq (s3 s)).1] ++ (s4 s).1:=i4;have j3:(s2 s).1 = N.xE (yV (s2 s)).1 ++ (s3 s).1:=i3;have j2:(s1 s).1 = [(Zq (s1 s)).1] ++ (s2 s).1:=i2;have j1:s.1 = D.encD (D.Vh s).1 ++ (s1 s).1:=i1;rw [<- j6,<- j5,<- j4,<- j3,<- j2];exact j1
theorem z1a {s:RS} (hO:Ok s) (h:(xa s).2.2 = 0):(xa s).2.1.length + 1 <= s.1.length:=by
 have:=(get_inv hO h).2.2.2;have hl:=congrArg List.length this;have:1 <= (QK (xa s).1).length:=by simp only [QK,List.length_append,List.length_singleton];omega
 rw [List.length_append] at hl;omega

open N (RS Ok yV xd Zq XE Zh endS OkB Sim)
open D (yRa fin)

def lastGeE (out:List EV) (x:EV):Bool:=match out.getLast? with | some y=>decide (0 <= V.z4a y.dot x.dot) | none=>false
def allT (out:List EV) (s:RS):RS:=yRa (lastGeE out (xa s).1) (xa s).2
def allL : Nat -> List EV -> RS -> List EV × RS
 | 0,out,s=>(out,s)
 | k + 1,out,s=>if (allT out s).2 ≠ 0 then ([],allT out s) else allL k (out ++ [(xa s).1]) (allT out s)
def allS (most:Int) (s:RS):List EV × RS:=if max most 0 < (yV s).1 then ([],Zh 3 (yV s).2) else allL (yV s).1.toNat [] (yV s).2
variable {B:List Int} {a:Int} {s:RS}
abbrev Yl (l:List EV):Prop:=l.Pairwise fun x y=>zT x.dot y.dot = true
def keepK (l:List DT) (c:List PT):List DT:=D.ya (l.filter fun d=>C.xC c d.dev d.n)
def again (dev:Int) (c:List PT) (i:Nat) (e:EV):EV:=⟨⟨dev,(i:Int) + 1⟩,e.kind,e.cid,e.field,e.text,keepK e.kills c⟩
def e0 : EV:=⟨⟨0,0⟩,0,0,0,⟨#[]⟩,[]⟩
def e4 : EV:=⟨⟨0,0⟩,0,0,0,⟨#[101]⟩,[]⟩
end Go.Ep.M.E


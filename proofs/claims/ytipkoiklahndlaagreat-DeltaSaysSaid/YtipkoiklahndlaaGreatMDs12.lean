/- Texts that the walks and laws lean on, side by side. -/
import Derived.Test.YtipkoiklahndlaaGreatMDs3
import Derived.Test.YtipkoiklahndlaaGreatMDs10
import Derived.Test.YtipkoiklahndlaaGreatMDs11
set_option linter.unusedVariables false
set_option linter.unusedSimpArgs false
namespace Go.Ep.M.N
open Go

theorem wU8_mod (n:Int):IntKind.u8.wrap n = n % 256:=by simp [IntKind.wrap,IntKind.bits,IntKind.signed]
def lenN (n:Nat):Nat:=if n = 0 then 0 else lenN (n / 256) + 1
theorem jM : lenN 0 = 0:=by rw [lenN];rfl
theorem yXa {n:Nat} (h:n ≠ 0):lenN n = lenN (n / 256) + 1:=by rw [lenN,if_neg h]
theorem wZa : ∀ (k n:Nat),n < 256 ^ k -> lenN n <= k
 | 0,n,h=>by
  have:n = 0:=by simpa using h
  rw [this,jM];exact Nat.le_refl _
 | k + 1,n,h=>by
  by_cases h0:n = 0
  ·rw [h0,jM];omega
  ·rw [yXa h0];have:=wZa k (n / 256) (by rw [Nat.pow_succ] at h;omega);omega
theorem waa {n:Nat} (h:n < 18446744073709551616):lenN n <= 8:=wZa 8 n (by simpa using h)

theorem wba (n:Nat):Int.tdiv (n:Int) 256 = ((n / 256:Nat):Int):=by
 rw [Int.tdiv_eq_ediv_of_nonneg (by omega)];omega
theorem wca : ∀ (n k:Nat),n < 18446744073709551616 -> k + lenN n <= 1000 -> loop XC ((n:Int),(k:Int)) = pure (((k + lenN n:Nat)):Int):=by
 intro n
 induction n using Nat.strongRecOn with
 | _ n ih=>
  intro k hn hk
  by_cases h0:n = 0
  ·subst h0;rw [jM,Nat.add_zero];exact zh (by unfold XC;simp)
  ·rw [yXa h0] at hk ⊢;rw [zg (s':=(((n / 256:Nat):Int),((k + 1:Nat):Int))) (by
    unfold XC;have:decide ((0:Int) < (n:Int)) = true:=by simp;omega
    simp only [this,cond_true,wba,zf (show k < 9223372036854775807 by omega),wU64 (show (0:Int) <= ((n / 256:Nat):Int) by omega) (by omega)]),ih (n / 256) (by omega) (k + 1) (by omega) (by omega)]
   congr 2;omega
theorem rLen_eq {v:Int} (h0:0 <= v) (h:v <= 18446744073709551615):zEa v = pure (lenN v.toNat:Int):=by
 obtain ⟨n,rfl⟩:=Int.eq_ofNat_of_zero_le h0;unfold zEa;have:=wca n 0 (by omega) (by have:=waa (n:=n) (by omega);omega);rw [show (0:Int) = ((0:Nat):Int) from rfl,this,zA,Nat.zero_add,Int.toNat_natCast]

def yYa (n i:Nat):Int:=((n / 256 ^ i % 256:Nat):Int)
theorem xBa (m:Nat):∀ (j:Nat) (n:Nat),j <= m -> m <= 7 -> n < 18446744073709551616 -> loop (wj (m:Int)) ((n:Int),(j:Int)) = pure ((n / 256 ^ (m - j):Nat):Int):=by
 have key:∀ (d j n:Nat),j + d = m -> m <= 7 -> n < 18446744073709551616 -> loop (wj (m:Int)) ((n:Int),(j:Int)) = pure ((n / 256 ^ d:Nat):Int):=by
  intro d
  induction d with
  | zero=>
   intro j n hj hm hn;have:j = m:=by omega
   subst this;rw [zh (r:=(n:Int)) (by unfold wj;simp)];simp
  | succ d ih=>
   intro j n hj hm hn;rw [zg (s':=(((n / 256:Nat):Int),((j + 1:Nat):Int))) (by
    unfold wj;have:decide ((j:Int) < (m:Int)) = true:=by simp;omega
    simp only [this,cond_true,wba,zf (show j < 9223372036854775807 by omega),wU64 (show (0:Int) <= ((n / 256:Nat):Int) by omega) (by omega)]),ih (j + 1) (n / 256) (by omega) hm (by omega)]
   rw [Nat.pow_succ,Nat.mul_comm,Nat.div_div_eq_div_mul]
 intro j n hj hm hn;exact key (m - j) j n (by omega) hm hn
theorem rByte_eq (n i:Nat) (hi:i <= 7) (hn:n < 18446744073709551616):JZ (n:Int) (i:Int) = pure (yYa n i):=by
 unfold JZ yYa;have h1:decide ((i:Int) < 0) = false:=by simp
 have h2:decide ((7:Int) < (i:Int)) = false:=by simp;omega
 have h3:loop (wj (i:Int)) ((n:Int),0) = pure ((n / 256 ^ (i - 0):Nat):Int):=xBa i 0 n (by omega) hi hn;rw [h1,h2,cond_false,zA,cond_false,h3,zA,Nat.sub_zero,Int.tmod_eq_emod_of_nonneg (Int.natCast_nonneg _),wU8_mod]
 congr 1
 generalize n / 256 ^ i = q
 omega

def be (n:Nat):Nat -> List Int
 | 0=>[]
 | k + 1=>yYa n k :: be n k
theorem be_len (n:Nat):∀ k,(be n k).length = k
 | 0=>rfl
 | k + 1=>by simp [be,be_len n k]
def encN (n:Nat):List Int:=(lenN n:Int) :: be n (lenN n)
def encI (v:Int):List Int:=encN v.toNat
theorem Zu {v:Int} (h:v <= 18446744073709551615):(encI v).length <= 9:=by
 have:=waa (n:=v.toNat) (by omega);simp [encI,encN,be_len];omega
theorem Qd (n:Nat) (hn:n < 18446744073709551616):∀ (k:Nat) (out:List Int),k <= 8 -> out.length + k <= 100000000000000 -> loop (vf (n:Int)) ((k:Int) - 1,out) = pure (out ++ be n k)
 | 0,out,_,_=>by
  rw [be,List.append_nil];exact zh (by unfold vf;simp)
 | k + 1,out,hk,ho=>by
  have e:((k + 1:Nat):Int) - 1 = (k:Int):=by omega
  rw [e,zg (s':=((k:Int) - 1,out ++ [yYa n k])) (by
   unfold vf;have h1:decide ((0:Int) <= (k:Int)) = true:=by simp
   simp only [h1,cond_true,rByte_eq n k (by omega) hn,zB,zA];rw [zD (by simp;omega),wI64 (by omega) (by omega)]),Qd n hn k _ (by omega) (by simp;omega),be,List.append_assoc]
  rfl
theorem ZN (b:List Int) {v:Int} (h0:0 <= v) (h:v <= 18446744073709551615) (hb:b.length <= 10000000000000):wk b v = pure (b ++ encI v):=by
 have h8:=waa (n:=v.toNat) (by omega);unfold wk;rw [rLen_eq h0 h,zD (by simp;omega),zB,zA,zD (by simp;omega),wU8 (by omega) (by omega),wI64 (by omega) (by omega)];have:=Qd v.toNat (by omega) (lenN v.toNat) (([]:List Int) ++ b ++ [(lenN v.toNat:Int)]) h8 (by simp;omega);rw [show ((v.toNat:Nat):Int) = v by omega] at this;rw [this,zA];simp [encI,encN]


def By (l:List Int):Prop:=∀ x ∈ l,0 <= x /\ x <= 255
theorem By.drop {l:List Int} (h:By l) (n:Nat):By (l.drop n):=fun x hx=>h x (List.mem_of_mem_drop hx)
theorem By.take {l:List Int} (h:By l) (n:Nat):By (l.take n):=fun x hx=>h x (List.mem_of_mem_take hx)
theorem By.app {a b:List Int} (ha:By a) (hb:By b):By (a ++ b):=fun x hx=>(List.mem_append.1 hx).elim (ha x) (hb x)
theorem By.nil : By []:=fun x hx=>by cases hx
def valB (l:List Int):Int:=l.foldl (fun v x=>v * 256 + x) 0
theorem wda : ∀ (l:List Int) (v k:Nat),By l -> v < 256 ^ k -> ∃ n:Nat,l.foldl (fun v x=>v * 256 + x) (v:Int) = (n:Int) /\ n < 256 ^ (k + l.length) /\ v * 256 ^ l.length <= n
 | [],v,k,_,hv=>⟨v,rfl,by simpa using hv,by simp⟩
 | x :: r,v,k,hb,hv=>by
  have hx:=hb x (by simp);obtain ⟨n,h1,h2,h3⟩:=wda r (v * 256 + x.toNat) (k + 1) (fun y hy=>hb y (by simp [hy])) (by rw [Nat.pow_succ];omega);refine ⟨n,?_,by rw [show k + (x :: r).length = k + 1 + r.length by simp;omega];exact h2,?_⟩
  ·rw [List.foldl_cons,<- h1]
   congr 1;omega
  ·refine Nat.le_trans ?_ h3;rw [List.length_cons,Nat.pow_succ];have:v * (256 ^ r.length * 256) = v * 256 * 256 ^ r.length:=by rw [Nat.mul_comm (256 ^ r.length),Nat.mul_assoc]
   rw [this];exact Nat.mul_le_mul_right _ (by omega)
theorem wea {l:List Int} (h:By l) (h8:l.length <= 8):0 <= valB l /\ valB l <= 18446744073709551615:=by
 obtain ⟨n,h1,h2,_⟩:=wda l 0 0 h (by decide);have h3:256 ^ (0 + l.length) <= 256 ^ 8:=Nat.pow_le_pow_right (by decide) (by omega);have h4:(256:Nat) ^ 8 = 18446744073709551616:=by decide
 rw [valB,show (0:Int) = ((0:Nat):Int) from rfl,h1];omega
def rdN : List Int -> Int × Nat × Int
 | []=>(0,0,2)
 | n :: r=>if 8 < n \/ (0 < n /\ r.head? = some 0) then (0,0,4) else if (r.length:Int) < n then (0,0,2) else (valB (r.take n.toNat),n.toNat + 1,0)
theorem rdN_cons (n:Int) (r:List Int):rdN (n :: r) = if 8 < n \/ (0 < n /\ r.head? = some 0) then (0,0,4) else if (r.length:Int) < n then (0,0,2) else (valB (r.take n.toNat),n.toNat + 1,0):=rfl
theorem wfa (b:List Int) (hb:By b):(rdN b = (0,0,2) \/ rdN b = (0,0,4)) \/ ∃ n r,b = n :: r /\ 0 <= n /\ n <= 8 /\ n <= (r.length:Int) /\ ¬ (0 < n /\ r.head? = some 0) /\ rdN b = (valB (r.take n.toNat),n.toNat + 1,0):=by
 cases b with
 | nil=>exact .inl (.inl rfl)
 | cons n r=>
  have hn:=hb n (by simp);rw [rdN_cons]
  by_cases h1:8 < n \/ (0 < n /\ r.head? = some 0)
  ·rw [if_pos h1];exact .inl (.inr rfl)
  ·rw [if_neg h1]
   by_cases h2:(r.length:Int) < n
   ·rw [if_pos h2];exact .inl (.inl rfl)
   ·rw [if_neg h2];exact .inr ⟨n,r,rfl,hn.1,by omega,by omega,fun h=>h1 (.inr h),rfl⟩
theorem wga (b:List Int) (hb:By b):0 <= (rdN b).1 /\ (rdN b).1 <= 18446744073709551615 /\ (rdN b).2.1 <= b.length /\ ((rdN b).2.2 = 0 \/ (rdN b).2.2 = 2 \/ (rdN b).2.2 = 4):=by
 rcases wfa b hb with (h | h) | ⟨n,r,rfl,h0,h8,hl,_,h⟩
 ·rw [h];simp
 ·rw [h];simp
 ·rw [h];have:=wea (l:=r.take n.toNat) (fun x hx=>hb x (by simp [List.mem_of_mem_take hx])) (by rw [List.length_take];omega);refine ⟨this.1,this.2,?_,.inl rfl⟩;simp;omega
abbrev RS:=List Int × Int
structure Ok (s:RS):Prop where
 by_:By s.1
 len:s.1.length <= 1000000000
 nil:s.2 ≠ 0 -> s.1 = []
def WD (e:Int) (s:RS):RS:=if s.2 = 0 /\ e ≠ 0 then ([],e) else s
def numS (s:RS):Int × RS:=if s.2 ≠ 0 then (0,s) else if (rdN s.1).2.2 ≠ 0 then (0,WD (rdN s.1).2.2 s) else ((rdN s.1).1,(s.1.drop (rdN s.1).2.1,0))
def VX (m:Int) (s:RS):Int × RS:=if m < (numS s).1 then (0,WD 4 (numS s).2) else numS s
def xCa (s:RS):Int × RS:=if s.2 ≠ 0 then (0,s) else match s.1 with | []=>(0,WD 2 s) | x :: r=>(x,(r,0))
def textS (m:Int) (s:RS):ByteArray × RS:=
 if (numS s).2.2 ≠ 0 then (⟨#[]⟩,(numS s).2) else if max m 0 < (numS s).1 then (⟨#[]⟩,WD 3 (numS s).2) else if ((numS s).2.1.length:Int) < (numS s).1 then (⟨#[]⟩,WD 2 (numS s).2)
 else (strL ((numS s).2.1.take (numS s).1.toNat),((numS s).2.1.drop (numS s).1.toNat,0))
theorem qR {s:RS} (h:Ok s) (e:Int):Ok (WD e s):=by
 unfold WD
 by_cases c:s.2 = 0 /\ e ≠ 0
 ·rw [if_pos c];exact ⟨By.nil,by simp,fun _=>rfl⟩
 ·rw [if_neg c];exact h
theorem wha {s:RS} (h:Ok s):Ok (numS s).2 /\ 0 <= (numS s).1 /\ (numS s).1 <= 18446744073709551615:=by
 unfold numS;have hr:=wga s.1 h.by_
 by_cases c:s.2 ≠ 0
 ·rw [if_pos c];exact ⟨h,by simp,by simp⟩
 ·rw [if_neg c]
  by_cases c2:(rdN s.1).2.2 ≠ 0
  ·rw [if_pos c2];exact ⟨qR h _,by simp,by simp⟩
  ·rw [if_neg c2];exact ⟨⟨h.by_.drop _,by simp;have:=h.len;omega,fun h=>absurd rfl h⟩,hr.1,hr.2.1⟩
theorem ok_upto {s:RS} (h:Ok s) {m:Int} (hm:0 <= m):Ok (VX m s).2 /\ 0 <= (VX m s).1 /\ (VX m s).1 <= m:=by
 unfold VX;obtain ⟨h1,h2,h3⟩:=wha h
 by_cases c:m < (numS s).1
 ·rw [if_pos c];exact ⟨qR h1 _,by simp,hm⟩
 ·rw [if_neg c];exact ⟨h1,h2,by omega⟩
structure Sim (B:List Int) (a:Int) (s:RS):Prop where
 lo:0 <= a
 hi:a <= B.length
 eq:s.2 = 0 -> s.1 = B.drop a.toNat
structure OkB (B:List Int):Prop where
 by_:By B
 len:B.length <= 1000000000
variable {B:List Int} {a:Int} {s:RS}
end Go.Ep.M.N

namespace Go.Ep.M.D
open Go

theorem Vk {a b:TDot}:zM a b = true ↔ a.dev < b.dev \/ (a.dev = b.dev /\ a.n < b.n):=by simp [zM]
theorem Xe (a:TDot):zM a a = false:=by
 cases h:zM a a with
 | false=>rfl
 | true=>rw [Vk] at h;omega
theorem XR {a b c:TDot} (h1:zM a b = true) (h2:zM b c = true):zM a c = true:=by rw [Vk] at *;omega
theorem Zv {a b:TDot} (h:zM a b = true):zM b a = false:=by
 cases h2:zM b a with
 | false=>rfl
 | true=>rw [Vk] at h h2;omega
theorem JF {a b:TDot} (h1:zM a b = false) (h2:zM b a = false):a = b:=by
 have h3:¬ (zM a b = true):=by simp [h1]
 have h4:¬ (zM b a = true):=by simp [h2]
 rw [Vk] at h3 h4
 cases a;cases b
 simp only [TDot.mk.injEq] at *
 omega
abbrev Srt (l:List TDot):Prop:=l.Pairwise fun x y=>zM x y = true
theorem wia : ∀ {l l':List TDot},Srt l -> Srt l' -> (∀ d,d ∈ l ↔ d ∈ l') -> l = l'
 | [],[],_,_,_=>rfl
 | [],y :: r,_,_,h=>by have:=(h y).2 (by simp);simp at this
 | x :: r,[],_,_,h=>by have:=(h x).1 (by simp);simp at this
 | x :: r,y :: t,h1,h2,h=>by
  have hx:=(h x).1 (by simp);have hy:=(h y).2 (by simp);have e:x = y:=by
   rcases List.mem_cons.1 hx with e | hx
   ·exact e
   ·rcases List.mem_cons.1 hy with e | hy
    ·exact e.symm
    ·have a1:=(List.pairwise_cons.1 h2).1 x hx;have a2:=(List.pairwise_cons.1 h1).1 y hy;rw [Zv a1] at a2;cases a2
  subst e
  congr 1
  refine wia (List.pairwise_cons.1 h1).2 (List.pairwise_cons.1 h2).2 fun d=>?_
  have h3:=h d;simp only [List.mem_cons] at h3
  constructor
  ·intro hd;rcases h3.1 (.inr hd) with e | h4
   ·have:=(List.pairwise_cons.1 h1).1 d hd;rw [e,Xe] at this;cases this
   ·exact h4
  ·intro hd;rcases h3.2 (.inr hd) with e | h4
   ·have:=(List.pairwise_cons.1 h2).1 d hd;rw [e,Xe] at this;cases this
   ·exact h4

def insD (s:List TDot) (d:TDot):List TDot:=(s.filter fun x=>zM x d) ++ [d] ++ (s.filter fun x=>zM d x)
theorem ins_mem {s:List TDot} {d x:TDot}:x ∈ insD s d ↔ x = d \/ x ∈ s:=by
 simp only [insD,List.mem_append,List.mem_filter,List.mem_singleton]
 constructor
 ·rintro ((h | h) | h)
  ·exact .inr h.1
  ·exact .inl h
  ·exact .inr h.1
 ·rintro (h | h)
  ·exact .inl (.inr h)
  ·cases h1:zM x d with
   | true=>exact .inl (.inl ⟨h,rfl⟩)
   | false=>
    cases h2:zM d x with
    | true=>exact .inr ⟨h,rfl⟩
    | false=>exact .inl (.inr (JF h1 h2))
theorem ins_srt {s:List TDot} (h:Srt s) (d:TDot):Srt (insD s d):=by
 unfold Srt insD;rw [List.pairwise_append,List.pairwise_append];refine ⟨⟨h.filter _,by simp,fun a ha b hb=>?_⟩,h.filter _,fun a ha b hb=>?_⟩
 ·rw [List.mem_singleton.1 hb];exact (List.mem_filter.1 ha).2
 ·have hb:=(List.mem_filter.1 hb).2;rcases List.mem_append.1 ha with ha | ha
  ·exact XR (List.mem_filter.1 ha).2 hb
  ·rw [List.mem_singleton.1 ha];exact hb
theorem jN (s:List TDot) (d:TDot):(insD s d).length <= s.length + 1:=by
 unfold insD;have h:∀ l:List TDot,(l.filter fun x=>zM x d).length + (l.filter fun x=>zM d x).length <= l.length:=by
  intro l
  induction l with
  | nil=>simp
  | cons x r ih=>
   cases h1:zM x d with
   | true=>simp [h1,Zv h1];omega
   | false=>
    cases h2:zM d x with
    | true=>simp [h1,h2];omega
    | false=>simp [h1,h2];omega
 have:=h s;simp;omega
def vD (l:List TDot):List TDot:=l.foldl insD []
theorem UM : ∀ (l s:List TDot),Srt s -> Srt (l.foldl insD s) /\ (∀ d,d ∈ l.foldl insD s ↔ d ∈ s \/ d ∈ l) /\ (l.foldl insD s).length <= s.length + l.length
 | [],s,h=>⟨h,by simp,by simp⟩
 | x :: r,s,h=>by
  obtain ⟨h1,h2,h3⟩:=UM r (insD s x) (ins_srt h x);refine ⟨h1,fun d=>?_,?_⟩
  ·rw [List.foldl_cons,h2 d,ins_mem,List.mem_cons]
   constructor
   ·rintro ((h | h) | h)
    ·exact .inr (.inl h)
    ·exact .inl h
    ·exact .inr (.inr h)
   ·rintro (h | h | h)
    ·exact .inl (.inr h)
    ·exact .inl (.inl h)
    ·exact .inr h
  ·have:=jN s x;rw [List.foldl_cons,List.length_cons];omega
theorem sort_srt (l:List TDot):Srt (vD l):=(UM l [] List.Pairwise.nil).1
theorem Zw {l:List TDot} {d:TDot}:d ∈ vD l ↔ d ∈ l:=by simpa [vD] using (UM l [] List.Pairwise.nil).2.1 d
theorem XS (l:List TDot):(vD l).length <= l.length:=by simpa [vD] using (UM l [] List.Pairwise.nil).2.2
theorem jO (s:List TDot) (d:TDot) (h:s.length <= 1000000000000):un s d = pure (insD s d):=V.VR s d h

def ddS (out:List TDot) (x:TDot):List TDot:=if out.getLast? = some x then out else out ++ [x]
def dd (l:List TDot):List TDot:=l.foldl ddS []
theorem jP (l:List TDot) (x:TDot):dd (l ++ [x]) = ddS (dd l) x:=by simp [dd]
theorem zja (l:List TDot):(dd l).getLast? = l.getLast?:=by
 rcases R.xm l with rfl | ⟨r,y,rfl⟩
 ·rfl
 ·rw [jP];unfold ddS
  by_cases c:(dd r).getLast? = some y
  ·rw [if_pos c,c];simp
  ·rw [if_neg c];simp
theorem dd_mem {l:List TDot} {d:TDot}:d ∈ dd l ↔ d ∈ l:=by
 have:∀ (l s:List TDot),d ∈ l.foldl ddS s ↔ d ∈ s \/ d ∈ l:=by
  intro l
  induction l with
  | nil=>intro s;simp
  | cons x r ih=>
   intro s;rw [List.foldl_cons,ih];have h2:d ∈ ddS s x ↔ d ∈ s \/ d = x:=by
    unfold ddS
    split
    ·rename_i h
     exact ⟨.inl,fun h3=>h3.elim id fun e=>by rw [e];exact List.mem_of_getLast? h⟩
    ·simp
   rw [h2,List.mem_cons];exact or_assoc
 simpa [dd] using this l []
theorem dd_srt {l:List TDot} (h:l.Pairwise fun x y=>zM y x = false):Srt (dd l):=by
 have:∀ (n:Nat) (l:List TDot),l.length = n -> (l.Pairwise fun x y=>zM y x = false) -> Srt (dd l):=by
  intro n
  induction n with
  | zero=>intro l hl _;have:=List.eq_nil_of_length_eq_zero hl;subst this;exact List.Pairwise.nil
  | succ n ih=>
   intro l hl h;rcases R.xm l with rfl | ⟨r,y,rfl⟩
   ·simp at hl
   ·rw [List.pairwise_append] at h;have hr:=ih r (by simpa using hl) h.1;rw [jP];unfold ddS
    split
    ·exact hr
    ·rename_i hne
     unfold Srt;rw [List.pairwise_append];refine ⟨hr,by simp,fun a ha b hb=>?_⟩;rw [List.mem_singleton.1 hb];have ha':=dd_mem.1 ha;have h1:=h.2.2 a ha' y (by simp)
     cases h2:zM a y with
     | true=>rfl
     | false=>
      exfalso;have e:=JF h2 h1;subst e;rw [zja] at hne;rcases R.xm r with rfl | ⟨q,z,rfl⟩
      ·simp at ha'
      ·have hz:zM a z = false:=h.2.2 z (by simp) a (by simp);rcases List.mem_append.1 ha' with h5 | h5
       ·have h6:zM z a = false:=by
         have:=(List.pairwise_append.1 h.1).2.2 a h5 z (by simp);exact this
        have:=JF hz h6;subst this;simp at hne
       ·rw [List.mem_singleton.1 h5] at hne;simp at hne
 exact this l.length l rfl h

theorem qV (l:List TDot) (h:l.length <= 1000000000000):zq l = pure l:=by
 unfold zq;refine vy ⟨⟨false,fun h=>by cases h⟩,fun b hb=>?_⟩
 cases b with
 | true=>show ([]:List TDot) = l;exact (hb rfl).symm
 | false=>
  show _ /\ ([] ++ l = l)
  exact ⟨by simp;omega,List.nil_append l⟩
theorem Qe (x y:TDot):(decide (x.dev = y.dev) && decide (x.n = y.n)) = decide (x = y):=by
 cases x;cases y;simp [Bool.decide_and]
theorem YX {l:List TDot} {m:Nat} {x:TDot} (h:l[m]? = some x):l.take (m + 1) = l.take m ++ [x]:=by
 rw [List.take_add_one,h];rfl
theorem Qf {l:List TDot} {m:Nat} {x:TDot} (h:l[m]? = some x):(l.take (m + 1)).getLast? = some x:=by rw [YX h];simp
theorem VY (s:List TDot) (k:Nat) (hk:k < s.length) (hl:s.length <= 1000000000000):∀ (d k2 kk:Nat) (v:List TDot),k + k2 + d = s.length -> 1 <= k2 -> v.length = s.length -> kk + 1 <= k + k2 -> v.take kk = dd (s.take (k + k2)) -> v.drop (k + k2 - 1) = s.drop (k + k2 - 1) ->
  ∃ (kk':Nat) (v':List TDot),loop (zd s (k:Int)) ((kk:Int),(k2:Int),v) = pure ((kk':Int),v') /\ v'.length = s.length /\ kk' <= s.length /\ v'.take kk' = dd s
 | 0,k2,kk,v,hd,h1,hv,hkk,ht,_=>by
  refine ⟨kk,v,zh ?_,hv,by omega,by rw [ht,show k + k2 = s.length by omega,List.take_length]⟩;unfold zd;have:decide ((k2:Int) < (((s.length - (k:Int).toNat:Nat)):Int)) = false:=by simp;omega
  simp only [this,cond_false]
 | d + 1,k2,kk,v,hd,h1,hv,hkk,ht,hdr=>by
  have hvg:∀ j,k + k2 - 1 <= j -> v[j]? = s[j]?:=fun j hj=>by
   have:=congrArg (fun l=>l[j - (k + k2 - 1)]?) hdr;simp only [List.getElem?_drop] at this;rw [show k + k2 - 1 + (j - (k + k2 - 1)) = j by omega] at this;exact this
  obtain ⟨x,hx⟩:∃ x,s[k + k2]? = some x:=⟨_,List.getElem?_eq_getElem (by omega)⟩
  obtain ⟨y,hy⟩:∃ y,s[k + k2 - 1]? = some y:=⟨_,List.getElem?_eq_getElem (by omega)⟩
  have hlast:(dd (s.take (k + k2))).getLast? = some y:=by
   rw [zja];have:=Qf hy
   rwa [show k + k2 - 1 + 1 = k + k2 by omega] at this
  have hdd:dd (s.take (k + k2 + 1)) = if y = x then dd (s.take (k + k2)) else dd (s.take (k + k2)) ++ [x]:=by
   rw [YX hx,jP];unfold ddS;rw [hlast]
   by_cases c:y = x
   ·rw [if_pos c,if_pos (by rw [c])]
   ·rw [if_neg c,if_neg (by intro e;exact c (Option.some.inj e))]
  have hb:zd s (k:Int) ((kk:Int),(k2:Int),v) = pure (.next (if y = x then ((kk:Int),((k2 + 1:Nat):Int),v) else (((kk + 1:Nat):Int),((k2 + 1:Nat):Int),v.set kk x))):=by
   unfold zd;have hc:decide ((k2:Int) < (((s.length - (k:Int).toNat:Nat)):Int)) = true:=by simp;omega
   have e1:IntKind.i64.wrap ((k2:Int) - 1) = ((k2 - 1:Nat):Int):=by rw [wI64 (by omega) (by omega)];omega
   have i1:idx v ((((k:Int).toNat + (k2:Int).toNat:Nat)):Int) = pure x:=zF (by rw [Int.toNat_natCast,Int.toNat_natCast,hvg _ (by omega)];exact hx);have i2:idx v ((((k:Int).toNat + (((k2 - 1:Nat):Int)).toNat:Nat)):Int) = pure y:=zF (by rw [Int.toNat_natCast,Int.toNat_natCast,hvg _ (by omega),show k + (k2 - 1) = k + k2 - 1 by omega];exact hy);obtain ⟨z,hz⟩:∃ z,v[kk]? = some z:=⟨_,List.getElem?_eq_getElem (by omega)⟩
   have i3:idx v (kk:Int) = pure z:=zF hz;simp only [hc,cond_true,e1];rw [zD (by simp;omega),i1,zA,zD (by simp;omega),i2,zA];simp only [Qe]
   by_cases c:y = x
   ·have c1:decide (x = y) = true:=decide_eq_true c.symm;simp only [c1,Bool.not_true,cond_false,zA,zf (show k2 < 9223372036854775807 by omega),if_pos c]
   ·have c1:decide (x = y) = false:=decide_eq_false (fun e=>c e.symm);simp only [c1,Bool.not_false,cond_true,if_neg c];rw [zD (by simp;omega),i3];simp only [zA,zf (show k2 < 9223372036854775807 by omega),zf (show kk < 9223372036854775807 by omega),Int.toNat_natCast]
  by_cases c:y = x
  ·rw [if_pos c] at hb hdd;rw [zg hb];refine VY s k hk hl d (k2 + 1) kk v (by omega) (by omega) hv (by omega) (by rw [ht,<- hdd];rfl) ?_;have:=congrArg (List.drop 1) hdr;rw [List.drop_drop,List.drop_drop,show k + k2 - 1 + 1 = k + (k2 + 1) - 1 by omega] at this;exact this
  ·rw [if_neg c] at hb hdd;rw [zg hb];refine VY s k hk hl d (k2 + 1) (kk + 1) (v.set kk x) (by omega) (by omega) (by simpa using hv) (by omega) ?_ ?_
   ·have h5:(v.set kk x)[kk]? = some x:=by rw [List.getElem?_set];simp;omega
    rw [YX h5,List.take_set,List.set_eq_of_length_le (by rw [List.length_take];omega),ht,<- hdd];rfl
   ·rw [List.drop_set,if_pos (by omega)];have:=congrArg (List.drop 1) hdr;rw [List.drop_drop,List.drop_drop,show k + k2 - 1 + 1 = k + (k2 + 1) - 1 by omega] at this;exact this
theorem xDa (s:List TDot) (hl:s.length <= 1000000000000):zk s = pure (dd s):=by
 unfold zk
 by_cases h2:s.length < 2
 ·have:decide ((s.length:Int) < 2) = true:=by simp;omega
  rw [this,cond_true]
  match s,h2 with
  | [],_=>rfl
  | [x],_=>rfl
 ·have:decide ((s.length:Int) < 2) = false:=by simp;omega
  rw [this,cond_false];have key:∀ d k,k + d = s.length -> 1 <= k -> dd (s.take k) = s.take k -> (loop (ze s) (k:Int)).bind (exk fun _=>pure s) = pure (dd s):=by
   intro d
   induction d with
   | zero=>
    intro k hk h1 hd;rw [zh (r:=.brk ()) (by
     unfold ze;have:decide ((k:Int) < (s.length:Int)) = false:=by simp;omega
     simp only [this,cond_false])]
    rw [show k = s.length by omega,List.take_length] at hd;show pure s = pure (dd s);rw [hd]
   | succ d ih=>
    intro k hk h1 hd;obtain ⟨x,hx⟩:∃ x,s[k]? = some x:=⟨_,List.getElem?_eq_getElem (by omega)⟩
    obtain ⟨y,hy⟩:∃ y,s[k - 1]? = some y:=⟨_,List.getElem?_eq_getElem (by omega)⟩
    have hlast:(dd (s.take k)).getLast? = some y:=by
     rw [zja];have:=Qf hy
     rwa [show k - 1 + 1 = k by omega] at this
    have hc:decide ((k:Int) < (s.length:Int)) = true:=by simp;omega
    have i1:idx s (k:Int) = pure x:=zF hx;have i2:idx s (IntKind.i64.wrap ((k:Int) - 1)) = pure y:=by
     rw [wI64 (by omega) (by omega)];exact Xa (by omega) (by rw [show ((k:Int) - 1).toNat = k - 1 by omega];exact hy)
    by_cases c:x = y
    ·subst c;obtain ⟨kk,v,h5,h6,h7,h8⟩:=VY s k (by omega) hl d 1 k s (by omega) (by omega) rfl (by omega) (by
      rw [YX hx,jP,ddS,if_pos hlast,hd]) (by rw [show k + 1 - 1 = k by omega])
     rw [zh (r:=.ret (dd s)) (by
      unfold ze;simp only [hc,cond_true,i1,i2,zA,Qe,decide_true];rw [zD (by omega),show (1:Int) = ((1:Nat):Int) from rfl,h5,zA];simp only [];rw [zD (by omega),zD (by simp;omega),zD (by
       simp only [List.length_append,List.length_take,List.length_replicate,List.length_drop,Int.toNat_natCast];omega),zA,UZ]
      congr 3
      rw [Int.toNat_natCast,List.append_assoc,List.take_append_of_le_length (by rw [List.length_take];omega),List.take_take,Nat.min_self,h8])]
     rfl
    ·have c1:decide (x = y) = false:=decide_eq_false c;rw [zg (s':=((k + 1:Nat):Int)) (by
      unfold ze;simp only [hc,cond_true,i1,i2,zA,Qe,c1,cond_false,ul,zf (show k < 9223372036854775807 by omega)])]
     refine ih (k + 1) (by omega) (by omega) ?_;rw [YX hx,jP,ddS,if_neg (by rw [hlast];intro e;exact c (Option.some.inj e).symm),hd]
  have:=key (s.length - 1) 1 (by omega) (by omega) (by
   obtain ⟨x,r,rfl⟩:∃ x r,s = x :: r:=by
    cases s with
    | nil=>simp at h2
    | cons x r=>exact ⟨x,r,rfl⟩
   rfl)
  exact this
theorem wLa {l:List TDot} {Q:List TDot -> Prop} (h:∀ s,s.Perm l -> (s.Pairwise fun x y=>zM y x = false) -> Q s):(srt zM l).wp Q:=by
 refine ⟨⟨l.mergeSort (fun x y=>!zM y x),List.mergeSort_perm _ _,?_⟩,fun s ⟨h1,h2⟩=>h s h1 h2⟩;refine (List.pairwise_mergeSort (fun a b c h1 h2=>?_) (fun a b=>?_) l).imp fun {x y} h=>by simpa using h
 ·simp only [Bool.not_eq_true'] at h1 h2 ⊢
  cases h3:zM c a with
  | false=>rfl
  | true=>
   rw [Vk] at h3;have h4:¬ (zM b a = true):=by simp [h1]
   have h5:¬ (zM c b = true):=by simp [h2]
   rw [Vk] at h4 h5;omega
 ·cases h1:zM b a with
  | false=>rfl
  | true=>rw [Zv h1];rfl
theorem wja (l:List TDot) (h:l.length <= 1000000000000):WM l = pure (vD l):=by
 unfold WM;rw [qV l h,zB,zA,zD (by omega)];refine vy (wLa fun s hs hp=>?_);show (bind (det (zk s)) fun y8=>pure y8).wp _;rw [xDa s (by rw [hs.length_eq];exact h),zB,zA];exact wia (dd_srt hp) (sort_srt l) fun d=>by rw [dd_mem,Zw];exact hs.mem_iff

theorem cmp16_eq (x y:Int):yv x y = pure (R.cmp3 x y):=by
 unfold yv xU R.cmp3;simp only [decide_true,Bool.not_true,zB,zA,cond_false,yR]
 split
 ·rfl
 ·split <;> rfl
theorem yZa (a b:TDot):um a b = pure (V.cmpD a b):=by
 unfold um;rw [cmp16_eq,zB,zA,R.wMa,zB,zA];unfold V.cmpD R.cmp3
 cases a with | mk d n=>cases b with | mk e m=>
 simp only [TDot.mk.injEq,zM]
 by_cases h1:d < e
 ·have:¬ d = e:=by omega
  simp [h1,this]
 ·by_cases h2:e < d
  ·have:¬ d = e:=by omega
   simp [h1,h2,this]
  ·have h3:d = e:=by omega
   subst h3
   by_cases h4:n < m
   ·have:¬ n = m:=by omega
    simp [h4,this]
   ·by_cases h5:m < n
    ·have:¬ n = m:=by omega
     simp [h4,h5,this]
    ·have:n = m:=by omega
     simp [this]


theorem wka {σ ρ ε:Type} {body:σ -> M (Step σ ρ)} (l:List ε) (f:ε -> List Int) (row:List Int) (N:Nat) (mk:Nat -> List Int -> σ) (g:List Int -> M ρ) (hN:row.length + (l.flatMap f).length <= N)
  (h1:∀ (i:Nat) (x:ε) (out:List Int),l[i]? = some x -> i < l.length -> out.length + (f x).length <= N -> body (mk i out) = pure (.next (mk (i + 1) (out ++ f x))))
  (h2:∀ out,body (mk l.length out) = (g out).bind fun r=>pure (.done r)):loop body (mk 0 row) = g (row ++ l.flatMap f):=by
 have key:∀ (k i:Nat) (out:List Int),i + k = l.length -> out.length + ((l.drop i).flatMap f).length <= N -> loop body (mk i out) = g (out ++ (l.drop i).flatMap f):=by
  intro k
  induction k with
  | zero=>
   intro i out hi _;have:i = l.length:=by omega
   subst this;rw [Ua,h2,List.drop_length];simp only [List.flatMap_nil,List.append_nil]
   rfl
  | succ k ih=>
   intro i out hi hl;have hlt:i < l.length:=by omega
   rw [List.drop_eq_getElem_cons hlt,List.flatMap_cons,List.length_append] at hl;rw [zg (h1 i l[i] out (List.getElem?_eq_getElem hlt) hlt (by omega)),ih (i + 1) _ (by omega) (by rw [List.length_append];omega),List.drop_eq_getElem_cons hlt,List.flatMap_cons,List.append_assoc]
 simpa using key l.length 0 row (by omega) (by simpa using hN)
theorem yaa {ε:Type} (l:List ε) (f:ε -> List Int) (k:Nat) (h:∀ x ∈ l,(f x).length <= k):(l.flatMap f).length <= k * l.length:=by
 induction l with
 | nil=>simp
 | cons x r ih=>
  have h1:=h x (by simp);have h2:=ih fun y hy=>h y (by simp [hy])
  rw [List.flatMap_cons,List.length_append,List.length_cons,Nat.mul_add];omega

structure OkD (d:TDot):Prop where
 d0:0 <= d.dev
 d1:d.dev <= 65535
 n0:0 <= d.n
 n1:d.n <= 18446744073709551615
def encD (d:TDot):List Int:=N.encI d.dev ++ N.encI d.n
theorem yba {d:TDot} (h:OkD d):(encD d).length <= 18:=by
 have h1:=N.Zu (v:=d.dev) (by have:=h.d1;omega);have h2:=N.Zu (v:=d.n) h.n1;rw [encD,List.length_append];omega
theorem JG {d:TDot} (h:OkD d) (row:List Int) (hr:row.length <= 1000000000000):XD row d = pure (row ++ encD d):=by
 have h1:=N.Zu (v:=d.dev) (by have:=h.d1;omega);unfold XD;rw [wU64 h.d0 (by have:=h.d1;omega),N.ZN row h.d0 (by have:=h.d1;omega) (by omega),zB,zA,N.ZN _ h.n0 h.n1 (by rw [List.length_append];omega),zB,zA,encD,List.append_assoc]
def WE (l:List TDot):List TDot:=l.filter V.zw
def encDs (l:List TDot):List Int:=N.encI (vD (WE l)).length ++ (vD (WE l)).flatMap encD
theorem good_mem {l:List TDot} {d:TDot}:d ∈ vD (WE l) ↔ d ∈ l /\ V.zw d = true:=by rw [Zw,WE,List.mem_filter]
theorem good_len (l:List TDot):(vD (WE l)).length <= l.length:=Nat.le_trans (XS _) (List.length_filter_le _ _)
theorem yca {l:List TDot} (h:∀ d ∈ l,OkD d):∀ d ∈ vD (WE l),OkD d:=fun d hd=>h d (good_mem.1 hd).1
theorem VZ (l : List TDot) (hl : l.length <= 1000000000000) : loop (xR l) ([], 0) = pure (vD (WE l)) := by
  have := uL (body := xR l) l (fun i t => (t, (i : Int))) (fun t d => if V.zw d = true then insD t d else t) (fun t => pure t) (fun i t => t.length <= i) (fun i x t hx hi hI => by
    have hd : decide ((i : Int) < (l.length : Int)) = true := by simpa using hi
    refine ⟨?_, by split
                   · have := jN t x; omega
                   · omega⟩
    unfold xR;simp only [hd, cond_true, zF hx, zA, V.wx, zB, zf (show i < 9223372036854775807 by omega)]
    by_cases c : V.zw x = true
    · rw [c, cond_true, jO t x (by omega), zB, zA, zA, if_pos rfl]
    · simp only [Bool.not_eq_true] at c;rw [c, cond_false, zA]; rfl) (fun t _ => by
    unfold xR;simp [zA]) [] (by simp)
  rw [show (0 : Int) = ((0 : Nat) : Int) from rfl, this]
  congr 1
  have key : ∀ (l t : List TDot), l.foldl (fun t d => if V.zw d = true then insD t d else t) t = (WE l).foldl insD t := by
    intro l
    induction l with
    | nil => intro t; rfl
    | cons x r ih =>
      intro t;rw [List.foldl_cons, ih];unfold WE
      by_cases c : V.zw x = true
      · rw [if_pos c, List.filter_cons_of_pos c]; rfl
      · rw [if_neg c, List.filter_cons_of_neg c]
  exact key l []
theorem zka {l:List TDot} (h:∀ d ∈ l,OkD d) (hl:l.length <= 1000000000) (row:List Int) (hr:row.length <= 100000000000):Xp row l = pure (row ++ encDs l):=by
 have h3:=good_len l;have h1:=N.Zu (v:=((vD (WE l)).length:Int)) (by omega);have h2:=yaa (vD (WE l)) encD 18 fun x hx=>yba (yca h x hx)
 unfold Xp;rw [VZ l (by omega),zA,wU64 (by omega) (by omega),N.ZN row (by omega) (by omega) (by omega),zB,zA];have:=wka (body:=vF (vD (WE l))) (vD (WE l)) encD (row ++ N.encI ((vD (WE l)).length:Int)) 1000000000000 (fun i out=>(out,(i:Int))) (fun t=>pure t) (by rw [List.length_append];omega) (fun i x out hx hi ho=>by
  have hd:decide ((i:Int) < ((vD (WE l)).length:Int)) = true:=by simpa using hi
  unfold vF;simp only [hd,cond_true,zF hx,zA,JG (yca h x (List.mem_of_getElem? hx)) out (by omega),zB,zf (show i < 9223372036854775807 by omega)]) (fun out=>by
  unfold vF;simp [zA])
 rw [show (0:Int) = ((0:Nat):Int) from rfl,this,zA,encDs,List.append_assoc]

def encR (x:TRun):List Int:=N.encI x.lo ++ N.encI x.hi
def encP (p:TPart):List Int:=N.encI p.dev ++ (N.encI p.runs.length ++ p.runs.flatMap encR)
def encN (c:List TPart):List Int:=N.encI c.length ++ c.flatMap encP
structure OkP (p:TPart):Prop where
 d0:0 <= p.dev
 d1:p.dev <= 65535
 r:∀ x ∈ p.runs,(0 <= x.lo /\ x.lo <= 18446744073709551615) /\ 0 <= x.hi /\ x.hi <= 18446744073709551615
open N (RS Ok numS VX WD OkB Sim)

def bad4 (c:Bool) (s:RS):RS:=if c = true then WD 4 s else s
def fin {α:Type} (z x:α) (t:RS):α × RS:=if t.2 ≠ 0 then (z,t) else (x,t)
theorem wla {s:RS} (h:Ok s) (c:Bool):Ok (bad4 c s):=by unfold bad4;split;exact N.qR h _;exact h
theorem fin_ok {α:Type} {z x:α} {t:RS} (h:t.2 = 0):fin z x t = (x,t):=if_neg (by simp [h])
theorem fin_bad {α:Type} {z x:α} {t:RS} (h:t.2 ≠ 0):fin z x t = (z,t):=if_pos h
def dotR (s:RS):TDot:=⟨(VX 65535 s).1,(numS (VX 65535 s).2).1⟩
def dotT (s:RS):RS:=bad4 (!V.zw (dotR s)) (numS (VX 65535 s).2).2
def dotS (s:RS):TDot × RS:=fin ⟨0,0⟩ (dotR s) (dotT s)
theorem ok_dot {s:RS} (h:Ok s):Ok (dotS s).2 /\ OkD (dotS s).1 /\ OkD (dotR s):=by
 obtain ⟨h1,h2,h3⟩:=N.ok_upto h (m:=65535) (by decide);obtain ⟨h4,h5,h6⟩:=N.wha h1;have ht:Ok (dotT s):=wla h4 _;have hr:OkD (dotR s):=⟨h2,h3,h5,h6⟩
 unfold dotS
 by_cases c:(dotT s).2 = 0
 ·rw [fin_ok c];exact ⟨ht,hr,hr⟩
 ·rw [fin_bad c];exact ⟨ht,⟨Int.le_refl _,by simp,Int.le_refl _,by simp⟩,hr⟩
variable {B:List Int} {a:Int} {s:RS}
def lastGe (out:List TDot) (x:TDot):Bool:=match out.getLast? with | some y=>decide (0 <= V.cmpD y x) | none=>false
def qW (out:List TDot) (s:RS):RS:=bad4 (lastGe out (dotS s).1) (dotS s).2
def yD : Nat -> List TDot -> RS -> List TDot × RS
 | 0,out,s=>(out,s)
 | k + 1,out,s=>if (qW out s).2 ≠ 0 then ([],qW out s) else yD k (out ++ [(dotS s).1]) (qW out s)
def dotsS (most:Int) (s:RS):List TDot × RS:=if max most 0 < (numS s).1 then ([],WD 3 (numS s).2) else yD (numS s).1.toNat [] (numS s).2
theorem wma {k:Nat} {out:List TDot} {s:RS} (h:(qW out s).2 ≠ 0):yD (k + 1) out s = ([],qW out s):=if_pos h
theorem xEa {k:Nat} {out:List TDot} {s:RS} (h:(qW out s).2 = 0):yD (k + 1) out s = yD k (out ++ [(dotS s).1]) (qW out s):=if_neg (by simp [h])
theorem yda {s:RS} (h:Ok s) (out:List TDot):Ok (qW out s):=wla (ok_dot h).1 _
theorem yea : ∀ (k:Nat) (out:List TDot) (s:RS),Ok s -> Ok (yD k out s).2
 | 0,_,_,h=>h
 | k + 1,out,s,h=>by
  by_cases c:(qW out s).2 = 0
  ·rw [xEa c];exact yea k _ _ (yda h out)
  ·rw [wma c];exact yda h out
theorem zia {s:RS} (h:Ok s) (most:Int):Ok (dotsS most s).2:=by
 have h1:=N.wha h;unfold dotsS
 split
 ·exact N.qR h1.1 _
 ·exact yea _ _ _ h1.1
open N (RS Ok numS VX WD OkB Sim)

variable {B:List Int} {a:Int} {s:RS}
open N (RS Ok numS VX WD OkB Sim)

def YY : List TDot -> Bool
 | []=>true
 | x :: r=>(match r with | []=>true | y :: _=>zM x y) && YY r
theorem yfa : ∀ {l:List TDot},YY l = true ↔ Srt l
 | []=>⟨fun _=>List.Pairwise.nil,fun _=>rfl⟩
 | [x]=>⟨fun _=>by simp [Srt],fun _=>rfl⟩
 | x :: y :: r=>by
  show (zM x y && YY (y :: r)) = true ↔ _;rw [Bool.and_eq_true,yfa (l:=y :: r)];unfold Srt;rw [List.pairwise_cons (a:=x)]
  constructor
  ·rintro ⟨h1,h2⟩;refine ⟨fun z hz=>?_,h2⟩;rcases List.mem_cons.1 hz with rfl | hz
   ·exact h1
   ·exact XR h1 ((List.pairwise_cons.1 h2).1 z hz)
  ·rintro ⟨h1,h2⟩;exact ⟨h1 y (by simp),h2⟩
theorem cmp_ge (x y:TDot):decide (0 <= V.cmpD x y) = !zM x y:=by
 by_cases h:zM x y = true
 ·have:=V.Zq.2 h;rw [h];simp;omega
 ·have h2:¬ V.cmpD x y < 0:=fun e=>h (V.Zq.1 e)
  simp only [Bool.not_eq_true] at h;rw [h];simp;omega
theorem xFa (l:List TDot) (hl:l.length <= 1000000000000):Yt l = pure (YY l):=by
 unfold Yt;have key:∀ (k i:Nat) (x:TDot) (r:List TDot),i + k = l.length -> l.drop i = r -> i ≠ 0 -> l[i - 1]? = some x -> loop (xI l) (i:Int) = pure (if YY (x :: r) = true then .brk () else .ret false):=by
  intro k
  induction k with
  | zero=>
   intro i x r hi hr h1 hx;have:r = []:=by rw [<- hr];exact List.drop_eq_nil_of_le (by omega)
   subst this;exact zh (by
    unfold xI;have:decide ((i:Int) < (l.length:Int)) = false:=by simp;omega
    simp only [this,cond_false];rfl)
  | succ k ih=>
   intro i x r hi hr h1 hx;have hlt:i < l.length:=by omega
   have hr2:r = l[i] :: l.drop (i + 1):=by rw [<- hr];exact List.drop_eq_getElem_cons hlt
   have hy:=List.getElem?_eq_getElem hlt;have hi1:idx l (IntKind.i64.wrap ((i:Int) - 1)) = pure x:=by
    rw [wI64 (by omega) (by omega)];exact Xa (by omega) (by rw [show ((i:Int) - 1).toNat = i - 1 by omega];exact hx)
   have hb:xI l (i:Int) = cond (!zM x l[i]) (pure (.done (.ret false))) (pure (.next ((i + 1:Nat):Int))):=by
    unfold xI;have:decide ((i:Int) < (l.length:Int)) = true:=by simp;omega
    simp only [this,cond_true,hi1,zF hy,zA,V.ZL,zB,cmp_ge,zf (show i < 9223372036854775807 by omega)]
   rw [hr2];show _ = (pure (if (zM x l[i] && YY (l[i] :: l.drop (i + 1))) = true then Ex.brk () else Ex.ret false):M (Ex Unit Bool))
   cases c:zM x l[i] with
   | true=>
    rw [c] at hb;rw [zg hb,Bool.true_and];exact ih (i + 1) l[i] _ (by omega) rfl (by omega) hy
   | false=>
    rw [c] at hb;rw [zh hb];rfl
 cases l with
 | nil=>
  rw [zh (r:=.brk ()) (by unfold xI;rfl)];rfl
 | cons x r=>
  have:=key r.length 1 x r (by simp;omega) rfl (by decide) rfl;rw [show ((1:Nat):Int) = 1 from rfl] at this;rw [this,zA]
  cases YY (x :: r) <;> rfl

open N (RS Ok numS VX WD OkB Sim)

end Go.Ep.M.D

namespace Go.Ep.M.E
open Go

theorem xS (s:ByteArray):(xe s).length = s.size:=by simp [xe]
def cidD (v:Int):TDot:=⟨v / 281474976710656,v % 281474976710656⟩
theorem band48 {v:Int} (h0:0 <= v) (h:v <= 18446744073709551615):bAnd .u64 v 281474976710655 = v % 281474976710656:=by
 obtain ⟨n,rfl⟩:=Int.eq_ofNat_of_zero_le h0;unfold bAnd;have bv:∀ q:Nat,q < 18446744073709551616 -> (BitVec.ofInt IntKind.u64.bits (q:Int)).toNat = q:=fun q hq=>by
  show (BitVec.ofInt 64 (q:Int)).toNat = q;rw [BitVec.toNat_ofInt];omega
 have e:(281474976710655:Int) = ((281474976710655:Nat):Int):=rfl;rw [e,BitVec.toNat_and,bv n (by omega),bv _ (by decide)];have h2:n &&& 281474976710655 = n % 281474976710656:=Nat.and_two_pow_sub_one_eq_mod n 48;rw [h2,wU64 (by omega) (by omega)];omega
theorem Split_eq {v:Int} (h0:0 <= v) (h:v <= 18446744073709551615):Zd v = pure ((cidD v).dev,(cidD v).n):=by
 unfold Zd cidD;have e:(2 ^ 48:Int) = 281474976710656:=rfl;rw [band48 h0 h,Int.fdiv_eq_ediv_of_nonneg _ (by decide),e,wU16 (by omega) (by omega)]
theorem wna {v:Int} (h0:0 <= v) (h:v <= 18446744073709551615):WQ v = pure ((cidD v).dev,(cidD v).n):=by
 unfold WQ cidD;rw [Int.tdiv_eq_ediv_of_nonneg h0,Int.tmod_eq_emod_of_nonneg h0,wU64 (by omega) (by omega),wU16 (by omega) (by omega)]
def jQ (v:Int):Bool:=V.zw (cidD v)
theorem woa {v:Int} (h0:0 <= v) (h:v <= 18446744073709551615):Yx v = pure (if jQ v = true then cidD v else ⟨0,0⟩,jQ v):=by
 unfold Yx;rw [Split_eq h0 h,zB,zA,V.WB,zB,zA];show cond (!jQ v) _ _ = _
 cases jQ v <;> rfl
theorem xGa {v:Int} (h0:0 <= v) (h:v <= 18446744073709551615):Ys v = pure (if jQ v = true then cidD v else ⟨0,0⟩,jQ v):=by
 unfold Ys;rw [wna h0 h,zB,zA,V.wx,zB,zA];show cond (!jQ v) _ _ = _
 cases jQ v <;> rfl

def zla (f:Int):Bool:=decide (1 <= f) && decide (f <= 5)
theorem Field_eq (f:Int):Yy f = pure (zla f):=by unfold Yy zla;rw [zT];rfl
theorem wpa (f:Int):Vt f = pure (zla f):=by unfold Vt zla;rw [zT];rfl
def okB (x:Int):Bool:=decide (32 <= x) && decide (x <= 126)
def zma (s:ByteArray):Bool:=decide (s.size <= 60) && (xe s).all okB
theorem Zx {α:Type} (l:List α) (p:α -> Bool):(l.zipIdx.all fun y=>p y.1) = l.all p:=by
 rw [Bool.eq_iff_iff,List.all_eq_true,List.all_eq_true]
 constructor
 ·intro h x hx;obtain ⟨i,hi⟩:=List.getElem?_of_mem hx;exact h (x,i) (by rw [List.mk_mem_zipIdx_iff_getElem?];exact hi)
 ·intro h y hy;exact h y.1 (List.fst_mem_of_mem_zipIdx hy)
theorem okB_eq (x:Int) (f:M Bool) (hf:f = pure (decide (126 < x))):(cond (decide (x < 32)) (pure true) f:M Bool) = pure (!okB x):=by
 rw [hf];unfold okB
 by_cases h1:x < 32
 ·have:¬ 32 <= x:=by omega
  simp [h1,this]
 ·have:32 <= x:=by omega
  by_cases h2:126 < x
  ·have:¬ x <= 126:=by omega
   simp [h1,h2,this]
  ·have:x <= 126:=by omega
   simp [h1,h2, *]
theorem wqa (s:ByteArray) (hs:s.size <= 1000000000000):loop (xr s) 0 = pure (if (xe s).all okB = true then Ex.brk () else Ex.ret false):=by
 have:=yr (body:=xr s) (xe s) (fun i=>(i:Int)) (fun _ x=>okB x) (Ex.brk ()) (Ex.ret false) (fun i x hx hi=>by
  have hd:decide ((i:Int) < (s.size:Int)) = true:=by rw [<- xS];simpa using hi
  have hi2:i < s.size:=by rw [<- xS];exact hi
  unfold xr;simp only [hd,cond_true,zF hx,zA,okB_eq x _ rfl,zf (show i < 9223372036854775807 by omega)]
  cases okB x <;> rfl) (by
  unfold xr;simp [xS])
 rw [show (0:Int) = ((0:Nat):Int) from rfl,this,Zx]
theorem xHa (s:ByteArray) (hs:s.size <= 1000000000000):loop (uA s) 0 = pure (if (xe s).all okB = true then Ex.brk () else Ex.ret false):=by
 have:=yr (body:=uA s) (xe s) (fun i=>(i:Int)) (fun _ x=>okB x) (Ex.brk ()) (Ex.ret false) (fun i x hx hi=>by
  have hd:decide ((i:Int) < (s.size:Int)) = true:=by rw [<- xS];simpa using hi
  have hi2:i < s.size:=by rw [<- xS];exact hi
  unfold uA;simp only [hd,cond_true,zF hx,zA,okB_eq x _ rfl,zf (show i < 9223372036854775807 by omega)]
  cases okB x <;> rfl) (by
  unfold uA;simp [xS])
 rw [show (0:Int) = ((0:Nat):Int) from rfl,this,Zx]
theorem Text_eq (s:ByteArray) (hs:s.size <= 1000000000000):Yz s = pure (zma s):=by
 unfold Yz zma;rw [wqa s hs]
 by_cases h:s.size <= 60
 ·have:decide ((60:Int) < (s.size:Int)) = false:=by simp;omega
  rw [this,cond_false,zA,decide_eq_true h,Bool.true_and]
  cases (xe s).all okB <;> rfl
 ·have:decide ((60:Int) < (s.size:Int)) = true:=by simp;omega
  rw [this,cond_true,decide_eq_false h,Bool.false_and]
theorem rText_eq (s:ByteArray) (hs:s.size <= 1000000000000):Vu s = pure (zma s):=by
 unfold Vu zma;rw [xHa s hs,zA]
 cases (xe s).all okB with
 | false=>rw [Bool.and_false];rfl
 | true=>
  rw [if_pos rfl,ul,Bool.and_true]
  congr 1
  by_cases h:s.size <= 60
  ·rw [decide_eq_true h];simp;omega
  ·rw [decide_eq_false h];simp;omega

structure OkE (e:TEvent):Prop where
 dot:D.OkD e.dot
 kind:0 <= e.kind /\ e.kind <= 255
 cid:0 <= e.cid /\ e.cid <= 18446744073709551615
 field:0 <= e.field /\ e.field <= 255
 text:e.text.size <= 1000000000
 kills:∀ d ∈ e.kills,D.OkD d
 klen:e.kills.length <= 1000000000
def wra (s:ByteArray):Bool:=decide (s = ⟨#[]⟩)
def goodK (e:TEvent):Bool:=(decide (e.kind = 1) && (zla e.field && zma e.text)) || (decide (e.kind = 2) && (decide (e.field = 0) && wra e.text))
def xIa (e:TEvent):Bool:=decide (e.kills.length <= 256) && (D.YY e.kills && e.kills.all fun d=>V.zw d && !decide (d = e.dot))
def yU (e:TEvent):Bool:=(jQ e.cid && V.zw e.dot) && (goodK e && xIa e)
theorem wsa (l:List TDot) (hl:l.length <= 1000000000000):XA l = pure (D.YY l):=by
 unfold XA;have key:∀ (k i:Nat) (x:TDot) (r:List TDot),i + k = l.length -> l.drop i = r -> i ≠ 0 -> l[i - 1]? = some x -> loop (yf l) (i:Int) = pure (if D.YY (x :: r) = true then Ex.brk () else Ex.ret false):=by
  intro k
  induction k with
  | zero=>
   intro i x r hi hr h1 hx;have:r = []:=by rw [<- hr];exact List.drop_eq_nil_of_le (by omega)
   subst this;exact zh (by
    unfold yf;have:decide ((i:Int) < (l.length:Int)) = false:=by simp;omega
    simp only [this,cond_false];rfl)
  | succ k ih=>
   intro i x r hi hr h1 hx;have hlt:i < l.length:=by omega
   have hr2:r = l[i] :: l.drop (i + 1):=by rw [<- hr];exact List.drop_eq_getElem_cons hlt
   have hy:=List.getElem?_eq_getElem hlt;have hi1:idx l (IntKind.i64.wrap ((i:Int) - 1)) = pure x:=by
    rw [wI64 (by omega) (by omega)];exact Xa (by omega) (by rw [show ((i:Int) - 1).toNat = i - 1 by omega];exact hx)
   have hb:yf l (i:Int) = cond (!zM x l[i]) (pure (.done (.ret false))) (pure (.next ((i + 1:Nat):Int))):=by
    unfold yf;have h2:decide ((i:Int) < (l.length:Int)) = true:=by simp;omega
    have h3:decide ((0:Int) < (i:Int)) = true:=by simp;omega
    simp only [h2,h3,cond_true,hi1,zF hy,zA,D.yZa,zB,D.cmp_ge,zf (show i < 9223372036854775807 by omega)]
   rw [hr2];show _ = (pure (if (zM x l[i] && D.YY (l[i] :: l.drop (i + 1))) = true then Ex.brk () else Ex.ret false):M (Ex Unit Bool))
   cases c:zM x l[i] with
   | true=>
    rw [c] at hb;rw [zg hb,Bool.true_and];exact ih (i + 1) l[i] _ (by omega) rfl (by omega) hy
   | false=>
    rw [c] at hb;rw [zh hb];rfl
 cases l with
 | nil=>
  rw [zh (r:=Ex.brk ()) (by unfold yf;rfl)];rfl
 | cons x r=>
  have h0:yf (x :: r) 0 = pure (.next 1):=by
   unfold yf;have h2:decide ((0:Int) < ((x :: r).length:Int)) = true:=decide_eq_true (by rw [List.length_cons];omega);simp only [h2,cond_true,show decide ((0:Int) < 0) = false from rfl,cond_false,zA];rw [wI64 (by omega) (by omega)]
   rfl
  have:=key r.length 1 x r (by simp;omega) rfl (by decide) rfl;rw [show ((1:Nat):Int) = 1 from rfl] at this;rw [zg h0,this,zA]
  cases D.YY (x :: r) <;> rfl
theorem xJa (e:TEvent) (hl:e.kills.length <= 1000000000000):loop (xt e) 0 = pure (if (e.kills.all fun d=>V.zw d && !decide (d = e.dot)) = true then Ex.brk () else Ex.ret false):=by
 have:=yr (body:=xt e) e.kills (fun i=>(i:Int)) (fun _ d=>V.zw d && !decide (d = e.dot)) (Ex.brk ()) (Ex.ret false) (fun i x hx hi=>by
  have hd:decide ((i:Int) < (e.kills.length:Int)) = true:=by simpa using hi
  unfold xt;simp only [hd,cond_true,zF hx,zA,V.WB,zB,D.Qe,zf (show i < 9223372036854775807 by omega)]
  cases V.zw x <;> cases decide (x = e.dot) <;> rfl) (by
  unfold xt;simp)
 rw [show (0:Int) = ((0:Nat):Int) from rfl,this,Zx e.kills fun d=>V.zw d && !decide (d = e.dot)]
theorem uS {e:TEvent} (h:OkE e):xf e = pure (yU e):=by
 have hk:=h.klen;have ht:=h.text;unfold xf yU;rw [woa h.cid.1 h.cid.2,zB,zA,V.WB,zB,zA,xJa e (by omega),wsa e.kills (by omega),Field_eq,Text_eq e.text (by omega)];simp only []
 cases jQ e.cid with
 | false=>rfl
 | true=>
  cases V.zw e.dot with
  | false=>rfl
  | true=>
   have hl:decide ((256:Int) < (e.kills.length:Int)) = !decide (e.kills.length <= 256):=by
    by_cases c:e.kills.length <= 256
    ·rw [decide_eq_true c];simp;omega
    ·rw [decide_eq_false c];simp;omega
   have tail:(cond (decide ((256:Int) < (e.kills.length:Int))) (pure true) ((det (pure (D.YY e.kills))).bind fun v23=>pure (!v23))).bind (fun v21=>cond v21 (pure false) ((pure (if (e.kills.all fun d=>V.zw d && !decide (d = e.dot)) = true then Ex.brk () else Ex.ret false)).bind (exk fun _=>pure true))) = pure (xIa e):=by
    unfold xIa;rw [hl,zB,zA]
    cases decide (e.kills.length <= 256) with
    | false=>rfl
    | true=>
     cases D.YY e.kills with
     | false=>rfl
     | true=>cases e.kills.all fun d=>V.zw d && !decide (d = e.dot) <;> rfl
   simp only [Bool.not_true,cond_false,zA,zB,Bool.true_and] at tail ⊢;unfold goodK wra
   by_cases k1:e.kind = 1
   ·have k2:decide (e.kind = 2) = false:=by rw [k1];rfl
    rw [decide_eq_true k1,cond_true,k2,Bool.true_and,Bool.false_and,Bool.or_false]
    cases zla e.field with
    | false=>rfl
    | true=>
     cases zma e.text with
     | false=>rfl
     | true=>exact tail
   ·rw [decide_eq_false k1,cond_false,Bool.false_and,Bool.false_or]
    by_cases k2:e.kind = 2
    ·rw [decide_eq_true k2,cond_true,Bool.true_and]
     cases decide (e.field = 0) with
     | false=>rfl
     | true=>
      cases decide (e.text = (⟨#[]⟩:ByteArray)) with
      | false=>rfl
      | true=>exact tail
    ·rw [decide_eq_false k2];rfl
theorem ur (l:List TDot) (d:TDot) (hl:l.length <= 1000000000000):Xn l d = pure (l.any fun x=>decide (x = d)):=by
 unfold Xn;have:=yr (body:=Yr l d) l (fun i=>(i:Int)) (fun _ x=>!decide (x = d)) (Ex.brk ()) (Ex.ret true) (fun i x hx hi=>by
  have hd:decide ((i:Int) < (l.length:Int)) = true:=by simpa using hi
  unfold Yr;simp only [hd,cond_true,zF hx,zA,D.Qe,zf (show i < 9223372036854775807 by omega)]
  cases decide (x = d) <;> rfl) (by
  unfold Yr;simp)
 rw [show (0:Int) = ((0:Nat):Int) from rfl,this,zA,Zx l fun x=>!decide (x = d)];have e:(l.any fun x=>decide (x = d)) = !(l.all fun x=>!decide (x = d)):=by simp [List.all_eq_not_any_not]
 rw [e]
 cases l.all fun x=>!decide (x = d) <;> rfl
theorem VZ (e:TEvent) (hl:e.kills.length <= 1000000000000):loop (uB e) 0 = pure (if e.kills.all V.zw = true then Ex.brk () else Ex.ret false):=by
 have:=yr (body:=uB e) e.kills (fun i=>(i:Int)) (fun _ d=>V.zw d) (Ex.brk ()) (Ex.ret false) (fun i x hx hi=>by
  have hd:decide ((i:Int) < (e.kills.length:Int)) = true:=by simpa using hi
  unfold uB;simp only [hd,cond_true,zF hx,zA,V.wx,zB,zf (show i < 9223372036854775807 by omega)]
  cases V.zw x <;> rfl) (by
  unfold uB;simp)
 rw [show (0:Int) = ((0:Nat):Int) from rfl,this,Zx e.kills V.zw]
theorem vG {e:TEvent} (h:OkE e):Yu e = pure (yU e):=by
 have hk:=h.klen;have ht:=h.text;unfold Yu yU;rw [xGa h.cid.1 h.cid.2,zB,zA,V.wx,zB,zA,VZ e (by omega),D.xFa e.kills (by omega),wpa,rText_eq e.text (by omega),ur e.kills e.dot (by omega)];simp only []
 cases jQ e.cid with
 | false=>rfl
 | true=>
  cases V.zw e.dot with
  | false=>rfl
  | true=>
   have hl:decide ((e.kills.length:Int) <= 256) = decide (e.kills.length <= 256):=by
    by_cases c:e.kills.length <= 256
    ·rw [decide_eq_true c];simp;omega
    ·rw [decide_eq_false c];simp;omega
   have hall:(e.kills.all fun d=>V.zw d && !decide (d = e.dot)) = (e.kills.all V.zw && !(e.kills.any fun x=>decide (x = e.dot))):=by
    rw [Bool.eq_iff_iff,Bool.and_eq_true,List.all_eq_true,List.all_eq_true,Bool.not_eq_true',List.any_eq_false]
    constructor
    ·intro h;exact ⟨fun x hx=>by have:=h x hx;rw [Bool.and_eq_true] at this;exact this.1,fun x hx=>by have:=h x hx;rw [Bool.and_eq_true] at this;simpa using this.2⟩
    ·rintro ⟨h1,h2⟩ x hx;rw [Bool.and_eq_true];exact ⟨h1 x hx,by simpa using h2 x hx⟩
   have tail:((pure (if e.kills.all V.zw = true then Ex.brk () else Ex.ret false):M (Ex Unit Bool)).bind (exk fun _=>(cond (decide ((e.kills.length:Int) <= 256)) ((det (pure (D.YY e.kills))).bind fun v46=>cond v46 ((det (pure (e.kills.any fun x=>decide (x = e.dot)))).bind fun v49=>pure (!v49)) (pure false)) (pure false)).bind fun v44=>pure v44)) = pure (xIa e):=by
    unfold xIa;rw [hl,hall];simp only [zB,zA]
    cases e.kills.all V.zw with
    | false=>cases decide (e.kills.length <= 256) <;> cases D.YY e.kills <;> rfl
    | true=>cases decide (e.kills.length <= 256) <;> cases D.YY e.kills <;> cases e.kills.any fun x=>decide (x = e.dot) <;> rfl
   simp only [Bool.not_true,cond_false,zA,zB,Bool.true_and] at tail ⊢;unfold goodK wra
   by_cases k1:e.kind = 1
   ·have k2:decide (e.kind = 2) = false:=by rw [k1];rfl
    rw [decide_eq_true k1,k2];simp only [Bool.not_true,cond_false,cond_true,zA,Bool.true_and,Bool.false_and,Bool.or_false]
    cases zla e.field with
    | false=>rfl
    | true=>
     cases zma e.text with
     | false=>rfl
     | true=>exact tail
   ·rw [decide_eq_false k1];simp only [Bool.not_false,cond_true,zA,Bool.false_and,Bool.false_or]
    by_cases k2:e.kind = 2
    ·rw [decide_eq_true k2];simp only [Bool.not_true,cond_false,cond_true,Bool.true_and]
     cases decide (e.field = 0) with
     | false=>rfl
     | true=>
      cases decide (e.text = (⟨#[]⟩:ByteArray)) with
      | false=>rfl
      | true=>exact tail
    ·rw [decide_eq_false k2];rfl


def fewE (l:List TEvent) (most:Nat):Bool:=decide (l.length <= most) && l.all fun e=>decide (e.kills.length <= 300) && decide (e.text.size <= 200)
theorem WC (l:List TEvent) (most:Nat) (hm:most <= 1000000):Xl l (most:Int) = pure (fewE l most):=by
 unfold Xl fewE
 by_cases h:l.length <= most
 ·have hd:decide ((most:Int) < (l.length:Int)) = false:=by simp;omega
  have:=yr (body:=Yh l) l (fun i=>(i:Int)) (fun _ e=>decide (e.kills.length <= 300) && decide (e.text.size <= 200)) (Ex.brk ()) (Ex.ret false) (fun i x hx hi=>by
   have hd:decide ((i:Int) < (l.length:Int)) = true:=by simpa using hi
   unfold Yh;simp only [hd,cond_true,zF hx,zA,zf (show i < 9223372036854775807 by omega)]
   by_cases c:x.kills.length <= 300
   ·have h1:decide ((300:Int) < (x.kills.length:Int)) = false:=by simp;omega
    rw [h1,cond_false,decide_eq_true c,Bool.true_and,zA]
    by_cases c2:x.text.size <= 200
    ·have h2:decide ((200:Int) < (x.text.size:Int)) = false:=by simp;omega
     rw [h2,decide_eq_true c2];rfl
    ·have h2:decide ((200:Int) < (x.text.size:Int)) = true:=by simp;omega
     rw [h2,decide_eq_false c2];rfl
   ·have h1:decide ((300:Int) < (x.kills.length:Int)) = true:=by simp;omega
    rw [h1,cond_true,decide_eq_false c,Bool.false_and];rfl) (by
   unfold Yh;simp)
  rw [hd,cond_false,decide_eq_true h,Bool.true_and,show (0:Int) = ((0:Nat):Int) from rfl,this,zA,Zx l fun e=>decide (e.kills.length <= 300) && decide (e.text.size <= 200)]
  cases l.all fun e=>decide (e.kills.length <= 300) && decide (e.text.size <= 200) <;> rfl
 ·have hd:decide ((most:Int) < (l.length:Int)) = true:=by simp;omega
  rw [hd,cond_true,decide_eq_false h,Bool.false_and]
theorem wta {l:List TEvent} {most:Nat} (h:fewE l most = true):l.length <= most /\ ∀ e ∈ l,e.kills.length <= 300 /\ e.text.size <= 200:=by
 unfold fewE at h;rw [Bool.and_eq_true,List.all_eq_true] at h;exact ⟨by simpa using h.1,fun e he=>by simpa using h.2 e he⟩
theorem UL (a b:TEvent) (h:a.kills.length <= 1000000000000):Vz a b = pure (decide (a = b)):=by
 unfold Vz;rw [D.Qe,V.Uy a.kills b.kills h,zB,zA];have e:decide (a = b) = (decide (a.dot = b.dot) && (decide (a.kind = b.kind) && (decide (a.cid = b.cid) && (decide (a.field = b.field) && (decide (a.text = b.text) && decide (a.kills = b.kills)))))):=by
  cases a;cases b;simp only [TEvent.mk.injEq,Bool.decide_and]
 rw [e]
 cases decide (a.dot = b.dot) <;> cases decide (a.kind = b.kind) <;> cases decide (a.cid = b.cid) <;> cases decide (a.field = b.field) <;> cases decide (a.text = b.text) <;> rfl
theorem qX (a b:List TEvent) (ha:a.length <= 1000000000000) (hk:∀ e ∈ a,e.kills.length <= 1000000000000):Xq a b = pure (decide (a = b)):=by
 unfold Xq
 by_cases hlen:a.length = b.length
 ·have h1:decide ((a.length:Int) = (b.length:Int)) = true:=by simp [hlen]
  rw [h1,Bool.not_true,cond_false];have:=yr (body:=XE a b) a (fun i=>(i:Int)) (fun i x=>decide (b[i]? = some x)) (Ex.brk ()) (Ex.ret false) (fun i x hx hi=>by
   have hd:decide ((i:Int) < (a.length:Int)) = true:=by simpa using hi
   obtain ⟨y,hy⟩:∃ y,b[i]? = some y:=⟨_,List.getElem?_eq_getElem (by omega)⟩
   unfold XE;simp only [hd,cond_true,zF hx,zF hy,zA,UL x y (hk x (List.mem_of_getElem? hx)),zB,zf (show i < 9223372036854775807 by omega),hy]
   by_cases c:x = y
   ·subst c;simp
   ·have:¬ some y = some x:=fun e=>c (Option.some.inj e).symm
    simp [c,this]) (by
   unfold XE;simp)
  rw [show (0:Int) = ((0:Nat):Int) from rfl,this,zA];have e:(a.zipIdx.all fun y=>decide (b[y.2]? = some y.1)) = decide (a = b):=by
   rw [Bool.eq_iff_iff,List.all_eq_true,decide_eq_true_eq]
   constructor
   ·intro h;apply List.ext_getElem?;intro i
    by_cases hi:i < a.length
    ·have:=h (a[i],i) (by rw [List.mk_mem_zipIdx_iff_getElem?];exact List.getElem?_eq_getElem hi);simp only [decide_eq_true_eq] at this;rw [this,List.getElem?_eq_getElem hi]
    ·rw [List.getElem?_eq_none (by omega),List.getElem?_eq_none (by omega)]
   ·intro h y hy;subst h;rw [List.mem_zipIdx_iff_getElem?] at hy;simpa using hy
  rw [e]
  cases decide (a = b) <;> rfl
 ·have h1:decide ((a.length:Int) = (b.length:Int)) = false:=by simp;omega
  have h2:decide (a = b) = false:=decide_eq_false fun e=>hlen (by rw [e])
  rw [h1,Bool.not_false,cond_true,h2]

def encT (s:ByteArray):List Int:=N.encI s.size ++ xe s
def encE (e:TEvent):List Int:=D.encD e.dot ++ ([e.kind] ++ (N.encI e.cid ++ ([e.field] ++ (encT e.text ++ D.encDs e.kills))))
theorem encT_len {s:ByteArray} (h:s.size <= 1000000000):(encT s).length <= 9 + s.size:=by
 have:=N.Zu (v:=(s.size:Int)) (by omega);rw [encT,List.length_append,xS];omega
theorem zna {s:ByteArray} (h:s.size <= 1000000000) (row:List Int) (hr:row.length <= 1000000000000):Ja row s = pure (row ++ encT s):=by
 have h9:=N.Zu (v:=(s.size:Int)) (by omega);unfold Ja;rw [wU64 (by omega) (by omega),N.ZN row (by omega) (by omega) (by omega),zB,zA];have:=D.wka (body:=Ze s) (xe s) (fun x=>[x]) (row ++ N.encI (s.size:Int)) 2000000000000 (fun i out=>((i:Int),out)) (fun t=>pure t) (by
  have:=D.yaa (xe s) (fun x=>[x]) 1 (by simp);rw [xS] at this;rw [List.length_append];omega) (fun i x out hx hi ho=>by
  have hi2:i < s.size:=by rw [<- xS];exact hi
  have hd:decide ((i:Int) < (s.size:Int)) = true:=by simpa using hi2
  unfold Ze;simp only [hd,cond_true,zF hx,zA];rw [zD (by simp at ho ⊢;omega),zf (show i < 9223372036854775807 by omega)]) (fun out=>by
  unfold Ze;simp [xS,zA])
 rw [show (0:Int) = ((0:Nat):Int) from rfl,this,zA,encT,List.append_assoc];have e:∀ l:List Int,(l.flatMap fun x=>[x]) = l:=by
  intro l
  induction l with
  | nil=>rfl
  | cons x r ih=>rw [List.flatMap_cons,ih];rfl
 rw [e]
theorem jO {e:TEvent} (h:OkE e) (row:List Int) (hr:row.length <= 10000000000):xaa row e = pure (row ++ encE e):=by
 have h1:=D.yba h.dot;have h2:=N.Zu h.cid.2;have h3:=encT_len h.text;have ht:=h.text;have hk:=h.klen;unfold xaa;rw [D.JG h.dot row (by omega),zB,zA,zD (by simp only [List.length_append,List.length_singleton];omega),N.ZN _ h.cid.1 h.cid.2 (by simp only [List.length_append,List.length_singleton];omega),zB,zA,
  zD (by simp only [List.length_append,List.length_singleton];omega),zna h.text _ (by simp only [List.length_append,List.length_singleton];omega),zB,zA,
  D.zka h.kills (by omega) _ (by simp only [List.length_append,List.length_singleton];omega),zB,zA]
 simp only [encE,List.append_assoc]
open N (RS Ok numS VX xCa textS WD OkB Sim)
open D (bad4 fin)

def s1 (s:RS):RS:=(D.dotS s).2
def s2 (s:RS):RS:=(xCa (s1 s)).2
def s3 (s:RS):RS:=(numS (s2 s)).2
def s4 (s:RS):RS:=(xCa (s3 s)).2
def s5 (s:RS):RS:=(textS 60 (s4 s)).2
def s6 (s:RS):RS:=(D.dotsS 256 (s5 s)).2
def getE (s:RS):TEvent:=⟨(D.dotS s).1,(xCa (s1 s)).1,(numS (s2 s)).1,(xCa (s3 s)).1,(textS 60 (s4 s)).1,(D.dotsS 256 (s5 s)).1⟩
def noE : TEvent:=⟨⟨0,0⟩,0,0,0,⟨#[]⟩,[]⟩
def getT (s:RS):RS:=bad4 (!yU (getE s)) (s6 s)
def getS (s:RS):TEvent × RS:=fin noE (getE s) (getT s)
variable {B:List Int} {a:Int} {s:RS}
open N (RS Ok numS VX xCa textS WD OkB Sim)
open D (bad4 fin)

variable {B:List Int} {a:Int} {s:RS}
abbrev SrtE (l:List TEvent):Prop:=l.Pairwise fun x y=>zM x.dot y.dot = true
theorem qY (e:TEvent) (h:e.kills.length <= 1000000000000):yb e = pure e:=by
 unfold yb;rw [D.qV _ h,zB,zA]
end Go.Ep.M.E

namespace Go.Ep.M.F
open Go
open E (OkE yU)

def hasD (l:List TDot) (d:TDot):Bool:=l.any fun x=>decide (x = d)
theorem Vj (l:List TDot) (d:TDot) (hl:l.length <= 1000000000000):JY l d = pure (hasD l d):=by
 unfold JY yY yq;have:=loopF (body:=yA l d) l (fun i=>(i:Int)) (fun _ x=>decide (x = d)) (fun i _=>Ex.ret (i:Int)) (pure (Ex.brk ())) (fun i x hx hi=>by
  have hd:decide ((i:Int) < (l.length:Int)) = true:=by simpa using hi
  unfold yA;simp only [hd,cond_true,zF hx,zA,D.Qe,zf (show i < 9223372036854775807 by omega),yR,eq_comm (a:=d) (b:=x),decide_eq_true_eq]) (by
  unfold yA;simp [zA])
 rw [show (0:Int) = ((0:Nat):Int) from rfl,this];have hf:(l.zipIdx.find? fun y=>decide (y.1 = d)).isSome = hasD l d:=by
  rw [List.isSome_find?];unfold hasD;rw [Bool.eq_iff_iff,List.any_eq_true,List.any_eq_true]
  constructor
  ·rintro ⟨y,hy,h⟩;exact ⟨y.1,List.fst_mem_of_mem_zipIdx hy,h⟩
  ·rintro ⟨x,hx,h⟩;obtain ⟨i,hi⟩:=List.getElem?_of_mem hx;exact ⟨(x,i),by rw [List.mk_mem_zipIdx_iff_getElem?];exact hi,h⟩
 rw [<- hf]
 cases l.zipIdx.find? fun y=>decide (y.1 = d) with
 | none=>simp only [zA,zB,ul];rfl
 | some y=>simp only [zA,zB,UZ];simp
def wd (l:List TEvent) (d:TDot):Bool:=l.any fun e=>hasD e.kills d
theorem wua (l:List TEvent) (d:TDot) (hl:l.length <= 1000000000000) (hk:∀ e ∈ l,e.kills.length <= 1000000000000):xg l d = pure (wd l d):=by
 unfold xg;have:=yr (body:=vc l d) l (fun i=>(i:Int)) (fun _ x=>!hasD x.kills d) (Ex.brk ()) (Ex.ret true) (fun i x hx hi=>by
  have hd:decide ((i:Int) < (l.length:Int)) = true:=by simpa using hi
  unfold vc Xo;simp only [hd,cond_true,zF hx,zA,Vj x.kills d (hk x (List.mem_of_getElem? hx)),zB,zf (show i < 9223372036854775807 by omega)]
  cases hasD x.kills d <;> rfl) (by
  unfold vc;simp)
 rw [show (0:Int) = ((0:Nat):Int) from rfl,this,zA,E.Zx l fun x=>!hasD x.kills d];have e:wd l d = !(l.all fun x=>!hasD x.kills d):=by simp [wd,List.all_eq_not_any_not]
 rw [e]
 cases l.all fun x=>!hasD x.kills d <;> rfl
theorem rDead_eq (l:List TEvent) (d:TDot) (hl:l.length <= 1000000000000) (hk:∀ e ∈ l,e.kills.length <= 1000000000000):Wa l d = pure (wd l d):=by
 unfold Wa;have:=yr (body:=Zg l d) l (fun i=>(i:Int)) (fun _ x=>!hasD x.kills d) (Ex.brk ()) (Ex.ret true) (fun i x hx hi=>by
  have hd:decide ((i:Int) < (l.length:Int)) = true:=by simpa using hi
  unfold Zg;simp only [hd,cond_true,zF hx,zA,E.ur x.kills d (hk x (List.mem_of_getElem? hx)),zB,zf (show i < 9223372036854775807 by omega)];show cond (hasD x.kills d) _ _ = _
  cases hasD x.kills d <;> rfl) (by
  unfold Zg;simp)
 rw [show (0:Int) = ((0:Nat):Int) from rfl,this,zA,E.Zx l fun x=>!hasD x.kills d];have e:wd l d = !(l.all fun x=>!hasD x.kills d):=by simp [wd,List.all_eq_not_any_not]
 rw [e]
 cases l.all fun x=>!hasD x.kills d <;> rfl

def VA (l:List TDot) (c:List TPart):List TDot:=D.vD (l.filter fun d=>!C.hasC c d.dev d.n)
theorem wva (l : List TDot) (c : List TPart) (hl : l.length <= 1000000000) (hc : C.Sm c) : ZB l c = pure (VA l c) := by
  unfold ZB VK;have := uL (body := vd l c false) l (fun i t => ((i : Int), t)) (fun t d => if C.hasC c d.dev d.n = true then t else t ++ [d]) (fun t => pure t) (fun i t => t.length <= i) (fun i x t hx hi hI => by
    have hd : decide ((i : Int) < (l.length : Int)) = true := by simpa using hi
    refine ⟨?_, by split
                   · omega
                   · simp; omega⟩
    unfold vd;simp only [hd, cond_true, zF hx, zA, C.Vj c x hc, zB, zf (show i < 9223372036854775807 by omega)]
    by_cases c : C.hasC c x.dev x.n = true
    · rw [c, show (true == false) = false from rfl, cond_false, zA, if_pos rfl]
    · simp only [Bool.not_eq_true] at c;rw [c, show (false == false) = true from rfl, cond_true, zD (by simp; omega), zA]; rfl) (fun t _ => by
    unfold vd;simp [zA]) [] (by simp)
  have key : ∀ (l t : List TDot), l.foldl (fun t d => if C.hasC c d.dev d.n = true then t else t ++ [d]) t = t ++ l.filter fun d => !C.hasC c d.dev d.n := by
    intro l
    induction l with
    | nil => intro t; simp
    | cons x r ih =>
      intro t;rw [List.foldl_cons, ih]
      by_cases h : C.hasC c x.dev x.n = true
      · rw [if_pos h, List.filter_cons, if_neg (by simp [h])]
      · rw [if_neg h, List.filter_cons, if_pos (by simp [h]), List.append_assoc]; rfl
  rw [show (0 : Int) = ((0 : Nat) : Int) from rfl, this, zA, key, List.nil_append, D.wja _ (by have := List.length_filter_le (fun d : TDot => !C.hasC c d.dev d.n) l; omega), zB, zA, zB, zA, VA]
theorem rDrop_eq (l : List TDot) (c : List TPart) (hl : l.length <= 1000000000) (hc : C.Ok c) : UC l c = pure (VA l c) := by
  unfold UC;have := uL (body := Zh l c) l (fun i t => (t, (i : Int))) (fun t d => if C.hasC c d.dev d.n = true then t else D.insD t d) (fun t => pure t) (fun i t => t.length <= i) (fun i x t hx hi hI => by
    have hd : decide ((i : Int) < (l.length : Int)) = true := by simpa using hi
    refine ⟨?_, by split
                   · omega
                   · have := D.jN t x; omega⟩
    unfold Zh;simp only [hd, cond_true, zF hx, zA, C.ur c x hc, zB, zf (show i < 9223372036854775807 by omega)]
    by_cases c : C.hasC c x.dev x.n = true
    · rw [c, Bool.not_true, cond_false, zA, if_pos rfl]
    · simp only [Bool.not_eq_true] at c;rw [c, Bool.not_false, cond_true, D.jO t x (by omega), zB, zA, zA]; rfl) (fun t _ => by
    unfold Zh;simp [zA]) [] (by simp)
  have key : ∀ (l t : List TDot), l.foldl (fun t d => if C.hasC c d.dev d.n = true then t else D.insD t d) t = (l.filter fun d => !C.hasC c d.dev d.n).foldl D.insD t := by
    intro l
    induction l with
    | nil => intro t; rfl
    | cons x r ih =>
      intro t;rw [List.foldl_cons, ih]
      by_cases h : C.hasC c x.dev x.n = true
      · rw [if_pos h, List.filter_cons, if_neg (by simp [h])]
      · rw [if_neg h, List.filter_cons, if_pos (by simp [h])]; rfl
  rw [show (0 : Int) = ((0 : Nat) : Int) from rfl, this, zA, key]; rfl

def yD (l:List TEvent):List TDot:=l.flatMap fun e=>e.dot :: e.kills
def zy (l:List TEvent):List TDot:=D.vD (yD l)
theorem wY (l:List TEvent) (k:Nat) (h:∀ e ∈ l,e.kills.length <= k):(yD l).length <= l.length * (k + 1):=by
 induction l with
 | nil=>simp [yD]
 | cons e r ih=>
  have h1:=ih fun x hx=>h x (by simp [hx])
  have h2:=h e (by simp);have e1:(yD (e :: r)).length = e.kills.length + 1 + (yD r).length:=by simp [yD];omega
  rw [e1,List.length_cons,Nat.add_mul];omega
theorem jR {l:List TEvent} {i:Nat} {x:TEvent} (h:l[i]? = some x):yD (l.take (i + 1)) = yD (l.take i) ++ x.dot :: x.kills:=by
 rw [List.take_add_one,h];simp [yD]
theorem Qg (l:List TEvent) (i:Nat):(yD (l.take i)).length <= (yD l).length:=by
 have:yD l = yD (l.take i) ++ yD (l.drop i):=by unfold yD;rw [<- List.flatMap_append,List.take_append_drop]
 rw [this,List.length_append];omega
theorem Va (l:List TEvent) (hl:l.length <= 1000000000) (hs:(yD l).length <= 1000000000):xh l = pure (zy l):=by
 unfold xh;have key:∀ (k i:Nat),i + k = l.length -> loop (ve l) ((i:Int),yD (l.take i)) = pure (yD l):=by
  intro k
  induction k with
  | zero=>
   intro i hi;refine zh ?_;unfold ve;have:decide ((i:Int) < (l.length:Int)) = false:=by simp;omega
   simp only [this,cond_false];rw [List.take_of_length_le (by omega)]
  | succ k ih=>
   intro i hi;obtain ⟨x,hx⟩:∃ x,l[i]? = some x:=⟨_,List.getElem?_eq_getElem (by omega)⟩
   have hd:decide ((i:Int) < (l.length:Int)) = true:=by simp;omega
   have h1:=Qg l (i + 1);rw [jR hx,List.length_append,List.length_cons] at h1;rw [zg (s':=(((i + 1:Nat):Int),yD (l.take (i + 1)))) ?_]
   ·exact ih (i + 1) (by omega)
   ·unfold ve;simp only [hd,cond_true,zF hx,zA,zf (show i < 9223372036854775807 by omega)];rw [zD (by simp;omega),zD (by simp;omega),jR hx,List.append_assoc];rfl
 have:=key l.length 0 (by omega);rw [show yD (l.take 0) = [] from rfl] at this;rw [show (0:Int) = ((0:Nat):Int) from rfl,this,zA,D.wja _ (by omega),zB,zA,zy]
theorem rdots_in (l:List TEvent) {i:Nat} {x:TEvent} (hx:l[i]? = some x) (hk:x.kills.length <= 1000000000) (s:List TDot) (hs:s.length <= 1000000000):loop (uC l (i:Int)) (s,0) = pure (x.kills.foldl D.insD s):=by
 have:=uL (body:=uC l (i:Int)) x.kills (fun k t=>(t,(k:Int))) D.insD (fun t=>pure t) (fun k t=>t.length <= 1000000000 + k) (fun k d t hd hi hI=>by
  have hc:decide ((k:Int) < (x.kills.length:Int)) = true:=by simpa using hi
  refine ⟨?_,by have:=D.jN t d;omega⟩;unfold uC;simp only [zF hx,zA,hc,cond_true,zF hd,D.jO t d (by omega),zB,zf (show k < 9223372036854775807 by omega)]) (fun t _=>by
  unfold uC;simp [zF hx,zA]) s (by omega)
 exact this
theorem UN (l:List TEvent) (hl:l.length <= 1000000) (hk:∀ e ∈ l,e.kills.length <= 300):Za l = pure (zy l):=by
 unfold Za;have key:∀ (k i:Nat),i + k = l.length -> loop (ZZ l) (D.vD (yD (l.take i)),(i:Int)) = pure (zy l):=by
  intro k
  induction k with
  | zero=>
   intro i hi;refine zh ?_;unfold ZZ;have:decide ((i:Int) < (l.length:Int)) = false:=by simp;omega
   simp only [this,cond_false];rw [List.take_of_length_le (by omega)];rfl
  | succ k ih=>
   intro i hi;obtain ⟨x,hx⟩:∃ x,l[i]? = some x:=⟨_,List.getElem?_eq_getElem (by omega)⟩
   have hd:decide ((i:Int) < (l.length:Int)) = true:=by simp;omega
   have h1:=Qg l i;have h2:=wY l 300 hk;have h3:=D.XS (yD (l.take i));have h4:=D.jN (D.vD (yD (l.take i))) x.dot;have h5:=hk x (List.mem_of_getElem? hx);rw [zg (s':=(D.vD (yD (l.take (i + 1))),((i + 1:Nat):Int))) ?_]
   ·exact ih (i + 1) (by omega)
   ·unfold ZZ;simp only [hd,cond_true,zF hx,zA,D.jO _ x.dot (show (D.vD (yD (l.take i))).length <= 1000000000000 by omega),zB,rdots_in l hx (show x.kills.length <= 1000000000 by omega) _ (show (D.insD (D.vD (yD (l.take i))) x.dot).length <= 1000000000 by omega),zf (show i < 9223372036854775807 by omega)];rw [jR hx];unfold D.vD;rw [List.foldl_append];rfl
 have:=key l.length 0 (by omega);rw [show D.vD (yD (l.take 0)) = [] from rfl] at this;rw [show (0:Int) = ((0:Nat):Int) from rfl,this,zA]

def vW (l:List TEvent) (i:Nat) (x:TEvent):Bool:=decide (0 < i) && match l[i - 1]? with | some y=>decide (0 <= V.cmpD y.dot x.dot) | none=>false
theorem qZ {β:Type} {l:List TEvent} {i:Nat} {x:TEvent} (hi:i < l.length) (hl:l.length <= 1000000000) (f:TDot -> TDot -> M Int) (hf:∀ a b,f a b = pure (V.cmpD a b)) (K:Bool -> M β) :
  (cond (decide (0 < (i:Int))) ((idx l (IntKind.i64.wrap ((i:Int) - 1))).bind fun y=>(det (f y.dot x.dot)).bind fun v=>K (decide (0 <= v))) (K false)) = K (vW l i x):=by
 unfold vW
 by_cases h:0 < i
 ·obtain ⟨y,hy⟩:∃ y,l[i - 1]? = some y:=⟨_,List.getElem?_eq_getElem (by omega)⟩
  have e:IntKind.i64.wrap ((i:Int) - 1) = ((i - 1:Nat):Int):=by rw [wI64 (by omega) (by omega)];omega
  have hd:decide (0 < (i:Int)) = true:=by simp;omega
  rw [hd,cond_true,e,zF hy,zA,hf,zB,zA,decide_eq_true h,Bool.true_and,hy]
 ·have hd:decide (0 < (i:Int)) = false:=by simp;omega
  rw [hd,cond_false,decide_eq_false h,Bool.false_and]
def bad1 (d:TDelta) (i:Nat) (e:TEvent):Bool:=!yU e || (vW d.events i e || (C.hasC d.from_ e.dot.dev e.dot.n || (decide (e.kind = 1) && wd d.events e.dot)))
def Xf (d:TDelta):Bool:=decide (d.from_ = C.zW d.from_) && (decide (d.to_ = C.zW d.to_) && (decide (C.opC (fun x y=>x && !y) d.from_ d.to_ = []) && (decide (d.events.length <= 4096) && ((d.events.zipIdx.all fun y=>!bad1 d y.2 y.1) && decide (VA (zy d.events) d.to_ = [])))))
structure OkD (d:TDelta):Prop where
 from_:C.Ok d.from_
 to_:C.Ok d.to_
 evs:∀ e ∈ d.events,OkE e
 len:d.events.length <= 1000000
 kills:∀ e ∈ d.events,e.kills.length <= 300
theorem wwa {α:Type} [DecidableEq α] (l:List α):decide ((l.length:Int) = 0) = decide (l = []):=by
 cases l with
 | nil=>rfl
 | cons x r=>simp;omega
theorem xKa {d:TDelta} (h:OkD d):loop (xz d) 0 = pure (if (d.events.zipIdx.all fun y=>!bad1 d y.2 y.1) = true then Ex.brk () else Ex.ret false):=by
 have hl:=h.len;have:=yr (body:=xz d) d.events (fun i=>(i:Int)) (fun i x=>!bad1 d i x) (Ex.brk ()) (Ex.ret false) (fun i x hx hi=>by
  have hd:decide ((i:Int) < (d.events.length:Int)) = true:=by simpa using hi
  have hm:=List.mem_of_getElem? hx;have hp:=fun (K:Bool -> M (Step Int (Ex Unit Bool)))=>qZ (x:=x) hi (by omega) um D.yZa K
  unfold xz;simp only [hd,cond_true,zF hx,zA,E.uS (h.evs x hm),C.Vj d.from_ x.dot h.from_.sm,wua d.events x.dot (by omega) (fun e he=>by have:=h.kills e he;omega),zB,zf (show i < 9223372036854775807 by omega)];have hp:=qZ (x:=x) hi (by omega) um D.yZa (fun b=>(pure b:M Bool));rw [hp];unfold bad1;simp only [zA]
  cases yU x with
  | false=>rfl
  | true=>
   cases C.hasC d.from_ x.dot.dev x.dot.n with
   | true=>cases vW d.events i x <;> rfl
   | false=>
    cases vW d.events i x with
    | true=>rfl
    | false=>
     cases decide (x.kind = 1) with
     | false=>rfl
     | true=>cases wd d.events x.dot <;> rfl) (by
  unfold xz;simp)
 rw [show (0:Int) = ((0:Nat):Int) from rfl,this]
theorem zoa {d:TDelta} (h:OkD d):loop (uE d) 0 = pure (if (d.events.zipIdx.all fun y=>!bad1 d y.2 y.1) = true then Ex.brk () else Ex.ret false):=by
 have hl:=h.len;have:=yr (body:=uE d) d.events (fun i=>(i:Int)) (fun i x=>!bad1 d i x) (Ex.brk ()) (Ex.ret false) (fun i x hx hi=>by
  have hd:decide ((i:Int) < (d.events.length:Int)) = true:=by simpa using hi
  have hm:=List.mem_of_getElem? hx;unfold uE;simp only [hd,cond_true,zF hx,zA,E.vG (h.evs x hm),C.ur d.from_ x.dot h.from_,rDead_eq d.events x.dot (by omega) (fun e he=>by have:=h.kills e he;omega),zB,zf (show i < 9223372036854775807 by omega)];have hp:=qZ (x:=x) hi (by omega) ZW V.ZL (fun b=>(cond b (pure true) (cond (C.hasC d.from_ x.dot.dev x.dot.n) (pure true) (cond (decide (x.kind = 1)) (pure (wd d.events x.dot)) (pure false))):M Bool));refine (congrArg (fun m:M Bool=>M.bind (cond (!yU x) (pure true) m) fun v70=>cond v70 (pure (Step.done (Ex.ret false))) (pure (Step.next ((i + 1:Nat):Int)))) hp).trans ?_;unfold bad1
  cases yU x with
  | false=>rfl
  | true=>
   cases C.hasC d.from_ x.dot.dev x.dot.n with
   | true=>cases vW d.events i x <;> rfl
   | false=>
    cases vW d.events i x with
    | true=>rfl
    | false=>
     cases decide (x.kind = 1) with
     | false=>rfl
     | true=>cases wd d.events x.dot <;> rfl) (by
  unfold uE;simp)
 rw [show (0:Int) = ((0:Nat):Int) from rfl,this]
theorem wxa (l:List TEvent):decide ((4096:Int) < (l.length:Int)) = !decide (l.length <= 4096):=by
 by_cases c:l.length <= 4096
 ·rw [decide_eq_true c];simp;omega
 ·rw [decide_eq_false c];simp;omega
theorem dlen {d:TDelta} (h:OkD d):(yD d.events).length <= 1000000000:=by have:=wY d.events 300 h.kills;have:=h.len;omega
theorem Zy {d:TDelta} (h:OkD d):vr d = pure (Xf d):=by
 have h1:=h.len;have h2:=dlen h;have h3:(zy d.events).length <= 1000000000:=Nat.le_trans (D.XS _) h2;unfold vr Xf;rw [xKa h];simp only [C.uS _ h.from_.sm,C.uS _ h.to_.sm,C.Qc _ _ h.from_.sm h.to_.sm,Va d.events (by omega) h2,wva _ _ h3 h.to_.sm,zB,zA,wxa,wwa]
 cases decide (d.from_ = C.zW d.from_) with
 | false=>rfl
 | true=>
  cases decide (d.to_ = C.zW d.to_) with
  | false=>rfl
  | true=>
   cases decide (C.opC (fun x y=>x && !y) d.from_ d.to_ = []) with
   | false=>rfl
   | true=>
    cases decide (d.events.length <= 4096) with
    | false=>rfl
    | true=>cases d.events.zipIdx.all fun y=>!bad1 d y.2 y.1 <;> rfl
theorem ut {d:TDelta} (h:OkD d):XI d = pure (Xf d):=by
 have h1:=h.len;have h2:=dlen h;have h3:(zy d.events).length <= 1000000000:=Nat.le_trans (D.XS _) h2;unfold XI Xf;rw [zoa h];simp only [C.vG _ h.from_,C.vG _ h.to_,C.JD _ _ h.from_ h.to_,UN d.events (by omega) h.kills,rDrop_eq _ _ h3 h.to_,zB,zA,wxa,wwa]
 cases decide (d.from_ = C.zW d.from_) with
 | false=>rfl
 | true=>
  cases decide (d.to_ = C.zW d.to_) with
  | false=>rfl
  | true=>
   cases decide (C.opC (fun x y=>x && !y) d.from_ d.to_ = []) with
   | false=>rfl
   | true=>
    cases decide (d.events.length <= 4096) with
    | false=>rfl
    | true=>cases d.events.zipIdx.all fun y=>!bad1 d y.2 y.1 <;> rfl

open E (OkE yU)

set_option maxHeartbeats 4000000 in
theorem eSame_eq (a b:TEvent) (h:a.kills.length <= 1000000000000):XH a b = pure (decide (a = b)):=by
 unfold XH;rw [D.Qe,V.zda a.kills b.kills h,zB,zA];have e:decide (a = b) = (decide (a.dot = b.dot) && (decide (a.kind = b.kind) && (decide (a.cid = b.cid) && (decide (a.field = b.field) && (decide (a.text = b.text) && decide (a.kills = b.kills)))))):=by
  cases a;cases b;simp only [TEvent.mk.injEq,Bool.decide_and]
 rw [e]
 cases decide (a.dot = b.dot) <;> cases decide (a.kind = b.kind) <;> cases decide (a.cid = b.cid) <;> cases decide (a.field = b.field) <;> cases decide (a.text = b.text) <;> rfl
theorem wya (a b:List TEvent) (ha:a.length <= 1000000000000) (hk:∀ e ∈ a,e.kills.length <= 1000000000000):YP a b = pure (decide (a = b)):=by
 unfold YP zQ
 by_cases hlen:a.length = b.length
 ·have h1:decide ((a.length:Int) = (b.length:Int)) = true:=by simp [hlen]
  rw [h1,Bool.not_true,cond_false];have:=yr (body:=zH a b) a (fun i=>(i:Int)) (fun i x=>decide (b[i]? = some x)) (Ex.brk ()) (Ex.ret false) (fun i x hx hi=>by
   have hd:decide ((i:Int) < (a.length:Int)) = true:=by simpa using hi
   obtain ⟨y,hy⟩:∃ y,b[i]? = some y:=⟨_,List.getElem?_eq_getElem (by omega)⟩
   unfold zH;simp only [hd,cond_true,zF hx,zF hy,zA,eSame_eq x y (hk x (List.mem_of_getElem? hx)),zB,zf (show i < 9223372036854775807 by omega),hy]
   by_cases c:x = y
   ·subst c;simp
   ·have:¬ some y = some x:=fun e=>c (Option.some.inj e).symm
    simp [c,this]) (by
   unfold zH;simp)
  rw [show (0:Int) = ((0:Nat):Int) from rfl,this,zA];have e:(a.zipIdx.all fun y=>decide (b[y.2]? = some y.1)) = decide (a = b):=by
   rw [Bool.eq_iff_iff,List.all_eq_true,decide_eq_true_eq]
   constructor
   ·intro h;apply List.ext_getElem?;intro i
    by_cases hi:i < a.length
    ·have:=h (a[i],i) (by rw [List.mem_zipIdx_iff_getElem?];exact List.getElem?_eq_getElem hi);simp only [decide_eq_true_eq] at this;rw [this,List.getElem?_eq_getElem hi]
    ·rw [List.getElem?_eq_none (by omega),List.getElem?_eq_none (by omega)]
   ·rintro rfl y hy;rw [List.mem_zipIdx_iff_getElem?] at hy;simpa using hy
  rw [e]
  cases decide (a = b) <;> simp [zB,exk,zA]
 ·have h1:decide ((a.length:Int) = (b.length:Int)) = false:=by simp;omega
  have h2:decide (a = b) = false:=decide_eq_false fun e=>hlen (by rw [e])
  rw [h1,Bool.not_false,cond_true,zB,zA,h2]
def fewC (c:List TPart):Bool:=decide (c.length <= 30) && c.all fun p=>decide (p.runs.length <= 30)
end Go.Ep.M.F


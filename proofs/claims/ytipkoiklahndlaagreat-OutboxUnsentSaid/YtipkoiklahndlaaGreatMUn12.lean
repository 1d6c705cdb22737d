/- Texts that the walks and laws lean on, side by side. -/
import Derived.Test.YtipkoiklahndlaaGreatMUn3
import Derived.Test.YtipkoiklahndlaaGreatMUn10
import Derived.Test.YtipkoiklahndlaaGreatMUn11
set_option linter.unusedVariables false
set_option linter.unusedSimpArgs false
namespace Go.Ep.M.N
open Go

theorem wU8_mod (n:Int):IntKind.u8.wrap n = n % 256:=by simp [IntKind.wrap,IntKind.bits,IntKind.signed]
def lenN (n:Nat):Nat:=if n = 0 then 0 else lenN (n / 256) + 1
theorem Ut : lenN 0 = 0:=by rw [lenN];rfl
theorem yXa {n:Nat} (h:n ≠ 0):lenN n = lenN (n / 256) + 1:=by rw [lenN,if_neg h]
theorem wia : ∀ (k n:Nat),n < 256 ^ k → lenN n ≤ k
 | 0,n,h=>by
  have:n = 0:=by simpa using h
  rw [this,Ut];exact Nat.le_refl _
 | k + 1,n,h=>by
  by_cases h0:n = 0
  ·rw [h0,Ut];omega
  ·rw [yXa h0];have:=wia k (n / 256) (by rw [Nat.pow_succ] at h;omega);omega
theorem wja {n:Nat} (h:n < 18446744073709551616):lenN n ≤ 8:=wia 8 n (by simpa using h)

theorem wka (n:Nat):Int.tdiv (n:Int) 256 = ((n / 256:Nat):Int):=by
 rw [Int.tdiv_eq_ediv_of_nonneg (by omega)];omega
theorem wla : ∀ (n k:Nat),n < 18446744073709551616 → k + lenN n ≤ 1000 → loop Yg ((n:Int),(k:Int)) = pure (((k + lenN n:Nat)):Int):=by
 intro n
 induction n using Nat.strongRecOn with
 | _ n ih=>
  intro k hn hk
  by_cases h0:n = 0
  ·subst h0;rw [Ut,Nat.add_zero];exact zj (by unfold Yg;simp)
  ·rw [yXa h0] at hk ⊢;rw [zi (s':=(((n / 256:Nat):Int),((k + 1:Nat):Int))) (by
    unfold Yg;have:decide ((0:Int) < (n:Int)) = true:=by simp;omega
    simp only [this,cond_true,wka,zf (show k < 9223372036854775807 by omega),wU64 (show (0:Int) ≤ ((n / 256:Nat):Int) by omega) (by omega)]),ih (n / 256) (by omega) (k + 1) (by omega) (by omega)]
   congr 2;omega
theorem rLen_eq {v:Int} (h0:0 ≤ v) (h:v ≤ 18446744073709551615):zAa v = pure (lenN v.toNat:Int):=by
 obtain ⟨n,rfl⟩:=Int.eq_ofNat_of_zero_le h0;unfold zAa;have:=wla n 0 (by omega) (by have:=wja (n:=n) (by omega);omega);rw [show (0:Int) = ((0:Nat):Int) from rfl,this,zA,Nat.zero_add,Int.toNat_natCast]

def yYa (n i:Nat):Int:=((n / 256 ^ i % 256:Nat):Int)
theorem xHa (m:Nat):∀ (j:Nat) (n:Nat),j ≤ m → m ≤ 7 → n < 18446744073709551616 → loop (wi (m:Int)) ((n:Int),(j:Int)) = pure ((n / 256 ^ (m - j):Nat):Int):=by
 have key:∀ (d j n:Nat),j + d = m → m ≤ 7 → n < 18446744073709551616 → loop (wi (m:Int)) ((n:Int),(j:Int)) = pure ((n / 256 ^ d:Nat):Int):=by
  intro d
  induction d with
  | zero=>
   intro j n hj hm hn;have:j = m:=by omega
   subst this;rw [zj (r:=(n:Int)) (by unfold wi;simp)];simp
  | succ d ih=>
   intro j n hj hm hn;rw [zi (s':=(((n / 256:Nat):Int),((j + 1:Nat):Int))) (by
    unfold wi;have:decide ((j:Int) < (m:Int)) = true:=by simp;omega
    simp only [this,cond_true,wka,zf (show j < 9223372036854775807 by omega),wU64 (show (0:Int) ≤ ((n / 256:Nat):Int) by omega) (by omega)]),ih (j + 1) (n / 256) (by omega) hm (by omega)]
   rw [Nat.pow_succ,Nat.mul_comm,Nat.div_div_eq_div_mul]
 intro j n hj hm hn;exact key (m - j) j n (by omega) hm hn
theorem rByte_eq (n i:Nat) (hi:i ≤ 7) (hn:n < 18446744073709551616):JM (n:Int) (i:Int) = pure (yYa n i):=by
 unfold JM yYa;have h1:decide ((i:Int) < 0) = false:=by simp
 have h2:decide ((7:Int) < (i:Int)) = false:=by simp;omega
 have h3:loop (wi (i:Int)) ((n:Int),0) = pure ((n / 256 ^ (i - 0):Nat):Int):=xHa i 0 n (by omega) hi hn;rw [h1,h2,cond_false,zA,cond_false,h3,zA,Nat.sub_zero,Int.tmod_eq_emod_of_nonneg (Int.natCast_nonneg _),wU8_mod]
 congr 1
 generalize n / 256 ^ i = q
 omega

def be (n:Nat):Nat → List Int
 | 0=>[]
 | k + 1=>yYa n k :: be n k
theorem be_len (n:Nat):∀ k,(be n k).length = k
 | 0=>rfl
 | k + 1=>by simp [be,be_len n k]
def encN (n:Nat):List Int:=(lenN n:Int) :: be n (lenN n)
def encI (v:Int):List Int:=encN v.toNat
theorem Zc {v:Int} (h:v ≤ 18446744073709551615):(encI v).length ≤ 9:=by
 have:=wja (n:=v.toNat) (by omega);simp [encI,encN,be_len];omega
theorem Qb (n:Nat) (hn:n < 18446744073709551616):∀ (k:Nat) (out:List Int),k ≤ 8 → out.length + k ≤ 100000000000000 → loop (vd (n:Int)) ((k:Int) - 1,out) = pure (out ++ be n k)
 | 0,out,_,_=>by
  rw [be,List.append_nil];exact zj (by unfold vd;simp)
 | k + 1,out,hk,ho=>by
  have e:((k + 1:Nat):Int) - 1 = (k:Int):=by omega
  rw [e,zi (s':=((k:Int) - 1,out ++ [yYa n k])) (by
   unfold vd;have h1:decide ((0:Int) ≤ (k:Int)) = true:=by simp
   simp only [h1,cond_true,rByte_eq n k (by omega) hn,zB,zA];rw [zC (by simp;omega),wI64 (by omega) (by omega)]),Qb n hn k _ (by omega) (by simp;omega),be,List.append_assoc]
  rfl
theorem uz (b:List Int) {v:Int} (h0:0 ≤ v) (h:v ≤ 18446744073709551615) (hb:b.length ≤ 10000000000000):wj b v = pure (b ++ encI v):=by
 have h8:=wja (n:=v.toNat) (by omega);unfold wj;rw [rLen_eq h0 h,zC (by simp;omega),zB,zA,zC (by simp;omega),wU8 (by omega) (by omega),wI64 (by omega) (by omega)];have:=Qb v.toNat (by omega) (lenN v.toNat) (([]:List Int) ++ b ++ [(lenN v.toNat:Int)]) h8 (by simp;omega);rw [show ((v.toNat:Nat):Int) = v by omega] at this;rw [this,zA];simp [encI,encN]


def By (l:List Int):Prop:=∀ x ∈ l,0 ≤ x ∧ x ≤ 255
theorem By.drop {l:List Int} (h:By l) (n:Nat):By (l.drop n):=fun x hx=>h x (List.mem_of_mem_drop hx)
theorem By.take {l:List Int} (h:By l) (n:Nat):By (l.take n):=fun x hx=>h x (List.mem_of_mem_take hx)
theorem By.app {a b:List Int} (ha:By a) (hb:By b):By (a ++ b):=fun x hx=>(List.mem_append.1 hx).elim (ha x) (hb x)
theorem By.nil : By []:=fun x hx=>by cases hx
def valB (l:List Int):Int:=l.foldl (fun v x=>v * 256 + x) 0
theorem wma : ∀ (l:List Int) (v k:Nat),By l → v < 256 ^ k → ∃ n:Nat,l.foldl (fun v x=>v * 256 + x) (v:Int) = (n:Int) ∧ n < 256 ^ (k + l.length) ∧ v * 256 ^ l.length ≤ n
 | [],v,k,_,hv=>⟨v,rfl,by simpa using hv,by simp⟩
 | x :: r,v,k,hb,hv=>by
  have hx:=hb x (by simp);obtain ⟨n,h1,h2,h3⟩:=wma r (v * 256 + x.toNat) (k + 1) (fun y hy=>hb y (by simp [hy])) (by rw [Nat.pow_succ];omega);refine ⟨n,?_,by rw [show k + (x :: r).length = k + 1 + r.length by simp;omega];exact h2,?_⟩
  ·rw [List.foldl_cons,← h1]
   congr 1;omega
  ·refine Nat.le_trans ?_ h3;rw [List.length_cons,Nat.pow_succ];have:v * (256 ^ r.length * 256) = v * 256 * 256 ^ r.length:=by rw [Nat.mul_comm (256 ^ r.length),Nat.mul_assoc]
   rw [this];exact Nat.mul_le_mul_right _ (by omega)
theorem wna {l:List Int} (h:By l) (h8:l.length ≤ 8):0 ≤ valB l ∧ valB l ≤ 18446744073709551615:=by
 obtain ⟨n,h1,h2,_⟩:=wma l 0 0 h (by decide);have h3:256 ^ (0 + l.length) ≤ 256 ^ 8:=Nat.pow_le_pow_right (by decide) (by omega);have h4:(256:Nat) ^ 8 = 18446744073709551616:=by decide
 rw [valB,show (0:Int) = ((0:Nat):Int) from rfl,h1];omega
def rdN : List Int → Int × Nat × Int
 | []=>(0,0,2)
 | n :: r=>if 8 < n ∨ (0 < n ∧ r.head? = some 0) then (0,0,4) else if (r.length:Int) < n then (0,0,2) else (valB (r.take n.toNat),n.toNat + 1,0)
theorem rdN_cons (n:Int) (r:List Int):rdN (n :: r) = if 8 < n ∨ (0 < n ∧ r.head? = some 0) then (0,0,4) else if (r.length:Int) < n then (0,0,2) else (valB (r.take n.toNat),n.toNat + 1,0):=rfl
theorem woa (b:List Int) (hb:By b):(rdN b = (0,0,2) ∨ rdN b = (0,0,4)) ∨ ∃ n r,b = n :: r ∧ 0 ≤ n ∧ n ≤ 8 ∧ n ≤ (r.length:Int) ∧ ¬ (0 < n ∧ r.head? = some 0) ∧ rdN b = (valB (r.take n.toNat),n.toNat + 1,0):=by
 cases b with
 | nil=>exact .inl (.inl rfl)
 | cons n r=>
  have hn:=hb n (by simp);rw [rdN_cons]
  by_cases h1:8 < n ∨ (0 < n ∧ r.head? = some 0)
  ·rw [if_pos h1];exact .inl (.inr rfl)
  ·rw [if_neg h1]
   by_cases h2:(r.length:Int) < n
   ·rw [if_pos h2];exact .inl (.inl rfl)
   ·rw [if_neg h2];exact .inr ⟨n,r,rfl,hn.1,by omega,by omega,fun h=>h1 (.inr h),rfl⟩
theorem wpa (b:List Int) (hb:By b):0 ≤ (rdN b).1 ∧ (rdN b).1 ≤ 18446744073709551615 ∧ (rdN b).2.1 ≤ b.length ∧ ((rdN b).2.2 = 0 ∨ (rdN b).2.2 = 2 ∨ (rdN b).2.2 = 4):=by
 rcases woa b hb with (h | h) | ⟨n,r,rfl,h0,h8,hl,_,h⟩
 ·rw [h];simp
 ·rw [h];simp
 ·rw [h];have:=wna (l:=r.take n.toNat) (fun x hx=>hb x (by simp [List.mem_of_mem_take hx])) (by rw [List.length_take];omega);refine ⟨this.1,this.2,?_,.inl rfl⟩;simp;omega
abbrev RS:=List Int × Int
structure Ok (s:RS):Prop where
 by_:By s.1
 len:s.1.length ≤ 1000000000
 nil:s.2 ≠ 0 → s.1 = []
def Zd (e:Int) (s:RS):RS:=if s.2 = 0 ∧ e ≠ 0 then ([],e) else s
def numS (s:RS):Int × RS:=if s.2 ≠ 0 then (0,s) else if (rdN s.1).2.2 ≠ 0 then (0,Zd (rdN s.1).2.2 s) else ((rdN s.1).1,(s.1.drop (rdN s.1).2.1,0))
def Wx (m:Int) (s:RS):Int × RS:=if m < (numS s).1 then (0,Zd 4 (numS s).2) else numS s
def xIa (s:RS):Int × RS:=if s.2 ≠ 0 then (0,s) else match s.1 with | []=>(0,Zd 2 s) | x :: r=>(x,(r,0))
def textS (m:Int) (s:RS):ByteArray × RS:=
 if (numS s).2.2 ≠ 0 then (⟨#[]⟩,(numS s).2) else if max m 0 < (numS s).1 then (⟨#[]⟩,Zd 3 (numS s).2) else if ((numS s).2.1.length:Int) < (numS s).1 then (⟨#[]⟩,Zd 2 (numS s).2)
 else (strL ((numS s).2.1.take (numS s).1.toNat),((numS s).2.1.drop (numS s).1.toNat,0))
def endS (s:RS):Int × RS:=let t:=if 0 < s.1.length then Zd 4 s else s;(t.2,t)
theorem qC {s:RS} (h:Ok s) (e:Int):Ok (Zd e s):=by
 unfold Zd
 by_cases c:s.2 = 0 ∧ e ≠ 0
 ·rw [if_pos c];exact ⟨By.nil,by simp,fun _=>rfl⟩
 ·rw [if_neg c];exact h
theorem fail_bad {s:RS} {e:Int} (h:e ≠ 0):(Zd e s).2 ≠ 0:=by
 unfold Zd
 by_cases c:s.2 = 0
 ·rw [if_pos ⟨c,h⟩];exact h
 ·rw [if_neg (fun q=>c q.1)];exact c
theorem wqa {s:RS} (h:Ok s):Ok (numS s).2 ∧ 0 ≤ (numS s).1 ∧ (numS s).1 ≤ 18446744073709551615:=by
 unfold numS;have hr:=wpa s.1 h.by_
 by_cases c:s.2 ≠ 0
 ·rw [if_pos c];exact ⟨h,by simp,by simp⟩
 ·rw [if_neg c]
  by_cases c2:(rdN s.1).2.2 ≠ 0
  ·rw [if_pos c2];exact ⟨qC h _,by simp,by simp⟩
  ·rw [if_neg c2];exact ⟨⟨h.by_.drop _,by simp;have:=h.len;omega,fun h=>absurd rfl h⟩,hr.1,hr.2.1⟩
theorem ok_upto {s:RS} (h:Ok s) {m:Int} (hm:0 ≤ m):Ok (Wx m s).2 ∧ 0 ≤ (Wx m s).1 ∧ (Wx m s).1 ≤ m:=by
 unfold Wx;obtain ⟨h1,h2,h3⟩:=wqa h
 by_cases c:m < (numS s).1
 ·rw [if_pos c];exact ⟨qC h1 _,by simp,hm⟩
 ·rw [if_neg c];exact ⟨h1,h2,by omega⟩
structure Sim (B:List Int) (a:Int) (s:RS):Prop where
 lo:0 ≤ a
 hi:a ≤ B.length
 eq:s.2 = 0 → s.1 = B.drop a.toNat
structure OkB (B:List Int):Prop where
 by_:By B
 len:B.length ≤ 1000000000
theorem Sim.start (B:List Int):Sim B 0 (B,0):=⟨Int.le_refl _,by omega,fun _=>rfl⟩
theorem OkB.ok {B:List Int} (h:OkB B):Ok (B,0):=⟨h.by_,h.len,fun h=>absurd rfl h⟩
theorem Sim.fail {B:List Int} {a:Int} {s:RS} (h:Sim B a s) {e:Int} (he:e ≠ 0):Sim B a (Zd e s):=⟨h.lo,h.hi,fun h2=>absurd h2 (fail_bad he)⟩
variable {B:List Int} {a:Int} {s:RS}
end Go.Ep.M.N

namespace Go.Ep.M.D
open Go

theorem VM {a b:TDot}:zK a b = true ↔ a.dev < b.dev ∨ (a.dev = b.dev ∧ a.n < b.n):=by simp [zK]
theorem XI (a:TDot):zK a a = false:=by
 cases h:zK a a with
 | false=>rfl
 | true=>rw [VM] at h;omega
theorem Yt {a b c:TDot} (h1:zK a b = true) (h2:zK b c = true):zK a c = true:=by rw [VM] at *;omega
theorem Ze {a b:TDot} (h:zK a b = true):zK b a = false:=by
 cases h2:zK b a with
 | false=>rfl
 | true=>rw [VM] at h h2;omega
theorem jp {a b:TDot} (h1:zK a b = false) (h2:zK b a = false):a = b:=by
 have h3:¬ (zK a b = true):=by simp [h1]
 have h4:¬ (zK b a = true):=by simp [h2]
 rw [VM] at h3 h4
 cases a;cases b
 simp only [TDot.mk.injEq] at *
 omega
abbrev Srt (l:List TDot):Prop:=l.Pairwise fun x y=>zK x y = true
theorem wra : ∀ {l l':List TDot},Srt l → Srt l' → (∀ d,d ∈ l ↔ d ∈ l') → l = l'
 | [],[],_,_,_=>rfl
 | [],y :: r,_,_,h=>by have:=(h y).2 (by simp);simp at this
 | x :: r,[],_,_,h=>by have:=(h x).1 (by simp);simp at this
 | x :: r,y :: t,h1,h2,h=>by
  have hx:=(h x).1 (by simp);have hy:=(h y).2 (by simp);have e:x = y:=by
   rcases List.mem_cons.1 hx with e | hx
   ·exact e
   ·rcases List.mem_cons.1 hy with e | hy
    ·exact e.symm
    ·have a1:=(List.pairwise_cons.1 h2).1 x hx;have a2:=(List.pairwise_cons.1 h1).1 y hy;rw [Ze a1] at a2;cases a2
  subst e
  congr 1
  refine wra (List.pairwise_cons.1 h1).2 (List.pairwise_cons.1 h2).2 fun d=>?_
  have h3:=h d;simp only [List.mem_cons] at h3
  constructor
  ·intro hd;rcases h3.1 (.inr hd) with e | h4
   ·have:=(List.pairwise_cons.1 h1).1 d hd;rw [e,XI] at this;cases this
   ·exact h4
  ·intro hd;rcases h3.2 (.inr hd) with e | h4
   ·have:=(List.pairwise_cons.1 h2).1 d hd;rw [e,XI] at this;cases this
   ·exact h4

def insD (s:List TDot) (d:TDot):List TDot:=(s.filter fun x=>zK x d) ++ [d] ++ (s.filter fun x=>zK d x)
theorem ins_mem {s:List TDot} {d x:TDot}:x ∈ insD s d ↔ x = d ∨ x ∈ s:=by
 simp only [insD,List.mem_append,List.mem_filter,List.mem_singleton]
 constructor
 ·rintro ((h | h) | h)
  ·exact .inr h.1
  ·exact .inl h
  ·exact .inr h.1
 ·rintro (h | h)
  ·exact .inl (.inr h)
  ·cases h1:zK x d with
   | true=>exact .inl (.inl ⟨h,rfl⟩)
   | false=>
    cases h2:zK d x with
    | true=>exact .inr ⟨h,rfl⟩
    | false=>exact .inl (.inr (jp h1 h2))
theorem ins_srt {s:List TDot} (h:Srt s) (d:TDot):Srt (insD s d):=by
 unfold Srt insD;rw [List.pairwise_append,List.pairwise_append];refine ⟨⟨h.filter _,by simp,fun a ha b hb=>?_⟩,h.filter _,fun a ha b hb=>?_⟩
 ·rw [List.mem_singleton.1 hb];exact (List.mem_filter.1 ha).2
 ·have hb:=(List.mem_filter.1 hb).2;rcases List.mem_append.1 ha with ha | ha
  ·exact Yt (List.mem_filter.1 ha).2 hb
  ·rw [List.mem_singleton.1 ha];exact hb
theorem qD (s:List TDot) (d:TDot):(insD s d).length ≤ s.length + 1:=by
 unfold insD;have h:∀ l:List TDot,(l.filter fun x=>zK x d).length + (l.filter fun x=>zK d x).length ≤ l.length:=by
  intro l
  induction l with
  | nil=>simp
  | cons x r ih=>
   cases h1:zK x d with
   | true=>simp [h1,Ze h1];omega
   | false=>
    cases h2:zK d x with
    | true=>simp [h1,h2];omega
    | false=>simp [h1,h2];omega
 have:=h s;simp;omega
def wO (l:List TDot):List TDot:=l.foldl insD []
theorem Vo : ∀ (l s:List TDot),Srt s → Srt (l.foldl insD s) ∧ (∀ d,d ∈ l.foldl insD s ↔ d ∈ s ∨ d ∈ l) ∧ (l.foldl insD s).length ≤ s.length + l.length
 | [],s,h=>⟨h,by simp,by simp⟩
 | x :: r,s,h=>by
  obtain ⟨h1,h2,h3⟩:=Vo r (insD s x) (ins_srt h x);refine ⟨h1,fun d=>?_,?_⟩
  ·rw [List.foldl_cons,h2 d,ins_mem,List.mem_cons]
   constructor
   ·rintro ((h | h) | h)
    ·exact .inr (.inl h)
    ·exact .inl h
    ·exact .inr (.inr h)
   ·rintro (h | h | h)
    ·exact .inl (.inr h)
    ·exact .inl (.inl h)
    ·exact .inr h
  ·have:=qD s x;rw [List.foldl_cons,List.length_cons];omega
theorem sort_srt (l:List TDot):Srt (wO l):=(Vo l [] List.Pairwise.nil).1
theorem Zf {l:List TDot} {d:TDot}:d ∈ wO l ↔ d ∈ l:=by simpa [wO] using (Vo l [] List.Pairwise.nil).2.1 d
theorem Vp (l:List TDot):(wO l).length ≤ l.length:=by simpa [wO] using (Vo l [] List.Pairwise.nil).2.2
theorem qE (s:List TDot) (d:TDot) (h:s.length ≤ 1000000000000):ZJ s d = pure (insD s d):=V.Wr s d h

def ddS (out:List TDot) (x:TDot):List TDot:=if out.getLast? = some x then out else out ++ [x]
def dd (l:List TDot):List TDot:=l.foldl ddS []
theorem Uu (l:List TDot) (x:TDot):dd (l ++ [x]) = ddS (dd l) x:=by simp [dd]
theorem zha (l:List TDot):(dd l).getLast? = l.getLast?:=by
 rcases R.xL l with rfl | ⟨r,y,rfl⟩
 ·rfl
 ·rw [Uu];unfold ddS
  by_cases c:(dd r).getLast? = some y
  ·rw [if_pos c,c];simp
  ·rw [if_neg c];simp
theorem dd_mem {l:List TDot} {d:TDot}:d ∈ dd l ↔ d ∈ l:=by
 have:∀ (l s:List TDot),d ∈ l.foldl ddS s ↔ d ∈ s ∨ d ∈ l:=by
  intro l
  induction l with
  | nil=>intro s;simp
  | cons x r ih=>
   intro s;rw [List.foldl_cons,ih];have h2:d ∈ ddS s x ↔ d ∈ s ∨ d = x:=by
    unfold ddS
    split
    ·rename_i h
     exact ⟨.inl,fun h3=>h3.elim id fun e=>by rw [e];exact List.mem_of_getLast? h⟩
    ·simp
   rw [h2,List.mem_cons];exact or_assoc
 simpa [dd] using this l []
theorem dd_srt {l:List TDot} (h:l.Pairwise fun x y=>zK y x = false):Srt (dd l):=by
 have:∀ (n:Nat) (l:List TDot),l.length = n → (l.Pairwise fun x y=>zK y x = false) → Srt (dd l):=by
  intro n
  induction n with
  | zero=>intro l hl _;have:=List.eq_nil_of_length_eq_zero hl;subst this;exact List.Pairwise.nil
  | succ n ih=>
   intro l hl h;rcases R.xL l with rfl | ⟨r,y,rfl⟩
   ·simp at hl
   ·rw [List.pairwise_append] at h;have hr:=ih r (by simpa using hl) h.1;rw [Uu];unfold ddS
    split
    ·exact hr
    ·rename_i hne
     unfold Srt;rw [List.pairwise_append];refine ⟨hr,by simp,fun a ha b hb=>?_⟩;rw [List.mem_singleton.1 hb];have ha':=dd_mem.1 ha;have h1:=h.2.2 a ha' y (by simp)
     cases h2:zK a y with
     | true=>rfl
     | false=>
      exfalso;have e:=jp h2 h1;subst e;rw [zha] at hne;rcases R.xL r with rfl | ⟨q,z,rfl⟩
      ·simp at ha'
      ·have hz:zK a z = false:=h.2.2 z (by simp) a (by simp);rcases List.mem_append.1 ha' with h5 | h5
       ·have h6:zK z a = false:=by
         have:=(List.pairwise_append.1 h.1).2.2 a h5 z (by simp);exact this
        have:=jp hz h6;subst this;simp at hne
       ·rw [List.mem_singleton.1 h5] at hne;simp at hne
 exact this l.length l rfl h

theorem qG (l:List TDot) (h:l.length ≤ 1000000000000):zq l = pure l:=by
 unfold zq;refine vR ⟨⟨false,fun h=>by cases h⟩,fun b hb=>?_⟩
 cases b with
 | true=>show ([]:List TDot) = l;exact (hb rfl).symm
 | false=>
  show _ ∧ ([] ++ l = l)
  exact ⟨by simp;omega,List.nil_append l⟩
theorem Qc (x y:TDot):(decide (x.dev = y.dev) && decide (x.n = y.n)) = decide (x = y):=by
 cases x;cases y;simp [Bool.decide_and]
theorem YG {l:List TDot} {m:Nat} {x:TDot} (h:l[m]? = some x):l.take (m + 1) = l.take m ++ [x]:=by
 rw [List.take_add_one,h];rfl
theorem Qd {l:List TDot} {m:Nat} {x:TDot} (h:l[m]? = some x):(l.take (m + 1)).getLast? = some x:=by rw [YG h];simp
theorem Wy (s:List TDot) (k:Nat) (hk:k < s.length) (hl:s.length ≤ 1000000000000):∀ (d k2 kk:Nat) (v:List TDot),k + k2 + d = s.length → 1 ≤ k2 → v.length = s.length → kk + 1 ≤ k + k2 → v.take kk = dd (s.take (k + k2)) → v.drop (k + k2 - 1) = s.drop (k + k2 - 1) →
  ∃ (kk':Nat) (v':List TDot),loop (zc s (k:Int)) ((kk:Int),(k2:Int),v) = pure ((kk':Int),v') ∧ v'.length = s.length ∧ kk' ≤ s.length ∧ v'.take kk' = dd s
 | 0,k2,kk,v,hd,h1,hv,hkk,ht,_=>by
  refine ⟨kk,v,zj ?_,hv,by omega,by rw [ht,show k + k2 = s.length by omega,List.take_length]⟩;unfold zc;have:decide ((k2:Int) < (((s.length - (k:Int).toNat:Nat)):Int)) = false:=by simp;omega
  simp only [this,cond_false]
 | d + 1,k2,kk,v,hd,h1,hv,hkk,ht,hdr=>by
  have hvg:∀ j,k + k2 - 1 ≤ j → v[j]? = s[j]?:=fun j hj=>by
   have:=congrArg (fun l=>l[j - (k + k2 - 1)]?) hdr;simp only [List.getElem?_drop] at this;rw [show k + k2 - 1 + (j - (k + k2 - 1)) = j by omega] at this;exact this
  obtain ⟨x,hx⟩:∃ x,s[k + k2]? = some x:=⟨_,List.getElem?_eq_getElem (by omega)⟩
  obtain ⟨y,hy⟩:∃ y,s[k + k2 - 1]? = some y:=⟨_,List.getElem?_eq_getElem (by omega)⟩
  have hlast:(dd (s.take (k + k2))).getLast? = some y:=by
   rw [zha];have:=Qd hy
   rwa [show k + k2 - 1 + 1 = k + k2 by omega] at this
  have hdd:dd (s.take (k + k2 + 1)) = if y = x then dd (s.take (k + k2)) else dd (s.take (k + k2)) ++ [x]:=by
   rw [YG hx,Uu];unfold ddS;rw [hlast]
   by_cases c:y = x
   ·rw [if_pos c,if_pos (by rw [c])]
   ·rw [if_neg c,if_neg (by intro e;exact c (Option.some.inj e))]
  have hb:zc s (k:Int) ((kk:Int),(k2:Int),v) = pure (.next (if y = x then ((kk:Int),((k2 + 1:Nat):Int),v) else (((kk + 1:Nat):Int),((k2 + 1:Nat):Int),v.set kk x))):=by
   unfold zc;have hc:decide ((k2:Int) < (((s.length - (k:Int).toNat:Nat)):Int)) = true:=by simp;omega
   have e1:IntKind.i64.wrap ((k2:Int) - 1) = ((k2 - 1:Nat):Int):=by rw [wI64 (by omega) (by omega)];omega
   have i1:idx v ((((k:Int).toNat + (k2:Int).toNat:Nat)):Int) = pure x:=zF (by rw [Int.toNat_natCast,Int.toNat_natCast,hvg _ (by omega)];exact hx);have i2:idx v ((((k:Int).toNat + (((k2 - 1:Nat):Int)).toNat:Nat)):Int) = pure y:=zF (by rw [Int.toNat_natCast,Int.toNat_natCast,hvg _ (by omega),show k + (k2 - 1) = k + k2 - 1 by omega];exact hy);obtain ⟨z,hz⟩:∃ z,v[kk]? = some z:=⟨_,List.getElem?_eq_getElem (by omega)⟩
   have i3:idx v (kk:Int) = pure z:=zF hz;simp only [hc,cond_true,e1];rw [zC (by simp;omega),i1,zA,zC (by simp;omega),i2,zA];simp only [Qc]
   by_cases c:y = x
   ·have c1:decide (x = y) = true:=decide_eq_true c.symm;simp only [c1,Bool.not_true,cond_false,zA,zf (show k2 < 9223372036854775807 by omega),if_pos c]
   ·have c1:decide (x = y) = false:=decide_eq_false (fun e=>c e.symm);simp only [c1,Bool.not_false,cond_true,if_neg c];rw [zC (by simp;omega),i3];simp only [zA,zf (show k2 < 9223372036854775807 by omega),zf (show kk < 9223372036854775807 by omega),Int.toNat_natCast]
  by_cases c:y = x
  ·rw [if_pos c] at hb hdd;rw [zi hb];refine Wy s k hk hl d (k2 + 1) kk v (by omega) (by omega) hv (by omega) (by rw [ht,← hdd];rfl) ?_;have:=congrArg (List.drop 1) hdr;rw [List.drop_drop,List.drop_drop,show k + k2 - 1 + 1 = k + (k2 + 1) - 1 by omega] at this;exact this
  ·rw [if_neg c] at hb hdd;rw [zi hb];refine Wy s k hk hl d (k2 + 1) (kk + 1) (v.set kk x) (by omega) (by omega) (by simpa using hv) (by omega) ?_ ?_
   ·have h5:(v.set kk x)[kk]? = some x:=by rw [List.getElem?_set];simp;omega
    rw [YG h5,List.take_set,List.set_eq_of_length_le (by rw [List.length_take];omega),ht,← hdd];rfl
   ·rw [List.drop_set,if_pos (by omega)];have:=congrArg (List.drop 1) hdr;rw [List.drop_drop,List.drop_drop,show k + k2 - 1 + 1 = k + (k2 + 1) - 1 by omega] at this;exact this
theorem xJa (s:List TDot) (hl:s.length ≤ 1000000000000):zl s = pure (dd s):=by
 unfold zl
 by_cases h2:s.length < 2
 ·have:decide ((s.length:Int) < 2) = true:=by simp;omega
  rw [this,cond_true]
  match s,h2 with
  | [],_=>rfl
  | [x],_=>rfl
 ·have:decide ((s.length:Int) < 2) = false:=by simp;omega
  rw [this,cond_false];have key:∀ d k,k + d = s.length → 1 ≤ k → dd (s.take k) = s.take k → (loop (zd s) (k:Int)).bind (exk fun _=>pure s) = pure (dd s):=by
   intro d
   induction d with
   | zero=>
    intro k hk h1 hd;rw [zj (r:=.brk ()) (by
     unfold zd;have:decide ((k:Int) < (s.length:Int)) = false:=by simp;omega
     simp only [this,cond_false])]
    rw [show k = s.length by omega,List.take_length] at hd;show pure s = pure (dd s);rw [hd]
   | succ d ih=>
    intro k hk h1 hd;obtain ⟨x,hx⟩:∃ x,s[k]? = some x:=⟨_,List.getElem?_eq_getElem (by omega)⟩
    obtain ⟨y,hy⟩:∃ y,s[k - 1]? = some y:=⟨_,List.getElem?_eq_getElem (by omega)⟩
    have hlast:(dd (s.take k)).getLast? = some y:=by
     rw [zha];have:=Qd hy
     rwa [show k - 1 + 1 = k by omega] at this
    have hc:decide ((k:Int) < (s.length:Int)) = true:=by simp;omega
    have i1:idx s (k:Int) = pure x:=zF hx;have i2:idx s (IntKind.i64.wrap ((k:Int) - 1)) = pure y:=by
     rw [wI64 (by omega) (by omega)];exact XD (by omega) (by rw [show ((k:Int) - 1).toNat = k - 1 by omega];exact hy)
    by_cases c:x = y
    ·subst c;obtain ⟨kk,v,h5,h6,h7,h8⟩:=Wy s k (by omega) hl d 1 k s (by omega) (by omega) rfl (by omega) (by
      rw [YG hx,Uu,ddS,if_pos hlast,hd]) (by rw [show k + 1 - 1 = k by omega])
     rw [zj (r:=.ret (dd s)) (by
      unfold zd;simp only [hc,cond_true,i1,i2,zA,Qc,decide_true];rw [zC (by omega),show (1:Int) = ((1:Nat):Int) from rfl,h5,zA];simp only [];rw [zC (by omega),zC (by simp;omega),zC (by
       simp only [List.length_append,List.length_take,List.length_replicate,List.length_drop,Int.toNat_natCast];omega),zA,UA]
      congr 3
      rw [Int.toNat_natCast,List.append_assoc,List.take_append_of_le_length (by rw [List.length_take];omega),List.take_take,Nat.min_self,h8])]
     rfl
    ·have c1:decide (x = y) = false:=decide_eq_false c;rw [zi (s':=((k + 1:Nat):Int)) (by
      unfold zd;simp only [hc,cond_true,i1,i2,zA,Qc,c1,cond_false,ud,zf (show k < 9223372036854775807 by omega)])]
     refine ih (k + 1) (by omega) (by omega) ?_;rw [YG hx,Uu,ddS,if_neg (by rw [hlast];intro e;exact c (Option.some.inj e).symm),hd]
  have:=key (s.length - 1) 1 (by omega) (by omega) (by
   obtain ⟨x,r,rfl⟩:∃ x r,s = x :: r:=by
    cases s with
    | nil=>simp at h2
    | cons x r=>exact ⟨x,r,rfl⟩
   rfl)
  exact this
theorem wSa {l:List TDot} {Q:List TDot → Prop} (h:∀ s,s.Perm l → (s.Pairwise fun x y=>zK y x = false) → Q s):(srt zK l).wp Q:=by
 refine ⟨⟨l.mergeSort (fun x y=>!zK y x),List.mergeSort_perm _ _,?_⟩,fun s ⟨h1,h2⟩=>h s h1 h2⟩;refine (List.pairwise_mergeSort (fun a b c h1 h2=>?_) (fun a b=>?_) l).imp fun {x y} h=>by simpa using h
 ·simp only [Bool.not_eq_true'] at h1 h2 ⊢
  cases h3:zK c a with
  | false=>rfl
  | true=>
   rw [VM] at h3;have h4:¬ (zK b a = true):=by simp [h1]
   have h5:¬ (zK c b = true):=by simp [h2]
   rw [VM] at h4 h5;omega
 ·cases h1:zK b a with
  | false=>rfl
  | true=>rw [Ze h1];rfl
theorem wsa (l:List TDot) (h:l.length ≤ 1000000000000):Xl l = pure (wO l):=by
 unfold Xl;rw [qG l h,zB,zA,zC (by omega)];refine vR (wSa fun s hs hp=>?_);show (bind (det (zl s)) fun y8=>pure y8).wp _;rw [xJa s (by rw [hs.length_eq];exact h),zB,zA];exact wra (dd_srt hp) (sort_srt l) fun d=>by rw [dd_mem,Zf];exact hs.mem_iff

theorem cmp16_eq (x y:Int):yx x y = pure (R.cmp3 x y):=by
 unfold yx xW R.cmp3;simp only [decide_true,Bool.not_true,zB,zA,cond_false,yH]
 split
 ·rfl
 ·split <;> rfl
theorem Cmp_eq (a b:TDot):XM a b = pure (V.cmpD a b):=by
 unfold XM;rw [cmp16_eq,zB,zA,R.wTa,zB,zA];unfold V.cmpD R.cmp3
 cases a with | mk d n=>cases b with | mk e m=>
 simp only [TDot.mk.injEq,zK]
 by_cases h1:d < e
 ·have:¬ d = e:=by omega
  simp [h1,this]
 ·by_cases h2:e < d
  ·have:¬ d = e:=by omega
   simp [h1,h2,this]
  ·have h3:d = e:=by omega
   subst h3
   by_cases h4:n < m
   ·have:¬ n = m:=by omega
    simp [h4,this]
   ·by_cases h5:m < n
    ·have:¬ n = m:=by omega
     simp [h4,h5,this]
    ·have:n = m:=by omega
     simp [this]


theorem wta {σ ρ ε:Type} {body:σ → M (Step σ ρ)} (l:List ε) (f:ε → List Int) (row:List Int) (N:Nat) (mk:Nat → List Int → σ) (g:List Int → M ρ) (hN:row.length + (l.flatMap f).length ≤ N)
  (h1:∀ (i:Nat) (x:ε) (out:List Int),l[i]? = some x → i < l.length → out.length + (f x).length ≤ N → body (mk i out) = pure (.next (mk (i + 1) (out ++ f x))))
  (h2:∀ out,body (mk l.length out) = (g out).bind fun r=>pure (.done r)):loop body (mk 0 row) = g (row ++ l.flatMap f):=by
 have key:∀ (k i:Nat) (out:List Int),i + k = l.length → out.length + ((l.drop i).flatMap f).length ≤ N → loop body (mk i out) = g (out ++ (l.drop i).flatMap f):=by
  intro k
  induction k with
  | zero=>
   intro i out hi _;have:i = l.length:=by omega
   subst this;rw [UB,h2,List.drop_length];simp only [List.flatMap_nil,List.append_nil]
   rfl
  | succ k ih=>
   intro i out hi hl;have hlt:i < l.length:=by omega
   rw [List.drop_eq_getElem_cons hlt,List.flatMap_cons,List.length_append] at hl;rw [zi (h1 i l[i] out (List.getElem?_eq_getElem hlt) hlt (by omega)),ih (i + 1) _ (by omega) (by rw [List.length_append];omega),List.drop_eq_getElem_cons hlt,List.flatMap_cons,List.append_assoc]
 simpa using key l.length 0 row (by omega) (by simpa using hN)
theorem yZa {ε:Type} (l:List ε) (f:ε → List Int) (k:Nat) (h:∀ x ∈ l,(f x).length ≤ k):(l.flatMap f).length ≤ k * l.length:=by
 induction l with
 | nil=>simp
 | cons x r ih=>
  have h1:=h x (by simp);have h2:=ih fun y hy=>h y (by simp [hy])
  rw [List.flatMap_cons,List.length_append,List.length_cons,Nat.mul_add];omega

structure OkD (d:TDot):Prop where
 d0:0 ≤ d.dev
 d1:d.dev ≤ 65535
 n0:0 ≤ d.n
 n1:d.n ≤ 18446744073709551615
def encD (d:TDot):List Int:=N.encI d.dev ++ N.encI d.n
theorem yaa {d:TDot} (h:OkD d):(encD d).length ≤ 18:=by
 have h1:=N.Zc (v:=d.dev) (by have:=h.d1;omega);have h2:=N.Zc (v:=d.n) h.n1;rw [encD,List.length_append];omega
theorem jq {d:TDot} (h:OkD d) (row:List Int) (hr:row.length ≤ 1000000000000):Yh row d = pure (row ++ encD d):=by
 have h1:=N.Zc (v:=d.dev) (by have:=h.d1;omega);unfold Yh;rw [wU64 h.d0 (by have:=h.d1;omega),N.uz row h.d0 (by have:=h.d1;omega) (by omega),zB,zA,N.uz _ h.n0 h.n1 (by rw [List.length_append];omega),zB,zA,encD,List.append_assoc]
def Xb (l:List TDot):List TDot:=l.filter V.zp
def encDs (l:List TDot):List Int:=N.encI (wO (Xb l)).length ++ (wO (Xb l)).flatMap encD
theorem good_mem {l:List TDot} {d:TDot}:d ∈ wO (Xb l) ↔ d ∈ l ∧ V.zp d = true:=by rw [Zf,Xb,List.mem_filter]
theorem good_len (l:List TDot):(wO (Xb l)).length ≤ l.length:=Nat.le_trans (Vp _) (List.length_filter_le _ _)
theorem yba {l:List TDot} (h:∀ d ∈ l,OkD d):∀ d ∈ wO (Xb l),OkD d:=fun d hd=>h d (good_mem.1 hd).1
theorem Wz (l : List TDot) (hl : l.length ≤ 1000000000000) : loop (xS l) ([], 0) = pure (wO (Xb l)) := by
  have := ww (body := xS l) l (fun i t => (t, (i : Int))) (fun t d => if V.zp d = true then insD t d else t) (fun t => pure t) (fun i t => t.length ≤ i) (fun i x t hx hi hI => by
    have hd : decide ((i : Int) < (l.length : Int)) = true := by simpa using hi
    refine ⟨?_, by split
                   · have := qD t x; omega
                   · omega⟩
    unfold xS;simp only [hd, cond_true, zF hx, zA, V.wx, zB, zf (show i < 9223372036854775807 by omega)]
    by_cases c : V.zp x = true
    · rw [c, cond_true, qE t x (by omega), zB, zA, zA, if_pos rfl]
    · simp only [Bool.not_eq_true] at c;rw [c, cond_false, zA]; rfl) (fun t _ => by
    unfold xS;simp [zA]) [] (by simp)
  rw [show (0 : Int) = ((0 : Nat) : Int) from rfl, this]
  congr 1
  have key : ∀ (l t : List TDot), l.foldl (fun t d => if V.zp d = true then insD t d else t) t = (Xb l).foldl insD t := by
    intro l
    induction l with
    | nil => intro t; rfl
    | cons x r ih =>
      intro t;rw [List.foldl_cons, ih];unfold Xb
      by_cases c : V.zp x = true
      · rw [if_pos c, List.filter_cons_of_pos c]; rfl
      · rw [if_neg c, List.filter_cons_of_neg c]
  exact key l []
theorem zia {l:List TDot} (h:∀ d ∈ l,OkD d) (hl:l.length ≤ 1000000000) (row:List Int) (hr:row.length ≤ 100000000000):XQ row l = pure (row ++ encDs l):=by
 have h3:=good_len l;have h1:=N.Zc (v:=((wO (Xb l)).length:Int)) (by omega);have h2:=yZa (wO (Xb l)) encD 18 fun x hx=>yaa (yba h x hx)
 unfold XQ;rw [Wz l (by omega),zA,wU64 (by omega) (by omega),N.uz row (by omega) (by omega) (by omega),zB,zA];have:=wta (body:=vE (wO (Xb l))) (wO (Xb l)) encD (row ++ N.encI ((wO (Xb l)).length:Int)) 1000000000000 (fun i out=>(out,(i:Int))) (fun t=>pure t) (by rw [List.length_append];omega) (fun i x out hx hi ho=>by
  have hd:decide ((i:Int) < ((wO (Xb l)).length:Int)) = true:=by simpa using hi
  unfold vE;simp only [hd,cond_true,zF hx,zA,jq (yba h x (List.mem_of_getElem? hx)) out (by omega),zB,zf (show i < 9223372036854775807 by omega)]) (fun out=>by
  unfold vE;simp [zA])
 rw [show (0:Int) = ((0:Nat):Int) from rfl,this,zA,encDs,List.append_assoc]

def encR (x:TRun):List Int:=N.encI x.lo ++ N.encI x.hi
def encP (p:TPart):List Int:=N.encI p.dev ++ (N.encI p.runs.length ++ p.runs.flatMap encR)
def encN (c:List TPart):List Int:=N.encI c.length ++ c.flatMap encP
def encC (c:List TPart):List Int:=encN (C.zW c)
structure OkP (p:TPart):Prop where
 d0:0 ≤ p.dev
 d1:p.dev ≤ 65535
 r:∀ x ∈ p.runs,(0 ≤ x.lo ∧ x.lo ≤ 18446744073709551615) ∧ 0 ≤ x.hi ∧ x.hi ≤ 18446744073709551615
open N (RS Ok numS Wx Zd endS OkB Sim)

def bad4 (c:Bool) (s:RS):RS:=if c = true then Zd 4 s else s
def fin {α:Type} (z x:α) (t:RS):α × RS:=if t.2 ≠ 0 then (z,t) else (x,t)
theorem wua {s:RS} (h:Ok s) (c:Bool):Ok (bad4 c s):=by unfold bad4;split;exact N.qC h _;exact h
theorem fin_ok {α:Type} {z x:α} {t:RS} (h:t.2 = 0):fin z x t = (x,t):=if_neg (by simp [h])
theorem fin_bad {α:Type} {z x:α} {t:RS} (h:t.2 ≠ 0):fin z x t = (z,t):=if_pos h
def dotR (s:RS):TDot:=⟨(Wx 65535 s).1,(numS (Wx 65535 s).2).1⟩
def dotT (s:RS):RS:=bad4 (!V.zp (dotR s)) (numS (Wx 65535 s).2).2
def dotS (s:RS):TDot × RS:=fin ⟨0,0⟩ (dotR s) (dotT s)
theorem ok_dot {s:RS} (h:Ok s):Ok (dotS s).2 ∧ OkD (dotS s).1 ∧ OkD (dotR s):=by
 obtain ⟨h1,h2,h3⟩:=N.ok_upto h (m:=65535) (by decide);obtain ⟨h4,h5,h6⟩:=N.wqa h1;have ht:Ok (dotT s):=wua h4 _;have hr:OkD (dotR s):=⟨h2,h3,h5,h6⟩
 unfold dotS
 by_cases c:(dotT s).2 = 0
 ·rw [fin_ok c];exact ⟨ht,hr,hr⟩
 ·rw [fin_bad c];exact ⟨ht,⟨Int.le_refl _,by simp,Int.le_refl _,by simp⟩,hr⟩
variable {B:List Int} {a:Int} {s:RS}
def wva (out:List TDot) (x:TDot):Bool:=match out.getLast? with | some y=>decide (0 ≤ V.cmpD y x) | none=>false
def qH (out:List TDot) (s:RS):RS:=bad4 (wva out (dotS s).1) (dotS s).2
def yC : Nat → List TDot → RS → List TDot × RS
 | 0,out,s=>(out,s)
 | k + 1,out,s=>if (qH out s).2 ≠ 0 then ([],qH out s) else yC k (out ++ [(dotS s).1]) (qH out s)
def dotsS (most:Int) (s:RS):List TDot × RS:=if max most 0 < (numS s).1 then ([],Zd 3 (numS s).2) else yC (numS s).1.toNat [] (numS s).2
theorem wwa {k:Nat} {out:List TDot} {s:RS} (h:(qH out s).2 ≠ 0):yC (k + 1) out s = ([],qH out s):=if_pos h
theorem xKa {k:Nat} {out:List TDot} {s:RS} (h:(qH out s).2 = 0):yC (k + 1) out s = yC k (out ++ [(dotS s).1]) (qH out s):=if_neg (by simp [h])
theorem yca {s:RS} (h:Ok s) (out:List TDot):Ok (qH out s):=wua (ok_dot h).1 _
theorem yda : ∀ (k:Nat) (out:List TDot) (s:RS),Ok s → Ok (yC k out s).2
 | 0,_,_,h=>h
 | k + 1,out,s,h=>by
  by_cases c:(qH out s).2 = 0
  ·rw [xKa c];exact yda k _ _ (yca h out)
  ·rw [wwa c];exact yca h out
theorem Ur {s:RS} (h:Ok s) (most:Int):Ok (dotsS most s).2:=by
 have h1:=N.wqa h;unfold dotsS
 split
 ·exact N.qC h1.1 _
 ·exact yda _ _ _ h1.1
theorem qI {out:List TDot} (h:out.length ≤ 1000000000000) (x:TDot) (cmp:TDot → TDot → M Int) (hc:∀ y,cmp y x = pure (V.cmpD y x)) :
  ((cond (decide (0 ≤ IntKind.i64.wrap ((out.length:Int) - 1))) ((idx out (IntKind.i64.wrap ((out.length:Int) - 1))).bind fun x61=>(det (cmp x61 x)).bind fun v63=>pure (decide (0 ≤ v63))) (pure false)):M Bool) = pure (wva out x):=by
 unfold wva;rcases R.xL out with rfl | ⟨r,y,rfl⟩
 ·rfl
 ·have hl:((r ++ [y]).length:Int) - 1 = (r.length:Int):=by simp
  rw [hl,wI64 (by omega) (by simp at h;omega)];have:decide ((0:Int) ≤ (r.length:Int)) = true:=by simp
  rw [this,cond_true,zF (y:=y) (by simp),zA,hc,zB,zA];simp
open N (RS Ok numS Wx Zd endS OkB Sim)

variable {B:List Int} {a:Int} {s:RS}
open N (RS Ok numS Wx Zd endS OkB Sim)

def YH : List TDot → Bool
 | []=>true
 | x :: r=>(match r with | []=>true | y :: _=>zK x y) && YH r
theorem yea : ∀ {l:List TDot},YH l = true ↔ Srt l
 | []=>⟨fun _=>List.Pairwise.nil,fun _=>rfl⟩
 | [x]=>⟨fun _=>by simp [Srt],fun _=>rfl⟩
 | x :: y :: r=>by
  show (zK x y && YH (y :: r)) = true ↔ _;rw [Bool.and_eq_true,yea (l:=y :: r)];unfold Srt;rw [List.pairwise_cons (a:=x)]
  constructor
  ·rintro ⟨h1,h2⟩;refine ⟨fun z hz=>?_,h2⟩;rcases List.mem_cons.1 hz with rfl | hz
   ·exact h1
   ·exact Yt h1 ((List.pairwise_cons.1 h2).1 z hz)
  ·rintro ⟨h1,h2⟩;exact ⟨h1 y (by simp),h2⟩
theorem cmp_ge (x y:TDot):decide (0 ≤ V.cmpD x y) = !zK x y:=by
 by_cases h:zK x y = true
 ·have:=V.ZZ.2 h;rw [h];simp;omega
 ·have h2:¬ V.cmpD x y < 0:=fun e=>h (V.ZZ.1 e)
  simp only [Bool.not_eq_true] at h;rw [h];simp;omega
theorem xLa (l:List TDot) (hl:l.length ≤ 1000000000000):YX l = pure (YH l):=by
 unfold YX;have key:∀ (k i:Nat) (x:TDot) (r:List TDot),i + k = l.length → l.drop i = r → i ≠ 0 → l[i - 1]? = some x → loop (xG l) (i:Int) = pure (if YH (x :: r) = true then .brk () else .ret false):=by
  intro k
  induction k with
  | zero=>
   intro i x r hi hr h1 hx;have:r = []:=by rw [← hr];exact List.drop_eq_nil_of_le (by omega)
   subst this;exact zj (by
    unfold xG;have:decide ((i:Int) < (l.length:Int)) = false:=by simp;omega
    simp only [this,cond_false];rfl)
  | succ k ih=>
   intro i x r hi hr h1 hx;have hlt:i < l.length:=by omega
   have hr2:r = l[i] :: l.drop (i + 1):=by rw [← hr];exact List.drop_eq_getElem_cons hlt
   have hy:=List.getElem?_eq_getElem hlt;have hi1:idx l (IntKind.i64.wrap ((i:Int) - 1)) = pure x:=by
    rw [wI64 (by omega) (by omega)];exact XD (by omega) (by rw [show ((i:Int) - 1).toNat = i - 1 by omega];exact hx)
   have hb:xG l (i:Int) = cond (!zK x l[i]) (pure (.done (.ret false))) (pure (.next ((i + 1:Nat):Int))):=by
    unfold xG;have:decide ((i:Int) < (l.length:Int)) = true:=by simp;omega
    simp only [this,cond_true,hi1,zF hy,zA,V.Yo,zB,cmp_ge,zf (show i < 9223372036854775807 by omega)]
   rw [hr2];show _ = (pure (if (zK x l[i] && YH (l[i] :: l.drop (i + 1))) = true then Ex.brk () else Ex.ret false):M (Ex Unit Bool))
   cases c:zK x l[i] with
   | true=>
    rw [c] at hb;rw [zi hb,Bool.true_and];exact ih (i + 1) l[i] _ (by omega) rfl (by omega) hy
   | false=>
    rw [c] at hb;rw [zj hb];rfl
 cases l with
 | nil=>
  rw [zj (r:=.brk ()) (by unfold xG;rfl)];rfl
 | cons x r=>
  have:=key r.length 1 x r (by simp;omega) rfl (by decide) rfl;rw [show ((1:Nat):Int) = 1 from rfl] at this;rw [this,zA]
  cases YH (x :: r) <;> rfl

open N (RS Ok numS Wx Zd endS OkB Sim)

end Go.Ep.M.D

namespace Go.Ep.M.E
open Go

theorem xT (s:ByteArray):(xe s).length = s.size:=by simp [xe]
def cidD (v:Int):TDot:=⟨v / 281474976710656,v % 281474976710656⟩
theorem band48 {v:Int} (h0:0 ≤ v) (h:v ≤ 18446744073709551615):bAnd .u64 v 281474976710655 = v % 281474976710656:=by
 obtain ⟨n,rfl⟩:=Int.eq_ofNat_of_zero_le h0;unfold bAnd;have bv:∀ q:Nat,q < 18446744073709551616 → (BitVec.ofInt IntKind.u64.bits (q:Int)).toNat = q:=fun q hq=>by
  show (BitVec.ofInt 64 (q:Int)).toNat = q;rw [BitVec.toNat_ofInt];omega
 have e:(281474976710655:Int) = ((281474976710655:Nat):Int):=rfl;rw [e,BitVec.toNat_and,bv n (by omega),bv _ (by decide)];have h2:n &&& 281474976710655 = n % 281474976710656:=Nat.and_two_pow_sub_one_eq_mod n 48;rw [h2,wU64 (by omega) (by omega)];omega
theorem Split_eq {v:Int} (h0:0 ≤ v) (h:v ≤ 18446744073709551615):ZQ v = pure ((cidD v).dev,(cidD v).n):=by
 unfold ZQ cidD;have e:(2 ^ 48:Int) = 281474976710656:=rfl;rw [band48 h0 h,Int.fdiv_eq_ediv_of_nonneg _ (by decide),e,wU16 (by omega) (by omega)]
theorem wxa {v:Int} (h0:0 ≤ v) (h:v ≤ 18446744073709551615):Xp v = pure ((cidD v).dev,(cidD v).n):=by
 unfold Xp cidD;rw [Int.tdiv_eq_ediv_of_nonneg h0,Int.tmod_eq_emod_of_nonneg h0,wU64 (by omega) (by omega),wU16 (by omega) (by omega)]
def VN (v:Int):Bool:=V.zp (cidD v)
theorem wya {v:Int} (h0:0 ≤ v) (h:v ≤ 18446744073709551615):Yb v = pure (if VN v = true then cidD v else ⟨0,0⟩,VN v):=by
 unfold Yb;rw [Split_eq h0 h,zB,zA,V.ZW,zB,zA];show cond (!VN v) _ _ = _
 cases VN v <;> rfl
theorem xMa {v:Int} (h0:0 ≤ v) (h:v ≤ 18446744073709551615):YW v = pure (if VN v = true then cidD v else ⟨0,0⟩,VN v):=by
 unfold YW;rw [wxa h0 h,zB,zA,V.wx,zB,zA];show cond (!VN v) _ _ = _
 cases VN v <;> rfl

def zja (f:Int):Bool:=decide (1 ≤ f) && decide (f ≤ 5)
theorem Field_eq (f:Int):Yc f = pure (zja f):=by unfold Yc zja;rw [zV];rfl
theorem wza (f:Int):VV f = pure (zja f):=by unfold VV zja;rw [zV];rfl
def okB (x:Int):Bool:=decide (32 ≤ x) && decide (x ≤ 126)
def zka (s:ByteArray):Bool:=decide (s.size ≤ 60) && (xe s).all okB
theorem YI {α:Type} (l:List α) (p:α → Bool):(l.zipIdx.all fun y=>p y.1) = l.all p:=by
 rw [Bool.eq_iff_iff,List.all_eq_true,List.all_eq_true]
 constructor
 ·intro h x hx;obtain ⟨i,hi⟩:=List.getElem?_of_mem hx;exact h (x,i) (by rw [List.mk_mem_zipIdx_iff_getElem?];exact hi)
 ·intro h y hy;exact h y.1 (List.fst_mem_of_mem_zipIdx hy)
theorem okB_eq (x:Int) (f:M Bool) (hf:f = pure (decide (126 < x))):(cond (decide (x < 32)) (pure true) f:M Bool) = pure (!okB x):=by
 rw [hf];unfold okB
 by_cases h1:x < 32
 ·have:¬ 32 ≤ x:=by omega
  simp [h1,this]
 ·have:32 ≤ x:=by omega
  by_cases h2:126 < x
  ·have:¬ x ≤ 126:=by omega
   simp [h1,h2,this]
  ·have:x ≤ 126:=by omega
   simp [h1,h2, *]
theorem w0a (s:ByteArray) (hs:s.size ≤ 1000000000000):loop (xm s) 0 = pure (if (xe s).all okB = true then Ex.brk () else Ex.ret false):=by
 have:=xP (body:=xm s) (xe s) (fun i=>(i:Int)) (fun _ x=>okB x) (Ex.brk ()) (Ex.ret false) (fun i x hx hi=>by
  have hd:decide ((i:Int) < (s.size:Int)) = true:=by rw [← xT];simpa using hi
  have hi2:i < s.size:=by rw [← xT];exact hi
  unfold xm;simp only [hd,cond_true,zF hx,zA,okB_eq x _ rfl,zf (show i < 9223372036854775807 by omega)]
  cases okB x <;> rfl) (by
  unfold xm;simp [xT])
 rw [show (0:Int) = ((0:Nat):Int) from rfl,this,YI]
theorem xNa (s:ByteArray) (hs:s.size ≤ 1000000000000):loop (vq s) 0 = pure (if (xe s).all okB = true then Ex.brk () else Ex.ret false):=by
 have:=xP (body:=vq s) (xe s) (fun i=>(i:Int)) (fun _ x=>okB x) (Ex.brk ()) (Ex.ret false) (fun i x hx hi=>by
  have hd:decide ((i:Int) < (s.size:Int)) = true:=by rw [← xT];simpa using hi
  have hi2:i < s.size:=by rw [← xT];exact hi
  unfold vq;simp only [hd,cond_true,zF hx,zA,okB_eq x _ rfl,zf (show i < 9223372036854775807 by omega)]
  cases okB x <;> rfl) (by
  unfold vq;simp [xT])
 rw [show (0:Int) = ((0:Nat):Int) from rfl,this,YI]
theorem Text_eq (s:ByteArray) (hs:s.size ≤ 1000000000000):Yd s = pure (zka s):=by
 unfold Yd zka;rw [w0a s hs]
 by_cases h:s.size ≤ 60
 ·have:decide ((60:Int) < (s.size:Int)) = false:=by simp;omega
  rw [this,cond_false,zA,decide_eq_true h,Bool.true_and]
  cases (xe s).all okB <;> rfl
 ·have:decide ((60:Int) < (s.size:Int)) = true:=by simp;omega
  rw [this,cond_true,decide_eq_false h,Bool.false_and]
theorem rText_eq (s:ByteArray) (hs:s.size ≤ 1000000000000):VW s = pure (zka s):=by
 unfold VW zka;rw [xNa s hs,zA]
 cases (xe s).all okB with
 | false=>rw [Bool.and_false];rfl
 | true=>
  rw [if_pos rfl,ud,Bool.and_true]
  congr 1
  by_cases h:s.size ≤ 60
  ·rw [decide_eq_true h];simp;omega
  ·rw [decide_eq_false h];simp;omega

structure OkE (e:TEvent):Prop where
 dot:D.OkD e.dot
 kind:0 ≤ e.kind ∧ e.kind ≤ 255
 cid:0 ≤ e.cid ∧ e.cid ≤ 18446744073709551615
 field:0 ≤ e.field ∧ e.field ≤ 255
 text:e.text.size ≤ 1000000000
 kills:∀ d ∈ e.kills,D.OkD d
 klen:e.kills.length ≤ 1000000000
def w1a (s:ByteArray):Bool:=decide (s = ⟨#[]⟩)
def goodK (e:TEvent):Bool:=(decide (e.kind = 1) && (zja e.field && zka e.text)) || (decide (e.kind = 2) && (decide (e.field = 0) && w1a e.text))
def xOa (e:TEvent):Bool:=decide (e.kills.length ≤ 256) && (D.YH e.kills && e.kills.all fun d=>V.zp d && !decide (d = e.dot))
def ya (e:TEvent):Bool:=(VN e.cid && V.zp e.dot) && (goodK e && xOa e)
theorem w2a (l:List TDot) (hl:l.length ≤ 1000000000000):Ye l = pure (D.YH l):=by
 unfold Ye;have key:∀ (k i:Nat) (x:TDot) (r:List TDot),i + k = l.length → l.drop i = r → i ≠ 0 → l[i - 1]? = some x → loop (yY l) (i:Int) = pure (if D.YH (x :: r) = true then Ex.brk () else Ex.ret false):=by
  intro k
  induction k with
  | zero=>
   intro i x r hi hr h1 hx;have:r = []:=by rw [← hr];exact List.drop_eq_nil_of_le (by omega)
   subst this;exact zj (by
    unfold yY;have:decide ((i:Int) < (l.length:Int)) = false:=by simp;omega
    simp only [this,cond_false];rfl)
  | succ k ih=>
   intro i x r hi hr h1 hx;have hlt:i < l.length:=by omega
   have hr2:r = l[i] :: l.drop (i + 1):=by rw [← hr];exact List.drop_eq_getElem_cons hlt
   have hy:=List.getElem?_eq_getElem hlt;have hi1:idx l (IntKind.i64.wrap ((i:Int) - 1)) = pure x:=by
    rw [wI64 (by omega) (by omega)];exact XD (by omega) (by rw [show ((i:Int) - 1).toNat = i - 1 by omega];exact hx)
   have hb:yY l (i:Int) = cond (!zK x l[i]) (pure (.done (.ret false))) (pure (.next ((i + 1:Nat):Int))):=by
    unfold yY;have h2:decide ((i:Int) < (l.length:Int)) = true:=by simp;omega
    have h3:decide ((0:Int) < (i:Int)) = true:=by simp;omega
    simp only [h2,h3,cond_true,hi1,zF hy,zA,D.Cmp_eq,zB,D.cmp_ge,zf (show i < 9223372036854775807 by omega)]
   rw [hr2];show _ = (pure (if (zK x l[i] && D.YH (l[i] :: l.drop (i + 1))) = true then Ex.brk () else Ex.ret false):M (Ex Unit Bool))
   cases c:zK x l[i] with
   | true=>
    rw [c] at hb;rw [zi hb,Bool.true_and];exact ih (i + 1) l[i] _ (by omega) rfl (by omega) hy
   | false=>
    rw [c] at hb;rw [zj hb];rfl
 cases l with
 | nil=>
  rw [zj (r:=Ex.brk ()) (by unfold yY;rfl)];rfl
 | cons x r=>
  have h0:yY (x :: r) 0 = pure (.next 1):=by
   unfold yY;have h2:decide ((0:Int) < ((x :: r).length:Int)) = true:=decide_eq_true (by rw [List.length_cons];omega);simp only [h2,cond_true,show decide ((0:Int) < 0) = false from rfl,cond_false,zA];rw [wI64 (by omega) (by omega)]
   rfl
  have:=key r.length 1 x r (by simp;omega) rfl (by decide) rfl;rw [show ((1:Nat):Int) = 1 from rfl] at this;rw [zi h0,this,zA]
  cases D.YH (x :: r) <;> rfl
theorem xPa (e:TEvent) (hl:e.kills.length ≤ 1000000000000):loop (xn e) 0 = pure (if (e.kills.all fun d=>V.zp d && !decide (d = e.dot)) = true then Ex.brk () else Ex.ret false):=by
 have:=xP (body:=xn e) e.kills (fun i=>(i:Int)) (fun _ d=>V.zp d && !decide (d = e.dot)) (Ex.brk ()) (Ex.ret false) (fun i x hx hi=>by
  have hd:decide ((i:Int) < (e.kills.length:Int)) = true:=by simpa using hi
  unfold xn;simp only [hd,cond_true,zF hx,zA,V.ZW,zB,D.Qc,zf (show i < 9223372036854775807 by omega)]
  cases V.zp x <;> cases decide (x = e.dot) <;> rfl) (by
  unfold xn;simp)
 rw [show (0:Int) = ((0:Nat):Int) from rfl,this,YI e.kills fun d=>V.zp d && !decide (d = e.dot)]
theorem YF {e:TEvent} (h:OkE e):we e = pure (ya e):=by
 have hk:=h.klen;have ht:=h.text;unfold we ya;rw [wya h.cid.1 h.cid.2,zB,zA,V.ZW,zB,zA,xPa e (by omega),w2a e.kills (by omega),Field_eq,Text_eq e.text (by omega)];simp only []
 cases VN e.cid with
 | false=>rfl
 | true=>
  cases V.zp e.dot with
  | false=>rfl
  | true=>
   have hl:decide ((256:Int) < (e.kills.length:Int)) = !decide (e.kills.length ≤ 256):=by
    by_cases c:e.kills.length ≤ 256
    ·rw [decide_eq_true c];simp;omega
    ·rw [decide_eq_false c];simp;omega
   have tail:(cond (decide ((256:Int) < (e.kills.length:Int))) (pure true) ((det (pure (D.YH e.kills))).bind fun v23=>pure (!v23))).bind (fun v21=>cond v21 (pure false) ((pure (if (e.kills.all fun d=>V.zp d && !decide (d = e.dot)) = true then Ex.brk () else Ex.ret false)).bind (exk fun _=>pure true))) = pure (xOa e):=by
    unfold xOa;rw [hl,zB,zA]
    cases decide (e.kills.length ≤ 256) with
    | false=>rfl
    | true=>
     cases D.YH e.kills with
     | false=>rfl
     | true=>cases e.kills.all fun d=>V.zp d && !decide (d = e.dot) <;> rfl
   simp only [Bool.not_true,cond_false,zA,zB,Bool.true_and] at tail ⊢;unfold goodK w1a
   by_cases k1:e.kind = 1
   ·have k2:decide (e.kind = 2) = false:=by rw [k1];rfl
    rw [decide_eq_true k1,cond_true,k2,Bool.true_and,Bool.false_and,Bool.or_false]
    cases zja e.field with
    | false=>rfl
    | true=>
     cases zka e.text with
     | false=>rfl
     | true=>exact tail
   ·rw [decide_eq_false k1,cond_false,Bool.false_and,Bool.false_or]
    by_cases k2:e.kind = 2
    ·rw [decide_eq_true k2,cond_true,Bool.true_and]
     cases decide (e.field = 0) with
     | false=>rfl
     | true=>
      cases decide (e.text = (⟨#[]⟩:ByteArray)) with
      | false=>rfl
      | true=>exact tail
    ·rw [decide_eq_false k2];rfl
theorem Xa (l:List TDot) (d:TDot) (hl:l.length ≤ 1000000000000):Wk l d = pure (l.any fun x=>decide (x = d)):=by
 unfold Wk;have:=xP (body:=YV l d) l (fun i=>(i:Int)) (fun _ x=>!decide (x = d)) (Ex.brk ()) (Ex.ret true) (fun i x hx hi=>by
  have hd:decide ((i:Int) < (l.length:Int)) = true:=by simpa using hi
  unfold YV;simp only [hd,cond_true,zF hx,zA,D.Qc,zf (show i < 9223372036854775807 by omega)]
  cases decide (x = d) <;> rfl) (by
  unfold YV;simp)
 rw [show (0:Int) = ((0:Nat):Int) from rfl,this,zA,YI l fun x=>!decide (x = d)];have e:(l.any fun x=>decide (x = d)) = !(l.all fun x=>!decide (x = d)):=by simp [List.all_eq_not_any_not]
 rw [e]
 cases l.all fun x=>!decide (x = d) <;> rfl
theorem Wz (e:TEvent) (hl:e.kills.length ≤ 1000000000000):loop (vr e) 0 = pure (if e.kills.all V.zp = true then Ex.brk () else Ex.ret false):=by
 have:=xP (body:=vr e) e.kills (fun i=>(i:Int)) (fun _ d=>V.zp d) (Ex.brk ()) (Ex.ret false) (fun i x hx hi=>by
  have hd:decide ((i:Int) < (e.kills.length:Int)) = true:=by simpa using hi
  unfold vr;simp only [hd,cond_true,zF hx,zA,V.wx,zB,zf (show i < 9223372036854775807 by omega)]
  cases V.zp x <;> rfl) (by
  unfold vr;simp)
 rw [show (0:Int) = ((0:Nat):Int) from rfl,this,YI e.kills V.zp]
theorem Wa {e:TEvent} (h:OkE e):Xq e = pure (ya e):=by
 have hk:=h.klen;have ht:=h.text;unfold Xq ya;rw [xMa h.cid.1 h.cid.2,zB,zA,V.wx,zB,zA,Wz e (by omega),D.xLa e.kills (by omega),wza,rText_eq e.text (by omega),Xa e.kills e.dot (by omega)];simp only []
 cases VN e.cid with
 | false=>rfl
 | true=>
  cases V.zp e.dot with
  | false=>rfl
  | true=>
   have hl:decide ((e.kills.length:Int) ≤ 256) = decide (e.kills.length ≤ 256):=by
    by_cases c:e.kills.length ≤ 256
    ·rw [decide_eq_true c];simp;omega
    ·rw [decide_eq_false c];simp;omega
   have hall:(e.kills.all fun d=>V.zp d && !decide (d = e.dot)) = (e.kills.all V.zp && !(e.kills.any fun x=>decide (x = e.dot))):=by
    rw [Bool.eq_iff_iff,Bool.and_eq_true,List.all_eq_true,List.all_eq_true,Bool.not_eq_true',List.any_eq_false]
    constructor
    ·intro h;exact ⟨fun x hx=>by have:=h x hx;rw [Bool.and_eq_true] at this;exact this.1,fun x hx=>by have:=h x hx;rw [Bool.and_eq_true] at this;simpa using this.2⟩
    ·rintro ⟨h1,h2⟩ x hx;rw [Bool.and_eq_true];exact ⟨h1 x hx,by simpa using h2 x hx⟩
   have tail:((pure (if e.kills.all V.zp = true then Ex.brk () else Ex.ret false):M (Ex Unit Bool)).bind (exk fun _=>(cond (decide ((e.kills.length:Int) ≤ 256)) ((det (pure (D.YH e.kills))).bind fun v46=>cond v46 ((det (pure (e.kills.any fun x=>decide (x = e.dot)))).bind fun v49=>pure (!v49)) (pure false)) (pure false)).bind fun v44=>pure v44)) = pure (xOa e):=by
    unfold xOa;rw [hl,hall];simp only [zB,zA]
    cases e.kills.all V.zp with
    | false=>cases decide (e.kills.length ≤ 256) <;> cases D.YH e.kills <;> rfl
    | true=>cases decide (e.kills.length ≤ 256) <;> cases D.YH e.kills <;> cases e.kills.any fun x=>decide (x = e.dot) <;> rfl
   simp only [Bool.not_true,cond_false,zA,zB,Bool.true_and] at tail ⊢;unfold goodK w1a
   by_cases k1:e.kind = 1
   ·have k2:decide (e.kind = 2) = false:=by rw [k1];rfl
    rw [decide_eq_true k1,k2];simp only [Bool.not_true,cond_false,cond_true,zA,Bool.true_and,Bool.false_and,Bool.or_false]
    cases zja e.field with
    | false=>rfl
    | true=>
     cases zka e.text with
     | false=>rfl
     | true=>exact tail
   ·rw [decide_eq_false k1];simp only [Bool.not_false,cond_true,zA,Bool.false_and,Bool.false_or]
    by_cases k2:e.kind = 2
    ·rw [decide_eq_true k2];simp only [Bool.not_true,cond_false,cond_true,Bool.true_and]
     cases decide (e.field = 0) with
     | false=>rfl
     | true=>
      cases decide (e.text = (⟨#[]⟩:ByteArray)) with
      | false=>rfl
      | true=>exact tail
    ·rw [decide_eq_false k2];rfl


def fewE (l:List TEvent) (most:Nat):Bool:=decide (l.length ≤ most) && l.all fun e=>decide (e.kills.length ≤ 300) && decide (e.text.size ≤ 200)
theorem qA (l:List TEvent) (most:Nat) (hm:most ≤ 1000000):UF l (most:Int) = pure (fewE l most):=by
 unfold UF fewE
 by_cases h:l.length ≤ most
 ·have hd:decide ((most:Int) < (l.length:Int)) = false:=by simp;omega
  have:=xP (body:=YN l) l (fun i=>(i:Int)) (fun _ e=>decide (e.kills.length ≤ 300) && decide (e.text.size ≤ 200)) (Ex.brk ()) (Ex.ret false) (fun i x hx hi=>by
   have hd:decide ((i:Int) < (l.length:Int)) = true:=by simpa using hi
   unfold YN;simp only [hd,cond_true,zF hx,zA,zf (show i < 9223372036854775807 by omega)]
   by_cases c:x.kills.length ≤ 300
   ·have h1:decide ((300:Int) < (x.kills.length:Int)) = false:=by simp;omega
    rw [h1,cond_false,decide_eq_true c,Bool.true_and,zA]
    by_cases c2:x.text.size ≤ 200
    ·have h2:decide ((200:Int) < (x.text.size:Int)) = false:=by simp;omega
     rw [h2,decide_eq_true c2];rfl
    ·have h2:decide ((200:Int) < (x.text.size:Int)) = true:=by simp;omega
     rw [h2,decide_eq_false c2];rfl
   ·have h1:decide ((300:Int) < (x.kills.length:Int)) = true:=by simp;omega
    rw [h1,cond_true,decide_eq_false c,Bool.false_and];rfl) (by
   unfold YN;simp)
  rw [hd,cond_false,decide_eq_true h,Bool.true_and,show (0:Int) = ((0:Nat):Int) from rfl,this,zA,YI l fun e=>decide (e.kills.length ≤ 300) && decide (e.text.size ≤ 200)]
  cases l.all fun e=>decide (e.kills.length ≤ 300) && decide (e.text.size ≤ 200) <;> rfl
 ·have hd:decide ((most:Int) < (l.length:Int)) = true:=by simp;omega
  rw [hd,cond_true,decide_eq_false h,Bool.false_and]
theorem few_mem {l:List TEvent} {most:Nat} (h:fewE l most = true):l.length ≤ most ∧ ∀ e ∈ l,e.kills.length ≤ 300 ∧ e.text.size ≤ 200:=by
 unfold fewE at h;rw [Bool.and_eq_true,List.all_eq_true] at h;exact ⟨by simpa using h.1,fun e he=>by simpa using h.2 e he⟩
theorem Jz (a b:TEvent) (h:a.kills.length ≤ 1000000000000):Yi a b = pure (decide (a = b)):=by
 unfold Yi;rw [D.Qc,V.Ub a.kills b.kills h,zB,zA];have e:decide (a = b) = (decide (a.dot = b.dot) && (decide (a.kind = b.kind) && (decide (a.cid = b.cid) && (decide (a.field = b.field) && (decide (a.text = b.text) && decide (a.kills = b.kills)))))):=by
  cases a;cases b;simp only [TEvent.mk.injEq,Bool.decide_and]
 rw [e]
 cases decide (a.dot = b.dot) <;> cases decide (a.kind = b.kind) <;> cases decide (a.cid = b.cid) <;> cases decide (a.field = b.field) <;> cases decide (a.text = b.text) <;> rfl
theorem qJ (a b:List TEvent) (ha:a.length ≤ 1000000000000) (hk:∀ e ∈ a,e.kills.length ≤ 1000000000000):XR a b = pure (decide (a = b)):=by
 unfold XR
 by_cases hlen:a.length = b.length
 ·have h1:decide ((a.length:Int) = (b.length:Int)) = true:=by simp [hlen]
  rw [h1,Bool.not_true,cond_false];have:=xP (body:=Yj a b) a (fun i=>(i:Int)) (fun i x=>decide (b[i]? = some x)) (Ex.brk ()) (Ex.ret false) (fun i x hx hi=>by
   have hd:decide ((i:Int) < (a.length:Int)) = true:=by simpa using hi
   obtain ⟨y,hy⟩:∃ y,b[i]? = some y:=⟨_,List.getElem?_eq_getElem (by omega)⟩
   unfold Yj;simp only [hd,cond_true,zF hx,zF hy,zA,Jz x y (hk x (List.mem_of_getElem? hx)),zB,zf (show i < 9223372036854775807 by omega),hy]
   by_cases c:x = y
   ·subst c;simp
   ·have:¬ some y = some x:=fun e=>c (Option.some.inj e).symm
    simp [c,this]) (by
   unfold Yj;simp)
  rw [show (0:Int) = ((0:Nat):Int) from rfl,this,zA];have e:(a.zipIdx.all fun y=>decide (b[y.2]? = some y.1)) = decide (a = b):=by
   rw [Bool.eq_iff_iff,List.all_eq_true,decide_eq_true_eq]
   constructor
   ·intro h;apply List.ext_getElem?;intro i
    by_cases hi:i < a.length
    ·have:=h (a[i],i) (by rw [List.mk_mem_zipIdx_iff_getElem?];exact List.getElem?_eq_getElem hi);simp only [decide_eq_true_eq] at this;rw [this,List.getElem?_eq_getElem hi]
    ·rw [List.getElem?_eq_none (by omega),List.getElem?_eq_none (by omega)]
   ·intro h y hy;subst h;rw [List.mem_zipIdx_iff_getElem?] at hy;simpa using hy
  rw [e]
  cases decide (a = b) <;> rfl
 ·have h1:decide ((a.length:Int) = (b.length:Int)) = false:=by simp;omega
  have h2:decide (a = b) = false:=decide_eq_false fun e=>hlen (by rw [e])
  rw [h1,Bool.not_false,cond_true,h2]

def encT (s:ByteArray):List Int:=N.encI s.size ++ xe s
def encE (e:TEvent):List Int:=D.encD e.dot ++ ([e.kind] ++ (N.encI e.cid ++ ([e.field] ++ (encT e.text ++ D.encDs e.kills))))
theorem encT_len {s:ByteArray} (h:s.size ≤ 1000000000):(encT s).length ≤ 9 + s.size:=by
 have:=N.Zc (v:=(s.size:Int)) (by omega);rw [encT,List.length_append,xT];omega
theorem zla {s:ByteArray} (h:s.size ≤ 1000000000) (row:List Int) (hr:row.length ≤ 1000000000000):JN row s = pure (row ++ encT s):=by
 have h9:=N.Zc (v:=(s.size:Int)) (by omega);unfold JN;rw [wU64 (by omega) (by omega),N.uz row (by omega) (by omega) (by omega),zB,zA];have:=D.wta (body:=ZR s) (xe s) (fun x=>[x]) (row ++ N.encI (s.size:Int)) 2000000000000 (fun i out=>((i:Int),out)) (fun t=>pure t) (by
  have:=D.yZa (xe s) (fun x=>[x]) 1 (by simp);rw [xT] at this;rw [List.length_append];omega) (fun i x out hx hi ho=>by
  have hi2:i < s.size:=by rw [← xT];exact hi
  have hd:decide ((i:Int) < (s.size:Int)) = true:=by simpa using hi2
  unfold ZR;simp only [hd,cond_true,zF hx,zA];rw [zC (by simp at ho ⊢;omega),zf (show i < 9223372036854775807 by omega)]) (fun out=>by
  unfold ZR;simp [xT,zA])
 rw [show (0:Int) = ((0:Nat):Int) from rfl,this,zA,encT,List.append_assoc];have e:∀ l:List Int,(l.flatMap fun x=>[x]) = l:=by
  intro l
  induction l with
  | nil=>rfl
  | cons x r ih=>rw [List.flatMap_cons,ih];rfl
 rw [e]
theorem qE {e:TEvent} (h:OkE e) (row:List Int) (hr:row.length ≤ 10000000000):xha row e = pure (row ++ encE e):=by
 have h1:=D.yaa h.dot;have h2:=N.Zc h.cid.2;have h3:=encT_len h.text;have ht:=h.text;have hk:=h.klen;unfold xha;rw [D.jq h.dot row (by omega),zB,zA,zC (by simp only [List.length_append,List.length_singleton];omega),N.uz _ h.cid.1 h.cid.2 (by simp only [List.length_append,List.length_singleton];omega),zB,zA,
  zC (by simp only [List.length_append,List.length_singleton];omega),zla h.text _ (by simp only [List.length_append,List.length_singleton];omega),zB,zA,
  D.zia h.kills (by omega) _ (by simp only [List.length_append,List.length_singleton];omega),zB,zA]
 simp only [encE,List.append_assoc]
def encEs (l:List TEvent):List Int:=N.encI l.length ++ l.flatMap encE
open N (RS Ok numS Wx xIa textS Zd endS OkB Sim)
open D (bad4 fin)

def s1 (s:RS):RS:=(D.dotS s).2
def s2 (s:RS):RS:=(xIa (s1 s)).2
def s3 (s:RS):RS:=(numS (s2 s)).2
def s4 (s:RS):RS:=(xIa (s3 s)).2
def s5 (s:RS):RS:=(textS 60 (s4 s)).2
def s6 (s:RS):RS:=(D.dotsS 256 (s5 s)).2
def getE (s:RS):TEvent:=⟨(D.dotS s).1,(xIa (s1 s)).1,(numS (s2 s)).1,(xIa (s3 s)).1,(textS 60 (s4 s)).1,(D.dotsS 256 (s5 s)).1⟩
def noE : TEvent:=⟨⟨0,0⟩,0,0,0,⟨#[]⟩,[]⟩
def getT (s:RS):RS:=bad4 (!ya (getE s)) (s6 s)
def getS (s:RS):TEvent × RS:=fin noE (getE s) (getT s)
variable {B:List Int} {a:Int} {s:RS}
open N (RS Ok numS Wx xIa textS Zd endS OkB Sim)
open D (bad4 fin)

variable {B:List Int} {a:Int} {s:RS}
abbrev SrtE (l:List TEvent):Prop:=l.Pairwise fun x y=>zK x.dot y.dot = true
theorem Uv (e:TEvent) (h:e.kills.length ≤ 1000000000000):yM e = pure e:=by
 unfold yM;rw [D.qG _ h,zB,zA]
def nB (l:List TEvent):Nat:=(l.length + 3) / 4
def kB (l:List TEvent) (pick:Int):Nat:=(pick % (nB l:Int)).toNat
def zma (l:List TEvent) (pick:Int):List TEvent:=if nB l = 0 then [] else (l.drop (4 * kB l pick)).take 4
theorem kB_lt {l:List TEvent} (h:nB l ≠ 0) (pick:Int):kB l pick < nB l:=by
 unfold kB;have h1:=Int.emod_lt_of_pos pick (show (0:Int) < (nB l:Int) by omega);have h2:=Int.emod_nonneg pick (show (nB l:Int) ≠ 0 by omega);omega
theorem kB_cast {l:List TEvent} (h:nB l ≠ 0) (pick:Int):((kB l pick:Nat):Int) = pick % (nB l:Int):=by
 unfold kB;have h2:=Int.emod_nonneg pick (show (nB l:Int) ≠ 0 by omega);omega
theorem jr (l:List TEvent) (h:l.length ≤ 1000000000):yc l = pure (nB l:Int):=by
 unfold yc nB;rw [wI64 (n:=(l.length:Int) + 4) (by omega) (by omega),wI64 (n:=(l.length:Int) + 4 - 1) (by omega) (by omega),Int.tdiv_eq_ediv_of_nonneg (by omega),wI64 (by omega) (by omega),show (l.length:Int) + 4 - 1 = ((l.length + 3:Nat):Int) by omega]
 rfl
theorem tmod_abs (a n:Int) (h:0 < n):-n < Int.tmod a n ∧ Int.tmod a n < n:=by
 rw [Int.tmod_eq_emod];have h1:=Int.emod_lt_of_pos a h;have h2:=Int.emod_nonneg a (show n ≠ 0 by omega);have h3:(n.natAbs:Int) = n:=by omega
 split <;> omega
theorem tmod_neg (a n:Int) (h:0 < n):(if Int.tmod a n < 0 then Int.tmod a n + n else Int.tmod a n) = a % n:=by
 have h1:=Int.emod_lt_of_pos a h;have h2:=Int.emod_nonneg a (show n ≠ 0 by omega);have h3:(n.natAbs:Int) = n:=by omega
 have h4:=Int.tmod_eq_emod (a:=a) (b:=n)
 split at h4
 ·rw [h4];split <;> omega
 ·rename_i c
  have h5:a % n ≠ 0:=fun e=>c (Or.inr (Int.dvd_of_emod_eq_zero e))
  rw [h4];split <;> omega
theorem xQa (l t:List TEvent):l.foldl (fun t x=>t ++ [x]) t = t ++ l:=by
 induction l generalizing t with
 | nil=>simp
 | cons x r ih=>rw [List.foldl_cons,ih,List.append_assoc];rfl
theorem Batch_eq (l:List TEvent) (pick:Int) (h:l.length ≤ 1000000000) (hk:∀ e ∈ l,e.kills.length ≤ 1000000000000):zu l pick = pure (zma l pick):=by
 unfold zu;rw [jr l h,zB,zA]
 by_cases c:nB l = 0
 ·have:decide ((nB l:Int) = 0) = true:=by simp [c]
  rw [this,cond_true,zma,if_pos c]
 ·have hd:decide ((nB l:Int) = 0) = false:=by simp [c]
  have hp:(0:Int) < (nB l:Int):=by omega
  have hn:nB l ≤ 1000000000:=by unfold nB;omega
  have hlt:=kB_lt c pick;have h4:4 * kB l pick < l.length:=by unfold nB at hlt;omega
  rw [hd,cond_false,zC (by omega)];have e1:(cond (decide (Int.tmod pick (nB l:Int) < 0)) (pure (IntKind.i64.wrap (Int.tmod pick (nB l:Int) + (nB l:Int)))) (pure (Int.tmod pick (nB l:Int))):M Int) = pure ((kB l pick:Nat):Int):=by
   have h1:=tmod_abs pick _ hp;have h2:=tmod_neg pick _ hp;rw [kB_cast c,← h2,wI64 (by omega) (by omega)]
   by_cases c2:Int.tmod pick (nB l:Int) < 0
   ·rw [decide_eq_true c2,cond_true,if_pos c2]
   ·rw [decide_eq_false c2,cond_false,if_neg c2]
  rw [e1,zA];have w1:IntKind.i64.wrap (((kB l pick:Nat):Int) * 4) = ((4 * kB l pick:Nat):Int):=by rw [wI64 (by omega) (by omega)];omega
  have w2:IntKind.i64.wrap (IntKind.i64.wrap (((kB l pick:Nat):Int) + 1) * 4) = ((4 * kB l pick + 4:Nat):Int):=by rw [wI64 (n:=_ + 1) (by omega) (by omega),wI64 (by omega) (by omega)];omega
  have w3:min (((4 * kB l pick + 4:Nat):Int)) (l.length:Int) = ((min (4 * kB l pick + 4) l.length:Nat):Int):=by omega
  have es:List.drop (4 * kB l pick) (List.take (min (4 * kB l pick + 4) l.length) l) = (l.drop (4 * kB l pick)).take 4:=by
   rw [List.drop_take];refine List.take_eq_take_iff.2 ?_;rw [List.length_drop];omega
  rw [zC (by rw [w1,w2,w3];omega)];have hm:∀ e ∈ (l.drop (4 * kB l pick)).take 4,e ∈ l:=fun e he=>List.mem_of_mem_drop (List.mem_of_mem_take he)
  have hl4:((l.drop (4 * kB l pick)).take 4).length ≤ 4:=by rw [List.length_take];omega
  have hb:zma l pick = (l.drop (4 * kB l pick)).take 4:=if_neg c;have:=ww (body:=xp (kB l pick:Int) l) ((l.drop (4 * kB l pick)).take 4) (fun i t=>((i:Int),t)) (fun t x=>t ++ [x]) (fun t=>pure t) (fun i t=>t.length = i) (fun i x t hx hi hI=>by
   refine ⟨?_,by simp [hI]⟩;unfold xp;simp only [w1,w2,w3,Int.toNat_natCast,es];have hd:decide ((i:Int) < (((l.drop (4 * kB l pick)).take 4).length:Int)) = true:=by simpa using hi
   rw [hd,cond_true,zF hx,zA,Uv x (hk x (hm x (List.mem_of_getElem? hx))),zB,zA,zC (by simp;omega),zf (by omega)]) (fun t _=>by
   unfold xp;simp only [w1,w2,w3,Int.toNat_natCast,es];simp [zA]) [] rfl
  rw [show (0:Int) = ((0:Nat):Int) from rfl,this,zA,xQa,List.nil_append,hb]
def keepK (l:List TDot) (c:List TPart):List TDot:=D.wO (l.filter fun d=>C.hasC c d.dev d.n)
def again (dev:Int) (c:List TPart) (i:Nat) (e:TEvent):TEvent:=⟨⟨dev,(i:Int) + 1⟩,e.kind,e.cid,e.field,e.text,keepK e.kills c⟩
def e0 : TEvent:=⟨⟨0,0⟩,0,0,0,⟨#[]⟩,[]⟩
def e4 : TEvent:=⟨⟨0,0⟩,0,0,0,⟨#[101]⟩,[]⟩
def six : List TEvent:=[e0,e0,e0,e0,e4,e0]
theorem works29 : Zv = pure true:=by
 have hk:∀ e ∈ six,e.kills.length ≤ 1000000000000:=fun e he=>by
  simp only [six,List.mem_cons,List.not_mem_nil,or_false] at he;rcases he with rfl | rfl | rfl | rfl | rfl | rfl <;> exact Nat.zero_le _
 have b1:∀ p,zu six p = pure (zma six p):=fun p=>Batch_eq six p (by decide) hk
 have b0:yc six = pure 2:=jr six (by decide);have i0:idx (List.replicate (Int.toNat 6) e0) 4 = pure e0:=zF (i:=4) rfl;have i4:idx six 4 = pure e4:=zF (i:=4) rfl;have p1:zma six 1 = [e4,e0]:=rfl;have p3:zma six 3 = [e4,e0]:=rfl;have p0:zma six 0 = [e0,e0,e0,e0]:=rfl;have j0:idx [e4,e0] 0 = pure e4:=zF (i:=0) rfl;have hs:List.set (List.replicate (Int.toNat 6) e0) (Int.toNat 4) e4 = six:=rfl;unfold Zv;rw [zC (by decide)];show (idx (List.replicate (Int.toNat 6) e0) 4).bind _ = _;rw [i0,zA];show ((det (yc six)).bind fun v5=>cond (decide (v5 = 2)) ((det (zu six 1)).bind fun v8=>cond (decide ((v8.length:Int) = 2)) ((det (zu six 3)).bind fun v11=>cond (decide ((v11.length:Int) = 2)) ((det (zu six 0)).bind fun v14=>cond (decide ((v14.length:Int) = 4)) ((det (zu six 3)).bind fun v17=>(idx v17 0).bind fun x19=>(idx six 4).bind fun x21=>(det (Yi x19 x21)).bind fun v23=>pure v23) (pure false)) (pure false)) (pure false)) (pure false)).bind (fun v4=>pure v4) = _;rw [b0,b1,b1,b1,p1,p3,p0];simp only [zB,zA,j0,i4];rw [Jz e4 e4 (Nat.zero_le _),zB,zA]
 rfl
end Go.Ep.M.E

namespace Go.Ep.M.F
open Go
open E (OkE ya)

def hasD (l:List TDot) (d:TDot):Bool:=l.any fun x=>decide (x = d)
theorem Uo (l:List TDot) (d:TDot) (hl:l.length ≤ 1000000000000):JL l d = pure (hasD l d):=by
 unfold JL yV yo;have:=loopF (body:=zw l d) l (fun i=>(i:Int)) (fun _ x=>decide (x = d)) (fun i _=>Ex.ret (i:Int)) (pure (Ex.brk ())) (fun i x hx hi=>by
  have hd:decide ((i:Int) < (l.length:Int)) = true:=by simpa using hi
  unfold zw;simp only [hd,cond_true,zF hx,zA,D.Qc,zf (show i < 9223372036854775807 by omega),yH,eq_comm (a:=d) (b:=x),decide_eq_true_eq]) (by
  unfold zw;simp [zA])
 rw [show (0:Int) = ((0:Nat):Int) from rfl,this];have hf:(l.zipIdx.find? fun y=>decide (y.1 = d)).isSome = hasD l d:=by
  rw [List.isSome_find?];unfold hasD;rw [Bool.eq_iff_iff,List.any_eq_true,List.any_eq_true]
  constructor
  ·rintro ⟨y,hy,h⟩;exact ⟨y.1,List.fst_mem_of_mem_zipIdx hy,h⟩
  ·rintro ⟨x,hx,h⟩;obtain ⟨i,hi⟩:=List.getElem?_of_mem hx;exact ⟨(x,i),by rw [List.mk_mem_zipIdx_iff_getElem?];exact hi,h⟩
 rw [← hf]
 cases l.zipIdx.find? fun y=>decide (y.1 = d) with
 | none=>simp only [zA,zB,ud];rfl
 | some y=>simp only [zA,zB,UA];simp
def uN (l:List TEvent) (d:TDot):Bool:=l.any fun e=>hasD e.kills d
theorem Dead_eq (l:List TEvent) (d:TDot) (hl:l.length ≤ 1000000000000) (hk:∀ e ∈ l,e.kills.length ≤ 1000000000000):wg l d = pure (uN l d):=by
 unfold wg;have:=xP (body:=va l d) l (fun i=>(i:Int)) (fun _ x=>!hasD x.kills d) (Ex.brk ()) (Ex.ret true) (fun i x hx hi=>by
  have hd:decide ((i:Int) < (l.length:Int)) = true:=by simpa using hi
  unfold va XP;simp only [hd,cond_true,zF hx,zA,Uo x.kills d (hk x (List.mem_of_getElem? hx)),zB,zf (show i < 9223372036854775807 by omega)]
  cases hasD x.kills d <;> rfl) (by
  unfold va;simp)
 rw [show (0:Int) = ((0:Nat):Int) from rfl,this,zA,E.YI l fun x=>!hasD x.kills d];have e:uN l d = !(l.all fun x=>!hasD x.kills d):=by simp [uN,List.all_eq_not_any_not]
 rw [e]
 cases l.all fun x=>!hasD x.kills d <;> rfl
def VA (l:List TDot) (c:List TPart):List TDot:=D.wO (l.filter fun d=>!C.hasC c d.dev d.n)
theorem Drop_eq (l : List TDot) (c : List TPart) (hl : l.length ≤ 1000000000) (hc : C.Sm c) : Yf l c = pure (VA l c) := by
  unfold Yf Wl;have := ww (body := vb l c false) l (fun i t => ((i : Int), t)) (fun t d => if C.hasC c d.dev d.n = true then t else t ++ [d]) (fun t => pure t) (fun i t => t.length ≤ i) (fun i x t hx hi hI => by
    have hd : decide ((i : Int) < (l.length : Int)) = true := by simpa using hi
    refine ⟨?_, by split
                   · omega
                   · simp; omega⟩
    unfold vb;simp only [hd, cond_true, zF hx, zA, C.Uo c x hc, zB, zf (show i < 9223372036854775807 by omega)]
    by_cases c : C.hasC c x.dev x.n = true
    · rw [c, show (true == false) = false from rfl, cond_false, zA, if_pos rfl]
    · simp only [Bool.not_eq_true] at c;rw [c, show (false == false) = true from rfl, cond_true, zC (by simp; omega), zA]; rfl) (fun t _ => by
    unfold vb;simp [zA]) [] (by simp)
  have key : ∀ (l t : List TDot), l.foldl (fun t d => if C.hasC c d.dev d.n = true then t else t ++ [d]) t = t ++ l.filter fun d => !C.hasC c d.dev d.n := by
    intro l
    induction l with
    | nil => intro t; simp
    | cons x r ih =>
      intro t;rw [List.foldl_cons, ih]
      by_cases h : C.hasC c x.dev x.n = true
      · rw [if_pos h, List.filter_cons, if_neg (by simp [h])]
      · rw [if_neg h, List.filter_cons, if_pos (by simp [h]), List.append_assoc]; rfl
  rw [show (0 : Int) = ((0 : Nat) : Int) from rfl, this, zA, key, List.nil_append, D.wsa _ (by have := List.length_filter_le (fun d : TDot => !C.hasC c d.dev d.n) l; omega), zB, zA, zB, zA, VA]
def yC (l:List TEvent):List TDot:=l.flatMap fun e=>e.dot :: e.kills
def yD (l:List TEvent):List TDot:=D.wO (yC l)
theorem wH (l:List TEvent) (k:Nat) (h:∀ e ∈ l,e.kills.length ≤ k):(yC l).length ≤ l.length * (k + 1):=by
 induction l with
 | nil=>simp [yC]
 | cons e r ih=>
  have h1:=ih fun x hx=>h x (by simp [hx])
  have h2:=h e (by simp);have e1:(yC (e :: r)).length = e.kills.length + 1 + (yC r).length:=by simp [yC];omega
  rw [e1,List.length_cons,Nat.add_mul];omega
theorem Uw {l:List TEvent} {i:Nat} {x:TEvent} (h:l[i]? = some x):yC (l.take (i + 1)) = yC (l.take i) ++ x.dot :: x.kills:=by
 rw [List.take_add_one,h];simp [yC]
theorem Qe (l:List TEvent) (i:Nat):(yC (l.take i)).length ≤ (yC l).length:=by
 have:yC l = yC (l.take i) ++ yC (l.drop i):=by unfold yC;rw [← List.flatMap_append,List.take_append_drop]
 rw [this,List.length_append];omega
theorem Ux (l:List TEvent) (hl:l.length ≤ 1000000000) (hs:(yC l).length ≤ 1000000000):wh l = pure (yD l):=by
 unfold wh;have key:∀ (k i:Nat),i + k = l.length → loop (vc l) ((i:Int),yC (l.take i)) = pure (yC l):=by
  intro k
  induction k with
  | zero=>
   intro i hi;refine zj ?_;unfold vc;have:decide ((i:Int) < (l.length:Int)) = false:=by simp;omega
   simp only [this,cond_false];rw [List.take_of_length_le (by omega)]
  | succ k ih=>
   intro i hi;obtain ⟨x,hx⟩:∃ x,l[i]? = some x:=⟨_,List.getElem?_eq_getElem (by omega)⟩
   have hd:decide ((i:Int) < (l.length:Int)) = true:=by simp;omega
   have h1:=Qe l (i + 1);rw [Uw hx,List.length_append,List.length_cons] at h1;rw [zi (s':=(((i + 1:Nat):Int),yC (l.take (i + 1)))) ?_]
   ·exact ih (i + 1) (by omega)
   ·unfold vc;simp only [hd,cond_true,zF hx,zA,zf (show i < 9223372036854775807 by omega)];rw [zC (by simp;omega),zC (by simp;omega),Uw hx,List.append_assoc];rfl
 have:=key l.length 0 (by omega);rw [show yC (l.take 0) = [] from rfl] at this;rw [show (0:Int) = ((0:Nat):Int) from rfl,this,zA,D.wsa _ (by omega),zB,zA,yD]
theorem rdots_in (l:List TEvent) {i:Nat} {x:TEvent} (hx:l[i]? = some x) (hk:x.kills.length ≤ 1000000000) (s:List TDot) (hs:s.length ≤ 1000000000):loop (vt l (i:Int)) (s,0) = pure (x.kills.foldl D.insD s):=by
 have:=ww (body:=vt l (i:Int)) x.kills (fun k t=>(t,(k:Int))) D.insD (fun t=>pure t) (fun k t=>t.length ≤ 1000000000 + k) (fun k d t hd hi hI=>by
  have hc:decide ((k:Int) < (x.kills.length:Int)) = true:=by simpa using hi
  refine ⟨?_,by have:=D.qD t d;omega⟩;unfold vt;simp only [zF hx,zA,hc,cond_true,zF hd,D.qE t d (by omega),zB,zf (show k < 9223372036854775807 by omega)]) (fun t _=>by
  unfold vt;simp [zF hx,zA]) s (by omega)
 exact this
theorem qK (l:List TEvent) (hl:l.length ≤ 1000000) (hk:∀ e ∈ l,e.kills.length ≤ 300):YY l = pure (yD l):=by
 unfold YY;have key:∀ (k i:Nat),i + k = l.length → loop (ZM l) (D.wO (yC (l.take i)),(i:Int)) = pure (yD l):=by
  intro k
  induction k with
  | zero=>
   intro i hi;refine zj ?_;unfold ZM;have:decide ((i:Int) < (l.length:Int)) = false:=by simp;omega
   simp only [this,cond_false];rw [List.take_of_length_le (by omega)];rfl
  | succ k ih=>
   intro i hi;obtain ⟨x,hx⟩:∃ x,l[i]? = some x:=⟨_,List.getElem?_eq_getElem (by omega)⟩
   have hd:decide ((i:Int) < (l.length:Int)) = true:=by simp;omega
   have h1:=Qe l i;have h2:=wH l 300 hk;have h3:=D.Vp (yC (l.take i));have h4:=D.qD (D.wO (yC (l.take i))) x.dot;have h5:=hk x (List.mem_of_getElem? hx);rw [zi (s':=(D.wO (yC (l.take (i + 1))),((i + 1:Nat):Int))) ?_]
   ·exact ih (i + 1) (by omega)
   ·unfold ZM;simp only [hd,cond_true,zF hx,zA,D.qE _ x.dot (show (D.wO (yC (l.take i))).length ≤ 1000000000000 by omega),zB,rdots_in l hx (show x.kills.length ≤ 1000000000 by omega) _ (show (D.insD (D.wO (yC (l.take i))) x.dot).length ≤ 1000000000 by omega),zf (show i < 9223372036854775807 by omega)];rw [Uw hx];unfold D.wO;rw [List.foldl_append];rfl
 have:=key l.length 0 (by omega);rw [show D.wO (yC (l.take 0)) = [] from rfl] at this;rw [show (0:Int) = ((0:Nat):Int) from rfl,this,zA]

def Zj (l:List TEvent) (i:Nat) (x:TEvent):Bool:=decide (0 < i) && match l[i - 1]? with | some y=>decide (0 ≤ V.cmpD y.dot x.dot) | none=>false
theorem prev_eq {β:Type} {l:List TEvent} {i:Nat} {x:TEvent} (hi:i < l.length) (hl:l.length ≤ 1000000000) (f:TDot → TDot → M Int) (hf:∀ a b,f a b = pure (V.cmpD a b)) (K:Bool → M β) :
  (cond (decide (0 < (i:Int))) ((idx l (IntKind.i64.wrap ((i:Int) - 1))).bind fun y=>(det (f y.dot x.dot)).bind fun v=>K (decide (0 ≤ v))) (K false)) = K (Zj l i x):=by
 unfold Zj
 by_cases h:0 < i
 ·obtain ⟨y,hy⟩:∃ y,l[i - 1]? = some y:=⟨_,List.getElem?_eq_getElem (by omega)⟩
  have e:IntKind.i64.wrap ((i:Int) - 1) = ((i - 1:Nat):Int):=by rw [wI64 (by omega) (by omega)];omega
  have hd:decide (0 < (i:Int)) = true:=by simp;omega
  rw [hd,cond_true,e,zF hy,zA,hf,zB,zA,decide_eq_true h,Bool.true_and,hy]
 ·have hd:decide (0 < (i:Int)) = false:=by simp;omega
  rw [hd,cond_false,decide_eq_false h,Bool.false_and]
def bad1 (d:TDelta) (i:Nat) (e:TEvent):Bool:=!ya e || (Zj d.events i e || (C.hasC d.from_ e.dot.dev e.dot.n || (decide (e.kind = 1) && uN d.events e.dot)))
def w3a (d:TDelta):Bool:=decide (d.from_ = C.zW d.from_) && (decide (d.to_ = C.zW d.to_) && (decide (C.opC (fun x y=>x && !y) d.from_ d.to_ = []) && (decide (d.events.length ≤ 4096) && ((d.events.zipIdx.all fun y=>!bad1 d y.2 y.1) && decide (VA (yD d.events) d.to_ = [])))))
structure OkD (d:TDelta):Prop where
 from_:C.Ok d.from_
 to_:C.Ok d.to_
 evs:∀ e ∈ d.events,OkE e
 len:d.events.length ≤ 1000000
 kills:∀ e ∈ d.events,e.kills.length ≤ 300
open E (OkE ya)

theorem qL (c:List TPart) (d k n:Int):C.hasC (C.uI c d) k n = (decide (d = k) && C.hasC c k n):=by
 unfold C.uI;rw [C.yK];unfold C.hasC;rw [C.wA,C.Yp,List.append_nil]
 by_cases h:d = k
 ·subst h
  by_cases h0:0 < d
  ·rw [if_pos ⟨rfl,h0⟩,R.xd];simp
  ·rw [if_neg (by simp [h0]),C.Yq h0];simp [R.hasR]
 ·rw [if_neg (by simp [h])];simp [h,R.hasR]
def VN (c:List TPart):Bool:=decide (c = C.zW c)
set_option maxHeartbeats 4000000 in
theorem eSame_eq (a b:TEvent) (h:a.kills.length ≤ 1000000000000):Wm a b = pure (decide (a = b)):=by
 unfold Wm;rw [D.Qc,V.zda a.kills b.kills h,zB,zA];have e:decide (a = b) = (decide (a.dot = b.dot) && (decide (a.kind = b.kind) && (decide (a.cid = b.cid) && (decide (a.field = b.field) && (decide (a.text = b.text) && decide (a.kills = b.kills)))))):=by
  cases a;cases b;simp only [TEvent.mk.injEq,Bool.decide_and]
 rw [e]
 cases decide (a.dot = b.dot) <;> cases decide (a.kind = b.kind) <;> cases decide (a.cid = b.cid) <;> cases decide (a.field = b.field) <;> cases decide (a.text = b.text) <;> rfl
theorem eAll_eq (a b:List TEvent) (ha:a.length ≤ 1000000000000) (hk:∀ e ∈ a,e.kills.length ≤ 1000000000000):UL a b = pure (decide (a = b)):=by
 unfold UL ze
 by_cases hlen:a.length = b.length
 ·have h1:decide ((a.length:Int) = (b.length:Int)) = true:=by simp [hlen]
  rw [h1,Bool.not_true,cond_false];have:=xP (body:=zI a b) a (fun i=>(i:Int)) (fun i x=>decide (b[i]? = some x)) (Ex.brk ()) (Ex.ret false) (fun i x hx hi=>by
   have hd:decide ((i:Int) < (a.length:Int)) = true:=by simpa using hi
   obtain ⟨y,hy⟩:∃ y,b[i]? = some y:=⟨_,List.getElem?_eq_getElem (by omega)⟩
   unfold zI;simp only [hd,cond_true,zF hx,zF hy,zA,eSame_eq x y (hk x (List.mem_of_getElem? hx)),zB,zf (show i < 9223372036854775807 by omega),hy]
   by_cases c:x = y
   ·subst c;simp
   ·have:¬ some y = some x:=fun e=>c (Option.some.inj e).symm
    simp [c,this]) (by
   unfold zI;simp)
  rw [show (0:Int) = ((0:Nat):Int) from rfl,this,zA];have e:(a.zipIdx.all fun y=>decide (b[y.2]? = some y.1)) = decide (a = b):=by
   rw [Bool.eq_iff_iff,List.all_eq_true,decide_eq_true_eq]
   constructor
   ·intro h;apply List.ext_getElem?;intro i
    by_cases hi:i < a.length
    ·have:=h (a[i],i) (by rw [List.mem_zipIdx_iff_getElem?];exact List.getElem?_eq_getElem hi);simp only [decide_eq_true_eq] at this;rw [this,List.getElem?_eq_getElem hi]
    ·rw [List.getElem?_eq_none (by omega),List.getElem?_eq_none (by omega)]
   ·rintro rfl y hy;rw [List.mem_zipIdx_iff_getElem?] at hy;simpa using hy
  rw [e]
  cases decide (a = b) <;> simp [zB,exk,zA]
 ·have h1:decide ((a.length:Int) = (b.length:Int)) = false:=by simp;omega
  have h2:decide (a = b) = false:=decide_eq_false fun e=>hlen (by rw [e])
  rw [h1,Bool.not_false,cond_true,zB,zA,h2]
end Go.Ep.M.F


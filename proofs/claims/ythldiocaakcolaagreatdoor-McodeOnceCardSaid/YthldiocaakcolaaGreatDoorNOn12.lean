/- Side texts. -/
import Derived.ProofKit
import Derived.Deep.Slices
import Derived.Test.YthldiocaakcolaaGreatDoorProg
import Derived.KernelRfl
import Derived.Test.YthldiocaakcolaaGreatDoorNOn2
import Derived.Test.YthldiocaakcolaaGreatDoorNOn11
set_option linter.unusedVariables false
set_option linter.unusedSimpArgs false
namespace Go.Ep.M.U
open Go
def C (b:BitVec 32):Int:=(b.toNat:Int)
theorem C_lt (b:BitVec 32):0 <= C b /\ C b < 4294967296:=⟨by unfold C;omega,by have:=b.isLt;unfold C;omega⟩
theorem wU32 {n:Int} (h:0 <= n) (h':n < 4294967296):IntKind.u32.wrap n = n:=by simp [IntKind.wrap,IntKind.bits,IntKind.signed];omega
theorem ofC (b:BitVec 32):BitVec.ofInt 32 (C b) = b:=by unfold C;rw [BitVec.ofInt_natCast];simp
theorem C_of {n:Int} (h:0 <= n) (h':n < 4294967296):C (BitVec.ofInt 32 n) = n:=by
 unfold C;rw [BitVec.toNat_ofInt];omega
theorem xorC (a b:BitVec 32):WU .u32 (C a) (C b) = C (a ^^^ b):=by
 show IntKind.u32.wrap (((BitVec.ofInt 32 (C a) ^^^ BitVec.ofInt 32 (C b)).toNat:Nat):Int) = _;rw [ofC,ofC];exact wU32 (C_lt _).1 (C_lt _).2
theorem andC (a b:BitVec 32):yBa .u32 (C a) (C b) = C (a &&& b):=by
 show IntKind.u32.wrap (((BitVec.ofInt 32 (C a) &&& BitVec.ofInt 32 (C b)).toNat:Nat):Int) = _;rw [ofC,ofC];exact wU32 (C_lt _).1 (C_lt _).2
theorem shrC (a:BitVec 32) (k:Nat):Int.fdiv (C a) ((2 ^ k:Nat):Int) = C (a >>> k):=by
 unfold C;rw [BitVec.toNat_ushiftRight,Nat.shiftRight_eq_div_pow,Int.fdiv_eq_ediv_of_nonneg _ (Int.natCast_nonneg _)]
 rfl
theorem fdiv16 (a:BitVec 32):Int.fdiv (C a) (2 ^ 4) = C (a >>> 4):=shrC a 4
def s1 (c:BitVec 32):BitVec 32:=(c >>> 1) ^^^ (if c.getLsbD 0 then 0xedb88320#32 else 0#32)
def s4 (c:BitVec 32):BitVec 32:=s1 (s1 (s1 (s1 c)))
theorem x4 (a b p q:BitVec 32):(a ^^^ b) ^^^ (p ^^^ q) = (a ^^^ p) ^^^ (b ^^^ q):=by
 rw [BitVec.xor_assoc,BitVec.xor_assoc,<- BitVec.xor_assoc b p q,BitVec.xor_comm b p,BitVec.xor_assoc p b q]
theorem s1_xor (a b:BitVec 32):s1 (a ^^^ b) = s1 a ^^^ s1 b:=by
 unfold s1;rw [BitVec.getLsbD_xor,BitVec.ushiftRight_xor_distrib];have r:∀ x y z:BitVec 32,x ^^^ y ^^^ z = x ^^^ z ^^^ y:=fun x y z=>by rw [BitVec.xor_assoc,BitVec.xor_comm y,<- BitVec.xor_assoc]
 cases a.getLsbD 0 <;> cases b.getLsbD 0
 ·simp
 ·simp [BitVec.xor_assoc]
 ·simp [r]
 ·have:=x4 (a >>> 1) (b >>> 1) 0xedb88320#32 0xedb88320#32;simpa using this
theorem s4_xor (a b:BitVec 32):s4 (a ^^^ b) = s4 a ^^^ s4 b:=by unfold s4;simp only [s1_xor]
theorem Qe {c:BitVec 32} (h:c.getLsbD 0 = false):s1 c = c >>> 1:=by unfold s1;rw [h];simp
theorem split16 (c:BitVec 32):c = (c &&& 0xfffffff0#32) ^^^ (c &&& 15#32):=by
 apply BitVec.eq_of_getLsbD_eq;intro i hi;rw [BitVec.getLsbD_xor,BitVec.getLsbD_and,BitVec.getLsbD_and];have h:∀ j:Fin 32,((0xfffffff0#32:BitVec 32).getLsbD j ^^ (15#32:BitVec 32).getLsbD j) = true:=by decide
 have:=h ⟨i,hi⟩;simp only at this
 cases c.getLsbD i <;> simp_all
theorem s4_hi (c:BitVec 32):s4 (c &&& 0xfffffff0#32) = c >>> 4:=by
 have hb:∀ i,i < 4 -> (c &&& 0xfffffff0#32).getLsbD i = false:=fun i hi=>by
  rw [BitVec.getLsbD_and];have h:∀ j:Fin 4,(0xfffffff0#32:BitVec 32).getLsbD j = false:=by decide
  rw [h ⟨i,hi⟩,Bool.and_false]
 have e:(c &&& 0xfffffff0#32) >>> 4 = c >>> 4:=by
  apply BitVec.eq_of_getLsbD_eq;intro i hi;rw [BitVec.getLsbD_ushiftRight,BitVec.getLsbD_ushiftRight,BitVec.getLsbD_and]
  by_cases h4:4 + i < 32
  ·have h:∀ j:Fin 28,(0xfffffff0#32:BitVec 32).getLsbD (4 + j) = true:=by decide
   rw [show (0xfffffff0#32:BitVec 32).getLsbD (4 + i) = true from h ⟨i,by omega⟩,Bool.and_true]
  ·rw [BitVec.getLsbD_of_ge c _ (by omega),Bool.false_and]
 generalize c &&& 0xfffffff0#32 = d at hb e ⊢
 have h1:s1 d = d >>> 1:=Qe (hb 0 (by omega));have h2:s1 (d >>> 1) = d >>> 2:=by rw [Qe (by rw [BitVec.getLsbD_ushiftRight];exact hb 1 (by omega)),<- BitVec.shiftRight_add]
 have h3:s1 (d >>> 2) = d >>> 3:=by rw [Qe (by rw [BitVec.getLsbD_ushiftRight];exact hb 2 (by omega)),<- BitVec.shiftRight_add]
 have h4:s1 (d >>> 3) = d >>> 4:=by rw [Qe (by rw [BitVec.getLsbD_ushiftRight];exact hb 3 (by omega)),<- BitVec.shiftRight_add]
 unfold s4;rw [h1,h2,h3,h4,e]
theorem s4_eq (c:BitVec 32):s4 c = (c >>> 4) ^^^ s4 (c &&& 15#32):=by
 conv=>lhs;rw [split16 c]
 rw [s4_xor,s4_hi]
def s8 (c x:BitVec 32):BitVec 32:=s4 (s4 (c ^^^ x))
theorem and15 (c:BitVec 32):(c &&& 15#32).toNat < 16:=by
 have h:(c &&& 15#32).toNat <= 15:=by rw [BitVec.toNat_and];exact Nat.and_le_right
 omega
theorem tab_get (c:BitVec 32):tabG.getD (Int.toNat (C (c &&& 15#32))) 0 = C (s4 (c &&& 15#32)):=by
 have h:∀ j:Fin 16,tabG.getD j 0 = C (s4 (BitVec.ofNat 32 j)):=by decide
 have h2:=h ⟨(c &&& 15#32).toNat,and15 c⟩;have e:BitVec.ofNat 32 (c &&& 15#32).toNat = c &&& 15#32:=by simp
 rw [show Int.toNat (C (c &&& 15#32)) = (c &&& 15#32).toNat from by unfold C;omega,h2,e]
theorem byte_eq (c x:BitVec 32) (hx:x.toNat < 256) :
  s4 ((s4 ((c ^^^ x) &&& 15#32) ^^^ (c >>> 4) ^^^ (x >>> 4)) &&& 15#32) ^^^ ((s4 ((c ^^^ x) &&& 15#32) ^^^ (c >>> 4)) >>> 4) = s8 c x:=by
 have h0:(x >>> 4) >>> 4 = 0#32:=by
  rw [<- BitVec.shiftRight_add];apply BitVec.eq_of_toNat_eq;rw [BitVec.toNat_ushiftRight,Nat.shiftRight_eq_div_pow];exact Nat.div_eq_of_lt hx
 have e:s4 (c ^^^ x) = s4 ((c ^^^ x) &&& 15#32) ^^^ (c >>> 4) ^^^ (x >>> 4):=by
  rw [s4_eq (c ^^^ x),BitVec.ushiftRight_xor_distrib,BitVec.xor_comm,BitVec.xor_assoc]
 show _ = s4 (s4 (c ^^^ x));rw [e,s4_eq (_ ^^^ (x >>> 4)),BitVec.ushiftRight_xor_distrib _ (x >>> 4),h0,BitVec.xor_zero,BitVec.xor_comm]
theorem c15 : (15:Int) = C 15#32:=rfl
def x8a (c:BitVec 32) (l:List Int):BitVec 32:=l.foldl (fun c x=>s8 c (BitVec.ofInt 32 x)) c
def okB (l:List Int):Prop:=∀ x ∈ l,0 <= x /\ x < 256
theorem ofB_lt {x:Int} (h:0 <= x /\ x < 256):(BitVec.ofInt 32 x).toNat < 256:=by
 have:=C_of (n:=x) h.1 (by omega);unfold C at this;omega
theorem idxOk (c:BitVec 32):(0:Int) <= C (c &&& 15#32) /\ C (c &&& 15#32) < ((16:Nat):Int):=⟨(C_lt _).1,by have:=and15 c;unfold C;omega⟩
theorem y1a (l:List Int) (hl:l.length <= 1000000000000) (ho:okB l) (c:BitVec 32):XP (C c) l = pure (C (0xffffffff#32 ^^^ x8a (0xffffffff#32 ^^^ c) l)):=by
 unfold XP;have e:(4294967295:Int) = C 0xffffffff#32:=rfl;rw [e,xorC];have key:∀ k i (c:BitVec 32),i + k = l.length -> loop (Uu l) (C c,(i:Int)) = pure (C (x8a c (l.drop i))):=by
  intro k
  induction k with
  | zero=>
   intro i c hi;rw [zV (r:=C c)]
   ·rw [List.drop_of_length_le (by omega)];rfl
   ·show cond (decide ((i:Int) < (l.length:Int))) _ _ = _;rw [decide_eq_false (by omega)];rfl
  | succ k ih=>
   intro i c hi;have hlt:i < l.length:=by omega
   have hx:=ho _ (List.getElem_mem hlt);rw [zT (s':=(C (s8 c (BitVec.ofInt 32 l[i])),((i + 1:Nat):Int)))]
   ·rw [ih (i + 1) _ (by omega),List.drop_eq_getElem_cons hlt];rfl
   ·show cond (decide ((i:Int) < (l.length:Int))) _ _ = _;rw [decide_eq_true (by omega)];show (M.idx l (i:Int)).bind _ = _;rw [zH (List.getElem?_eq_getElem hlt)];have ex:IntKind.u32.wrap l[i] = C (BitVec.ofInt 32 l[i]):=by rw [C_of hx.1 (by omega)];exact wU32 hx.1 (by omega)
    have ex4:IntKind.u32.wrap (Int.fdiv l[i] (2 ^ 4)) = C ((BitVec.ofInt 32 l[i]) >>> 4):=by
     rw [<- fdiv16,C_of hx.1 (by omega)];have:Int.fdiv l[i] (2 ^ 4) = l[i] / 16:=Int.fdiv_eq_ediv_of_nonneg _ (by omega);rw [this];exact wU32 (by omega) (by omega)
    have ei:IntKind.i64.wrap ((i:Int) + 1) = ((i + 1:Nat):Int):=by rw [Yt (by omega) (by omega)];omega
    rw [zA];simp only [ex,ex4,ei,c15,xorC,andC,fdiv16,tab_get];rw [zC (idxOk _),zC (idxOk _),byte_eq c _ (ofB_lt hx)]
 rw [show (0:Int) = ((0:Nat):Int) from rfl,key l.length 0 _ (by omega),zA,xorC]
 rfl
theorem bit_eq (c:BitVec 32):(cond ((decide ((Int.tmod (C c) 2) = 1))) (M.pure ((WU .u32 (IntKind.u32.wrap (Int.tdiv (C c) 2)) 3988292384))) (M.pure (IntKind.u32.wrap (Int.tdiv (C c) 2)))) = (M.pure (C (s1 c)):M Int):=by
 have hc:=C_lt c;have e2:IntKind.u32.wrap (Int.tdiv (C c) 2) = C (c >>> 1):=by
  rw [<- shrC c 1,Int.fdiv_eq_ediv_of_nonneg _ (by omega),Int.tdiv_eq_ediv_of_nonneg hc.1];exact wU32 (by omega) (by omega)
 have e1:decide ((Int.tmod (C c) 2) = 1) = c.getLsbD 0:=by
  rw [Int.tmod_eq_emod_of_nonneg hc.1,BitVec.getLsbD,Nat.testBit_zero];unfold C
  congr 1
  exact propext (by omega)
 rw [e1,e2,show (3988292384:Int) = C 0xedb88320#32 from rfl,xorC];unfold s1
 cases c.getLsbD 0 <;> simp
theorem step_eq (c:BitVec 32) {x:Int} (hx:0 <= x /\ x < 256):UP (C c) x = pure (C (s8 c (BitVec.ofInt 32 x))):=by
 unfold UP;have ex:IntKind.u32.wrap x = C (BitVec.ofInt 32 x):=by rw [C_of hx.1 (by omega)];exact wU32 hx.1 (by omega)
 rw [ex,xorC];have st:∀ (c:BitVec 32) (i:Nat),i < 8 -> Xz (C c,(i:Int)) = pure (.next (C (s1 c),((i + 1:Nat):Int))):=fun c i hi=>by
  show cond (decide ((i:Int) < 8)) _ _ = _;rw [decide_eq_true (by omega)];show (cond _ _ _:M Int).bind _ = _;rw [bit_eq];have ei:IntKind.i64.wrap ((i:Int) + 1) = ((i + 1:Nat):Int):=by rw [Yt (by omega) (by omega)];omega
  rw [<- ei];rfl
 have en:∀ c:BitVec 32,Xz (C c,((8:Nat):Int)) = pure (.done (C c)):=fun c=>rfl
 rw [show (0:Int) = ((0:Nat):Int) from rfl,zT (st _ 0 (by omega)),zT (st _ 1 (by omega)),zT (st _ 2 (by omega)),zT (st _ 3 (by omega)),zT (st _ 4 (by omega)),zT (st _ 5 (by omega)),zT (st _ 6 (by omega)),zT (st _ 7 (by omega)),zV (en _)]
 rfl
theorem rmore_eq (l:List Int) (hl:l.length <= 1000000000000) (ho:okB l) (c:BitVec 32):Wg (C c) l = pure (C (0xffffffff#32 ^^^ x8a (0xffffffff#32 ^^^ c) l)):=by
 unfold Wg;have e:(4294967295:Int) = C 0xffffffff#32:=rfl;rw [e,xorC];have key:∀ k i (c:BitVec 32),i + k = l.length -> loop (jA l) (C c,(i:Int)) = pure (C (x8a c (l.drop i))):=by
  intro k
  induction k with
  | zero=>
   intro i c hi;rw [zV (r:=C c)]
   ·rw [List.drop_of_length_le (by omega)];rfl
   ·show cond (decide ((i:Int) < (l.length:Int))) _ _ = _;rw [decide_eq_false (by omega)];rfl
  | succ k ih=>
   intro i c hi;have hlt:i < l.length:=by omega
   have hx:=ho _ (List.getElem_mem hlt);rw [zT (s':=(C (s8 c (BitVec.ofInt 32 l[i])),((i + 1:Nat):Int)))]
   ·rw [ih (i + 1) _ (by omega),List.drop_eq_getElem_cons hlt];rfl
   ·show cond (decide ((i:Int) < (l.length:Int))) _ _ = _;rw [decide_eq_true (by omega)];show (M.idx l (i:Int)).bind _ = _;rw [zH (List.getElem?_eq_getElem hlt),zA];show (M.det _).bind _ = _;rw [step_eq c hx,zB,zA];have ei:IntKind.i64.wrap ((i:Int) + 1) = ((i + 1:Nat):Int):=by rw [Yt (by omega) (by omega)];omega
    rw [ei]
 rw [show (0:Int) = ((0:Nat):Int) from rfl,key l.length 0 _ (by omega),zA,xorC,BitVec.xor_comm 0xffffffff#32 (x8a _ l),BitVec.xor_comm c]
 rfl
def four (c:BitVec 32):List Int:=[C c % 256,C c / 256 % 256,C c / 65536 % 256,C c / 16777216 % 256]
def YV (l:List Int):BitVec 32:=0xffffffff#32 ^^^ x8a 0xffffffff#32 l
theorem u8mod (n:Int):IntKind.u8.wrap n = n % 256:=by simp [IntKind.wrap,IntKind.bits,IntKind.signed]
def xK (k:Int) (b:List Int):List Int:=k :: b ++ four (YV (k :: b))
theorem Seal_eq (k:Int) (b:List Int) (hk:0 <= k /\ k < 256) (hb:okB b) (hl:b.length <= 1000000000):Wb k b = pure (xK k b):=by
 unfold Wb;have ho:okB (k :: b):=fun x hx=>(List.mem_cons.1 hx).elim (fun h=>h ▸ hk) (hb x)
 rw [zC (by rw [Yt (by omega) (by omega)];omega),zC (by simp),zC (by simp;omega)];have hs:Zt [([] ++ [k]) ++ b] = pure (C (YV (k :: b)) % 256,C (YV (k :: b)) / 256 % 256,C (YV (k :: b)) / 65536 % 256,C (YV (k :: b)) / 16777216 % 256):=by
  unfold Zt Qw;have hm:=y1a (k :: b) (by simp;omega) ho 0#32;have h1:ZT [([] ++ [k]) ++ b] (0,0) = pure (.next (C (YV (k :: b)),1)):=by
   show (M.idx [k :: b] 0).bind _ = _;rw [show (0:Int) = ((0:Nat):Int) from rfl,zH (y:=k :: b) rfl,zA];show (M.det (XP (C 0#32) (k :: b))).bind _ = _;rw [hm,zB,zA]
   rfl
  have h2:ZT [([] ++ [k]) ++ b] (C (YV (k :: b)),1) = pure (.done (C (YV (k :: b)))):=rfl;rw [zT h1,zV h2,zA,zB,zA];have hc:=(C_lt (YV (k :: b))).1
  generalize C (YV (k :: b)) = n at hc
  simp only [u8mod];have hq:∀ m:Nat,Int.fdiv n ((m:Nat):Int) = n / m:=fun m=>Int.fdiv_eq_ediv_of_nonneg _ (by omega)
  have q1:Int.fdiv n (2 ^ 8) = n / 256:=hq 256;have q2:Int.fdiv n (2 ^ 16) = n / 65536:=hq 65536;have q3:Int.fdiv n (2 ^ 24) = n / 16777216:=hq 16777216;rw [q1,q2,q3]
 rw [hs,zB,zA,zC (by simp;omega)]
 rfl
theorem x9a (k:Int) (b:List Int) (hk:0 <= k /\ k < 256) (hb:okB b) (hl:b.length <= 1000000000):Wh k b = pure (xK k b):=by
 unfold Wh;have ho:okB (k :: b):=fun x hx=>(List.mem_cons.1 hx).elim (fun h=>h ▸ hk) (hb x)
 have hm:Wg 0 ([k] ++ b) = pure (C (YV (k :: b))):=rmore_eq (k :: b) (by simp;omega) ho 0#32;rw [zC (by simp;omega),hm,zB,zA];have hc:=C_lt (YV (k :: b));have ef:[C (YV (k :: b)) % 256,C (YV (k :: b)) / 256 % 256,C (YV (k :: b)) / 256 / 256 % 256,C (YV (k :: b)) / 256 / 256 / 256 % 256] = four (YV (k :: b)):=by
  unfold four;rw [Int.ediv_ediv_of_nonneg (by omega),Int.ediv_ediv_of_nonneg (by omega)]
  rfl
 show (loop YE (C (YV (k :: b)),0,[k] ++ b)).bind _ = _;unfold xK;rw [<- ef]
 generalize C (YV (k :: b)) = n at hc
 have st:∀ (c:Int) (i:Nat) (v:List Int),i < 4 -> 0 <= c -> c < 4294967296 -> v.length <= 2000000000 -> YE (c,(i:Int),v) = pure (.next (c / 256,((i + 1:Nat):Int),v ++ [c % 256])):=fun c i v hi h0 h1 hv=>by
  show cond (decide ((i:Int) < 4)) _ _ = _;rw [decide_eq_true (by omega)];show M.yV _ _ = _;rw [zC (by simp;omega),Int.tmod_eq_emod_of_nonneg h0,Int.tdiv_eq_ediv_of_nonneg h0,wU32 (by omega) (by omega),Yt (by omega) (by omega),u8mod,Int.emod_emod_of_dvd _ (by decide)]
  rfl
 have en:∀ c v,YE (c,((4:Nat):Int),v) = pure (.done v):=fun c v=>rfl
 rw [show (0:Int) = ((0:Nat):Int) from rfl,zT (st _ 0 _ (by omega) (by omega) (by omega) (by simp;omega)),zT (st _ 1 _ (by omega) (by omega) (by omega) (by simp;omega)),zT (st _ 2 _ (by omega) (by omega) (by omega) (by simp;omega)),zT (st _ 3 _ (by omega) (by omega) (by omega) (by simp;omega)),zV (en _ _),zA]
 congr 1
 simp

open E (OkE zp wi)
open D (Yh)
open F (OkM InM fewM)
theorem VK {m:TMsg} (hg:xe m = pure true):1 <= m.kind /\ m.kind <= 9:=by
 have no:(pure false:M Bool) ≠ pure true:=fun h=>by
  have h2:(pure false:M Bool).wp (· = true):=by rw [h];rfl
  cases h2
 refine ⟨Decidable.byContradiction fun h=>no ?_,Decidable.byContradiction fun h=>no ?_⟩
 ·rw [<- hg];have h1:decide (m.kind < 1) = true:=decide_eq_true (by omega);unfold xe;rw [h1]
  cases decide (m.kind = 1) <;> rfl
 ·rw [<- hg];have h1:decide (m.kind < 1) = false:=decide_eq_false (by omega);have h2:decide (9 < m.kind) = true:=decide_eq_true (by omega);unfold xe;rw [h1,h2]
  cases decide (m.kind = 1) <;> rfl
def Vq (d:DL):List Int:=Yh d.from_ ++ Yh d.to_ ++ wi d.events
def Xk (m:TMsg):List Int:=
 if m.kind = 1 then [m.slot] ++ N.ya m.try_ else
 if m.kind = 2 then [m.slot] ++ N.ya m.try_ ++ N.ya m.dev ++ N.ya m.epoch ++ Vq m.delta else
 if m.kind = 4 then N.ya m.dev ++ N.ya m.epoch ++ Vq m.delta ++ Yh m.front else
 if m.kind = 5 then N.ya m.dev ++ N.ya m.epoch ++ Yh m.have_ ++ wi m.delta.events else
 if m.kind = 8 then N.ya m.dev ++ N.ya m.epoch else
 if m.kind = 9 then N.ya m.dev ++ N.ya m.epoch ++ [m.why] else N.ya m.dev ++ N.ya m.epoch ++ Yh m.have_
structure FitM (m:TMsg):Prop where
 ok:OkM m
 try_:0 <= m.try_ /\ m.try_ <= 18446744073709551615
 epoch:0 <= m.epoch /\ m.epoch <= 18446744073709551615
 have_:(∀ p ∈ m.have_,p.dev <= 65535) /\ m.have_.length <= 10000 /\ C.yJ m.have_ <= 10000
 front:(∀ p ∈ m.front,p.dev <= 65535) /\ m.front.length <= 10000 /\ C.yJ m.front <= 10000
 from_:(∀ p ∈ m.delta.from_,p.dev <= 65535) /\ m.delta.from_.length <= 10000 /\ C.yJ m.delta.from_ <= 10000
 to_:(∀ p ∈ m.delta.to_,p.dev <= 65535) /\ m.delta.to_.length <= 10000 /\ C.yJ m.delta.to_ <= 10000
 evs:m.delta.events.length <= 10000 /\ ∀ e ∈ m.delta.events,e.text.size <= 200
theorem uoa {d:DL} (hd:F.OkD d) (h1:∀ p ∈ d.from_,p.dev <= 65535) (h2:∀ p ∈ d.to_,p.dev <= 65535) (s1:d.from_.length <= 10000 /\ C.yJ d.from_ <= 10000) (s2:d.to_.length <= 10000 /\ C.yJ d.to_ <= 10000) (hl:d.events.length <= 10000) (ht:∀ e ∈ d.events,e.text.size <= 200):(Vq d).length <= 1000000000:=by
 have e1:=G.xE h1 (by omega) (by omega);have e2:=G.xE h2 (by omega) (by omega);have e3:=E.VG hd.evs (fun e he=>⟨hd.kills e he,ht e he⟩);have e4:=N.zh (v:=(d.events.length:Int)) (by omega);unfold Vq wi;simp only [List.length_append];omega
theorem wva {d:DL} (hd:F.OkD d) (h1:∀ p ∈ d.from_,p.dev <= 65535) (h2:∀ p ∈ d.to_,p.dev <= 65535) (s1:d.from_.length <= 10000 /\ C.yJ d.from_ <= 10000) (s2:d.to_.length <= 10000 /\ C.yJ d.to_ <= 10000) (hl:d.events.length <= 10000) (ht:∀ e ∈ d.events,e.text.size <= 200) (row:List Int) (hr:row.length <= 100000000):yX d row = pure (row ++ Vq d):=by
 have e1:=G.xE h1 (by omega) (by omega);have e2:=G.xE h2 (by omega) (by omega);have e3:=E.VG hd.evs (fun e he=>⟨hd.kills e he,ht e he⟩);have e4:=N.zh (v:=(d.events.length:Int)) (by omega);unfold yX;rw [D.VC hd.from_ h1 (by omega) row (by omega),zB,zA,D.VC hd.to_ h2 (by omega) _ (by rw [List.length_append];omega),zB,zA,E.zva hd.evs (by omega) _ (by simp only [List.length_append];omega),zB,zA];unfold Vq;simp only [List.append_assoc]
theorem kinds {k:Int} (h:1 <= k /\ k <= 9):k = 1 \/ k = 2 \/ k = 3 \/ k = 4 \/ k = 5 \/ k = 6 \/ k = 7 \/ k = 8 \/ k = 9:=by omega
theorem by_evs {l:List EV} (h:∀ e ∈ l,OkE e) (hl:l.length <= 1000000000):N.By (wi l):=by
 refine (N.uB (by omega)).app fun y hy=>?_
 obtain ⟨e,he,hy2⟩:=List.mem_flatMap.1 hy;have ho:=h e he;have b1:N.By (D.encD e.dot):=(N.uB (by have:=ho.dot.d1;omega)).app (N.uB ho.dot.n1);have b2:N.By [e.kind]:=fun x hx=>by rw [List.mem_singleton.1 hx];exact ho.kind
 have b3:N.By [e.field]:=fun x hx=>by rw [List.mem_singleton.1 hx];exact ho.field
 have ht:=ho.text;have hk:=ho.klen;have b4:N.By (E.QX e.text):=(N.uB (by omega)).app (E.by_bytes _);have b5:N.By (D.uM e.kills):=by
  rw [D.uM];refine (N.uB (by have:=D.Ud e.kills;omega)).app fun z hz=>?_
  obtain ⟨d,hd,h⟩:=List.mem_flatMap.1 hz;have hd2:=ho.kills d (D.xka.1 hd).1;exact ((N.uB (by have:=hd2.d1;omega)).app (N.uB hd2.n1)) z h
 exact (b1.app (b2.app ((N.uB ho.cid.2).app (b3.app (b4.app b5))))) y hy2
theorem wAa {c:List PT} (h:∀ p ∈ c,p.dev <= 65535) (hl:c.length <= 10000 /\ C.yJ c <= 10000):N.By (Yh c):=
 D.by_encC c (D.Ue h) ⟨by have:=C.un c;omega,by have:=C.uo c;omega⟩
theorem by_okB {l:List Int} (h:N.By l):okB l:=fun x hx=>by have:=h x hx;omega
theorem upa {m:TMsg} (h:FitM m):N.By (Xk m) /\ (Xk m).length <= 1000000000:=by
 have o:=h.ok;have hs:N.By [m.slot]:=fun x hx=>by rw [List.mem_singleton.1 hx];exact o.slot
 have hw:N.By [m.why]:=fun x hx=>by rw [List.mem_singleton.1 hx];exact o.why
 have h1:=N.uB h.try_.2;have h2:=N.uB h.epoch.2;have h3:N.By (N.ya m.dev):=N.uB (by have:=o.dev;omega);have h4:=wAa h.have_.1 h.have_.2;have h5:=wAa h.front.1 h.front.2;have h6:=by_evs o.delta.evs (by have:=h.evs.1;omega);have h7:N.By (Vq m.delta):=((wAa h.from_.1 h.from_.2).app (wAa h.to_.1 h.to_.2)).app h6;have l1:=N.zh h.try_.2;have l2:=N.zh h.epoch.2;have l3:=N.zh (v:=m.dev) (by have:=o.dev;omega);have l4:=G.xE h.have_.1 (by have:=h.have_.2;omega) (by have:=h.have_.2;omega);have l5:=G.xE h.front.1 (by have:=h.front.2;omega) (by have:=h.front.2;omega);have l6:=E.VG o.delta.evs (fun e he=>⟨o.delta.kills e he,h.evs.2 e he⟩);have l7:=N.zh (v:=(m.delta.events.length:Int)) (by have:=h.evs.1;omega);have l8:=G.xE h.from_.1 (by have:=h.from_.2;omega) (by have:=h.from_.2;omega);have l9:=G.xE h.to_.1 (by have:=h.to_.2;omega) (by have:=h.to_.2;omega);have lq:=h.evs.1;unfold Xk
 constructor
 ·repeat' split
  ·exact hs.app h1
  ·exact (((hs.app h1).app h3).app h2).app h7
  ·exact ((h3.app h2).app h7).app h5
  ·exact ((h3.app h2).app h4).app h6
  ·exact h3.app h2
  ·exact (h3.app h2).app hw
  ·exact (h3.app h2).app h4
 ·repeat' split
  all_goals
   simp only [Vq,wi,List.length_append,List.length_cons,List.length_nil];omega
theorem uqa {m:TMsg} (h:FitM m) (hk:1 <= m.kind /\ m.kind <= 9) (hg:uG m = pure true):yt m = pure (xK m.kind (Xk m),0):=by
 have o:=h.ok;have hd:IntKind.u64.wrap m.dev = m.dev:=WF (by have:=o.dev;omega) (by have:=o.dev;omega);have l1:=N.zh h.try_.2;have l2:=N.zh h.epoch.2;have l3:=N.zh (v:=m.dev) (by have:=o.dev;omega);have l4:=G.xE h.have_.1 (by have:=h.have_.2;omega) (by have:=h.have_.2;omega);have l5:=G.xE h.front.1 (by have:=h.front.2;omega) (by have:=h.front.2;omega);have l6:=E.VG o.delta.evs (fun e he=>⟨o.delta.kills e he,h.evs.2 e he⟩);have lq:=h.evs.1;have hD:=wva o.delta h.from_.1 h.to_.1 h.from_.2 h.to_.2 h.evs.1 h.evs.2;have l7:=uoa o.delta h.from_.1 h.to_.1 h.from_.2 h.to_.2 h.evs.1 h.evs.2;have l8:(wi m.delta.events).length <= 100000000:=by
  have:=N.zh (v:=(m.delta.events.length:Int)) (by omega);unfold wi;rw [List.length_append];omega
 have eT:∀ row:List Int,row.length <= 10000000000000 -> zG m.try_ row = pure (row ++ N.ya m.try_):=fun row hr=>N.vF row h.try_.1 h.try_.2 hr
 have eE:∀ row:List Int,row.length <= 10000000000000 -> zG m.epoch row = pure (row ++ N.ya m.epoch):=fun row hr=>N.vF row h.epoch.1 h.epoch.2 hr
 have eV:∀ row:List Int,row.length <= 10000000000000 -> zG m.dev row = pure (row ++ N.ya m.dev):=fun row hr=>N.vF row o.dev.1 (by have:=o.dev;omega) hr
 have eH:∀ row:List Int,row.length <= 100000000000 -> zx m.have_ row = pure (row ++ Yh m.have_):=fun row hr=>D.VC o.have_ h.have_.1 (by have:=h.have_.2;omega) row hr
 have eF:∀ row:List Int,row.length <= 100000000000 -> zx m.front row = pure (row ++ Yh m.front):=fun row hr=>D.VC o.front h.front.1 (by have:=h.front.2;omega) row hr
 have eA:∀ row:List Int,row.length <= 400000000 -> xB m.delta.events row = pure (row ++ wi m.delta.events):=fun row hr=>E.zva o.delta.evs (by omega) row (by omega)
 have eD:∀ row:List Int,row.length <= 100000000 -> yX m.delta row = pure (row ++ Vq m.delta):=fun row hr=>hD row hr
 have eB:∀ (c:Int) (row:List Int),row.length <= 10000000000000 -> zo c row = pure (row ++ [c]):=fun c row hr=>N.QK c row hr
 have eY:∀ row:List Int,row.length <= 100000000000000 -> yS row = pure (row,row):=fun row hr=>N.Bytes_eq row hr
 have eS:=Seal_eq m.kind (Xk m) ⟨by omega,by omega⟩ (by_okB (upa h).1) (upa h).2;unfold yt;rw [hg,zB,zA];unfold Xk at eS ⊢;rcases kinds hk with e | e | e | e | e | e | e | e | e
 all_goals
  simp (disch:=first | omega | (simp only [List.length_append,List.length_cons,List.length_nil];omega)) only [e,hd,eB,eT,eE,eV,eH,eF,eA,eD,eY,Int.reduceEq,Int.reduceLE,decide_true,decide_false,Bool.not_true,Bool.not_false,cond_true,cond_false,zA,zB,if_true,if_false,zC,List.nil_append,List.append_assoc] at eS ⊢;rw [eS,zB,zA]
def encM9 (b:Bool) (m:TMsg):List Int × Int:=if b = true then (xK m.kind (Xk m),0) else ([],1)
theorem wwa {m:TMsg} (h:FitM m) {b:Bool} (hb:xe m = pure b):yt m = pure (encM9 b m):=by
 have hm:uG m = pure b:=by rw [F.zza h.ok,hb]
 cases b with
 | false=>unfold yt;rw [hm,zB];rfl
 | true=>exact uqa h (VK hb) hm
def y2a : TMsg:=⟨8,0,0,1,2,0,[],[],⟨[],[],[]⟩⟩
theorem fit_bye : FitM y2a where
 ok:=F.okM (m:=y2a) ⟨by decide,by decide,by decide,by decide,by simp [y2a],by simp [y2a],by simp [y2a],by simp [y2a],by simp [y2a]⟩ (by decide)
 try_:=by decide
 epoch:=by decide
 have_:=⟨by simp [y2a],by decide,by decide⟩
 front:=⟨by simp [y2a],by decide,by decide⟩
 from_:=⟨by simp [y2a],by decide,by decide⟩
 to_:=⟨by simp [y2a],by decide,by decide⟩
 evs:=⟨by decide,by simp [y2a]⟩
theorem good_bye : uG y2a = pure true:=by
 unfold uG;simp only [F.zya,F.uja,zB,zA]
 rfl
theorem works28 : ZU = pure true:=by
 unfold ZU;have e:=uqa fit_bye (by decide) good_bye;show (det (yt y2a)).bind _ = _;rw [e,zB,zA];have e1:N.ya 1 = [1,1]:=by
  show (N.Yv 1:Int) :: N.be 1 (N.Yv 1) = _;have:N.Yv 1 = 1:=by rw [N.YQ (by decide),show 1 / 256 = 0 from rfl,N.Zg]
  rw [this];rfl
 have e2:N.ya 2 = [1,2]:=by
  show (N.Yv 2:Int) :: N.be 2 (N.Yv 2) = _;have:N.Yv 2 = 1:=by rw [N.YQ (by decide),show 2 / 256 = 0 from rfl,N.Zg]
  rw [this];rfl
 have eb:Xk y2a = [1,1,1,2]:=by
  show N.ya 1 ++ N.ya 2 = _;rw [e1,e2];rfl
 rw [eb];show (M.yV ((0:Int) <= 0 /\ (0:Int) <= 5 /\ (5:Int) <= ((xK 8 [1,1,1,2]).length:Int)) ((det (uZ ((xK 8 [1,1,1,2]).take 5) [8,1,1,1,2])).bind pure)).bind pure = _;have hq:uZ ((xK 8 [1,1,1,2]).take 5) [8,1,1,1,2] = pure true:=by
  show pure (decide (Xm [8,1,1,1,2] = Xm [8,1,1,1,2])) = _;rw [decide_eq_true rfl]
 rw [zC ⟨by decide,by decide,by show (5:Int) <= ((9:Nat):Int);decide⟩,hq,zB]
 rfl
def it : Nat -> BitVec 32 -> BitVec 32
 | 0,e=>e
 | n + 1,e=>it n (s1 e)
open E (OkE zp wi Zl)
open D (Yh wj fin)
open F (OkM InM fewM OkD)
open N (RS zO yq zw Qi Sim OkB)
open G (wg)
theorem eq_of9 {α:Type} {a b:α} (h:(pure a:M α) = pure b):a = b:=by
 have h2:(pure a:M α).wp (· = b):=by rw [h];rfl
 exact h2
def yU (b:List Int):Int × List Int × Int:=
 match b with
 | []=>(0,[],2)
 | x :: r=>if r.length < 4 then (0,[],2) else if xK x (r.take (r.length - 4)) = x :: r then (x,r.take (r.length - 4),0) else (0,[],5)
theorem z4a {l:List Int} (h:okB l):N.By l:=fun x hx=>by have:=h x hx;omega
theorem wBa (c:BitVec 32):okB (four c):=fun x hx=>by
 have:=(C_lt c).1;simp only [four,List.mem_cons,List.not_mem_nil,or_false] at hx;rcases hx with rfl | rfl | rfl | rfl <;> omega
theorem Qf {x:Int} {r:List Int} (hx:0 <= x /\ x < 256) (hr:okB r):okB (xK x r):=fun y hy=>by
 unfold xK at hy;rcases List.mem_append.1 hy with h | h
 ·exact (List.mem_cons.1 h).elim (fun e=>e ▸ hx) (hr y)
 ·exact wBa _ y h
theorem crc_sum (p q:List Int) (hp:okB p) (hq:okB q) (h1:p.length <= 10000000) (h2:q.length <= 10000000):Qw [p,q] = pure (C (YV (p ++ q))):=by
 unfold Qw;have m1:=y1a p (by omega) hp 0#32;have m2:=y1a q (by omega) hq (0xffffffff#32 ^^^ x8a (0xffffffff#32 ^^^ 0#32) p);have s1:ZT [p,q] (0,0) = pure (.next (C (0xffffffff#32 ^^^ x8a (0xffffffff#32 ^^^ 0#32) p),1)):=by
  show (M.idx [p,q] 0).bind _ = _;rw [show (0:Int) = ((0:Nat):Int) from rfl,zH (y:=p) rfl,zA];show (M.det (XP (C 0#32) p)).bind _ = _;rw [m1,zB,zA];rfl
 have e2:(0xffffffff#32 ^^^ x8a (0xffffffff#32 ^^^ (0xffffffff#32 ^^^ x8a (0xffffffff#32 ^^^ 0#32) p)) q) = YV (p ++ q):=by
  unfold YV;rw [<- BitVec.xor_assoc 0xffffffff#32 0xffffffff#32,BitVec.xor_self,BitVec.zero_xor,BitVec.xor_zero];unfold x8a;rw [List.foldl_append]
 have s2:ZT [p,q] (C (0xffffffff#32 ^^^ x8a (0xffffffff#32 ^^^ 0#32) p),1) = pure (.next (C (YV (p ++ q)),2)):=by
  show (M.idx [p,q] 1).bind _ = _;rw [show (1:Int) = ((1:Nat):Int) from rfl,zH (y:=q) rfl,zA,m2,zB,zA,e2];rfl
 have s3:ZT [p,q] (C (YV (p ++ q)),2) = pure (.done (C (YV (p ++ q)))):=rfl;rw [zT s1,zT s2,zV s3];rfl
theorem sum_eq (p q:List Int) (hp:okB p) (hq:okB q) (h1:p.length <= 10000000) (h2:q.length <= 10000000) :
  Zt [p,q] = pure (C (YV (p ++ q)) % 256,C (YV (p ++ q)) / 256 % 256,C (YV (p ++ q)) / 65536 % 256,C (YV (p ++ q)) / 16777216 % 256):=by
 unfold Zt;rw [crc_sum p q hp hq h1 h2,zB,zA]
 generalize YV (p ++ q) = c
 have hc:=(C_lt c).1
 generalize C c = n at hc
 simp only [u8mod];have hq:∀ m:Nat,Int.fdiv n ((m:Nat):Int) = n / m:=fun m=>Int.fdiv_eq_ediv_of_nonneg _ (by omega)
 have q1:Int.fdiv n (2 ^ 8) = n / 256:=hq 256;have q2:Int.fdiv n (2 ^ 16) = n / 65536:=hq 65536;have q3:Int.fdiv n (2 ^ 24) = n / 16777216:=hq 16777216;rw [q1,q2,q3]
theorem seal_iff {x:Int} {r:List Int} (h4:4 <= r.length):xK x (r.take (r.length - 4)) = x :: r ↔ four (YV (x :: r.take (r.length - 4))) = r.drop (r.length - 4):=by
 unfold xK
 constructor
 ·intro h;have h2:r.take (r.length - 4) ++ four (YV (x :: r.take (r.length - 4))) = r:=List.cons.inj h |>.2;have h3:=congrArg (List.drop (r.length - 4)) h2;rw [List.drop_left' (by rw [List.length_take];omega)] at h3;exact h3
 ·intro h;rw [h];show x :: (r.take (r.length - 4) ++ r.drop (r.length - 4)) = _;rw [List.take_append_drop]
theorem Open_eq {b:List Int} (hb:okB b) (hl:b.length <= 1000000):Wc b = pure (yU b):=by
 unfold Wc;have hw:IntKind.i64.wrap ((b.length:Int) - 4) = (b.length:Int) - 4:=Yt (by omega) (by omega)
 cases b with
 | nil=>rfl
 | cons x r=>
  rw [hw];have hx:=hb x (by simp);have hr:okB r:=fun y hy=>hb y (by simp [hy])
  by_cases h4:r.length < 4
  ·rw [decide_eq_true (by rw [List.length_cons];omega),cond_true];show _ = pure (if r.length < 4 then _ else _);rw [if_pos h4]
  ·have ht:Int.toNat (((x :: r).length:Int) - 4) = r.length - 3:=by rw [List.length_cons];omega
   have e1:List.drop (Int.toNat 0) (List.take (Int.toNat 1) (x :: r)) = [x]:=by simp
   have e2:List.drop (Int.toNat 1) (List.take (Int.toNat (((x :: r).length:Int) - 4)) (x :: r)) = r.take (r.length - 4):=by
    rw [ht,show r.length - 3 = (r.length - 4) + 1 by omega];rfl
   have e3:List.drop (Int.toNat (((x :: r).length:Int) - 4)) (List.take (Int.toNat ((x :: r).length:Int)) (x :: r)) = r.drop (r.length - 4):=by
    rw [ht,show Int.toNat ((x :: r).length:Int) = (x :: r).length by omega,List.take_length,show r.length - 3 = (r.length - 4) + 1 by omega];rfl
   rw [decide_eq_false (by rw [List.length_cons];omega),cond_false,zC (by rw [List.length_cons];omega),zC (by rw [List.length_cons];omega),e1,e2,e3,
    sum_eq [x] (r.take (r.length - 4)) (fun y hy=>by rw [List.mem_singleton.1 hy];exact hx) (fun y hy=>hr y (List.mem_of_mem_take hy)) (by simp) (by rw [List.length_take];rw [List.length_cons] at hl;omega),zB,zA,zC (by rw [List.length_cons];omega)]
   have e4:(decide (Xm (four (YV ([x] ++ r.take (r.length - 4)))) = Xm (r.drop (r.length - 4)))) = decide (xK x (r.take (r.length - 4)) = x :: r):=by
    congr 1
    rw [seal_iff (by omega)];exact propext ⟨fun h=>D.strL_inj (z4a (wBa _)) (z4a fun y hy=>hr y (List.mem_of_mem_drop hy)) h,fun h=>congrArg Xm h⟩
   show cond (!decide (Xm (four (YV ([x] ++ r.take (r.length - 4)))) = Xm (r.drop (r.length - 4)))) _ _ = pure (if r.length < 4 then _ else if _ then _ else _);rw [e4,if_neg h4]
   by_cases hs:xK x (r.take (r.length - 4)) = x :: r
   ·rw [decide_eq_true hs,if_pos hs,Bool.not_true,cond_false,show (0:Int) = ((0:Nat):Int) from rfl,zH (y:=x) rfl,zA,zC (by rw [List.length_cons];omega),zC (by rw [List.length_take];rw [List.length_cons] at hl;omega)]
   ·rw [decide_eq_false hs,if_neg hs];rfl
theorem z5a {k:Int} {b:List Int}:yU (xK k b) = (k,b,0):=by
 have e:xK k b = k :: (b ++ four (YV (k :: b))):=rfl;rw [e];have hl:(b ++ four (YV (k :: b))).length = b.length + 4:=by rw [List.length_append];rfl
 have ht:(b ++ four (YV (k :: b))).take ((b ++ four (YV (k :: b))).length - 4) = b:=by
  rw [hl,Nat.add_sub_cancel,List.take_left'];rfl
 show (if _ then _ else if _ then _ else _) = _;rw [if_neg (by rw [hl];omega),ht,if_pos e]
theorem ura {b:List Int} (hb:okB b) (h:(yU b).2.2 = 0):b = xK (yU b).1 (yU b).2.1 /\ okB (yU b).2.1 /\ (yU b).2.1.length <= b.length /\ 0 <= (yU b).1 /\ (yU b).1 < 256:=by
 cases b with
 | nil=>cases h
 | cons x r=>
  unfold yU at h ⊢
  by_cases h4:r.length < 4
  ·simp only [if_pos h4] at h;cases h
  ·simp only [if_neg h4] at h ⊢
   by_cases hs:xK x (r.take (r.length - 4)) = x :: r
   ·simp only [if_pos hs] at h ⊢;exact ⟨hs.symm,fun y hy=>hb y (by simp [List.mem_of_mem_take hy]),by rw [List.length_take,List.length_cons];omega,(hb x (by simp)).1,(hb x (by simp)).2⟩
   ·simp only [if_neg hs] at h;cases h
theorem Yy (e:Int) (s:RS):(N.vU e s).1.length <= s.1.length:=by unfold N.vU;split <;> simp
theorem VE (s:RS):(zO s).2.1.length <= s.1.length:=by
 unfold zO
 split
 ·simp
 ·split
  ·exact Yy _ _
  ·simp
theorem uJa (m:Int) (s:RS):(zw m s).2.1.length <= s.1.length:=by
 unfold zw
 split
 ·exact Nat.le_trans (Yy _ _) (VE s)
 ·exact VE s
theorem uXa (s:RS):(yq s).2.1.length <= s.1.length:=by
 unfold yq
 split
 ·simp
 ·split
  ·exact Yy _ _
  ·rename_i x r h;rw [h];simp
def noD : DL:=⟨[],[],[]⟩
def jm (s:RS):RS:=(zO (zw 65535 s).2).2
def ju (s:RS):Int × Int:=((zw 65535 s).1,(zO (zw 65535 s).2).1)
def VL (s:RS):RS:=(zO (yq s).2).2
def VM (s:RS):Int × Int:=((yq s).1,(zO (yq s).2).1)
def yT (k:Int) (s:RS):TMsg × RS:=
 if k = 1 then (⟨k,(VM s).1,(VM s).2,0,0,0,[],[],noD⟩,VL s) else
 if k = 2 then (⟨k,(VM s).1,(VM s).2,(ju (VL s)).1,(ju (VL s)).2,0,[],[],(wg (jm (VL s))).1⟩,(wg (jm (VL s))).2) else
 if k = 4 then (⟨k,0,0,(ju s).1,(ju s).2,0,[],(wj (wg (jm s)).2).1,(wg (jm s)).1⟩,(wj (wg (jm s)).2).2) else
 if k = 5 then (⟨k,0,0,(ju s).1,(ju s).2,0,(wj (jm s)).1,[],⟨[],[],(Zl 4 (wj (jm s)).2).1⟩⟩,(Zl 4 (wj (jm s)).2).2) else
 if k = 8 then (⟨k,0,0,(ju s).1,(ju s).2,0,[],[],noD⟩,jm s) else
 if k = 9 then (⟨k,0,0,(ju s).1,(ju s).2,(yq (jm s)).1,[],[],noD⟩,(yq (jm s)).2) else
 (⟨k,0,0,(ju s).1,(ju s).2,0,(wj (jm s)).1,[],noD⟩,(wj (jm s)).2)
theorem Vz {s:RS} (h:N.Ok s):N.Ok (jm s) /\ (jm s).1.length <= s.1.length /\ 0 <= (ju s).1 /\ (ju s).1 <= 65535:=by
 obtain ⟨h1,h2,h3⟩:=N.ZL h (m:=65535) (by omega);obtain ⟨h4,_⟩:=N.ym h1;exact ⟨h4,Nat.le_trans (VE _) (uJa _ _),h2,h3⟩
theorem Qg {s:RS} (h:N.Ok s):N.Ok (VL s) /\ (VL s).1.length <= s.1.length /\ 0 <= (VM s).1 /\ (VM s).1 <= 255:=by
 obtain ⟨h1,h2,h3⟩:=N.WG h;obtain ⟨h4,_⟩:=N.ym h1;exact ⟨h4,Nat.le_trans (VE _) (uXa _),h2,h3⟩
theorem VN {s:RS} (hO:N.Ok s):N.Ok (wg s).2:=by
 obtain ⟨o1,_⟩:=D.zj hO;obtain ⟨o2,_⟩:=D.zj o1;show N.Ok (fin _ _ _).2;rw [D.VD];exact D.Vj (E.uca o2 4096) _
theorem z6a {s:RS} (hO:N.Ok s):(wj s).2.1.length <= s.1.length:=(G.Zk hO).2
theorem all_le {s:RS} (hO:N.Ok s) (m:Int):(Zl m s).2.1.length <= s.1.length:=by
 obtain ⟨_,_,_,h4,h5⟩:=E.Zj hO m
 by_cases c:(Zl m s).2.2 = 0
 ·have h7:=congrArg List.length (h4 c).1;rw [List.length_append] at h7;omega
 ·rw [(E.uca hO m).nil c];simp
theorem wCa {s:RS} (hO:N.Ok s):(wg s).2.1.length <= s.1.length:=by
 obtain ⟨o1,_⟩:=D.zj hO;obtain ⟨o2,_⟩:=D.zj o1;have h1:=z6a hO;have h2:=z6a o1;have h3:=all_le o2 4096;show (fin _ _ _).2.1.length <= _;rw [D.VD];refine Nat.le_trans ?_ (Nat.le_trans h3 (Nat.le_trans h2 h1));show (D.UB _ _).1.length <= _;unfold D.UB
 split
 ·exact Yy _ _
 ·exact Nat.le_refl _
theorem Jc : OkD noD:=⟨C.ok_nil,C.ok_nil,(fun e he=>by cases he),by simp [noD],(fun e he=>by cases he)⟩
theorem usa {s:RS} (hO:N.Ok s) (hl:s.1.length <= 500000):C.Ok (wj s).1 /\ C.yJ (wj s).1 <= 1000000:=by
 obtain ⟨_,a2,a3,_,_⟩:=D.zj hO;have:=G.Zk hO;exact ⟨D.xta a2 a3,by omega⟩
theorem Vr {k:Int} (hk:1 <= k /\ k <= 9) {s:RS} (hO:N.Ok s) (hl:s.1.length <= 500000):OkM (yT k s).1 /\ (yT k s).1.kind = k /\ N.Ok (yT k s).2:=by
 obtain ⟨o1,l1,v1,w1⟩:=Vz hO;obtain ⟨o2,l2,v2,w2⟩:=Qg hO;obtain ⟨o3,l3,v3,w3⟩:=Vz o2;have z0:C.yJ ([]:List PT) <= 1000000:=by simp [C.yJ]
 have z8:(0:Int) <= 0 /\ (0:Int) <= 255:=by decide
 have z16:(0:Int) <= 0 /\ (0:Int) <= 65535:=by decide
 have c1:=usa o1 (by omega);unfold yT;rcases kinds hk with e | e | e | e | e | e | e | e | e
 all_goals simp only [e,Int.reduceEq,if_true,if_false]
 ·exact ⟨⟨(by decide:(0:Int) <= 1 /\ (1:Int) <= 255),⟨v2,w2⟩,z16,z8,C.ok_nil,C.ok_nil,Jc,z0⟩,trivial,o2⟩
 ·exact ⟨⟨(by decide:(0:Int) <= 2 /\ (2:Int) <= 255),⟨v2,w2⟩,⟨v3,w3⟩,z8,C.ok_nil,C.ok_nil,G.z3a o3 (by omega),z0⟩,trivial,VN o3⟩
 ·exact ⟨⟨(by decide:(0:Int) <= 3 /\ (3:Int) <= 255),z8,⟨v1,w1⟩,z8,c1.1,C.ok_nil,Jc,c1.2⟩,trivial,(D.zj o1).1⟩
 ·have o4:=VN o1;have l4:=wCa o1;exact ⟨⟨(by decide:(0:Int) <= 4 /\ (4:Int) <= 255),z8,⟨v1,w1⟩,z8,C.ok_nil,(usa o4 (by omega)).1,G.z3a o1 (by omega),z0⟩,trivial,(D.zj o4).1⟩
 ·have o4:=(D.zj o1).1;obtain ⟨_,p2,_,_,_⟩:=E.Zj o4 4;have z1:=G.Zk o1;have z2:=G.jk o4 4;exact ⟨⟨(by decide:(0:Int) <= 5 /\ (5:Int) <= 255),z8,⟨v1,w1⟩,z8,c1.1,C.ok_nil,⟨C.ok_nil,C.ok_nil,fun e he=>(p2 e he).1,by show (Zl 4 _).1.length <= _;omega,fun e he=>by have:=G.x5a (p2 e he).2;omega⟩,c1.2⟩,trivial,E.uca o4 4⟩
 ·exact ⟨⟨(by decide:(0:Int) <= 6 /\ (6:Int) <= 255),z8,⟨v1,w1⟩,z8,c1.1,C.ok_nil,Jc,c1.2⟩,trivial,(D.zj o1).1⟩
 ·exact ⟨⟨(by decide:(0:Int) <= 7 /\ (7:Int) <= 255),z8,⟨v1,w1⟩,z8,c1.1,C.ok_nil,Jc,c1.2⟩,trivial,(D.zj o1).1⟩
 ·exact ⟨⟨(by decide:(0:Int) <= 8 /\ (8:Int) <= 255),z8,⟨v1,w1⟩,z8,C.ok_nil,C.ok_nil,Jc,z0⟩,trivial,o1⟩
 ·obtain ⟨h1,h2,h3⟩:=N.WG o1;exact ⟨⟨(by decide:(0:Int) <= 9 /\ (9:Int) <= 255),z8,⟨v1,w1⟩,⟨h2,h3⟩,C.ok_nil,C.ok_nil,Jc,z0⟩,trivial,h1⟩
theorem slot_eq {t:RS} (h:N.Ok t):((det (zd t.1 t.2)).bind fun y11=>(det (zJ y11.2.1 y11.2.2)).bind fun y13=>pure (y11.1,y13.1,y13.2.1,y13.2.2)) = pure ((VM t).1,(VM t).2,(VL t).1,(VL t).2):=by
 obtain ⟨h1,_⟩:=N.WG h;rw [N.UZ h,zB,zA,N.Ya h1,zB,zA]
 rfl
theorem dev_eq {t:RS} (h:N.Ok t):((det (yA 65535 t.1 t.2)).bind fun y20=>(det (zJ y20.2.1 y20.2.2)).bind fun y22=>pure (IntKind.u16.wrap y20.1,y22.1,y22.2.1,y22.2.2)) = pure ((ju t).1,(ju t).2,(jm t).1,(jm t).2):=by
 obtain ⟨h1,h2,h3⟩:=N.ZL h (m:=65535) (by omega);rw [N.yla h,zB,zA,N.Ya h1,zB,zA,wU16 h2 h3]
 rfl
theorem uta {k:Int} (hk:1 <= k /\ k <= 9) {s:RS} (hO:N.Ok s) (hl:s.1.length <= 500000):xu k s.1 s.2 = pure (yT k s):=by
 obtain ⟨o1,l1,_⟩:=Vz hO;obtain ⟨o2,l2,_⟩:=Qg hO;obtain ⟨o3,l3,_⟩:=Vz o2;have o4:=VN o1;have o5:=(D.zj o1).1;unfold xu yT;rcases kinds hk with e | e | e | e | e | e | e | e | e
 all_goals
  simp only [e,Int.reduceEq,decide_true,decide_false,Bool.not_true,Bool.not_false,cond_true,cond_false,zA,if_true,if_false,slot_eq hO,dev_eq hO,dev_eq o2,N.UZ o1,D.xua o1,D.xua o4,G.x6a o1 (show (jm s).1.length <= 500000 by omega),G.x6a o3 (show (jm (VL s)).1.length <= 500000 by omega),E.zwa o5 (most:=4) (by omega),zB] <;> rfl
def zeroM : TMsg:=⟨0,0,0,0,0,0,[],[],noD⟩
noncomputable def uua (m:TMsg):Bool:=@decide (xe m = pure true) (Classical.propDecidable _)
theorem wDa {m:TMsg} (h:OkM m):xe m = pure (uua m):=by
 obtain ⟨b,hb⟩:=F.uka h;rw [hb]
 congr 1
 unfold uua
 cases b with
 | true=>exact (@decide_eq_true _ (Classical.propDecidable _) hb).symm
 | false=>exact (@decide_eq_false _ (Classical.propDecidable _) fun h2=>by rw [hb] at h2;cases eq_of9 h2).symm
noncomputable def finM (m:TMsg) (t:RS):TMsg × Int:=if (Qi t).1 ≠ 0 then (zeroM,(Qi t).1) else if uua m = true then (m,0) else (zeroM,4)
noncomputable def Qh (b:List Int):TMsg × Int:=
 if (yU b).2.2 ≠ 0 then (zeroM,(yU b).2.2) else if (yU b).1 < 1 \/ 9 < (yU b).1 then (zeroM,4) else finM (yT (yU b).1 ((yU b).2.1,0)).1 (yT (yU b).1 ((yU b).2.1,0)).2
theorem z7a {b:List Int} (hb:okB b) (hl:b.length <= 500005):vk b = pure (Qh b):=by
 unfold vk Qh;rw [Open_eq hb (by omega),zB,zA]
 by_cases h0:(yU b).2.2 = 0
 ·obtain ⟨q1,q2,q3,q4,q5⟩:=ura hb h0;have hlen:(yU b).2.1.length + 5 = b.length:=by
   have:=congrArg List.length q1;unfold xK at this;rw [List.length_append,List.length_cons] at this;have h4:(four (YV ((yU b).1 :: (yU b).2.1))).length = 4:=rfl;omega
  rw [decide_eq_true h0,Bool.not_true,cond_false,if_neg (by simpa using h0)];have hB:OkB (yU b).2.1:=⟨z4a q2,by omega⟩
  have hO:=hB.ok
  by_cases hk:(yU b).1 < 1 \/ 9 < (yU b).1
  ·rw [if_pos hk];have:(cond (decide ((yU b).1 = 0)) (pure true) (pure (decide (9 < (yU b).1))):M Bool) = pure true:=by
    rcases hk with h | h
    ·rw [decide_eq_true (by omega)];rfl
    ·rw [decide_eq_false (by omega),decide_eq_true h];rfl
   rw [this,zA];rfl
  ·rw [if_neg hk];have hk1:1 <= (yU b).1 /\ (yU b).1 <= 9:=by omega
   rw [decide_eq_false (by omega),cond_false,zA,decide_eq_false (by omega),cond_false,N.New_eq _ (by omega),zB,zA];have hf:=uta hk1 hO (by show (yU b).2.1.length <= 500000;omega);obtain ⟨m1,m2,m3⟩:=Vr hk1 hO (by show (yU b).2.1.length <= 500000;omega);show (det (xu (yU b).1 ((yU b).2.1,0).1 ((yU b).2.1,0).2)).bind _ = _;rw [hf,zB,zA]
   generalize yT (yU b).1 ((yU b).2.1,0) = q at m1 m3
   rw [N.End_eq,zB,zA];unfold finM
   by_cases h:(Qi q.2).1 = 0
   ·rw [if_neg (by simpa using h),decide_eq_true h,Bool.not_true,cond_false,F.zza m1,wDa m1,zB,zA]
    cases uua q.1 <;> rfl
   ·rw [if_pos (by simpa using h),decide_eq_false h];rfl
 ·rw [decide_eq_false h0,if_pos (by simpa using h0)];rfl
open E (OkE zp wi Zl)
open D (Yh wj fin)
open F (OkM InM fewM OkD)
open N (RS zO yq zw Qi Sim OkB)
open G (wg)
def evsOK (l:List EV):Prop:=E.uN l /\ (∀ e ∈ l,zp e = true) /\ l.length <= 4
theorem evs_of {l:List EV} {dev:Int} (h:(l.zipIdx.all fun y=>!F.Qk l dev y.2 y.1) = true) (h4:l.length <= 4):evsOK l:=by
 have key:∀ (i:Nat) (x:EV),l[i]? = some x -> zp x = true /\ F.xy l i x = false:=fun i x hx=>by
  have hm:(x,i) ∈ l.zipIdx:=List.mem_zipIdx_iff_getElem?.2 hx;have:=List.all_eq_true.1 h _ hm;simp only [F.Qk,Bool.not_eq_true',Bool.or_eq_false_iff,Bool.not_eq_false'] at this;exact ⟨this.1,this.2.2⟩
 refine ⟨G.x7a fun i x hx=>(key i x hx).2,fun e he=>?_,h4⟩;obtain ⟨i,hi⟩:=List.getElem?_of_mem he;exact (key i e hi).1
def wEa (m:TMsg):Prop:=
 if m.kind = 1 then m.dev = 0 /\ m.epoch = 0 /\ m.why = 0 /\ m.have_ = [] /\ m.front = [] /\ m.delta = noD else
 if m.kind = 2 then m.why = 0 /\ m.have_ = [] /\ m.front = [] /\ F.yu m.delta = true else
 if m.kind = 4 then m.slot = 0 /\ m.try_ = 0 /\ m.why = 0 /\ m.have_ = [] /\ m.front = C.zk m.front /\ F.yu m.delta = true else
 if m.kind = 5 then m.slot = 0 /\ m.try_ = 0 /\ m.why = 0 /\ m.have_ = C.zk m.have_ /\ m.front = [] /\ m.delta.from_ = [] /\ m.delta.to_ = [] /\ evsOK m.delta.events else
 if m.kind = 8 then m.slot = 0 /\ m.try_ = 0 /\ m.why = 0 /\ m.have_ = [] /\ m.front = [] /\ m.delta = noD else
 if m.kind = 9 then m.slot = 0 /\ m.try_ = 0 /\ m.have_ = [] /\ m.front = [] /\ m.delta = noD else
 m.slot = 0 /\ m.try_ = 0 /\ m.why = 0 /\ m.have_ = C.zk m.have_ /\ m.front = [] /\ m.delta = noD
theorem vX {α:Type} {l:List α} (h:(l.length:Int) = 0):l = []:=List.eq_nil_of_length_eq_zero (by omega)
theorem Jd {d:DL} (h:d.from_ = [] /\ d.to_ = [] /\ d.events = []):d = noD:=by
 obtain ⟨a,b,c⟩:=d;obtain ⟨rfl,rfl,rfl⟩:=h
 rfl
theorem shape_of {m:TMsg} (h:OkM m) (hg:xe m = pure true):wEa m:=by
 have hk:=VK hg;obtain ⟨h1,h2,h3,h4,h5,h6,h7,h8⟩:=h;have hev:∀ e ∈ m.delta.events,OkE e:=h7.evs;have ct:∀ {p:Prop} [Decidable p],(¬p -> true = false) -> p:=fun h=>Decidable.byContradiction fun hp=>by cases h hp
 unfold xe at hg;unfold wEa;rcases kinds hk with e | e | e | e | e | e | e | e | e
 all_goals
  simp only [e,Int.reduceEq,Int.reduceLT,Int.reduceLE,decide_true,decide_false,Bool.not_true,Bool.not_false,cond_true,cond_false,F.Vo,F.ZN h7,F.Qc hev h7.len,F.WI h7.len h5,F.Qd,C.vE _ h5,C.vE _ h6,C.QH _ _ h3.1 h5,C.UY _ _ h5 (F.Qb h5 h8 h3.1),C.Xb _ _ h6 h7.to_,zB,zA,yx,yy,if_true,if_false] at hg ⊢;replace hg:=eq_of9 hg;simp only [Bool.cond_eq_true_distrib,Bool.cond_true_left,Bool.cond_false_left,Bool.cond_true_right,Bool.cond_false_right,Bool.and_eq_true,Bool.or_eq_true,Bool.not_eq_true',Bool.not_not,Bool.or_eq_false_iff,Bool.and_eq_false_imp,decide_eq_true_eq,decide_eq_false_iff_not,Decidable.not_not,Bool.not_eq_false',Bool.not_eq_true] at hg
 ·exact ⟨hg.2.1.1,ct hg.2.1.2,hg.2.2.1,vX hg.2.2.2.1.1,vX hg.2.2.2.2.1.1,Jd hg.2.2.2.2.2⟩
 ·exact ⟨hg.2.2.1,vX hg.2.2.2.1.1,vX hg.2.2.2.2.1.1,hg.2.2.2.2.2.1⟩
 ·exact ⟨hg.1.1,hg.1.2,hg.2.2.1,ct hg.2.2.2.1,vX hg.2.2.2.2.1.1,Jd hg.2.2.2.2.2⟩
 ·exact ⟨hg.1.1,hg.1.2,hg.2.2.1,vX hg.2.2.2.1.1,hg.2.2.2.2.1.1,hg.2.2.2.2.2⟩
 ·refine ⟨hg.1.1,hg.1.2,hg.2.2.1,hg.2.2.2.1.1,vX hg.2.2.2.2.1.1,hg.2.2.2.2.2.1.2.1,hg.2.2.2.2.2.1.2.2.1,evs_of hg.2.2.2.2.2.1.1 ?_⟩;have h4:=hg.2.2.2.2.2.1.2.2.2;simp only [F.VJ,Bool.and_eq_true,decide_eq_true_eq] at h4;omega
 ·exact ⟨hg.1.1,hg.1.2,hg.2.2.1,hg.2.2.2.1.1,vX hg.2.2.2.2.1.1,Jd hg.2.2.2.2.2⟩
 ·exact ⟨hg.1.1,hg.1.2,hg.2.2.1,ct hg.2.2.2.1,vX hg.2.2.2.2.1.1,Jd hg.2.2.2.2.2⟩
 ·exact ⟨hg.1.1,hg.1.2,hg.2.2.1,vX hg.2.2.2.1.1,vX hg.2.2.2.2.1.1,Jd hg.2.2.2.2.2⟩
 ·exact ⟨hg.1.1,hg.1.2,vX hg.2.2.2.1.1,vX hg.2.2.2.2.1.1,Jd hg.2.2.2.2.2⟩
theorem YT (x:Int) (r:List Int):yq (x :: r,0) = (x,(r,0)):=by unfold yq;simp
theorem slot_enc {x v:Int} (h0:0 <= v) (h:v <= 18446744073709551615) (r:List Int):VL (x :: (N.ya v ++ r),0) = (r,0) /\ VM (x :: (N.ya v ++ r),0) = (x,v):=by
 unfold VL VM;rw [YT];dsimp only;rw [D.vy h0 h];exact ⟨rfl,rfl⟩
theorem dev_enc {d v:Int} (h0:0 <= d) (h1:d <= 65535) (h2:0 <= v) (h3:v <= 18446744073709551615) (r:List Int):jm (N.ya d ++ (N.ya v ++ r),0) = (r,0) /\ ju (N.ya d ++ (N.ya v ++ r),0) = (d,v):=by
 unfold jm ju;rw [D.QT h0 h1 (by omega)];dsimp only;rw [D.vy h2 h3];exact ⟨rfl,rfl⟩
theorem wxa {m:TMsg} (h:FitM m) (hk:1 <= m.kind /\ m.kind <= 9) (hs:wEa m) (r:List Int):yT m.kind (Xk m ++ r,0) = (m,(r,0)):=by
 have o:=h.ok;have sl:=fun q:List Int=>slot_enc (x:=m.slot) h.try_.1 h.try_.2 q
 have dv:=fun q:List Int=>dev_enc o.dev.1 o.dev.2 h.epoch.1 h.epoch.2 q
 have cH:=fun q:List Int=>D.QU h.have_.1 (by have:=h.have_.2;omega) q
 have cF:=fun q:List Int=>D.QU h.front.1 (by have:=h.front.2;omega) q
 have dD:=fun (hg:F.yu m.delta = true) (q:List Int)=>G.wua o.delta h.from_.1 h.to_.1 h.from_.2 h.to_.2 hg q
 obtain ⟨kind,slot,try_,dev,epoch,why,have_,front,delta⟩:=m;unfold yT Xk;unfold wEa at hs;dsimp only at *
 rcases kinds hk with e | e | e | e | e | e | e | e | e
 all_goals
  subst e;simp only [Int.reduceEq,if_true,if_false,List.append_assoc,List.singleton_append,List.cons_append,List.nil_append] at hs ⊢
 ·obtain ⟨rfl,rfl,rfl,rfl,rfl,rfl⟩:=hs;rw [(sl r).1,(sl r).2]
 ·obtain ⟨rfl,rfl,rfl,hg⟩:=hs;have e1:=dD hg r;simp only [Vq,List.append_assoc] at e1 ⊢;rw [(sl _).1,(sl _).2,(dv _).1,(dv _).2,e1]
 ·obtain ⟨rfl,rfl,rfl,hc,rfl,rfl⟩:=hs;rw [(dv _).1,(dv _).2,cH,<- hc]
 ·obtain ⟨rfl,rfl,rfl,rfl,hc,hg⟩:=hs;have e1:=dD hg (Yh front ++ r);simp only [Vq,List.append_assoc] at e1 ⊢;rw [(dv _).1,(dv _).2,e1];dsimp only;rw [cF,<- hc]
 ·obtain ⟨rfl,rfl,rfl,hc,rfl,h1,h2,h3,h4,h5⟩:=hs;have e1:=E.ufa h3 (fun e he=>⟨o.delta.evs e he,h4 e he⟩) (most:=4) (by omega) (by omega) r;rw [(dv _).1,(dv _).2,cH,<- hc];dsimp only;rw [e1];obtain ⟨f,t,l⟩:=delta;dsimp only at h1 h2;subst h1;subst h2;rfl
 ·obtain ⟨rfl,rfl,rfl,hc,rfl,rfl⟩:=hs;rw [(dv _).1,(dv _).2,cH,<- hc]
 ·obtain ⟨rfl,rfl,rfl,hc,rfl,rfl⟩:=hs;rw [(dv _).1,(dv _).2,cH,<- hc]
 ·obtain ⟨rfl,rfl,rfl,rfl,rfl,rfl⟩:=hs;rw [(dv r).1,(dv r).2]
 ·obtain ⟨rfl,rfl,rfl,rfl,rfl⟩:=hs;rw [(dv _).1,(dv _).2,YT]
theorem err0 {s:RS} (hO:N.Ok s) {a b:List Int} (h:s.1 = a ++ b) (ha:1 <= a.length):s.2 = 0:=Decidable.byContradiction fun hn=>by
 have:=hO.nil hn;rw [this] at h;have:=congrArg List.length h;rw [List.length_append] at this;simp at this;omega
theorem wFa {s:RS} (h:(yq s).2.2 = 0):s.1 = [(yq s).1] ++ (yq s).2.1 /\ s.2 = 0:=by
 unfold yq at h ⊢
 by_cases h0:s.2 = 0
 ·rw [if_neg (by simpa using h0)] at h ⊢
  cases hs:s.1 with
  | nil=>rw [hs] at h;exact absurd h (N.xh (by decide))
  | cons x r=>exact ⟨rfl,h0⟩
 ·rw [if_pos h0] at h;exact absurd h h0
theorem wGa {s:RS} (hO:N.Ok s) (h:(VL s).2 = 0):s.1 = [(VM s).1] ++ (N.ya (VM s).2 ++ (VL s).1) /\ s.2 = 0:=by
 obtain ⟨o1,_⟩:=N.WG hO;have e1:=D.vz o1 h;have e2:=wFa (err0 o1 e1 (G.ZH _));exact ⟨by rw [e2.1,e1];rfl,e2.2⟩
theorem XB {s:RS} (hO:N.Ok s) (h:(jm s).2 = 0):s.1 = N.ya (ju s).1 ++ (N.ya (ju s).2 ++ (jm s).1) /\ s.2 = 0:=by
 obtain ⟨o1,_⟩:=N.ZL hO (m:=65535) (by omega);have e1:=D.vz o1 h;have e2:=D.QV hO (err0 o1 e1 (G.ZH _));exact ⟨by rw [e2,e1];rfl,err0 hO e2 (G.ZH _)⟩
theorem encC_pos (c:List PT):1 <= (Yh c).length:=by
 have:=G.ZH (C.zk c).length;unfold Yh D.zga;rw [List.length_append];omega
theorem YW {s:RS} (hO:N.Ok s) (h:(wj s).2.2 = 0):s.1 = Yh (wj s).1 ++ (wj s).2.1 /\ s.2 = 0:=by
 have e:=D.uPa hO h;exact ⟨e,err0 hO e (encC_pos _)⟩
theorem wHa {s:RS} (hO:N.Ok s) {m:Int} (h:(Zl m s).2.2 = 0):s.1 = wi (Zl m s).1 ++ (Zl m s).2.1 /\ s.2 = 0:=by
 obtain ⟨_,_,_,h4,_⟩:=E.Zj hO m;have e:=(h4 h).1;refine ⟨e,err0 hO e ?_⟩;have:=G.ZH (Zl m s).1.length;unfold wi;rw [List.length_append];omega
theorem z8a {s:RS} (hO:N.Ok s) (h:(wg s).2.2 = 0):s.1 = Vq (wg s).1 ++ (wg s).2.1 /\ s.2 = 0:=by
 obtain ⟨o1,_⟩:=D.zj hO;obtain ⟨o2,_⟩:=D.zj o1;unfold wg at h ⊢;rw [D.VD] at h;unfold fin;rw [if_neg (by simpa using h)];have hb:G.z1a s = (Zl 4096 (wj (wj s).2).2).2:=by
  unfold G.z1a at h ⊢;unfold D.UB at h ⊢
  split
  ·rename_i hc
   rw [if_pos hc] at h
   by_cases h0:(Zl 4096 (wj (wj s).2).2).2.2 = 0
   ·exact absurd h (N.xh (by decide))
   ·rw [N.fail_of 4 h0] at h;exact absurd h h0
  ·rfl
 rw [hb] at h ⊢;obtain ⟨e3,z3⟩:=wHa o2 h;obtain ⟨e2,z2⟩:=YW o1 z3;obtain ⟨e1,z1⟩:=YW hO z2;refine ⟨?_,z1⟩;rw [e1,e2,e3];unfold Vq;simp only [List.append_assoc]
 rfl
theorem wya {k:Int} (hk:1 <= k /\ k <= 9) {s:RS} (hO:N.Ok s) (h:(yT k s).2.2 = 0):s.1 = Xk (yT k s).1 ++ (yT k s).2.1:=by
 obtain ⟨o1,_⟩:=Vz hO;obtain ⟨o2,_⟩:=Qg hO;obtain ⟨o3,_⟩:=Vz o2;have o4:=VN o1;have o5:=(D.zj o1).1;unfold yT Xk at *
 rcases kinds hk with e | e | e | e | e | e | e | e | e
 all_goals
  subst e;simp only [Int.reduceEq,if_true,if_false] at h ⊢
 ·rw [(wGa hO h).1];simp only [List.append_assoc]
 ·obtain ⟨e1,z1⟩:=z8a o3 h;obtain ⟨e2,z2⟩:=XB o2 z1;obtain ⟨e3,_⟩:=wGa hO z2;rw [e3,e2,e1];simp only [List.append_assoc]
 ·obtain ⟨e1,z1⟩:=YW o1 h;rw [(XB hO z1).1,e1];simp only [List.append_assoc]
 ·obtain ⟨e1,z1⟩:=YW o4 h;obtain ⟨e2,z2⟩:=z8a o1 z1;rw [(XB hO z2).1,e2,e1];simp only [List.append_assoc]
 ·obtain ⟨e1,z1⟩:=wHa o5 h;obtain ⟨e2,z2⟩:=YW o1 z1;rw [(XB hO z2).1,e2,e1];simp only [List.append_assoc]
 ·obtain ⟨e1,z1⟩:=YW o1 h;rw [(XB hO z1).1,e1];simp only [List.append_assoc]
 ·obtain ⟨e1,z1⟩:=YW o1 h;rw [(XB hO z1).1,e1];simp only [List.append_assoc]
 ·rw [(XB hO h).1];simp only [List.append_assoc]
 ·obtain ⟨e1,z1⟩:=wFa h;rw [(XB hO z1).1,e1];simp only [List.append_assoc]

theorem four_len (c:BitVec 32):(four c).length = 4:=rfl
theorem VO (k:Int) (b:List Int):(xK k b).length = b.length + 5:=by
 unfold xK;rw [List.length_append,List.length_cons,four_len]
theorem wIa {k k':Int} {b b':List Int} (h:xK k b = xK k' b'):k = k' /\ b = b':=by
 have h2:=congrArg yU h;rw [z5a,z5a] at h2;exact ⟨congrArg Prod.fst h2,congrArg (fun x:Int × List Int × Int=>x.2.1) h2⟩
theorem decM_err {b:List Int} (h:(Qh b).2 ≠ 0):(Qh b).1 = zeroM:=by
 unfold Qh at h ⊢
 split
 ·rfl
 ·rename_i h0
  rw [if_neg h0] at h
  split
  ·rfl
  ·rename_i h1
   rw [if_neg h1] at h;unfold finM at h ⊢
   split
   ·rfl
   ·rename_i h2
    rw [if_neg h2] at h
    split
    ·rename_i h3;rw [if_pos h3] at h;exact absurd rfl h
    ·rfl
theorem wJa {b:List Int} (hb:okB b) (hl:b.length <= 500005) (h:(Qh b).2 = 0):∃ (k:Int) (q:List Int),(1 <= k /\ k <= 9) /\ okB q /\ b = xK k q /\ (Qh b).1 = (yT k (q,0)).1 /\ xe (Qh b).1 = pure true /\ q = Xk (Qh b).1 /\ (Qh b).1.kind = k /\ (yT k (q,0)).2.1 = []:=by
 by_cases h0:(yU b).2.2 = 0
 ·obtain ⟨q1,q2,q3,q4,q5⟩:=ura hb h0;have hlen:=congrArg List.length q1;rw [VO] at hlen;have hd:Qh b = if (yU b).1 < 1 \/ 9 < (yU b).1 then (zeroM,4) else finM (yT (yU b).1 ((yU b).2.1,0)).1 (yT (yU b).1 ((yU b).2.1,0)).2:=by
   unfold Qh;rw [if_neg (by simpa using h0)]
  generalize (yU b).1 = k at *
  generalize (yU b).2.1 = q at *
  rw [hd] at h ⊢
  by_cases hk:k < 1 \/ 9 < k
  ·rw [if_pos hk] at h;cases h
  ·rw [if_neg hk] at h ⊢;have hk1:1 <= k /\ k <= 9:=by omega
   have hB:N.OkB q:=⟨z4a q2,by omega⟩
   have hl3:((q,0):N.RS).1.length <= 500000:=by show q.length <= 500000;omega
   obtain ⟨m1,m2,m3⟩:=Vr hk1 hB.ok hl3;unfold finM at h ⊢
   by_cases hz:(N.Qi (yT k (q,0)).2).1 = 0
   ·rw [if_neg (by simpa using hz)] at h ⊢
    by_cases hg:uua (yT k (q,0)).1 = true
    ·rw [if_pos hg];obtain ⟨z1,z2⟩:=D.end_ok hz;have e:=wya hk1 hB.ok z2;rw [z1,List.append_nil] at e;exact ⟨k,q,hk1,q2,q1,rfl,by rw [wDa m1,hg],e,m2,z1⟩
    ·rw [if_neg hg] at h;cases h
   ·rw [if_pos (by simpa using hz)] at h;exact absurd h hz
 ·unfold Qh at h;rw [if_pos (by simpa using h0)] at h;exact absurd h h0
theorem WJ {s:N.RS} (hO:N.Ok s) (hl:s.1.length <= 1500):(∀ p ∈ (D.wj s).1,p.dev <= 65535) /\ (D.wj s).1.length <= 10000 /\ C.yJ (D.wj s).1 <= 10000:=by
 obtain ⟨_,a2,_,_,_⟩:=D.zj hO;have:=G.Zk hO;exact ⟨fun p hp=>(a2 p hp).d1,by omega,by omega⟩
theorem xX : (∀ p ∈ ([]:List PT),p.dev <= 65535) /\ ([]:List PT).length <= 10000 /\ C.yJ ([]:List PT) <= 10000:=⟨(fun p hp=>by cases hp),by simp,by simp [C.yJ]⟩
theorem uva {s:N.RS} (hO:N.Ok s) (hl:s.1.length <= 1500) (m:Int):(E.Zl m s).1.length <= 10000 /\ ∀ e ∈ (E.Zl m s).1,e.text.size <= 200:=by
 obtain ⟨_,p2,_,_,_⟩:=E.Zj hO m;have:=G.jk hO m;exact ⟨by omega,fun e he=>by have:=G.una (p2 e he).2;omega⟩
structure FitD (d:DL):Prop where
 from_:(∀ p ∈ d.from_,p.dev <= 65535) /\ d.from_.length <= 10000 /\ C.yJ d.from_ <= 10000
 to_:(∀ p ∈ d.to_,p.dev <= 65535) /\ d.to_.length <= 10000 /\ C.yJ d.to_ <= 10000
 evs:d.events.length <= 10000 /\ ∀ e ∈ d.events,e.text.size <= 200
theorem WK : FitD noD where
 from_:=xX
 to_:=xX
 evs:=⟨by simp [noD],fun e he=>by cases he⟩
theorem z9a {s:N.RS} (hO:N.Ok s) (hl:s.1.length <= 1500):FitD (G.wg s).1:=by
 obtain ⟨o1,_⟩:=D.zj hO;obtain ⟨o2,_⟩:=D.zj o1;have l1:=z6a hO;have l2:=z6a o1;unfold G.wg D.fin
 split
 ·exact WK
 ·exact ⟨WJ hO hl,WJ o1 (by omega),uva o2 (by omega) 4096⟩
theorem Je {k:Int} (hk:1 <= k /\ k <= 9) {s:N.RS} (hO:N.Ok s) (hl:s.1.length <= 1500):FitM (yT k s).1:=by
 have ok:=(Vr hk hO (by omega)).1;obtain ⟨o1,l1,_⟩:=Vz hO;obtain ⟨o2,l2,_⟩:=Qg hO;obtain ⟨o3,l3,_⟩:=Vz o2;have o4:=VN o1;have l4:=wCa o1;have o5:=(D.zj o1).1;have l5:=z6a o1;have z:(0:Int) <= 0 /\ (0:Int) <= 18446744073709551615:=by decide
 have tr:0 <= (VM s).2 /\ (VM s).2 <= 18446744073709551615:=(N.ym (N.WG hO).1).2;have ep:∀ {t:N.RS},N.Ok t -> 0 <= (ju t).2 /\ (ju t).2 <= 18446744073709551615:=fun h=>(N.ym (N.ZL h (m:=65535) (by omega)).1).2
 have mk:∀ {m:TMsg},F.OkM m -> (0 <= m.try_ /\ m.try_ <= 18446744073709551615) -> (0 <= m.epoch /\ m.epoch <= 18446744073709551615) -> ((∀ p ∈ m.have_,p.dev <= 65535) /\ m.have_.length <= 10000 /\ C.yJ m.have_ <= 10000) -> ((∀ p ∈ m.front,p.dev <= 65535) /\ m.front.length <= 10000 /\ C.yJ m.front <= 10000) -> FitD m.delta -> FitM m:=fun a b c d e f=>⟨a,b,c,d,e,f.from_,f.to_,f.evs⟩
 unfold yT at ok ⊢;rcases kinds hk with e | e | e | e | e | e | e | e | e
 all_goals
  subst e;simp only [Int.reduceEq,if_true,if_false] at ok ⊢
 ·exact mk ok tr z xX xX WK
 ·exact mk ok tr (ep o2) xX xX (z9a o3 (by omega))
 ·exact mk ok z (ep hO) (WJ o1 (by omega)) xX WK
 ·exact mk ok z (ep hO) xX (WJ o4 (by omega)) (z9a o1 (by omega))
 ·exact mk ok z (ep hO) (WJ o1 (by omega)) xX ⟨xX,xX,uva o5 (by omega) 4⟩
 ·exact mk ok z (ep hO) (WJ o1 (by omega)) xX WK
 ·exact mk ok z (ep hO) (WJ o1 (by omega)) xX WK
 ·exact mk ok z (ep hO) xX xX WK
 ·exact mk ok z (ep hO) xX xX WK
theorem body_pos {m:TMsg} (hk:1 <= m.kind /\ m.kind <= 9):1 <= (Xk m).length:=by
 have h1:=G.ZH m.dev;unfold Xk;rcases kinds hk with e | e | e | e | e | e | e | e | e
 all_goals
  simp only [e,Int.reduceEq,if_true,if_false,List.length_append,List.length_cons];omega
theorem mcodeOnce_eq (b:List Int) (k:Int) (hb:∀ x ∈ b,0 <= x /\ x <= 255) (hk:0 <= k /\ k <= 255):uJ b k = pure true:=by
 unfold uJ;rw [works28]
 by_cases hl:1500 < b.length
 ·rw [decide_eq_true (show (1500:Int) < (b.length:Int) by omega),cond_true,zB,zA]
 rw [decide_eq_false (show ¬ (1500:Int) < (b.length:Int) by omega),cond_false];have ho:okB b:=by_okB hb;have hk2:0 <= k /\ k < 256:=⟨hk.1,by omega⟩
 have ho2:okB (xK k b):=Qf hk2 ho;rw [x9a k b hk2 ho (by omega),zB,zA,z7a ho2 (by rw [VO];omega),zB,zA]
 by_cases h0:(Qh (xK k b)).2 = 0
 ·rw [decide_eq_true h0,Bool.not_true,cond_false];obtain ⟨k',q,hk',hq,e1,e2,hg,e3,e4,e5⟩:=wJa ho2 (by rw [VO];omega) h0;obtain ⟨rfl,rfl⟩:=wIa e1;have fit:FitM (Qh (xK k b)).1:=by
   rw [e2];exact Je hk' (⟨hb,by omega⟩:N.OkB b).ok (by show b.length <= 1500;omega)
  have hen:=wwa fit hg;have hpos:=body_pos (m:=(Qh (xK k b)).1) (by rw [e4];exact hk');have hb1:1 <= b.length:=by rw [<- e3] at hpos;exact hpos
  generalize hm:(Qh (xK k b)).1 = m at *
  have em:encM9 true m = (xK k b,0):=by
   show (xK m.kind (Xk m),(0:Int)) = _;rw [e4,<- e3]
  have hw:IntKind.i64.wrap ((b.length:Int) - 1) = (b.length:Int) - 1:=Yt (by omega) (by omega);have hmx:max ((b.length:Int) - 1) 0 = ((b.length - 1:Nat):Int):=by omega
  have hok':okB (b.take (b.length - 1)):=fun y hy=>ho y (List.mem_of_mem_take hy)
  rw [hen,zB,zA,em,hw,hmx,zC (by omega),show Int.toNat ((b.length - 1:Nat):Int) = b.length - 1 by omega,show Int.toNat 0 = 0 from rfl,List.drop_zero,
   x9a k _ hk2 hok' (by rw [List.length_take];omega),zB,zA,z7a (Qf hk2 hok') (by rw [VO,List.length_take];omega),zB,zA]
  have hne:(Qh (xK k (b.take (b.length - 1)))).2 ≠ 0:=fun h9=>by
   obtain ⟨k',q,hk'',hq',f1,f2,fg,f3,f4,f5⟩:=wJa (Qf hk2 hok') (by rw [VO,List.length_take];omega) h9;obtain ⟨rfl,rfl⟩:=wIa f1;have hBt:N.OkB (b.take (b.length - 1)):=⟨z4a hok',by rw [List.length_take];omega⟩
   have fit':FitM (Qh (xK k (b.take (b.length - 1)))).1:=by
    rw [f2];exact Je hk'' hBt.ok (by show (b.take (b.length - 1)).length <= 1500;rw [List.length_take];omega)
   have g:=wxa fit' (by rw [f4];exact hk'') (shape_of fit'.ok fg) (b.drop (b.length - 1));rw [f4,<- f3,List.take_append_drop] at g;rw [g] at e5;have:=congrArg List.length e5;rw [List.length_drop] at this;simp at this;omega
  have heq:uZ (xK k b) (xK k b) = pure true:=by unfold uZ;rw [decide_eq_true rfl]
  dsimp only;rw [heq,decide_eq_false hne];simp only [decide_true,cond_true,zB,zA,Bool.not_false]
 ·rw [decide_eq_false h0,Bool.not_false,cond_true,decM_err h0];rw [decide_eq_true (show zeroM.kind = 0 from rfl),cond_true,zB]
  rfl
structure Dmg (b:List Int) (a:Nat) (i:Nat) (v:List Int) (n:Int):Prop where
 ok:okB v
 len:v.length = b.length
 n0:0 <= n /\ n <= i
 w:∃ w:BitVec 32,w.toNat < 2 ^ i /\ (0 < n -> w ≠ 0#32) /\ ∀ c,x8a c v = x8a c b ^^^ it (8 * b.length - a) w
end Go.Ep.M.U

namespace Go.Ep
open Go.RowKit Go.ChangeShapes Go.WideShapes

abbrev All : Nat -> Prop:=fun _=>True

mutual
def Ql {H:Type}:DataW H -> Nat
 | .lit (.string bytes)=>bytes.length + 1
 | .lit _=>1
 | .nil=>1
 | .ptr d=>Ql d + 1
 | .slice elems spare=>vY elems + vY spare + 1
 | .agg parts=>vY parts + 1
 | .iface _ d=>Ql d + 1
 | .map entries=>jo entries + 1
 | .held _=>1
def vY {H:Type}:List (DataW H) -> Nat
 | []=>0
 | d :: r=>Ql d + vY r
def jo {H:Type}:List (Lit × DataW H) -> Nat
 | []=>0
 | x :: r=>uwa x + jo r
def uwa {H:Type}:Lit × DataW H -> Nat
 | (.string bytes,d)=>bytes.length + Ql d + 1
 | (_,d)=>Ql d + 1
end
theorem wKa {H:Type} (d:DataW H):1 <= Ql d:=by
 cases d with
 | lit l=>cases l <;> simp [Ql]
 | nil=>simp [Ql]
 | ptr d=>simp [Ql]
 | slice elems spare=>simp [Ql]
 | agg parts=>simp [Ql]
 | iface t d=>simp [Ql]
 | map entries=>simp [Ql]
 | held h=>simp [Ql]
theorem y3a {H:Type} (l r:List (DataW H)):vY (l ++ r) = vY l + vY r:=by
 induction l with
 | nil=>simp [vY]
 | cons x l ih=>simp only [List.cons_append,vY,ih];omega
def szL {α:Type} (sz:α -> Nat):List α -> Nat
 | []=>0
 | a :: r=>sz a + szL sz r
theorem szL_app {α:Type} (sz:α -> Nat) (l r:List α):szL sz (l ++ r) = szL sz l + szL sz r:=by
 induction l with
 | nil=>simp [szL]
 | cons x l ih=>simp only [List.cons_append,szL,ih];omega
structure Opn (P:Program) (t:TypeId) (k:Nat) {α:Type} (enc:α -> List DV) (ok:α -> Prop) (sz:α -> Nat):Prop where
 cells:P.cellsOf t = k
 op:∀ {H:Type} {en:TypeId × Value -> H} {w:World} {fuel:Nat} {cs:List Value} {x:DataW H × List MemPlace},DataW.trod en P w 0 (fun _=>true) true fuel t cs = some x ->
  ∃ a,ok a /\ cs.length = k /\ (enc a).length = k /\ (∀ (j:Nat) (y:DV) (u:Value),(enc a)[j]? = some y -> cs[j]? = some u -> DRd w All y u) /\ sz a <= Ql x.1

section
variable {P:Program} {t:TypeId}

theorem Opn.map {k:Nat} {α β:Type} {enc:α -> List DV} {enc':β -> List DV} {ok:α -> Prop} {ok':β -> Prop} {sz:α -> Nat} {sz':β -> Nat} (h:Opn P t k enc ok sz) (f:α -> β) (he:∀ a,ok a -> enc' (f a) = enc a) (ho:∀ a,ok a -> ok' (f a)) (hz:∀ a,sz' (f a) <= sz a):Opn P t k enc' ok' sz':=
 ⟨h.cells,fun hx=>let ⟨a,h1,h2,h3,h4,h5⟩:=h.op hx;⟨f a,ho a h1,h2,by rw [he a h1];exact h3,by rw [he a h1];exact h4,Nat.le_trans (hz a) h5⟩⟩

theorem y4a {w:World} {y:DV} {u:Value} (h:DRd w All y u):∀ (j:Nat) (y':DV) (u':Value),[y][j]? = some y' -> [u][j]? = some u' -> DRd w All y' u':=by
 intro j y' u' h1 h2
 cases j with
 | zero=>simp at h1 h2;subst h1;subst h2;exact h
 | succ j=>simp at h1

def okK (k:IntKind) (n:Int):Prop:=(Lit.int k n).wf = true
theorem Opn.int {k:IntKind} (hu:P.underlying t = some (.int k)) (hc:P.cellsOf t = 1):Opn P t 1 (eK k) (okK k) (fun _=>1):=by
 refine ⟨hc,fun {H en w fuel cs x} h=>?_⟩
 cases fuel with
 | zero=>simp [DataW.trod] at h
 | succ fuel=>
  unfold DataW.trod at h;rw [hu] at h
  split at h <;> simp_all
  case h_2 n _=>
   obtain ⟨⟨h1,h2⟩,_⟩:=h;subst h1;refine ⟨n,h2,rfl,?_,wKa _⟩;intro j y u h1 h3;exact y4a (.v _ rfl) j y u h1 h3
theorem okU8 {n:Int} (h:okK .u8 n):0 <= n /\ n < 256:=by
 simp [okK,Lit.wf,IntKind.min,IntKind.max,IntKind.signed,IntKind.bits] at h;omega
theorem Opn.slice {e:TypeId} {k:Nat} {α:Type} {enc:α -> List DV} {ok:α -> Prop} {sz:α -> Nat} (h:Opn P e k enc ok sz) (hu:P.underlying t = some (.slice e)) (hc:P.cellsOf t = 1) (hk:0 < k) :
  Opn P t 1 (eL enc) (fun l=>l.length <= 9223372036854775807 /\ ∀ a ∈ l,ok a) (fun l=>szL sz l + 1):=by
 refine ⟨hc,fun {H en w fuel cs x} hx=>?_⟩;rcases Deep.open_slice hu hx with ⟨rfl,_⟩ | ⟨a,len,cap,m,n,D,Pl,rfl,_,hl,hm,hmm,hxD,hel⟩
 ·exact ⟨[],⟨Nat.zero_le _,by simp⟩,rfl,rfl,y4a (.nil none 0 (Nat.zero_le _) (fun _=>rfl)),wKa _⟩
 simp only [if_true] at hmm;subst hmm;rw [h.cells] at hel;have hcut:∀ n0,n0 <= len -> ∃ l:List α,l.length = n0 /\ (∀ a ∈ l,ok a) /\ szL sz l <= vY ((List.range n0).map D) /\ ∀ (i:Nat) (b:α),l[i]? = some b -> (enc b).length = k /\ ∀ (j:Nat) (y:DV),(enc b)[j]? = some y -> ∃ u,w.cell? (a.add (i * k + j)) = some u /\ DRd w All y u:=by
  intro n0
  induction n0 with
  | zero=>intro _;exact ⟨[],rfl,by simp,by simp [szL],by simp⟩
  | succ n0 ih=>
   intro hn;obtain ⟨l,h1,h2,hz,h3⟩:=ih (by omega);obtain ⟨cs',hc',ht'⟩:=hel n0 (by omega);obtain ⟨b,hb1,hb2,hb3,hb4,hb5⟩:=h.op ht';obtain ⟨_,_,hcell⟩:=World.cells?_some hc';refine ⟨l ++ [b],by simp [h1],?_,by rw [szL_app,List.range_succ,List.map_append,y3a];simp only [szL,List.map_cons,List.map_nil,vY];simp only at hb5;omega,?_⟩
   ·intro a ha;rcases List.mem_append.1 ha with ha | ha
    ·exact h2 a ha
    ·simp at ha;subst ha;exact hb1
   ·intro i b' hi;rw [List.getElem?_append] at hi
    split at hi
    ·exact h3 i b' hi
    ·rename_i hge
     have hi0:i = n0:=by
      have:i - l.length < 1:=by simpa using (List.getElem?_eq_some_iff.1 hi).1
      omega
     subst hi0;simp [h1] at hi;subst hi;refine ⟨hb3,fun j y hy=>?_⟩;have hj:j < k:=by rw [<- hb3];exact (List.getElem?_eq_some_iff.1 hy).1
     have hcj:=hcell j hj;rw [Deep.add_add] at hcj;have hu':cs'[j]? = some (cs'[j]'(by omega)):=List.getElem?_eq_getElem (by omega);exact ⟨_,by rw [hcj,hu'],hb4 j y _ hy hu'⟩
 obtain ⟨l,h1,h2,hz,h3⟩:=hcut len (Nat.le_refl _);refine ⟨l,⟨by unfold maxLen at hm;omega,h2⟩,rfl,rfl,y4a ?_,?_⟩
 rotate_left
 ·rw [hxD];simp only [Ql];omega
 by_cases h0:len = 0
 ·have:l = []:=List.eq_nil_of_length_eq_zero (by omega);subst this;subst h0;exact .nil _ _ hm (fun e=>by cases e)
 ·-- the first cell tells that the address is a plain one
  have hl0:0 < l.length:=by omega
  obtain ⟨hk0,hc0⟩:=h3 0 _ (List.getElem?_eq_getElem hl0);obtain ⟨u0,hu0,_⟩:=hc0 0 _ (List.getElem?_eq_getElem (by omega:0 < (enc l[0]).length));have hspot:a.spot = none:=by simpa [Addr.add] using World.cell?_spot hu0
  obtain ⟨b,off,spot⟩:=a;simp only at hspot;subst hspot;have hb:b < w.heap.size:=by
   rw [Addr.add_lit] at hu0;unfold World.cell? at hu0
   cases hh:w.heap[b]? with
   | none=>simp [hh] at hu0
   | some o=>exact (Array.getElem?_eq_some_iff.1 hh).1
  have hlen:(l.map enc).length = len:=by simp [h1]
  rw [<- hlen];refine .sl _ b off m k (fun i j=>(w.cell? ⟨b,off + (i * k + j),none⟩).getD undef) (by omega) hm trivial hb ?_ ?_ ?_
  ·intro i cs hi;rw [List.getElem?_map] at hi
   cases hx:l[i]? with
   | none=>simp [hx] at hi
   | some y=>simp [hx] at hi;subst hi;exact (h3 i y hx).1
  ·intro i j hi hj;have hil:i < l.length:=by simpa using hi
   obtain ⟨e1,e2⟩:=h3 i _ (List.getElem?_eq_getElem hil);obtain ⟨u,hu,_⟩:=e2 j _ (List.getElem?_eq_getElem (by omega:j < (enc l[i]).length));rw [Addr.add_lit] at hu;simp [hu]
  ·intro i cs j x hi hx;rw [List.getElem?_map] at hi
   cases hy:l[i]? with
   | none=>simp [hy] at hi
   | some y=>
    simp [hy] at hi;subst hi;obtain ⟨u,hu,hd⟩:=(h3 i y hy).2 j x hx;rw [Addr.add_lit] at hu;simpa [hu] using hd

structure OpnF (P:Program) (fs:List Field) (off k:Nat) {α:Type} (enc:α -> List DV) (ok:α -> Prop) (sz:α -> Nat):Prop where
 op:∀ {H:Type} {en:TypeId × Value -> H} {w:World} {n:Nat} {cs:List Value} {xs:List (DataW H × List MemPlace)},xs.length = fs.length ->
  (∀ (i:Nat) (f:Field),fs[i]? = some f -> DataW.trod en P w 0 (fun _=>true) true n f.type ((cs.drop f.offset).take (P.cellsOf f.type)) = xs[i]?) ->
  ∃ a,ok a /\ (enc a).length = k /\ (∀ (j:Nat) (y:DV) (u:Value),(enc a)[j]? = some y -> cs[off + j]? = some u -> DRd w All y u) /\ sz a <= vY (xs.map (·.1))

theorem OpnF.nil (off:Nat):OpnF P [] off 0 (fun _:Unit=>[]) (fun _=>True) (fun _=>0):=⟨fun _ _=>⟨(),trivial,rfl,by simp,Nat.zero_le _⟩⟩
theorem OpnF.cons {f:Field} {fs:List Field} {off k1 k2:Nat} {α β:Type} {e1:α -> List DV} {o1:α -> Prop} {e2:β -> List DV} {o2:β -> Prop} {z1:α -> Nat} {z2:β -> Nat} (h1:Opn P f.type k1 e1 o1 z1) (ho:f.offset = off) (h2:OpnF P fs (off + k1) k2 e2 o2 z2) :
  OpnF P (f :: fs) off (k1 + k2) (fun p:α × β=>e1 p.1 ++ e2 p.2) (fun p=>o1 p.1 /\ o2 p.2) (fun p=>z1 p.1 + z2 p.2):=by
 refine ⟨fun {H en w n cs xs} hlen hx=>?_⟩
 cases xs with
 | nil=>simp at hlen
 | cons x xs=>
  have hx0:=hx 0 f rfl;simp only [List.getElem?_cons_zero] at hx0;obtain ⟨a,ha1,ha2,ha3,ha4,ha5⟩:=h1.op hx0;obtain ⟨b,hb1,hb2,hb3,hb4⟩:=h2.op (xs:=xs) (by simpa using hlen) (fun i f' hf=>by have:=hx (i + 1) f' (by simpa using hf);simpa using this);refine ⟨(a,b),⟨ha1,hb1⟩,by simp [ha3,hb2],?_,by simp only [List.map_cons,vY];omega⟩;intro j y u hy hu;simp only [List.getElem?_append] at hy
  by_cases hj:j < k1
  ·rw [if_pos (by omega)] at hy;refine ha4 j y u hy ?_;rw [List.getElem?_take,h1.cells,if_pos hj,List.getElem?_drop,ho];exact hu
  ·rw [if_neg (by omega),ha3] at hy;refine hb3 (j - k1) y u hy ?_;rw [<- hu]
   congr 1
   omega
theorem Opn.struct {fs:List Field} {k:Nat} {α:Type} {enc:α -> List DV} {ok:α -> Prop} {sz:α -> Nat} (hu:P.underlying t = some (.struct fs.toArray)) (hc:P.cellsOf t = k) (h:OpnF P fs 0 k enc ok sz):Opn P t k enc ok (fun a=>sz a + 1):=by
 refine ⟨hc,fun {H en w fuel cs x} hx=>?_⟩;obtain ⟨xs,n,_,hxe,hlen,hxl,hf⟩:=DataW.trod_struct hu hx;obtain ⟨a,h1,h2,h3,h4⟩:=h.op (cs:=cs) (xs:=xs) (by simpa using hxl) (fun i f hi=>hf i f (by simpa using hi));exact ⟨a,h1,by rw [hlen,hc],h2,fun j y u hy hu=>h3 j y u hy (by simpa using hu),by rw [hxe];simp only [Ql];omega⟩

theorem Opn.arg {H:Type} {en:TypeId × Value -> H} {w:World} {v:Value} {d:DataW H} {ps:List MemPlace} {α:Type} {enc:α -> DV} {ok:α -> Prop} {sz:α -> Nat} (h:Opn P t 1 (fun a=>[enc a]) ok sz)
  (hx:DataW.Trod en P w 0 (fun _=>true) true t v d ps) (h1:v.oneCell' = true):∃ a,ok a /\ Rd w g0 All (.d (enc a)) v /\ sz a <= Ql d:=by
 obtain ⟨fuel,hf⟩:=hx;obtain ⟨a,ha,_,_,hr,hz⟩:=h.op hf;have hcs:v.cells.toList = [v]:=by cases v <;> first | rfl | (simp [Value.oneCell'] at h1;done)
 exact ⟨a,ha,.d (hr 0 _ v rfl (by rw [hcs];rfl)),hz⟩
theorem VP {H:Type} {en:TypeId × Value -> H} (hl:laidOutB P = true) {W W':World} (hb:Below W.heap.size W W'):∀ {ts:List TypeId} {vs:List Value} {ds:List (DataW H)} {ps:List MemPlace},
  (∀ t ∈ ts,P.readableRec t = true /\ t < P.types.size) -> DataW.TrodAll en P W 0 (fun _=>true) true ts vs ds ps -> (∀ x ∈ ps,x.block < W.heap.size) -> DataW.TrodAll en P W' 0 (fun b=>decide (b < W.heap.size)) true ts vs ds ps
 | [],[],[],ps,_,h,_=>h
 | t :: ts,v :: vs,d :: ds,ps,hr,h,hlt=>by
  obtain ⟨p,q,h1,h2,rfl⟩:=h;have hrt:=hr t (by simp);exact ⟨p,q,Below.trod hl hrt.1 hrt.2 h1 hb (fun x hx=>hlt x (List.mem_append.2 (.inl hx))),VP hl hb (fun t ht=>hr t (by simp [ht])) h2 (fun x hx=>hlt x (List.mem_append.2 (.inr hx))),rfl⟩
 | [],[],_ :: _,_,_,h,_=>h.elim
 | [],_ :: _,_,_,_,h,_=>h.elim
 | _ :: _,[],_,_,_,h,_=>h.elim
 | _ :: _,_ :: _,[],_,_,h,_=>h.elim
theorem jp {H:Type} {en:TypeId × Value -> H} {w:World} {base:Nat} {sp:Nat -> Bool} {hd:Bool}:∀ {ts:List TypeId} {vs:List Value} {ds:List (DataW H)} {ps:List MemPlace},DataW.TrodAll en P w base sp hd ts vs ds ps -> ds.length = ts.length
 | [],[],[],_,_=>rfl
 | _ :: _,_ :: _,_ :: _,_,h=>by
  obtain ⟨_,_,_,h2,_⟩:=h;simp [jp h2]
 | [],[],_ :: _,_,h=>h.elim
 | [],_ :: _,_,_,h=>h.elim
 | _ :: _,[],_,_,h=>h.elim
 | _ :: _,_ :: _,[],_,h=>h.elim

theorem uxa {H:Type} {en:TypeId × Value -> H} {fn:Func} {s:ChangeSpec} {tb:TypeId} {W W':World} {args:Array Value} {ds gs:List (DataW H)} {before:List MemPlace} (hl:laidOutB P = true)
  (hW:DataW.Whole en P fn.params.toList s.vars false W args.toList ds gs before) (hv:s.vars = []) (hs:∀ ds:List (DataW H),ds.length = fn.params.size -> (s.fn H ds).results = [.lit (.bool true)] /\ (s.fn H ds).args = ds /\ (s.fn H ds).vars = [])
  (hres:fn.resultTypes = #[tb]) (htb:P.underlying tb = some .bool) (hr:∀ t ∈ fn.params.toList,P.readableRec t = true /\ t < P.types.size) (hb:Below W.heap.size W W') :
  s.post en P fn false true false false W args (.bool true) W':=by
 have hW':=hW;obtain ⟨p,q,hA,hV,hpq,hfz,hnd⟩:=hW;rw [hv] at hV;obtain ⟨rfl,rfl⟩:=trodVars_none hV;simp only [List.append_nil] at hpq;subst hpq;have hlt:∀ x ∈ before,x.block < W.heap.size:=fun x hx=>by simpa using hW'.lt x hx
 have hlen:ds.length = fn.params.size:=by simpa using jp hA
 obtain ⟨e1,e2,e3⟩:=hs (ds ++ []) (by simpa using hlen);refine ⟨ds,[],before,[],before,[],hW',?_,?_,?_,hb.frame _,fun h=>by cases h⟩
 ·rw [e1,hres];exact trodAll_mk1 (shut_bool htb true)
 ·rw [e2,List.append_nil];exact VP hl hb hr hA hlt
 ·rw [e3,hv];rfl
end
end Go.Ep

namespace Go.Ep
set_option linter.unusedVariables false

def DT.ok (x:DT):Prop:=okK .u16 x.dev /\ okK .u64 x.n
def DT.sz (x:DT):Nat:=(1 + (1 + 0)) + 1
def RN.ok (x:RN):Prop:=okK .u64 x.lo /\ okK .u64 x.hi
def RN.sz (x:RN):Nat:=(1 + (1 + 0)) + 1
def PT.ok (x:PT):Prop:=okK .u16 x.dev /\ (x.runs.length <= 9223372036854775807 /\ ∀ a ∈ x.runs,RN.ok a)
def PT.sz (x:PT):Nat:=(1 + ((szL RN.sz x.runs + 1) + 0)) + 1
def EV.ok (x:EV):Prop:=DT.ok x.dot /\ okK .u8 x.kind /\ okK .u64 x.cid /\ okK .u8 x.field /\ ByteArray.size x.text <= 9223372036854775807 /\ (x.kills.length <= 9223372036854775807 /\ ∀ a ∈ x.kills,DT.ok a)
def EV.sz (x:EV):Nat:=(DT.sz x.dot + (1 + (1 + (1 + ((ByteArray.size x.text + 1) + ((szL DT.sz x.kills + 1) + 0)))))) + 1
def DL.ok (x:DL):Prop:=(x.from_.length <= 9223372036854775807 /\ ∀ a ∈ x.from_,PT.ok a) /\ (x.to_.length <= 9223372036854775807 /\ ∀ a ∈ x.to_,PT.ok a) /\ (x.events.length <= 9223372036854775807 /\ ∀ a ∈ x.events,EV.ok a)
def DL.sz (x:DL):Nat:=((szL PT.sz x.from_ + 1) + ((szL PT.sz x.to_ + 1) + ((szL EV.sz x.events + 1) + 0))) + 1
def TMsg.ok (x:TMsg):Prop:=okK .u8 x.kind /\ okK .u8 x.slot /\ okK .u64 x.try_ /\ okK .u16 x.dev /\ okK .u64 x.epoch /\ okK .u8 x.why /\ (x.have_.length <= 9223372036854775807 /\ ∀ a ∈ x.have_,PT.ok a) /\ (x.front.length <= 9223372036854775807 /\ ∀ a ∈ x.front,PT.ok a) /\ DL.ok x.delta
def TMsg.sz (x:TMsg):Nat:=(1 + (1 + (1 + (1 + (1 + (1 + ((szL PT.sz x.have_ + 1) + ((szL PT.sz x.front + 1) + (DL.sz x.delta + 0))))))))) + 1
end Go.Ep
namespace Go.Proofs
open Go.Ep
set_option maxRecDepth 100000
end Go.Proofs


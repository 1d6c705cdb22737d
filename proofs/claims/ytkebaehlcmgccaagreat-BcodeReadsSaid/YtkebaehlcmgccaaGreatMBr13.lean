/- Texts that the walks and laws lean on, side by side. -/
import Derived.ProofKit
import Derived.Deep.Slices
import Derived.Test.YtkebaehlcmgccaaGreatProg
import Derived.KernelRfl
import Derived.Test.YtkebaehlcmgccaaGreatMBr2
import Derived.Test.YtkebaehlcmgccaaGreatMBr12
set_option linter.unusedVariables false
set_option linter.unusedSimpArgs false
namespace Go.Ep.M.E
open Go

theorem vo (s:ByteArray):(yW s).length = s.size:=by simp [yW]
theorem zVa (l:List Int):(strL l).data.toList = l.map fun n=>UInt8.ofNat n.toNat:=by
 have key:∀ (l:List Int) (r:ByteArray),(l.foldl (fun r n=>r.push (UInt8.ofNat n.toNat)) r).data.toList = r.data.toList ++ l.map fun n=>UInt8.ofNat n.toNat:=by
  intro l
  induction l with
  | nil=>intro r;simp
  | cons x t ih=>intro r;rw [List.foldl_cons,ih];simp
 have:=key l ByteArray.empty;simpa [strL] using this
theorem wEa {l:List Int} (h:N.By l):yW (strL l) = l:=by
 rw [yW,zVa,List.map_map];apply List.ext_getElem?;intro i;rw [List.getElem?_map]
 cases hx:l[i]? with
 | none=>rfl
 | some x=>
  have:=h x (List.mem_of_getElem? hx);simp only [Option.map_some,Function.comp_apply,UInt8.toNat_ofNat']
  congr 1;omega
theorem jk (l:List Int):(strL l).size = l.length:=by
 have:=congrArg List.length (zVa l);simpa using this

def cidD (v:Int):TDot:=⟨v / 281474976710656,v % 281474976710656⟩
theorem band48 {v:Int} (h0:0 <= v) (h:v <= 18446744073709551615):bAnd .u64 v 281474976710655 = v % 281474976710656:=by
 obtain ⟨n,rfl⟩:=Int.eq_ofNat_of_zero_le h0;unfold bAnd;have bv:∀ q:Nat,q < 18446744073709551616 -> (BitVec.ofInt IntKind.u64.bits (q:Int)).toNat = q:=fun q hq=>by
  show (BitVec.ofInt 64 (q:Int)).toNat = q;rw [BitVec.toNat_ofInt];omega
 have e:(281474976710655:Int) = ((281474976710655:Nat):Int):=rfl;rw [e,BitVec.toNat_and,bv n (by omega),bv _ (by decide)];have h2:n &&& 281474976710655 = n % 281474976710656:=Nat.and_two_pow_sub_one_eq_mod n 48;rw [h2,wU64 (by omega) (by omega)];omega
theorem Split_eq {v:Int} (h0:0 <= v) (h:v <= 18446744073709551615):YP v = pure ((cidD v).dev,(cidD v).n):=by
 unfold YP cidD;have e:(2 ^ 48:Int) = 281474976710656:=rfl;rw [band48 h0 h,Int.fdiv_eq_ediv_of_nonneg _ (by decide),e,wU16 (by omega) (by omega)]
theorem vla {v:Int} (h0:0 <= v) (h:v <= 18446744073709551615):Wn v = pure ((cidD v).dev,(cidD v).n):=by
 unfold Wn cidD;rw [Int.tdiv_eq_ediv_of_nonneg h0,Int.tmod_eq_emod_of_nonneg h0,wU64 (by omega) (by omega),wU16 (by omega) (by omega)]
def jl (v:Int):Bool:=V.yS (cidD v)
theorem vma {v:Int} (h0:0 <= v) (h:v <= 18446744073709551615):Xi v = pure (if jl v = true then cidD v else ⟨0,0⟩,jl v):=by
 unfold Xi;rw [Split_eq h0 h,zB,zA,V.ur,zB,zA];show cond (!jl v) _ _ = _
 cases jl v <;> rfl
theorem wFa {v:Int} (h0:0 <= v) (h:v <= 18446744073709551615):Xo v = pure (if jl v = true then cidD v else ⟨0,0⟩,jl v):=by
 unfold Xo;rw [vla h0 h,zB,zA,V.ut,zB,zA];show cond (!jl v) _ _ = _
 cases jl v <;> rfl

def yYa (f:Int):Bool:=decide (1 <= f) && decide (f <= 5)
theorem Field_eq (f:Int):Xj f = pure (yYa f):=by unfold Xj yYa;rw [zj];rfl
theorem vna (f:Int):US f = pure (yYa f):=by unfold US yYa;rw [zj];rfl
def okB (x:Int):Bool:=decide (32 <= x) && decide (x <= 126)
def zWa (s:ByteArray):Bool:=decide (s.size <= 60) && (yW s).all okB
theorem WV {α:Type} (l:List α) (p:α -> Bool):(l.zipIdx.all fun y=>p y.1) = l.all p:=by
 rw [Bool.eq_iff_iff,List.all_eq_true,List.all_eq_true]
 constructor
 ·intro h x hx;obtain ⟨i,hi⟩:=List.getElem?_of_mem hx;exact h (x,i) (by rw [List.mk_mem_zipIdx_iff_getElem?];exact hi)
 ·intro h y hy;exact h y.1 (List.fst_mem_of_mem_zipIdx hy)
theorem okB_eq (x:Int) (f:M Bool) (hf:f = pure (decide (126 < x))):(cond (decide (x < 32)) (pure true) f:M Bool) = pure (!okB x):=by
 rw [hf];unfold okB
 by_cases h1:x < 32
 ·have:¬ 32 <= x:=by omega
  simp [h1,this]
 ·have:32 <= x:=by omega
  by_cases h2:126 < x
  ·have:¬ x <= 126:=by omega
   simp [h1,h2,this]
  ·have:x <= 126:=by omega
   simp [h1,h2, *]
theorem voa (s:ByteArray) (hs:s.size <= 1000000000000):loop (wi s) 0 = pure (if (yW s).all okB = true then Ex.brk () else Ex.ret false):=by
 have:=xl (body:=wi s) (yW s) (fun i=>(i:Int)) (fun _ x=>okB x) (Ex.brk ()) (Ex.ret false) (fun i x hx hi=>by
  have hd:decide ((i:Int) < (s.size:Int)) = true:=by rw [<- vo];simpa using hi
  have hi2:i < s.size:=by rw [<- vo];exact hi
  unfold wi;simp only [hd,cond_true,zK hx,zA,okB_eq x _ rfl,yJ (show i < 9223372036854775807 by omega)]
  cases okB x <;> rfl) (by
  unfold wi;simp [vo])
 rw [show (0:Int) = ((0:Nat):Int) from rfl,this,WV]
theorem wGa (s:ByteArray) (hs:s.size <= 1000000000000):loop (uZ s) 0 = pure (if (yW s).all okB = true then Ex.brk () else Ex.ret false):=by
 have:=xl (body:=uZ s) (yW s) (fun i=>(i:Int)) (fun _ x=>okB x) (Ex.brk ()) (Ex.ret false) (fun i x hx hi=>by
  have hd:decide ((i:Int) < (s.size:Int)) = true:=by rw [<- vo];simpa using hi
  have hi2:i < s.size:=by rw [<- vo];exact hi
  unfold uZ;simp only [hd,cond_true,zK hx,zA,okB_eq x _ rfl,yJ (show i < 9223372036854775807 by omega)]
  cases okB x <;> rfl) (by
  unfold uZ;simp [vo])
 rw [show (0:Int) = ((0:Nat):Int) from rfl,this,WV]
theorem yOa (s:ByteArray) (hs:s.size <= 1000000000000):Xk s = pure (zWa s):=by
 unfold Xk zWa;rw [voa s hs]
 by_cases h:s.size <= 60
 ·have:decide ((60:Int) < (s.size:Int)) = false:=by simp;omega
  rw [this,cond_false,zA,decide_eq_true h,Bool.true_and]
  cases (yW s).all okB <;> rfl
 ·have:decide ((60:Int) < (s.size:Int)) = true:=by simp;omega
  rw [this,cond_true,decide_eq_false h,Bool.false_and]
theorem rText_eq (s:ByteArray) (hs:s.size <= 1000000000000):UT s = pure (zWa s):=by
 unfold UT zWa;rw [wGa s hs,zA]
 cases (yW s).all okB with
 | false=>rw [Bool.and_false];rfl
 | true=>
  rw [if_pos rfl,YG,Bool.and_true]
  congr 1
  by_cases h:s.size <= 60
  ·rw [decide_eq_true h];simp;omega
  ·rw [decide_eq_false h];simp;omega

structure OkE (e:TEvent):Prop where
 dot:D.OkD e.dot
 kind:0 <= e.kind /\ e.kind <= 255
 cid:0 <= e.cid /\ e.cid <= 18446744073709551615
 field:0 <= e.field /\ e.field <= 255
 text:e.text.size <= 1000000000
 kills:∀ d ∈ e.kills,D.OkD d
 klen:e.kills.length <= 1000000000
def xXa (s:ByteArray):Bool:=decide (s = ⟨#[]⟩)
def vpa (e:TEvent):Bool:=(decide (e.kind = 1) && (yYa e.field && zWa e.text)) || (decide (e.kind = 2) && (decide (e.field = 0) && xXa e.text))
def yZa (e:TEvent):Bool:=decide (e.kills.length <= 256) && (D.XS e.kills && e.kills.all fun d=>V.yS d && !decide (d = e.dot))
def yP (e:TEvent):Bool:=(jl e.cid && V.yS e.dot) && (vpa e && yZa e)
theorem vqa (l:List TDot) (hl:l.length <= 1000000000000):Xl l = pure (D.XS l):=by
 unfold Xl;have key:∀ (k i:Nat) (x:TDot) (r:List TDot),i + k = l.length -> l.drop i = r -> i ≠ 0 -> l[i - 1]? = some x -> loop (yh l) (i:Int) = pure (if D.XS (x :: r) = true then Ex.brk () else Ex.ret false):=by
  intro k
  induction k with
  | zero=>
   intro i x r hi hr h1 hx;have:r = []:=by rw [<- hr];exact List.drop_eq_nil_of_le (by omega)
   subst this;exact zO (by
    unfold yh;have:decide ((i:Int) < (l.length:Int)) = false:=by simp;omega
    simp only [this,cond_false];rfl)
  | succ k ih=>
   intro i x r hi hr h1 hx;have hlt:i < l.length:=by omega
   have hr2:r = l[i] :: l.drop (i + 1):=by rw [<- hr];exact List.drop_eq_getElem_cons hlt
   have hy:=List.getElem?_eq_getElem hlt;have hi1:idx l (IntKind.i64.wrap ((i:Int) - 1)) = pure x:=by
    rw [wI64 (by omega) (by omega)];exact WB (by omega) (by rw [show ((i:Int) - 1).toNat = i - 1 by omega];exact hx)
   have hb:yh l (i:Int) = cond (!zV x l[i]) (pure (.done (.ret false))) (pure (.next ((i + 1:Nat):Int))):=by
    unfold yh;have h2:decide ((i:Int) < (l.length:Int)) = true:=by simp;omega
    have h3:decide ((0:Int) < (i:Int)) = true:=by simp;omega
    simp only [h2,h3,cond_true,hi1,zK hy,zA,D.Jd,zB,D.xTa,yJ (show i < 9223372036854775807 by omega)]
   rw [hr2];show _ = (pure (if (zV x l[i] && D.XS (l[i] :: l.drop (i + 1))) = true then Ex.brk () else Ex.ret false):M (Ex Unit Bool))
   cases c:zV x l[i] with
   | true=>
    rw [c] at hb;rw [zi hb,Bool.true_and];exact ih (i + 1) l[i] _ (by omega) rfl (by omega) hy
   | false=>
    rw [c] at hb;rw [zO hb];rfl
 cases l with
 | nil=>
  rw [zO (r:=Ex.brk ()) (by unfold yh;rfl)];rfl
 | cons x r=>
  have h0:yh (x :: r) 0 = pure (.next 1):=by
   unfold yh;have h2:decide ((0:Int) < ((x :: r).length:Int)) = true:=decide_eq_true (by rw [List.length_cons];omega);simp only [h2,cond_true,show decide ((0:Int) < 0) = false from rfl,cond_false,zA];rw [wI64 (by omega) (by omega)]
   rfl
  have:=key r.length 1 x r (by simp;omega) rfl (by decide) rfl;rw [show ((1:Nat):Int) = 1 from rfl] at this;rw [zi h0,this,zA]
  cases D.XS (x :: r) <;> rfl
theorem wHa (e:TEvent) (hl:e.kills.length <= 1000000000000):loop (wj e) 0 = pure (if (e.kills.all fun d=>V.yS d && !decide (d = e.dot)) = true then Ex.brk () else Ex.ret false):=by
 have:=xl (body:=wj e) e.kills (fun i=>(i:Int)) (fun _ d=>V.yS d && !decide (d = e.dot)) (Ex.brk ()) (Ex.ret false) (fun i x hx hi=>by
  have hd:decide ((i:Int) < (e.kills.length:Int)) = true:=by simpa using hi
  unfold wj;simp only [hd,cond_true,zK hx,zA,V.ur,zB,D.ySa,yJ (show i < 9223372036854775807 by omega)]
  cases V.yS x <;> cases decide (x = e.dot) <;> rfl) (by
  unfold wj;simp)
 rw [show (0:Int) = ((0:Nat):Int) from rfl,this,WV e.kills fun d=>V.yS d && !decide (d = e.dot)]
theorem XM {e:TEvent} (h:OkE e):vH e = pure (yP e):=by
 have hk:=h.klen;have ht:=h.text;unfold vH yP;rw [vma h.cid.1 h.cid.2,zB,zA,V.ur,zB,zA,wHa e (by omega),vqa e.kills (by omega),Field_eq,yOa e.text (by omega)];simp only []
 cases jl e.cid with
 | false=>rfl
 | true=>
  cases V.yS e.dot with
  | false=>rfl
  | true=>
   have hl:decide ((256:Int) < (e.kills.length:Int)) = !decide (e.kills.length <= 256):=by
    by_cases c:e.kills.length <= 256
    ·rw [decide_eq_true c];simp;omega
    ·rw [decide_eq_false c];simp;omega
   have tail:(cond (decide ((256:Int) < (e.kills.length:Int))) (pure true) ((det (pure (D.XS e.kills))).bind fun v23=>pure (!v23))).bind (fun v21=>cond v21 (pure false) ((pure (if (e.kills.all fun d=>V.yS d && !decide (d = e.dot)) = true then Ex.brk () else Ex.ret false)).bind (exk fun _=>pure true))) = pure (yZa e):=by
    unfold yZa;rw [hl,zB,zA]
    cases decide (e.kills.length <= 256) with
    | false=>rfl
    | true=>
     cases D.XS e.kills with
     | false=>rfl
     | true=>cases e.kills.all fun d=>V.yS d && !decide (d = e.dot) <;> rfl
   simp only [Bool.not_true,cond_false,zA,zB,Bool.true_and] at tail ⊢;unfold vpa xXa
   by_cases k1:e.kind = 1
   ·have k2:decide (e.kind = 2) = false:=by rw [k1];rfl
    rw [decide_eq_true k1,cond_true,k2,Bool.true_and,Bool.false_and,Bool.or_false]
    cases yYa e.field with
    | false=>rfl
    | true=>
     cases zWa e.text with
     | false=>rfl
     | true=>exact tail
   ·rw [decide_eq_false k1,cond_false,Bool.false_and,Bool.false_or]
    by_cases k2:e.kind = 2
    ·rw [decide_eq_true k2,cond_true,Bool.true_and]
     cases decide (e.field = 0) with
     | false=>rfl
     | true=>
      cases decide (e.text = (⟨#[]⟩:ByteArray)) with
      | false=>rfl
      | true=>exact tail
    ·rw [decide_eq_false k2];rfl
theorem jb (l:List TDot) (d:TDot) (hl:l.length <= 1000000000000):jD l d = pure (l.any fun x=>decide (x = d)):=by
 unfold jD;have:=xl (body:=Xq l d) l (fun i=>(i:Int)) (fun _ x=>!decide (x = d)) (Ex.brk ()) (Ex.ret true) (fun i x hx hi=>by
  have hd:decide ((i:Int) < (l.length:Int)) = true:=by simpa using hi
  unfold Xq;simp only [hd,cond_true,zK hx,zA,D.ySa,yJ (show i < 9223372036854775807 by omega)]
  cases decide (x = d) <;> rfl) (by
  unfold Xq;simp)
 rw [show (0:Int) = ((0:Nat):Int) from rfl,this,zA,WV l fun x=>!decide (x = d)];have e:(l.any fun x=>decide (x = d)) = !(l.all fun x=>!decide (x = d)):=by simp [List.all_eq_not_any_not]
 rw [e]
 cases l.all fun x=>!decide (x = d) <;> rfl
theorem wIa (e:TEvent) (hl:e.kills.length <= 1000000000000):loop (ua e) 0 = pure (if e.kills.all V.yS = true then Ex.brk () else Ex.ret false):=by
 have:=xl (body:=ua e) e.kills (fun i=>(i:Int)) (fun _ d=>V.yS d) (Ex.brk ()) (Ex.ret false) (fun i x hx hi=>by
  have hd:decide ((i:Int) < (e.kills.length:Int)) = true:=by simpa using hi
  unfold ua;simp only [hd,cond_true,zK hx,zA,V.ut,zB,yJ (show i < 9223372036854775807 by omega)]
  cases V.yS x <;> rfl) (by
  unfold ua;simp)
 rw [show (0:Int) = ((0:Nat):Int) from rfl,this,WV e.kills V.yS]
theorem ZT {e:TEvent} (h:OkE e):YR e = pure (yP e):=by
 have hk:=h.klen;have ht:=h.text;unfold YR yP;rw [wFa h.cid.1 h.cid.2,zB,zA,V.ut,zB,zA,wIa e (by omega),D.wDa e.kills (by omega),vna,rText_eq e.text (by omega),jb e.kills e.dot (by omega)];simp only []
 cases jl e.cid with
 | false=>rfl
 | true=>
  cases V.yS e.dot with
  | false=>rfl
  | true=>
   have hl:decide ((e.kills.length:Int) <= 256) = decide (e.kills.length <= 256):=by
    by_cases c:e.kills.length <= 256
    ·rw [decide_eq_true c];simp;omega
    ·rw [decide_eq_false c];simp;omega
   have hall:(e.kills.all fun d=>V.yS d && !decide (d = e.dot)) = (e.kills.all V.yS && !(e.kills.any fun x=>decide (x = e.dot))):=by
    rw [Bool.eq_iff_iff,Bool.and_eq_true,List.all_eq_true,List.all_eq_true,Bool.not_eq_true',List.any_eq_false]
    constructor
    ·intro h;exact ⟨fun x hx=>by have:=h x hx;rw [Bool.and_eq_true] at this;exact this.1,fun x hx=>by have:=h x hx;rw [Bool.and_eq_true] at this;simpa using this.2⟩
    ·rintro ⟨h1,h2⟩ x hx;rw [Bool.and_eq_true];exact ⟨h1 x hx,by simpa using h2 x hx⟩
   have tail:((pure (if e.kills.all V.yS = true then Ex.brk () else Ex.ret false):M (Ex Unit Bool)).bind (exk fun _=>(cond (decide ((e.kills.length:Int) <= 256)) ((det (pure (D.XS e.kills))).bind fun v46=>cond v46 ((det (pure (e.kills.any fun x=>decide (x = e.dot)))).bind fun v49=>pure (!v49)) (pure false)) (pure false)).bind fun v44=>pure v44)) = pure (yZa e):=by
    unfold yZa;rw [hl,hall];simp only [zB,zA]
    cases e.kills.all V.yS with
    | false=>cases decide (e.kills.length <= 256) <;> cases D.XS e.kills <;> rfl
    | true=>cases decide (e.kills.length <= 256) <;> cases D.XS e.kills <;> cases e.kills.any fun x=>decide (x = e.dot) <;> rfl
   simp only [Bool.not_true,cond_false,zA,zB,Bool.true_and] at tail ⊢;unfold vpa xXa
   by_cases k1:e.kind = 1
   ·have k2:decide (e.kind = 2) = false:=by rw [k1];rfl
    rw [decide_eq_true k1,k2];simp only [Bool.not_true,cond_false,cond_true,zA,Bool.true_and,Bool.false_and,Bool.or_false]
    cases yYa e.field with
    | false=>rfl
    | true=>
     cases zWa e.text with
     | false=>rfl
     | true=>exact tail
   ·rw [decide_eq_false k1];simp only [Bool.not_false,cond_true,zA,Bool.false_and,Bool.false_or]
    by_cases k2:e.kind = 2
    ·rw [decide_eq_true k2];simp only [Bool.not_true,cond_false,cond_true,Bool.true_and]
     cases decide (e.field = 0) with
     | false=>rfl
     | true=>
      cases decide (e.text = (⟨#[]⟩:ByteArray)) with
      | false=>rfl
      | true=>exact tail
    ·rw [decide_eq_false k2];rfl


theorem Ud (a b:TEvent) (h:a.kills.length <= 1000000000000):UN a b = pure (decide (a = b)):=by
 unfold UN;rw [D.ySa,V.yFa a.kills b.kills h,zB,zA];have e:decide (a = b) = (decide (a.dot = b.dot) && (decide (a.kind = b.kind) && (decide (a.cid = b.cid) && (decide (a.field = b.field) && (decide (a.text = b.text) && decide (a.kills = b.kills)))))):=by
  cases a;cases b;simp only [TEvent.mk.injEq,Bool.decide_and]
 rw [e]
 cases decide (a.dot = b.dot) <;> cases decide (a.kind = b.kind) <;> cases decide (a.cid = b.cid) <;> cases decide (a.field = b.field) <;> cases decide (a.text = b.text) <;> rfl
theorem QM (a b:List TEvent) (ha:a.length <= 1000000000000) (hk:∀ e ∈ a,e.kills.length <= 1000000000000):ZV a b = pure (decide (a = b)):=by
 unfold ZV
 by_cases hlen:a.length = b.length
 ·have h1:decide ((a.length:Int) = (b.length:Int)) = true:=by simp [hlen]
  rw [h1,Bool.not_true,cond_false];have:=xl (body:=Xh a b) a (fun i=>(i:Int)) (fun i x=>decide (b[i]? = some x)) (Ex.brk ()) (Ex.ret false) (fun i x hx hi=>by
   have hd:decide ((i:Int) < (a.length:Int)) = true:=by simpa using hi
   obtain ⟨y,hy⟩:∃ y,b[i]? = some y:=⟨_,List.getElem?_eq_getElem (by omega)⟩
   unfold Xh;simp only [hd,cond_true,zK hx,zK hy,zA,Ud x y (hk x (List.mem_of_getElem? hx)),zB,yJ (show i < 9223372036854775807 by omega),hy]
   by_cases c:x = y
   ·subst c;simp
   ·have:¬ some y = some x:=fun e=>c (Option.some.inj e).symm
    simp [c,this]) (by
   unfold Xh;simp)
  rw [show (0:Int) = ((0:Nat):Int) from rfl,this,zA];have e:(a.zipIdx.all fun y=>decide (b[y.2]? = some y.1)) = decide (a = b):=by
   rw [Bool.eq_iff_iff,List.all_eq_true,decide_eq_true_eq]
   constructor
   ·intro h;apply List.ext_getElem?;intro i
    by_cases hi:i < a.length
    ·have:=h (a[i],i) (by rw [List.mk_mem_zipIdx_iff_getElem?];exact List.getElem?_eq_getElem hi);simp only [decide_eq_true_eq] at this;rw [this,List.getElem?_eq_getElem hi]
    ·rw [List.getElem?_eq_none (by omega),List.getElem?_eq_none (by omega)]
   ·intro h y hy;subst h;rw [List.mem_zipIdx_iff_getElem?] at hy;simpa using hy
  rw [e]
  cases decide (a = b) <;> rfl
 ·have h1:decide ((a.length:Int) = (b.length:Int)) = false:=by simp;omega
  have h2:decide (a = b) = false:=decide_eq_false fun e=>hlen (by rw [e])
  rw [h1,Bool.not_false,cond_true,h2]

def encT (s:ByteArray):List Int:=N.encI s.size ++ yW s
def encE (e:TEvent):List Int:=D.encD e.dot ++ ([e.kind] ++ (N.encI e.cid ++ ([e.field] ++ (encT e.text ++ D.JI e.kills))))
theorem xYa {s:ByteArray} (h:s.size <= 1000000000):(encT s).length <= 9 + s.size:=by
 have:=N.yF (v:=(s.size:Int)) (by omega);rw [encT,List.length_append,vo];omega
theorem encE_len {e:TEvent} (h:OkE e):(encE e).length <= 47 + e.text.size + 18 * e.kills.length:=by
 have h1:=D.Ug h.dot;have h2:=N.yF h.cid.2;have h3:=xYa h.text;have h4:=D.vda h.kills (by have:=h.klen;omega);simp only [encE,List.length_append,List.length_singleton];omega
theorem wJa {s:ByteArray} (h:s.size <= 1000000000) (row:List Int) (hr:row.length <= 1000000000000):xH s row = pure (row ++ encT s):=by
 have:=N.yF (v:=(s.size:Int)) (by omega);unfold xH;rw [wU64 (by omega) (by omega),N.ux row (by omega) (by omega) (by omega),zB,zA,zF (by omega),N.vZa _ _ (by rw [List.length_append,vo];omega),zB,zA,encT,List.append_assoc]
theorem Put_eq {e:TEvent} (h:OkE e) (row:List Int) (hr:row.length <= 10000000000):YK e row = pure (row ++ encE e):=by
 have h1:=D.Ug h.dot;have h2:=N.yF h.cid.2;have h3:=xYa h.text;have ht:=h.text;have hk:=h.klen;unfold YK;rw [D.zIa h.dot row (by omega),zB,zA,N.xGa _ _ (by rw [List.length_append];omega),zB,zA,N.ux _ h.cid.1 h.cid.2 (by simp only [List.length_append,List.length_singleton];omega),zB,zA,
  N.xGa _ _ (by simp only [List.length_append,List.length_singleton];omega),zB,zA,wJa h.text _ (by simp only [List.length_append,List.length_singleton];omega),zB,zA,
  D.wAa h.kills (by omega) _ (by simp only [List.length_append,List.length_singleton];omega),zB,zA]
 simp only [encE,List.append_assoc]
def jm (l:List TEvent):List Int:=N.encI l.length ++ l.flatMap encE
theorem zXa {l:List TEvent} (h:∀ e ∈ l,OkE e) (hl:l.length <= 1000000000) (row:List Int) (hr:row.length + (l.flatMap encE).length <= 1000000000):xq l row = pure (row ++ jm l):=by
 have h9:=N.yF (v:=(l.length:Int)) (by omega);unfold xq;rw [wU64 (by omega) (by omega),N.ux row (by omega) (by omega) (by omega),zB,zA];have:=D.QE (body:=xa l) l encE (row ++ N.encI (l.length:Int)) 2000000000 (fun i out=>((i:Int),out)) (fun t=>pure t) (by rw [List.length_append];omega) (fun i x out hx hi ho=>by
  have hd:decide ((i:Int) < (l.length:Int)) = true:=by simpa using hi
  unfold xa;simp only [hd,cond_true,zK hx,zA,Put_eq (h x (List.mem_of_getElem? hx)) out (by omega),zB,yJ (show i < 9223372036854775807 by omega)]) (fun out=>by
  unfold xa;simp [zA])
 rw [show (0:Int) = ((0:Nat):Int) from rfl,this,jm,List.append_assoc]
theorem vra {l:List TEvent} (h:∀ e ∈ l,OkE e) (hf:∀ e ∈ l,e.kills.length <= 300 /\ e.text.size <= 200):(l.flatMap encE).length <= 6000 * l.length:=
 D.VL l encE 6000 fun e he=>by have:=encE_len (h e he);have:=hf e he;omega
open N (RS Ok numS zw vB uw wb endS OkB Sim)
open D (bad4 fin)

def s1 (s:RS):RS:=(D.dotS s).2
def s2 (s:RS):RS:=(vB (s1 s)).2
def s3 (s:RS):RS:=(numS (s2 s)).2
def s4 (s:RS):RS:=(vB (s3 s)).2
def s5 (s:RS):RS:=(uw 60 (s4 s)).2
def s6 (s:RS):RS:=(D.xt 256 (s5 s)).2
def getE (s:RS):TEvent:=⟨(D.dotS s).1,(vB (s1 s)).1,(numS (s2 s)).1,(vB (s3 s)).1,(uw 60 (s4 s)).1,(D.xt 256 (s5 s)).1⟩
def noE : TEvent:=⟨⟨0,0⟩,0,0,0,⟨#[]⟩,[]⟩
def getT (s:RS):RS:=bad4 (!yP (getE s)) (s6 s)
def getS (s:RS):TEvent × RS:=fin noE (getE s) (getT s)
theorem vsa {s:RS} (h:Ok s) (m:Int):(uw m s).1.size <= 1000000000:=by
 have h1:=(N.yX h).1.len;unfold uw
 split
 ·exact (by decide:(0:Nat) <= 1000000000)
 ·split
  ·exact (by decide:(0:Nat) <= 1000000000)
  ·split
   ·exact (by decide:(0:Nat) <= 1000000000)
   ·rw [jk,List.length_take];omega
theorem dots_okD {s:RS} (h:Ok s) (most:Int):(∀ d ∈ (D.xt most s).1,D.OkD d) /\ (D.xt most s).1.length <= 1000000000:=by
 by_cases c:(D.xt most s).2.2 = 0
 ·obtain ⟨e1,e2,e3,e4⟩:=D.xVa h c;have hl:=congrArg List.length e1;have hs:=h.len;have h9:(D.wP (D.ZC (D.xt most s).1)) = (D.xt most s).1:=D.zSa e2 fun d hd=>(e3 d hd).1
  have h8:∀ l:List TDot,l.length <= (l.flatMap D.encD).length:=by
   intro l
   induction l with
   | nil=>simp
   | cons x t ih=>
    have:1 <= (D.encD x).length:=by rw [D.encD,List.length_append,N.encI,N.encN,List.length_cons];omega
    rw [List.flatMap_cons,List.length_append,List.length_cons];omega
  have h7:=h8 (D.xt most s).1;refine ⟨fun d hd=>(e3 d hd).2,?_⟩;rw [List.length_append,D.JI,h9,List.length_append] at hl;omega
 ·rw [D.dots_bad c];simp
theorem xZa {s:RS} (h:Ok s):Ok (s1 s) /\ Ok (s2 s) /\ Ok (s3 s) /\ Ok (s4 s) /\ Ok (s5 s) /\ Ok (s6 s) /\ OkE (getE s):=by
 have o1:Ok (s1 s):=(D.zNa h).1;have o2:=N.vXa o1;have o3:=N.yX (s:=s2 s) o2.1;have o4:=N.vXa (s:=s3 s) o3.1;have o5:=N.ok_text (s:=s4 s) o4.1 60;have o6:=D.ok_dots (s:=s5 s) o5 256;obtain ⟨k1,k2⟩:=dots_okD (s:=s5 s) o5 256;exact ⟨o1,o2.1,o3.1,o4.1,o5,o6,(D.zNa h).2.1,o2.2,o3.2,o4.2,vsa (s:=s4 s) o4.1 60,k1,k2⟩
theorem Get_eq {s:RS} (h:Ok s):YY s.1 s.2 = pure (getS s):=by
 obtain ⟨o1,o2,o3,o4,o5,o6,oe⟩:=xZa h;unfold YY getS;have e1:vI s.1 s.2 = pure ((D.dotS s).1,s1 s):=D.Dot_eq h;have e2:yB (s1 s).1 (s1 s).2 = pure ((vB (s1 s)).1,s2 s):=N.xEa o1;have e3:zU (s2 s).1 (s2 s).2 = pure ((numS (s2 s)).1,s3 s):=N.WF o2;have e4:yB (s3 s).1 (s3 s).2 = pure ((vB (s3 s)).1,s4 s):=N.xEa o3;have e5:yk 60 (s4 s).1 (s4 s).2 = pure ((uw 60 (s4 s)).1,s5 s):=N.yOa o4 (by decide);have e6:vf 256 (s5 s).1 (s5 s).2 = pure ((D.xt 256 (s5 s)).1,s6 s):=D.QL o5 (by decide);rw [e1,zB,zA];simp only [];rw [e2,zB,zA];simp only [];rw [e3,zB,zA];simp only [];rw [e4,zB,zA];simp only [];rw [e5,zB,zA];simp only [];rw [e6,zB,zA];simp only [];have eg:=XM oe;unfold getE at eg;rw [eg,zB,zA];have ep:=D.QI (yP (getE s)) (s6 s);unfold getE at ep;rw [ep,zA];exact D.yWa _ _ _
variable {B:List Int} {a:Int} {s:RS}
theorem rGet_eq (hB:OkB B) (hO:Ok s) (h:Sim B a s):∃ a',Wq B a s.2 = pure ((getS s).1,B,a',(getS s).2.2) /\ Sim B a' (getS s).2:=by
 obtain ⟨o1,o2,o3,o4,o5,o6,oe⟩:=xZa hO;obtain ⟨a1,e1,t1⟩:=D.vga hB hO h;obtain ⟨a2,e2,t2⟩:=N.zFa hB (s:=s1 s) t1;obtain ⟨a3,e3,t3⟩:=N.ZZ hB (s:=s2 s) t2;obtain ⟨a4,e4,t4⟩:=N.zFa hB (s:=s3 s) t3;obtain ⟨a5,e5,t5⟩:=N.vaa hB o4 t4 (q:=60) (by decide);obtain ⟨a6,e6,t6⟩:=D.Uh hB o5 t5 (most:=256) (by decide);unfold Wq getS;have e1':Zn B a s.2 = pure ((D.dotS s).1,B,a1,(s1 s).2):=e1;have e2':zb B a1 (s1 s).2 = pure ((vB (s1 s)).1,B,a2,(s2 s).2):=e2;have e3':zI B a2 (s2 s).2 = pure ((numS (s2 s)).1,B,a3,(s3 s).2):=e3;have e4':zb B a3 (s3 s).2 = pure ((vB (s3 s)).1,B,a4,(s4 s).2):=e4;have e5':zp 60 B a4 (s4 s).2 = pure ((uw 60 (s4 s)).1,B,a5,(s5 s).2):=e5;have e6':Zo 256 B a5 (s5 s).2 = pure ((D.xt 256 (s5 s)).1,B,a6,(s6 s).2):=e6;rw [e1',zB,zA];simp only [];rw [e2',zB,zA];simp only [];rw [e3',zB,zA];simp only [];rw [e4',zB,zA];simp only [];rw [e5',zB,zA];simp only [];rw [e6',zB,zA];simp only [];have q1:=D.jg (s6 s).2 ((det (YR (getE s))).bind fun v18=>pure (!v18)) (!yP (getE s)) (by rw [ZT oe,zB,zA]);have q2:=D.Vs B a6 (decide ((s6 s).2 = 0) && !yP (getE s)) (s6 s);rw [D.VM] at q2;unfold getE at q1 q2;rw [q1,zA,q2,zA,D.Yo];refine ⟨a6,?_,D.Xv t6 _⟩;show (cond (!decide ((getT s).2 = 0)) (pure (noE,B,a6,(getT s).2)) (pure (getE s,B,a6,(getT s).2)):M _) = _
 by_cases c:(getT s).2 = 0
 ·rw [D.WG c,decide_eq_true c];rfl
 ·rw [D.Za c,decide_eq_false c];rfl

theorem vta {s:RS} (h:(vB s).2.2 = 0):s.2 = 0 /\ s.1 = (vB s).1 :: (vB s).2.1:=by
 unfold vB at h ⊢
 by_cases c:s.2 ≠ 0
 ·rw [if_pos c] at h;exact absurd h c
 ·rw [if_neg c] at h ⊢
  cases hs:s.1 with
  | nil=>rw [hs] at h;exact absurd h (N.xL (by decide))
  | cons x r=>exact ⟨Classical.byContradiction c,rfl⟩
theorem text_ok {m:Int} {s:RS} (hO:Ok s) (h:(uw m s).2.2 = 0):(numS s).2.2 = 0 /\ s.1 = encT (uw m s).1 ++ (uw m s).2.1 /\ ((uw m s).1.size:Int) <= max m 0:=by
 obtain ⟨k1,k2,k3⟩:=N.yX hO;unfold uw at h ⊢
 by_cases c:(numS s).2.2 ≠ 0
 ·rw [if_pos c] at h;exact absurd h c
 ·rw [if_neg c] at h ⊢
  by_cases c2:max m 0 < (numS s).1
  ·rw [if_pos c2] at h;exact absurd h (N.xL (by decide))
  ·rw [if_neg c2] at h ⊢
   by_cases c3:((numS s).2.1.length:Int) < (numS s).1
   ·rw [if_pos c3] at h;exact absurd h (N.xL (by decide))
   ·rw [if_neg c3];have hz:(numS s).2.2 = 0:=Classical.byContradiction c;refine ⟨hz,?_,?_⟩
    ·show s.1 = (N.encI ((strL _).size:Int) ++ yW (strL _)) ++ _;rw [jk,wEa (k1.by_.take _),List.length_take,show ((min (numS s).1.toNat (numS s).2.1.length:Nat):Int) = (numS s).1 by omega,List.append_assoc,List.take_append_drop];exact D.Zb hO hz
    ·show ((strL _).size:Int) <= _;rw [jk,List.length_take];omega
theorem vua {s:RS} (hO:Ok s) (h:(getS s).2.2 = 0):s.2 = 0 /\ yP (getS s).1 = true /\ OkE (getS s).1 /\ s.1 = encE (getS s).1 ++ (getS s).2.1:=by
 obtain ⟨o1,o2,o3,o4,o5,o6,oe⟩:=xZa hO;unfold getS at h ⊢;rw [D.Yo] at h;rw [D.WG h];obtain ⟨g1,g2,g3⟩:=D.Vr (c:=!yP (getE s)) (s:=s6 s) h;have i6:=D.xVa o5 g2;have z5:(s5 s).2 = 0:=Classical.byContradiction fun c=>by
  have:(D.xt 256 (s5 s)).2.2 ≠ 0:=by
   have hn:=N.vWa c;unfold D.xt;rw [hn];rw [if_neg (by show ¬ max 256 0 < (0:Int);omega)];exact c
  exact this g2
 obtain ⟨z5',i5,_⟩:=text_ok (m:=60) o4 z5;have z4:=D.WH z5';obtain ⟨z3,i4⟩:=vta (s:=s3 s) z4;have i3:=D.Zb o2 z3;have z2:=D.WH z3;obtain ⟨z1,i2⟩:=vta (s:=s1 s) z2;have i1:=D.vja hO z1;have z0:s.2 = 0:=D.WH (D.QJ (D.xMa z1).2.1).1;refine ⟨z0,by simpa using g1,oe,?_⟩;show s.1 = encE (getE s) ++ (getT s).1;rw [show getT s = s6 s from g3];show s.1 = (D.encD (D.dotS s).1 ++ ([(vB (s1 s)).1] ++ (N.encI (numS (s2 s)).1 ++ ([(vB (s3 s)).1] ++ (encT (uw 60 (s4 s)).1 ++ D.JI (D.xt 256 (s5 s)).1))))) ++ (s6 s).1;simp only [List.append_assoc];have j6:(s5 s).1 = D.JI (D.xt 256 (s5 s)).1 ++ (s6 s).1:=i6.1;have j5:(s4 s).1 = encT (uw 60 (s4 s)).1 ++ (s5 s).1:=i5;have j4:(s3 s).1 = [(vB (s3 s)).1] ++ (s4 s).1:=i4;have j3:(s2 s).1 = N.encI (numS (s2 s)).1 ++ (s3 s).1:=i3;have j2:(s1 s).1 = [(vB (s1 s)).1] ++ (s2 s).1:=i2;have j1:s.1 = D.encD (D.dotS s).1 ++ (s1 s).1:=i1;rw [<- j6,<- j5,<- j4,<- j3,<- j2];exact j1
theorem vva {s:RS} (hO:Ok s) (h:(getS s).2.2 = 0):(getS s).2.1.length + 1 <= s.1.length:=by
 have:=(vua hO h).2.2.2;have hl:=congrArg List.length this;have:1 <= (encE (getS s).1).length:=by simp only [encE,List.length_append,List.length_singleton];omega
 rw [List.length_append] at hl;omega

open N (RS Ok numS zw vB uw wb endS OkB Sim)
open D (bad4 fin)

def XT (out:List TEvent) (x:TEvent):Bool:=match out.getLast? with | some y=>decide (0 <= V.cmpD y.dot x.dot) | none=>false
def allT (out:List TEvent) (s:RS):RS:=bad4 (XT out (getS s).1) (getS s).2
def allL : Nat -> List TEvent -> RS -> List TEvent × RS
 | 0,out,s=>(out,s)
 | k + 1,out,s=>if (allT out s).2 ≠ 0 then ([],allT out s) else allL k (out ++ [(getS s).1]) (allT out s)
def allS (most:Int) (s:RS):List TEvent × RS:=if max most 0 < (numS s).1 then ([],wb 3 (numS s).2) else allL (numS s).1.toNat [] (numS s).2
theorem Ui {k:Nat} {out:List TEvent} {s:RS} (h:(allT out s).2 ≠ 0):allL (k + 1) out s = ([],allT out s):=if_pos h
theorem VQ {k:Nat} {out:List TEvent} {s:RS} (h:(allT out s).2 = 0):allL (k + 1) out s = allL k (out ++ [(getS s).1]) (allT out s):=if_neg (by simp [h])
theorem yaa {out:List TEvent} {s:RS} (h:(allT out s).2 = 0):XT out (getS s).1 = false /\ (getS s).2.2 = 0 /\ allT out s = (getS s).2:=D.Vr h
theorem ok_gets {s:RS} (h:Ok s):Ok (getS s).2:=by
 unfold getS;rw [D.Yo];exact D.Vq (xZa h).2.2.2.2.2.1 _
theorem jo {s:RS} (h:Ok s) (out:List TEvent):Ok (allT out s):=D.Vq (ok_gets h) _
theorem vwa : ∀ (k:Nat) (out:List TEvent) (s:RS),Ok s -> Ok (allL k out s).2
 | 0,_,_,h=>h
 | k + 1,out,s,h=>by
  by_cases c:(allT out s).2 = 0
  ·rw [VQ c];exact vwa k _ _ (jo h out)
  ·rw [Ui c];exact jo h out
theorem ok_all {s:RS} (h:Ok s) (most:Int):Ok (allS most s).2:=by
 have h1:=N.yX h;unfold allS
 split
 ·exact N.XN h1.1 _
 ·exact vwa _ _ _ h1.1
theorem zYa {out:List TEvent} (h:out.length <= 1000000000000) (x:TEvent) (cmp:TDot -> TDot -> M Int) (hc:∀ y,cmp y x.dot = pure (V.cmpD y x.dot)) :
  ((cond (decide (0 <= IntKind.i64.wrap ((out.length:Int) - 1))) ((idx out (IntKind.i64.wrap ((out.length:Int) - 1))).bind fun x61=>(det (cmp x61.dot x.dot)).bind fun v63=>pure (decide (0 <= v63))) (pure false)):M Bool) = pure (XT out x):=by
 unfold XT;rcases R.yc out with rfl | ⟨r,y,rfl⟩
 ·rfl
 ·have hl:((r ++ [y]).length:Int) - 1 = (r.length:Int):=by simp
  rw [hl,wI64 (by omega) (by simp at h;omega)];have:decide ((0:Int) <= (r.length:Int)) = true:=by simp
  rw [this,cond_true,zK (y:=y) (by simp),zA,hc,zB,zA];simp
theorem xaa {y4:Int × List Int × Int} (hn:0 <= y4.1 /\ y4.1 <= 18446744073709551615):∀ (k i:Nat) (out:List TEvent) (s:RS),(i:Int) + k = y4.1 -> Ok s -> s.2 = 0 -> out.length + s.1.length <= 1000000000 ->
  (loop (yR y4) ((i:Int),out,s.1,s.2)).bind (exk fun ⟨out9,v10,v11⟩=>pure (out9,v10,v11)) = pure (allL k out s)
 | 0,i,out,s,hi,_,_,_=>by
  rw [zO (r:=.brk (out,s.1,s.2)) (by
   unfold yR;have:decide ((i:Int) < y4.1) = false:=by simp;omega
   simp only [this,cond_false])]
  rfl
 | k + 1,i,out,s,hi,hO,h0,hl=>by
  have hc:decide ((i:Int) < y4.1) = true:=by simp;omega
  have hlast:=zYa (out:=out) (by omega) (getS s).1 we (fun y=>D.Jd y _);have hw:IntKind.u64.wrap ((i:Int) + 1) = ((i + 1:Nat):Int):=by rw [wU64 (by omega) (by omega)];omega
  have hb:yR y4 ((i:Int),out,s.1,s.2) = (det (zQ (allT out s).1 (allT out s).2)).bind fun y70=>cond (!decide (y70.1 = 0)) (pure (.done (.ret ([],y70.2.1,y70.2.2)))) (need ((out.length + [(getS s).1].length) * 80 <= 140737488355328) (pure (.next (IntKind.u64.wrap ((i:Int) + 1),out ++ [(getS s).1],y70.2.1,y70.2.2)))):=by
   unfold yR;have e:=D.yVa (XT out (getS s).1) (getS s).2;simp only [hc,cond_true,Get_eq hO,zB,zA];rw [hlast,zA,e,zA]
   rfl
  rw [N.WE,zB,zA] at hb
  by_cases c:(allT out s).2 = 0
  ·obtain ⟨_,c2,c3⟩:=yaa c;have hlt:=vva hO c2;rw [decide_eq_true c,Bool.not_true,cond_false,zF (by simp;omega),hw] at hb;rw [zi hb,VQ c];exact xaa hn k (i + 1) _ (allT out s) (by omega) (jo hO out) c (by rw [c3];simp;omega)
  ·rw [decide_eq_false c,Bool.not_false,cond_true] at hb;rw [zO hb,Ui c]
   rfl
theorem zZa {s:RS} (hO:Ok s) {most:Int} (hm:most <= 9223372036854775807):xr most s.1 s.2 = pure (allS most s):=by
 obtain ⟨h1,h2,h3⟩:=N.yX hO;unfold xr allS;rw [N.WF hO,zB,zA,wU64 (n:=max most 0) (by omega) (by omega)]
 by_cases c:max most 0 < (numS s).1
 ·rw [decide_eq_true c,cond_true,if_pos c,N.ZY 3 (numS s).2,zB,zA]
 ·rw [decide_eq_false c,cond_false,if_neg c]
  by_cases c2:(numS s).2.2 = 0
  ·exact xaa (y4:=numS s) ⟨h2,h3⟩ (numS s).1.toNat 0 [] (numS s).2 (by omega) h1 c2 (by simp;have:=h1.len;omega)
  ·have hz:=D.xM c2;rw [hz,zO (r:=.brk ([],(numS s).2.1,(numS s).2.2)) (by
    unfold yR;simp only [hz,show decide ((0:Int) < 0) = false from rfl,cond_false])]
   rfl
variable {B:List Int} {a:Int} {s:RS}
theorem zaa (hB:OkB B) {y7:Int × List Int × Int × Int} (hn:0 <= y7.1 /\ y7.1 <= 18446744073709551615):∀ (k i:Nat) (out:List TEvent) (s:RS) (a:Int),(i:Int) + k = y7.1 -> Ok s -> s.2 = 0 -> Sim B a s -> out.length + s.1.length <= 1000000000 ->
  ∃ out' a',loop (yA y7) ((i:Int),out,B,a,s.2) = pure (out',B,a',(allL k out s).2.2) /\ Sim B a' (allL k out s).2 /\ ((allL k out s).2.2 = 0 -> out' = (allL k out s).1) /\ ((allL k out s).2.2 ≠ 0 -> (allL k out s).1 = [])
 | 0,i,out,s,a,hi,_,h0,hS,_=>by
  refine ⟨out,a,zO ?_,hS,fun _=>rfl,fun h=>absurd h0 h⟩;unfold yA;have:decide ((i:Int) < y7.1) = false:=by simp;omega
  simp only [this,cond_false,zA]
  rfl
 | k + 1,i,out,s,a,hi,hO,h0,hS,hl=>by
  have hc:decide ((i:Int) < y7.1) = true:=by simp;omega
  obtain ⟨a1,e1,s1⟩:=rGet_eq hB hO hS;have hlast:=zYa (out:=out) (by omega) (getS s).1 wh (fun y=>V.vN y _);have hw:IntKind.u64.wrap ((i:Int) + 1) = ((i + 1:Nat):Int):=by rw [wU64 (by omega) (by omega)];omega
  have hb:yA y7 ((i:Int),out,B,a,s.2) = pure (.next (((i + 1:Nat):Int),out ++ [(getS s).1],B,a1,(allT out s).2)):=by
   unfold yA;have e3:=D.jg (getS s).2.2 _ _ hlast;have e4:=D.Vs B a1 (decide ((getS s).2.2 = 0) && XT out (getS s).1) (getS s).2;rw [D.VM] at e4;simp only [hc,cond_true,decide_eq_true h0,zA,e1,zB];rw [e3,zA,e4,zA];simp only [];rw [zF (by simp;omega),hw]
   rfl
  have hs2:Sim B a1 (allT out s):=D.Xv s1 _;rw [zi hb]
  by_cases c:(allT out s).2 = 0
  ·obtain ⟨_,c2,c3⟩:=yaa c;have hlt:=vva hO c2;rw [VQ c];exact zaa hB hn k (i + 1) _ (allT out s) a1 (by omega) (jo hO out) c hs2 (by rw [c3];simp;omega)
  ·rw [Ui c];refine ⟨out ++ [(getS s).1],a1,zO ?_,hs2,fun h=>absurd h c,fun _=>rfl⟩;unfold yA;have hq:(cond (decide (((i + 1:Nat):Int) < y7.1)) (pure (decide ((allT out s).2 = 0))) (pure false):M Bool) = pure false:=by
    rw [decide_eq_false c];cases decide (((i + 1:Nat):Int) < y7.1) <;> rfl
   simp only [];rw [hq,zA]
   rfl
theorem Jh (hB:OkB B) (hO:Ok s) (h:Sim B a s) {most:Int} (hm:most <= 9223372036854775807):∃ a',ve most B a s.2 = pure ((allS most s).1,B,a',(allS most s).2.2) /\ Sim B a' (allS most s).2:=by
 obtain ⟨h1,h2,h3⟩:=N.yX hO;obtain ⟨a1,e1,s1⟩:=N.ZZ hB h;unfold ve allS;have hmost:(cond (decide (most < 0)) (pure 0) (pure most):M Int) = pure (max most 0):=by
  by_cases c:most < 0
  ·rw [decide_eq_true c,cond_true];congr 1;omega
  ·rw [decide_eq_false c,cond_false];congr 1;omega
 rw [hmost,zA,e1,zB,zA,wU64 (n:=max most 0) (by omega) (by omega)];have done:∀ (out:List TEvent) (a2:Int) (i:Int) (t:RS),t.2 ≠ 0 -> loop (yA ((numS s).1,B,a1,(numS s).2.2)) (i,out,B,a2,t.2) = pure (out,B,a2,t.2):=fun out a2 i t ht=>zO (by
  unfold yA;have hq:(cond (decide (i < (numS s).1)) (pure (decide (t.2 = 0))) (pure false):M Bool) = pure false:=by
   rw [decide_eq_false ht];cases decide (i < (numS s).1) <;> rfl
  simp only [];rw [hq,zA]
  rfl)
 by_cases c:max most 0 < (numS s).1
 ·have hF:=N.vb B a1 (numS s).2 (e:=3) (by decide);have hb:=N.xL (s:=(numS s).2) (e:=3) (by decide);rw [decide_eq_true c,cond_true,if_pos c,hF,zB,zA,zA];simp only [];rw [done _ _ _ _ hb,zA];simp only [decide_eq_false hb,Bool.not_false,cond_true];exact ⟨_,rfl,s1.fail (by decide)⟩
 ·rw [decide_eq_false c,cond_false,if_neg c,zA];simp only []
  by_cases c2:(numS s).2.2 = 0
  ·obtain ⟨out',a',e2,s2,q1,q2⟩:=zaa hB (y7:=((numS s).1,B,a1,(numS s).2.2)) ⟨h2,h3⟩ (numS s).1.toNat 0 [] (numS s).2 a1 (by simp;omega) h1 c2 s1 (by simp;have:=h1.len;omega);have e2':loop (yA ((numS s).1,B,a1,(numS s).2.2)) (0,[],B,a1,(numS s).2.2) = pure (out',B,a',(allL (numS s).1.toNat [] (numS s).2).2.2):=e2;rw [e2',zA];refine ⟨a',?_,s2⟩
   by_cases c3:(allL (numS s).1.toNat [] (numS s).2).2.2 = 0
   ·simp only [decide_eq_true c3,Bool.not_true,cond_false,q1 c3]
   ·simp only [decide_eq_false c3,Bool.not_false,cond_true,q2 c3]
  ·rw [D.xM c2] at *
   rw [done _ _ _ _ c2,zA];simp only [decide_eq_false c2,Bool.not_false,cond_true];exact ⟨_,rfl,s1⟩
abbrev SrtE (l:List TEvent):Prop:=l.Pairwise fun x y=>zV x.dot y.dot = true
theorem vxa {out:List TEvent} {x:TEvent} (hs:SrtE out) (h:XT out x = false):SrtE (out ++ [x]):=by
 unfold SrtE;rw [List.pairwise_append];refine ⟨hs,by simp,fun a ha b hb=>?_⟩;rw [List.mem_singleton.1 hb];rcases R.yc out with rfl | ⟨q,y,rfl⟩
 ·simp at ha
 ·have hy:zV y.dot x.dot = true:=by
   unfold XT at h;simp only [List.getLast?_append,List.getLast?_singleton,Option.some_or,D.xTa] at h;simpa using h
  rcases List.mem_append.1 ha with h5 | h5
  ·exact D.Xt ((List.pairwise_append.1 hs).2.2 a h5 y (by simp)) hy
  ·rw [List.mem_singleton.1 h5];exact hy
theorem Ji : ∀ (k:Nat) (out:List TEvent) (s:RS),Ok s -> s.2 = 0 -> SrtE out -> (∀ e ∈ out,OkE e /\ yP e = true) -> out.length + s.1.length <= 1000000000 ->
  SrtE (allL k out s).1 /\ (∀ e ∈ (allL k out s).1,OkE e /\ yP e = true) /\ (allL k out s).1.length <= 1000000000 /\ ((allL k out s).2.2 = 0 -> ∃ l,(allL k out s).1 = out ++ l /\ l.length = k /\ s.1 = l.flatMap encE ++ (allL k out s).2.1) /\ ((allL k out s).2.2 ≠ 0 -> (allL k out s).1 = [])
 | 0,out,s,_,h0,hs,hg,hl=>⟨hs,hg,by show out.length <= _;omega,fun _=>⟨[],by simp [allL],rfl,by simp [allL]⟩,fun h=>absurd h0 h⟩
 | k + 1,out,s,hO,h0,hs,hg,hl=>by
  by_cases c:(allT out s).2 = 0
  ·obtain ⟨c1,c2,c3⟩:=yaa c;obtain ⟨i1,i2,i3,i4⟩:=vua hO c2;have hlt:=vva hO c2;rw [VQ c];obtain ⟨q1,q2,q3,q4,q5⟩:=Ji k (out ++ [(getS s).1]) (allT out s) (jo hO out) c (vxa hs c1) (fun e he=>by
    rcases List.mem_append.1 he with h | h
    ·exact hg e h
    ·rw [List.mem_singleton.1 h];exact ⟨i3,i2⟩) (by rw [c3];simp;omega)
   refine ⟨q1,q2,q3,fun hz=>?_,q5⟩;obtain ⟨l,e1,e2,e3⟩:=q4 hz;refine ⟨(getS s).1 :: l,by rw [e1];simp,by simp [e2],?_⟩;rw [List.flatMap_cons,List.append_assoc,<- e3,c3];exact i4
  ·rw [Ui c];exact ⟨List.Pairwise.nil,by simp,by simp,fun h=>absurd h c,fun _=>rfl⟩
theorem jp {s:RS} (hO:Ok s) (most:Int):SrtE (allS most s).1 /\ (∀ e ∈ (allS most s).1,OkE e /\ yP e = true) /\ (allS most s).1.length <= 1000000000 /\ ((allS most s).2.2 = 0 -> s.1 = jm (allS most s).1 ++ (allS most s).2.1 /\ ((allS most s).1.length:Int) <= max most 0) /\ ((allS most s).2.2 ≠ 0 -> (allS most s).1 = []):=by
 obtain ⟨h1,h2,h3⟩:=N.yX hO;unfold allS
 by_cases c:max most 0 < (numS s).1
 ·rw [if_pos c];exact ⟨List.Pairwise.nil,by simp,by simp,fun h=>absurd h (N.xL (by decide)),fun _=>rfl⟩
 ·rw [if_neg c]
  by_cases c2:(numS s).2.2 = 0
  ·obtain ⟨q1,q2,q3,q4,q5⟩:=Ji (numS s).1.toNat [] (numS s).2 h1 c2 List.Pairwise.nil (by simp) (by simp;have:=h1.len;omega);refine ⟨q1,q2,q3,fun hz=>?_,q5⟩;obtain ⟨l,e1,e2,e3⟩:=q4 hz;rw [List.nil_append] at e1;rw [e1];refine ⟨?_,by omega⟩;rw [jm,List.append_assoc,<- e3,e2,Int.toNat_of_nonneg h2];exact D.Zb hO c2
  ·rw [D.xM c2];exact ⟨List.Pairwise.nil,by simp [allL],by simp [allL],fun h=>absurd h c2,fun _=>rfl⟩
theorem yba (e:TEvent) (h:e.kills.length <= 1000000000000):yo e = pure e:=by
 unfold yo;rw [D.QD _ h,zB,zA]
end Go.Ep.M.E

namespace Go.Ep.M.F
open Go
open E (OkE yP)

def hasD (l:List TDot) (d:TDot):Bool:=l.any fun x=>decide (x = d)
theorem y6a (l:List TDot) (d:TDot) (hl:l.length <= 1000000000000):Jy l d = pure (hasD l d):=by
 unfold Jy yY yu;have:=loopF (body:=yE l d) l (fun i=>(i:Int)) (fun _ x=>decide (x = d)) (fun i _=>Ex.ret (i:Int)) (pure (Ex.brk ())) (fun i x hx hi=>by
  have hd:decide ((i:Int) < (l.length:Int)) = true:=by simpa using hi
  unfold yE;simp only [hd,cond_true,zK hx,zA,D.ySa,yJ (show i < 9223372036854775807 by omega),ww,eq_comm (a:=d) (b:=x),decide_eq_true_eq]) (by
  unfold yE;simp [zA])
 rw [show (0:Int) = ((0:Nat):Int) from rfl,this];have hf:(l.zipIdx.find? fun y=>decide (y.1 = d)).isSome = hasD l d:=by
  rw [List.isSome_find?];unfold hasD;rw [Bool.eq_iff_iff,List.any_eq_true,List.any_eq_true]
  constructor
  ·rintro ⟨y,hy,h⟩;exact ⟨y.1,List.fst_mem_of_mem_zipIdx hy,h⟩
  ·rintro ⟨x,hx,h⟩;obtain ⟨i,hi⟩:=List.getElem?_of_mem hx;exact ⟨(x,i),by rw [List.mk_mem_zipIdx_iff_getElem?];exact hi,h⟩
 rw [<- hf]
 cases l.zipIdx.find? fun y=>decide (y.1 = d) with
 | none=>simp only [zA,zB,YG];rfl
 | some y=>simp only [zA,zB,Uu];simp
def vC (l:List TEvent) (d:TDot):Bool:=l.any fun e=>hasD e.kills d
theorem vya (l:List TEvent) (d:TDot) (hl:l.length <= 1000000000000) (hk:∀ e ∈ l,e.kills.length <= 1000000000000):wW l d = pure (vC l d):=by
 unfold wW;have:=xl (body:=uF l d) l (fun i=>(i:Int)) (fun _ x=>!hasD x.kills d) (Ex.brk ()) (Ex.ret true) (fun i x hx hi=>by
  have hd:decide ((i:Int) < (l.length:Int)) = true:=by simpa using hi
  unfold uF WN;simp only [hd,cond_true,zK hx,zA,y6a x.kills d (hk x (List.mem_of_getElem? hx)),zB,yJ (show i < 9223372036854775807 by omega)]
  cases hasD x.kills d <;> rfl) (by
  unfold uF;simp)
 rw [show (0:Int) = ((0:Nat):Int) from rfl,this,zA,E.WV l fun x=>!hasD x.kills d];have e:vC l d = !(l.all fun x=>!hasD x.kills d):=by simp [vC,List.all_eq_not_any_not]
 rw [e]
 cases l.all fun x=>!hasD x.kills d <;> rfl
theorem xba (l:List TEvent) (d:TDot) (hl:l.length <= 1000000000000) (hk:∀ e ∈ l,e.kills.length <= 1000000000000):YT l d = pure (vC l d):=by
 unfold YT;have:=xl (body:=YS l d) l (fun i=>(i:Int)) (fun _ x=>!hasD x.kills d) (Ex.brk ()) (Ex.ret true) (fun i x hx hi=>by
  have hd:decide ((i:Int) < (l.length:Int)) = true:=by simpa using hi
  unfold YS;simp only [hd,cond_true,zK hx,zA,E.jb x.kills d (hk x (List.mem_of_getElem? hx)),zB,yJ (show i < 9223372036854775807 by omega)];show cond (hasD x.kills d) _ _ = _
  cases hasD x.kills d <;> rfl) (by
  unfold YS;simp)
 rw [show (0:Int) = ((0:Nat):Int) from rfl,this,zA,E.WV l fun x=>!hasD x.kills d];have e:vC l d = !(l.all fun x=>!hasD x.kills d):=by simp [vC,List.all_eq_not_any_not]
 rw [e]
 cases l.all fun x=>!hasD x.kills d <;> rfl

def VR (l:List TDot) (c:List TPart):List TDot:=D.wP (l.filter fun d=>!C.hasC c d.dev d.n)
theorem vza (l : List TDot) (c : List TPart) (hl : l.length <= 1000000000) (hc : C.Sm c) : Zj l c = pure (VR l c) := by
  unfold Zj Va;have := Yg (body := uG l c false) l (fun i t => ((i : Int), t)) (fun t d => if C.hasC c d.dev d.n = true then t else t ++ [d]) (fun t => pure t) (fun i t => t.length <= i) (fun i x t hx hi hI => by
    have hd : decide ((i : Int) < (l.length : Int)) = true := by simpa using hi
    refine ⟨?_, by split
                   · omega
                   · simp; omega⟩
    unfold uG;simp only [hd, cond_true, zK hx, zA, C.y6a c x hc, zB, yJ (show i < 9223372036854775807 by omega)]
    by_cases c : C.hasC c x.dev x.n = true
    · rw [c, show (true == false) = false from rfl, cond_false, zA, if_pos rfl]
    · simp only [Bool.not_eq_true] at c;rw [c, show (false == false) = true from rfl, cond_true, zF (by simp; omega), zA]; rfl) (fun t _ => by
    unfold uG;simp [zA]) [] (by simp)
  have key : ∀ (l t : List TDot), l.foldl (fun t d => if C.hasC c d.dev d.n = true then t else t ++ [d]) t = t ++ l.filter fun d => !C.hasC c d.dev d.n := by
    intro l
    induction l with
    | nil => intro t; simp
    | cons x r ih =>
      intro t;rw [List.foldl_cons, ih]
      by_cases h : C.hasC c x.dev x.n = true
      · rw [if_pos h, List.filter_cons, if_neg (by simp [h])]
      · rw [if_neg h, List.filter_cons, if_pos (by simp [h]), List.append_assoc]; rfl
  rw [show (0 : Int) = ((0 : Nat) : Int) from rfl, this, zA, key, List.nil_append, D.yTa _ (by have := List.length_filter_le (fun d : TDot => !C.hasC c d.dev d.n) l; omega), zB, zA, zB, zA, VR]
theorem xca (l : List TDot) (c : List TPart) (hl : l.length <= 1000000000) (hc : C.Ok c) : Wo l c = pure (VR l c) := by
  unfold Wo;have := Yg (body := YU l c) l (fun i t => (t, (i : Int))) (fun t d => if C.hasC c d.dev d.n = true then t else D.insD t d) (fun t => pure t) (fun i t => t.length <= i) (fun i x t hx hi hI => by
    have hd : decide ((i : Int) < (l.length : Int)) = true := by simpa using hi
    refine ⟨?_, by split
                   · omega
                   · have := D.QC t x; omega⟩
    unfold YU;simp only [hd, cond_true, zK hx, zA, C.jb c x hc, zB, yJ (show i < 9223372036854775807 by omega)]
    by_cases c : C.hasC c x.dev x.n = true
    · rw [c, Bool.not_true, cond_false, zA, if_pos rfl]
    · simp only [Bool.not_eq_true] at c;rw [c, Bool.not_false, cond_true, D.yQa t x (by omega), zB, zA, zA]; rfl) (fun t _ => by
    unfold YU;simp [zA]) [] (by simp)
  have key : ∀ (l t : List TDot), l.foldl (fun t d => if C.hasC c d.dev d.n = true then t else D.insD t d) t = (l.filter fun d => !C.hasC c d.dev d.n).foldl D.insD t := by
    intro l
    induction l with
    | nil => intro t; rfl
    | cons x r ih =>
      intro t;rw [List.foldl_cons, ih]
      by_cases h : C.hasC c x.dev x.n = true
      · rw [if_pos h, List.filter_cons, if_neg (by simp [h])]
      · rw [if_neg h, List.filter_cons, if_pos (by simp [h])]; rfl
  rw [show (0 : Int) = ((0 : Nat) : Int) from rfl, this, zA, key]; rfl

def zq (l:List TEvent):List TDot:=l.flatMap fun e=>e.dot :: e.kills
def wV (l:List TEvent):List TDot:=D.wP (zq l)
theorem Uj (l:List TEvent) (k:Nat) (h:∀ e ∈ l,e.kills.length <= k):(zq l).length <= l.length * (k + 1):=by
 induction l with
 | nil=>simp [zq]
 | cons e r ih=>
  have h1:=ih fun x hx=>h x (by simp [hx])
  have h2:=h e (by simp);have e1:(zq (e :: r)).length = e.kills.length + 1 + (zq r).length:=by simp [zq];omega
  rw [e1,List.length_cons,Nat.add_mul];omega
theorem jq {l:List TEvent} {i:Nat} {x:TEvent} (h:l[i]? = some x):zq (l.take (i + 1)) = zq (l.take i) ++ x.dot :: x.kills:=by
 rw [List.take_add_one,h];simp [zq]
theorem zba (l:List TEvent) (i:Nat):(zq (l.take i)).length <= (zq l).length:=by
 have:zq l = zq (l.take i) ++ zq (l.drop i):=by unfold zq;rw [<- List.flatMap_append,List.take_append_drop]
 rw [this,List.length_append];omega
theorem QL (l:List TEvent) (hl:l.length <= 1000000000) (hs:(zq l).length <= 1000000000):Zk l = pure (wV l):=by
 unfold Zk;have key:∀ (k i:Nat),i + k = l.length -> loop (uH l) ((i:Int),zq (l.take i)) = pure (zq l):=by
  intro k
  induction k with
  | zero=>
   intro i hi;refine zO ?_;unfold uH;have:decide ((i:Int) < (l.length:Int)) = false:=by simp;omega
   simp only [this,cond_false];rw [List.take_of_length_le (by omega)]
  | succ k ih=>
   intro i hi;obtain ⟨x,hx⟩:∃ x,l[i]? = some x:=⟨_,List.getElem?_eq_getElem (by omega)⟩
   have hd:decide ((i:Int) < (l.length:Int)) = true:=by simp;omega
   have h1:=zba l (i + 1);rw [jq hx,List.length_append,List.length_cons] at h1;rw [zi (s':=(((i + 1:Nat):Int),zq (l.take (i + 1)))) ?_]
   ·exact ih (i + 1) (by omega)
   ·unfold uH;simp only [hd,cond_true,zK hx,zA,yJ (show i < 9223372036854775807 by omega)];rw [zF (by simp;omega),zF (by simp;omega),jq hx,List.append_assoc];rfl
 have:=key l.length 0 (by omega);rw [show zq (l.take 0) = [] from rfl] at this;rw [show (0:Int) = ((0:Nat):Int) from rfl,this,zA,D.yTa _ (by omega),zB,zA,wV]
theorem rdots_in (l:List TEvent) {i:Nat} {x:TEvent} (hx:l[i]? = some x) (hk:x.kills.length <= 1000000000) (s:List TDot) (hs:s.length <= 1000000000):loop (ub l (i:Int)) (s,0) = pure (x.kills.foldl D.insD s):=by
 have:=Yg (body:=ub l (i:Int)) x.kills (fun k t=>(t,(k:Int))) D.insD (fun t=>pure t) (fun k t=>t.length <= 1000000000 + k) (fun k d t hd hi hI=>by
  have hc:decide ((k:Int) < (x.kills.length:Int)) = true:=by simpa using hi
  refine ⟨?_,by have:=D.QC t d;omega⟩;unfold ub;simp only [zK hx,zA,hc,cond_true,zK hd,D.yQa t d (by omega),zB,yJ (show k < 9223372036854775807 by omega)]) (fun t _=>by
  unfold ub;simp [zK hx,zA]) s (by omega)
 exact this
theorem Uh (l:List TEvent) (hl:l.length <= 1000000) (hk:∀ e ∈ l,e.kills.length <= 300):Wp l = pure (wV l):=by
 unfold Wp;have key:∀ (k i:Nat),i + k = l.length -> loop (YV l) (D.wP (zq (l.take i)),(i:Int)) = pure (wV l):=by
  intro k
  induction k with
  | zero=>
   intro i hi;refine zO ?_;unfold YV;have:decide ((i:Int) < (l.length:Int)) = false:=by simp;omega
   simp only [this,cond_false];rw [List.take_of_length_le (by omega)];rfl
  | succ k ih=>
   intro i hi;obtain ⟨x,hx⟩:∃ x,l[i]? = some x:=⟨_,List.getElem?_eq_getElem (by omega)⟩
   have hd:decide ((i:Int) < (l.length:Int)) = true:=by simp;omega
   have h1:=zba l i;have h2:=Uj l 300 hk;have h3:=D.Xu (zq (l.take i));have h4:=D.QC (D.wP (zq (l.take i))) x.dot;have h5:=hk x (List.mem_of_getElem? hx);rw [zi (s':=(D.wP (zq (l.take (i + 1))),((i + 1:Nat):Int))) ?_]
   ·exact ih (i + 1) (by omega)
   ·unfold YV;simp only [hd,cond_true,zK hx,zA,D.yQa _ x.dot (show (D.wP (zq (l.take i))).length <= 1000000000000 by omega),zB,rdots_in l hx (show x.kills.length <= 1000000000 by omega) _ (show (D.insD (D.wP (zq (l.take i))) x.dot).length <= 1000000000 by omega),yJ (show i < 9223372036854775807 by omega)];rw [jq hx];unfold D.wP;rw [List.foldl_append];rfl
 have:=key l.length 0 (by omega);rw [show D.wP (zq (l.take 0)) = [] from rfl] at this;rw [show (0:Int) = ((0:Nat):Int) from rfl,this,zA]

def uy (l:List TEvent) (i:Nat) (x:TEvent):Bool:=decide (0 < i) && match l[i - 1]? with | some y=>decide (0 <= V.cmpD y.dot x.dot) | none=>false
theorem jr {β:Type} {l:List TEvent} {i:Nat} {x:TEvent} (hi:i < l.length) (hl:l.length <= 1000000000) (f:TDot -> TDot -> M Int) (hf:∀ a b,f a b = pure (V.cmpD a b)) (K:Bool -> M β) :
  (cond (decide (0 < (i:Int))) ((idx l (IntKind.i64.wrap ((i:Int) - 1))).bind fun y=>(det (f y.dot x.dot)).bind fun v=>K (decide (0 <= v))) (K false)) = K (uy l i x):=by
 unfold uy
 by_cases h:0 < i
 ·obtain ⟨y,hy⟩:∃ y,l[i - 1]? = some y:=⟨_,List.getElem?_eq_getElem (by omega)⟩
  have e:IntKind.i64.wrap ((i:Int) - 1) = ((i - 1:Nat):Int):=by rw [wI64 (by omega) (by omega)];omega
  have hd:decide (0 < (i:Int)) = true:=by simp;omega
  rw [hd,cond_true,e,zK hy,zA,hf,zB,zA,decide_eq_true h,Bool.true_and,hy]
 ·have hd:decide (0 < (i:Int)) = false:=by simp;omega
  rw [hd,cond_false,decide_eq_false h,Bool.false_and]
def bad1 (d:TDelta) (i:Nat) (e:TEvent):Bool:=!yP e || (uy d.events i e || (C.hasC d.from_ e.dot.dev e.dot.n || (decide (e.kind = 1) && vC d.events e.dot)))
def Yp (d:TDelta):Bool:=decide (d.from_ = C.zo d.from_) && (decide (d.to_ = C.zo d.to_) && (decide (C.opC (fun x y=>x && !y) d.from_ d.to_ = []) && (decide (d.events.length <= 4096) && ((d.events.zipIdx.all fun y=>!bad1 d y.2 y.1) && decide (VR (wV d.events) d.to_ = [])))))
structure OkD (d:TDelta):Prop where
 from_:C.Ok d.from_
 to_:C.Ok d.to_
 evs:∀ e ∈ d.events,OkE e
 len:d.events.length <= 1000000
 kills:∀ e ∈ d.events,e.kills.length <= 300
theorem yca {α:Type} [DecidableEq α] (l:List α):decide ((l.length:Int) = 0) = decide (l = []):=by
 cases l with
 | nil=>rfl
 | cons x r=>simp;omega
theorem wKa {d:TDelta} (h:OkD d):loop (wk d) 0 = pure (if (d.events.zipIdx.all fun y=>!bad1 d y.2 y.1) = true then Ex.brk () else Ex.ret false):=by
 have hl:=h.len;have:=xl (body:=wk d) d.events (fun i=>(i:Int)) (fun i x=>!bad1 d i x) (Ex.brk ()) (Ex.ret false) (fun i x hx hi=>by
  have hd:decide ((i:Int) < (d.events.length:Int)) = true:=by simpa using hi
  have hm:=List.mem_of_getElem? hx;have hp:=fun (K:Bool -> M (Step Int (Ex Unit Bool)))=>jr (x:=x) hi (by omega) we D.Jd K
  unfold wk;simp only [hd,cond_true,zK hx,zA,E.XM (h.evs x hm),C.y6a d.from_ x.dot h.from_.sm,vya d.events x.dot (by omega) (fun e he=>by have:=h.kills e he;omega),zB,yJ (show i < 9223372036854775807 by omega)];have hp:=jr (x:=x) hi (by omega) we D.Jd (fun b=>(pure b:M Bool));rw [hp];unfold bad1;simp only [zA]
  cases yP x with
  | false=>rfl
  | true=>
   cases C.hasC d.from_ x.dot.dev x.dot.n with
   | true=>cases uy d.events i x <;> rfl
   | false=>
    cases uy d.events i x with
    | true=>rfl
    | false=>
     cases decide (x.kind = 1) with
     | false=>rfl
     | true=>cases vC d.events x.dot <;> rfl) (by
  unfold wk;simp)
 rw [show (0:Int) = ((0:Nat):Int) from rfl,this]
theorem yda {d:TDelta} (h:OkD d):loop (uc d) 0 = pure (if (d.events.zipIdx.all fun y=>!bad1 d y.2 y.1) = true then Ex.brk () else Ex.ret false):=by
 have hl:=h.len;have:=xl (body:=uc d) d.events (fun i=>(i:Int)) (fun i x=>!bad1 d i x) (Ex.brk ()) (Ex.ret false) (fun i x hx hi=>by
  have hd:decide ((i:Int) < (d.events.length:Int)) = true:=by simpa using hi
  have hm:=List.mem_of_getElem? hx;unfold uc;simp only [hd,cond_true,zK hx,zA,E.ZT (h.evs x hm),C.jb d.from_ x.dot h.from_,xba d.events x.dot (by omega) (fun e he=>by have:=h.kills e he;omega),zB,yJ (show i < 9223372036854775807 by omega)];have hp:=jr (x:=x) hi (by omega) wh V.vN (fun b=>(cond b (pure true) (cond (C.hasC d.from_ x.dot.dev x.dot.n) (pure true) (cond (decide (x.kind = 1)) (pure (vC d.events x.dot)) (pure false))):M Bool));refine (congrArg (fun m:M Bool=>M.bind (cond (!yP x) (pure true) m) fun v70=>cond v70 (pure (Step.done (Ex.ret false))) (pure (Step.next ((i + 1:Nat):Int)))) hp).trans ?_;unfold bad1
  cases yP x with
  | false=>rfl
  | true=>
   cases C.hasC d.from_ x.dot.dev x.dot.n with
   | true=>cases uy d.events i x <;> rfl
   | false=>
    cases uy d.events i x with
    | true=>rfl
    | false=>
     cases decide (x.kind = 1) with
     | false=>rfl
     | true=>cases vC d.events x.dot <;> rfl) (by
  unfold uc;simp)
 rw [show (0:Int) = ((0:Nat):Int) from rfl,this]
theorem v0a (l:List TEvent):decide ((4096:Int) < (l.length:Int)) = !decide (l.length <= 4096):=by
 by_cases c:l.length <= 4096
 ·rw [decide_eq_true c];simp;omega
 ·rw [decide_eq_false c];simp;omega
theorem dlen {d:TDelta} (h:OkD d):(zq d.events).length <= 1000000000:=by have:=Uj d.events 300 h.kills;have:=h.len;omega
theorem QN {d:TDelta} (h:OkD d):Zm d = pure (Yp d):=by
 have h1:=h.len;have h2:=dlen h;have h3:(wV d.events).length <= 1000000000:=Nat.le_trans (D.Xu _) h2;unfold Zm Yp;rw [wKa h];simp only [C.XM _ h.from_.sm,C.XM _ h.to_.sm,C.vPa _ _ h.from_.sm h.to_.sm,QL d.events (by omega) h2,vza _ _ h3 h.to_.sm,zB,zA,v0a,yca]
 cases decide (d.from_ = C.zo d.from_) with
 | false=>rfl
 | true=>
  cases decide (d.to_ = C.zo d.to_) with
  | false=>rfl
  | true=>
   cases decide (C.opC (fun x y=>x && !y) d.from_ d.to_ = []) with
   | false=>rfl
   | true=>
    cases decide (d.events.length <= 4096) with
    | false=>rfl
    | true=>cases d.events.zipIdx.all fun y=>!bad1 d y.2 y.1 <;> rfl
theorem JJ {d:TDelta} (h:OkD d):Xr d = pure (Yp d):=by
 have h1:=h.len;have h2:=dlen h;have h3:(wV d.events).length <= 1000000000:=Nat.le_trans (D.Xu _) h2;unfold Xr Yp;rw [yda h];simp only [C.ZT _ h.from_,C.ZT _ h.to_,C.x8a _ _ h.from_ h.to_,Uh d.events (by omega) h.kills,xca _ _ h3 h.to_,zB,zA,v0a,yca]
 cases decide (d.from_ = C.zo d.from_) with
 | false=>rfl
 | true=>
  cases decide (d.to_ = C.zo d.to_) with
  | false=>rfl
  | true=>
   cases decide (C.opC (fun x y=>x && !y) d.from_ d.to_ = []) with
   | false=>rfl
   | true=>
    cases decide (d.events.length <= 4096) with
    | false=>rfl
    | true=>cases d.events.zipIdx.all fun y=>!bad1 d y.2 y.1 <;> rfl

open E (OkE yP)

end Go.Ep.M.F

namespace Go.Ep.M.G
open Go
open E (OkE yP SrtE)
open F (hasD zq wV)

theorem QO : ∀ {l l':List TEvent},SrtE l -> SrtE l' -> (∀ d,d ∈ l ↔ d ∈ l') -> l = l'
 | [],[],_,_,_=>rfl
 | [],y :: r,_,_,h=>by have:=(h y).2 (by simp);simp at this
 | x :: r,[],_,_,h=>by have:=(h x).1 (by simp);simp at this
 | x :: r,y :: t,h1,h2,h=>by
  have hx:=(h x).1 (by simp);have hy:=(h y).2 (by simp);have e:x = y:=by
   rcases List.mem_cons.1 hx with e | hx
   ·exact e
   ·rcases List.mem_cons.1 hy with e | hy
    ·exact e.symm
    ·have a1:=(List.pairwise_cons.1 h2).1 x hx;have a2:=(List.pairwise_cons.1 h1).1 y hy;rw [D.Vo a1] at a2;cases a2
  subst e
  congr 1
  refine QO (List.pairwise_cons.1 h1).2 (List.pairwise_cons.1 h2).2 fun d=>?_
  have h3:=h d;simp only [List.mem_cons] at h3
  constructor
  ·intro hd;rcases h3.1 (.inr hd) with e | h4
   ·have:=(List.pairwise_cons.1 h1).1 d hd;rw [e,D.UD] at this;cases this
   ·exact h4
  ·intro hd;rcases h3.2 (.inr hd) with e | h4
   ·have:=(List.pairwise_cons.1 h2).1 d hd;rw [e,D.UD] at this;cases this
   ·exact h4
theorem jt {l:List TEvent} (h:SrtE l):(l.map (·.dot)).Nodup:=by
 unfold List.Nodup;rw [List.pairwise_map];exact h.imp fun {a b} h e=>by rw [e,D.UD] at h;cases h
theorem vS {l:List TEvent} (h:SrtE l) (p:TEvent -> Bool):SrtE (l.filter p):=h.sublist List.filter_sublist
theorem v1a {s:List TEvent} (hn:(s.map (·.dot)).Nodup) (h:s.Pairwise fun x y=>YH y x = false):SrtE s:=by
 unfold List.Nodup at hn;rw [List.pairwise_map] at hn;refine (hn.and h).imp fun {a b} ⟨h1,h2⟩=>?_
 cases h3:zV a.dot b.dot with
 | true=>rfl
 | false=>exact absurd (D.zGa h3 h2) h1
theorem v2a {l:List TEvent} {Q:List TEvent -> Prop} (h:∀ s,s.Perm l -> (s.Pairwise fun x y=>YH y x = false) -> Q s):(srt YH l).wp Q:=by
 refine ⟨⟨l.mergeSort (fun x y=>!zV y.dot x.dot),List.mergeSort_perm _ _,?_⟩,fun s ⟨h1,h2⟩=>h s h1 h2⟩;refine (List.pairwise_mergeSort (fun a b c h1 h2=>?_) (fun a b=>?_) l).imp fun {x y} h=>by show zV y.dot x.dot = false;simpa using h
 ·simp only [Bool.not_eq_true'] at h1 h2 ⊢
  cases h3:zV c.dot a.dot with
  | false=>rfl
  | true=>
   rw [D.UC] at h3;have h4:¬ (zV b.dot a.dot = true):=by simp [h1]
   have h5:¬ (zV c.dot b.dot = true):=by simp [h2]
   rw [D.UC] at h4 h5;omega
 ·cases h1:zV b.dot a.dot with
  | false=>rfl
  | true=>rw [D.Vo h1];rfl

def ent (e:TEvent):TDot × TEvent:=(e.dot,e)
theorem ent_inj {a b:TEvent} (h:ent a = ent b):a = b:=(Prod.mk.inj h).2
theorem v3a {l:List TEvent} {k:TDot × TEvent}:k ∈ l.map ent ↔ k.2 ∈ l /\ k.1 = k.2.dot:=by
 rw [List.mem_map]
 constructor
 ·rintro ⟨e,h,rfl⟩;exact ⟨h,rfl⟩
 ·rintro ⟨h1,h2⟩;exact ⟨k.2,h1,by unfold ent;rw [<- h2]⟩
def Holds (m:List (TDot × TEvent)) (l:List TEvent):Prop:=m.Perm (l.map ent)
theorem Holds.keys {m:List (TDot × TEvent)} {l:List TEvent} (h:Holds m l) (hs:SrtE l):(m.map (·.1)).Nodup:=by
 have h1:=h.map (·.1);rw [List.map_map] at h1;exact h1.nodup_iff.2 (jt hs)
theorem Holds.mem {m:List (TDot × TEvent)} {l:List TEvent} (h:Holds m l) {k:TDot × TEvent}:k ∈ m ↔ k.2 ∈ l /\ k.1 = k.2.dot:=by rw [h.mem_iff,v3a]
theorem Holds.len {m:List (TDot × TEvent)} {l:List TEvent} (h:Holds m l):m.length = l.length:=by rw [h.length_eq,List.length_map]
theorem v4a {l:List TEvent} (h:SrtE l):(l.map ent).Nodup:=by
 unfold List.Nodup;rw [List.pairwise_map];exact h.imp fun {a b} h e=>by rw [ent_inj e,D.UD] at h;cases h
theorem holds_of {m:List (TDot × TEvent)} {l:List TEvent} (hn:(m.map (·.1)).Nodup) (hs:SrtE l) (h:∀ k,k ∈ m ↔ k.2 ∈ l /\ k.1 = k.2.dot):Holds m l:=by
 have hm:m.Nodup:=by
  unfold List.Nodup at hn ⊢;rw [List.pairwise_map] at hn;exact hn.imp fun {a b} h e=>h (by rw [e])
 exact (List.perm_ext_iff_of_nodup hm (v4a hs)).2 fun k=>by rw [h,v3a]
theorem yba (e:TEvent) (h:e.kills.length <= 1000000000000):yo e = pure e:=by
 unfold yo;rw [D.QD e.kills h,zB,zA]
theorem ju {body:List Nat × List TEvent -> M (Step (List Nat × List TEvent) (List TEvent))} (m:List (TDot × TEvent)) (hb:body = fun ⟨seen,out⟩=>need (∀ i ∈ seen,i < m.length)<|M.bind (nxt m.length seen) fun o=>match o with
  | none=>pure (.done out)
  | some j=>M.bind (idx m (Int.ofNat j)) fun kv=>M.bind (det (yo kv.2)) fun v=>need ((List.length out + List.length [v]) * 80 <= 140737488355328)<|pure (.next (seen ++ [j],out ++ [v])))
  (hl:m.length <= 500000000000) (hk:∀ k ∈ m,k.2.kills.length <= 1000000000000) (t0:List TEvent) (h0:t0.length <= 500000000000) {Q:List TEvent -> Prop} (hQ:∀ l:List (TDot × TEvent),l.Perm m -> Q (t0 ++ l.map (·.2))):(loop body ([],t0)).wp Q:=by
 refine M.loopM (body:=body) m (fun L (t:List TEvent)=>(L,t)) (fun t e=>(yo e.2).det.bind fun v=>need ((t.length + 1) * 80 <= 140737488355328) (pure (t ++ [v]))) (fun t=>pure t)
  (fun l t=>t = t0 ++ l.map (·.2)) Q (fun L t hL=>?_) (fun l t y ht hlen hy=>?_) (fun l t hp ht=>?_) t0 (by simp)
 ·subst hb;show need _ ((nxt _ _).bind _) = need _ ((nxt _ _).bind _);refine congrArg (fun k=>need _ ((nxt _ _).bind k)) (funext fun o=>?_)
  cases o with
  | none=>rfl
  | some i=>rfl
 ·rw [yba y.2 (hk y hy),zB,zA];subst ht;exact ⟨_,zF (by simp;omega) _,by simp⟩
 ·subst ht;exact hQ l hp
theorem xda {nl:Bool} {m:List (TDot × TEvent)} {l:List TEvent} (hm:Holds m l) (hs:SrtE l) (hl:l.length <= 500000000000) (hk:∀ e ∈ l,e.kills.length <= 1000000000000):vg nl m = pure l:=by
 unfold vg;refine uT (ju (body:=Yz m) m rfl (by rw [hm.len];exact hl) (fun k h=>hk _ (hm.mem.1 h).1) [] (by simp) fun q hq=>?_);show (need _ _).wp _;have hp:(q.map (·.2)).Perm l:=by
  have:=(hq.trans hm).map (·.2);rw [List.map_map] at this;simpa [Function.comp_def,ent] using this
 rw [List.nil_append,zF (by rw [hp.length_eq];omega)];refine v2a fun s h1 h2=>?_
 show s = l;have h3:=h1.trans hp;exact QO (v1a ((h3.map (·.dot)).nodup_iff.2 (jt hs)) h2) hs fun d=>h3.mem_iff
theorem list2_eq {nl1 nl2:Bool} {m1 m2:List (TDot × TEvent)} {l l1 l2:List TEvent} (h1:Holds m1 l1) (h2:Holds m2 l2) (hp:(l1 ++ l2).Perm l) (hs:SrtE l) (hl:l.length <= 200000000000) (hk:∀ e ∈ l,e.kills.length <= 1000000000000):ZI nl1 m1 nl2 m2 = pure l:=by
 have hll:=hp.length_eq;rw [List.length_append] at hll;have hk1:∀ k ∈ m1,k.2.kills.length <= 1000000000000:=fun k h=>hk _ (hp.mem_iff.1 (List.mem_append_left _ (h1.mem.1 h).1))
 have hk2:∀ k ∈ m2,k.2.kills.length <= 1000000000000:=fun k h=>hk _ (hp.mem_iff.1 (List.mem_append_right _ (h2.mem.1 h).1))
 unfold ZI;refine uT (ju (body:=Yw m1) m1 rfl (by rw [h1.len];omega) hk1 [] (by simp) fun q hq=>?_);have hq1:(q.map (·.2)).Perm l1:=by
  have:=(hq.trans h1).map (·.2);rw [List.map_map] at this;simpa [Function.comp_def,ent] using this
 refine ju (body:=Yx m2) m2 rfl (by rw [h2.len];omega) hk2 _ (by rw [List.nil_append,hq1.length_eq];omega) fun q2 hq2=>?_
 have hq3:(q2.map (·.2)).Perm l2:=by
  have:=(hq2.trans h2).map (·.2);rw [List.map_map] at this;simpa [Function.comp_def,ent] using this
 show (need _ _).wp _;rw [List.nil_append];have hpp:(q.map (·.2) ++ q2.map (·.2)).Perm l:=(hq1.append hq3).trans hp;rw [zF (by rw [hpp.length_eq];omega)];refine v2a fun s h3 h4=>?_
 show s = l;have h5:=h3.trans hpp;exact QO (v1a ((h5.map (·.dot)).nodup_iff.2 (jt hs)) h4) hs fun d=>h5.mem_iff

open E (OkE yP SrtE)
open F (hasD zq wV vC)

section
variable {κ ν:Type} [DecidableEq κ]
theorem mem_set {m:List (κ × ν)} (hn:(m.map (·.1)).Nodup) (x:κ) (v:ν) (k:κ × ν):k ∈ AL.set m x v ↔ (k ∈ m /\ k.1 ≠ x) \/ k = (x,v):=by
 induction m with
 | nil=>simp [AL.set]
 | cons y r ih=>
  obtain ⟨q,u⟩:=y;rw [List.map_cons,List.nodup_cons] at hn;unfold AL.set
  split
  ·rename_i e
   subst e;rw [List.mem_cons,List.mem_cons]
   constructor
   ·rintro (h | h)
    ·exact .inr h
    ·exact .inl ⟨.inr h,fun e=>hn.1 (e ▸ List.mem_map.2 ⟨k,h,rfl⟩)⟩
   ·rintro (⟨h | h,h2⟩ | h)
    ·subst h;exact absurd rfl h2
    ·exact .inr h
    ·exact .inl h
  ·rename_i e
   rw [List.mem_cons,List.mem_cons,ih hn.2]
   constructor
   ·rintro (h | ⟨h,h2⟩ | h)
    ·subst h;exact .inl ⟨.inl rfl,e⟩
    ·exact .inl ⟨.inr h,h2⟩
    ·exact .inr h
   ·rintro (⟨h | h,h2⟩ | h)
    ·exact .inl h
    ·exact .inr (.inl ⟨h,h2⟩)
    ·exact .inr (.inr h)
end
def insE (l:List TEvent) (e:TEvent):List TEvent:=(l.filter fun x=>zV x.dot e.dot) ++ [e] ++ (l.filter fun x=>zV e.dot x.dot)
theorem insE_srt {l:List TEvent} (hs:SrtE l) (e:TEvent):SrtE (insE l e):=by
 unfold insE SrtE;rw [List.pairwise_append,List.pairwise_append];refine ⟨⟨vS hs _,by simp,fun a ha b hb=>?_⟩,vS hs _,fun a ha b hb=>?_⟩
 ·rw [List.mem_singleton.1 hb];exact (List.mem_filter.1 ha).2
 ·have h2:=(List.mem_filter.1 hb).2;rcases List.mem_append.1 ha with h | h
  ·exact D.Xt (List.mem_filter.1 h).2 h2
  ·rw [List.mem_singleton.1 h];exact h2
theorem insE_mem {l:List TEvent} {e:TEvent} (hn:∀ x ∈ l,x.dot ≠ e.dot) {x:TEvent}:x ∈ insE l e ↔ x = e \/ x ∈ l:=by
 unfold insE;rw [List.mem_append,List.mem_append,List.mem_filter,List.mem_filter,List.mem_singleton]
 constructor
 ·rintro ((⟨h,_⟩ | h) | ⟨h,_⟩)
  ·exact .inr h
  ·exact .inl h
  ·exact .inr h
 ·rintro (h | h)
  ·exact .inl (.inr h)
  ·cases h1:zV x.dot e.dot with
   | true=>exact .inl (.inl ⟨h,rfl⟩)
   | false=>
    cases h2:zV e.dot x.dot with
    | true=>exact .inr ⟨h,rfl⟩
    | false=>exact absurd (D.zGa h1 h2) (hn x h)
theorem Holds.add {m:List (TDot × TEvent)} {l:List TEvent} (h:Holds m l) (hs:SrtE l) {e:TEvent} (hn:∀ x ∈ l,x.dot ≠ e.dot):Holds (AL.set m e.dot e) (insE l e):=
 holds_of (AL.nodup_set (h.keys hs) _ _) (insE_srt hs e) fun k=>by
  rw [mem_set (h.keys hs),h.mem,insE_mem hn]
  constructor
  ·rintro (⟨⟨h1,h2⟩,h3⟩ | h1)
   ·exact ⟨.inr h1,h2⟩
   ·rw [h1];exact ⟨.inl rfl,rfl⟩
  ·rintro ⟨h1 | h1,h2⟩
   ·refine .inr ?_;obtain ⟨k1,k2⟩:=k;simp only at h1 h2;rw [h2,h1]
   ·exact .inl ⟨⟨h1,h2⟩,by rw [h2];exact hn _ h1⟩

theorem filtL {ρ:Type} {body:Int × List TEvent -> M (Step (Int × List TEvent) ρ)} (l:List TEvent) (p:TEvent -> Bool) (g:List TEvent -> M ρ)
  (h1:∀ (i:Nat) (x:TEvent) (t:List TEvent),l[i]? = some x -> i < l.length -> t.length <= i -> body ((i:Int),t) = pure (.next (((i + 1:Nat):Int),if p x then t ++ [x] else t)))
  (h2:∀ t,body ((l.length:Int),t) = (g t).bind fun r=>pure (.done r)):loop body (0,[]) = g (l.filter p):=by
 have h:=Yg (body:=body) l (fun i (t:List TEvent)=>((i:Int),t)) (fun t x=>if p x then t ++ [x] else t) g (fun i t=>t.length <= i)
  (fun i x t hx hi hI=>⟨h1 i x t hx hi hI,by split <;> (try rw [List.length_append,List.length_singleton]) <;> omega⟩) (fun t _=>h2 t) [] (Nat.le_refl _)
 have hf:∀ (q t:List TEvent),q.foldl (fun t x=>if p x then t ++ [x] else t) t = t ++ q.filter p:=by
  intro q
  induction q with
  | nil=>intro t;simp
  | cons x r ih=>intro t;rw [List.foldl_cons,ih,List.filter_cons];split <;> simp
 rw [hf,List.nil_append] at h;exact h
theorem zca {e:TEvent} (h:yP e = true):e.kind = 1 \/ e.kind = 2:=by
 simp only [yP,E.vpa,Bool.and_eq_true,Bool.or_eq_true,decide_eq_true_eq] at h;rcases h.2.1 with h | h
 ·exact .inl h.1
 ·exact .inr h.1
theorem wLa {e:TEvent} (h:yP e = true):e.kills.length <= 256 /\ D.Srt e.kills /\ ∀ d ∈ e.kills,V.yS d = true /\ d ≠ e.dot:=by
 simp only [yP,E.yZa,Bool.and_eq_true,decide_eq_true_eq,List.all_eq_true,Bool.not_eq_true',decide_eq_false_iff_not] at h;exact ⟨h.2.2.1,D.xSa.1 h.2.2.2.1,fun d hd=>h.2.2.2.2 d hd⟩
open E (OkE yP SrtE)
open F (hasD zq wV vC)

def Zc (L:List TEvent):List TEvent:=L.filter fun e=>decide (e.kind = 1)
def Zd (L:List TEvent):List TEvent:=L.filter fun e=>decide (e.kind = 2)
theorem Uk {L:List TEvent} {x:TEvent}:x ∈ Zc L ↔ x ∈ L /\ x.kind = 1:=by simp [Zc]
theorem Ul {L:List TEvent} {x:TEvent}:x ∈ Zd L ↔ x ∈ L /\ x.kind = 2:=by simp [Zd]
structure Rep (n:Nat) (W c xc:List TPart) (nl1:Bool) (m1:List (TDot × TEvent)) (nl2:Bool) (m2:List (TDot × TEvent)) (L:List TEvent):Prop where
 ctx:c = C.zo W
 xctx:∀ k n,C.hasC xc k n = C.hasC W k n
 xok:C.Ok xc
 live:Holds m1 (Zc L)
 tomb:Holds m2 (Zd L)
 n1:nl1 = true -> m1 = []
 n2:nl2 = true -> m2 = []
 srt:SrtE L
 good:∀ e ∈ L,yP e = true /\ OkE e
 dots:∀ d ∈ zq L,C.hasC W d.dev d.n = true
 alive:∀ e ∈ L,e.kind = 1 -> vC L e.dot = false
 wl:W.length <= n
 wt:C.totC W <= n
 ll:L.length <= n
theorem xea {W:List TPart} (h1:W.length <= 400000000) (h2:C.totC W <= 400000000):C.Ok (C.zo W):=
 ⟨fun p hp=>by have:=((C.vQ W).nf p hp).1;omega,by have:=C.XK W;omega,by have:=C.XL W;omega⟩
section
variable {n:Nat} {W c xc:List TPart} {nl1:Bool} {m1:List (TDot × TEvent)} {nl2:Bool} {m2:List (TDot × TEvent)} {L:List TEvent}
theorem Rep.mono (hR:Rep n W c xc nl1 m1 nl2 m2 L) {k:Nat} (h:n <= k):Rep k W c xc nl1 m1 nl2 m2 L:=
 { hR with wl:=Nat.le_trans hR.wl h,wt:=Nat.le_trans hR.wt h,ll:=Nat.le_trans hR.ll h }
theorem Rep.okc (hR:Rep n W c xc nl1 m1 nl2 m2 L) (hn:n <= 100000000):C.Ok c:=by
 rw [hR.ctx];exact xea (by have:=hR.wl;omega) (by have:=hR.wt;omega)
theorem Rep.new : Rep 0 [] [] [] true [] true [] [] where
 ctx:=rfl
 xctx _ _:=rfl
 xok:=C.ok_nil
 live:=List.Perm.refl _
 tomb:=List.Perm.refl _
 n1 _:=rfl
 n2 _:=rfl
 srt:=List.Pairwise.nil
 good _ h:=by cases h
 dots _ h:=by cases h
 alive _ h:=by cases h
 wl:=Nat.le_refl _
 wt:=Nat.le_refl _
 ll:=Nat.le_refl _
theorem add_eq {e:TEvent} (hk:e.kills.length <= 1000000000000) {nl:Bool} {m:List (TDot × TEvent)} (h:nl = true -> m = []):Zq e nl m = pure (false,AL.set m e.dot e):=by
 unfold Zq;have h1:(cond nl (M.pure ([]:List (TDot × TEvent))) (M.pure m)) = M.pure m:=by
  cases nl with
  | true=>rw [h rfl];rfl
  | false=>rfl
 rw [h1,zA,yba e hk,zB,zA]
end

open E (OkE yP SrtE)
open F (hasD zq wV vC)

section
variable {n:Nat} {W c xc:List TPart} {nl1:Bool} {m1:List (TDot × TEvent)} {nl2:Bool} {m2:List (TDot × TEvent)} {L:List TEvent}
theorem xfa (L:List TEvent):(Zc L).length <= L.length:=List.length_filter_le _ _
theorem xga (L:List TEvent):(Zd L).length <= L.length:=List.length_filter_le _ _
theorem Rep.kl (hR:Rep n W c xc nl1 m1 nl2 m2 L):∀ e ∈ L,e.kills.length <= 256:=fun e he=>(wLa (hR.good e he).1).1
theorem Rep.Live (hR:Rep n W c xc nl1 m1 nl2 m2 L) (hn:n <= 100000000):xy c nl1 m1 nl2 m2 = pure (Zc L):=by
 unfold xy;rw [xda hR.live (vS hR.srt _) (by have:=xfa L;have:=hR.ll;omega) (fun e he=>by have:=hR.kl e (Uk.1 he).1;omega),zB,zA]
theorem Rep.Tombs (hR:Rep n W c xc nl1 m1 nl2 m2 L) (hn:n <= 100000000):xf c nl1 m1 nl2 m2 = pure (Zd L):=by
 unfold xf;rw [xda hR.tomb (vS hR.srt _) (by have:=xga L;have:=hR.ll;omega) (fun e he=>by have:=hR.kl e (Ul.1 he).1;omega),zB,zA]
theorem wMa (L:List TEvent) (h:∀ e ∈ L,e.kind = 1 \/ e.kind = 2):(Zc L ++ Zd L).Perm L:=by
 induction L with
 | nil=>exact List.Perm.refl _
 | cons x r ih=>
  have ih:=ih fun e he=>h e (by simp [he])
  rcases h x (by simp) with h1 | h1
  ·have e1:Zc (x :: r) = x :: Zc r:=by unfold Zc;rw [List.filter_cons,if_pos (by simp [h1])]
   have e2:Zd (x :: r) = Zd r:=by unfold Zd;rw [List.filter_cons,if_neg (by simp [h1])]
   rw [e1,e2];exact ih.cons x
  ·have e1:Zc (x :: r) = Zc r:=by unfold Zc;rw [List.filter_cons,if_neg (by simp [h1])]
   have e2:Zd (x :: r) = x :: Zd r:=by unfold Zd;rw [List.filter_cons,if_pos (by simp [h1])]
   rw [e1,e2];exact List.perm_middle.trans (ih.cons x)
theorem Rep.kinds (hR:Rep n W c xc nl1 m1 nl2 m2 L):∀ e ∈ L,e.kind = 1 \/ e.kind = 2:=fun e he=>zca (hR.good e he).1
theorem Rep.All (hR:Rep n W c xc nl1 m1 nl2 m2 L) (hn:n <= 100000000):xS c nl1 m1 nl2 m2 = pure L:=by
 unfold xS;rw [list2_eq hR.live hR.tomb (wMa L hR.kinds) hR.srt (by have:=hR.ll;omega) (fun e he=>by have:=hR.kl e he;omega),zB,zA]
theorem Rep.Ctx (hR:Rep n W c xc nl1 m1 nl2 m2 L) (hn:n <= 100000000):xR c nl1 m1 nl2 m2 = pure (C.zo W):=by
 unfold xR;rw [C.qy c (hR.okc hn).sm,zB,zA,hR.ctx,C.Vn (C.vQ W)]
theorem xha (l:List TEvent) (k:Int) (hl:l.length <= 1000000000):Wr l k = pure (l.filter fun e=>decide (e.kind = k)):=by
 unfold Wr;rw [filtL (body:=YX l k) l (fun e=>decide (e.kind = k)) (fun t=>pure t) (fun i x t hx hi hI=>by
  have hd:decide ((i:Int) < (l.length:Int)) = true:=by simpa using hi
  unfold YX;simp only [hd,cond_true,zK hx,zA,yJ (show i < 9223372036854775807 by omega)]
  cases decide (x.kind = k) <;> simp only [cond_true,cond_false,zA,if_true,if_false,Bool.false_eq_true]
  rw [zF (by simp;omega)]
  rfl) (fun t=>by unfold YX;simp [zA]),zA]
theorem Rep.rLive (hR:Rep n W c xc nl1 m1 nl2 m2 L) (hn:n <= 100000000) (y:List TPart):Ws ⟨y,L⟩ = pure (Zc L):=by
 unfold Ws;rw [xha L 1 (by have:=hR.ll;omega),zB,zA]
 rfl
theorem Rep.rTombs (hR:Rep n W c xc nl1 m1 nl2 m2 L) (hn:n <= 100000000) (y:List TPart):Yy ⟨y,L⟩ = pure (Zd L):=by
 unfold Yy;rw [xha L 2 (by have:=hR.ll;omega),zB,zA]
 rfl
theorem Rep.Is (hR:Rep n W c xc nl1 m1 nl2 m2 L) (hn:n <= 100000000):UW ⟨xc,L⟩ c nl1 m1 nl2 m2 = pure 1:=by
 unfold UW;have hx:C.zo xc = C.zo W:=C.jZ hR.xctx;have hll:=hR.ll;have hk:=hR.kl;have hE:=C.vQa (C.zo W) (C.zo W) ((hR.ctx ▸ hR.okc hn:C.Ok (C.zo W)).sm);have a1:=E.QM (Zc L) (Zc L) (by have:=xfa L;omega) (fun e he=>by have:=hk e (Uk.1 he).1;omega);have a2:=E.QM (Zd L) (Zd L) (by have:=xga L;omega) (fun e he=>by have:=hk e (Ul.1 he).1;omega);have a3:=E.QM L L (by omega) (fun e he=>by have:=hk e he;omega);rw [hR.Ctx hn,zB,zA,show (⟨xc,L⟩:R18Book).ctx = xc from rfl,C.Uc xc hR.xok,zB,zA,hx,hE,zB,zA,decide_eq_true rfl,cond_true,hR.Live hn,zB,zA,hR.rLive hn,zB,zA,a1,zB,zA,decide_eq_true rfl,cond_true,
  hR.Tombs hn,zB,zA,hR.rTombs hn,zB,zA,a2,zB,zA,decide_eq_true rfl,cond_true,hR.All hn,zB,zA,show (⟨xc,L⟩:R18Book).l = L from rfl,a3,zB,zA,decide_eq_true rfl]
 rfl
end

open E (OkE yP SrtE)
open F (hasD zq wV vC)

section
variable {n:Nat} {W c xc:List TPart} {nl1:Bool} {m1:List (TDot × TEvent)} {nl2:Bool} {m2:List (TDot × TEvent)} {L:List TEvent}
end

open E (OkE yP SrtE)
open F (hasD zq wV vC)

section
variable {n:Nat} {W c xc:List TPart} {nl1:Bool} {m1:List (TDot × TEvent)} {nl2:Bool} {m2:List (TDot × TEvent)} {L:List TEvent}
end
structure InA (a:L18Act):Prop where
 ev:a.event.kills.length <= 300 /\ a.event.text.size <= 200 -> OkE a.event
 dev:∀ p ∈ a.ctx,0 <= p.dev
open E (OkE yP SrtE)
open F (hasD zq wV vC)

def exB : TEvent:=⟨⟨1,2⟩,2,281474976710657,0,⟨#[]⟩,[]⟩
theorem okB : OkE exB:=⟨⟨by decide,by decide,by decide,by decide⟩,by decide,by decide,by decide,by decide,(fun d hd=>nomatch hd),by decide⟩
open E (OkE yP SrtE)
open F (hasD zq wV vC uy VR)

def badF (l:List TEvent) (i:Nat) (e:TEvent):Bool:=!yP e || (uy l i e || (decide (e.kind = 1) && vC l e.dot))
def v5a (c:List TPart) (l:List TEvent):Bool:=(l.zipIdx.all fun y=>!badF l y.2 y.1) && (decide (c = C.zo c) && decide (VR (wV l) c = []))
theorem zda {l:List TEvent} {e:TEvent} (h:∀ x ∈ l,zV x.dot e.dot = true):insE l e = l ++ [e]:=by
 unfold insE;rw [List.filter_eq_self.2 h,List.filter_eq_nil_iff.2 fun x hx=>by rw [D.Vo (h x hx)];simp];simp
theorem prev_srt {l:List TEvent} {i:Nat} {x:TEvent} (hx:l[i]? = some x) (hs:SrtE (l.take i)) (hp:uy l i x = false):SrtE (l.take (i + 1)) /\ ∀ z ∈ l.take i,zV z.dot x.dot = true:=by
 have htk:l.take (i + 1) = l.take i ++ [x]:=by rw [List.take_add_one,hx];rfl
 have hlt:i < l.length:=(List.getElem?_eq_some_iff.1 hx).1;have hall:∀ z ∈ l.take i,zV z.dot x.dot = true:=by
  intro z hz;obtain ⟨j,hj⟩:=List.getElem?_of_mem hz;have hji:j < (l.take i).length:=(List.getElem?_eq_some_iff.1 hj).1;rw [List.length_take] at hji;obtain ⟨y,hy⟩:∃ y,l[i - 1]? = some y:=⟨_,List.getElem?_eq_getElem (by omega)⟩
  unfold uy at hp;rw [decide_eq_true (show 0 < i by omega),Bool.true_and,hy] at hp;have hyx:zV y.dot x.dot = true:=V.Ua.1 (by simpa using hp)
  by_cases e:j = i - 1
  ·have:(l.take i)[j]? = l[j]?:=by rw [List.getElem?_take,if_pos (by omega)]
   rw [this,e,hy] at hj
   cases hj;exact hyx
  ·have h2:(l.take i)[i - 1]? = some y:=by rw [List.getElem?_take,if_pos (by omega)];exact hy
   have h3:=List.pairwise_iff_getElem.1 hs j (i - 1) (by rw [List.length_take];omega) (by rw [List.length_take];omega) (by omega);rw [(List.getElem?_eq_some_iff.1 hj).2,(List.getElem?_eq_some_iff.1 h2).2] at h3;exact D.Xt h3 hyx
 refine ⟨?_,hall⟩;rw [htk];unfold SrtE;rw [List.pairwise_append];exact ⟨hs,by simp,fun a ha b hb=>by rw [List.mem_singleton.1 hb];exact hall a ha⟩
theorem zea (l:List TEvent) (x:TEvent):Zc (l ++ [x]) = Zc l ++ (if x.kind = 1 then [x] else []):=by
 unfold Zc;rw [List.filter_append,List.filter_cons];by_cases h:x.kind = 1 <;> simp [h]
theorem zfa (l:List TEvent) (x:TEvent):Zd (l ++ [x]) = Zd l ++ (if x.kind = 2 then [x] else []):=by
 unfold Zd;rw [List.filter_append,List.filter_cons];by_cases h:x.kind = 2 <;> simp [h]
theorem from_bad {l:List TEvent} (hl:l.length <= 1000000) (hk:∀ e ∈ l,OkE e /\ e.kills.length <= 300) {i:Nat} {x:TEvent} (hx:l[i]? = some x) :
  (M.bind (M.det (vH x)) fun v84=>cond (!v84) (M.pure true) (cond (decide (0 < (i:Int)))
   (M.bind (M.idx l (IntKind.i64.wrap ((i:Int) - 1))) fun x88=>M.bind (M.det (we x88.dot x.dot)) fun v90=>cond (decide (0 <= v90)) (M.pure true) (cond (decide (x.kind = 1)) (M.bind (M.det (wW l x.dot)) fun v94=>M.pure v94) (M.pure false)))
   (cond (decide (x.kind = 1)) (M.bind (M.det (wW l x.dot)) fun v97=>M.pure v97) (M.pure false))):M Bool) = pure (badF l i x):=by
 have hm:=List.mem_of_getElem? hx;have hi:i < l.length:=(List.getElem?_eq_some_iff.1 hx).1;rw [E.XM (hk x hm).1,zB,zA,F.vya l x.dot (by omega) (fun e he=>by have:=(hk e he).2;omega),zB,zA];have hp:=F.jr (x:=x) hi (by omega) we D.Jd (fun b=>(cond b (M.pure true) (cond (decide (x.kind = 1)) (M.pure (vC l x.dot)) (M.pure false)):M Bool));simp only [cond_false] at hp;rw [hp];unfold badF
 cases yP x <;> cases uy l i x <;> cases decide (x.kind = 1) <;> rfl
theorem v6a {l:List TEvent} (hl:l.length <= 1000000) (hk:∀ e ∈ l,OkE e /\ e.kills.length <= 300) :
  ∀ (k i:Nat) (nl2:Bool) (m2:List (TDot × TEvent)) (nl1:Bool) (m1:List (TDot × TEvent)),i + k = l.length -> SrtE (l.take i) -> (∀ e ∈ l.take i,yP e = true) -> Holds m1 (Zc (l.take i)) -> Holds m2 (Zd (l.take i)) -> (nl1 = true -> m1 = []) -> (nl2 = true -> m2 = []) ->
   if ((l.drop i).zipIdx i).all (fun y=>!badF l y.2 y.1) = true then ∃ b q a p,loop (zu l) ((i:Int),nl2,m2,nl1,m1) = pure (Ex.brk (b,q,a,p)) /\ SrtE l /\ (∀ e ∈ l,yP e = true) /\ Holds p (Zc l) /\ Holds q (Zd l) /\ (a = true -> p = []) /\ (b = true -> q = [])
   else loop (zu l) ((i:Int),nl2,m2,nl1,m1) = pure (Ex.ret (.inl ())):=by
 intro k
 induction k with
 | zero=>
  intro i nl2 m2 nl1 m1 hi hs hg h1 h2 h3 h4;have e:i = l.length:=by omega
  subst e;rw [List.drop_length,if_pos (by simp)];rw [List.take_length] at hs hg h1 h2;refine ⟨nl2,m2,nl1,m1,?_,hs,hg,h1,h2,h3,h4⟩;refine zO ?_;unfold zu;simp
 | succ k ih=>
  intro i nl2 m2 nl1 m1 hi hs hg h1 h2 h3 h4;obtain ⟨x,hx⟩:∃ x,l[i]? = some x:=⟨_,List.getElem?_eq_getElem (by omega)⟩
  have hm:=List.mem_of_getElem? hx;have hdr:l.drop i = x :: l.drop (i + 1):=by
   rw [List.drop_eq_getElem_cons (by omega)]
   congr 1
   rw [List.getElem?_eq_getElem (by omega)] at hx;exact Option.some.inj hx
  have htk:l.take (i + 1) = l.take i ++ [x]:=by rw [List.take_add_one,hx];rfl
  have hd:decide ((i:Int) < (l.length:Int)) = true:=by simp;omega
  have hb:=from_bad hl hk hx;rw [hdr,List.zipIdx_cons,List.all_cons]
  cases hbad:badF l i x with
  | true=>
   simp only [Bool.not_true,Bool.false_and,Bool.false_eq_true,if_false];refine zO ?_;unfold zu;simp only [hd,cond_true,zK hx,zA];rw [hb,zA,hbad]
   rfl
  | false=>
   simp only [Bool.not_false,Bool.true_and];have hgx:yP x = true:=by
    unfold badF at hbad;simp only [Bool.or_eq_false_iff,Bool.not_eq_false'] at hbad;exact hbad.1
   have hpx:uy l i x = false:=by
    unfold badF at hbad;simp only [Bool.or_eq_false_iff] at hbad;exact hbad.2.1
   obtain ⟨hs',hall⟩:=prev_srt hx hs hpx;have hg':∀ e ∈ l.take (i + 1),yP e = true:=fun e he=>by
    rw [htk] at he;rcases List.mem_append.1 he with h | h
    ·exact hg e h
    ·rw [List.mem_singleton.1 h];exact hgx
   have hxk:=(hk x hm).2;rcases zca hgx with hkd | hkd
   ·have hb2:zu l ((i:Int),nl2,m2,nl1,m1) = pure (.next (((i + 1:Nat):Int),nl2,m2,false,AL.set m1 x.dot x)):=by
     unfold zu;simp only [hd,cond_true,zK hx,zA];rw [hb,zA,hbad,decide_eq_true hkd];simp only [cond_false,cond_true,add_eq (show x.kills.length <= 1000000000000 by omega) h3,zB,zA,YG,yJ (show i < 9223372036854775807 by omega)]
    rw [zi hb2];refine ih (i + 1) nl2 m2 false _ (by omega) hs' hg' ?_ ?_ (fun h=>by cases h) h4
    ·rw [htk,zea,if_pos hkd,<- zda (fun z hz=>hall z (Uk.1 hz).1)];exact h1.add (vS hs _) fun z hz e=>by have:=hall z (Uk.1 hz).1;rw [e,D.UD] at this;cases this
    ·rw [htk,zfa,if_neg (by omega),List.append_nil];exact h2
   ·have hb2:zu l ((i:Int),nl2,m2,nl1,m1) = pure (.next (((i + 1:Nat):Int),false,AL.set m2 x.dot x,nl1,m1)):=by
     unfold zu;simp only [hd,cond_true,zK hx,zA];rw [hb,zA,hbad,decide_eq_false (show ¬ x.kind = 1 by omega)];simp only [cond_false,add_eq (show x.kills.length <= 1000000000000 by omega) h4,zB,zA,YG,yJ (show i < 9223372036854775807 by omega)]
    rw [zi hb2];refine ih (i + 1) false _ nl1 m1 (by omega) hs' hg' ?_ ?_ h3 (fun h=>by cases h)
    ·rw [htk,zea,if_neg (by omega),List.append_nil];exact h1
    ·rw [htk,zfa,if_pos hkd,<- zda (fun z hz=>hall z (Ul.1 hz).1)];exact h2.add (vS hs _) fun z hz e=>by have:=hall z (Ul.1 hz).1;rw [e,D.UD] at this;cases this
theorem drop_nil {l:List TDot} {c:List TPart} (h:VR l c = []):∀ d ∈ l,C.hasC c d.dev d.n = true:=fun d hd=>by
 cases hc:C.hasC c d.dev d.n with
 | true=>rfl
 | false=>
  have:d ∈ VR l c:=D.VK.2 (List.mem_filter.2 ⟨hd,by simp [hc]⟩);rw [h] at this;cases this
theorem From_eq {c:List TPart} {l:List TEvent} (hc:C.Ok c) {n:Nat} (h1:c.length <= n) (h2:C.totC c <= n) (hl:l.length <= n) (hn:n <= 1000000) (hk:∀ e ∈ l,OkE e /\ e.kills.length <= 300) :
  if v5a c l = true then ∃ a p b q,ug c l = pure (.inr (C.zo c,a,p,b,q)) /\ Rep n c (C.zo c) c a p b q l else ug c l = pure (.inl ()):=by
 have hlen:=F.Uj l 300 fun e he=>(hk e he).2
 have hdl:(wV l).length <= (zq l).length:=D.Xu _;have key:=v6a (l:=l) (by omega) hk l.length 0 true [] true [] (by omega) (by simp [SrtE]) (by simp) (by simp [Holds,Zc]) (by simp [Holds,Zd]) (fun _=>rfl) (fun _=>rfl);rw [List.drop_zero] at key;have h0:loop (zu l) (((0:Nat):Int),true,[],true,[]) = loop (zu l) (0,true,[],true,[]):=rfl;rw [h0] at key;unfold v5a;unfold ug;rw [C.qy c hc.sm,zB,zA]
 cases ha:(l.zipIdx.all fun y=>!badF l y.2 y.1) with
 | false=>
  rw [ha,if_neg (by simp)] at key;rw [Bool.false_and,if_neg (by simp),key,zA,Uu]
 | true=>
  rw [ha,if_pos rfl] at key;obtain ⟨b,q,a,p,e1,hs,hg,g1,g2,g3,g4⟩:=key;rw [e1,zA,YG,Bool.true_and];simp only [];rw [C.XM c hc.sm,zB,zA,F.QL l (by omega) (by omega),zB,zA,F.vza (wV l) c (by omega) hc.sm,zB,zA];have hdec:decide (0 < ((VR (wV l) c).length:Int)) = !decide (VR (wV l) c = []):=by
   cases VR (wV l) c with
   | nil=>rfl
   | cons x r=>simp <;> omega
  rw [hdec]
  cases hcn:decide (c = C.zo c) with
  | false=>rw [Bool.false_and,if_neg (by simp)];rfl
  | true=>
   rw [Bool.true_and,Bool.not_true,cond_false,zA]
   cases hdn:decide (VR (wV l) c = []) with
   | false=>rw [if_neg (by simp)];rfl
   | true=>
    rw [if_pos rfl];refine ⟨a,p,b,q,rfl,⟨rfl,fun _ _=>rfl,hc,g1,g2,g3,g4,hs,fun e he=>⟨hg e he,(hk e he).1⟩,fun d hd=>drop_nil (of_decide_eq_true hdn) d (D.VK.2 hd),fun e he h1=>?_,h1,h2,hl⟩⟩;rw [List.all_eq_true] at ha;obtain ⟨i,hi⟩:=List.getElem?_of_mem he;have:=ha (e,i) (by rw [List.mem_zipIdx_iff_getElem?];exact hi);simp only [Bool.not_eq_true',badF,Bool.or_eq_false_iff,Bool.and_eq_false_iff] at this;rcases this.2.2 with h | h
    ·exact absurd h1 (of_decide_eq_false h)
    ·exact h
theorem rFrom_eq {c:List TPart} {l:List TEvent} (hc:C.Ok c) (hl:l.length <= 1000000) (hk:∀ e ∈ l,OkE e /\ e.kills.length <= 300):UV c l = pure (v5a c l):=by
 unfold UV v5a;have:=xl (body:=YW l) l (fun i=>(i:Int)) (fun i x=>!badF l i x) (Ex.brk ()) (Ex.ret false) (fun i x hx hi=>by
  have hd:decide ((i:Int) < (l.length:Int)) = true:=by simpa using hi
  have hm:=List.mem_of_getElem? hx;unfold YW;simp only [hd,cond_true,zK hx,zA,E.ZT (hk x hm).1,F.xba l x.dot (by omega) (fun e he=>by have:=(hk e he).2;omega),zB,yJ (show i < 9223372036854775807 by omega)];have hp:=F.jr (x:=x) hi (by omega) wh V.vN (fun b=>(cond b (M.pure true) (cond (decide (x.kind = 1)) (M.pure (vC l x.dot)) (M.pure false)):M Bool));simp only [cond_false] at hp;rw [hp];unfold badF
  cases yP x <;> cases uy l i x <;> cases decide (x.kind = 1) <;> cases vC l x.dot <;> rfl) (by
  unfold YW;simp)
 rw [show (0:Int) = ((0:Nat):Int) from rfl,this,zA];have hlen:=F.Uj l 300 fun e he=>(hk e he).2
 have hdl:(wV l).length <= (zq l).length:=D.Xu _
 cases (l.zipIdx.all fun y=>!badF l y.2 y.1) with
 | false=>rfl
 | true=>
  rw [if_pos rfl,YG,Bool.true_and];rw [C.ZT c hc,zB,zA,F.Uh l hl (fun e he=>(hk e he).2),zB,zA,F.xca (wV l) c (by omega) hc,zB,zA];have hdec:=F.yca (VR (wV l) c)
  cases decide (c = C.zo c) with
  | false=>rfl
  | true=>
   rw [cond_true,Bool.true_and];exact congrArg pure hdec

open E (OkE yP SrtE)
open F (hasD zq wV vC uy VR)

section
variable {n:Nat} {W c xc:List TPart} {nl1:Bool} {m1:List (TDot × TEvent)} {nl2:Bool} {m2:List (TDot × TEvent)} {L:List TEvent}
end
open E (OkE yP SrtE)
open F (hasD zq wV vC)

section
variable {n:Nat} {W c xc:List TPart} {nl1:Bool} {m1:List (TDot × TEvent)} {nl2:Bool} {m2:List (TDot × TEvent)} {L:List TEvent}
end
section
variable {n:Nat} {W c xc:List TPart} {nl1:Bool} {m1:List (TDot × TEvent)} {nl2:Bool} {m2:List (TDot × TEvent)} {L:List TEvent}
end
open E (OkE yP SrtE)
open F (hasD zq wV vC Yp OkD)

section
variable {n:Nat} {W c xc:List TPart} {nl1:Bool} {m1:List (TDot × TEvent)} {nl2:Bool} {m2:List (TDot × TEvent)} {L:List TEvent}
end
section
variable {n:Nat} {W c xc:List TPart} {nl1:Bool} {m1:List (TDot × TEvent)} {nl2:Bool} {m2:List (TDot × TEvent)} {L:List TEvent}
end

open E (OkE yP SrtE)
open F (hasD zq wV vC Yp OkD)

section
variable {n:Nat} {W c xc:List TPart} {nl1:Bool} {m1:List (TDot × TEvent)} {nl2:Bool} {m2:List (TDot × TEvent)} {L:List TEvent}
end
open E (OkE yP SrtE jm)
open D (encC)
open F (hasD zq wV vC Yp OkD)

theorem v7a {e:TEvent} (h:yP e = true):e.text.size <= 60:=by
 simp only [yP,E.vpa,E.zWa,E.xXa,Bool.and_eq_true,Bool.or_eq_true,decide_eq_true_eq] at h;rcases h.2.1 with h | h
 ·exact h.2.2.1
 ·rw [h.2.2];decide
theorem wNa {c:List TPart} (h:∀ p ∈ c,p.dev <= 65535) (h1:c.length <= 1000000) (h2:C.totC c <= 1000000):(encC c).length <= 60000000:=by
 have hn:=C.XK c;have ht:=C.XL c;have hl:=D.xLa (D.QH h) (by omega) (by omega);rw [encC];omega
theorem v8a {a b:List TPart} (h:C.zo a = C.zo b):encC a = encC b:=by unfold encC;rw [h]
section
variable {n:Nat} {W c xc:List TPart} {nl1:Bool} {m1:List (TDot × TEvent)} {nl2:Bool} {m2:List (TDot × TEvent)} {L:List TEvent}
theorem Rep.encode (hR:Rep n W c xc nl1 m1 nl2 m2 L) (hn:n <= 130000) (hd:∀ p ∈ W,p.dev <= 65535) :
  xB c nl1 m1 nl2 m2 = pure (encC W ++ jm L):=by
 have hwl:=hR.wl;have hwt:=hR.wt;have hll:=hR.ll;have hn1:=C.XK W;have hn2:=C.XL W;have hdn:∀ p ∈ C.zo W,p.dev <= 65535:=fun p hp=>(D.QH hd p hp).d1
 have on:=xea (W:=W) (by omega) (by omega);have e1:=wNa hd (by omega) (by omega);have e3:=E.vra (l:=L) (fun e he=>(hR.good e he).2) (fun e he=>⟨by have:=hR.kl e he;omega,by have:=v7a (hR.good e he).1;omega⟩);have e4:=N.yF (v:=(L.length:Int)) (by omega);have hc:encC (C.zo W) = encC W:=v8a (C.Vn (C.vQ W));have hx:C.zo xc = C.zo (C.zo W):=by rw [C.jZ hR.xctx,C.Vn (C.vQ W)]
 unfold xB;rw [hR.Ctx (by omega),zB,zA,D.zKa on hdn (by omega) [] (by simp),zB,zA,List.nil_append,hc,hR.All (by omega),zB,zA,E.zXa (fun e he=>(hR.good e he).2) (by omega) _ (by omega),zB,zA,
  N.xFa _ (by unfold jm;simp only [List.length_append];omega),zB,zA]
end
theorem v9a {a b:List Int}:Zh a b = pure (decide (strL a = strL b)):=rfl
theorem Um : encC [] = [0] /\ jm [] = [0]:=by
 have e0:N.encI 0 = [0]:=by show (N.lenN 0:Int) :: N.be 0 (N.lenN 0) = _;rw [N.VJ];rfl
 refine ⟨?_,?_⟩
 ·show N.encI 0 ++ [] = _;rw [e0];rfl
 ·show N.encI 0 ++ [] = _;rw [e0];rfl
theorem works21 : uV = pure true:=by
 have h1:=Rep.new.encode (by omega) (fun p hp=>absurd hp (List.not_mem_nil));have hc:=D.zKa C.ok_nil (fun p hp=>absurd hp (List.not_mem_nil)) (by decide) [] (by simp);have he:=E.zXa (l:=[]) (fun p hp=>absurd hp (List.not_mem_nil)) (by simp) [0] (by decide);rw [Um.1,Um.2] at h1;rw [Um.1] at hc;rw [Um.2] at he;have h2:yx = pure [0,0]:=by
  unfold yx;rw [show xb = pure [] from rfl,zB,zA,hc,zB,zA,show xd = pure [] from rfl,zB,zA,List.nil_append,he,zB,zA,N.xFa _ (by decide),zB,zA]
  rfl
 have h1':xB [] true [] true [] = pure [0,0]:=h1;unfold uV VX;simp only [zB,zA,h1',h2,v9a,decide_true,cond_true]
open E (OkE yP SrtE jm allS)
open D (encC ctxS bad4 fin)
open F (hasD zq wV vC Yp OkD)
open N (RS endS Sim OkB)

theorem xia (v:Int):1 <= (N.encI v).length:=by unfold N.encI N.encN;simp
theorem xja : ∀ c:List TPart,c.length + C.totC c <= (c.flatMap D.encP).length
 | []=>by simp [C.totC]
 | p :: r=>by
  have h1:=xja r;have h2:=xia p.dev;have h3:p.runs.length <= (p.runs.flatMap D.encR).length:=by
   generalize p.runs = l
   induction l with
   | nil=>simp
   | cons x l ih=>
    have:=xia x.lo;rw [List.flatMap_cons,List.length_append,List.length_cons,D.encR,List.length_append];omega
  have h4:C.totC (p :: r) = p.runs.length + C.totC r:=by simp [C.totC]
  rw [List.flatMap_cons,List.length_append,List.length_cons,D.encP,List.length_append,List.length_append];omega
theorem xka : ∀ l:List TEvent,l.length <= (l.flatMap E.encE).length
 | []=>by simp
 | e :: r=>by
  have h1:=xka r;have h2:1 <= (E.encE e).length:=by
   unfold E.encE;simp only [List.length_append,List.length_cons];omega
  rw [List.flatMap_cons,List.length_append,List.length_cons];omega
theorem jv {s:RS} (hO:N.Ok s):(ctxS s).1.length + C.totC (ctxS s).1 <= s.1.length /\ (ctxS s).2.1.length <= s.1.length:=by
 obtain ⟨h1,_,_,h4,h5⟩:=D.xu hO
 by_cases c:(ctxS s).2.2 = 0
 ·have h6:=D.vka hO c;have h7:=congrArg List.length h6;rw [List.length_append,encC,<- h5 c,D.encN,List.length_append] at h7;have:=xja (ctxS s).1;omega
 ·rw [h4 c,h1.nil c];simp [C.totC]
theorem zga {s:RS} (hO:N.Ok s) (m:Int):(allS m s).1.length <= s.1.length:=by
 obtain ⟨_,_,_,h4,h5⟩:=E.jp hO m
 by_cases c:(allS m s).2.2 = 0
 ·have h7:=congrArg List.length (h4 c).1;rw [List.length_append,jm,List.length_append] at h7;have:=xka (allS m s).1;omega
 ·rw [h5 c];simp
theorem xla {e:TEvent} (h:yP e = true):e.kills.length <= 256:=by
 simp only [yP,E.yZa,Bool.and_eq_true,decide_eq_true_eq] at h;exact h.2.2.1
def VS (s:RS):TDelta:=⟨(ctxS s).1,(ctxS (ctxS s).2).1,(allS 4096 (ctxS (ctxS s).2).2).1⟩
def xma (s:RS):RS:=bad4 (!Yp (VS s)) (allS 4096 (ctxS (ctxS s).2).2).2
def XU (s:RS):TDelta × RS:=fin ⟨[],[],[]⟩ (VS s) (xma s)
theorem jw {s:RS} (hO:N.Ok s) (hl:s.1.length <= 1500):OkD (VS s):=by
 obtain ⟨a1,a2,a3,_,_⟩:=D.xu hO;obtain ⟨b1,b2,b3,_,_⟩:=D.xu a1;obtain ⟨_,c2,_,_,_⟩:=E.jp b1 4096;have s1:=jv hO;have s2:=jv a1;have s3:=zga b1 4096;exact ⟨D.zQa a2 a3,D.zQa b2 b3,fun e he=>(c2 e he).1,by show (allS 4096 _).1.length <= _;omega,fun e he=>by have:=xla (c2 e he).2;omega⟩
theorem uAa {s:RS} (hO:N.Ok s) (hl:s.1.length <= 1500):OkD (XU s).1:=by
 unfold XU fin
 split
 ·exact ⟨C.ok_nil,C.ok_nil,(fun e he=>by cases he),by simp,(fun e he=>by cases he)⟩
 ·exact jw hO hl
theorem Delta_eq {s:RS} (hO:N.Ok s) (hl:s.1.length <= 1500):wn s.1 s.2 = pure (XU s):=by
 obtain ⟨a1,_⟩:=D.xu hO;obtain ⟨b1,_⟩:=D.xu a1;have hg:Zm ⟨(ctxS s).1,(ctxS (ctxS s).2).1,(allS 4096 (ctxS (ctxS s).2).2).1⟩ = pure (Yp (VS s)):=F.QN (jw hO hl);unfold wn;rw [D.via hO,zB,zA,D.via a1,zB,zA,E.zZa b1 (by omega),zB,zA,hg,zB,zA,D.QI,zA];exact D.yWa ⟨[],[],[]⟩ (VS s) (xma s)
theorem uBa {B:List Int} {a:Int} {s:RS} (hB:OkB B) (hO:N.Ok s) (h:Sim B a s) (hl:s.1.length <= 1500):∃ a',uf B a s.2 = pure ((XU s).1,B,a',(XU s).2.2) /\ Sim B a' (XU s).2:=by
 obtain ⟨o1,_⟩:=D.xu hO;obtain ⟨o2,_⟩:=D.xu o1;obtain ⟨a1,e1,s1⟩:=D.yXa hB hO h;obtain ⟨a2,e2,s2⟩:=D.yXa hB o1 s1;obtain ⟨a3,e3,s3⟩:=E.Jh hB o2 s2 (most:=4096) (by omega);have e5:=D.jg (allS 4096 (ctxS (ctxS s).2).2).2.2 (M.bind (M.det (Xr (VS s))) fun v=>M.pure (!v)) (!Yp (VS s)) (by rw [F.JJ (jw hO hl),zB,zA]);have e4:=D.Vs B a3 (decide ((allS 4096 (ctxS (ctxS s).2).2).2.2 = 0) && !Yp (VS s)) (allS 4096 (ctxS (ctxS s).2).2).2;rw [D.VM] at e4;refine ⟨a3,?_,by show Sim B a3 (fin _ _ _).2;rw [D.Yo];exact D.Xv s3 _⟩;unfold uf;rw [e1,zB,zA,e2,zB,zA,e3,zB,zA];show M.bind (cond (decide ((allS 4096 (ctxS (ctxS s).2).2).2.2 = 0)) (M.bind (M.det (Xr (VS s))) fun v=>M.pure (!v)) (M.pure false)) _ = _;rw [e5,zA,e4,zA];show cond (!decide ((xma s).2 = 0)) _ _ = _;unfold XU fin
 by_cases c:(xma s).2 = 0
 ·rw [decide_eq_true c,Bool.not_true,cond_false,if_neg (by simp [c])];rfl
 ·rw [decide_eq_false c,Bool.not_false,cond_true,if_pos c];rfl
theorem same20 {d:TDelta} (h:OkD d):UO d d = pure true:=by
 unfold UO;rw [C.Ud _ _ h.from_ h.from_,zB,zA,decide_eq_true rfl,cond_true,C.Ud _ _ h.to_ h.to_,zB,zA,decide_eq_true rfl,cond_true,E.QM _ _ (by have:=h.len;omega) (fun e he=>by have:=h.kills e he;omega),zB,zA,decide_eq_true rfl,zA]
theorem all_of9 {m:Int} {s:RS} (h:s.2 ≠ 0):allS m s = ([],s):=by
 unfold allS;rw [N.vWa h,if_neg (by show ¬ max m 0 < 0;omega)]
 rfl
theorem QP (b:List Int) (hb:∀ x ∈ b,0 <= x /\ x <= 255):vW b = pure true:=by
 unfold vW;rw [works21]
 by_cases hl:1500 < b.length
 ·rw [decide_eq_true (show (1500:Int) < (b.length:Int) by omega),cond_true,zB,zA]
 rw [decide_eq_false (show ¬ (1500:Int) < (b.length:Int) by omega),cond_false];have hB:OkB b:=⟨hb,by omega⟩
 have h0:=hB.ok;have hl0:((b,0):RS).1.length <= 1500:=by show b.length <= 1500;omega
 obtain ⟨a1,e1,s1⟩:=uBa hB h0 (Sim.start b) hl0;have e1':uf b 0 0 = pure ((XU (b,0)).1,b,a1,(XU (b,0)).2.2):=e1;have p1:wn b 0 = pure (XU (b,0)):=Delta_eq h0 hl0;obtain ⟨o1,q2,q3,q4,q5⟩:=D.xu h0;obtain ⟨o2,_⟩:=D.xu o1;have o3:=E.ok_all o2 4096;have o4:N.Ok (XU (b,0)).2:=by show N.Ok (fin _ _ _).2;rw [D.Yo];exact D.Vq o3 _
 obtain ⟨a2,e2⟩:=N.xIa hB o4 s1;rw [N.New_eq b (by omega),zB,zA,p1,zB,zA,e1',zB,zA,same20 (uAa h0 hl0),zB,zA,Bool.not_true,cond_false,N.End_eq,zB,zA,e2,zB,zA,decide_eq_true rfl,Bool.not_true,zA,cond_false]
 -- the book
 obtain ⟨a3,e3,s3⟩:=D.yXa hB h0 (Sim.start b);have e3':ue b 0 0 = pure ((ctxS (b,0)).1,b,a3,(ctxS (b,0)).2.2):=e3;obtain ⟨a4,e4,s4⟩:=E.Jh hB o1 s3 (most:=4096) (by omega);have o5:=E.ok_all o1 4096;obtain ⟨a5,e5⟩:=N.xIa hB o5 s4;have p3:wH b 0 = pure (ctxS (b,0)):=D.via h0;have p4:=E.zZa o1 (most:=4096) (by omega);obtain ⟨_,c2,_,c4,_⟩:=E.jp o1 4096;have z1:=jv h0;have z2:=zga o1 4096;have hck:=D.zQa q2 q3;have hk:∀ e ∈ (allS 4096 (ctxS (b,0)).2).1,OkE e /\ e.kills.length <= 300:=fun e he=>⟨(c2 e he).1,by have:=xla (c2 e he).2;omega⟩
 have f1:=From_eq hck (n:=1500) (by omega) (by omega) (by omega) (by omega) hk;have f2:=rFrom_eq hck (by omega) hk;unfold ZW Xs;simp only [N.New_eq b (by omega),zB,zA,p3,p4,N.End_eq,e3',e4,e5]
 by_cases g0:(endS (allS 4096 (ctxS (b,0)).2).2).1 = 0
 ·obtain ⟨z3,z4⟩:=D.end_ok g0;have hbytes:b = encC (ctxS (b,0)).1 ++ jm (allS 4096 (ctxS (b,0)).2).1:=by
   have y1:=c4 z4;have y2:(ctxS (b,0)).2.2 = 0:=Classical.byContradiction fun h=>by
    have y3:=all_of9 (m:=4096) h;rw [y3] at z4;exact h z4
   have y3:=D.vka h0 y2;rw [y1.1,z3,List.append_nil] at y3;exact y3
  simp only [g0,decide_true,Bool.not_true,cond_false,zA,cond_true,f2,zB]
  cases hf:v5a (ctxS (b,0)).1 (allS 4096 (ctxS (b,0)).2).1 with
  | false=>
   rw [hf,if_neg (by simp)] at f1;have hF:zD 4 b a5 0 = pure (b,a5,4):=N.vb b a5 ([],0) (by decide);rw [f1];simp only [zB,zA,M.sum,Bool.not_false,cond_true,hF,show decide ((4:Int) = 0) = false from rfl,decide_true,Bool.not_true,cond_false]
  | true=>
   rw [hf,if_pos rfl] at f1;obtain ⟨x1,x2,x3,x4,x5,hR⟩:=f1;have hI:=hR.Is (by omega);have hE:=hR.encode (by omega) fun p hp=>(q2 p hp).d1
   rw [<- hbytes] at hE;rw [x5];simp only [zB,zA,M.sum,Bool.not_true,cond_true,cond_false,decide_true,hI,hE,v9a]
 ·simp only [decide_eq_false g0,Bool.not_false,cond_true,zA,zB,cond_false];simp only [M.sum,zA,decide_true,decide_eq_false g0,Bool.not_true,Bool.not_false,cond_true,cond_false]
end Go.Ep.M.G

namespace Go.Ep
open Go.RowKit Go.ChangeShapes Go.WideShapes

abbrev All : Nat -> Prop:=fun _=>True

mutual
def bulk {H:Type}:DataW H -> Nat
 | .lit (.string bytes)=>bytes.length + 1
 | .lit _=>1
 | .nil=>1
 | .ptr d=>bulk d + 1
 | .slice elems spare=>vT elems + vT spare + 1
 | .agg parts=>vT parts + 1
 | .iface _ d=>bulk d + 1
 | .map entries=>jx entries + 1
 | .held _=>1
def vT {H:Type}:List (DataW H) -> Nat
 | []=>0
 | d :: r=>bulk d + vT r
def jx {H:Type}:List (Lit × DataW H) -> Nat
 | []=>0
 | x :: r=>uCa x + jx r
def uCa {H:Type}:Lit × DataW H -> Nat
 | (.string bytes,d)=>bytes.length + bulk d + 1
 | (_,d)=>bulk d + 1
end
theorem xna {H:Type} (d:DataW H):1 <= bulk d:=by
 cases d with
 | lit l=>cases l <;> simp [bulk]
 | nil=>simp [bulk]
 | ptr d=>simp [bulk]
 | slice elems spare=>simp [bulk]
 | agg parts=>simp [bulk]
 | iface t d=>simp [bulk]
 | map entries=>simp [bulk]
 | held h=>simp [bulk]
theorem yea {H:Type} (l r:List (DataW H)):vT (l ++ r) = vT l + vT r:=by
 induction l with
 | nil=>simp [vT]
 | cons x l ih=>simp only [List.cons_append,vT,ih];omega
def szL {α:Type} (sz:α -> Nat):List α -> Nat
 | []=>0
 | a :: r=>sz a + szL sz r
theorem szL_app {α:Type} (sz:α -> Nat) (l r:List α):szL sz (l ++ r) = szL sz l + szL sz r:=by
 induction l with
 | nil=>simp [szL]
 | cons x l ih=>simp only [List.cons_append,szL,ih];omega
structure Opn (P:Program) (t:TypeId) (k:Nat) {α:Type} (enc:α -> List DV) (ok:α -> Prop) (sz:α -> Nat):Prop where
 cells:P.cellsOf t = k
 op:∀ {H:Type} {en:TypeId × Value -> H} {w:World} {fuel:Nat} {cs:List Value} {x:DataW H × List MemPlace},DataW.trod en P w 0 (fun _=>true) true fuel t cs = some x ->
  ∃ a,ok a /\ cs.length = k /\ (enc a).length = k /\ (∀ (j:Nat) (y:DV) (u:Value),(enc a)[j]? = some y -> cs[j]? = some u -> DRd w All y u) /\ sz a <= bulk x.1

section
variable {P:Program} {t:TypeId}

theorem Opn.map {k:Nat} {α β:Type} {enc:α -> List DV} {enc':β -> List DV} {ok:α -> Prop} {ok':β -> Prop} {sz:α -> Nat} {sz':β -> Nat} (h:Opn P t k enc ok sz) (f:α -> β) (he:∀ a,ok a -> enc' (f a) = enc a) (ho:∀ a,ok a -> ok' (f a)) (hz:∀ a,sz' (f a) <= sz a):Opn P t k enc' ok' sz':=
 ⟨h.cells,fun hx=>let ⟨a,h1,h2,h3,h4,h5⟩:=h.op hx;⟨f a,ho a h1,h2,by rw [he a h1];exact h3,by rw [he a h1];exact h4,Nat.le_trans (hz a) h5⟩⟩

theorem yfa {w:World} {y:DV} {u:Value} (h:DRd w All y u):∀ (j:Nat) (y':DV) (u':Value),[y][j]? = some y' -> [u][j]? = some u' -> DRd w All y' u':=by
 intro j y' u' h1 h2
 cases j with
 | zero=>simp at h1 h2;subst h1;subst h2;exact h
 | succ j=>simp at h1

def okK (k:IntKind) (n:Int):Prop:=(Lit.int k n).wf = true
theorem Opn.int {k:IntKind} (hu:P.underlying t = some (.int k)) (hc:P.cellsOf t = 1):Opn P t 1 (eK k) (okK k) (fun _=>1):=by
 refine ⟨hc,fun {H en w fuel cs x} h=>?_⟩
 cases fuel with
 | zero=>simp [DataW.trod] at h
 | succ fuel=>
  unfold DataW.trod at h;rw [hu] at h
  split at h <;> simp_all
  case h_2 n _=>
   obtain ⟨⟨h1,h2⟩,_⟩:=h;subst h1;refine ⟨n,h2,rfl,?_,xna _⟩;intro j y u h1 h3;exact yfa (.v _ rfl) j y u h1 h3
theorem okU8 {n:Int} (h:okK .u8 n):0 <= n /\ n < 256:=by
 simp [okK,Lit.wf,IntKind.min,IntKind.max,IntKind.signed,IntKind.bits] at h;omega
theorem Opn.slice {e:TypeId} {k:Nat} {α:Type} {enc:α -> List DV} {ok:α -> Prop} {sz:α -> Nat} (h:Opn P e k enc ok sz) (hu:P.underlying t = some (.slice e)) (hc:P.cellsOf t = 1) (hk:0 < k) :
  Opn P t 1 (eL enc) (fun l=>l.length <= 9223372036854775807 /\ ∀ a ∈ l,ok a) (fun l=>szL sz l + 1):=by
 refine ⟨hc,fun {H en w fuel cs x} hx=>?_⟩;rcases Deep.open_slice hu hx with ⟨rfl,_⟩ | ⟨a,len,cap,m,n,D,Pl,rfl,_,hl,hm,hmm,hxD,hel⟩
 ·exact ⟨[],⟨Nat.zero_le _,by simp⟩,rfl,rfl,yfa (.nil none 0 (Nat.zero_le _) (fun _=>rfl)),xna _⟩
 simp only [if_true] at hmm;subst hmm;rw [h.cells] at hel;have hcut:∀ n0,n0 <= len -> ∃ l:List α,l.length = n0 /\ (∀ a ∈ l,ok a) /\ szL sz l <= vT ((List.range n0).map D) /\ ∀ (i:Nat) (b:α),l[i]? = some b -> (enc b).length = k /\ ∀ (j:Nat) (y:DV),(enc b)[j]? = some y -> ∃ u,w.cell? (a.add (i * k + j)) = some u /\ DRd w All y u:=by
  intro n0
  induction n0 with
  | zero=>intro _;exact ⟨[],rfl,by simp,by simp [szL],by simp⟩
  | succ n0 ih=>
   intro hn;obtain ⟨l,h1,h2,hz,h3⟩:=ih (by omega);obtain ⟨cs',hc',ht'⟩:=hel n0 (by omega);obtain ⟨b,hb1,hb2,hb3,hb4,hb5⟩:=h.op ht';obtain ⟨_,_,hcell⟩:=World.cells?_some hc';refine ⟨l ++ [b],by simp [h1],?_,by rw [szL_app,List.range_succ,List.map_append,yea];simp only [szL,List.map_cons,List.map_nil,vT];simp only at hb5;omega,?_⟩
   ·intro a ha;rcases List.mem_append.1 ha with ha | ha
    ·exact h2 a ha
    ·simp at ha;subst ha;exact hb1
   ·intro i b' hi;rw [List.getElem?_append] at hi
    split at hi
    ·exact h3 i b' hi
    ·rename_i hge
     have hi0:i = n0:=by
      have:i - l.length < 1:=by simpa using (List.getElem?_eq_some_iff.1 hi).1
      omega
     subst hi0;simp [h1] at hi;subst hi;refine ⟨hb3,fun j y hy=>?_⟩;have hj:j < k:=by rw [<- hb3];exact (List.getElem?_eq_some_iff.1 hy).1
     have hcj:=hcell j hj;rw [Deep.add_add] at hcj;have hu':cs'[j]? = some (cs'[j]'(by omega)):=List.getElem?_eq_getElem (by omega);exact ⟨_,by rw [hcj,hu'],hb4 j y _ hy hu'⟩
 obtain ⟨l,h1,h2,hz,h3⟩:=hcut len (Nat.le_refl _);refine ⟨l,⟨by unfold maxLen at hm;omega,h2⟩,rfl,rfl,yfa ?_,?_⟩
 rotate_left
 ·rw [hxD];simp only [bulk];omega
 by_cases h0:len = 0
 ·have:l = []:=List.eq_nil_of_length_eq_zero (by omega);subst this;subst h0;exact .nil _ _ hm (fun e=>by cases e)
 ·-- the first cell tells that the address is a plain one
  have hl0:0 < l.length:=by omega
  obtain ⟨hk0,hc0⟩:=h3 0 _ (List.getElem?_eq_getElem hl0);obtain ⟨u0,hu0,_⟩:=hc0 0 _ (List.getElem?_eq_getElem (by omega:0 < (enc l[0]).length));have hspot:a.spot = none:=by simpa [Addr.add] using World.cell?_spot hu0
  obtain ⟨b,off,spot⟩:=a;simp only at hspot;subst hspot;have hb:b < w.heap.size:=by
   rw [Addr.add_lit] at hu0;unfold World.cell? at hu0
   cases hh:w.heap[b]? with
   | none=>simp [hh] at hu0
   | some o=>exact (Array.getElem?_eq_some_iff.1 hh).1
  have hlen:(l.map enc).length = len:=by simp [h1]
  rw [<- hlen];refine .sl _ b off m k (fun i j=>(w.cell? ⟨b,off + (i * k + j),none⟩).getD undef) (by omega) hm trivial hb ?_ ?_ ?_
  ·intro i cs hi;rw [List.getElem?_map] at hi
   cases hx:l[i]? with
   | none=>simp [hx] at hi
   | some y=>simp [hx] at hi;subst hi;exact (h3 i y hx).1
  ·intro i j hi hj;have hil:i < l.length:=by simpa using hi
   obtain ⟨e1,e2⟩:=h3 i _ (List.getElem?_eq_getElem hil);obtain ⟨u,hu,_⟩:=e2 j _ (List.getElem?_eq_getElem (by omega:j < (enc l[i]).length));rw [Addr.add_lit] at hu;simp [hu]
  ·intro i cs j x hi hx;rw [List.getElem?_map] at hi
   cases hy:l[i]? with
   | none=>simp [hy] at hi
   | some y=>
    simp [hy] at hi;subst hi;obtain ⟨u,hu,hd⟩:=(h3 i y hy).2 j x hx;rw [Addr.add_lit] at hu;simpa [hu] using hd

structure OpnF (P:Program) (fs:List Field) (off k:Nat) {α:Type} (enc:α -> List DV) (ok:α -> Prop) (sz:α -> Nat):Prop where
 op:∀ {H:Type} {en:TypeId × Value -> H} {w:World} {n:Nat} {cs:List Value} {xs:List (DataW H × List MemPlace)},xs.length = fs.length ->
  (∀ (i:Nat) (f:Field),fs[i]? = some f -> DataW.trod en P w 0 (fun _=>true) true n f.type ((cs.drop f.offset).take (P.cellsOf f.type)) = xs[i]?) ->
  ∃ a,ok a /\ (enc a).length = k /\ (∀ (j:Nat) (y:DV) (u:Value),(enc a)[j]? = some y -> cs[off + j]? = some u -> DRd w All y u) /\ sz a <= vT (xs.map (·.1))

theorem OpnF.nil (off:Nat):OpnF P [] off 0 (fun _:Unit=>[]) (fun _=>True) (fun _=>0):=⟨fun _ _=>⟨(),trivial,rfl,by simp,Nat.zero_le _⟩⟩
theorem OpnF.cons {f:Field} {fs:List Field} {off k1 k2:Nat} {α β:Type} {e1:α -> List DV} {o1:α -> Prop} {e2:β -> List DV} {o2:β -> Prop} {z1:α -> Nat} {z2:β -> Nat} (h1:Opn P f.type k1 e1 o1 z1) (ho:f.offset = off) (h2:OpnF P fs (off + k1) k2 e2 o2 z2) :
  OpnF P (f :: fs) off (k1 + k2) (fun p:α × β=>e1 p.1 ++ e2 p.2) (fun p=>o1 p.1 /\ o2 p.2) (fun p=>z1 p.1 + z2 p.2):=by
 refine ⟨fun {H en w n cs xs} hlen hx=>?_⟩
 cases xs with
 | nil=>simp at hlen
 | cons x xs=>
  have hx0:=hx 0 f rfl;simp only [List.getElem?_cons_zero] at hx0;obtain ⟨a,ha1,ha2,ha3,ha4,ha5⟩:=h1.op hx0;obtain ⟨b,hb1,hb2,hb3,hb4⟩:=h2.op (xs:=xs) (by simpa using hlen) (fun i f' hf=>by have:=hx (i + 1) f' (by simpa using hf);simpa using this);refine ⟨(a,b),⟨ha1,hb1⟩,by simp [ha3,hb2],?_,by simp only [List.map_cons,vT];omega⟩;intro j y u hy hu;simp only [List.getElem?_append] at hy
  by_cases hj:j < k1
  ·rw [if_pos (by omega)] at hy;refine ha4 j y u hy ?_;rw [List.getElem?_take,h1.cells,if_pos hj,List.getElem?_drop,ho];exact hu
  ·rw [if_neg (by omega),ha3] at hy;refine hb3 (j - k1) y u hy ?_;rw [<- hu]
   congr 1
   omega
theorem Opn.arg {H:Type} {en:TypeId × Value -> H} {w:World} {v:Value} {d:DataW H} {ps:List MemPlace} {α:Type} {enc:α -> DV} {ok:α -> Prop} {sz:α -> Nat} (h:Opn P t 1 (fun a=>[enc a]) ok sz)
  (hx:DataW.Trod en P w 0 (fun _=>true) true t v d ps) (h1:v.oneCell' = true):∃ a,ok a /\ Rd w g0 All (.d (enc a)) v /\ sz a <= bulk d:=by
 obtain ⟨fuel,hf⟩:=hx;obtain ⟨a,ha,_,_,hr,hz⟩:=h.op hf;have hcs:v.cells.toList = [v]:=by cases v <;> first | rfl | (simp [Value.oneCell'] at h1;done)
 exact ⟨a,ha,.d (hr 0 _ v rfl (by rw [hcs];rfl)),hz⟩
theorem VT {H:Type} {en:TypeId × Value -> H} (hl:laidOutB P = true) {W W':World} (hb:Below W.heap.size W W'):∀ {ts:List TypeId} {vs:List Value} {ds:List (DataW H)} {ps:List MemPlace},
  (∀ t ∈ ts,P.readableRec t = true /\ t < P.types.size) -> DataW.TrodAll en P W 0 (fun _=>true) true ts vs ds ps -> (∀ x ∈ ps,x.block < W.heap.size) -> DataW.TrodAll en P W' 0 (fun b=>decide (b < W.heap.size)) true ts vs ds ps
 | [],[],[],ps,_,h,_=>h
 | t :: ts,v :: vs,d :: ds,ps,hr,h,hlt=>by
  obtain ⟨p,q,h1,h2,rfl⟩:=h;have hrt:=hr t (by simp);exact ⟨p,q,Below.trod hl hrt.1 hrt.2 h1 hb (fun x hx=>hlt x (List.mem_append.2 (.inl hx))),VT hl hb (fun t ht=>hr t (by simp [ht])) h2 (fun x hx=>hlt x (List.mem_append.2 (.inr hx))),rfl⟩
 | [],[],_ :: _,_,_,h,_=>h.elim
 | [],_ :: _,_,_,_,h,_=>h.elim
 | _ :: _,[],_,_,_,h,_=>h.elim
 | _ :: _,_ :: _,[],_,_,h,_=>h.elim
theorem jy {H:Type} {en:TypeId × Value -> H} {w:World} {base:Nat} {sp:Nat -> Bool} {hd:Bool}:∀ {ts:List TypeId} {vs:List Value} {ds:List (DataW H)} {ps:List MemPlace},DataW.TrodAll en P w base sp hd ts vs ds ps -> ds.length = ts.length
 | [],[],[],_,_=>rfl
 | _ :: _,_ :: _,_ :: _,_,h=>by
  obtain ⟨_,_,_,h2,_⟩:=h;simp [jy h2]
 | [],[],_ :: _,_,h=>h.elim
 | [],_ :: _,_,_,h=>h.elim
 | _ :: _,[],_,_,h=>h.elim
 | _ :: _,_ :: _,[],_,h=>h.elim

theorem uDa {H:Type} {en:TypeId × Value -> H} {fn:Func} {s:ChangeSpec} {tb:TypeId} {W W':World} {args:Array Value} {ds gs:List (DataW H)} {before:List MemPlace} (hl:laidOutB P = true)
  (hW:DataW.Whole en P fn.params.toList s.vars false W args.toList ds gs before) (hv:s.vars = []) (hs:∀ ds:List (DataW H),ds.length = fn.params.size -> (s.fn H ds).results = [.lit (.bool true)] /\ (s.fn H ds).args = ds /\ (s.fn H ds).vars = [])
  (hres:fn.resultTypes = #[tb]) (htb:P.underlying tb = some .bool) (hr:∀ t ∈ fn.params.toList,P.readableRec t = true /\ t < P.types.size) (hb:Below W.heap.size W W') :
  s.post en P fn false true false false W args (.bool true) W':=by
 have hW':=hW;obtain ⟨p,q,hA,hV,hpq,hfz,hnd⟩:=hW;rw [hv] at hV;obtain ⟨rfl,rfl⟩:=trodVars_none hV;simp only [List.append_nil] at hpq;subst hpq;have hlt:∀ x ∈ before,x.block < W.heap.size:=fun x hx=>by simpa using hW'.lt x hx
 have hlen:ds.length = fn.params.size:=by simpa using jy hA
 obtain ⟨e1,e2,e3⟩:=hs (ds ++ []) (by simpa using hlen);refine ⟨ds,[],before,[],before,[],hW',?_,?_,?_,hb.frame _,fun h=>by cases h⟩
 ·rw [e1,hres];exact trodAll_mk1 (shut_bool htb true)
 ·rw [e2,List.append_nil];exact VT hl hb hr hA hlt
 ·rw [e3,hv];rfl
end
end Go.Ep

namespace Go.Ep
set_option linter.unusedVariables false

def TDot.ok (x:TDot):Prop:=okK .u16 x.dev /\ okK .u64 x.n
def TDot.sz (x:TDot):Nat:=(1 + (1 + 0)) + 1
def TRun.ok (x:TRun):Prop:=okK .u64 x.lo /\ okK .u64 x.hi
def TRun.sz (x:TRun):Nat:=(1 + (1 + 0)) + 1
def TPart.ok (x:TPart):Prop:=okK .u16 x.dev /\ (List.length x.runs <= 9223372036854775807 /\ ∀ a ∈ x.runs,TRun.ok a)
def TPart.sz (x:TPart):Nat:=(1 + ((szL TRun.sz x.runs + 1) + 0)) + 1
def TEvent.ok (x:TEvent):Prop:=TDot.ok x.dot /\ okK .u8 x.kind /\ okK .u64 x.cid /\ okK .u8 x.field /\ ByteArray.size x.text <= 9223372036854775807 /\ (List.length x.kills <= 9223372036854775807 /\ ∀ a ∈ x.kills,TDot.ok a)
def TEvent.sz (x:TEvent):Nat:=(TDot.sz x.dot + (1 + (1 + (1 + ((ByteArray.size x.text + 1) + ((szL TDot.sz x.kills + 1) + 0)))))) + 1
end Go.Ep
namespace Go.Proofs
open Go.Ep
set_option maxRecDepth 100000
end Go.Proofs


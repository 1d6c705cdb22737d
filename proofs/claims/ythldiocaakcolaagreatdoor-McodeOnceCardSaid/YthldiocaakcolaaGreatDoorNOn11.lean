/- Side texts. -/
import Derived.Test.YthldiocaakcolaaGreatDoorNOn10
set_option linter.unusedVariables false
set_option linter.unusedSimpArgs false
namespace Go.Ep.M.E
open Go

theorem vH (s:ByteArray):(zu s).length = s.size:=by simp [zu]
theorem by_bytes (s:ByteArray):N.By (zu s):=fun x hx=>by
 simp only [zu,List.mem_map] at hx;obtain ⟨b,_,rfl⟩:=hx;have:=b.toNat_lt;omega
theorem je (l:List Int):(Xm l).data.toList = l.map fun n=>UInt8.ofNat n.toNat:=by
 have key:∀ (l:List Int) (r:ByteArray),(l.foldl (fun r n=>r.push (UInt8.ofNat n.toNat)) r).data.toList = r.data.toList ++ l.map fun n=>UInt8.ofNat n.toNat:=by
  intro l
  induction l with
  | nil=>intro r;simp
  | cons x t ih=>intro r;rw [List.foldl_cons,ih];simp
 have:=key l ByteArray.empty;simpa [Xm] using this
theorem wia (s:ByteArray):Xm (zu s) = s:=by
 have h:=je (zu s);have e:(zu s).map (fun n=>UInt8.ofNat n.toNat) = s.data.toList:=by
  simp only [zu,List.map_map];apply List.ext_getElem?;intro i;rw [List.getElem?_map]
  cases s.data.toList[i]? with
  | none=>rfl
  | some b=>simp
 rw [e] at h;have h2:(Xm (zu s)).data = s.data:=Array.toList_inj.1 h
 cases hs:Xm (zu s)
 cases s
 rw [hs] at h2;simp only at h2;rw [h2]
theorem wja {l:List Int} (h:N.By l):zu (Xm l) = l:=by
 rw [zu,je,List.map_map];apply List.ext_getElem?;intro i;rw [List.getElem?_map]
 cases hx:l[i]? with
 | none=>rfl
 | some x=>
  have:=h x (List.mem_of_getElem? hx);simp only [Option.map_some,Function.comp_apply,UInt8.toNat_ofNat']
  congr 1;omega
theorem jf (l:List Int):(Xm l).size = l.length:=by
 have:=congrArg List.length (je l);simpa using this

def cidD (v:Int):DT:=⟨v / 281474976710656,v % 281474976710656⟩
theorem band48 {v:Int} (h0:0 <= v) (h:v <= 18446744073709551615):yBa .u64 v 281474976710655 = v % 281474976710656:=by
 obtain ⟨n,rfl⟩:=Int.eq_ofNat_of_zero_le h0;unfold yBa;have bv:∀ q:Nat,q < 18446744073709551616 -> (BitVec.ofInt IntKind.u64.bits (q:Int)).toNat = q:=fun q hq=>by
  show (BitVec.ofInt 64 (q:Int)).toNat = q;rw [BitVec.toNat_ofInt];omega
 have e:(281474976710655:Int) = ((281474976710655:Nat):Int):=rfl;rw [e,BitVec.toNat_and,bv n (by omega),bv _ (by decide)];have h2:n &&& 281474976710655 = n % 281474976710656:=Nat.and_two_pow_sub_one_eq_mod n 48;rw [h2,WF (by omega) (by omega)];omega
theorem Split_eq {v:Int} (h0:0 <= v) (h:v <= 18446744073709551615):Zs v = pure ((cidD v).dev,(cidD v).n):=by
 unfold Zs cidD;have e:(2 ^ 48:Int) = 281474976710656:=rfl;rw [band48 h0 h,Int.fdiv_eq_ediv_of_nonneg _ (by decide),e,wU16 (by omega) (by omega)]
theorem uQa {v:Int} (h0:0 <= v) (h:v <= 18446744073709551615):Uz v = pure ((cidD v).dev,(cidD v).n):=by
 unfold Uz cidD;rw [Int.tdiv_eq_ediv_of_nonneg h0,Int.tmod_eq_emod_of_nonneg h0,WF (by omega) (by omega),wU16 (by omega) (by omega)]
def xF (v:Int):Bool:=V.yF (cidD v)
theorem uRa {v:Int} (h0:0 <= v) (h:v <= 18446744073709551615):XE v = pure (if xF v = true then cidD v else ⟨0,0⟩,xF v):=by
 unfold XE;rw [Split_eq h0 h,zB,zA,V.ul,zB,zA];show cond (!xF v) _ _ = _
 cases xF v <;> rfl
theorem wka {v:Int} (h0:0 <= v) (h:v <= 18446744073709551615):VU v = pure (if xF v = true then cidD v else ⟨0,0⟩,xF v):=by
 unfold VU;rw [uQa h0 h,zB,zA,V.YK,zB,zA];show cond (!xF v) _ _ = _
 cases xF v <;> rfl

def yxa (f:Int):Bool:=decide (1 <= f) && decide (f <= 5)
theorem Field_eq (f:Int):XF f = pure (yxa f):=by unfold XF yxa;rw [zW];rfl
theorem uSa (f:Int):qE f = pure (yxa f):=by unfold qE yxa;rw [zW];rfl
def okB (x:Int):Bool:=decide (32 <= x) && decide (x <= 126)
def QW (s:ByteArray):Bool:=decide (s.size <= 60) && (zu s).all okB
theorem YS {α:Type} (l:List α) (p:α -> Bool):(l.zipIdx.all fun y=>p y.1) = l.all p:=by
 rw [Bool.eq_iff_iff,List.all_eq_true,List.all_eq_true]
 constructor
 ·intro h x hx;obtain ⟨i,hi⟩:=List.getElem?_of_mem hx;exact h (x,i) (by rw [List.mk_mem_zipIdx_iff_getElem?];exact hi)
 ·intro h y hy;exact h y.1 (List.fst_mem_of_mem_zipIdx hy)
theorem okB_eq (x:Int) (f:M Bool) (hf:f = pure (decide (126 < x))):(cond (decide (x < 32)) (pure true) f:M Bool) = pure (!okB x):=by
 rw [hf];unfold okB
 by_cases h1:x < 32
 ·have:¬ 32 <= x:=by omega
  simp [h1,this]
 ·have:32 <= x:=by omega
  by_cases h2:126 < x
  ·have:¬ x <= 126:=by omega
   simp [h1,h2,this]
  ·have:x <= 126:=by omega
   simp [h1,h2, *]
theorem uTa (s:ByteArray) (hs:s.size <= 1000000000000):loop (wq s) 0 = pure (if (zu s).all okB = true then Ex.brk () else Ex.ret false):=by
 have:=xU (body:=wq s) (zu s) (fun i=>(i:Int)) (fun _ x=>okB x) (Ex.brk ()) (Ex.ret false) (fun i x hx hi=>by
  have hd:decide ((i:Int) < (s.size:Int)) = true:=by rw [<- vH];simpa using hi
  have hi2:i < s.size:=by rw [<- vH];exact hi
  unfold wq;simp only [hd,cond_true,zH hx,zA,okB_eq x _ rfl,yN (show i < 9223372036854775807 by omega)]
  cases okB x <;> rfl) (by
  unfold wq;simp [vH])
 rw [show (0:Int) = ((0:Nat):Int) from rfl,this,YS]
theorem wla (s:ByteArray) (hs:s.size <= 1000000000000):loop (uc s) 0 = pure (if (zu s).all okB = true then Ex.brk () else Ex.ret false):=by
 have:=xU (body:=uc s) (zu s) (fun i=>(i:Int)) (fun _ x=>okB x) (Ex.brk ()) (Ex.ret false) (fun i x hx hi=>by
  have hd:decide ((i:Int) < (s.size:Int)) = true:=by rw [<- vH];simpa using hi
  have hi2:i < s.size:=by rw [<- vH];exact hi
  unfold uc;simp only [hd,cond_true,zH hx,zA,okB_eq x _ rfl,yN (show i < 9223372036854775807 by omega)]
  cases okB x <;> rfl) (by
  unfold uc;simp [vH])
 rw [show (0:Int) = ((0:Nat):Int) from rfl,this,YS]
theorem yna (s:ByteArray) (hs:s.size <= 1000000000000):XG s = pure (QW s):=by
 unfold XG QW;rw [uTa s hs]
 by_cases h:s.size <= 60
 ·have:decide ((60:Int) < (s.size:Int)) = false:=by simp;omega
  rw [this,cond_false,zA,decide_eq_true h,Bool.true_and]
  cases (zu s).all okB <;> rfl
 ·have:decide ((60:Int) < (s.size:Int)) = true:=by simp;omega
  rw [this,cond_true,decide_eq_false h,Bool.false_and]
theorem rText_eq (s:ByteArray) (hs:s.size <= 1000000000000):qG s = pure (QW s):=by
 unfold qG QW;rw [wla s hs,zA]
 cases (zu s).all okB with
 | false=>rw [Bool.and_false];rfl
 | true=>
  rw [if_pos rfl,wV,Bool.and_true]
  congr 1
  by_cases h:s.size <= 60
  ·rw [decide_eq_true h];simp;omega
  ·rw [decide_eq_false h];simp;omega

structure OkE (e:EV):Prop where
 dot:D.OkD e.dot
 kind:0 <= e.kind /\ e.kind <= 255
 cid:0 <= e.cid /\ e.cid <= 18446744073709551615
 field:0 <= e.field /\ e.field <= 255
 text:e.text.size <= 1000000000
 kills:∀ d ∈ e.kills,D.OkD d
 klen:e.kills.length <= 1000000000
def zta (s:ByteArray):Bool:=decide (s = ⟨#[]⟩)
def yya (e:EV):Bool:=(decide (e.kind = 1) && (yxa e.field && QW e.text)) || (decide (e.kind = 2) && (decide (e.field = 0) && zta e.text))
def zua (e:EV):Bool:=decide (e.kills.length <= 256) && (D.XA e.kills && e.kills.all fun d=>V.yF d && !decide (d = e.dot))
def zp (e:EV):Bool:=(xF e.cid && V.yF e.dot) && (yya e && zua e)
theorem uUa (l:List DT) (hl:l.length <= 1000000000000):XH l = pure (D.XA l):=by
 unfold XH;have key:∀ (k i:Nat) (x:DT) (r:List DT),i + k = l.length -> l.drop i = r -> i ≠ 0 -> l[i - 1]? = some x -> loop (yf l) (i:Int) = pure (if D.XA (x :: r) = true then Ex.brk () else Ex.ret false):=by
  intro k
  induction k with
  | zero=>
   intro i x r hi hr h1 hx;have:r = []:=by rw [<- hr];exact List.drop_eq_nil_of_le (by omega)
   subst this;exact zV (by
    unfold yf;have:decide ((i:Int) < (l.length:Int)) = false:=by simp;omega
    simp only [this,cond_false];rfl)
  | succ k ih=>
   intro i x r hi hr h1 hx;have hlt:i < l.length:=by omega
   have hr2:r = l[i] :: l.drop (i + 1):=by rw [<- hr];exact List.drop_eq_getElem_cons hlt
   have hy:=List.getElem?_eq_getElem hlt;have hi1:idx l (IntKind.i64.wrap ((i:Int) - 1)) = pure x:=by
    rw [Yt (by omega) (by omega)];exact WT (by omega) (by rw [show ((i:Int) - 1).toNat = i - 1 by omega];exact hx)
   have hb:yf l (i:Int) = cond (!za x l[i]) (pure (.done (.ret false))) (pure (.next ((i + 1:Nat):Int))):=by
    unfold yf;have h2:decide ((i:Int) < (l.length:Int)) = true:=by simp;omega
    have h3:decide ((0:Int) < (i:Int)) = true:=by simp;omega
    simp only [h2,h3,cond_true,hi1,zH hy,zA,D.JZ,zB,D.Ja,yN (show i < 9223372036854775807 by omega)]
   rw [hr2];show _ = (pure (if (za x l[i] && D.XA (l[i] :: l.drop (i + 1))) = true then Ex.brk () else Ex.ret false):M (Ex Unit Bool))
   cases c:za x l[i] with
   | true=>
    rw [c] at hb;rw [zT hb,Bool.true_and];exact ih (i + 1) l[i] _ (by omega) rfl (by omega) hy
   | false=>
    rw [c] at hb;rw [zV hb];rfl
 cases l with
 | nil=>
  rw [zV (r:=Ex.brk ()) (by unfold yf;rfl)];rfl
 | cons x r=>
  have h0:yf (x :: r) 0 = pure (.next 1):=by
   unfold yf;have h2:decide ((0:Int) < ((x :: r).length:Int)) = true:=decide_eq_true (by rw [List.length_cons];omega);simp only [h2,cond_true,show decide ((0:Int) < 0) = false from rfl,cond_false,zA];rw [Yt (by omega) (by omega)]
   rfl
  have:=key r.length 1 x r (by simp;omega) rfl (by decide) rfl;rw [show ((1:Nat):Int) = 1 from rfl] at this;rw [zT h0,this,zA]
  cases D.XA (x :: r) <;> rfl
theorem wma (e:EV) (hl:e.kills.length <= 1000000000000):loop (wv e) 0 = pure (if (e.kills.all fun d=>V.yF d && !decide (d = e.dot)) = true then Ex.brk () else Ex.ret false):=by
 have:=xU (body:=wv e) e.kills (fun i=>(i:Int)) (fun _ d=>V.yF d && !decide (d = e.dot)) (Ex.brk ()) (Ex.ret false) (fun i x hx hi=>by
  have hd:decide ((i:Int) < (e.kills.length:Int)) = true:=by simpa using hi
  unfold wv;simp only [hd,cond_true,zH hx,zA,V.ul,zB,D.ysa,yN (show i < 9223372036854775807 by omega)]
  cases V.yF x <;> cases decide (x = e.dot) <;> rfl) (by
  unfold wv;simp)
 rw [show (0:Int) = ((0:Nat):Int) from rfl,this,YS e.kills fun d=>V.yF d && !decide (d = e.dot)]
theorem ZK {e:EV} (h:OkE e):uQ e = pure (zp e):=by
 have hk:=h.klen;have ht:=h.text;unfold uQ zp;rw [uRa h.cid.1 h.cid.2,zB,zA,V.ul,zB,zA,wma e (by omega),uUa e.kills (by omega),Field_eq,yna e.text (by omega)];simp only []
 cases xF e.cid with
 | false=>rfl
 | true=>
  cases V.yF e.dot with
  | false=>rfl
  | true=>
   have hl:decide ((256:Int) < (e.kills.length:Int)) = !decide (e.kills.length <= 256):=by
    by_cases c:e.kills.length <= 256
    ·rw [decide_eq_true c];simp;omega
    ·rw [decide_eq_false c];simp;omega
   have tail:(cond (decide ((256:Int) < (e.kills.length:Int))) (pure true) ((det (pure (D.XA e.kills))).bind fun v23=>pure (!v23))).bind (fun v21=>cond v21 (pure false) ((pure (if (e.kills.all fun d=>V.yF d && !decide (d = e.dot)) = true then Ex.brk () else Ex.ret false)).bind (exk fun _=>pure true))) = pure (zua e):=by
    unfold zua;rw [hl,zB,zA]
    cases decide (e.kills.length <= 256) with
    | false=>rfl
    | true=>
     cases D.XA e.kills with
     | false=>rfl
     | true=>cases e.kills.all fun d=>V.yF d && !decide (d = e.dot) <;> rfl
   simp only [Bool.not_true,cond_false,zA,zB,Bool.true_and] at tail ⊢;unfold yya zta
   by_cases k1:e.kind = 1
   ·have k2:decide (e.kind = 2) = false:=by rw [k1];rfl
    rw [decide_eq_true k1,cond_true,k2,Bool.true_and,Bool.false_and,Bool.or_false]
    cases yxa e.field with
    | false=>rfl
    | true=>
     cases QW e.text with
     | false=>rfl
     | true=>exact tail
   ·rw [decide_eq_false k1,cond_false,Bool.false_and,Bool.false_or]
    by_cases k2:e.kind = 2
    ·rw [decide_eq_true k2,cond_true,Bool.true_and]
     cases decide (e.field = 0) with
     | false=>rfl
     | true=>
      cases decide (e.text = (⟨#[]⟩:ByteArray)) with
      | false=>rfl
      | true=>exact tail
    ·rw [decide_eq_false k2];rfl
theorem Vh (l:List DT) (d:DT) (hl:l.length <= 1000000000000):qH l d = pure (l.any fun x=>decide (x = d)):=by
 unfold qH;have:=xU (body:=Xa l d) l (fun i=>(i:Int)) (fun _ x=>!decide (x = d)) (Ex.brk ()) (Ex.ret true) (fun i x hx hi=>by
  have hd:decide ((i:Int) < (l.length:Int)) = true:=by simpa using hi
  unfold Xa;simp only [hd,cond_true,zH hx,zA,D.ysa,yN (show i < 9223372036854775807 by omega)]
  cases decide (x = d) <;> rfl) (by
  unfold Xa;simp)
 rw [show (0:Int) = ((0:Nat):Int) from rfl,this,zA,YS l fun x=>!decide (x = d)];have e:(l.any fun x=>decide (x = d)) = !(l.all fun x=>!decide (x = d)):=by simp [List.all_eq_not_any_not]
 rw [e]
 cases l.all fun x=>!decide (x = d) <;> rfl
theorem wna (e:EV) (hl:e.kills.length <= 1000000000000):loop (ud e) 0 = pure (if e.kills.all V.yF = true then Ex.brk () else Ex.ret false):=by
 have:=xU (body:=ud e) e.kills (fun i=>(i:Int)) (fun _ d=>V.yF d) (Ex.brk ()) (Ex.ret false) (fun i x hx hi=>by
  have hd:decide ((i:Int) < (e.kills.length:Int)) = true:=by simpa using hi
  unfold ud;simp only [hd,cond_true,zH hx,zA,V.YK,zB,yN (show i < 9223372036854775807 by omega)]
  cases V.yF x <;> rfl) (by
  unfold ud;simp)
 rw [show (0:Int) = ((0:Nat):Int) from rfl,this,YS e.kills V.yF]
theorem vE {e:EV} (h:OkE e):UM e = pure (zp e):=by
 have hk:=h.klen;have ht:=h.text;unfold UM zp;rw [wka h.cid.1 h.cid.2,zB,zA,V.YK,zB,zA,wna e (by omega),D.wga e.kills (by omega),uSa,rText_eq e.text (by omega),Vh e.kills e.dot (by omega)];simp only []
 cases xF e.cid with
 | false=>rfl
 | true=>
  cases V.yF e.dot with
  | false=>rfl
  | true=>
   have hl:decide ((e.kills.length:Int) <= 256) = decide (e.kills.length <= 256):=by
    by_cases c:e.kills.length <= 256
    ·rw [decide_eq_true c];simp;omega
    ·rw [decide_eq_false c];simp;omega
   have hall:(e.kills.all fun d=>V.yF d && !decide (d = e.dot)) = (e.kills.all V.yF && !(e.kills.any fun x=>decide (x = e.dot))):=by
    rw [Bool.eq_iff_iff,Bool.and_eq_true,List.all_eq_true,List.all_eq_true,Bool.not_eq_true',List.any_eq_false]
    constructor
    ·intro h;exact ⟨fun x hx=>by have:=h x hx;rw [Bool.and_eq_true] at this;exact this.1,fun x hx=>by have:=h x hx;rw [Bool.and_eq_true] at this;simpa using this.2⟩
    ·rintro ⟨h1,h2⟩ x hx;rw [Bool.and_eq_true];exact ⟨h1 x hx,by simpa using h2 x hx⟩
   have tail:((pure (if e.kills.all V.yF = true then Ex.brk () else Ex.ret false):M (Ex Unit Bool)).bind (exk fun _=>(cond (decide ((e.kills.length:Int) <= 256)) ((det (pure (D.XA e.kills))).bind fun v46=>cond v46 ((det (pure (e.kills.any fun x=>decide (x = e.dot)))).bind fun v49=>pure (!v49)) (pure false)) (pure false)).bind fun v44=>pure v44)) = pure (zua e):=by
    unfold zua;rw [hl,hall];simp only [zB,zA]
    cases e.kills.all V.yF with
    | false=>cases decide (e.kills.length <= 256) <;> cases D.XA e.kills <;> rfl
    | true=>cases decide (e.kills.length <= 256) <;> cases D.XA e.kills <;> cases e.kills.any fun x=>decide (x = e.dot) <;> rfl
   simp only [Bool.not_true,cond_false,zA,zB,Bool.true_and] at tail ⊢;unfold yya zta
   by_cases k1:e.kind = 1
   ·have k2:decide (e.kind = 2) = false:=by rw [k1];rfl
    rw [decide_eq_true k1,k2];simp only [Bool.not_true,cond_false,cond_true,zA,Bool.true_and,Bool.false_and,Bool.or_false]
    cases yxa e.field with
    | false=>rfl
    | true=>
     cases QW e.text with
     | false=>rfl
     | true=>exact tail
   ·rw [decide_eq_false k1];simp only [Bool.not_false,cond_true,zA,Bool.false_and,Bool.false_or]
    by_cases k2:e.kind = 2
    ·rw [decide_eq_true k2];simp only [Bool.not_true,cond_false,cond_true,Bool.true_and]
     cases decide (e.field = 0) with
     | false=>rfl
     | true=>
      cases decide (e.text = (⟨#[]⟩:ByteArray)) with
      | false=>rfl
      | true=>exact tail
    ·rw [decide_eq_false k2];rfl


def fewE (l:List EV) (most:Nat):Bool:=decide (l.length <= most) && l.all fun e=>decide (e.kills.length <= 300) && decide (e.text.size <= 200)
theorem few_mem {l:List EV} {most:Nat} (h:fewE l most = true):l.length <= most /\ ∀ e ∈ l,e.kills.length <= 300 /\ e.text.size <= 200:=by
 unfold fewE at h;rw [Bool.and_eq_true,List.all_eq_true] at h;exact ⟨by simpa using h.1,fun e he=>by simpa using h.2 e he⟩
theorem UY (a b:EV) (h:a.kills.length <= 1000000000000):xHa a b = pure (decide (a = b)):=by
 unfold xHa;rw [D.ysa,V.yaa a.kills b.kills h,zB,zA];have e:decide (a = b) = (decide (a.dot = b.dot) && (decide (a.kind = b.kind) && (decide (a.cid = b.cid) && (decide (a.field = b.field) && (decide (a.text = b.text) && decide (a.kills = b.kills)))))):=by
  cases a;cases b;simp only [EV.mk.injEq,Bool.decide_and]
 rw [e]
 cases decide (a.dot = b.dot) <;> cases decide (a.kind = b.kind) <;> cases decide (a.cid = b.cid) <;> cases decide (a.field = b.field) <;> cases decide (a.text = b.text) <;> rfl
def QX (s:ByteArray):List Int:=N.ya s.size ++ zu s
def Xj (e:EV):List Int:=D.encD e.dot ++ ([e.kind] ++ (N.ya e.cid ++ ([e.field] ++ (QX e.text ++ D.uM e.kills))))
theorem xya {s:ByteArray} (h:s.size <= 1000000000):(QX s).length <= 9 + s.size:=by
 have:=N.zh (v:=(s.size:Int)) (by omega);rw [QX,List.length_append,vH];omega
theorem encE_len {e:EV} (h:OkE e):(Xj e).length <= 47 + e.text.size + 18 * e.kills.length:=by
 have h1:=D.Uc h.dot;have h2:=N.zh h.cid.2;have h3:=xya h.text;have h4:=D.uHa h.kills (by have:=h.klen;omega);simp only [Xj,List.length_append,List.length_singleton];omega
theorem woa {s:ByteArray} (h:s.size <= 1000000000) (row:List Int) (hr:row.length <= 1000000000000):xI s row = pure (row ++ QX s):=by
 have:=N.zh (v:=(s.size:Int)) (by omega);unfold xI;rw [WF (by omega) (by omega),N.vF row (by omega) (by omega) (by omega),zB,zA,zC (by omega),N.uEa _ _ (by rw [List.length_append,vH];omega),zB,zA,QX,List.append_assoc]
theorem Put_eq {e:EV} (h:OkE e) (row:List Int) (hr:row.length <= 10000000000):Zu e row = pure (row ++ Xj e):=by
 have h1:=D.Uc h.dot;have h2:=N.zh h.cid.2;have h3:=xya h.text;have ht:=h.text;have hk:=h.klen;unfold Zu;rw [D.zja h.dot row (by omega),zB,zA,N.QK _ _ (by rw [List.length_append];omega),zB,zA,N.vF _ h.cid.1 h.cid.2 (by simp only [List.length_append,List.length_singleton];omega),zB,zA,
  N.QK _ _ (by simp only [List.length_append,List.length_singleton];omega),zB,zA,woa h.text _ (by simp only [List.length_append,List.length_singleton];omega),zB,zA,
  D.wfa h.kills (by omega) _ (by simp only [List.length_append,List.length_singleton];omega),zB,zA]
 simp only [Xj,List.append_assoc]
def wi (l:List EV):List Int:=N.ya l.length ++ l.flatMap Xj
theorem zva {l:List EV} (h:∀ e ∈ l,OkE e) (hl:l.length <= 1000000000) (row:List Int) (hr:row.length + (l.flatMap Xj).length <= 1000000000):xB l row = pure (row ++ wi l):=by
 have h9:=N.zh (v:=(l.length:Int)) (by omega);unfold xB;rw [WF (by omega) (by omega),N.vF row (by omega) (by omega) (by omega),zB,zA];have:=D.QN (body:=xa l) l Xj (row ++ N.ya (l.length:Int)) 2000000000 (fun i out=>((i:Int),out)) (fun t=>pure t) (by rw [List.length_append];omega) (fun i x out hx hi ho=>by
  have hd:decide ((i:Int) < (l.length:Int)) = true:=by simpa using hi
  unfold xa;simp only [hd,cond_true,zH hx,zA,Put_eq (h x (List.mem_of_getElem? hx)) out (by omega),zB,yN (show i < 9223372036854775807 by omega)]) (fun out=>by
  unfold xa;simp [zA])
 rw [show (0:Int) = ((0:Nat):Int) from rfl,this,wi,List.append_assoc]
theorem VG {l:List EV} (h:∀ e ∈ l,OkE e) (hf:∀ e ∈ l,e.kills.length <= 300 /\ e.text.size <= 200):(l.flatMap Xj).length <= 6000 * l.length:=
 D.VB l Xj 6000 fun e he=>by have:=encE_len (h e he);have:=hf e he;omega
open N (RS Ok zO zw yq Zh vU Qi OkB Sim)
open D (UB fin)

def s1 (s:RS):RS:=(D.Yg s).2
def s2 (s:RS):RS:=(yq (s1 s)).2
def s3 (s:RS):RS:=(zO (s2 s)).2
def s4 (s:RS):RS:=(yq (s3 s)).2
def s5 (s:RS):RS:=(Zh 60 (s4 s)).2
def s6 (s:RS):RS:=(D.vG 256 (s5 s)).2
def getE (s:RS):EV:=⟨(D.Yg s).1,(yq (s1 s)).1,(zO (s2 s)).1,(yq (s3 s)).1,(Zh 60 (s4 s)).1,(D.vG 256 (s5 s)).1⟩
def noE : EV:=⟨⟨0,0⟩,0,0,0,⟨#[]⟩,[]⟩
def getT (s:RS):RS:=UB (!zp (getE s)) (s6 s)
def yv (s:RS):EV × RS:=fin noE (getE s) (getT s)
theorem uVa {s:RS} (h:Ok s) (m:Int):(Zh m s).1.size <= 1000000000:=by
 have h1:=(N.ym h).1.len;unfold Zh
 split
 ·exact (by decide:(0:Nat) <= 1000000000)
 ·split
  ·exact (by decide:(0:Nat) <= 1000000000)
  ·split
   ·exact (by decide:(0:Nat) <= 1000000000)
   ·rw [jf,List.length_take];omega
theorem dots_okD {s:RS} (h:Ok s) (most:Int):(∀ d ∈ (D.vG most s).1,D.OkD d) /\ (D.vG most s).1.length <= 1000000000:=by
 by_cases c:(D.vG most s).2.2 = 0
 ·obtain ⟨e1,e2,e3,e4⟩:=D.xwa h c;have hl:=congrArg List.length e1;have hs:=h.len;have h9:(D.xx (D.ux (D.vG most s).1)) = (D.vG most s).1:=D.jd e2 fun d hd=>(e3 d hd).1
  have h8:∀ l:List DT,l.length <= (l.flatMap D.encD).length:=by
   intro l
   induction l with
   | nil=>simp
   | cons x t ih=>
    have:1 <= (D.encD x).length:=by rw [D.encD,List.length_append,N.ya,N.zga,List.length_cons];omega
    rw [List.flatMap_cons,List.length_append,List.length_cons];omega
  have h7:=h8 (D.vG most s).1;refine ⟨fun d hd=>(e3 d hd).2,?_⟩;rw [List.length_append,D.uM,h9,List.length_append] at hl;omega
 ·rw [D.dots_bad c];simp
theorem uWa {s:RS} (h:Ok s):Ok (s1 s) /\ Ok (s2 s) /\ Ok (s3 s) /\ Ok (s4 s) /\ Ok (s5 s) /\ Ok (s6 s) /\ OkE (getE s):=by
 have o1:Ok (s1 s):=(D.zma h).1;have o2:=N.WG o1;have o3:=N.ym (s:=s2 s) o2.1;have o4:=N.WG (s:=s3 s) o3.1;have o5:=N.ok_text (s:=s4 s) o4.1 60;have o6:=D.v8a (s:=s5 s) o5 256;obtain ⟨k1,k2⟩:=dots_okD (s:=s5 s) o5 256;exact ⟨o1,o2.1,o3.1,o4.1,o5,o6,(D.zma h).2.1,o2.2,o3.2,o4.2,uVa (s:=s4 s) o4.1 60,k1,k2⟩
theorem Get_eq {s:RS} (h:Ok s):Zv s.1 s.2 = pure (yv s):=by
 obtain ⟨o1,o2,o3,o4,o5,o6,oe⟩:=uWa h;unfold Zv yv;have e1:vN s.1 s.2 = pure ((D.Yg s).1,s1 s):=D.Dot_eq h;have e2:zd (s1 s).1 (s1 s).2 = pure ((yq (s1 s)).1,s2 s):=N.UZ o1;have e3:zJ (s2 s).1 (s2 s).2 = pure ((zO (s2 s)).1,s3 s):=N.Ya o2;have e4:zd (s3 s).1 (s3 s).2 = pure ((yq (s3 s)).1,s4 s):=N.UZ o3;have e5:yh 60 (s4 s).1 (s4 s).2 = pure ((Zh 60 (s4 s)).1,s5 s):=N.yna o4 (by decide);have e6:vj 256 (s5 s).1 (s5 s).2 = pure ((D.vG 256 (s5 s)).1,s6 s):=D.ywa o5 (by decide);rw [e1,zB,zA];simp only [];rw [e2,zB,zA];simp only [];rw [e3,zB,zA];simp only [];rw [e4,zB,zA];simp only [];rw [e5,zB,zA];simp only [];rw [e6,zB,zA];simp only [];have eg:=ZK oe;unfold getE at eg;rw [eg,zB,zA];have ep:=D.QQ (zp (getE s)) (s6 s);unfold getE at ep;rw [ep,zA];exact D.yva _ _ _
variable {B:List Int} {a:Int} {s:RS}
theorem uXa (s:RS):(yq s).2.1.length <= s.1.length:=by
 unfold yq
 split
 ·exact Nat.le_refl _
 ·split
  ·exact D.Yy _ _
  ·rename_i x r h;rw [h];simp
theorem uYa {s:RS} (h:(yq s).2.2 = 0):s.2 = 0 /\ s.1 = (yq s).1 :: (yq s).2.1:=by
 unfold yq at h ⊢
 by_cases c:s.2 ≠ 0
 ·rw [if_pos c] at h;exact absurd h c
 ·rw [if_neg c] at h ⊢
  cases hs:s.1 with
  | nil=>rw [hs] at h;exact absurd h (N.xh (by decide))
  | cons x r=>exact ⟨Classical.byContradiction c,rfl⟩
theorem text_ok {m:Int} {s:RS} (hO:Ok s) (h:(Zh m s).2.2 = 0):(zO s).2.2 = 0 /\ s.1 = QX (Zh m s).1 ++ (Zh m s).2.1 /\ ((Zh m s).1.size:Int) <= max m 0:=by
 obtain ⟨k1,k2,k3⟩:=N.ym hO;unfold Zh at h ⊢
 by_cases c:(zO s).2.2 ≠ 0
 ·rw [if_pos c] at h;exact absurd h c
 ·rw [if_neg c] at h ⊢
  by_cases c2:max m 0 < (zO s).1
  ·rw [if_pos c2] at h;exact absurd h (N.xh (by decide))
  ·rw [if_neg c2] at h ⊢
   by_cases c3:((zO s).2.1.length:Int) < (zO s).1
   ·rw [if_pos c3] at h;exact absurd h (N.xh (by decide))
   ·rw [if_neg c3];have hz:(zO s).2.2 = 0:=Classical.byContradiction c;refine ⟨hz,?_,?_⟩
    ·show s.1 = (N.ya ((Xm _).size:Int) ++ zu (Xm _)) ++ _;rw [jf,wja (k1.by_.take _),List.length_take,show ((min (zO s).1.toNat (zO s).2.1.length:Nat):Int) = (zO s).1 by omega,List.append_assoc,List.take_append_drop];exact D.vz hO hz
    ·show ((Xm _).size:Int) <= _;rw [jf,List.length_take];omega
theorem uZa {s:RS} (hO:Ok s) (h:(yv s).2.2 = 0):s.2 = 0 /\ zp (yv s).1 = true /\ OkE (yv s).1 /\ s.1 = Xj (yv s).1 ++ (yv s).2.1:=by
 obtain ⟨o1,o2,o3,o4,o5,o6,oe⟩:=uWa hO;unfold yv at h ⊢;rw [D.VD] at h;rw [D.ja h];obtain ⟨g1,g2,g3⟩:=D.Vk (c:=!zp (getE s)) (s:=s6 s) h;have i6:=D.xwa o5 g2;have z5:(s5 s).2 = 0:=Classical.byContradiction fun c=>by
  have:(D.vG 256 (s5 s)).2.2 ≠ 0:=by
   have hn:=N.num_of c;unfold D.vG;rw [hn];rw [if_neg (by show ¬ max 256 0 < (0:Int);omega)];exact c
  exact this g2
 obtain ⟨z5',i5,_⟩:=text_ok (m:=60) o4 z5;have z4:=D.Xq z5';obtain ⟨z3,i4⟩:=uYa (s:=s3 s) z4;have i3:=D.vz o2 z3;have z2:=D.Xq z3;obtain ⟨z1,i2⟩:=uYa (s:=s1 s) z2;have i1:=D.uOa hO z1;have z0:s.2 = 0:=D.Xq (D.QR (D.xna z1).2.1).1;refine ⟨z0,by simpa using g1,oe,?_⟩;show s.1 = Xj (getE s) ++ (getT s).1;rw [show getT s = s6 s from g3];show s.1 = (D.encD (D.Yg s).1 ++ ([(yq (s1 s)).1] ++ (N.ya (zO (s2 s)).1 ++ ([(yq (s3 s)).1] ++ (QX (Zh 60 (s4 s)).1 ++ D.uM (D.vG 256 (s5 s)).1))))) ++ (s6 s).1;simp only [List.append_assoc];have j6:(s5 s).1 = D.uM (D.vG 256 (s5 s)).1 ++ (s6 s).1:=i6.1;have j5:(s4 s).1 = QX (Zh 60 (s4 s)).1 ++ (s5 s).1:=i5;have j4:(s3 s).1 = [(yq (s3 s)).1] ++ (s4 s).1:=i4;have j3:(s2 s).1 = N.ya (zO (s2 s)).1 ++ (s3 s).1:=i3;have j2:(s1 s).1 = [(yq (s1 s)).1] ++ (s2 s).1:=i2;have j1:s.1 = D.encD (D.Yg s).1 ++ (s1 s).1:=i1;rw [<- j6,<- j5,<- j4,<- j3,<- j2];exact j1
theorem JQ {s:RS} (hO:Ok s) (h:(yv s).2.2 = 0):(yv s).2.1.length + 1 <= s.1.length:=by
 have:=(uZa hO h).2.2.2;have hl:=congrArg List.length this;have:1 <= (Xj (yv s).1).length:=by simp only [Xj,List.length_append,List.length_singleton];omega
 rw [List.length_append] at hl;omega

theorem YT (x:Int) (r:List Int):yq (x :: r,0) = (x,(r,0)):=rfl
theorem text_enc {t:ByteArray} {m:Int} (h:(t.size:Int) <= m) (hs:t.size <= 1000000000000) (r:List Int):Zh m (QX t ++ r,0) = (t,(r,0)):=by
 have e:QX t ++ r = N.ya (t.size:Int) ++ (zu t ++ r):=by rw [QX,List.append_assoc]
 have e1:=D.vy (v:=(t.size:Int)) (by omega) (by omega) (zu t ++ r);unfold Zh;rw [e,e1];have hl:=vH t;simp only [ne_eq,not_true_eq_false,if_false,Int.toNat_natCast];rw [if_neg (by omega),if_neg (by rw [List.length_append];omega),List.take_append_of_le_length (by omega),List.drop_append_of_le_length (by omega),List.take_of_length_le (by omega),List.drop_eq_nil_of_le (by omega),wia]
 rfl
theorem wpa {e:EV} (h:zp e = true):V.yF e.dot = true /\ yya e = true /\ e.kills.length <= 256 /\ D.Srt e.kills /\ (∀ d ∈ e.kills,V.yF d = true) /\ e.text.size <= 60:=by
 unfold zp zua at h;simp only [Bool.and_eq_true,decide_eq_true_eq,List.all_eq_true] at h;obtain ⟨⟨h1,h2⟩,h3,h4,h5,h6⟩:=h;refine ⟨h2,h3,h4,D.QS.1 h5,fun d hd=>(h6 d hd).1,?_⟩;unfold yya QW zta at h3;simp only [Bool.or_eq_true,Bool.and_eq_true,decide_eq_true_eq] at h3;rcases h3 with ⟨_,_,h,_⟩ | ⟨_,_,h⟩
 ·exact h
 ·rw [h];decide
theorem get_enc {e:EV} (h:OkE e) (hg:zp e = true) (r:List Int):yv (Xj e ++ r,0) = (e,(r,0)):=by
 obtain ⟨g1,g2,g3,g4,g5,g6⟩:=wpa hg;have q:Xj e ++ r = D.encD e.dot ++ (e.kind :: (N.ya e.cid ++ (e.field :: (QX e.text ++ (D.uM e.kills ++ r))))):=by
  simp only [Xj,List.append_assoc,List.cons_append,List.nil_append]
 have c1:=D.uMa h.dot g1 (e.kind :: (N.ya e.cid ++ (e.field :: (QX e.text ++ (D.uM e.kills ++ r)))));have c3:=D.vy h.cid.1 h.cid.2 (e.field :: (QX e.text ++ (D.uM e.kills ++ r)));have c5:=text_enc (t:=e.text) (m:=60) (by omega) (by omega) (D.uM e.kills ++ r);have c6:=D.dots_enc g4 (fun d hd=>⟨h.kills d hd,g5 d hd⟩) (most:=256) (by omega) (by omega) r;have t1:s1 (Xj e ++ r,0) = (e.kind :: (N.ya e.cid ++ (e.field :: (QX e.text ++ (D.uM e.kills ++ r)))),0):=by unfold s1;rw [q,c1]
 have t2:s2 (Xj e ++ r,0) = (N.ya e.cid ++ (e.field :: (QX e.text ++ (D.uM e.kills ++ r))),0):=by unfold s2;rw [t1,YT]
 have t3:s3 (Xj e ++ r,0) = (e.field :: (QX e.text ++ (D.uM e.kills ++ r)),0):=by unfold s3;rw [t2,c3]
 have t4:s4 (Xj e ++ r,0) = (QX e.text ++ (D.uM e.kills ++ r),0):=by unfold s4;rw [t3,YT]
 have t5:s5 (Xj e ++ r,0) = (D.uM e.kills ++ r,0):=by unfold s5;rw [t4,c5]
 have t6:s6 (Xj e ++ r,0) = (r,0):=by unfold s6;rw [t5,c6]
 have tE:getE (Xj e ++ r,0) = e:=by
  unfold getE;rw [t1,t2,t3,t4,t5,q,c1,YT,c3,YT,c5,c6]
 unfold yv getT;rw [tE,t6,hg,Bool.not_true,D.uS]
 rfl

open N (RS Ok zO zw yq Zh vU Qi OkB Sim)
open D (UB fin)

def YU (out:List EV) (x:EV):Bool:=match out.getLast? with | some y=>decide (0 <= V.yCa y.dot x.dot) | none=>false
def QY (out:List EV) (s:RS):RS:=UB (YU out (yv s).1) (yv s).2
def JF : Nat -> List EV -> RS -> List EV × RS
 | 0,out,s=>(out,s)
 | k + 1,out,s=>if (QY out s).2 ≠ 0 then ([],QY out s) else JF k (out ++ [(yv s).1]) (QY out s)
def Zl (most:Int) (s:RS):List EV × RS:=if max most 0 < (zO s).1 then ([],vU 3 (zO s).2) else JF (zO s).1.toNat [] (zO s).2
theorem QZ {k:Nat} {out:List EV} {s:RS} (h:(QY out s).2 ≠ 0):JF (k + 1) out s = ([],QY out s):=if_pos h
theorem VH {k:Nat} {out:List EV} {s:RS} (h:(QY out s).2 = 0):JF (k + 1) out s = JF k (out ++ [(yv s).1]) (QY out s):=if_neg (by simp [h])
theorem uaa {out:List EV} {s:RS} (h:(QY out s).2 = 0):YU out (yv s).1 = false /\ (yv s).2.2 = 0 /\ QY out s = (yv s).2:=D.Vk h
theorem ok_gets {s:RS} (h:Ok s):Ok (yv s).2:=by
 unfold yv;rw [D.VD];exact D.Vj (uWa h).2.2.2.2.2.1 _
theorem Qa {s:RS} (h:Ok s) (out:List EV):Ok (QY out s):=D.Vj (ok_gets h) _
theorem uba : ∀ (k:Nat) (out:List EV) (s:RS),Ok s -> Ok (JF k out s).2
 | 0,_,_,h=>h
 | k + 1,out,s,h=>by
  by_cases c:(QY out s).2 = 0
  ·rw [VH c];exact uba k _ _ (Qa h out)
  ·rw [QZ c];exact Qa h out
theorem uca {s:RS} (h:Ok s) (most:Int):Ok (Zl most s).2:=by
 have h1:=N.ym h;unfold Zl
 split
 ·exact N.Yw h1.1 _
 ·exact uba _ _ _ h1.1
theorem uda {out:List EV} (h:out.length <= 1000000000000) (x:EV) (cmp:DT -> DT -> M Int) (hc:∀ y,cmp y x.dot = pure (V.yCa y x.dot)) :
  ((cond (decide (0 <= IntKind.i64.wrap ((out.length:Int) - 1))) ((idx out (IntKind.i64.wrap ((out.length:Int) - 1))).bind fun x61=>(det (cmp x61.dot x.dot)).bind fun v63=>pure (decide (0 <= v63))) (pure false)):M Bool) = pure (YU out x):=by
 unfold YU;rcases R.yZ out with rfl | ⟨r,y,rfl⟩
 ·rfl
 ·have hl:((r ++ [y]).length:Int) - 1 = (r.length:Int):=by simp
  rw [hl,Yt (by omega) (by simp at h;omega)];have:decide ((0:Int) <= (r.length:Int)) = true:=by simp
  rw [this,cond_true,zH (y:=y) (by simp),zA,hc,zB,zA];simp
theorem xza {y4:Int × List Int × Int} (hn:0 <= y4.1 /\ y4.1 <= 18446744073709551615):∀ (k i:Nat) (out:List EV) (s:RS),(i:Int) + k = y4.1 -> Ok s -> s.2 = 0 -> out.length + s.1.length <= 1000000000 ->
  (loop (yR y4) ((i:Int),out,s.1,s.2)).bind (exk fun ⟨out9,v10,v11⟩=>pure (out9,v10,v11)) = pure (JF k out s)
 | 0,i,out,s,hi,_,_,_=>by
  rw [zV (r:=.brk (out,s.1,s.2)) (by
   unfold yR;have:decide ((i:Int) < y4.1) = false:=by simp;omega
   simp only [this,cond_false])]
  rfl
 | k + 1,i,out,s,hi,hO,h0,hl=>by
  have hc:decide ((i:Int) < y4.1) = true:=by simp;omega
  have hlast:=uda (out:=out) (by omega) (yv s).1 vL (fun y=>D.JZ y _);have hw:IntKind.u64.wrap ((i:Int) + 1) = ((i + 1:Nat):Int):=by rw [WF (by omega) (by omega)];omega
  have hb:yR y4 ((i:Int),out,s.1,s.2) = (det (zN (QY out s).1 (QY out s).2)).bind fun y70=>cond (!decide (y70.1 = 0)) (pure (.done (.ret ([],y70.2.1,y70.2.2)))) (yV ((out.length + [(yv s).1].length) * 80 <= 140737488355328) (pure (.next (IntKind.u64.wrap ((i:Int) + 1),out ++ [(yv s).1],y70.2.1,y70.2.2)))):=by
   unfold yR;have e:=D.yua (YU out (yv s).1) (yv s).2;simp only [hc,cond_true,Get_eq hO,zB,zA];rw [hlast,zA,e,zA]
   rfl
  rw [N.Xp,zB,zA] at hb
  by_cases c:(QY out s).2 = 0
  ·obtain ⟨_,c2,c3⟩:=uaa c;have hlt:=JQ hO c2;rw [decide_eq_true c,Bool.not_true,cond_false,zC (by simp;omega),hw] at hb;rw [zT hb,VH c];exact xza hn k (i + 1) _ (QY out s) (by omega) (Qa hO out) c (by rw [c3];simp;omega)
  ·rw [decide_eq_false c,Bool.not_false,cond_true] at hb;rw [zV hb,QZ c]
   rfl
theorem zwa {s:RS} (hO:Ok s) {most:Int} (hm:most <= 9223372036854775807):xt most s.1 s.2 = pure (Zl most s):=by
 obtain ⟨h1,h2,h3⟩:=N.ym hO;unfold xt Zl;rw [N.Ya hO,zB,zA,WF (n:=max most 0) (by omega) (by omega)]
 by_cases c:max most 0 < (zO s).1
 ·rw [decide_eq_true c,cond_true,if_pos c,N.ZM 3 (zO s).2,zB,zA]
 ·rw [decide_eq_false c,cond_false,if_neg c]
  by_cases c2:(zO s).2.2 = 0
  ·exact xza (y4:=zO s) ⟨h2,h3⟩ (zO s).1.toNat 0 [] (zO s).2 (by omega) h1 c2 (by simp;have:=h1.len;omega)
  ·have hz:=D.vd c2;rw [hz,zV (r:=.brk ([],(zO s).2.1,(zO s).2.2)) (by
    unfold yR;simp only [hz,show decide ((0:Int) < 0) = false from rfl,cond_false])]
   rfl
variable {B:List Int} {a:Int} {s:RS}
abbrev uN (l:List EV):Prop:=l.Pairwise fun x y=>za x.dot y.dot = true
theorem uea {out:List EV} {x:EV} (hs:uN out) (h:YU out x = false):uN (out ++ [x]):=by
 unfold uN;rw [List.pairwise_append];refine ⟨hs,by simp,fun a ha b hb=>?_⟩;rw [List.mem_singleton.1 hb];rcases R.yZ out with rfl | ⟨q,y,rfl⟩
 ·simp at ha
 ·have hy:za y.dot x.dot = true:=by
   unfold YU at h;simp only [List.getLast?_append,List.getLast?_singleton,Option.some_or,D.Ja] at h;simpa using h
  rcases List.mem_append.1 ha with h5 | h5
  ·exact D.Xc ((List.pairwise_append.1 hs).2.2 a h5 y (by simp)) hy
  ·rw [List.mem_singleton.1 h5];exact hy
theorem Jb : ∀ (k:Nat) (out:List EV) (s:RS),Ok s -> s.2 = 0 -> uN out -> (∀ e ∈ out,OkE e /\ zp e = true) -> out.length + s.1.length <= 1000000000 ->
  uN (JF k out s).1 /\ (∀ e ∈ (JF k out s).1,OkE e /\ zp e = true) /\ (JF k out s).1.length <= 1000000000 /\ ((JF k out s).2.2 = 0 -> ∃ l,(JF k out s).1 = out ++ l /\ l.length = k /\ s.1 = l.flatMap Xj ++ (JF k out s).2.1) /\ ((JF k out s).2.2 ≠ 0 -> (JF k out s).1 = [])
 | 0,out,s,_,h0,hs,hg,hl=>⟨hs,hg,by show out.length <= _;omega,fun _=>⟨[],by simp [JF],rfl,by simp [JF]⟩,fun h=>absurd h0 h⟩
 | k + 1,out,s,hO,h0,hs,hg,hl=>by
  by_cases c:(QY out s).2 = 0
  ·obtain ⟨c1,c2,c3⟩:=uaa c;obtain ⟨i1,i2,i3,i4⟩:=uZa hO c2;have hlt:=JQ hO c2;rw [VH c];obtain ⟨q1,q2,q3,q4,q5⟩:=Jb k (out ++ [(yv s).1]) (QY out s) (Qa hO out) c (uea hs c1) (fun e he=>by
    rcases List.mem_append.1 he with h | h
    ·exact hg e h
    ·rw [List.mem_singleton.1 h];exact ⟨i3,i2⟩) (by rw [c3];simp;omega)
   refine ⟨q1,q2,q3,fun hz=>?_,q5⟩;obtain ⟨l,e1,e2,e3⟩:=q4 hz;refine ⟨(yv s).1 :: l,by rw [e1];simp,by simp [e2],?_⟩;rw [List.flatMap_cons,List.append_assoc,<- e3,c3];exact i4
  ·rw [QZ c];exact ⟨List.Pairwise.nil,by simp,by simp,fun h=>absurd h c,fun _=>rfl⟩
theorem Zj {s:RS} (hO:Ok s) (most:Int):uN (Zl most s).1 /\ (∀ e ∈ (Zl most s).1,OkE e /\ zp e = true) /\ (Zl most s).1.length <= 1000000000 /\ ((Zl most s).2.2 = 0 -> s.1 = wi (Zl most s).1 ++ (Zl most s).2.1 /\ ((Zl most s).1.length:Int) <= max most 0) /\ ((Zl most s).2.2 ≠ 0 -> (Zl most s).1 = []):=by
 obtain ⟨h1,h2,h3⟩:=N.ym hO;unfold Zl
 by_cases c:max most 0 < (zO s).1
 ·rw [if_pos c];exact ⟨List.Pairwise.nil,by simp,by simp,fun h=>absurd h (N.xh (by decide)),fun _=>rfl⟩
 ·rw [if_neg c]
  by_cases c2:(zO s).2.2 = 0
  ·obtain ⟨q1,q2,q3,q4,q5⟩:=Jb (zO s).1.toNat [] (zO s).2 h1 c2 List.Pairwise.nil (by simp) (by simp;have:=h1.len;omega);refine ⟨q1,q2,q3,fun hz=>?_,q5⟩;obtain ⟨l,e1,e2,e3⟩:=q4 hz;rw [List.nil_append] at e1;rw [e1];refine ⟨?_,by omega⟩;rw [wi,List.append_assoc,<- e3,e2,Int.toNat_of_nonneg h2];exact D.vz hO c2
  ·rw [D.vd c2];exact ⟨List.Pairwise.nil,by simp [JF],by simp [JF],fun h=>absurd h c2,fun _=>rfl⟩
theorem x0a : ∀ (l out:List EV) (r:List Int),uN (out ++ l) -> (∀ e ∈ l,OkE e /\ zp e = true) -> JF l.length out (l.flatMap Xj ++ r,0) = (out ++ l,(r,0))
 | [],out,r,_,_=>by simp [JF]
 | x :: t,out,r,hs,h=>by
  have hx:=h x (by simp);have e:yv ((x :: t).flatMap Xj ++ r,0) = (x,(t.flatMap Xj ++ r,0)):=by
   rw [List.flatMap_cons,List.append_assoc];exact get_enc hx.1 hx.2 _
  have hlast:YU out x = false:=by
   unfold YU
   cases hl:out.getLast? with
   | none=>rfl
   | some y=>
    have:=(List.pairwise_append.1 hs).2.2 y (List.mem_of_getLast? hl) x (by simp);simp only [D.Ja,this,Bool.not_true]
  have hT:QY out ((x :: t).flatMap Xj ++ r,0) = (t.flatMap Xj ++ r,0):=by
   unfold QY;rw [e];simp only [];rw [hlast]
   rfl
  rw [List.length_cons,VH (by rw [hT]),hT,e];simp only [];rw [x0a t (out ++ [x]) r (by rw [List.append_assoc];exact hs) (fun d hd=>h d (by simp [hd])),List.append_assoc]
  rfl
theorem ufa {l:List EV} (hs:uN l) (h:∀ e ∈ l,OkE e /\ zp e = true) {most:Int} (hm:(l.length:Int) <= most) (hl:l.length <= 1000000000000) (r:List Int):Zl most (wi l ++ r,0) = (l,(r,0)):=by
 have e2:wi l ++ r = N.ya (l.length:Int) ++ (l.flatMap Xj ++ r):=by rw [wi,List.append_assoc]
 unfold Zl;rw [e2,D.vy (by omega) (by omega)];simp only [];rw [if_neg (by omega),Int.toNat_natCast,x0a l [] r (by simpa using hs) h]
 rfl

def keepK (l:List DT) (c:List PT):List DT:=D.xx (l.filter fun d=>C.xm c d.dev d.n)
def again (dev:Int) (c:List PT) (i:Nat) (e:EV):EV:=⟨⟨dev,(i:Int) + 1⟩,e.kind,e.cid,e.field,e.text,keepK e.kills c⟩
def e0 : EV:=⟨⟨0,0⟩,0,0,0,⟨#[]⟩,[]⟩
def e4 : EV:=⟨⟨0,0⟩,0,0,0,⟨#[101]⟩,[]⟩
end Go.Ep.M.E

namespace Go.Ep.M.F
open Go
open E (OkE zp)

def Xf (l:List DT) (d:DT):Bool:=l.any fun x=>decide (x = d)
theorem JW (l:List DT) (d:DT) (hl:l.length <= 1000000000000):Jx l d = pure (Xf l d):=by
 unfold Jx yW yw;have:=loopF (body:=yB l d) l (fun i=>(i:Int)) (fun _ x=>decide (x = d)) (fun i _=>Ex.ret (i:Int)) (pure (Ex.brk ())) (fun i x hx hi=>by
  have hd:decide ((i:Int) < (l.length:Int)) = true:=by simpa using hi
  unfold yB;simp only [hd,cond_true,zH hx,zA,D.ysa,yN (show i < 9223372036854775807 by omega),vC,eq_comm (a:=d) (b:=x),decide_eq_true_eq]) (by
  unfold yB;simp [zA])
 rw [show (0:Int) = ((0:Nat):Int) from rfl,this];have hf:(l.zipIdx.find? fun y=>decide (y.1 = d)).isSome = Xf l d:=by
  rw [List.isSome_find?];unfold Xf;rw [Bool.eq_iff_iff,List.any_eq_true,List.any_eq_true]
  constructor
  ·rintro ⟨y,hy,h⟩;exact ⟨y.1,List.fst_mem_of_mem_zipIdx hy,h⟩
  ·rintro ⟨x,hx,h⟩;obtain ⟨i,hi⟩:=List.getElem?_of_mem hx;exact ⟨(x,i),by rw [List.mk_mem_zipIdx_iff_getElem?];exact hi,h⟩
 rw [<- hf]
 cases l.zipIdx.find? fun y=>decide (y.1 = d) with
 | none=>simp only [zA,zB,wV];rfl
 | some y=>simp only [zA,zB,wn];simp
def uA (l:List EV) (d:DT):Bool:=l.any fun e=>Xf e.kills d
theorem Dead_eq (l:List EV) (d:DT) (hl:l.length <= 1000000000000) (hk:∀ e ∈ l,e.kills.length <= 1000000000000):XI l d = pure (uA l d):=by
 unfold XI;have:=xU (body:=uC l d) l (fun i=>(i:Int)) (fun _ x=>!Xf x.kills d) (Ex.brk ()) (Ex.ret true) (fun i x hx hi=>by
  have hd:decide ((i:Int) < (l.length:Int)) = true:=by simpa using hi
  unfold uC Xx;simp only [hd,cond_true,zH hx,zA,JW x.kills d (hk x (List.mem_of_getElem? hx)),zB,yN (show i < 9223372036854775807 by omega)]
  cases Xf x.kills d <;> rfl) (by
  unfold uC;simp)
 rw [show (0:Int) = ((0:Nat):Int) from rfl,this,zA,E.YS l fun x=>!Xf x.kills d];have e:uA l d = !(l.all fun x=>!Xf x.kills d):=by simp [uA,List.all_eq_not_any_not]
 rw [e]
 cases l.all fun x=>!Xf x.kills d <;> rfl
theorem rDead_eq (l:List EV) (d:DT) (hl:l.length <= 1000000000000) (hk:∀ e ∈ l,e.kills.length <= 1000000000000):UN l d = pure (uA l d):=by
 unfold UN;have:=xU (body:=YA l d) l (fun i=>(i:Int)) (fun _ x=>!Xf x.kills d) (Ex.brk ()) (Ex.ret true) (fun i x hx hi=>by
  have hd:decide ((i:Int) < (l.length:Int)) = true:=by simpa using hi
  unfold YA;simp only [hd,cond_true,zH hx,zA,E.Vh x.kills d (hk x (List.mem_of_getElem? hx)),zB,yN (show i < 9223372036854775807 by omega)];show cond (Xf x.kills d) _ _ = _
  cases Xf x.kills d <;> rfl) (by
  unfold YA;simp)
 rw [show (0:Int) = ((0:Nat):Int) from rfl,this,zA,E.YS l fun x=>!Xf x.kills d];have e:uA l d = !(l.all fun x=>!Xf x.kills d):=by simp [uA,List.all_eq_not_any_not]
 rw [e]
 cases l.all fun x=>!Xf x.kills d <;> rfl

def wqa (l:List DT) (c:List PT):List DT:=D.xx (l.filter fun d=>!C.xm c d.dev d.n)
theorem Drop_eq (l : List DT) (c : List PT) (hl : l.length <= 1000000000) (hc : C.Sm c) : XK l c = pure (wqa l c) := by
  unfold XK VS;have := Yu (body := uD l c false) l (fun i t => ((i : Int), t)) (fun t d => if C.xm c d.dev d.n = true then t else t ++ [d]) (fun t => pure t) (fun i t => t.length <= i) (fun i x t hx hi hI => by
    have hd : decide ((i : Int) < (l.length : Int)) = true := by simpa using hi
    refine ⟨?_, by split
                   · omega
                   · simp; omega⟩
    unfold uD;simp only [hd, cond_true, zH hx, zA, C.JW c x hc, zB, yN (show i < 9223372036854775807 by omega)]
    by_cases c : C.xm c x.dev x.n = true
    · rw [c, show (true == false) = false from rfl, cond_false, zA, if_pos rfl]
    · simp only [Bool.not_eq_true] at c;rw [c, show (false == false) = true from rfl, cond_true, zC (by simp; omega), zA]; rfl) (fun t _ => by
    unfold uD;simp [zA]) [] (by simp)
  have key : ∀ (l t : List DT), l.foldl (fun t d => if C.xm c d.dev d.n = true then t else t ++ [d]) t = t ++ l.filter fun d => !C.xm c d.dev d.n := by
    intro l
    induction l with
    | nil => intro t; simp
    | cons x r ih =>
      intro t;rw [List.foldl_cons, ih]
      by_cases h : C.xm c x.dev x.n = true
      · rw [if_pos h, List.filter_cons, if_neg (by simp [h])]
      · rw [if_neg h, List.filter_cons, if_pos (by simp [h]), List.append_assoc]; rfl
  rw [show (0 : Int) = ((0 : Nat) : Int) from rfl, this, zA, key, List.nil_append, D.yta _ (by have := List.length_filter_le (fun d : DT => !C.xm c d.dev d.n) l; omega), zB, zA, zB, zA, wqa]
theorem rDrop_eq (l : List DT) (c : List PT) (hl : l.length <= 1000000000) (hc : C.Ok c) : qI l c = pure (wqa l c) := by
  unfold qI;have := Yu (body := YB l c) l (fun i t => (t, (i : Int))) (fun t d => if C.xm c d.dev d.n = true then t else D.Qj t d) (fun t => pure t) (fun i t => t.length <= i) (fun i x t hx hi hI => by
    have hd : decide ((i : Int) < (l.length : Int)) = true := by simpa using hi
    refine ⟨?_, by split
                   · omega
                   · have := D.QL t x; omega⟩
    unfold YB;simp only [hd, cond_true, zH hx, zA, C.Vh c x hc, zB, yN (show i < 9223372036854775807 by omega)]
    by_cases c : C.xm c x.dev x.n = true
    · rw [c, Bool.not_true, cond_false, zA, if_pos rfl]
    · simp only [Bool.not_eq_true] at c;rw [c, Bool.not_false, cond_true, D.yqa t x (by omega), zB, zA, zA]; rfl) (fun t _ => by
    unfold YB;simp [zA]) [] (by simp)
  have key : ∀ (l t : List DT), l.foldl (fun t d => if C.xm c d.dev d.n = true then t else D.Qj t d) t = (l.filter fun d => !C.xm c d.dev d.n).foldl D.Qj t := by
    intro l
    induction l with
    | nil => intro t; rfl
    | cons x r ih =>
      intro t;rw [List.foldl_cons, ih]
      by_cases h : C.xm c x.dev x.n = true
      · rw [if_pos h, List.filter_cons, if_neg (by simp [h])]
      · rw [if_neg h, List.filter_cons, if_pos (by simp [h])]; rfl
  rw [show (0 : Int) = ((0 : Nat) : Int) from rfl, this, zA, key]; rfl

def zq (l:List EV):List DT:=l.flatMap fun e=>e.dot :: e.kills
def vV (l:List EV):List DT:=D.xx (zq l)
theorem VA (l:List EV) (k:Nat) (h:∀ e ∈ l,e.kills.length <= k):(zq l).length <= l.length * (k + 1):=by
 induction l with
 | nil=>simp [zq]
 | cons e r ih=>
  have h1:=ih fun x hx=>h x (by simp [hx])
  have h2:=h e (by simp);have e1:(zq (e :: r)).length = e.kills.length + 1 + (zq r).length:=by simp [zq];omega
  rw [e1,List.length_cons,Nat.add_mul];omega
theorem jg {l:List EV} {i:Nat} {x:EV} (h:l[i]? = some x):zq (l.take (i + 1)) = zq (l.take i) ++ x.dot :: x.kills:=by
 rw [List.take_add_one,h];simp [zq]
theorem zxa (l:List EV) (i:Nat):(zq (l.take i)).length <= (zq l).length:=by
 have:zq l = zq (l.take i) ++ zq (l.drop i):=by unfold zq;rw [<- List.flatMap_append,List.take_append_drop]
 rw [this,List.length_append];omega
theorem ywa (l:List EV) (hl:l.length <= 1000000000) (hs:(zq l).length <= 1000000000):XL l = pure (vV l):=by
 unfold XL;have key:∀ (k i:Nat),i + k = l.length -> loop (uE l) ((i:Int),zq (l.take i)) = pure (zq l):=by
  intro k
  induction k with
  | zero=>
   intro i hi;refine zV ?_;unfold uE;have:decide ((i:Int) < (l.length:Int)) = false:=by simp;omega
   simp only [this,cond_false];rw [List.take_of_length_le (by omega)]
  | succ k ih=>
   intro i hi;obtain ⟨x,hx⟩:∃ x,l[i]? = some x:=⟨_,List.getElem?_eq_getElem (by omega)⟩
   have hd:decide ((i:Int) < (l.length:Int)) = true:=by simp;omega
   have h1:=zxa l (i + 1);rw [jg hx,List.length_append,List.length_cons] at h1;rw [zT (s':=(((i + 1:Nat):Int),zq (l.take (i + 1)))) ?_]
   ·exact ih (i + 1) (by omega)
   ·unfold uE;simp only [hd,cond_true,zH hx,zA,yN (show i < 9223372036854775807 by omega)];rw [zC (by simp;omega),zC (by simp;omega),jg hx,List.append_assoc];rfl
 have:=key l.length 0 (by omega);rw [show zq (l.take 0) = [] from rfl] at this;rw [show (0:Int) = ((0:Nat):Int) from rfl,this,zA,D.yta _ (by omega),zB,zA,vV]
theorem rdots_in (l:List EV) {i:Nat} {x:EV} (hx:l[i]? = some x) (hk:x.kills.length <= 1000000000) (s:List DT) (hs:s.length <= 1000000000):loop (ue l (i:Int)) (s,0) = pure (x.kills.foldl D.Qj s):=by
 have:=Yu (body:=ue l (i:Int)) x.kills (fun k t=>(t,(k:Int))) D.Qj (fun t=>pure t) (fun k t=>t.length <= 1000000000 + k) (fun k d t hd hi hI=>by
  have hc:decide ((k:Int) < (x.kills.length:Int)) = true:=by simpa using hi
  refine ⟨?_,by have:=D.QL t d;omega⟩;unfold ue;simp only [zH hx,zA,hc,cond_true,zH hd,D.yqa t d (by omega),zB,yN (show k < 9223372036854775807 by omega)]) (fun t _=>by
  unfold ue;simp [zH hx,zA]) s (by omega)
 exact this
theorem rDots_eq (l:List EV) (hl:l.length <= 1000000) (hk:∀ e ∈ l,e.kills.length <= 300):qJ l = pure (vV l):=by
 unfold qJ;have key:∀ (k i:Nat),i + k = l.length -> loop (YC l) (D.xx (zq (l.take i)),(i:Int)) = pure (vV l):=by
  intro k
  induction k with
  | zero=>
   intro i hi;refine zV ?_;unfold YC;have:decide ((i:Int) < (l.length:Int)) = false:=by simp;omega
   simp only [this,cond_false];rw [List.take_of_length_le (by omega)];rfl
  | succ k ih=>
   intro i hi;obtain ⟨x,hx⟩:∃ x,l[i]? = some x:=⟨_,List.getElem?_eq_getElem (by omega)⟩
   have hd:decide ((i:Int) < (l.length:Int)) = true:=by simp;omega
   have h1:=zxa l i;have h2:=VA l 300 hk;have h3:=D.Ub (zq (l.take i));have h4:=D.QL (D.xx (zq (l.take i))) x.dot;have h5:=hk x (List.mem_of_getElem? hx);rw [zT (s':=(D.xx (zq (l.take (i + 1))),((i + 1:Nat):Int))) ?_]
   ·exact ih (i + 1) (by omega)
   ·unfold YC;simp only [hd,cond_true,zH hx,zA,D.yqa _ x.dot (show (D.xx (zq (l.take i))).length <= 1000000000000 by omega),zB,rdots_in l hx (show x.kills.length <= 1000000000 by omega) _ (show (D.Qj (D.xx (zq (l.take i))) x.dot).length <= 1000000000 by omega),yN (show i < 9223372036854775807 by omega)];rw [jg hx];unfold D.xx;rw [List.foldl_append];rfl
 have:=key l.length 0 (by omega);rw [show D.xx (zq (l.take 0)) = [] from rfl] at this;rw [show (0:Int) = ((0:Nat):Int) from rfl,this,zA]

def xy (l:List EV) (i:Nat) (x:EV):Bool:=decide (0 < i) && match l[i - 1]? with | some y=>decide (0 <= V.yCa y.dot x.dot) | none=>false
theorem jh {β:Type} {l:List EV} {i:Nat} {x:EV} (hi:i < l.length) (hl:l.length <= 1000000000) (f:DT -> DT -> M Int) (hf:∀ a b,f a b = pure (V.yCa a b)) (K:Bool -> M β) :
  (cond (decide (0 < (i:Int))) ((idx l (IntKind.i64.wrap ((i:Int) - 1))).bind fun y=>(det (f y.dot x.dot)).bind fun v=>K (decide (0 <= v))) (K false)) = K (xy l i x):=by
 unfold xy
 by_cases h:0 < i
 ·obtain ⟨y,hy⟩:∃ y,l[i - 1]? = some y:=⟨_,List.getElem?_eq_getElem (by omega)⟩
  have e:IntKind.i64.wrap ((i:Int) - 1) = ((i - 1:Nat):Int):=by rw [Yt (by omega) (by omega)];omega
  have hd:decide (0 < (i:Int)) = true:=by simp;omega
  rw [hd,cond_true,e,zH hy,zA,hf,zB,zA,decide_eq_true h,Bool.true_and,hy]
 ·have hd:decide (0 < (i:Int)) = false:=by simp;omega
  rw [hd,cond_false,decide_eq_false h,Bool.false_and]
def w1a (d:DL) (i:Nat) (e:EV):Bool:=!zp e || (xy d.events i e || (C.xm d.from_ e.dot.dev e.dot.n || (decide (e.kind = 1) && uA d.events e.dot)))
def yu (d:DL):Bool:=decide (d.from_ = C.zk d.from_) && (decide (d.to_ = C.zk d.to_) && (decide (C.opC (fun x y=>x && !y) d.from_ d.to_ = []) && (decide (d.events.length <= 4096) && ((d.events.zipIdx.all fun y=>!w1a d y.2 y.1) && decide (wqa (vV d.events) d.to_ = [])))))
structure OkD (d:DL):Prop where
 from_:C.Ok d.from_
 to_:C.Ok d.to_
 evs:∀ e ∈ d.events,OkE e
 len:d.events.length <= 1000000
 kills:∀ e ∈ d.events,e.kills.length <= 300
theorem Vn {α:Type} [DecidableEq α] (l:List α):decide ((l.length:Int) = 0) = decide (l = []):=by
 cases l with
 | nil=>rfl
 | cons x r=>simp;omega
theorem wra {d:DL} (h:OkD d):loop (ww d) 0 = pure (if (d.events.zipIdx.all fun y=>!w1a d y.2 y.1) = true then Ex.brk () else Ex.ret false):=by
 have hl:=h.len;have:=xU (body:=ww d) d.events (fun i=>(i:Int)) (fun i x=>!w1a d i x) (Ex.brk ()) (Ex.ret false) (fun i x hx hi=>by
  have hd:decide ((i:Int) < (d.events.length:Int)) = true:=by simpa using hi
  have hm:=List.mem_of_getElem? hx;have hp:=fun (K:Bool -> M (Step Int (Ex Unit Bool)))=>jh (x:=x) hi (by omega) vL D.JZ K
  unfold ww;simp only [hd,cond_true,zH hx,zA,E.ZK (h.evs x hm),C.JW d.from_ x.dot h.from_.sm,Dead_eq d.events x.dot (by omega) (fun e he=>by have:=h.kills e he;omega),zB,yN (show i < 9223372036854775807 by omega)];have hp:=jh (x:=x) hi (by omega) vL D.JZ (fun b=>(pure b:M Bool));rw [hp];unfold w1a;simp only [zA]
  cases zp x with
  | false=>rfl
  | true=>
   cases C.xm d.from_ x.dot.dev x.dot.n with
   | true=>cases xy d.events i x <;> rfl
   | false=>
    cases xy d.events i x with
    | true=>rfl
    | false=>
     cases decide (x.kind = 1) with
     | false=>rfl
     | true=>cases uA d.events x.dot <;> rfl) (by
  unfold ww;simp)
 rw [show (0:Int) = ((0:Nat):Int) from rfl,this]
theorem yza {d:DL} (h:OkD d):loop (uf d) 0 = pure (if (d.events.zipIdx.all fun y=>!w1a d y.2 y.1) = true then Ex.brk () else Ex.ret false):=by
 have hl:=h.len;have:=xU (body:=uf d) d.events (fun i=>(i:Int)) (fun i x=>!w1a d i x) (Ex.brk ()) (Ex.ret false) (fun i x hx hi=>by
  have hd:decide ((i:Int) < (d.events.length:Int)) = true:=by simpa using hi
  have hm:=List.mem_of_getElem? hx;unfold uf;simp only [hd,cond_true,zH hx,zA,E.vE (h.evs x hm),C.Vh d.from_ x.dot h.from_,rDead_eq d.events x.dot (by omega) (fun e he=>by have:=h.kills e he;omega),zB,yN (show i < 9223372036854775807 by omega)];have hp:=jh (x:=x) hi (by omega) Zx V.Zd (fun b=>(cond b (pure true) (cond (C.xm d.from_ x.dot.dev x.dot.n) (pure true) (cond (decide (x.kind = 1)) (pure (uA d.events x.dot)) (pure false))):M Bool));refine (congrArg (fun m:M Bool=>M.bind (cond (!zp x) (pure true) m) fun v70=>cond v70 (pure (Step.done (Ex.ret false))) (pure (Step.next ((i + 1:Nat):Int)))) hp).trans ?_;unfold w1a
  cases zp x with
  | false=>rfl
  | true=>
   cases C.xm d.from_ x.dot.dev x.dot.n with
   | true=>cases xy d.events i x <;> rfl
   | false=>
    cases xy d.events i x with
    | true=>rfl
    | false=>
     cases decide (x.kind = 1) with
     | false=>rfl
     | true=>cases uA d.events x.dot <;> rfl) (by
  unfold uf;simp)
 rw [show (0:Int) = ((0:Nat):Int) from rfl,this]
theorem uga (l:List EV):decide ((4096:Int) < (l.length:Int)) = !decide (l.length <= 4096):=by
 by_cases c:l.length <= 4096
 ·rw [decide_eq_true c];simp;omega
 ·rw [decide_eq_false c];simp;omega
theorem dlen {d:DL} (h:OkD d):(zq d.events).length <= 1000000000:=by have:=VA d.events 300 h.kills;have:=h.len;omega
theorem VI {d:DL} (h:OkD d):vM d = pure (yu d):=by
 have h1:=h.len;have h2:=dlen h;have h3:(vV d.events).length <= 1000000000:=Nat.le_trans (D.Ub _) h2;unfold vM yu;rw [wra h];simp only [C.ZK _ h.from_.sm,C.ZK _ h.to_.sm,C.jV _ _ h.from_.sm h.to_.sm,ywa d.events (by omega) h2,Drop_eq _ _ h3 h.to_.sm,zB,zA,uga,Vn]
 cases decide (d.from_ = C.zk d.from_) with
 | false=>rfl
 | true=>
  cases decide (d.to_ = C.zk d.to_) with
  | false=>rfl
  | true=>
   cases decide (C.opC (fun x y=>x && !y) d.from_ d.to_ = []) with
   | false=>rfl
   | true=>
    cases decide (d.events.length <= 4096) with
    | false=>rfl
    | true=>cases d.events.zipIdx.all fun y=>!w1a d y.2 y.1 <;> rfl
theorem ZN {d:DL} (h:OkD d):UO d = pure (yu d):=by
 have h1:=h.len;have h2:=dlen h;have h3:(vV d.events).length <= 1000000000:=Nat.le_trans (D.Ub _) h2;unfold UO yu;rw [yza h];simp only [C.vE _ h.from_,C.vE _ h.to_,C.Xb _ _ h.from_ h.to_,rDots_eq d.events (by omega) h.kills,rDrop_eq _ _ h3 h.to_,zB,zA,uga,Vn]
 cases decide (d.from_ = C.zk d.from_) with
 | false=>rfl
 | true=>
  cases decide (d.to_ = C.zk d.to_) with
  | false=>rfl
  | true=>
   cases decide (C.opC (fun x y=>x && !y) d.from_ d.to_ = []) with
   | false=>rfl
   | true=>
    cases decide (d.events.length <= 4096) with
    | false=>rfl
    | true=>cases d.events.zipIdx.all fun y=>!w1a d y.2 y.1 <;> rfl

open E (OkE zp)

def Uh (n:Int):Bool:=decide (0 < n) && decide (n <= 281474976710655)
theorem zya (n:Int):ZR n = pure (Uh n):=by
 unfold ZR Uh;rw [zW,zA]
theorem Vo (n:Int):ZW n = pure (Uh n):=by
 unfold ZW Uh;rw [zW,zA,show decide (1 <= n) = decide (0 < n) from rfl]
theorem x1a (c:List PT) (d k n:Int):C.xm (C.up c d) k n = (decide (d = k) && C.xm c k n):=by
 unfold C.up;rw [C.Zf];unfold C.xm;rw [C.vp,C.Ww,List.append_nil]
 by_cases h:d = k
 ·subst h
  by_cases h0:0 < d
  ·rw [if_pos ⟨rfl,h0⟩,R.wc];simp
  ·rw [if_neg (by simp [h0]),C.Wy h0];simp [R.yC]
 ·rw [if_neg (by simp [h])];simp [h,R.yC]
def xF (c:List PT):Bool:=decide (c = C.zk c)
def vW (a b:List PT):Bool:=decide (C.opC (fun x y=>x && !y) a b = [])
def Vp (a b:List PT):Bool:=decide (C.zk a = C.zk b)
theorem x2a : xF [] = true:=by
 unfold xF;rw [C.Vg C.zca];rfl
theorem y0a (c:List PT) (d:Int):vW c (C.up c d) = Vp c (C.up c d):=by
 unfold vW Vp;rw [Bool.eq_iff_iff,decide_eq_true_eq,decide_eq_true_eq]
 constructor
 ·intro h;refine C.zba fun k n=>?_
  have h1:C.xm (C.opC (fun x y=>x && !y) c (C.up c d)) k n = false:=by rw [h];rfl
  rw [C.yha rfl,x1a] at h1;rw [x1a]
  cases hc:C.xm c k n with
  | false=>simp
  | true=>rw [hc] at h1;simpa using h1
 ·intro h;refine C.JV (C.xYa rfl _ _) fun k n=>?_
  have h1:C.xm (C.zk c) k n = C.xm (C.zk (C.up c d)) k n:=by rw [h]
  rw [C.Zf,C.Zf] at h1;rw [C.yha rfl,<- h1]
  cases C.xm c k n <;> rfl
theorem Qb {c:List PT} (h:C.Ok c) (ht:C.yJ c <= 1000000) {d:Int} (hd:0 <= d):C.Ok (C.up c d):=by
 have h2:=R.vQ (C.yK c d);have h3:=C.xg c d;have h4:=h.tot;rw [C.zda]
 split
 ·exact C.ok_nil
 ·exact ⟨fun p hp=>by rw [List.mem_singleton.1 hp];exact hd,by simp,by simp [C.yJ];omega⟩
def ownB (c:List PT) (d:Int):Bool:=xF c && Vp c (C.up c d)
theorem own_eq {c:List PT} (h:C.Ok c) (ht:C.yJ c <= 1000000) {d:Int} (hd:0 <= d):Ut c d = pure (ownB c d):=by
 unfold Ut;simp only [C.ZK c h.sm,C.Only_eq c d h,C.jV c _ h.sm (Qb h ht hd).sm,zB,zA,zW];show pure (xF c && vW c (C.up c d)) = _;rw [y0a];rfl

def bad2 (l:List EV) (dev:Int) (c:List PT) (i:Nat) (e:EV):Bool:=!zp e || (!decide (e.dot.dev = dev) || (C.xm c e.dot.dev e.dot.n || xy l i e))
def Qk (l:List EV) (dev:Int) (i:Nat) (e:EV):Bool:=!zp e || (!decide (e.dot.dev = dev) || xy l i e)
def VJ (l:List EV):Bool:=decide (1 <= (l.length:Int)) && decide ((l.length:Int) <= 4)
theorem uha {l:List EV} {dev:Int} {c:List PT} (hE:∀ e ∈ l,OkE e) (hl:l.length <= 1000000) (hc:C.Ok c):XM l dev c = pure ((l.zipIdx.all fun y=>!bad2 l dev c y.2 y.1) && VJ l):=by
 unfold XM;have:=xU (body:=uF l dev c) l (fun i=>(i:Int)) (fun i x=>!bad2 l dev c i x) (Ex.brk ()) (Ex.ret false) (fun i x hx hi=>by
  have hd:decide ((i:Int) < (l.length:Int)) = true:=by simpa using hi
  have hm:=List.mem_of_getElem? hx;unfold uF;simp only [hd,cond_true,zH hx,zA,E.ZK (hE x hm),C.JW c x.dot hc.sm,zB,yN (show i < 9223372036854775807 by omega)];have hp:=jh (x:=x) hi (by omega) vL D.JZ (fun b=>(pure b:M Bool));rw [hp];unfold bad2
  cases zp x with
  | false=>rfl
  | true=>
   cases decide (x.dot.dev = dev) with
   | false=>rfl
   | true=>
    cases C.xm c x.dot.dev x.dot.n with
    | true=>rfl
    | false=>cases xy l i x <;> rfl) (by
  unfold uF;simp)
 rw [show (0:Int) = ((0:Nat):Int) from rfl,this,zA,zW,zA];show exk (fun _=>pure (VJ l)) _ = _
 cases l.zipIdx.all fun y=>!bad2 l dev c y.2 y.1 <;> rfl
theorem Qc {d:DL} {dev:Int} (hE:∀ e ∈ d.events,OkE e) (hl:d.events.length <= 1000000):qK d dev = pure ((d.events.zipIdx.all fun y=>!Qk d.events dev y.2 y.1) && (decide (d.from_ = []) && (decide (d.to_ = []) && VJ d.events))):=by
 unfold qK;have:=xU (body:=YD d dev) d.events (fun i=>(i:Int)) (fun i x=>!Qk d.events dev i x) (Ex.brk ()) (Ex.ret false) (fun i x hx hi=>by
  have hd:decide ((i:Int) < (d.events.length:Int)) = true:=by simpa using hi
  have hm:=List.mem_of_getElem? hx;unfold YD;simp only [hd,cond_true,zH hx,zA,E.vE (hE x hm),zB,yN (show i < 9223372036854775807 by omega)];have hp:=jh (x:=x) hi (by omega) Zx V.Zd (fun b=>(pure b:M Bool));rw [hp];unfold Qk
  cases zp x with
  | false=>rfl
  | true=>
   cases decide (x.dot.dev = dev) with
   | false=>rfl
   | true=>cases xy d.events i x <;> rfl) (by
  unfold YD;simp)
 rw [show (0:Int) = ((0:Nat):Int) from rfl,this,zA];simp only [Vn,Int.natCast_zero,zW,zA];show exk (fun _=>pure (decide (d.from_ = []) && (decide (d.to_ = []) && VJ d.events))) _ = _
 cases d.events.zipIdx.all fun y=>!Qk d.events dev y.2 y.1 <;> rfl
def ur (c:List PT) (l:List EV):Bool:=l.any fun e=>C.xm c e.dot.dev e.dot.n
theorem WI {c:List PT} {l:List EV} (hl:l.length <= 1000000) (hc:C.Ok c):Xy c l = pure (ur c l):=by
 unfold Xy;have:=xU (body:=va l c) l (fun i=>(i:Int)) (fun _ x=>!C.xm c x.dot.dev x.dot.n) (Ex.brk ()) (Ex.ret true) (fun i x hx hi=>by
  have hd:decide ((i:Int) < (l.length:Int)) = true:=by simpa using hi
  unfold va;simp only [hd,cond_true,zH hx,zA,C.Vh c x.dot hc,zB,yN (show i < 9223372036854775807 by omega)]
  cases C.xm c x.dot.dev x.dot.n <;> rfl) (by
  unfold va;simp)
 rw [show (0:Int) = ((0:Nat):Int) from rfl,this,zA,E.YS l fun x=>!C.xm c x.dot.dev x.dot.n];have e:ur c l = !(l.all fun x=>!C.xm c x.dot.dev x.dot.n):=by simp [ur,List.all_eq_not_any_not]
 rw [e]
 cases l.all fun x=>!C.xm c x.dot.dev x.dot.n <;> rfl
theorem uia (l:List EV) (dev:Int) (c:List PT):(l.zipIdx.all fun y=>!bad2 l dev c y.2 y.1) = ((l.zipIdx.all fun y=>!Qk l dev y.2 y.1) && !ur c l):=by
 have e:ur c l = !(l.all fun x=>!C.xm c x.dot.dev x.dot.n):=by simp [ur,List.all_eq_not_any_not]
 rw [e,Bool.not_not,<- E.YS l fun x=>!C.xm c x.dot.dev x.dot.n,Bool.eq_iff_iff,Bool.and_eq_true,List.all_eq_true,List.all_eq_true,List.all_eq_true]
 constructor
 ·intro h;refine ⟨fun y hy=>?_,fun y hy=>?_⟩
  ·have:=h y hy;unfold bad2 at this;unfold Qk
   revert this
   cases zp y.1 <;> cases decide (y.1.dot.dev = dev) <;> cases C.xm c y.1.dot.dev y.1.dot.n <;> cases xy l y.2 y.1 <;> decide
  ·have:=h y hy;unfold bad2 at this
   revert this
   cases zp y.1 <;> cases decide (y.1.dot.dev = dev) <;> cases C.xm c y.1.dot.dev y.1.dot.n <;> cases xy l y.2 y.1 <;> decide
 ·rintro ⟨h1,h2⟩ y hy;have a:=h1 y hy;have b:=h2 y hy;unfold Qk at a;unfold bad2
  revert a b
  cases zp y.1 <;> cases decide (y.1.dot.dev = dev) <;> cases C.xm c y.1.dot.dev y.1.dot.n <;> cases xy l y.2 y.1 <;> decide

structure OkM (m:TMsg):Prop where
 kind:0 <= m.kind /\ m.kind <= 255
 slot:0 <= m.slot /\ m.slot <= 255
 dev:0 <= m.dev /\ m.dev <= 65535
 why:0 <= m.why /\ m.why <= 255
 have_:C.Ok m.have_
 front:C.Ok m.front
 delta:OkD m.delta
 tot:C.yJ m.have_ <= 1000000
def bareB (m:TMsg):Bool:=decide (m.slot = 0) && (decide (m.try_ = 0) && (decide (m.why = 0) && (decide (m.have_ = []) && (decide (m.front = []) && ((decide (m.delta.from_ = []) && decide (m.delta.to_ = [])) && decide (m.delta.events = []))))))
theorem uja (m:TMsg):WZ m = pure (bareB m):=by
 unfold WZ Ur bareB;simp only [Vn,zW,zA,zB]
theorem Qd (d:DL):qL d = pure (decide (d.from_ = []) && (decide (d.to_ = []) && decide (d.events = []))):=by
 unfold qL;simp only [Vn,zW,zA]
theorem ve {α:Type} (a:Bool) (x y:M α):det (cond a x y) = cond a (det x) (det y):=by cases a <;> rfl
theorem vf {α β:Type} (k:β -> M α) (a:Bool) (x y:Ex β α):exk k (cond a x y) = cond a (exk k x) (exk k y):=by cases a <;> rfl
set_option maxHeartbeats 4000000 in
theorem zza {m:TMsg} (h:OkM m):uG m = xe m:=by
 obtain ⟨h1,h2,h3,h4,h5,h6,h7,h8⟩:=h;have hev:∀ e ∈ m.delta.events,OkE e:=h7.evs;have hfrom:decide ((0:Int) < (m.delta.from_.length:Int)) = !decide (m.delta.from_ = []):=by
  cases m.delta.from_ with
  | nil=>rfl
  | cons x r=>simp
 unfold uG xe Us;simp only [zya,Vo,own_eq h5 h8 h3.1,C.ZK _ h5.sm,C.ZK _ h6.sm,C.jV _ _ h6.sm h7.to_.sm,VI h7,ZN h7,uha hev h7.len h5,Qc hev h7.len,WI h7.len h5,uja,Qd,C.vE _ h5,C.vE _ h6,C.QH _ _ h3.1 h5,C.UY _ _ h5 (Qb h5 h8 h3.1),C.Xb _ _ h6 h7.to_,hfrom,zB,zA,Vn,uia,bareB];obtain ⟨kind,slot,try_,dev,epoch,why,have_,front,delta⟩:=m;dsimp only at *
 have e1:∀ c:List PT,decide (c = C.zk c) = xF c:=fun _=>rfl
 have e2:∀ a b:List PT,decide (C.zk a = C.zk b) = Vp a b:=fun _ _=>rfl
 have e3:∀ a b:List PT,decide (C.opC (fun x y=>x && !y) a b = []) = vW a b:=fun _ _=>rfl
 have gh:decide (have_ = []) = true -> xF have_ = true:=fun e=>by rw [of_decide_eq_true e];exact x2a
 have gf:decide (front = []) = true -> xF front = true:=fun e=>by rw [of_decide_eq_true e];exact x2a
 simp only [e1,e2,e3,ownB];clear hfrom hev h2 h3 h5 h6 h7 h8
 by_cases k1:kind = 1
 ·subst k1;simp only [Int.reduceEq,Int.reduceLE,Int.reduceLT,decide_true,decide_false,Bool.not_true,Bool.not_false,cond_true,cond_false,zA,zB,wn,wV,yy,ve,vf,yx,eq_self,Bool.true_and,Bool.and_true,Bool.false_and,Bool.and_false,e1,e2,e3]
  generalize xF have_ = A at *
  generalize xF front = B at *
  generalize Vp have_ (C.up have_ dev) = D1 at *
  generalize vW front delta.to_ = E1 at *
  generalize yu delta = F1 at *
  generalize (delta.events.zipIdx.all fun y=>!Qk delta.events dev y.2 y.1) = G1 at *
  generalize ur have_ delta.events = H1 at *
  generalize VJ delta.events = I1 at *
  generalize Uh epoch = J1 at *
  generalize Uh try_ = K1 at *
  generalize decide (have_ = []) = L1 at *
  generalize decide (front = []) = M1 at *
  generalize decide (delta.from_ = []) = N1 at *
  generalize decide (delta.to_ = []) = O1 at *
  generalize decide (delta.events = []) = P1 at *
  generalize decide (dev = 0) = Q1 at *
  generalize decide (epoch = 0) = R1 at *
  generalize decide (slot = 0) = S1 at *
  generalize decide (try_ = 0) = T1 at *
  generalize decide (16 <= slot) = U1 at *
  generalize decide (why = 0) = V1 at *
  generalize decide (why = 1) = W1 at *
  generalize decide (why = 2) = X1 at *
  clear e1 e2 e3;refine congrArg pure ?_;clear h1 h4
  all_goals (cases U1 <;> try rfl)
  all_goals (cases K1 <;> try rfl)
  all_goals (cases Q1 <;> try rfl)
  all_goals (cases R1 <;> try rfl)
  all_goals (cases L1 <;> cases A <;> (try (exact absurd (gh rfl) (by decide))) <;> cases M1 <;> cases B <;> (try (exact absurd (gf rfl) (by decide))))
  all_goals (try rfl)
  all_goals (cases V1 <;> try rfl)
  all_goals (cases N1 <;> try rfl)
  all_goals (cases O1 <;> try rfl)
  all_goals (cases P1 <;> try rfl)
  all_goals (cases E1 <;> try rfl)
 by_cases k2:kind = 2
 ·subst k2;simp only [Int.reduceEq,Int.reduceLE,Int.reduceLT,decide_true,decide_false,Bool.not_true,Bool.not_false,cond_true,cond_false,zA,zB,wn,wV,yy,ve,vf,yx,eq_self,Bool.true_and,Bool.and_true,Bool.false_and,Bool.and_false,e1,e2,e3]
  generalize xF have_ = A at *
  generalize xF front = B at *
  generalize Vp have_ (C.up have_ dev) = D1 at *
  generalize vW front delta.to_ = E1 at *
  generalize yu delta = F1 at *
  generalize (delta.events.zipIdx.all fun y=>!Qk delta.events dev y.2 y.1) = G1 at *
  generalize ur have_ delta.events = H1 at *
  generalize VJ delta.events = I1 at *
  generalize Uh epoch = J1 at *
  generalize Uh try_ = K1 at *
  generalize decide (have_ = []) = L1 at *
  generalize decide (front = []) = M1 at *
  generalize decide (delta.from_ = []) = N1 at *
  generalize decide (delta.to_ = []) = O1 at *
  generalize decide (delta.events = []) = P1 at *
  generalize decide (dev = 0) = Q1 at *
  generalize decide (epoch = 0) = R1 at *
  generalize decide (slot = 0) = S1 at *
  generalize decide (try_ = 0) = T1 at *
  generalize decide (16 <= slot) = U1 at *
  generalize decide (why = 0) = V1 at *
  generalize decide (why = 1) = W1 at *
  generalize decide (why = 2) = X1 at *
  clear e1 e2 e3;refine congrArg pure ?_;clear h1 h4
  all_goals (cases Q1 <;> try rfl)
  all_goals (cases J1 <;> try rfl)
  all_goals (cases U1 <;> try rfl)
  all_goals (cases K1 <;> try rfl)
  all_goals (cases L1 <;> cases A <;> (try (exact absurd (gh rfl) (by decide))) <;> cases M1 <;> cases B <;> (try (exact absurd (gf rfl) (by decide))))
  all_goals (try rfl)
  all_goals (cases F1 <;> try rfl)
  all_goals (cases N1 <;> try rfl)
  all_goals (cases V1 <;> try rfl)
  all_goals (cases E1 <;> try rfl)
 by_cases k3:kind = 3
 ·subst k3;simp only [Int.reduceEq,Int.reduceLE,Int.reduceLT,decide_true,decide_false,Bool.not_true,Bool.not_false,cond_true,cond_false,zA,zB,wn,wV,yy,ve,vf,yx,eq_self,Bool.true_and,Bool.and_true,Bool.false_and,Bool.and_false,e1,e2,e3]
  generalize xF have_ = A at *
  generalize xF front = B at *
  generalize Vp have_ (C.up have_ dev) = D1 at *
  generalize vW front delta.to_ = E1 at *
  generalize yu delta = F1 at *
  generalize (delta.events.zipIdx.all fun y=>!Qk delta.events dev y.2 y.1) = G1 at *
  generalize ur have_ delta.events = H1 at *
  generalize VJ delta.events = I1 at *
  generalize Uh epoch = J1 at *
  generalize Uh try_ = K1 at *
  generalize decide (have_ = []) = L1 at *
  generalize decide (front = []) = M1 at *
  generalize decide (delta.from_ = []) = N1 at *
  generalize decide (delta.to_ = []) = O1 at *
  generalize decide (delta.events = []) = P1 at *
  generalize decide (dev = 0) = Q1 at *
  generalize decide (epoch = 0) = R1 at *
  generalize decide (slot = 0) = S1 at *
  generalize decide (try_ = 0) = T1 at *
  generalize decide (16 <= slot) = U1 at *
  generalize decide (why = 0) = V1 at *
  generalize decide (why = 1) = W1 at *
  generalize decide (why = 2) = X1 at *
  clear e1 e2 e3;refine congrArg pure ?_;clear h1 h4
  all_goals (cases S1 <;> try rfl)
  all_goals (cases T1 <;> try rfl)
  all_goals (cases Q1 <;> try rfl)
  all_goals (cases J1 <;> try rfl)
  all_goals (cases L1 <;> cases A <;> (try (exact absurd (gh rfl) (by decide))) <;> cases M1 <;> cases B <;> (try (exact absurd (gf rfl) (by decide))))
  all_goals (try rfl)
  all_goals (cases V1 <;> try rfl)
  all_goals (cases N1 <;> try rfl)
  all_goals (cases O1 <;> try rfl)
  all_goals (cases P1 <;> try rfl)
  all_goals (cases E1 <;> try rfl)
 by_cases k4:kind = 4
 ·subst k4;simp only [Int.reduceEq,Int.reduceLE,Int.reduceLT,decide_true,decide_false,Bool.not_true,Bool.not_false,cond_true,cond_false,zA,zB,wn,wV,yy,ve,vf,yx,eq_self,Bool.true_and,Bool.and_true,Bool.false_and,Bool.and_false,e1,e2,e3]
  generalize xF have_ = A at *
  generalize xF front = B at *
  generalize Vp have_ (C.up have_ dev) = D1 at *
  generalize vW front delta.to_ = E1 at *
  generalize yu delta = F1 at *
  generalize (delta.events.zipIdx.all fun y=>!Qk delta.events dev y.2 y.1) = G1 at *
  generalize ur have_ delta.events = H1 at *
  generalize VJ delta.events = I1 at *
  generalize Uh epoch = J1 at *
  generalize Uh try_ = K1 at *
  generalize decide (have_ = []) = L1 at *
  generalize decide (front = []) = M1 at *
  generalize decide (delta.from_ = []) = N1 at *
  generalize decide (delta.to_ = []) = O1 at *
  generalize decide (delta.events = []) = P1 at *
  generalize decide (dev = 0) = Q1 at *
  generalize decide (epoch = 0) = R1 at *
  generalize decide (slot = 0) = S1 at *
  generalize decide (try_ = 0) = T1 at *
  generalize decide (16 <= slot) = U1 at *
  generalize decide (why = 0) = V1 at *
  generalize decide (why = 1) = W1 at *
  generalize decide (why = 2) = X1 at *
  clear e1 e2 e3;refine congrArg pure ?_;clear h1 h4
  all_goals (cases S1 <;> try rfl)
  all_goals (cases T1 <;> try rfl)
  all_goals (cases Q1 <;> try rfl)
  all_goals (cases J1 <;> try rfl)
  all_goals (cases L1 <;> cases A <;> (try (exact absurd (gh rfl) (by decide))) <;> cases M1 <;> cases B <;> (try (exact absurd (gf rfl) (by decide))))
  all_goals (try rfl)
  all_goals (cases V1 <;> try rfl)
  all_goals (cases F1 <;> try rfl)
  all_goals (cases E1 <;> try rfl)
 by_cases k5:kind = 5
 ·subst k5;simp only [Int.reduceEq,Int.reduceLE,Int.reduceLT,decide_true,decide_false,Bool.not_true,Bool.not_false,cond_true,cond_false,zA,zB,wn,wV,yy,ve,vf,yx,eq_self,Bool.true_and,Bool.and_true,Bool.false_and,Bool.and_false,e1,e2,e3]
  generalize xF have_ = A at *
  generalize xF front = B at *
  generalize Vp have_ (C.up have_ dev) = D1 at *
  generalize vW front delta.to_ = E1 at *
  generalize yu delta = F1 at *
  generalize (delta.events.zipIdx.all fun y=>!Qk delta.events dev y.2 y.1) = G1 at *
  generalize ur have_ delta.events = H1 at *
  generalize VJ delta.events = I1 at *
  generalize Uh epoch = J1 at *
  generalize Uh try_ = K1 at *
  generalize decide (have_ = []) = L1 at *
  generalize decide (front = []) = M1 at *
  generalize decide (delta.from_ = []) = N1 at *
  generalize decide (delta.to_ = []) = O1 at *
  generalize decide (delta.events = []) = P1 at *
  generalize decide (dev = 0) = Q1 at *
  generalize decide (epoch = 0) = R1 at *
  generalize decide (slot = 0) = S1 at *
  generalize decide (try_ = 0) = T1 at *
  generalize decide (16 <= slot) = U1 at *
  generalize decide (why = 0) = V1 at *
  generalize decide (why = 1) = W1 at *
  generalize decide (why = 2) = X1 at *
  clear e1 e2 e3;refine congrArg pure ?_;clear h1 h4
  all_goals (cases S1 <;> try rfl)
  all_goals (cases T1 <;> try rfl)
  all_goals (cases Q1 <;> try rfl)
  all_goals (cases J1 <;> try rfl)
  all_goals (cases L1 <;> cases A <;> (try (exact absurd (gh rfl) (by decide))) <;> cases M1 <;> cases B <;> (try (exact absurd (gf rfl) (by decide))))
  all_goals (try rfl)
  all_goals (cases V1 <;> try rfl)
  all_goals (cases D1 <;> try rfl)
  all_goals (cases G1 <;> try rfl)
  all_goals (cases H1 <;> try rfl)
  all_goals (cases I1 <;> try rfl)
  all_goals (cases N1 <;> try rfl)
  all_goals (cases O1 <;> try rfl)
  all_goals (cases E1 <;> try rfl)
 by_cases k6:kind = 6
 ·subst k6;simp only [Int.reduceEq,Int.reduceLE,Int.reduceLT,decide_true,decide_false,Bool.not_true,Bool.not_false,cond_true,cond_false,zA,zB,wn,wV,yy,ve,vf,yx,eq_self,Bool.true_and,Bool.and_true,Bool.false_and,Bool.and_false,e1,e2,e3]
  generalize xF have_ = A at *
  generalize xF front = B at *
  generalize Vp have_ (C.up have_ dev) = D1 at *
  generalize vW front delta.to_ = E1 at *
  generalize yu delta = F1 at *
  generalize (delta.events.zipIdx.all fun y=>!Qk delta.events dev y.2 y.1) = G1 at *
  generalize ur have_ delta.events = H1 at *
  generalize VJ delta.events = I1 at *
  generalize Uh epoch = J1 at *
  generalize Uh try_ = K1 at *
  generalize decide (have_ = []) = L1 at *
  generalize decide (front = []) = M1 at *
  generalize decide (delta.from_ = []) = N1 at *
  generalize decide (delta.to_ = []) = O1 at *
  generalize decide (delta.events = []) = P1 at *
  generalize decide (dev = 0) = Q1 at *
  generalize decide (epoch = 0) = R1 at *
  generalize decide (slot = 0) = S1 at *
  generalize decide (try_ = 0) = T1 at *
  generalize decide (16 <= slot) = U1 at *
  generalize decide (why = 0) = V1 at *
  generalize decide (why = 1) = W1 at *
  generalize decide (why = 2) = X1 at *
  clear e1 e2 e3;refine congrArg pure ?_;clear h1 h4
  all_goals (cases S1 <;> try rfl)
  all_goals (cases T1 <;> try rfl)
  all_goals (cases Q1 <;> try rfl)
  all_goals (cases J1 <;> try rfl)
  all_goals (cases L1 <;> cases A <;> (try (exact absurd (gh rfl) (by decide))) <;> cases M1 <;> cases B <;> (try (exact absurd (gf rfl) (by decide))))
  all_goals (try rfl)
  all_goals (cases V1 <;> try rfl)
  all_goals (cases D1 <;> try rfl)
  all_goals (cases N1 <;> try rfl)
  all_goals (cases O1 <;> try rfl)
  all_goals (cases P1 <;> try rfl)
  all_goals (cases E1 <;> try rfl)
 by_cases k7:kind = 7
 ·subst k7;simp only [Int.reduceEq,Int.reduceLE,Int.reduceLT,decide_true,decide_false,Bool.not_true,Bool.not_false,cond_true,cond_false,zA,zB,wn,wV,yy,ve,vf,yx,eq_self,Bool.true_and,Bool.and_true,Bool.false_and,Bool.and_false,e1,e2,e3]
  generalize xF have_ = A at *
  generalize xF front = B at *
  generalize Vp have_ (C.up have_ dev) = D1 at *
  generalize vW front delta.to_ = E1 at *
  generalize yu delta = F1 at *
  generalize (delta.events.zipIdx.all fun y=>!Qk delta.events dev y.2 y.1) = G1 at *
  generalize ur have_ delta.events = H1 at *
  generalize VJ delta.events = I1 at *
  generalize Uh epoch = J1 at *
  generalize Uh try_ = K1 at *
  generalize decide (have_ = []) = L1 at *
  generalize decide (front = []) = M1 at *
  generalize decide (delta.from_ = []) = N1 at *
  generalize decide (delta.to_ = []) = O1 at *
  generalize decide (delta.events = []) = P1 at *
  generalize decide (dev = 0) = Q1 at *
  generalize decide (epoch = 0) = R1 at *
  generalize decide (slot = 0) = S1 at *
  generalize decide (try_ = 0) = T1 at *
  generalize decide (16 <= slot) = U1 at *
  generalize decide (why = 0) = V1 at *
  generalize decide (why = 1) = W1 at *
  generalize decide (why = 2) = X1 at *
  clear e1 e2 e3;refine congrArg pure ?_;clear h1 h4
  all_goals (cases S1 <;> try rfl)
  all_goals (cases T1 <;> try rfl)
  all_goals (cases Q1 <;> try rfl)
  all_goals (cases J1 <;> try rfl)
  all_goals (cases L1 <;> cases A <;> (try (exact absurd (gh rfl) (by decide))) <;> cases M1 <;> cases B <;> (try (exact absurd (gf rfl) (by decide))))
  all_goals (try rfl)
  all_goals (cases V1 <;> try rfl)
  all_goals (cases N1 <;> try rfl)
  all_goals (cases O1 <;> try rfl)
  all_goals (cases P1 <;> try rfl)
  all_goals (cases E1 <;> try rfl)
 by_cases k8:kind = 8
 ·subst k8;simp only [Int.reduceEq,Int.reduceLE,Int.reduceLT,decide_true,decide_false,Bool.not_true,Bool.not_false,cond_true,cond_false,zA,zB,wn,wV,yy,ve,vf,yx,eq_self,Bool.true_and,Bool.and_true,Bool.false_and,Bool.and_false,e1,e2,e3]
  generalize xF have_ = A at *
  generalize xF front = B at *
  generalize Vp have_ (C.up have_ dev) = D1 at *
  generalize vW front delta.to_ = E1 at *
  generalize yu delta = F1 at *
  generalize (delta.events.zipIdx.all fun y=>!Qk delta.events dev y.2 y.1) = G1 at *
  generalize ur have_ delta.events = H1 at *
  generalize VJ delta.events = I1 at *
  generalize Uh epoch = J1 at *
  generalize Uh try_ = K1 at *
  generalize decide (have_ = []) = L1 at *
  generalize decide (front = []) = M1 at *
  generalize decide (delta.from_ = []) = N1 at *
  generalize decide (delta.to_ = []) = O1 at *
  generalize decide (delta.events = []) = P1 at *
  generalize decide (dev = 0) = Q1 at *
  generalize decide (epoch = 0) = R1 at *
  generalize decide (slot = 0) = S1 at *
  generalize decide (try_ = 0) = T1 at *
  generalize decide (16 <= slot) = U1 at *
  generalize decide (why = 0) = V1 at *
  generalize decide (why = 1) = W1 at *
  generalize decide (why = 2) = X1 at *
  clear e1 e2 e3;refine congrArg pure ?_;clear h1 h4
  all_goals (cases S1 <;> try rfl)
  all_goals (cases T1 <;> try rfl)
  all_goals (cases Q1 <;> try rfl)
  all_goals (cases J1 <;> try rfl)
  all_goals (cases L1 <;> cases A <;> (try (exact absurd (gh rfl) (by decide))) <;> cases M1 <;> cases B <;> (try (exact absurd (gf rfl) (by decide))))
  all_goals (try rfl)
  all_goals (cases V1 <;> try rfl)
  all_goals (cases N1 <;> try rfl)
  all_goals (cases O1 <;> try rfl)
  all_goals (cases P1 <;> try rfl)
  all_goals (cases E1 <;> try rfl)
 by_cases k9:kind = 9
 ·subst k9;simp only [Int.reduceEq,Int.reduceLE,Int.reduceLT,decide_true,decide_false,Bool.not_true,Bool.not_false,cond_true,cond_false,zA,zB,wn,wV,yy,ve,vf,yx,eq_self,Bool.true_and,Bool.and_true,Bool.false_and,Bool.and_false,e1,e2,e3]
  generalize xF have_ = A at *
  generalize xF front = B at *
  generalize Vp have_ (C.up have_ dev) = D1 at *
  generalize vW front delta.to_ = E1 at *
  generalize yu delta = F1 at *
  generalize (delta.events.zipIdx.all fun y=>!Qk delta.events dev y.2 y.1) = G1 at *
  generalize ur have_ delta.events = H1 at *
  generalize VJ delta.events = I1 at *
  generalize Uh epoch = J1 at *
  generalize Uh try_ = K1 at *
  generalize decide (have_ = []) = L1 at *
  generalize decide (front = []) = M1 at *
  generalize decide (delta.from_ = []) = N1 at *
  generalize decide (delta.to_ = []) = O1 at *
  generalize decide (delta.events = []) = P1 at *
  generalize decide (dev = 0) = Q1 at *
  generalize decide (epoch = 0) = R1 at *
  generalize decide (slot = 0) = S1 at *
  generalize decide (try_ = 0) = T1 at *
  generalize decide (16 <= slot) = U1 at *
  generalize decide (why = 0) = V1 at *
  generalize decide (why = 1) = W1 at *
  generalize decide (why = 2) = X1 at *
  clear e1 e2 e3;refine congrArg pure ?_;clear h1 h4
  all_goals (cases S1 <;> try rfl)
  all_goals (cases T1 <;> try rfl)
  all_goals (cases Q1 <;> try rfl)
  all_goals (cases J1 <;> try rfl)
  all_goals (cases L1 <;> cases A <;> (try (exact absurd (gh rfl) (by decide))) <;> cases M1 <;> cases B <;> (try (exact absurd (gf rfl) (by decide))))
  all_goals (try rfl)
  all_goals (cases W1 <;> try rfl)
  all_goals (cases X1 <;> try rfl)
  all_goals (cases N1 <;> try rfl)
  all_goals (cases O1 <;> try rfl)
  all_goals (cases P1 <;> try rfl)
  all_goals (cases E1 <;> try rfl)
 have k0:decide (kind < 1) = true \/ decide (kind < 1) = false /\ decide (9 < kind) = true:=by
  simp only [decide_eq_true_eq,decide_eq_false_iff_not];omega
 simp only [decide_eq_false k1,decide_eq_false k2,decide_eq_false k3,decide_eq_false k4,decide_eq_false k5,decide_eq_false k6,decide_eq_false k7,decide_eq_false k8,decide_eq_false k9,Int.reduceEq,Int.reduceLE,Int.reduceLT,decide_true,decide_false,Bool.not_true,Bool.not_false,cond_true,cond_false,zA,zB,wn,wV,yy,ve,vf,yx,eq_self,Bool.true_and,Bool.and_true,Bool.false_and,Bool.and_false,e1,e2,e3];rcases k0 with k0 | ⟨k0,k10⟩
 ·rw [k0]
  cases decide (dev = 0) <;> cases Uh epoch <;> rfl
 ·rw [k0,k10]
  cases decide (dev = 0) <;> cases Uh epoch <;> rfl

def fewC (c:List PT):Bool:=decide (c.length <= 30) && c.all fun p=>decide (p.runs.length <= 30)
def fewM (m:TMsg):Bool:=fewC m.have_ && (fewC m.front && (fewC m.delta.from_ && (fewC m.delta.to_ && E.fewE m.delta.events 30)))
structure InM (m:TMsg):Prop where
 kind:0 <= m.kind /\ m.kind <= 255
 slot:0 <= m.slot /\ m.slot <= 255
 dev:0 <= m.dev /\ m.dev <= 65535
 why:0 <= m.why /\ m.why <= 255
 have_:∀ p ∈ m.have_,0 <= p.dev
 front:∀ p ∈ m.front,0 <= p.dev
 from_:∀ p ∈ m.delta.from_,0 <= p.dev
 to_:∀ p ∈ m.delta.to_,0 <= p.dev
 evs:∀ e ∈ m.delta.events,e.kills.length <= 300 /\ e.text.size <= 200 -> OkE e
theorem okM {m:TMsg} (h:InM m) (hf:fewM m = true):OkM m:=by
 unfold fewM at hf;simp only [Bool.and_eq_true] at hf;obtain ⟨f1,f2,f3,f4,f5⟩:=hf;obtain ⟨g1,g2⟩:=E.few_mem f5;have t:=C.QG f1;exact ⟨h.kind,h.slot,h.dev,h.why,C.xea h.have_ t,C.xea h.front (C.QG f2),⟨C.xea h.from_ (C.QG f3),C.xea h.to_ (C.QG f4),fun e he=>h.evs e he (g2 e he),by omega,fun e he=>(g2 e he).1⟩,by omega⟩
theorem uka {m:TMsg} (h:OkM m):∃ b,xe m = pure b:=by
 obtain ⟨h1,h2,h3,h4,h5,h6,h7,h8⟩:=h;have hev:∀ e ∈ m.delta.events,OkE e:=h7.evs;unfold xe;simp only [Vo,ZN h7,Qc hev h7.len,WI h7.len h5,Qd,C.vE _ h5,C.vE _ h6,C.QH _ _ h3.1 h5,C.UY _ _ h5 (Qb h5 h8 h3.1),C.Xb _ _ h6 h7.to_,zB,zA,yx,yy];exact ⟨_,rfl⟩
end Go.Ep.M.F

namespace Go.Ep.M.G
open Go
open E (OkE zp uN)
open F (Xf zq vV)

theorem ula {l:List EV} (h:uN l):(l.map (·.dot)).Nodup:=by
 unfold List.Nodup;rw [List.pairwise_map];exact h.imp fun {a b} h e=>by rw [e,D.xha] at h;cases h
theorem ji {l:List EV} (h:uN l) (p:EV -> Bool):uN (l.filter p):=h.sublist List.filter_sublist
def ent (e:EV):DT × EV:=(e.dot,e)
theorem ent_inj {a b:EV} (h:ent a = ent b):a = b:=(Prod.mk.inj h).2
theorem uma {l:List EV} {k:DT × EV}:k ∈ l.map ent ↔ k.2 ∈ l /\ k.1 = k.2.dot:=by
 rw [List.mem_map]
 constructor
 ·rintro ⟨e,h,rfl⟩;exact ⟨h,rfl⟩
 ·rintro ⟨h1,h2⟩;exact ⟨k.2,h1,by unfold ent;rw [<- h2]⟩
def Holds (m:List (DT × EV)) (l:List EV):Prop:=m.Perm (l.map ent)
theorem Holds.keys {m:List (DT × EV)} {l:List EV} (h:Holds m l) (hs:uN l):(m.map (·.1)).Nodup:=by
 have h1:=h.map (·.1);rw [List.map_map] at h1;exact h1.nodup_iff.2 (ula hs)
theorem Holds.mem {m:List (DT × EV)} {l:List EV} (h:Holds m l) {k:DT × EV}:k ∈ m ↔ k.2 ∈ l /\ k.1 = k.2.dot:=by rw [h.mem_iff,uma]
theorem Holds.len {m:List (DT × EV)} {l:List EV} (h:Holds m l):m.length = l.length:=by rw [h.length_eq,List.length_map]
theorem z0a {l:List EV} (h:uN l):(l.map ent).Nodup:=by
 unfold List.Nodup;rw [List.pairwise_map];exact h.imp fun {a b} h e=>by rw [ent_inj e,D.xha] at h;cases h
theorem Holds.nodup {m:List (DT × EV)} {l:List EV} (h:Holds m l) (hs:uN l):m.Nodup:=h.nodup_iff.2 (z0a hs)
theorem holds_of {m:List (DT × EV)} {l:List EV} (hn:(m.map (·.1)).Nodup) (hs:uN l) (h:∀ k,k ∈ m ↔ k.2 ∈ l /\ k.1 = k.2.dot):Holds m l:=by
 have hm:m.Nodup:=by
  unfold List.Nodup at hn ⊢;rw [List.pairwise_map] at hn;exact hn.imp fun {a b} h e=>h (by rw [e])
 exact (List.perm_ext_iff_of_nodup hm (z0a hs)).2 fun k=>by rw [h,uma]
open E (OkE zp uN)
open F (Xf zq vV uA)

section
variable {κ ν:Type} [DecidableEq κ]
theorem mem_set {m:List (κ × ν)} (hn:(m.map (·.1)).Nodup) (x:κ) (v:ν) (k:κ × ν):k ∈ AL.set m x v ↔ (k ∈ m /\ k.1 ≠ x) \/ k = (x,v):=by
 induction m with
 | nil=>simp [AL.set]
 | cons y r ih=>
  obtain ⟨q,u⟩:=y;rw [List.map_cons,List.nodup_cons] at hn;unfold AL.set
  split
  ·rename_i e
   subst e;rw [List.mem_cons,List.mem_cons]
   constructor
   ·rintro (h | h)
    ·exact .inr h
    ·exact .inl ⟨.inr h,fun e=>hn.1 (e ▸ List.mem_map.2 ⟨k,h,rfl⟩)⟩
   ·rintro (⟨h | h,h2⟩ | h)
    ·subst h;exact absurd rfl h2
    ·exact .inr h
    ·exact .inl h
  ·rename_i e
   rw [List.mem_cons,List.mem_cons,ih hn.2]
   constructor
   ·rintro (h | ⟨h,h2⟩ | h)
    ·subst h;exact .inl ⟨.inl rfl,e⟩
    ·exact .inl ⟨.inr h,h2⟩
    ·exact .inr h
   ·rintro (⟨h | h,h2⟩ | h)
    ·exact .inl h
    ·exact .inr (.inl ⟨h,h2⟩)
    ·exact .inr (.inr h)
end
def insE (l:List EV) (e:EV):List EV:=(l.filter fun x=>za x.dot e.dot) ++ [e] ++ (l.filter fun x=>za e.dot x.dot)
theorem insE_srt {l:List EV} (hs:uN l) (e:EV):uN (insE l e):=by
 unfold insE uN;rw [List.pairwise_append,List.pairwise_append];refine ⟨⟨ji hs _,by simp,fun a ha b hb=>?_⟩,ji hs _,fun a ha b hb=>?_⟩
 ·rw [List.mem_singleton.1 hb];exact (List.mem_filter.1 ha).2
 ·have h2:=(List.mem_filter.1 hb).2;rcases List.mem_append.1 ha with h | h
  ·exact D.Xc (List.mem_filter.1 h).2 h2
  ·rw [List.mem_singleton.1 h];exact h2
theorem insE_mem {l:List EV} {e:EV} (hn:∀ x ∈ l,x.dot ≠ e.dot) {x:EV}:x ∈ insE l e ↔ x = e \/ x ∈ l:=by
 unfold insE;rw [List.mem_append,List.mem_append,List.mem_filter,List.mem_filter,List.mem_singleton]
 constructor
 ·rintro ((⟨h,_⟩ | h) | ⟨h,_⟩)
  ·exact .inr h
  ·exact .inl h
  ·exact .inr h
 ·rintro (h | h)
  ·exact .inl (.inr h)
  ·cases h1:za x.dot e.dot with
   | true=>exact .inl (.inl ⟨h,rfl⟩)
   | false=>
    cases h2:za e.dot x.dot with
    | true=>exact .inr ⟨h,rfl⟩
    | false=>exact absurd (D.xia h1 h2) (hn x h)
theorem Holds.add {m:List (DT × EV)} {l:List EV} (h:Holds m l) (hs:uN l) {e:EV} (hn:∀ x ∈ l,x.dot ≠ e.dot):Holds (AL.set m e.dot e) (insE l e):=
 holds_of (AL.nodup_set (h.keys hs) _ _) (insE_srt hs e) fun k=>by
  rw [mem_set (h.keys hs),h.mem,insE_mem hn]
  constructor
  ·rintro (⟨⟨h1,h2⟩,h3⟩ | h1)
   ·exact ⟨.inr h1,h2⟩
   ·rw [h1];exact ⟨.inl rfl,rfl⟩
  ·rintro ⟨h1 | h1,h2⟩
   ·refine .inr ?_;obtain ⟨k1,k2⟩:=k;simp only at h1 h2;rw [h2,h1]
   ·exact .inl ⟨⟨h1,h2⟩,by rw [h2];exact hn _ h1⟩

theorem VK {e:EV} (h:zp e = true):e.kind = 1 \/ e.kind = 2:=by
 simp only [zp,E.yya,Bool.and_eq_true,Bool.or_eq_true,decide_eq_true_eq] at h;rcases h.2.1 with h | h
 ·exact .inl h.1
 ·exact .inr h.1
theorem wsa {e:EV} (h:zp e = true):e.kills.length <= 256 /\ D.Srt e.kills /\ ∀ d ∈ e.kills,V.yF d = true /\ d ≠ e.dot:=by
 simp only [zp,E.zua,Bool.and_eq_true,decide_eq_true_eq,List.all_eq_true,Bool.not_eq_true',decide_eq_false_iff_not] at h;exact ⟨h.2.2.1,D.QS.1 h.2.2.2.1,fun d hd=>h.2.2.2.2 d hd⟩
open E (OkE zp uN)
open F (Xf zq vV uA)

def liveL (L:List EV):List EV:=L.filter fun e=>decide (e.kind = 1)
def tombL (L:List EV):List EV:=L.filter fun e=>decide (e.kind = 2)
structure Rep (n:Nat) (W c xc:List PT) (nl1:Bool) (m1:List (DT × EV)) (nl2:Bool) (m2:List (DT × EV)) (L:List EV):Prop where
 ctx:c = C.zk W
 xctx:∀ k n,C.xm xc k n = C.xm W k n
 xok:C.Ok xc
 live:Holds m1 (liveL L)
 tomb:Holds m2 (tombL L)
 n1:nl1 = true -> m1 = []
 n2:nl2 = true -> m2 = []
 srt:uN L
 good:∀ e ∈ L,zp e = true /\ OkE e
 dots:∀ d ∈ zq L,C.xm W d.dev d.n = true
 alive:∀ e ∈ L,e.kind = 1 -> uA L e.dot = false
 wl:W.length <= n
 wt:C.yJ W <= n
 ll:L.length <= n
theorem ok_normW {W:List PT} (h1:W.length <= 400000000) (h2:C.yJ W <= 400000000):C.Ok (C.zk W):=
 ⟨fun p hp=>by have:=((C.vT W).nf p hp).1;omega,by have:=C.un W;omega,by have:=C.uo W;omega⟩
section
variable {n:Nat} {W c xc:List PT} {nl1:Bool} {m1:List (DT × EV)} {nl2:Bool} {m2:List (DT × EV)} {L:List EV}
theorem Rep.mono (hR:Rep n W c xc nl1 m1 nl2 m2 L) {k:Nat} (h:n <= k):Rep k W c xc nl1 m1 nl2 m2 L:=
 { hR with wl:=Nat.le_trans hR.wl h,wt:=Nat.le_trans hR.wt h,ll:=Nat.le_trans hR.ll h }
theorem Rep.okc (hR:Rep n W c xc nl1 m1 nl2 m2 L) (hn:n <= 100000000):C.Ok c:=by
 rw [hR.ctx];exact ok_normW (by have:=hR.wl;omega) (by have:=hR.wt;omega)
theorem Rep.has (hR:Rep n W c xc nl1 m1 nl2 m2 L) (hn:n <= 100000000) (d:DT):Xw c d = pure (C.xm W d.dev d.n):=by
 rw [C.JW c d (hR.okc hn).sm,hR.ctx,C.Zf]
theorem Rep.new : Rep 0 [] [] [] true [] true [] [] where
 ctx:=rfl
 xctx _ _:=rfl
 xok:=C.ok_nil
 live:=List.Perm.refl _
 tomb:=List.Perm.refl _
 n1 _:=rfl
 n2 _:=rfl
 srt:=List.Pairwise.nil
 good _ h:=by cases h
 dots _ h:=by cases h
 alive _ h:=by cases h
 wl:=Nat.le_refl _
 wt:=Nat.le_refl _
 ll:=Nat.le_refl _
end

open E (OkE zp uN)
open F (Xf zq vV uA)

section
variable {n:Nat} {W c xc:List PT} {nl1:Bool} {m1:List (DT × EV)} {nl2:Bool} {m2:List (DT × EV)} {L:List EV}
theorem Rep.kl (hR:Rep n W c xc nl1 m1 nl2 m2 L):∀ e ∈ L,e.kills.length <= 256:=fun e he=>(wsa (hR.good e he).1).1
theorem Rep.kinds (hR:Rep n W c xc nl1 m1 nl2 m2 L):∀ e ∈ L,e.kind = 1 \/ e.kind = 2:=fun e he=>VK (hR.good e he).1
end

open E (OkE zp uN)
open F (Xf zq vV uA)

section
variable {n:Nat} {W c xc:List PT} {nl1:Bool} {m1:List (DT × EV)} {nl2:Bool} {m2:List (DT × EV)} {L:List EV}
end

open E (OkE zp uN)
open F (Xf zq vV uA)

section
variable {n:Nat} {W c xc:List PT} {nl1:Bool} {m1:List (DT × EV)} {nl2:Bool} {m2:List (DT × EV)} {L:List EV}
def ofL (L:List EV) (cid:Int):List EV:=(liveL L).filter fun x=>decide (x.cid = cid)
end
open E (OkE zp uN)
open F (Xf zq vV uA)

def exB : EV:=⟨⟨1,2⟩,2,281474976710657,0,⟨#[]⟩,[]⟩
theorem okB : OkE exB:=⟨⟨by decide,by decide,by decide,by decide⟩,by decide,by decide,by decide,by decide,(fun d hd=>nomatch hd),by decide⟩
open E (OkE zp uN)
open F (Xf zq vV uA xy wqa)

theorem prev_srt {l:List EV} {i:Nat} {x:EV} (hx:l[i]? = some x) (hs:uN (l.take i)) (hp:xy l i x = false):uN (l.take (i + 1)) /\ ∀ z ∈ l.take i,za z.dot x.dot = true:=by
 have htk:l.take (i + 1) = l.take i ++ [x]:=by rw [List.take_add_one,hx];rfl
 have hlt:i < l.length:=(List.getElem?_eq_some_iff.1 hx).1;have hall:∀ z ∈ l.take i,za z.dot x.dot = true:=by
  intro z hz;obtain ⟨j,hj⟩:=List.getElem?_of_mem hz;have hji:j < (l.take i).length:=(List.getElem?_eq_some_iff.1 hj).1;rw [List.length_take] at hji;obtain ⟨y,hy⟩:∃ y,l[i - 1]? = some y:=⟨_,List.getElem?_eq_getElem (by omega)⟩
  unfold xy at hp;rw [decide_eq_true (show 0 < i by omega),Bool.true_and,hy] at hp;have hyx:za y.dot x.dot = true:=V.UV.1 (by simpa using hp)
  by_cases e:j = i - 1
  ·have:(l.take i)[j]? = l[j]?:=by rw [List.getElem?_take,if_pos (by omega)]
   rw [this,e,hy] at hj
   cases hj;exact hyx
  ·have h2:(l.take i)[i - 1]? = some y:=by rw [List.getElem?_take,if_pos (by omega)];exact hy
   have h3:=List.pairwise_iff_getElem.1 hs j (i - 1) (by rw [List.length_take];omega) (by rw [List.length_take];omega) (by omega);rw [(List.getElem?_eq_some_iff.1 hj).2,(List.getElem?_eq_some_iff.1 h2).2] at h3;exact D.Xc h3 hyx
 refine ⟨?_,hall⟩;rw [htk];unfold uN;rw [List.pairwise_append];exact ⟨hs,by simp,fun a ha b hb=>by rw [List.mem_singleton.1 hb];exact hall a ha⟩
open E (OkE zp uN)
open F (Xf zq vV uA xy wqa)

section
variable {n:Nat} {W c xc:List PT} {nl1:Bool} {m1:List (DT × EV)} {nl2:Bool} {m2:List (DT × EV)} {L:List EV}
end
open E (OkE zp uN)
open F (Xf zq vV uA)

section
variable {n:Nat} {W c xc:List PT} {nl1:Bool} {m1:List (DT × EV)} {nl2:Bool} {m2:List (DT × EV)} {L:List EV}
end
section
variable {n:Nat} {W c xc:List PT} {nl1:Bool} {m1:List (DT × EV)} {nl2:Bool} {m2:List (DT × EV)} {L:List EV}
theorem xpa {l:List EV} {e:EV} (h:l.getLast? = some e) (hl:l.length <= 1000000000):idx l (IntKind.i64.wrap ((l.length:Int) - 1)) = pure e /\ decide ((l.length:Int) = 0) = false:=by
 rw [List.getLast?_eq_getElem?] at h;have hlt:=(List.getElem?_eq_some_iff.1 h).1;refine ⟨?_,decide_eq_false (by omega)⟩;rw [show IntKind.i64.wrap ((l.length:Int) - 1) = ((l.length - 1:Nat):Int) by rw [Yt (by omega) (by omega)];omega];exact zH h
end
open E (OkE zp uN)
open F (Xf zq vV uA yu OkD)

section
variable {n:Nat} {W c xc:List PT} {nl1:Bool} {m1:List (DT × EV)} {nl2:Bool} {m2:List (DT × EV)} {L:List EV}
end
section
variable {n:Nat} {W c xc:List PT} {nl1:Bool} {m1:List (DT × EV)} {nl2:Bool} {m2:List (DT × EV)} {L:List EV}
end

open E (OkE zp uN)
open F (Xf zq vV uA yu OkD)

structure InD (d:DL):Prop where
 from_:∀ p ∈ d.from_,0 <= p.dev
 to_:∀ p ∈ d.to_,0 <= p.dev
 evs:∀ e ∈ d.events,e.kills.length <= 300 /\ e.text.size <= 200 -> OkE e
section
variable {n:Nat} {W c xc:List PT} {nl1:Bool} {m1:List (DT × EV)} {nl2:Bool} {m2:List (DT × EV)} {L:List EV}
end
open E (OkE zp uN wi)
open D (Yh)
open F (Xf zq vV uA yu OkD)

theorem una {e:EV} (h:zp e = true):e.text.size <= 60:=by
 simp only [zp,E.yya,E.QW,E.zta,Bool.and_eq_true,Bool.or_eq_true,decide_eq_true_eq] at h;rcases h.2.1 with h | h
 ·exact h.2.2.1
 ·rw [h.2.2];decide
theorem xE {c:List PT} (h:∀ p ∈ c,p.dev <= 65535) (h1:c.length <= 1000000) (h2:C.yJ c <= 1000000):(Yh c).length <= 60000000:=by
 have hn:=C.un c;have ht:=C.uo c;have hl:=D.xma (D.Ue h) (by omega) (by omega);rw [Yh];omega
section
variable {n:Nat} {W c xc:List PT} {nl1:Bool} {m1:List (DT × EV)} {nl2:Bool} {m2:List (DT × EV)} {L:List EV}
end
open E (OkE zp uN wi Zl)
open D (Yh wj UB fin)
open F (Xf zq vV uA yu OkD)
open N (RS Qi Sim OkB)

theorem ZH (v:Int):1 <= (N.ya v).length:=by unfold N.ya N.zga;simp
theorem x3a : ∀ c:List PT,c.length + C.yJ c <= (c.flatMap D.QP).length
 | []=>by simp [C.yJ]
 | p :: r=>by
  have h1:=x3a r;have h2:=ZH p.dev;have h3:p.runs.length <= (p.runs.flatMap D.jt).length:=by
   generalize p.runs = l
   induction l with
   | nil=>simp
   | cons x l ih=>
    have:=ZH x.lo;rw [List.flatMap_cons,List.length_append,List.length_cons,D.jt,List.length_append];omega
  have h4:C.yJ (p :: r) = p.runs.length + C.yJ r:=by simp [C.yJ]
  rw [List.flatMap_cons,List.length_append,List.length_cons,D.QP,List.length_append,List.length_append];omega
theorem x4a : ∀ l:List EV,l.length <= (l.flatMap E.Xj).length
 | []=>by simp
 | e :: r=>by
  have h1:=x4a r;have h2:1 <= (E.Xj e).length:=by
   unfold E.Xj;simp only [List.length_append,List.length_cons];omega
  rw [List.flatMap_cons,List.length_append,List.length_cons];omega
theorem Zk {s:RS} (hO:N.Ok s):(wj s).1.length + C.yJ (wj s).1 <= s.1.length /\ (wj s).2.1.length <= s.1.length:=by
 obtain ⟨h1,_,_,h4,h5⟩:=D.zj hO
 by_cases c:(wj s).2.2 = 0
 ·have h6:=D.uPa hO c;have h7:=congrArg List.length h6;rw [List.length_append,Yh,<- h5 c,D.zga,List.length_append] at h7;have:=x3a (wj s).1;omega
 ·rw [h4 c,h1.nil c];simp [C.yJ]
theorem jk {s:RS} (hO:N.Ok s) (m:Int):(Zl m s).1.length <= s.1.length:=by
 obtain ⟨_,_,_,h4,h5⟩:=E.Zj hO m
 by_cases c:(Zl m s).2.2 = 0
 ·have h7:=congrArg List.length (h4 c).1;rw [List.length_append,wi,List.length_append] at h7;have:=x4a (Zl m s).1;omega
 ·rw [h5 c];simp
theorem x5a {e:EV} (h:zp e = true):e.kills.length <= 256:=by
 simp only [zp,E.zua,Bool.and_eq_true,decide_eq_true_eq] at h;exact h.2.2.1
def jl (s:RS):DL:=⟨(wj s).1,(wj (wj s).2).1,(Zl 4096 (wj (wj s).2).2).1⟩
def z1a (s:RS):RS:=UB (!yu (jl s)) (Zl 4096 (wj (wj s).2).2).2
def wg (s:RS):DL × RS:=fin ⟨[],[],[]⟩ (jl s) (z1a s)
theorem z2a {s:RS} (hO:N.Ok s) (hl:s.1.length <= 500000):OkD (jl s):=by
 obtain ⟨a1,a2,a3,_,_⟩:=D.zj hO;obtain ⟨b1,b2,b3,_,_⟩:=D.zj a1;obtain ⟨_,c2,_,_,_⟩:=E.Zj b1 4096;have s1:=Zk hO;have s2:=Zk a1;have s3:=jk b1 4096;exact ⟨D.xta a2 a3,D.xta b2 b3,fun e he=>(c2 e he).1,by show (Zl 4096 _).1.length <= _;omega,fun e he=>by have:=x5a (c2 e he).2;omega⟩
theorem z3a {s:RS} (hO:N.Ok s) (hl:s.1.length <= 500000):OkD (wg s).1:=by
 unfold wg fin
 split
 ·exact ⟨C.ok_nil,C.ok_nil,(fun e he=>by cases he),by simp,(fun e he=>by cases he)⟩
 ·exact z2a hO hl
theorem x6a {s:RS} (hO:N.Ok s) (hl:s.1.length <= 500000):vA s.1 s.2 = pure (wg s):=by
 obtain ⟨a1,_⟩:=D.zj hO;obtain ⟨b1,_⟩:=D.zj a1;have hg:vM ⟨(wj s).1,(wj (wj s).2).1,(Zl 4096 (wj (wj s).2).2).1⟩ = pure (yu (jl s)):=F.VI (z2a hO hl);unfold vA;rw [D.xua hO,zB,zA,D.xua a1,zB,zA,E.zwa b1 (by omega),zB,zA,hg,zB,zA,D.QQ,zA];exact D.yva ⟨[],[],[]⟩ (jl s) (z1a s)
open E (OkE zp uN wi Zl)
open D (Yh wj UB fin)
open F (Xf zq vV uA yu OkD xy)
open N (RS Qi Sim OkB)

section
variable {n:Nat} {W c xc:List PT} {nl1:Bool} {m1:List (DT × EV)} {nl2:Bool} {m2:List (DT × EV)} {L:List EV}
end
theorem x7a {l:List EV} (h:∀ (i:Nat) (x:EV),l[i]? = some x -> xy l i x = false):uN l:=by
 have key:∀ i,i <= l.length -> uN (l.take i):=by
  intro i
  induction i with
  | zero=>intro _;simp [uN]
  | succ i ih=>
   intro hi;have hx:=List.getElem?_eq_getElem (show i < l.length by omega);exact (prev_srt hx (ih (by omega)) (h i _ hx)).1
 have:=key l.length (Nat.le_refl _)
 rwa [List.take_length] at this
theorem wta {d:DL} (h:yu d = true):d.from_ = C.zk d.from_ /\ d.to_ = C.zk d.to_ /\ d.events.length <= 4096 /\ uN d.events /\ ∀ e ∈ d.events,zp e = true:=by
 unfold yu at h;simp only [Bool.and_eq_true,decide_eq_true_eq,List.all_eq_true] at h;obtain ⟨h1,h2,_,h4,h5,_⟩:=h;have hb:∀ (i:Nat) (x:EV),d.events[i]? = some x -> F.w1a d i x = false:=fun i x hx=>by
  have:=h5 (x,i) (by rw [List.mem_zipIdx_iff_getElem?];exact hx);simpa using this
 refine ⟨h1,h2,h4,x7a fun i x hx=>?_,fun e he=>?_⟩
 ·have:=hb i x hx;simp only [F.w1a,Bool.or_eq_false_iff] at this;exact this.2.1
 ·obtain ⟨i,hi⟩:=List.getElem?_of_mem he;have:=hb i e hi;simp only [F.w1a,Bool.or_eq_false_iff,Bool.not_eq_false'] at this;exact this.1
theorem wua {d:DL} (od:OkD d) (h1:∀ p ∈ d.from_,p.dev <= 65535) (h2:∀ p ∈ d.to_,p.dev <= 65535) (s1:d.from_.length <= 10000 /\ C.yJ d.from_ <= 10000) (s2:d.to_.length <= 10000 /\ C.yJ d.to_ <= 10000) (hg:yu d = true) (r:List Int) :
  wg (Yh d.from_ ++ Yh d.to_ ++ wi d.events ++ r,0) = (d,(r,0)):=by
 obtain ⟨g1,g2,g3,g4,g5⟩:=wta hg;have e1:=D.QU h1 (by omega) (Yh d.to_ ++ (wi d.events ++ r));have e2:=D.QU h2 (by omega) (wi d.events ++ r);have e3:=E.ufa g4 (fun e he=>⟨od.evs e he,g5 e he⟩) (most:=4096) (by omega) (by omega) r;rw [<- g1] at e1;rw [<- g2] at e2;have hs:(Yh d.from_ ++ Yh d.to_ ++ wi d.events ++ r,(0:Int)) = (Yh d.from_ ++ (Yh d.to_ ++ (wi d.events ++ r)),(0:Int)):=by simp only [List.append_assoc]
 rw [hs];have hr:jl (Yh d.from_ ++ (Yh d.to_ ++ (wi d.events ++ r)),0) = d:=by
  unfold jl;rw [e1];dsimp only;rw [e2];dsimp only;rw [e3]
 unfold wg z1a;rw [hr,hg,e1];dsimp only;rw [e2];dsimp only;rw [e3]
 rfl
open E (OkE zp uN)
open F (Xf zq vV)

def hD (e:EV) (k n:Int):Bool:=C.xm (C.jU (vV [e])) k n
structure Past (P:List EV) (W:List PT) (L:List EV):Prop where
 has:∀ k n,C.xm W k n = true ↔ ∃ e ∈ P,zp e = true /\ hD e k n = true
 mem:∀ x,x ∈ L ↔ x ∈ P /\ zp x = true /\ ∀ f ∈ P,zp f = true -> x.dot ∉ f.kills
 srt:uN L
open E (OkE zp uN)
open F (Xf zq vV)

open E (OkE zp uN)
open F (Xf zq vV)

structure InK (K:List DT) (n:Nat) (v:List EV):Prop where
 srt:uN v
 len:v.length = n
 ok:∀ e ∈ v,OkE e
 kl:∀ e ∈ v,e.kills.length <= 4000
 sub:∀ e ∈ v,∀ d ∈ e.kills,d ∈ K
abbrev Bk:=List PT × Bool × List (DT × EV) × Bool × List (DT × EV)
def At (n:Nat) (P:List EV) (t:Bk):Prop:=∃ W xc L,Rep n W t.1 xc t.2.2.2.1 t.2.2.2.2 t.2.1 t.2.2.1 L /\ Past P W L
open E (OkE zp uN)
open F (Xf zq vV)
end Go.Ep.M.G


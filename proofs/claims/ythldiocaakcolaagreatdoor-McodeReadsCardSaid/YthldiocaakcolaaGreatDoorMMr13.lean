/- Side texts. -/
import Derived.ProofKit
import Derived.Deep.Slices
import Derived.Test.YthldiocaakcolaaGreatDoorProg
import Derived.KernelRfl
import Derived.Test.YthldiocaakcolaaGreatDoorMMr2
import Derived.Test.YthldiocaakcolaaGreatDoorMMr12
set_option linter.unusedVariables false
set_option linter.unusedSimpArgs false
namespace Go.Ep.M.F
open Go
open E (OkE yN)

def WW (l:List DT) (d:DT):Bool:=l.any fun x=>decide (x = d)
theorem qp (l:List DT) (d:DT) (hl:l.length <= 1000000000000):QR l d = pure (WW l d):=by
 unfold QR yg xJ;have:=loopF (body:=yL l d) l (fun i=>(i:Int)) (fun _ x=>decide (x = d)) (fun i _=>Ex.ret (i:Int)) (pure (Ex.brk ())) (fun i x hx hi=>by
  have hd:decide ((i:Int) < (l.length:Int)) = true:=by simpa using hi
  unfold yL;simp only [hd,cond_true,zN hx,zA,D.xpa,yT (show i < 9223372036854775807 by omega),vN,eq_comm (a:=d) (b:=x),decide_eq_true_eq]) (by
  unfold yL;simp [zA])
 rw [show (0:Int) = ((0:Nat):Int) from rfl,this];have hf:(l.zipIdx.find? fun y=>decide (y.1 = d)).isSome = WW l d:=by
  rw [List.isSome_find?];unfold WW;rw [Bool.eq_iff_iff,List.any_eq_true,List.any_eq_true]
  constructor
  ·rintro ⟨y,hy,h⟩;exact ⟨y.1,List.fst_mem_of_mem_zipIdx hy,h⟩
  ·rintro ⟨x,hx,h⟩;obtain ⟨i,hi⟩:=List.getElem?_of_mem hx;exact ⟨(x,i),by rw [List.mk_mem_zipIdx_iff_getElem?];exact hi,h⟩
 rw [<- hf]
 cases l.zipIdx.find? fun y=>decide (y.1 = d) with
 | none=>simp only [zA,zB,wi];rfl
 | some y=>simp only [zA,zB,vE];simp
def uU (l:List EV) (d:DT):Bool:=l.any fun e=>WW e.kills d
theorem Dead_eq (l:List EV) (d:DT) (hl:l.length <= 1000000000000) (hk:∀ e ∈ l,e.kills.length <= 1000000000000):Xv l d = pure (uU l d):=by
 unfold Xv;have:=xS (body:=uW l d) l (fun i=>(i:Int)) (fun _ x=>!WW x.kills d) (Ex.brk ()) (Ex.ret true) (fun i x hx hi=>by
  have hd:decide ((i:Int) < (l.length:Int)) = true:=by simpa using hi
  unfold uW Wq;simp only [hd,cond_true,zN hx,zA,qp x.kills d (hk x (List.mem_of_getElem? hx)),zB,yT (show i < 9223372036854775807 by omega)]
  cases WW x.kills d <;> rfl) (by
  unfold uW;simp)
 rw [show (0:Int) = ((0:Nat):Int) from rfl,this,zA,E.XC l fun x=>!WW x.kills d];have e:uU l d = !(l.all fun x=>!WW x.kills d):=by simp [uU,List.all_eq_not_any_not]
 rw [e]
 cases l.all fun x=>!WW x.kills d <;> rfl
theorem rDead_eq (l:List EV) (d:DT) (hl:l.length <= 1000000000000) (hk:∀ e ∈ l,e.kills.length <= 1000000000000):VX l d = pure (uU l d):=by
 unfold VX;have:=xS (body:=Yg l d) l (fun i=>(i:Int)) (fun _ x=>!WW x.kills d) (Ex.brk ()) (Ex.ret true) (fun i x hx hi=>by
  have hd:decide ((i:Int) < (l.length:Int)) = true:=by simpa using hi
  unfold Yg;simp only [hd,cond_true,zN hx,zA,E.Ud x.kills d (hk x (List.mem_of_getElem? hx)),zB,yT (show i < 9223372036854775807 by omega)];show cond (WW x.kills d) _ _ = _
  cases WW x.kills d <;> rfl) (by
  unfold Yg;simp)
 rw [show (0:Int) = ((0:Nat):Int) from rfl,this,zA,E.XC l fun x=>!WW x.kills d];have e:uU l d = !(l.all fun x=>!WW x.kills d):=by simp [uU,List.all_eq_not_any_not]
 rw [e]
 cases l.all fun x=>!WW x.kills d <;> rfl

def vua (l:List DT) (c:List PT):List DT:=D.ww (l.filter fun d=>!C.wV c d.dev d.n)
theorem Drop_eq (l : List DT) (c : List PT) (hl : l.length <= 1000000000) (hc : C.Sm c) : Xx l c = pure (vua l c) := by
  unfold Xx UN;have := XO (body := uX l c false) l (fun i t => ((i : Int), t)) (fun t d => if C.wV c d.dev d.n = true then t else t ++ [d]) (fun t => pure t) (fun i t => t.length <= i) (fun i x t hx hi hI => by
    have hd : decide ((i : Int) < (l.length : Int)) = true := by simpa using hi
    refine ⟨?_, by split
                   · omega
                   · simp; omega⟩
    unfold uX;simp only [hd, cond_true, zN hx, zA, C.qp c x hc, zB, yT (show i < 9223372036854775807 by omega)]
    by_cases c : C.wV c x.dev x.n = true
    · rw [c, show (true == false) = false from rfl, cond_false, zA, if_pos rfl]
    · simp only [Bool.not_eq_true] at c;rw [c, show (false == false) = true from rfl, cond_true, zD (by simp; omega), zA]; rfl) (fun t _ => by
    unfold uX;simp [zA]) [] (by simp)
  have key : ∀ (l t : List DT), l.foldl (fun t d => if C.wV c d.dev d.n = true then t else t ++ [d]) t = t ++ l.filter fun d => !C.wV c d.dev d.n := by
    intro l
    induction l with
    | nil => intro t; simp
    | cons x r ih =>
      intro t;rw [List.foldl_cons, ih]
      by_cases h : C.wV c x.dev x.n = true
      · rw [if_pos h, List.filter_cons, if_neg (by simp [h])]
      · rw [if_neg h, List.filter_cons, if_pos (by simp [h]), List.append_assoc]; rfl
  rw [show (0 : Int) = ((0 : Nat) : Int) from rfl, this, zA, key, List.nil_append, D.xqa _ (by have := List.length_filter_le (fun d : DT => !C.wV c d.dev d.n) l; omega), zB, zA, zB, zA, vua]
theorem rDrop_eq (l : List DT) (c : List PT) (hl : l.length <= 1000000000) (hc : C.Ok c) : jH l c = pure (vua l c) := by
  unfold jH;have := XO (body := Yh l c) l (fun i t => (t, (i : Int))) (fun t d => if C.wV c d.dev d.n = true then t else D.zca t d) (fun t => pure t) (fun i t => t.length <= i) (fun i x t hx hi hI => by
    have hd : decide ((i : Int) < (l.length : Int)) = true := by simpa using hi
    refine ⟨?_, by split
                   · omega
                   · have := D.zOa t x; omega⟩
    unfold Yh;simp only [hd, cond_true, zN hx, zA, C.Ud c x hc, zB, yT (show i < 9223372036854775807 by omega)]
    by_cases c : C.wV c x.dev x.n = true
    · rw [c, Bool.not_true, cond_false, zA, if_pos rfl]
    · simp only [Bool.not_eq_true] at c;rw [c, Bool.not_false, cond_true, D.xna t x (by omega), zB, zA, zA]; rfl) (fun t _ => by
    unfold Yh;simp [zA]) [] (by simp)
  have key : ∀ (l t : List DT), l.foldl (fun t d => if C.wV c d.dev d.n = true then t else D.zca t d) t = (l.filter fun d => !C.wV c d.dev d.n).foldl D.zca t := by
    intro l
    induction l with
    | nil => intro t; rfl
    | cons x r ih =>
      intro t;rw [List.foldl_cons, ih]
      by_cases h : C.wV c x.dev x.n = true
      · rw [if_pos h, List.filter_cons, if_neg (by simp [h])]
      · rw [if_neg h, List.filter_cons, if_pos (by simp [h])]; rfl
  rw [show (0 : Int) = ((0 : Nat) : Int) from rfl, this, zA, key]; rfl

def zw (l:List EV):List DT:=l.flatMap fun e=>e.dot :: e.kills
def ve (l:List EV):List DT:=D.ww (zw l)
theorem w6a (l:List EV) (k:Nat) (h:∀ e ∈ l,e.kills.length <= k):(zw l).length <= l.length * (k + 1):=by
 induction l with
 | nil=>simp [zw]
 | cons e r ih=>
  have h1:=ih fun x hx=>h x (by simp [hx])
  have h2:=h e (by simp);have e1:(zw (e :: r)).length = e.kills.length + 1 + (zw r).length:=by simp [zw];omega
  rw [e1,List.length_cons,Nat.add_mul];omega
theorem Jk {l:List EV} {i:Nat} {x:EV} (h:l[i]? = some x):zw (l.take (i + 1)) = zw (l.take i) ++ x.dot :: x.kills:=by
 rw [List.take_add_one,h];simp [zw]
theorem yla (l:List EV) (i:Nat):(zw (l.take i)).length <= (zw l).length:=by
 have:zw l = zw (l.take i) ++ zw (l.drop i):=by unfold zw;rw [<- List.flatMap_append,List.take_append_drop]
 rw [this,List.length_append];omega
theorem xua (l:List EV) (hl:l.length <= 1000000000) (hs:(zw l).length <= 1000000000):Xy l = pure (ve l):=by
 unfold Xy;have key:∀ (k i:Nat),i + k = l.length -> loop (uY l) ((i:Int),zw (l.take i)) = pure (zw l):=by
  intro k
  induction k with
  | zero=>
   intro i hi;refine zP ?_;unfold uY;have:decide ((i:Int) < (l.length:Int)) = false:=by simp;omega
   simp only [this,cond_false];rw [List.take_of_length_le (by omega)]
  | succ k ih=>
   intro i hi;obtain ⟨x,hx⟩:∃ x,l[i]? = some x:=⟨_,List.getElem?_eq_getElem (by omega)⟩
   have hd:decide ((i:Int) < (l.length:Int)) = true:=by simp;omega
   have h1:=yla l (i + 1);rw [Jk hx,List.length_append,List.length_cons] at h1;rw [zW (s':=(((i + 1:Nat):Int),zw (l.take (i + 1)))) ?_]
   ·exact ih (i + 1) (by omega)
   ·unfold uY;simp only [hd,cond_true,zN hx,zA,yT (show i < 9223372036854775807 by omega)];rw [zD (by simp;omega),zD (by simp;omega),Jk hx,List.append_assoc];rfl
 have:=key l.length 0 (by omega);rw [show zw (l.take 0) = [] from rfl] at this;rw [show (0:Int) = ((0:Nat):Int) from rfl,this,zA,D.xqa _ (by omega),zB,zA,ve]
theorem rdots_in (l:List EV) {i:Nat} {x:EV} (hx:l[i]? = some x) (hk:x.kills.length <= 1000000000) (s:List DT) (hs:s.length <= 1000000000):loop (uz l (i:Int)) (s,0) = pure (x.kills.foldl D.zca s):=by
 have:=XO (body:=uz l (i:Int)) x.kills (fun k t=>(t,(k:Int))) D.zca (fun t=>pure t) (fun k t=>t.length <= 1000000000 + k) (fun k d t hd hi hI=>by
  have hc:decide ((k:Int) < (x.kills.length:Int)) = true:=by simpa using hi
  refine ⟨?_,by have:=D.zOa t d;omega⟩;unfold uz;simp only [zN hx,zA,hc,cond_true,zN hd,D.xna t d (by omega),zB,yT (show k < 9223372036854775807 by omega)]) (fun t _=>by
  unfold uz;simp [zN hx,zA]) s (by omega)
 exact this
theorem zWa (l:List EV) (hl:l.length <= 1000000) (hk:∀ e ∈ l,e.kills.length <= 300):jI l = pure (ve l):=by
 unfold jI;have key:∀ (k i:Nat),i + k = l.length -> loop (Yi l) (D.ww (zw (l.take i)),(i:Int)) = pure (ve l):=by
  intro k
  induction k with
  | zero=>
   intro i hi;refine zP ?_;unfold Yi;have:decide ((i:Int) < (l.length:Int)) = false:=by simp;omega
   simp only [this,cond_false];rw [List.take_of_length_le (by omega)];rfl
  | succ k ih=>
   intro i hi;obtain ⟨x,hx⟩:∃ x,l[i]? = some x:=⟨_,List.getElem?_eq_getElem (by omega)⟩
   have hd:decide ((i:Int) < (l.length:Int)) = true:=by simp;omega
   have h1:=yla l i;have h2:=w6a l 300 hk;have h3:=D.jZ (zw (l.take i));have h4:=D.zOa (D.ww (zw (l.take i))) x.dot;have h5:=hk x (List.mem_of_getElem? hx);rw [zW (s':=(D.ww (zw (l.take (i + 1))),((i + 1:Nat):Int))) ?_]
   ·exact ih (i + 1) (by omega)
   ·unfold Yi;simp only [hd,cond_true,zN hx,zA,D.xna _ x.dot (show (D.ww (zw (l.take i))).length <= 1000000000000 by omega),zB,rdots_in l hx (show x.kills.length <= 1000000000 by omega) _ (show (D.zca (D.ww (zw (l.take i))) x.dot).length <= 1000000000 by omega),yT (show i < 9223372036854775807 by omega)];rw [Jk hx];unfold D.ww;rw [List.foldl_append];rfl
 have:=key l.length 0 (by omega);rw [show D.ww (zw (l.take 0)) = [] from rfl] at this;rw [show (0:Int) = ((0:Nat):Int) from rfl,this,zA]

def uH (l:List EV) (i:Nat) (x:EV):Bool:=decide (0 < i) && match l[i - 1]? with | some y=>decide (0 <= V.yta y.dot x.dot) | none=>false
theorem Jl {β:Type} {l:List EV} {i:Nat} {x:EV} (hi:i < l.length) (hl:l.length <= 1000000000) (f:DT -> DT -> M Int) (hf:∀ a b,f a b = pure (V.yta a b)) (K:Bool -> M β) :
  (cond (decide (0 < (i:Int))) ((idx l (IntKind.i64.wrap ((i:Int) - 1))).bind fun y=>(det (f y.dot x.dot)).bind fun v=>K (decide (0 <= v))) (K false)) = K (uH l i x):=by
 unfold uH
 by_cases h:0 < i
 ·obtain ⟨y,hy⟩:∃ y,l[i - 1]? = some y:=⟨_,List.getElem?_eq_getElem (by omega)⟩
  have e:IntKind.i64.wrap ((i:Int) - 1) = ((i - 1:Nat):Int):=by rw [uJ (by omega) (by omega)];omega
  have hd:decide (0 < (i:Int)) = true:=by simp;omega
  rw [hd,cond_true,e,zN hy,zA,hf,zB,zA,decide_eq_true h,Bool.true_and,hy]
 ·have hd:decide (0 < (i:Int)) = false:=by simp;omega
  rw [hd,cond_false,decide_eq_false h,Bool.false_and]
def bad1 (d:DL) (i:Nat) (e:EV):Bool:=!yN e || (uH d.events i e || (C.wV d.from_ e.dot.dev e.dot.n || (decide (e.kind = 1) && uU d.events e.dot)))
def xw (d:DL):Bool:=decide (d.from_ = C.yC d.from_) && (decide (d.to_ = C.yC d.to_) && (decide (C.opC (fun x y=>x && !y) d.from_ d.to_ = []) && (decide (d.events.length <= 4096) && ((d.events.zipIdx.all fun y=>!bad1 d y.2 y.1) && decide (vua (ve d.events) d.to_ = [])))))
structure OkD (d:DL):Prop where
 from_:C.Ok d.from_
 to_:C.Ok d.to_
 evs:∀ e ∈ d.events,OkE e
 len:d.events.length <= 1000000
 kills:∀ e ∈ d.events,e.kills.length <= 300
theorem Uj {α:Type} [DecidableEq α] (l:List α):decide ((l.length:Int) = 0) = decide (l = []):=by
 cases l with
 | nil=>rfl
 | cons x r=>simp;omega
theorem vva {d:DL} (h:OkD d):loop (vH d) 0 = pure (if (d.events.zipIdx.all fun y=>!bad1 d y.2 y.1) = true then Ex.brk () else Ex.ret false):=by
 have hl:=h.len;have:=xS (body:=vH d) d.events (fun i=>(i:Int)) (fun i x=>!bad1 d i x) (Ex.brk ()) (Ex.ret false) (fun i x hx hi=>by
  have hd:decide ((i:Int) < (d.events.length:Int)) = true:=by simpa using hi
  have hm:=List.mem_of_getElem? hx;have hp:=fun (K:Bool -> M (Step Int (Ex Unit Bool)))=>Jl (x:=x) hi (by omega) vT D.qr K
  unfold vH;simp only [hd,cond_true,zN hx,zA,E.Zm (h.evs x hm),C.qp d.from_ x.dot h.from_.sm,Dead_eq d.events x.dot (by omega) (fun e he=>by have:=h.kills e he;omega),zB,yT (show i < 9223372036854775807 by omega)];have hp:=Jl (x:=x) hi (by omega) vT D.qr (fun b=>(pure b:M Bool));rw [hp];unfold bad1;simp only [zA]
  cases yN x with
  | false=>rfl
  | true=>
   cases C.wV d.from_ x.dot.dev x.dot.n with
   | true=>cases uH d.events i x <;> rfl
   | false=>
    cases uH d.events i x with
    | true=>rfl
    | false=>
     cases decide (x.kind = 1) with
     | false=>rfl
     | true=>cases uU d.events x.dot <;> rfl) (by
  unfold vH;simp)
 rw [show (0:Int) = ((0:Nat):Int) from rfl,this]
theorem xza {d:DL} (h:OkD d):loop (ZA d) 0 = pure (if (d.events.zipIdx.all fun y=>!bad1 d y.2 y.1) = true then Ex.brk () else Ex.ret false):=by
 have hl:=h.len;have:=xS (body:=ZA d) d.events (fun i=>(i:Int)) (fun i x=>!bad1 d i x) (Ex.brk ()) (Ex.ret false) (fun i x hx hi=>by
  have hd:decide ((i:Int) < (d.events.length:Int)) = true:=by simpa using hi
  have hm:=List.mem_of_getElem? hx;unfold ZA;simp only [hd,cond_true,zN hx,zA,E.vO (h.evs x hm),C.Ud d.from_ x.dot h.from_,rDead_eq d.events x.dot (by omega) (fun e he=>by have:=h.kills e he;omega),zB,yT (show i < 9223372036854775807 by omega)];have hp:=Jl (x:=x) hi (by omega) vK V.vZ (fun b=>(cond b (pure true) (cond (C.wV d.from_ x.dot.dev x.dot.n) (pure true) (cond (decide (x.kind = 1)) (pure (uU d.events x.dot)) (pure false))):M Bool));refine (congrArg (fun m:M Bool=>M.bind (cond (!yN x) (pure true) m) fun v70=>cond v70 (pure (Step.done (Ex.ret false))) (pure (Step.next ((i + 1:Nat):Int)))) hp).trans ?_;unfold bad1
  cases yN x with
  | false=>rfl
  | true=>
   cases C.wV d.from_ x.dot.dev x.dot.n with
   | true=>cases uH d.events i x <;> rfl
   | false=>
    cases uH d.events i x with
    | true=>rfl
    | false=>
     cases decide (x.kind = 1) with
     | false=>rfl
     | true=>cases uU d.events x.dot <;> rfl) (by
  unfold ZA;simp)
 rw [show (0:Int) = ((0:Nat):Int) from rfl,this]
theorem ZYa (l:List EV):decide ((4096:Int) < (l.length:Int)) = !decide (l.length <= 4096):=by
 by_cases c:l.length <= 4096
 ·rw [decide_eq_true c];simp;omega
 ·rw [decide_eq_false c];simp;omega
theorem dlen {d:DL} (h:OkD d):(zw d.events).length <= 1000000000:=by have:=w6a d.events 300 h.kills;have:=h.len;omega
theorem UG {d:DL} (h:OkD d):vU d = pure (xw d):=by
 have h1:=h.len;have h2:=dlen h;have h3:(ve d.events).length <= 1000000000:=Nat.le_trans (D.jZ _) h2;unfold vU xw;rw [vva h];simp only [C.Zm _ h.from_.sm,C.Zm _ h.to_.sm,C.JX _ _ h.from_.sm h.to_.sm,xua d.events (by omega) h2,Drop_eq _ _ h3 h.to_.sm,zB,zA,ZYa,Uj]
 cases decide (d.from_ = C.yC d.from_) with
 | false=>rfl
 | true=>
  cases decide (d.to_ = C.yC d.to_) with
  | false=>rfl
  | true=>
   cases decide (C.opC (fun x y=>x && !y) d.from_ d.to_ = []) with
   | false=>rfl
   | true=>
    cases decide (d.events.length <= 4096) with
    | false=>rfl
    | true=>cases d.events.zipIdx.all fun y=>!bad1 d y.2 y.1 <;> rfl
theorem Zq {d:DL} (h:OkD d):Zf d = pure (xw d):=by
 have h1:=h.len;have h2:=dlen h;have h3:(ve d.events).length <= 1000000000:=Nat.le_trans (D.jZ _) h2;unfold Zf xw;rw [xza h];simp only [C.vO _ h.from_,C.vO _ h.to_,C.Uc _ _ h.from_ h.to_,zWa d.events (by omega) h.kills,rDrop_eq _ _ h3 h.to_,zB,zA,ZYa,Uj]
 cases decide (d.from_ = C.yC d.from_) with
 | false=>rfl
 | true=>
  cases decide (d.to_ = C.yC d.to_) with
  | false=>rfl
  | true=>
   cases decide (C.opC (fun x y=>x && !y) d.from_ d.to_ = []) with
   | false=>rfl
   | true=>
    cases decide (d.events.length <= 4096) with
    | false=>rfl
    | true=>cases d.events.zipIdx.all fun y=>!bad1 d y.2 y.1 <;> rfl

open E (OkE yN)

def jd (n:Int):Bool:=decide (0 < n) && decide (n <= 281474976710655)
theorem yma (n:Int):Zw n = pure (jd n):=by
 unfold Zw jd;rw [za,zA]
theorem qy (n:Int):ul n = pure (jd n):=by
 unfold ul jd;rw [za,zA,show decide (1 <= n) = decide (0 < n) from rfl]
theorem w7a (c:List PT) (d k n:Int):C.wV (C.ZN c d) k n = (decide (d = k) && C.wV c k n):=by
 unfold C.ZN;rw [C.YK];unfold C.wV;rw [C.uF,C.Vs,List.append_nil]
 by_cases h:d = k
 ·subst h
  by_cases h0:0 < d
  ·rw [if_pos ⟨rfl,h0⟩,R.wq];simp
  ·rw [if_neg (by simp [h0]),C.Vu h0];simp [R.yM]
 ·rw [if_neg (by simp [h])];simp [h,R.yM]
def xU (c:List PT):Bool:=decide (c = C.yC c)
def vf (a b:List PT):Bool:=decide (C.opC (fun x y=>x && !y) a b = [])
def Uk (a b:List PT):Bool:=decide (C.yC a = C.yC b)
theorem w8a : xU [] = true:=by
 unfold xU;rw [C.qj C.yPa];rfl
theorem x0a (c:List PT) (d:Int):vf c (C.ZN c d) = Uk c (C.ZN c d):=by
 unfold vf Uk;rw [Bool.eq_iff_iff,decide_eq_true_eq,decide_eq_true_eq]
 constructor
 ·intro h;refine C.yOa fun k n=>?_
  have h1:C.wV (C.opC (fun x y=>x && !y) c (C.ZN c d)) k n = false:=by rw [h];rfl
  rw [C.xda rfl,w7a] at h1;rw [w7a]
  cases hc:C.wV c k n with
  | false=>simp
  | true=>rw [hc] at h1;simpa using h1
 ·intro h;refine C.ql (C.waa rfl _ _) fun k n=>?_
  have h1:C.wV (C.yC c) k n = C.wV (C.yC (C.ZN c d)) k n:=by rw [h]
  rw [C.YK,C.YK] at h1;rw [C.xda rfl,<- h1]
  cases C.wV c k n <;> rfl
theorem x1a {c:List PT} (h:C.Ok c) (ht:C.yf c <= 1000000) {d:Int} (hd:0 <= d):C.Ok (C.ZN c d):=by
 have h2:=R.va (C.yU c d);have h3:=C.xt c d;have h4:=h.tot;rw [C.yRa]
 split
 ·exact C.ok_nil
 ·exact ⟨fun p hp=>by rw [List.mem_singleton.1 hp];exact hd,by simp,by simp [C.yf];omega⟩
def ownB (c:List PT) (d:Int):Bool:=xU c && Uk c (C.ZN c d)
theorem own_eq {c:List PT} (h:C.Ok c) (ht:C.yf c <= 1000000) {d:Int} (hd:0 <= d):jt c d = pure (ownB c d):=by
 unfold jt;simp only [C.Zm c h.sm,C.Only_eq c d h,C.JX c _ h.sm (x1a h ht hd).sm,zB,zA,za];show pure (xU c && vf c (C.ZN c d)) = _;rw [x0a];rfl

def bad2 (l:List EV) (dev:Int) (c:List PT) (i:Nat) (e:EV):Bool:=!yN e || (!decide (e.dot.dev = dev) || (C.wV c e.dot.dev e.dot.n || uH l i e))
def yua (l:List EV) (dev:Int) (i:Nat) (e:EV):Bool:=!yN e || (!decide (e.dot.dev = dev) || uH l i e)
def Ul (l:List EV):Bool:=decide (1 <= (l.length:Int)) && decide ((l.length:Int) <= 4)
theorem ZZa {l:List EV} {dev:Int} {c:List PT} (hE:∀ e ∈ l,OkE e) (hl:l.length <= 1000000) (hc:C.Ok c):Xz l dev c = pure ((l.zipIdx.all fun y=>!bad2 l dev c y.2 y.1) && Ul l):=by
 unfold Xz;have:=xS (body:=uZ l dev c) l (fun i=>(i:Int)) (fun i x=>!bad2 l dev c i x) (Ex.brk ()) (Ex.ret false) (fun i x hx hi=>by
  have hd:decide ((i:Int) < (l.length:Int)) = true:=by simpa using hi
  have hm:=List.mem_of_getElem? hx;unfold uZ;simp only [hd,cond_true,zN hx,zA,E.Zm (hE x hm),C.qp c x.dot hc.sm,zB,yT (show i < 9223372036854775807 by omega)];have hp:=Jl (x:=x) hi (by omega) vT D.qr (fun b=>(pure b:M Bool));rw [hp];unfold bad2
  cases yN x with
  | false=>rfl
  | true=>
   cases decide (x.dot.dev = dev) with
   | false=>rfl
   | true=>
    cases C.wV c x.dot.dev x.dot.n with
    | true=>rfl
    | false=>cases uH l i x <;> rfl) (by
  unfold uZ;simp)
 rw [show (0:Int) = ((0:Nat):Int) from rfl,this,zA,za,zA];show exk (fun _=>pure (Ul l)) _ = _
 cases l.zipIdx.all fun y=>!bad2 l dev c y.2 y.1 <;> rfl
theorem w9a {d:DL} {dev:Int} (hE:∀ e ∈ d.events,OkE e) (hl:d.events.length <= 1000000):jJ d dev = pure ((d.events.zipIdx.all fun y=>!yua d.events dev y.2 y.1) && (decide (d.from_ = []) && (decide (d.to_ = []) && Ul d.events))):=by
 unfold jJ;have:=xS (body:=Yj d dev) d.events (fun i=>(i:Int)) (fun i x=>!yua d.events dev i x) (Ex.brk ()) (Ex.ret false) (fun i x hx hi=>by
  have hd:decide ((i:Int) < (d.events.length:Int)) = true:=by simpa using hi
  have hm:=List.mem_of_getElem? hx;unfold Yj;simp only [hd,cond_true,zN hx,zA,E.vO (hE x hm),zB,yT (show i < 9223372036854775807 by omega)];have hp:=Jl (x:=x) hi (by omega) vK V.vZ (fun b=>(pure b:M Bool));rw [hp];unfold yua
  cases yN x with
  | false=>rfl
  | true=>
   cases decide (x.dot.dev = dev) with
   | false=>rfl
   | true=>cases uH d.events i x <;> rfl) (by
  unfold Yj;simp)
 rw [show (0:Int) = ((0:Nat):Int) from rfl,this,zA];simp only [Uj,Int.natCast_zero,za,zA];show exk (fun _=>pure (decide (d.from_ = []) && (decide (d.to_ = []) && Ul d.events))) _ = _
 cases d.events.zipIdx.all fun y=>!yua d.events dev y.2 y.1 <;> rfl
def ZQ (c:List PT) (l:List EV):Bool:=l.any fun e=>C.wV c e.dot.dev e.dot.n
theorem Jm {c:List PT} {l:List EV} (hl:l.length <= 1000000) (hc:C.Ok c):Yk c l = pure (ZQ c l):=by
 unfold Yk;have:=xS (body:=vk l c) l (fun i=>(i:Int)) (fun _ x=>!C.wV c x.dot.dev x.dot.n) (Ex.brk ()) (Ex.ret true) (fun i x hx hi=>by
  have hd:decide ((i:Int) < (l.length:Int)) = true:=by simpa using hi
  unfold vk;simp only [hd,cond_true,zN hx,zA,C.Ud c x.dot hc,zB,yT (show i < 9223372036854775807 by omega)]
  cases C.wV c x.dot.dev x.dot.n <;> rfl) (by
  unfold vk;simp)
 rw [show (0:Int) = ((0:Nat):Int) from rfl,this,zA,E.XC l fun x=>!C.wV c x.dot.dev x.dot.n];have e:ZQ c l = !(l.all fun x=>!C.wV c x.dot.dev x.dot.n):=by simp [ZQ,List.all_eq_not_any_not]
 rw [e]
 cases l.all fun x=>!C.wV c x.dot.dev x.dot.n <;> rfl
theorem Zaa (l:List EV) (dev:Int) (c:List PT):(l.zipIdx.all fun y=>!bad2 l dev c y.2 y.1) = ((l.zipIdx.all fun y=>!yua l dev y.2 y.1) && !ZQ c l):=by
 have e:ZQ c l = !(l.all fun x=>!C.wV c x.dot.dev x.dot.n):=by simp [ZQ,List.all_eq_not_any_not]
 rw [e,Bool.not_not,<- E.XC l fun x=>!C.wV c x.dot.dev x.dot.n,Bool.eq_iff_iff,Bool.and_eq_true,List.all_eq_true,List.all_eq_true,List.all_eq_true]
 constructor
 ·intro h;refine ⟨fun y hy=>?_,fun y hy=>?_⟩
  ·have:=h y hy;unfold bad2 at this;unfold yua
   revert this
   cases yN y.1 <;> cases decide (y.1.dot.dev = dev) <;> cases C.wV c y.1.dot.dev y.1.dot.n <;> cases uH l y.2 y.1 <;> decide
  ·have:=h y hy;unfold bad2 at this
   revert this
   cases yN y.1 <;> cases decide (y.1.dot.dev = dev) <;> cases C.wV c y.1.dot.dev y.1.dot.n <;> cases uH l y.2 y.1 <;> decide
 ·rintro ⟨h1,h2⟩ y hy;have a:=h1 y hy;have b:=h2 y hy;unfold yua at a;unfold bad2
  revert a b
  cases yN y.1 <;> cases decide (y.1.dot.dev = dev) <;> cases C.wV c y.1.dot.dev y.1.dot.n <;> cases uH l y.2 y.1 <;> decide

structure OkM (m:TMsg):Prop where
 kind:0 <= m.kind /\ m.kind <= 255
 slot:0 <= m.slot /\ m.slot <= 255
 dev:0 <= m.dev /\ m.dev <= 65535
 why:0 <= m.why /\ m.why <= 255
 have_:C.Ok m.have_
 front:C.Ok m.front
 delta:OkD m.delta
 tot:C.yf m.have_ <= 1000000
def bareB (m:TMsg):Bool:=decide (m.slot = 0) && (decide (m.try_ = 0) && (decide (m.why = 0) && (decide (m.have_ = []) && (decide (m.front = []) && ((decide (m.delta.from_ = []) && decide (m.delta.to_ = [])) && decide (m.delta.events = []))))))
theorem Zba (m:TMsg):VN m = pure (bareB m):=by
 unfold VN jq bareB;simp only [Uj,za,zA,zB]
theorem vAa (d:DL):jK d = pure (decide (d.from_ = []) && (decide (d.to_ = []) && decide (d.events = []))):=by
 unfold jK;simp only [Uj,za,zA]
theorem vr {α:Type} (a:Bool) (x y:M α):det (cond a x y) = cond a (det x) (det y):=by cases a <;> rfl
theorem vt {α β:Type} (k:β -> M α) (a:Bool) (x y:Ex β α):exk k (cond a x y) = cond a (exk k x) (exk k y):=by cases a <;> rfl
set_option maxHeartbeats 4000000 in
theorem Zca {m:TMsg} (h:OkM m):Zc m = ud m:=by
 obtain ⟨h1,h2,h3,h4,h5,h6,h7,h8⟩:=h;have hev:∀ e ∈ m.delta.events,OkE e:=h7.evs;have hfrom:decide ((0:Int) < (m.delta.from_.length:Int)) = !decide (m.delta.from_ = []):=by
  cases m.delta.from_ with
  | nil=>rfl
  | cons x r=>simp
 unfold Zc ud jr;simp only [yma,qy,own_eq h5 h8 h3.1,C.Zm _ h5.sm,C.Zm _ h6.sm,C.JX _ _ h6.sm h7.to_.sm,UG h7,Zq h7,ZZa hev h7.len h5,w9a hev h7.len,Jm h7.len h5,Zba,vAa,C.vO _ h5,C.vO _ h6,C.wha _ _ h3.1 h5,C.Zi _ _ h5 (x1a h5 h8 h3.1),C.Uc _ _ h6 h7.to_,hfrom,zB,zA,Uj,Zaa,bareB];obtain ⟨kind,slot,try_,dev,epoch,why,have_,front,delta⟩:=m;dsimp only at *
 have e1:∀ c:List PT,decide (c = C.yC c) = xU c:=fun _=>rfl
 have e2:∀ a b:List PT,decide (C.yC a = C.yC b) = Uk a b:=fun _ _=>rfl
 have e3:∀ a b:List PT,decide (C.opC (fun x y=>x && !y) a b = []) = vf a b:=fun _ _=>rfl
 have gh:decide (have_ = []) = true -> xU have_ = true:=fun e=>by rw [of_decide_eq_true e];exact w8a
 have gf:decide (front = []) = true -> xU front = true:=fun e=>by rw [of_decide_eq_true e];exact w8a
 simp only [e1,e2,e3,ownB];clear hfrom hev h2 h3 h5 h6 h7 h8
 by_cases k1:kind = 1
 ·subst k1;simp only [Int.reduceEq,Int.reduceLE,Int.reduceLT,decide_true,decide_false,Bool.not_true,Bool.not_false,cond_true,cond_false,zA,zB,vE,wi,xd,vr,vt,xb,eq_self,Bool.true_and,Bool.and_true,Bool.false_and,Bool.and_false,e1,e2,e3]
  generalize xU have_ = A at *
  generalize xU front = B at *
  generalize Uk have_ (C.ZN have_ dev) = D1 at *
  generalize vf front delta.to_ = E1 at *
  generalize xw delta = F1 at *
  generalize (delta.events.zipIdx.all fun y=>!yua delta.events dev y.2 y.1) = G1 at *
  generalize ZQ have_ delta.events = H1 at *
  generalize Ul delta.events = I1 at *
  generalize jd epoch = J1 at *
  generalize jd try_ = K1 at *
  generalize decide (have_ = []) = L1 at *
  generalize decide (front = []) = M1 at *
  generalize decide (delta.from_ = []) = N1 at *
  generalize decide (delta.to_ = []) = O1 at *
  generalize decide (delta.events = []) = P1 at *
  generalize decide (dev = 0) = Q1 at *
  generalize decide (epoch = 0) = R1 at *
  generalize decide (slot = 0) = S1 at *
  generalize decide (try_ = 0) = T1 at *
  generalize decide (16 <= slot) = U1 at *
  generalize decide (why = 0) = V1 at *
  generalize decide (why = 1) = W1 at *
  generalize decide (why = 2) = X1 at *
  clear e1 e2 e3;refine congrArg pure ?_;clear h1 h4
  all_goals (cases U1 <;> try rfl)
  all_goals (cases K1 <;> try rfl)
  all_goals (cases Q1 <;> try rfl)
  all_goals (cases R1 <;> try rfl)
  all_goals (cases L1 <;> cases A <;> (try (exact absurd (gh rfl) (by decide))) <;> cases M1 <;> cases B <;> (try (exact absurd (gf rfl) (by decide))))
  all_goals (try rfl)
  all_goals (cases V1 <;> try rfl)
  all_goals (cases N1 <;> try rfl)
  all_goals (cases O1 <;> try rfl)
  all_goals (cases P1 <;> try rfl)
  all_goals (cases E1 <;> try rfl)
 by_cases k2:kind = 2
 ·subst k2;simp only [Int.reduceEq,Int.reduceLE,Int.reduceLT,decide_true,decide_false,Bool.not_true,Bool.not_false,cond_true,cond_false,zA,zB,vE,wi,xd,vr,vt,xb,eq_self,Bool.true_and,Bool.and_true,Bool.false_and,Bool.and_false,e1,e2,e3]
  generalize xU have_ = A at *
  generalize xU front = B at *
  generalize Uk have_ (C.ZN have_ dev) = D1 at *
  generalize vf front delta.to_ = E1 at *
  generalize xw delta = F1 at *
  generalize (delta.events.zipIdx.all fun y=>!yua delta.events dev y.2 y.1) = G1 at *
  generalize ZQ have_ delta.events = H1 at *
  generalize Ul delta.events = I1 at *
  generalize jd epoch = J1 at *
  generalize jd try_ = K1 at *
  generalize decide (have_ = []) = L1 at *
  generalize decide (front = []) = M1 at *
  generalize decide (delta.from_ = []) = N1 at *
  generalize decide (delta.to_ = []) = O1 at *
  generalize decide (delta.events = []) = P1 at *
  generalize decide (dev = 0) = Q1 at *
  generalize decide (epoch = 0) = R1 at *
  generalize decide (slot = 0) = S1 at *
  generalize decide (try_ = 0) = T1 at *
  generalize decide (16 <= slot) = U1 at *
  generalize decide (why = 0) = V1 at *
  generalize decide (why = 1) = W1 at *
  generalize decide (why = 2) = X1 at *
  clear e1 e2 e3;refine congrArg pure ?_;clear h1 h4
  all_goals (cases Q1 <;> try rfl)
  all_goals (cases J1 <;> try rfl)
  all_goals (cases U1 <;> try rfl)
  all_goals (cases K1 <;> try rfl)
  all_goals (cases L1 <;> cases A <;> (try (exact absurd (gh rfl) (by decide))) <;> cases M1 <;> cases B <;> (try (exact absurd (gf rfl) (by decide))))
  all_goals (try rfl)
  all_goals (cases F1 <;> try rfl)
  all_goals (cases N1 <;> try rfl)
  all_goals (cases V1 <;> try rfl)
  all_goals (cases E1 <;> try rfl)
 by_cases k3:kind = 3
 ·subst k3;simp only [Int.reduceEq,Int.reduceLE,Int.reduceLT,decide_true,decide_false,Bool.not_true,Bool.not_false,cond_true,cond_false,zA,zB,vE,wi,xd,vr,vt,xb,eq_self,Bool.true_and,Bool.and_true,Bool.false_and,Bool.and_false,e1,e2,e3]
  generalize xU have_ = A at *
  generalize xU front = B at *
  generalize Uk have_ (C.ZN have_ dev) = D1 at *
  generalize vf front delta.to_ = E1 at *
  generalize xw delta = F1 at *
  generalize (delta.events.zipIdx.all fun y=>!yua delta.events dev y.2 y.1) = G1 at *
  generalize ZQ have_ delta.events = H1 at *
  generalize Ul delta.events = I1 at *
  generalize jd epoch = J1 at *
  generalize jd try_ = K1 at *
  generalize decide (have_ = []) = L1 at *
  generalize decide (front = []) = M1 at *
  generalize decide (delta.from_ = []) = N1 at *
  generalize decide (delta.to_ = []) = O1 at *
  generalize decide (delta.events = []) = P1 at *
  generalize decide (dev = 0) = Q1 at *
  generalize decide (epoch = 0) = R1 at *
  generalize decide (slot = 0) = S1 at *
  generalize decide (try_ = 0) = T1 at *
  generalize decide (16 <= slot) = U1 at *
  generalize decide (why = 0) = V1 at *
  generalize decide (why = 1) = W1 at *
  generalize decide (why = 2) = X1 at *
  clear e1 e2 e3;refine congrArg pure ?_;clear h1 h4
  all_goals (cases S1 <;> try rfl)
  all_goals (cases T1 <;> try rfl)
  all_goals (cases Q1 <;> try rfl)
  all_goals (cases J1 <;> try rfl)
  all_goals (cases L1 <;> cases A <;> (try (exact absurd (gh rfl) (by decide))) <;> cases M1 <;> cases B <;> (try (exact absurd (gf rfl) (by decide))))
  all_goals (try rfl)
  all_goals (cases V1 <;> try rfl)
  all_goals (cases N1 <;> try rfl)
  all_goals (cases O1 <;> try rfl)
  all_goals (cases P1 <;> try rfl)
  all_goals (cases E1 <;> try rfl)
 by_cases k4:kind = 4
 ·subst k4;simp only [Int.reduceEq,Int.reduceLE,Int.reduceLT,decide_true,decide_false,Bool.not_true,Bool.not_false,cond_true,cond_false,zA,zB,vE,wi,xd,vr,vt,xb,eq_self,Bool.true_and,Bool.and_true,Bool.false_and,Bool.and_false,e1,e2,e3]
  generalize xU have_ = A at *
  generalize xU front = B at *
  generalize Uk have_ (C.ZN have_ dev) = D1 at *
  generalize vf front delta.to_ = E1 at *
  generalize xw delta = F1 at *
  generalize (delta.events.zipIdx.all fun y=>!yua delta.events dev y.2 y.1) = G1 at *
  generalize ZQ have_ delta.events = H1 at *
  generalize Ul delta.events = I1 at *
  generalize jd epoch = J1 at *
  generalize jd try_ = K1 at *
  generalize decide (have_ = []) = L1 at *
  generalize decide (front = []) = M1 at *
  generalize decide (delta.from_ = []) = N1 at *
  generalize decide (delta.to_ = []) = O1 at *
  generalize decide (delta.events = []) = P1 at *
  generalize decide (dev = 0) = Q1 at *
  generalize decide (epoch = 0) = R1 at *
  generalize decide (slot = 0) = S1 at *
  generalize decide (try_ = 0) = T1 at *
  generalize decide (16 <= slot) = U1 at *
  generalize decide (why = 0) = V1 at *
  generalize decide (why = 1) = W1 at *
  generalize decide (why = 2) = X1 at *
  clear e1 e2 e3;refine congrArg pure ?_;clear h1 h4
  all_goals (cases S1 <;> try rfl)
  all_goals (cases T1 <;> try rfl)
  all_goals (cases Q1 <;> try rfl)
  all_goals (cases J1 <;> try rfl)
  all_goals (cases L1 <;> cases A <;> (try (exact absurd (gh rfl) (by decide))) <;> cases M1 <;> cases B <;> (try (exact absurd (gf rfl) (by decide))))
  all_goals (try rfl)
  all_goals (cases V1 <;> try rfl)
  all_goals (cases F1 <;> try rfl)
  all_goals (cases E1 <;> try rfl)
 by_cases k5:kind = 5
 ·subst k5;simp only [Int.reduceEq,Int.reduceLE,Int.reduceLT,decide_true,decide_false,Bool.not_true,Bool.not_false,cond_true,cond_false,zA,zB,vE,wi,xd,vr,vt,xb,eq_self,Bool.true_and,Bool.and_true,Bool.false_and,Bool.and_false,e1,e2,e3]
  generalize xU have_ = A at *
  generalize xU front = B at *
  generalize Uk have_ (C.ZN have_ dev) = D1 at *
  generalize vf front delta.to_ = E1 at *
  generalize xw delta = F1 at *
  generalize (delta.events.zipIdx.all fun y=>!yua delta.events dev y.2 y.1) = G1 at *
  generalize ZQ have_ delta.events = H1 at *
  generalize Ul delta.events = I1 at *
  generalize jd epoch = J1 at *
  generalize jd try_ = K1 at *
  generalize decide (have_ = []) = L1 at *
  generalize decide (front = []) = M1 at *
  generalize decide (delta.from_ = []) = N1 at *
  generalize decide (delta.to_ = []) = O1 at *
  generalize decide (delta.events = []) = P1 at *
  generalize decide (dev = 0) = Q1 at *
  generalize decide (epoch = 0) = R1 at *
  generalize decide (slot = 0) = S1 at *
  generalize decide (try_ = 0) = T1 at *
  generalize decide (16 <= slot) = U1 at *
  generalize decide (why = 0) = V1 at *
  generalize decide (why = 1) = W1 at *
  generalize decide (why = 2) = X1 at *
  clear e1 e2 e3;refine congrArg pure ?_;clear h1 h4
  all_goals (cases S1 <;> try rfl)
  all_goals (cases T1 <;> try rfl)
  all_goals (cases Q1 <;> try rfl)
  all_goals (cases J1 <;> try rfl)
  all_goals (cases L1 <;> cases A <;> (try (exact absurd (gh rfl) (by decide))) <;> cases M1 <;> cases B <;> (try (exact absurd (gf rfl) (by decide))))
  all_goals (try rfl)
  all_goals (cases V1 <;> try rfl)
  all_goals (cases D1 <;> try rfl)
  all_goals (cases G1 <;> try rfl)
  all_goals (cases H1 <;> try rfl)
  all_goals (cases I1 <;> try rfl)
  all_goals (cases N1 <;> try rfl)
  all_goals (cases O1 <;> try rfl)
  all_goals (cases E1 <;> try rfl)
 by_cases k6:kind = 6
 ·subst k6;simp only [Int.reduceEq,Int.reduceLE,Int.reduceLT,decide_true,decide_false,Bool.not_true,Bool.not_false,cond_true,cond_false,zA,zB,vE,wi,xd,vr,vt,xb,eq_self,Bool.true_and,Bool.and_true,Bool.false_and,Bool.and_false,e1,e2,e3]
  generalize xU have_ = A at *
  generalize xU front = B at *
  generalize Uk have_ (C.ZN have_ dev) = D1 at *
  generalize vf front delta.to_ = E1 at *
  generalize xw delta = F1 at *
  generalize (delta.events.zipIdx.all fun y=>!yua delta.events dev y.2 y.1) = G1 at *
  generalize ZQ have_ delta.events = H1 at *
  generalize Ul delta.events = I1 at *
  generalize jd epoch = J1 at *
  generalize jd try_ = K1 at *
  generalize decide (have_ = []) = L1 at *
  generalize decide (front = []) = M1 at *
  generalize decide (delta.from_ = []) = N1 at *
  generalize decide (delta.to_ = []) = O1 at *
  generalize decide (delta.events = []) = P1 at *
  generalize decide (dev = 0) = Q1 at *
  generalize decide (epoch = 0) = R1 at *
  generalize decide (slot = 0) = S1 at *
  generalize decide (try_ = 0) = T1 at *
  generalize decide (16 <= slot) = U1 at *
  generalize decide (why = 0) = V1 at *
  generalize decide (why = 1) = W1 at *
  generalize decide (why = 2) = X1 at *
  clear e1 e2 e3;refine congrArg pure ?_;clear h1 h4
  all_goals (cases S1 <;> try rfl)
  all_goals (cases T1 <;> try rfl)
  all_goals (cases Q1 <;> try rfl)
  all_goals (cases J1 <;> try rfl)
  all_goals (cases L1 <;> cases A <;> (try (exact absurd (gh rfl) (by decide))) <;> cases M1 <;> cases B <;> (try (exact absurd (gf rfl) (by decide))))
  all_goals (try rfl)
  all_goals (cases V1 <;> try rfl)
  all_goals (cases D1 <;> try rfl)
  all_goals (cases N1 <;> try rfl)
  all_goals (cases O1 <;> try rfl)
  all_goals (cases P1 <;> try rfl)
  all_goals (cases E1 <;> try rfl)
 by_cases k7:kind = 7
 ·subst k7;simp only [Int.reduceEq,Int.reduceLE,Int.reduceLT,decide_true,decide_false,Bool.not_true,Bool.not_false,cond_true,cond_false,zA,zB,vE,wi,xd,vr,vt,xb,eq_self,Bool.true_and,Bool.and_true,Bool.false_and,Bool.and_false,e1,e2,e3]
  generalize xU have_ = A at *
  generalize xU front = B at *
  generalize Uk have_ (C.ZN have_ dev) = D1 at *
  generalize vf front delta.to_ = E1 at *
  generalize xw delta = F1 at *
  generalize (delta.events.zipIdx.all fun y=>!yua delta.events dev y.2 y.1) = G1 at *
  generalize ZQ have_ delta.events = H1 at *
  generalize Ul delta.events = I1 at *
  generalize jd epoch = J1 at *
  generalize jd try_ = K1 at *
  generalize decide (have_ = []) = L1 at *
  generalize decide (front = []) = M1 at *
  generalize decide (delta.from_ = []) = N1 at *
  generalize decide (delta.to_ = []) = O1 at *
  generalize decide (delta.events = []) = P1 at *
  generalize decide (dev = 0) = Q1 at *
  generalize decide (epoch = 0) = R1 at *
  generalize decide (slot = 0) = S1 at *
  generalize decide (try_ = 0) = T1 at *
  generalize decide (16 <= slot) = U1 at *
  generalize decide (why = 0) = V1 at *
  generalize decide (why = 1) = W1 at *
  generalize decide (why = 2) = X1 at *
  clear e1 e2 e3;refine congrArg pure ?_;clear h1 h4
  all_goals (cases S1 <;> try rfl)
  all_goals (cases T1 <;> try rfl)
  all_goals (cases Q1 <;> try rfl)
  all_goals (cases J1 <;> try rfl)
  all_goals (cases L1 <;> cases A <;> (try (exact absurd (gh rfl) (by decide))) <;> cases M1 <;> cases B <;> (try (exact absurd (gf rfl) (by decide))))
  all_goals (try rfl)
  all_goals (cases V1 <;> try rfl)
  all_goals (cases N1 <;> try rfl)
  all_goals (cases O1 <;> try rfl)
  all_goals (cases P1 <;> try rfl)
  all_goals (cases E1 <;> try rfl)
 by_cases k8:kind = 8
 ·subst k8;simp only [Int.reduceEq,Int.reduceLE,Int.reduceLT,decide_true,decide_false,Bool.not_true,Bool.not_false,cond_true,cond_false,zA,zB,vE,wi,xd,vr,vt,xb,eq_self,Bool.true_and,Bool.and_true,Bool.false_and,Bool.and_false,e1,e2,e3]
  generalize xU have_ = A at *
  generalize xU front = B at *
  generalize Uk have_ (C.ZN have_ dev) = D1 at *
  generalize vf front delta.to_ = E1 at *
  generalize xw delta = F1 at *
  generalize (delta.events.zipIdx.all fun y=>!yua delta.events dev y.2 y.1) = G1 at *
  generalize ZQ have_ delta.events = H1 at *
  generalize Ul delta.events = I1 at *
  generalize jd epoch = J1 at *
  generalize jd try_ = K1 at *
  generalize decide (have_ = []) = L1 at *
  generalize decide (front = []) = M1 at *
  generalize decide (delta.from_ = []) = N1 at *
  generalize decide (delta.to_ = []) = O1 at *
  generalize decide (delta.events = []) = P1 at *
  generalize decide (dev = 0) = Q1 at *
  generalize decide (epoch = 0) = R1 at *
  generalize decide (slot = 0) = S1 at *
  generalize decide (try_ = 0) = T1 at *
  generalize decide (16 <= slot) = U1 at *
  generalize decide (why = 0) = V1 at *
  generalize decide (why = 1) = W1 at *
  generalize decide (why = 2) = X1 at *
  clear e1 e2 e3;refine congrArg pure ?_;clear h1 h4
  all_goals (cases S1 <;> try rfl)
  all_goals (cases T1 <;> try rfl)
  all_goals (cases Q1 <;> try rfl)
  all_goals (cases J1 <;> try rfl)
  all_goals (cases L1 <;> cases A <;> (try (exact absurd (gh rfl) (by decide))) <;> cases M1 <;> cases B <;> (try (exact absurd (gf rfl) (by decide))))
  all_goals (try rfl)
  all_goals (cases V1 <;> try rfl)
  all_goals (cases N1 <;> try rfl)
  all_goals (cases O1 <;> try rfl)
  all_goals (cases P1 <;> try rfl)
  all_goals (cases E1 <;> try rfl)
 by_cases k9:kind = 9
 ·subst k9;simp only [Int.reduceEq,Int.reduceLE,Int.reduceLT,decide_true,decide_false,Bool.not_true,Bool.not_false,cond_true,cond_false,zA,zB,vE,wi,xd,vr,vt,xb,eq_self,Bool.true_and,Bool.and_true,Bool.false_and,Bool.and_false,e1,e2,e3]
  generalize xU have_ = A at *
  generalize xU front = B at *
  generalize Uk have_ (C.ZN have_ dev) = D1 at *
  generalize vf front delta.to_ = E1 at *
  generalize xw delta = F1 at *
  generalize (delta.events.zipIdx.all fun y=>!yua delta.events dev y.2 y.1) = G1 at *
  generalize ZQ have_ delta.events = H1 at *
  generalize Ul delta.events = I1 at *
  generalize jd epoch = J1 at *
  generalize jd try_ = K1 at *
  generalize decide (have_ = []) = L1 at *
  generalize decide (front = []) = M1 at *
  generalize decide (delta.from_ = []) = N1 at *
  generalize decide (delta.to_ = []) = O1 at *
  generalize decide (delta.events = []) = P1 at *
  generalize decide (dev = 0) = Q1 at *
  generalize decide (epoch = 0) = R1 at *
  generalize decide (slot = 0) = S1 at *
  generalize decide (try_ = 0) = T1 at *
  generalize decide (16 <= slot) = U1 at *
  generalize decide (why = 0) = V1 at *
  generalize decide (why = 1) = W1 at *
  generalize decide (why = 2) = X1 at *
  clear e1 e2 e3;refine congrArg pure ?_;clear h1 h4
  all_goals (cases S1 <;> try rfl)
  all_goals (cases T1 <;> try rfl)
  all_goals (cases Q1 <;> try rfl)
  all_goals (cases J1 <;> try rfl)
  all_goals (cases L1 <;> cases A <;> (try (exact absurd (gh rfl) (by decide))) <;> cases M1 <;> cases B <;> (try (exact absurd (gf rfl) (by decide))))
  all_goals (try rfl)
  all_goals (cases W1 <;> try rfl)
  all_goals (cases X1 <;> try rfl)
  all_goals (cases N1 <;> try rfl)
  all_goals (cases O1 <;> try rfl)
  all_goals (cases P1 <;> try rfl)
  all_goals (cases E1 <;> try rfl)
 have k0:decide (kind < 1) = true \/ decide (kind < 1) = false /\ decide (9 < kind) = true:=by
  simp only [decide_eq_true_eq,decide_eq_false_iff_not];omega
 simp only [decide_eq_false k1,decide_eq_false k2,decide_eq_false k3,decide_eq_false k4,decide_eq_false k5,decide_eq_false k6,decide_eq_false k7,decide_eq_false k8,decide_eq_false k9,Int.reduceEq,Int.reduceLE,Int.reduceLT,decide_true,decide_false,Bool.not_true,Bool.not_false,cond_true,cond_false,zA,zB,vE,wi,xd,vr,vt,xb,eq_self,Bool.true_and,Bool.and_true,Bool.false_and,Bool.and_false,e1,e2,e3];rcases k0 with k0 | ⟨k0,k10⟩
 ·rw [k0]
  cases decide (dev = 0) <;> cases jd epoch <;> rfl
 ·rw [k0,k10]
  cases decide (dev = 0) <;> cases jd epoch <;> rfl

def fewC (c:List PT):Bool:=decide (c.length <= 30) && c.all fun p=>decide (p.runs.length <= 30)
def fewM (m:TMsg):Bool:=fewC m.have_ && (fewC m.front && (fewC m.delta.from_ && (fewC m.delta.to_ && E.fewE m.delta.events 30)))
structure InM (m:TMsg):Prop where
 kind:0 <= m.kind /\ m.kind <= 255
 slot:0 <= m.slot /\ m.slot <= 255
 dev:0 <= m.dev /\ m.dev <= 65535
 why:0 <= m.why /\ m.why <= 255
 have_:∀ p ∈ m.have_,0 <= p.dev
 front:∀ p ∈ m.front,0 <= p.dev
 from_:∀ p ∈ m.delta.from_,0 <= p.dev
 to_:∀ p ∈ m.delta.to_,0 <= p.dev
 evs:∀ e ∈ m.delta.events,e.kills.length <= 300 /\ e.text.size <= 200 -> OkE e
theorem okM {m:TMsg} (h:InM m) (hf:fewM m = true):OkM m:=by
 unfold fewM at hf;simp only [Bool.and_eq_true] at hf;obtain ⟨f1,f2,f3,f4,f5⟩:=hf;obtain ⟨g1,g2⟩:=E.few_mem f5;have t:=C.zKa f1;exact ⟨h.kind,h.slot,h.dev,h.why,C.wia h.have_ t,C.wia h.front (C.zKa f2),⟨C.wia h.from_ (C.zKa f3),C.wia h.to_ (C.zKa f4),fun e he=>h.evs e he (g2 e he),by omega,fun e he=>(g2 e he).1⟩,by omega⟩
theorem Zda {m:TMsg} (h:OkM m):∃ b,ud m = pure b:=by
 obtain ⟨h1,h2,h3,h4,h5,h6,h7,h8⟩:=h;have hev:∀ e ∈ m.delta.events,OkE e:=h7.evs;unfold ud;simp only [qy,Zq h7,w9a hev h7.len,Jm h7.len h5,vAa,C.vO _ h5,C.vO _ h6,C.wha _ _ h3.1 h5,C.Zi _ _ h5 (x1a h5 h8 h3.1),C.Uc _ _ h6 h7.to_,zB,zA,xb,xd];exact ⟨_,rfl⟩
end Go.Ep.M.F

namespace Go.Ep.M.G
open Go
open E (OkE yN UJ)
open F (WW zw ve)

def ent (e:EV):DT × EV:=(e.dot,e)
theorem mem_ent {l:List EV} {k:DT × EV}:k ∈ l.map ent ↔ k.2 ∈ l /\ k.1 = k.2.dot:=by
 rw [List.mem_map]
 constructor
 ·rintro ⟨e,h,rfl⟩;exact ⟨h,rfl⟩
 ·rintro ⟨h1,h2⟩;exact ⟨k.2,h1,by unfold ent;rw [<- h2]⟩
def Holds (m:List (DT × EV)) (l:List EV):Prop:=m.Perm (l.map ent)
theorem Holds.mem {m:List (DT × EV)} {l:List EV} (h:Holds m l) {k:DT × EV}:k ∈ m ↔ k.2 ∈ l /\ k.1 = k.2.dot:=by rw [h.mem_iff,mem_ent]
theorem Holds.len {m:List (DT × EV)} {l:List EV} (h:Holds m l):m.length = l.length:=by rw [h.length_eq,List.length_map]
open E (OkE yN UJ)
open F (WW zw ve uU)

section
variable {κ ν:Type} [DecidableEq κ]
end
theorem vwa {e:EV} (h:yN e = true):e.kills.length <= 256 /\ D.Srt e.kills /\ ∀ d ∈ e.kills,V.yZ d = true /\ d ≠ e.dot:=by
 simp only [yN,E.xxa,Bool.and_eq_true,decide_eq_true_eq,List.all_eq_true,Bool.not_eq_true',decide_eq_false_iff_not] at h;exact ⟨h.2.2.1,D.wya.1 h.2.2.2.1,fun d hd=>h.2.2.2.2 d hd⟩
open E (OkE yN UJ)
open F (WW zw ve uU)

def liveL (L:List EV):List EV:=L.filter fun e=>decide (e.kind = 1)
def tombL (L:List EV):List EV:=L.filter fun e=>decide (e.kind = 2)
structure Rep (n:Nat) (W c xc:List PT) (nl1:Bool) (m1:List (DT × EV)) (nl2:Bool) (m2:List (DT × EV)) (L:List EV):Prop where
 ctx:c = C.yC W
 xctx:∀ k n,C.wV xc k n = C.wV W k n
 xok:C.Ok xc
 live:Holds m1 (liveL L)
 tomb:Holds m2 (tombL L)
 n1:nl1 = true -> m1 = []
 n2:nl2 = true -> m2 = []
 srt:UJ L
 good:∀ e ∈ L,yN e = true /\ OkE e
 dots:∀ d ∈ zw L,C.wV W d.dev d.n = true
 alive:∀ e ∈ L,e.kind = 1 -> uU L e.dot = false
 wl:W.length <= n
 wt:C.yf W <= n
 ll:L.length <= n
theorem ok_normW {W:List PT} (h1:W.length <= 400000000) (h2:C.yf W <= 400000000):C.Ok (C.yC W):=
 ⟨fun p hp=>by have:=((C.YL W).nf p hp).1;omega,by have:=C.Xa W;omega,by have:=C.Xb W;omega⟩
section
variable {n:Nat} {W c xc:List PT} {nl1:Bool} {m1:List (DT × EV)} {nl2:Bool} {m2:List (DT × EV)} {L:List EV}
theorem Rep.mono (hR:Rep n W c xc nl1 m1 nl2 m2 L) {k:Nat} (h:n <= k):Rep k W c xc nl1 m1 nl2 m2 L:=
 { hR with wl:=Nat.le_trans hR.wl h,wt:=Nat.le_trans hR.wt h,ll:=Nat.le_trans hR.ll h }
theorem Rep.okc (hR:Rep n W c xc nl1 m1 nl2 m2 L) (hn:n <= 100000000):C.Ok c:=by
 rw [hR.ctx];exact ok_normW (by have:=hR.wl;omega) (by have:=hR.wt;omega)
theorem Rep.has (hR:Rep n W c xc nl1 m1 nl2 m2 L) (hn:n <= 100000000) (d:DT):Wp c d = pure (C.wV W d.dev d.n):=by
 rw [C.qp c d (hR.okc hn).sm,hR.ctx,C.YK]
end

open E (OkE yN UJ)
open F (WW zw ve uU)

section
variable {n:Nat} {W c xc:List PT} {nl1:Bool} {m1:List (DT × EV)} {nl2:Bool} {m2:List (DT × EV)} {L:List EV}
theorem Rep.kl (hR:Rep n W c xc nl1 m1 nl2 m2 L):∀ e ∈ L,e.kills.length <= 256:=fun e he=>(vwa (hR.good e he).1).1
end

open E (OkE yN UJ)
open F (WW zw ve uU)

section
variable {n:Nat} {W c xc:List PT} {nl1:Bool} {m1:List (DT × EV)} {nl2:Bool} {m2:List (DT × EV)} {L:List EV}
end

open E (OkE yN UJ)
open F (WW zw ve uU)

section
variable {n:Nat} {W c xc:List PT} {nl1:Bool} {m1:List (DT × EV)} {nl2:Bool} {m2:List (DT × EV)} {L:List EV}
def ofL (L:List EV) (cid:Int):List EV:=(liveL L).filter fun x=>decide (x.cid = cid)
end
open E (OkE yN UJ)
open F (WW zw ve uU)

def exB : EV:=⟨⟨1,2⟩,2,281474976710657,0,⟨#[]⟩,[]⟩
theorem okB : OkE exB:=⟨⟨by decide,by decide,by decide,by decide⟩,by decide,by decide,by decide,by decide,(fun d hd=>nomatch hd),by decide⟩
open E (OkE yN UJ)
open F (WW zw ve uU uH vua)

open E (OkE yN UJ)
open F (WW zw ve uU uH vua)

section
variable {n:Nat} {W c xc:List PT} {nl1:Bool} {m1:List (DT × EV)} {nl2:Bool} {m2:List (DT × EV)} {L:List EV}
end
open E (OkE yN UJ)
open F (WW zw ve uU)

section
variable {n:Nat} {W c xc:List PT} {nl1:Bool} {m1:List (DT × EV)} {nl2:Bool} {m2:List (DT × EV)} {L:List EV}
end
section
variable {n:Nat} {W c xc:List PT} {nl1:Bool} {m1:List (DT × EV)} {nl2:Bool} {m2:List (DT × EV)} {L:List EV}
end
open E (OkE yN UJ)
open F (WW zw ve uU xw OkD)

section
variable {n:Nat} {W c xc:List PT} {nl1:Bool} {m1:List (DT × EV)} {nl2:Bool} {m2:List (DT × EV)} {L:List EV}
end
section
variable {n:Nat} {W c xc:List PT} {nl1:Bool} {m1:List (DT × EV)} {nl2:Bool} {m2:List (DT × EV)} {L:List EV}
end

open E (OkE yN UJ)
open F (WW zw ve uU xw OkD)

structure InD (d:DL):Prop where
 from_:∀ p ∈ d.from_,0 <= p.dev
 to_:∀ p ∈ d.to_,0 <= p.dev
 evs:∀ e ∈ d.events,e.kills.length <= 300 /\ e.text.size <= 200 -> OkE e
section
variable {n:Nat} {W c xc:List PT} {nl1:Bool} {m1:List (DT × EV)} {nl2:Bool} {m2:List (DT × EV)} {L:List EV}
end
open E (OkE yN UJ XP)
open D (qK)
open F (WW zw ve uU xw OkD)

theorem xR {c:List PT} (h:∀ p ∈ c,p.dev <= 65535) (h1:c.length <= 1000000) (h2:C.yf c <= 1000000):(qK c).length <= 60000000:=by
 have hn:=C.Xa c;have ht:=C.Xb c;have hl:=D.wpa (D.zSa h) (by omega) (by omega);rw [qK];omega
section
variable {n:Nat} {W c xc:List PT} {nl1:Bool} {m1:List (DT × EV)} {nl2:Bool} {m2:List (DT × EV)} {L:List EV}
end
open E (OkE yN UJ XP XQ)
open D (qK vQ WS fin)
open F (WW zw ve uU xw OkD)
open N (RS zba Sim OkB)

theorem vBa (v:Int):1 <= (N.vB v).length:=by unfold N.vB N.v0a;simp
theorem vCa : ∀ c:List PT,c.length + C.yf c <= (c.flatMap D.ZFa).length
 | []=>by simp [C.yf]
 | p :: r=>by
  have h1:=vCa r;have h2:=vBa p.dev;have h3:p.runs.length <= (p.runs.flatMap D.vja).length:=by
   generalize p.runs = l
   induction l with
   | nil=>simp
   | cons x l ih=>
    have:=vBa x.lo;rw [List.flatMap_cons,List.length_append,List.length_cons,D.vja,List.length_append];omega
  have h4:C.yf (p :: r) = p.runs.length + C.yf r:=by simp [C.yf]
  rw [List.flatMap_cons,List.length_append,List.length_cons,D.ZFa,List.length_append,List.length_append];omega
theorem vDa : ∀ l:List EV,l.length <= (l.flatMap E.yga).length
 | []=>by simp
 | e :: r=>by
  have h1:=vDa r;have h2:1 <= (E.yga e).length:=by
   unfold E.yga;simp only [List.length_append,List.length_cons];omega
  rw [List.flatMap_cons,List.length_append,List.length_cons];omega
theorem Xm {s:RS} (hO:N.Ok s):(vQ s).1.length + C.yf (vQ s).1 <= s.1.length /\ (vQ s).2.1.length <= s.1.length:=by
 obtain ⟨h1,_,_,h4,h5⟩:=D.yE hO
 by_cases c:(vQ s).2.2 = 0
 ·have h6:=D.ctx_inv hO c;have h7:=congrArg List.length h6;rw [List.length_append,qK,<- h5 c,D.v0a,List.length_append] at h7;have:=vCa (vQ s).1;omega
 ·rw [h4 c,h1.nil c];simp [C.yf]
theorem yna {s:RS} (hO:N.Ok s) (m:Int):(XQ m s).1.length <= s.1.length:=by
 obtain ⟨_,_,_,h4,h5⟩:=E.UF hO m
 by_cases c:(XQ m s).2.2 = 0
 ·have h7:=congrArg List.length (h4 c).1;rw [List.length_append,XP,List.length_append] at h7;have:=vDa (XQ m s).1;omega
 ·rw [h5 c];simp
theorem vEa {e:EV} (h:yN e = true):e.kills.length <= 256:=by
 simp only [yN,E.xxa,Bool.and_eq_true,decide_eq_true_eq] at h;exact h.2.2.1
def UH (s:RS):DL:=⟨(vQ s).1,(vQ (vQ s).2).1,(XQ 4096 (vQ (vQ s).2).2).1⟩
def vFa (s:RS):RS:=WS (!xw (UH s)) (XQ 4096 (vQ (vQ s).2).2).2
def ZR (s:RS):DL × RS:=fin ⟨[],[],[]⟩ (UH s) (vFa s)
theorem Jo {s:RS} (hO:N.Ok s) (hl:s.1.length <= 500000):OkD (UH s):=by
 obtain ⟨a1,a2,a3,_,_⟩:=D.yE hO;obtain ⟨b1,b2,b3,_,_⟩:=D.yE a1;obtain ⟨_,c2,_,_,_⟩:=E.UF b1 4096;have s1:=Xm hO;have s2:=Xm a1;have s3:=yna b1 4096;exact ⟨D.yaa a2 a3,D.yaa b2 b3,fun e he=>(c2 e he).1,by show (XQ 4096 _).1.length <= _;omega,fun e he=>by have:=vEa (c2 e he).2;omega⟩
theorem yoa {s:RS} (hO:N.Ok s) (hl:s.1.length <= 500000):OkD (ZR s).1:=by
 unfold ZR fin
 split
 ·exact ⟨C.ok_nil,C.ok_nil,(fun e he=>by cases he),by simp,(fun e he=>by cases he)⟩
 ·exact Jo hO hl
theorem vGa {s:RS} (hO:N.Ok s) (hl:s.1.length <= 500000):vJ s.1 s.2 = pure (ZR s):=by
 obtain ⟨a1,_⟩:=D.yE hO;obtain ⟨b1,_⟩:=D.yE a1;have hg:vU ⟨(vQ s).1,(vQ (vQ s).2).1,(XQ 4096 (vQ (vQ s).2).2).1⟩ = pure (xw (UH s)):=F.UG (Jo hO hl);unfold vJ;rw [D.wxa hO,zB,zA,D.wxa a1,zB,zA,E.yja b1 (by omega),zB,zA,hg,zB,zA,D.zTa,zA];exact D.xsa ⟨[],[],[]⟩ (UH s) (vFa s)
theorem ypa {B:List Int} {a:Int} {s:RS} (hB:OkB B) (hO:N.Ok s) (h:Sim B a s) (hl:s.1.length <= 500000):∃ a',Ym B a s.2 = pure ((ZR s).1,B,a',(ZR s).2.2) /\ Sim B a' (ZR s).2:=by
 obtain ⟨o1,_⟩:=D.yE hO;obtain ⟨o2,_⟩:=D.yE o1;obtain ⟨a1,e1,s1⟩:=D.zXa hB hO h;obtain ⟨a2,e2,s2⟩:=D.zXa hB o1 s1;obtain ⟨a3,e3,s3⟩:=E.qw hB o2 s2 (most:=4096) (by omega);have e5:=D.Je (XQ 4096 (vQ (vQ s).2).2).2.2 (M.bind (M.det (Zf (UH s))) fun v=>M.pure (!v)) (!xw (UH s)) (by rw [F.Zq (Jo hO hl),zB,zA]);have e4:=D.Uh B a3 (decide ((XQ 4096 (vQ (vQ s).2).2).2.2 = 0) && !xw (UH s)) (XQ 4096 (vQ (vQ s).2).2).2;rw [D.Vz] at e4;refine ⟨a3,?_,by show Sim B a3 (fin _ _ _).2;rw [D.YN];exact D.WT s3 _⟩;unfold Ym;rw [e1,zB,zA,e2,zB,zA,e3,zB,zA];show M.bind (cond (decide ((XQ 4096 (vQ (vQ s).2).2).2.2 = 0)) (M.bind (M.det (Zf (UH s))) fun v=>M.pure (!v)) (M.pure false)) _ = _;rw [e5,zA,e4,zA];show cond (!decide ((vFa s).2 = 0)) _ _ = _;unfold ZR fin
 by_cases c:(vFa s).2 = 0
 ·rw [decide_eq_true c,Bool.not_true,cond_false,if_neg (by simp [c])];rfl
 ·rw [decide_eq_false c,Bool.not_false,cond_true,if_pos c];rfl
theorem same20 {d:DL} (h:OkD d):Va d d = pure true:=by
 unfold Va;rw [C.Zi _ _ h.from_ h.from_,zB,zA,decide_eq_true rfl,cond_true,C.Zi _ _ h.to_ h.to_,zB,zA,decide_eq_true rfl,cond_true,E.rAll_eq _ _ (by have:=h.len;omega) (fun e he=>by have:=h.kills e he;omega),zB,zA,decide_eq_true rfl,zA]
open E (OkE yN UJ XP XQ)
open D (qK vQ WS fin)
open F (WW zw ve uU xw OkD uH)
open N (RS zba Sim OkB)

section
variable {n:Nat} {W c xc:List PT} {nl1:Bool} {m1:List (DT × EV)} {nl2:Bool} {m2:List (DT × EV)} {L:List EV}
end
open E (OkE yN UJ)
open F (WW zw ve)

def hD (e:EV) (k n:Int):Bool:=C.wV (C.dotsC (ve [e])) k n
structure Past (P:List EV) (W:List PT) (L:List EV):Prop where
 has:∀ k n,C.wV W k n = true ↔ ∃ e ∈ P,yN e = true /\ hD e k n = true
 mem:∀ x,x ∈ L ↔ x ∈ P /\ yN x = true /\ ∀ f ∈ P,yN f = true -> x.dot ∉ f.kills
 srt:UJ L
open E (OkE yN UJ)
open F (WW zw ve)

open E (OkE yN UJ)
open F (WW zw ve)

structure InK (K:List DT) (n:Nat) (v:List EV):Prop where
 srt:UJ v
 len:v.length = n
 ok:∀ e ∈ v,OkE e
 kl:∀ e ∈ v,e.kills.length <= 4000
 sub:∀ e ∈ v,∀ d ∈ e.kills,d ∈ K
open E (OkE yN UJ)
open F (WW zw ve)
end Go.Ep.M.G

namespace Go.Ep.M.U
open Go
def C (b:BitVec 32):Int:=(b.toNat:Int)
theorem C_lt (b:BitVec 32):0 <= C b /\ C b < 4294967296:=⟨by unfold C;omega,by have:=b.isLt;unfold C;omega⟩
theorem wU32 {n:Int} (h:0 <= n) (h':n < 4294967296):IntKind.u32.wrap n = n:=by simp [IntKind.wrap,IntKind.bits,IntKind.signed];omega
theorem ofC (b:BitVec 32):BitVec.ofInt 32 (C b) = b:=by unfold C;rw [BitVec.ofInt_natCast];simp
theorem C_of {n:Int} (h:0 <= n) (h':n < 4294967296):C (BitVec.ofInt 32 n) = n:=by
 unfold C;rw [BitVec.toNat_ofInt];omega
theorem xorC (a b:BitVec 32):VI .u32 (C a) (C b) = C (a ^^^ b):=by
 show IntKind.u32.wrap (((BitVec.ofInt 32 (C a) ^^^ BitVec.ofInt 32 (C b)).toNat:Nat):Int) = _;rw [ofC,ofC];exact wU32 (C_lt _).1 (C_lt _).2
theorem andC (a b:BitVec 32):ysa .u32 (C a) (C b) = C (a &&& b):=by
 show IntKind.u32.wrap (((BitVec.ofInt 32 (C a) &&& BitVec.ofInt 32 (C b)).toNat:Nat):Int) = _;rw [ofC,ofC];exact wU32 (C_lt _).1 (C_lt _).2
theorem shrC (a:BitVec 32) (k:Nat):Int.fdiv (C a) ((2 ^ k:Nat):Int) = C (a >>> k):=by
 unfold C;rw [BitVec.toNat_ushiftRight,Nat.shiftRight_eq_div_pow,Int.fdiv_eq_ediv_of_nonneg _ (Int.natCast_nonneg _)]
 rfl
theorem fdiv16 (a:BitVec 32):Int.fdiv (C a) (2 ^ 4) = C (a >>> 4):=shrC a 4
def s1 (c:BitVec 32):BitVec 32:=(c >>> 1) ^^^ (if c.getLsbD 0 then 0xedb88320#32 else 0#32)
def s4 (c:BitVec 32):BitVec 32:=s1 (s1 (s1 (s1 c)))
theorem x4 (a b p q:BitVec 32):(a ^^^ b) ^^^ (p ^^^ q) = (a ^^^ p) ^^^ (b ^^^ q):=by
 rw [BitVec.xor_assoc,BitVec.xor_assoc,<- BitVec.xor_assoc b p q,BitVec.xor_comm b p,BitVec.xor_assoc p b q]
theorem s1_xor (a b:BitVec 32):s1 (a ^^^ b) = s1 a ^^^ s1 b:=by
 unfold s1;rw [BitVec.getLsbD_xor,BitVec.ushiftRight_xor_distrib];have r:∀ x y z:BitVec 32,x ^^^ y ^^^ z = x ^^^ z ^^^ y:=fun x y z=>by rw [BitVec.xor_assoc,BitVec.xor_comm y,<- BitVec.xor_assoc]
 cases a.getLsbD 0 <;> cases b.getLsbD 0
 ·simp
 ·simp [BitVec.xor_assoc]
 ·simp [r]
 ·have:=x4 (a >>> 1) (b >>> 1) 0xedb88320#32 0xedb88320#32;simpa using this
theorem s4_xor (a b:BitVec 32):s4 (a ^^^ b) = s4 a ^^^ s4 b:=by unfold s4;simp only [s1_xor]
theorem zYa {c:BitVec 32} (h:c.getLsbD 0 = false):s1 c = c >>> 1:=by unfold s1;rw [h];simp
theorem split16 (c:BitVec 32):c = (c &&& 0xfffffff0#32) ^^^ (c &&& 15#32):=by
 apply BitVec.eq_of_getLsbD_eq;intro i hi;rw [BitVec.getLsbD_xor,BitVec.getLsbD_and,BitVec.getLsbD_and];have h:∀ j:Fin 32,((0xfffffff0#32:BitVec 32).getLsbD j ^^ (15#32:BitVec 32).getLsbD j) = true:=by decide
 have:=h ⟨i,hi⟩;simp only at this
 cases c.getLsbD i <;> simp_all
theorem s4_hi (c:BitVec 32):s4 (c &&& 0xfffffff0#32) = c >>> 4:=by
 have hb:∀ i,i < 4 -> (c &&& 0xfffffff0#32).getLsbD i = false:=fun i hi=>by
  rw [BitVec.getLsbD_and];have h:∀ j:Fin 4,(0xfffffff0#32:BitVec 32).getLsbD j = false:=by decide
  rw [h ⟨i,hi⟩,Bool.and_false]
 have e:(c &&& 0xfffffff0#32) >>> 4 = c >>> 4:=by
  apply BitVec.eq_of_getLsbD_eq;intro i hi;rw [BitVec.getLsbD_ushiftRight,BitVec.getLsbD_ushiftRight,BitVec.getLsbD_and]
  by_cases h4:4 + i < 32
  ·have h:∀ j:Fin 28,(0xfffffff0#32:BitVec 32).getLsbD (4 + j) = true:=by decide
   rw [show (0xfffffff0#32:BitVec 32).getLsbD (4 + i) = true from h ⟨i,by omega⟩,Bool.and_true]
  ·rw [BitVec.getLsbD_of_ge c _ (by omega),Bool.false_and]
 generalize c &&& 0xfffffff0#32 = d at hb e ⊢
 have h1:s1 d = d >>> 1:=zYa (hb 0 (by omega));have h2:s1 (d >>> 1) = d >>> 2:=by rw [zYa (by rw [BitVec.getLsbD_ushiftRight];exact hb 1 (by omega)),<- BitVec.shiftRight_add]
 have h3:s1 (d >>> 2) = d >>> 3:=by rw [zYa (by rw [BitVec.getLsbD_ushiftRight];exact hb 2 (by omega)),<- BitVec.shiftRight_add]
 have h4:s1 (d >>> 3) = d >>> 4:=by rw [zYa (by rw [BitVec.getLsbD_ushiftRight];exact hb 3 (by omega)),<- BitVec.shiftRight_add]
 unfold s4;rw [h1,h2,h3,h4,e]
theorem s4_eq (c:BitVec 32):s4 c = (c >>> 4) ^^^ s4 (c &&& 15#32):=by
 conv=>lhs;rw [split16 c]
 rw [s4_xor,s4_hi]
def s8 (c x:BitVec 32):BitVec 32:=s4 (s4 (c ^^^ x))
theorem and15 (c:BitVec 32):(c &&& 15#32).toNat < 16:=by
 have h:(c &&& 15#32).toNat <= 15:=by rw [BitVec.toNat_and];exact Nat.and_le_right
 omega
theorem tab_get (c:BitVec 32):tabG.getD (Int.toNat (C (c &&& 15#32))) 0 = C (s4 (c &&& 15#32)):=by
 have h:∀ j:Fin 16,tabG.getD j 0 = C (s4 (BitVec.ofNat 32 j)):=by decide
 have h2:=h ⟨(c &&& 15#32).toNat,and15 c⟩;have e:BitVec.ofNat 32 (c &&& 15#32).toNat = c &&& 15#32:=by simp
 rw [show Int.toNat (C (c &&& 15#32)) = (c &&& 15#32).toNat from by unfold C;omega,h2,e]
theorem byte_eq (c x:BitVec 32) (hx:x.toNat < 256) :
  s4 ((s4 ((c ^^^ x) &&& 15#32) ^^^ (c >>> 4) ^^^ (x >>> 4)) &&& 15#32) ^^^ ((s4 ((c ^^^ x) &&& 15#32) ^^^ (c >>> 4)) >>> 4) = s8 c x:=by
 have h0:(x >>> 4) >>> 4 = 0#32:=by
  rw [<- BitVec.shiftRight_add];apply BitVec.eq_of_toNat_eq;rw [BitVec.toNat_ushiftRight,Nat.shiftRight_eq_div_pow];exact Nat.div_eq_of_lt hx
 have e:s4 (c ^^^ x) = s4 ((c ^^^ x) &&& 15#32) ^^^ (c >>> 4) ^^^ (x >>> 4):=by
  rw [s4_eq (c ^^^ x),BitVec.ushiftRight_xor_distrib,BitVec.xor_comm,BitVec.xor_assoc]
 show _ = s4 (s4 (c ^^^ x));rw [e,s4_eq (_ ^^^ (x >>> 4)),BitVec.ushiftRight_xor_distrib _ (x >>> 4),h0,BitVec.xor_zero,BitVec.xor_comm]
theorem c15 : (15:Int) = C 15#32:=rfl
def v1a (c:BitVec 32) (l:List Int):BitVec 32:=l.foldl (fun c x=>s8 c (BitVec.ofInt 32 x)) c
def okB (l:List Int):Prop:=∀ x ∈ l,0 <= x /\ x < 256
theorem ofB_lt {x:Int} (h:0 <= x /\ x < 256):(BitVec.ofInt 32 x).toNat < 256:=by
 have:=C_of (n:=x) h.1 (by omega);unfold C at this;omega
theorem idxOk (c:BitVec 32):(0:Int) <= C (c &&& 15#32) /\ C (c &&& 15#32) < ((16:Nat):Int):=⟨(C_lt _).1,by have:=and15 c;unfold C;omega⟩
theorem x2a (l:List Int) (hl:l.length <= 1000000000000) (ho:okB l) (c:BitVec 32):WC (C c) l = pure (C (0xffffffff#32 ^^^ v1a (0xffffffff#32 ^^^ c) l)):=by
 unfold WC;have e:(4294967295:Int) = C 0xffffffff#32:=rfl;rw [e,xorC];have key:∀ k i (c:BitVec 32),i + k = l.length -> loop (ju l) (C c,(i:Int)) = pure (C (v1a c (l.drop i))):=by
  intro k
  induction k with
  | zero=>
   intro i c hi;rw [zP (r:=C c)]
   ·rw [List.drop_of_length_le (by omega)];rfl
   ·show cond (decide ((i:Int) < (l.length:Int))) _ _ = _;rw [decide_eq_false (by omega)];rfl
  | succ k ih=>
   intro i c hi;have hlt:i < l.length:=by omega
   have hx:=ho _ (List.getElem_mem hlt);rw [zW (s':=(C (s8 c (BitVec.ofInt 32 l[i])),((i + 1:Nat):Int)))]
   ·rw [ih (i + 1) _ (by omega),List.drop_eq_getElem_cons hlt];rfl
   ·show cond (decide ((i:Int) < (l.length:Int))) _ _ = _;rw [decide_eq_true (by omega)];show (M.idx l (i:Int)).bind _ = _;rw [zN (List.getElem?_eq_getElem hlt)];have ex:IntKind.u32.wrap l[i] = C (BitVec.ofInt 32 l[i]):=by rw [C_of hx.1 (by omega)];exact wU32 hx.1 (by omega)
    have ex4:IntKind.u32.wrap (Int.fdiv l[i] (2 ^ 4)) = C ((BitVec.ofInt 32 l[i]) >>> 4):=by
     rw [<- fdiv16,C_of hx.1 (by omega)];have:Int.fdiv l[i] (2 ^ 4) = l[i] / 16:=Int.fdiv_eq_ediv_of_nonneg _ (by omega);rw [this];exact wU32 (by omega) (by omega)
    have ei:IntKind.i64.wrap ((i:Int) + 1) = ((i + 1:Nat):Int):=by rw [uJ (by omega) (by omega)];omega
    rw [zA];simp only [ex,ex4,ei,c15,xorC,andC,fdiv16,tab_get];rw [zD (idxOk _),zD (idxOk _),byte_eq c _ (ofB_lt hx)]
 rw [show (0:Int) = ((0:Nat):Int) from rfl,key l.length 0 _ (by omega),zA,xorC]
 rfl
theorem bit_eq (c:BitVec 32):(cond ((decide ((Int.tmod (C c) 2) = 1))) (M.pure ((VI .u32 (IntKind.u32.wrap (Int.tdiv (C c) 2)) 3988292384))) (M.pure (IntKind.u32.wrap (Int.tdiv (C c) 2)))) = (M.pure (C (s1 c)):M Int):=by
 have hc:=C_lt c;have e2:IntKind.u32.wrap (Int.tdiv (C c) 2) = C (c >>> 1):=by
  rw [<- shrC c 1,Int.fdiv_eq_ediv_of_nonneg _ (by omega),Int.tdiv_eq_ediv_of_nonneg hc.1];exact wU32 (by omega) (by omega)
 have e1:decide ((Int.tmod (C c) 2) = 1) = c.getLsbD 0:=by
  rw [Int.tmod_eq_emod_of_nonneg hc.1,BitVec.getLsbD,Nat.testBit_zero];unfold C
  congr 1
  exact propext (by omega)
 rw [e1,e2,show (3988292384:Int) = C 0xedb88320#32 from rfl,xorC];unfold s1
 cases c.getLsbD 0 <;> simp
theorem step_eq (c:BitVec 32) {x:Int} (hx:0 <= x /\ x < 256):jL (C c) x = pure (C (s8 c (BitVec.ofInt 32 x))):=by
 unfold jL;have ex:IntKind.u32.wrap x = C (BitVec.ofInt 32 x):=by rw [C_of hx.1 (by omega)];exact wU32 hx.1 (by omega)
 rw [ex,xorC];have st:∀ (c:BitVec 32) (i:Nat),i < 8 -> Ws (C c,(i:Int)) = pure (.next (C (s1 c),((i + 1:Nat):Int))):=fun c i hi=>by
  show cond (decide ((i:Int) < 8)) _ _ = _;rw [decide_eq_true (by omega)];show (cond _ _ _:M Int).bind _ = _;rw [bit_eq];have ei:IntKind.i64.wrap ((i:Int) + 1) = ((i + 1:Nat):Int):=by rw [uJ (by omega) (by omega)];omega
  rw [<- ei];rfl
 have en:∀ c:BitVec 32,Ws (C c,((8:Nat):Int)) = pure (.done (C c)):=fun c=>rfl
 rw [show (0:Int) = ((0:Nat):Int) from rfl,zW (st _ 0 (by omega)),zW (st _ 1 (by omega)),zW (st _ 2 (by omega)),zW (st _ 3 (by omega)),zW (st _ 4 (by omega)),zW (st _ 5 (by omega)),zW (st _ 6 (by omega)),zW (st _ 7 (by omega)),zP (en _)]
 rfl
theorem rmore_eq (l:List Int) (hl:l.length <= 1000000000000) (ho:okB l) (c:BitVec 32):VY (C c) l = pure (C (0xffffffff#32 ^^^ v1a (0xffffffff#32 ^^^ c) l)):=by
 unfold VY;have e:(4294967295:Int) = C 0xffffffff#32:=rfl;rw [e,xorC];have key:∀ k i (c:BitVec 32),i + k = l.length -> loop (jz l) (C c,(i:Int)) = pure (C (v1a c (l.drop i))):=by
  intro k
  induction k with
  | zero=>
   intro i c hi;rw [zP (r:=C c)]
   ·rw [List.drop_of_length_le (by omega)];rfl
   ·show cond (decide ((i:Int) < (l.length:Int))) _ _ = _;rw [decide_eq_false (by omega)];rfl
  | succ k ih=>
   intro i c hi;have hlt:i < l.length:=by omega
   have hx:=ho _ (List.getElem_mem hlt);rw [zW (s':=(C (s8 c (BitVec.ofInt 32 l[i])),((i + 1:Nat):Int)))]
   ·rw [ih (i + 1) _ (by omega),List.drop_eq_getElem_cons hlt];rfl
   ·show cond (decide ((i:Int) < (l.length:Int))) _ _ = _;rw [decide_eq_true (by omega)];show (M.idx l (i:Int)).bind _ = _;rw [zN (List.getElem?_eq_getElem hlt),zA];show (M.det _).bind _ = _;rw [step_eq c hx,zB,zA];have ei:IntKind.i64.wrap ((i:Int) + 1) = ((i + 1:Nat):Int):=by rw [uJ (by omega) (by omega)];omega
    rw [ei]
 rw [show (0:Int) = ((0:Nat):Int) from rfl,key l.length 0 _ (by omega),zA,xorC,BitVec.xor_comm 0xffffffff#32 (v1a _ l),BitVec.xor_comm c]
 rfl
def four (c:BitVec 32):List Int:=[C c % 256,C c / 256 % 256,C c / 65536 % 256,C c / 16777216 % 256]
def XG (l:List Int):BitVec 32:=0xffffffff#32 ^^^ v1a 0xffffffff#32 l
theorem u8mod (n:Int):IntKind.u8.wrap n = n % 256:=by simp [IntKind.wrap,IntKind.bits,IntKind.signed]
def uI (k:Int) (b:List Int):List Int:=k :: b ++ four (XG (k :: b))
theorem Seal_eq (k:Int) (b:List Int) (hk:0 <= k /\ k < 256) (hb:okB b) (hl:b.length <= 1000000000):VP k b = pure (uI k b):=by
 unfold VP;have ho:okB (k :: b):=fun x hx=>(List.mem_cons.1 hx).elim (fun h=>h ▸ hk) (hb x)
 rw [zD (by rw [uJ (by omega) (by omega)];omega),zD (by simp),zD (by simp;omega)];have hs:YX [([] ++ [k]) ++ b] = pure (C (XG (k :: b)) % 256,C (XG (k :: b)) / 256 % 256,C (XG (k :: b)) / 65536 % 256,C (XG (k :: b)) / 16777216 % 256):=by
  unfold YX zna;have hm:=x2a (k :: b) (by simp;omega) ho 0#32;have h1:Zy [([] ++ [k]) ++ b] (0,0) = pure (.next (C (XG (k :: b)),1)):=by
   show (M.idx [k :: b] 0).bind _ = _;rw [show (0:Int) = ((0:Nat):Int) from rfl,zN (y:=k :: b) rfl,zA];show (M.det (WC (C 0#32) (k :: b))).bind _ = _;rw [hm,zB,zA]
   rfl
  have h2:Zy [([] ++ [k]) ++ b] (C (XG (k :: b)),1) = pure (.done (C (XG (k :: b)))):=rfl;rw [zW h1,zP h2,zA,zB,zA];have hc:=(C_lt (XG (k :: b))).1
  generalize C (XG (k :: b)) = n at hc
  simp only [u8mod];have hq:∀ m:Nat,Int.fdiv n ((m:Nat):Int) = n / m:=fun m=>Int.fdiv_eq_ediv_of_nonneg _ (by omega)
  have q1:Int.fdiv n (2 ^ 8) = n / 256:=hq 256;have q2:Int.fdiv n (2 ^ 16) = n / 65536:=hq 65536;have q3:Int.fdiv n (2 ^ 24) = n / 16777216:=hq 16777216;rw [q1,q2,q3]
 rw [hs,zB,zA,zD (by simp;omega)]
 rfl
theorem vHa (k:Int) (b:List Int) (hk:0 <= k /\ k < 256) (hb:okB b) (hl:b.length <= 1000000000):WO k b = pure (uI k b):=by
 unfold WO;have ho:okB (k :: b):=fun x hx=>(List.mem_cons.1 hx).elim (fun h=>h ▸ hk) (hb x)
 have hm:VY 0 ([k] ++ b) = pure (C (XG (k :: b))):=rmore_eq (k :: b) (by simp;omega) ho 0#32;rw [zD (by simp;omega),hm,zB,zA];have hc:=C_lt (XG (k :: b));have ef:[C (XG (k :: b)) % 256,C (XG (k :: b)) / 256 % 256,C (XG (k :: b)) / 256 / 256 % 256,C (XG (k :: b)) / 256 / 256 / 256 % 256] = four (XG (k :: b)):=by
  unfold four;rw [Int.ediv_ediv_of_nonneg (by omega),Int.ediv_ediv_of_nonneg (by omega)]
  rfl
 show (loop Yl (C (XG (k :: b)),0,[k] ++ b)).bind _ = _;unfold uI;rw [<- ef]
 generalize C (XG (k :: b)) = n at hc
 have st:∀ (c:Int) (i:Nat) (v:List Int),i < 4 -> 0 <= c -> c < 4294967296 -> v.length <= 2000000000 -> Yl (c,(i:Int),v) = pure (.next (c / 256,((i + 1:Nat):Int),v ++ [c % 256])):=fun c i v hi h0 h1 hv=>by
  show cond (decide ((i:Int) < 4)) _ _ = _;rw [decide_eq_true (by omega)];show M.yV _ _ = _;rw [zD (by simp;omega),Int.tmod_eq_emod_of_nonneg h0,Int.tdiv_eq_ediv_of_nonneg h0,wU32 (by omega) (by omega),uJ (by omega) (by omega),u8mod,Int.emod_emod_of_dvd _ (by decide)]
  rfl
 have en:∀ c v,Yl (c,((4:Nat):Int),v) = pure (.done v):=fun c v=>rfl
 rw [show (0:Int) = ((0:Nat):Int) from rfl,zW (st _ 0 _ (by omega) (by omega) (by omega) (by simp;omega)),zW (st _ 1 _ (by omega) (by omega) (by omega) (by simp;omega)),zW (st _ 2 _ (by omega) (by omega) (by omega) (by simp;omega)),zW (st _ 3 _ (by omega) (by omega) (by omega) (by simp;omega)),zP (en _ _),zA]
 congr 1
 simp

open E (OkE yN XP)
open D (qK)
open F (OkM InM fewM)
def zZa (d:DL):List Int:=qK d.from_ ++ qK d.to_ ++ XP d.events
def x3a (m:TMsg):List Int:=
 if m.kind = 1 then [m.slot] ++ N.vB m.try_ else
 if m.kind = 2 then [m.slot] ++ N.vB m.try_ ++ N.vB m.dev ++ N.vB m.epoch ++ zZa m.delta else
 if m.kind = 4 then N.vB m.dev ++ N.vB m.epoch ++ zZa m.delta ++ qK m.front else
 if m.kind = 5 then N.vB m.dev ++ N.vB m.epoch ++ qK m.have_ ++ XP m.delta.events else
 if m.kind = 8 then N.vB m.dev ++ N.vB m.epoch else
 if m.kind = 9 then N.vB m.dev ++ N.vB m.epoch ++ [m.why] else N.vB m.dev ++ N.vB m.epoch ++ qK m.have_
structure FitM (m:TMsg):Prop where
 ok:OkM m
 try_:0 <= m.try_ /\ m.try_ <= 18446744073709551615
 epoch:0 <= m.epoch /\ m.epoch <= 18446744073709551615
 have_:(∀ p ∈ m.have_,p.dev <= 65535) /\ m.have_.length <= 10000 /\ C.yf m.have_ <= 10000
 front:(∀ p ∈ m.front,p.dev <= 65535) /\ m.front.length <= 10000 /\ C.yf m.front <= 10000
 from_:(∀ p ∈ m.delta.from_,p.dev <= 65535) /\ m.delta.from_.length <= 10000 /\ C.yf m.delta.from_ <= 10000
 to_:(∀ p ∈ m.delta.to_,p.dev <= 65535) /\ m.delta.to_.length <= 10000 /\ C.yf m.delta.to_ <= 10000
 evs:m.delta.events.length <= 10000 /\ ∀ e ∈ m.delta.events,e.text.size <= 200
theorem Zea {d:DL} (hd:F.OkD d) (h1:∀ p ∈ d.from_,p.dev <= 65535) (h2:∀ p ∈ d.to_,p.dev <= 65535) (s1:d.from_.length <= 10000 /\ C.yf d.from_ <= 10000) (s2:d.to_.length <= 10000 /\ C.yf d.to_ <= 10000) (hl:d.events.length <= 10000) (ht:∀ e ∈ d.events,e.text.size <= 200):(zZa d).length <= 1000000000:=by
 have e1:=G.xR h1 (by omega) (by omega);have e2:=G.xR h2 (by omega) (by omega);have e3:=E.UD hd.evs (fun e he=>⟨hd.kills e he,ht e he⟩);have e4:=N.zn (v:=(d.events.length:Int)) (by omega);unfold zZa XP;simp only [List.length_append];omega
theorem vxa {d:DL} (hd:F.OkD d) (h1:∀ p ∈ d.from_,p.dev <= 65535) (h2:∀ p ∈ d.to_,p.dev <= 65535) (s1:d.from_.length <= 10000 /\ C.yf d.from_ <= 10000) (s2:d.to_.length <= 10000 /\ C.yf d.to_ <= 10000) (hl:d.events.length <= 10000) (ht:∀ e ∈ d.events,e.text.size <= 200) (row:List Int) (hr:row.length <= 100000000):yj d row = pure (row ++ zZa d):=by
 have e1:=G.xR h1 (by omega) (by omega);have e2:=G.xR h2 (by omega) (by omega);have e3:=E.UD hd.evs (fun e he=>⟨hd.kills e he,ht e he⟩);have e4:=N.zn (v:=(d.events.length:Int)) (by omega);unfold yj;rw [D.Vy hd.from_ h1 (by omega) row (by omega),zB,zA,D.Vy hd.to_ h2 (by omega) _ (by rw [List.length_append];omega),zB,zA,E.yha hd.evs (by omega) _ (by simp only [List.length_append];omega),zB,zA];unfold zZa;simp only [List.append_assoc]
theorem kinds {k:Int} (h:1 <= k /\ k <= 9):k = 1 \/ k = 2 \/ k = 3 \/ k = 4 \/ k = 5 \/ k = 6 \/ k = 7 \/ k = 8 \/ k = 9:=by omega
theorem by_evs {l:List EV} (h:∀ e ∈ l,OkE e) (hl:l.length <= 1000000000):N.By (XP l):=by
 refine (N.uV (by omega)).app fun y hy=>?_
 obtain ⟨e,he,hy2⟩:=List.mem_flatMap.1 hy;have ho:=h e he;have b1:N.By (D.encD e.dot):=(N.uV (by have:=ho.dot.d1;omega)).app (N.uV ho.dot.n1);have b2:N.By [e.kind]:=fun x hx=>by rw [List.mem_singleton.1 hx];exact ho.kind
 have b3:N.By [e.field]:=fun x hx=>by rw [List.mem_singleton.1 hx];exact ho.field
 have ht:=ho.text;have hk:=ho.klen;have b4:N.By (E.encT e.text):=(N.uV (by omega)).app (E.by_bytes _);have b5:N.By (D.Uu e.kills):=by
  rw [D.Uu];refine (N.uV (by have:=D.jb e.kills;omega)).app fun z hz=>?_
  obtain ⟨d,hd,h⟩:=List.mem_flatMap.1 hz;have hd2:=ho.kills d (D.wna.1 hd).1;exact ((N.uV (by have:=hd2.d1;omega)).app (N.uV hd2.n1)) z h
 exact (b1.app (b2.app ((N.uV ho.cid.2).app (b3.app (b4.app b5))))) y hy2
theorem vIa {c:List PT} (h:∀ p ∈ c,p.dev <= 65535) (hl:c.length <= 10000 /\ C.yf c <= 10000):N.By (qK c):=
 D.by_encC c (D.zSa h) ⟨by have:=C.Xa c;omega,by have:=C.Xb c;omega⟩
theorem by_okB {l:List Int} (h:N.By l):okB l:=fun x hx=>by have:=h x hx;omega
theorem Zfa {m:TMsg} (h:FitM m):N.By (x3a m) /\ (x3a m).length <= 1000000000:=by
 have o:=h.ok;have hs:N.By [m.slot]:=fun x hx=>by rw [List.mem_singleton.1 hx];exact o.slot
 have hw:N.By [m.why]:=fun x hx=>by rw [List.mem_singleton.1 hx];exact o.why
 have h1:=N.uV h.try_.2;have h2:=N.uV h.epoch.2;have h3:N.By (N.vB m.dev):=N.uV (by have:=o.dev;omega);have h4:=vIa h.have_.1 h.have_.2;have h5:=vIa h.front.1 h.front.2;have h6:=by_evs o.delta.evs (by have:=h.evs.1;omega);have h7:N.By (zZa m.delta):=((vIa h.from_.1 h.from_.2).app (vIa h.to_.1 h.to_.2)).app h6;have l1:=N.zn h.try_.2;have l2:=N.zn h.epoch.2;have l3:=N.zn (v:=m.dev) (by have:=o.dev;omega);have l4:=G.xR h.have_.1 (by have:=h.have_.2;omega) (by have:=h.have_.2;omega);have l5:=G.xR h.front.1 (by have:=h.front.2;omega) (by have:=h.front.2;omega);have l6:=E.UD o.delta.evs (fun e he=>⟨o.delta.kills e he,h.evs.2 e he⟩);have l7:=N.zn (v:=(m.delta.events.length:Int)) (by have:=h.evs.1;omega);have l8:=G.xR h.from_.1 (by have:=h.from_.2;omega) (by have:=h.from_.2;omega);have l9:=G.xR h.to_.1 (by have:=h.to_.2;omega) (by have:=h.to_.2;omega);have lq:=h.evs.1;unfold x3a
 constructor
 ·repeat' split
  ·exact hs.app h1
  ·exact (((hs.app h1).app h3).app h2).app h7
  ·exact ((h3.app h2).app h7).app h5
  ·exact ((h3.app h2).app h4).app h6
  ·exact h3.app h2
  ·exact (h3.app h2).app hw
  ·exact (h3.app h2).app h4
 ·repeat' split
  all_goals
   simp only [zZa,XP,List.length_append,List.length_cons,List.length_nil];omega
theorem penc_eq {m:TMsg} (h:FitM m) (hk:1 <= m.kind /\ m.kind <= 9) (hg:Zc m = pure true):vy m = pure (uI m.kind (x3a m),0):=by
 have o:=h.ok;have hd:IntKind.u64.wrap m.dev = m.dev:=Zs (by have:=o.dev;omega) (by have:=o.dev;omega);have l1:=N.zn h.try_.2;have l2:=N.zn h.epoch.2;have l3:=N.zn (v:=m.dev) (by have:=o.dev;omega);have l4:=G.xR h.have_.1 (by have:=h.have_.2;omega) (by have:=h.have_.2;omega);have l5:=G.xR h.front.1 (by have:=h.front.2;omega) (by have:=h.front.2;omega);have l6:=E.UD o.delta.evs (fun e he=>⟨o.delta.kills e he,h.evs.2 e he⟩);have lq:=h.evs.1;have hD:=vxa o.delta h.from_.1 h.to_.1 h.from_.2 h.to_.2 h.evs.1 h.evs.2;have l7:=Zea o.delta h.from_.1 h.to_.1 h.from_.2 h.to_.2 h.evs.1 h.evs.2;have l8:(XP m.delta.events).length <= 100000000:=by
  have:=N.zn (v:=(m.delta.events.length:Int)) (by omega);unfold XP;rw [List.length_append];omega
 have eT:∀ row:List Int,row.length <= 10000000000000 -> zO m.try_ row = pure (row ++ N.vB m.try_):=fun row hr=>N.vP row h.try_.1 h.try_.2 hr
 have eE:∀ row:List Int,row.length <= 10000000000000 -> zO m.epoch row = pure (row ++ N.vB m.epoch):=fun row hr=>N.vP row h.epoch.1 h.epoch.2 hr
 have eV:∀ row:List Int,row.length <= 10000000000000 -> zO m.dev row = pure (row ++ N.vB m.dev):=fun row hr=>N.vP row o.dev.1 (by have:=o.dev;omega) hr
 have eH:∀ row:List Int,row.length <= 100000000000 -> yG m.have_ row = pure (row ++ qK m.have_):=fun row hr=>D.Vy o.have_ h.have_.1 (by have:=h.have_.2;omega) row hr
 have eF:∀ row:List Int,row.length <= 100000000000 -> yG m.front row = pure (row ++ qK m.front):=fun row hr=>D.Vy o.front h.front.1 (by have:=h.front.2;omega) row hr
 have eA:∀ row:List Int,row.length <= 400000000 -> xM m.delta.events row = pure (row ++ XP m.delta.events):=fun row hr=>E.yha o.delta.evs (by omega) row (by omega)
 have eD:∀ row:List Int,row.length <= 100000000 -> yj m.delta row = pure (row ++ zZa m.delta):=fun row hr=>hD row hr
 have eB:∀ (c:Int) (row:List Int),row.length <= 10000000000000 -> zy c row = pure (row ++ [c]):=fun c row hr=>N.zMa c row hr
 have eY:∀ row:List Int,row.length <= 100000000000000 -> ye row = pure (row,row):=fun row hr=>N.Bytes_eq row hr
 have eS:=Seal_eq m.kind (x3a m) ⟨by omega,by omega⟩ (by_okB (Zfa h).1) (Zfa h).2;unfold vy;rw [hg,zB,zA];unfold x3a at eS ⊢;rcases kinds hk with e | e | e | e | e | e | e | e | e
 all_goals
  simp (disch:=first | omega | (simp only [List.length_append,List.length_cons,List.length_nil];omega)) only [e,hd,eB,eT,eE,eV,eH,eF,eA,eD,eY,Int.reduceEq,Int.reduceLE,decide_true,decide_false,Bool.not_true,Bool.not_false,cond_true,cond_false,zA,zB,if_true,if_false,zD,List.nil_append,List.append_assoc] at eS ⊢;rw [eS,zB,zA]
def x4a : TMsg:=⟨8,0,0,1,2,0,[],[],⟨[],[],[]⟩⟩
theorem fit_bye : FitM x4a where
 ok:=F.okM (m:=x4a) ⟨by decide,by decide,by decide,by decide,by simp [x4a],by simp [x4a],by simp [x4a],by simp [x4a],by simp [x4a]⟩ (by decide)
 try_:=by decide
 epoch:=by decide
 have_:=⟨by simp [x4a],by decide,by decide⟩
 front:=⟨by simp [x4a],by decide,by decide⟩
 from_:=⟨by simp [x4a],by decide,by decide⟩
 to_:=⟨by simp [x4a],by decide,by decide⟩
 evs:=⟨by decide,by simp [x4a]⟩
theorem good_bye : Zc x4a = pure true:=by
 unfold Zc;simp only [F.yma,F.Zba,zB,zA]
 rfl
theorem works28 : XU = pure true:=by
 unfold XU;have e:=penc_eq fit_bye (by decide) good_bye;show (det (vy x4a)).bind _ = _;rw [e,zB,zA];have e1:N.vB 1 = [1,1]:=by
  show (N.jV 1:Int) :: N.be 1 (N.jV 1) = _;have:N.jV 1 = 1:=by rw [N.WR (by decide),show 1 / 256 = 0 from rfl,N.Xc]
  rw [this];rfl
 have e2:N.vB 2 = [1,2]:=by
  show (N.jV 2:Int) :: N.be 2 (N.jV 2) = _;have:N.jV 2 = 1:=by rw [N.WR (by decide),show 2 / 256 = 0 from rfl,N.Xc]
  rw [this];rfl
 have eb:x3a x4a = [1,1,1,2]:=by
  show N.vB 1 ++ N.vB 2 = _;rw [e1,e2];rfl
 rw [eb];show (M.yV ((0:Int) <= 0 /\ (0:Int) <= 5 /\ (5:Int) <= ((uI 8 [1,1,1,2]).length:Int)) ((det (VQ ((uI 8 [1,1,1,2]).take 5) [8,1,1,1,2])).bind pure)).bind pure = _;have hq:VQ ((uI 8 [1,1,1,2]).take 5) [8,1,1,1,2] = pure true:=by
  show pure (decide (XK [8,1,1,1,2] = XK [8,1,1,1,2])) = _;rw [decide_eq_true rfl]
 rw [zD ⟨by decide,by decide,by show (5:Int) <= ((9:Nat):Int);decide⟩,hq,zB]
 rfl
open E (OkE yN XP XQ)
open D (qK vQ fin)
open F (OkM InM fewM OkD)
open N (RS zM xZ zu zba Sim OkB)
open G (ZR)
theorem eq_of9 {α:Type} {a b:α} (h:(pure a:M α) = pure b):a = b:=by
 have h2:(pure a:M α).wp (· = b):=by rw [h];rfl
 exact h2
def yK (b:List Int):Int × List Int × Int:=
 match b with
 | []=>(0,[],2)
 | x :: r=>if r.length < 4 then (0,[],2) else if uI x (r.take (r.length - 4)) = x :: r then (x,r.take (r.length - 4),0) else (0,[],5)
theorem Jp {l:List Int} (h:okB l):N.By l:=fun x hx=>by have:=h x hx;omega
theorem vJa (c:BitVec 32):okB (four c):=fun x hx=>by
 have:=(C_lt c).1;simp only [four,List.mem_cons,List.not_mem_nil,or_false] at hx;rcases hx with rfl | rfl | rfl | rfl <;> omega
theorem vKa {x:Int} {r:List Int} (hx:0 <= x /\ x < 256) (hr:okB r):okB (uI x r):=fun y hy=>by
 unfold uI at hy;rcases List.mem_append.1 hy with h | h
 ·exact (List.mem_cons.1 h).elim (fun e=>e ▸ hx) (hr y)
 ·exact vJa _ y h
theorem crc_sum (p q:List Int) (hp:okB p) (hq:okB q) (h1:p.length <= 10000000) (h2:q.length <= 10000000):zna [p,q] = pure (C (XG (p ++ q))):=by
 unfold zna;have m1:=x2a p (by omega) hp 0#32;have m2:=x2a q (by omega) hq (0xffffffff#32 ^^^ v1a (0xffffffff#32 ^^^ 0#32) p);have s1:Zy [p,q] (0,0) = pure (.next (C (0xffffffff#32 ^^^ v1a (0xffffffff#32 ^^^ 0#32) p),1)):=by
  show (M.idx [p,q] 0).bind _ = _;rw [show (0:Int) = ((0:Nat):Int) from rfl,zN (y:=p) rfl,zA];show (M.det (WC (C 0#32) p)).bind _ = _;rw [m1,zB,zA];rfl
 have e2:(0xffffffff#32 ^^^ v1a (0xffffffff#32 ^^^ (0xffffffff#32 ^^^ v1a (0xffffffff#32 ^^^ 0#32) p)) q) = XG (p ++ q):=by
  unfold XG;rw [<- BitVec.xor_assoc 0xffffffff#32 0xffffffff#32,BitVec.xor_self,BitVec.zero_xor,BitVec.xor_zero];unfold v1a;rw [List.foldl_append]
 have s2:Zy [p,q] (C (0xffffffff#32 ^^^ v1a (0xffffffff#32 ^^^ 0#32) p),1) = pure (.next (C (XG (p ++ q)),2)):=by
  show (M.idx [p,q] 1).bind _ = _;rw [show (1:Int) = ((1:Nat):Int) from rfl,zN (y:=q) rfl,zA,m2,zB,zA,e2];rfl
 have s3:Zy [p,q] (C (XG (p ++ q)),2) = pure (.done (C (XG (p ++ q)))):=rfl;rw [zW s1,zW s2,zP s3];rfl
theorem sum_eq (p q:List Int) (hp:okB p) (hq:okB q) (h1:p.length <= 10000000) (h2:q.length <= 10000000) :
  YX [p,q] = pure (C (XG (p ++ q)) % 256,C (XG (p ++ q)) / 256 % 256,C (XG (p ++ q)) / 65536 % 256,C (XG (p ++ q)) / 16777216 % 256):=by
 unfold YX;rw [crc_sum p q hp hq h1 h2,zB,zA]
 generalize XG (p ++ q) = c
 have hc:=(C_lt c).1
 generalize C c = n at hc
 simp only [u8mod];have hq:∀ m:Nat,Int.fdiv n ((m:Nat):Int) = n / m:=fun m=>Int.fdiv_eq_ediv_of_nonneg _ (by omega)
 have q1:Int.fdiv n (2 ^ 8) = n / 256:=hq 256;have q2:Int.fdiv n (2 ^ 16) = n / 65536:=hq 65536;have q3:Int.fdiv n (2 ^ 24) = n / 16777216:=hq 16777216;rw [q1,q2,q3]
theorem seal_iff {x:Int} {r:List Int} (h4:4 <= r.length):uI x (r.take (r.length - 4)) = x :: r ↔ four (XG (x :: r.take (r.length - 4))) = r.drop (r.length - 4):=by
 unfold uI
 constructor
 ·intro h;have h2:r.take (r.length - 4) ++ four (XG (x :: r.take (r.length - 4))) = r:=List.cons.inj h |>.2;have h3:=congrArg (List.drop (r.length - 4)) h2;rw [List.drop_left' (by rw [List.length_take];omega)] at h3;exact h3
 ·intro h;rw [h];show x :: (r.take (r.length - 4) ++ r.drop (r.length - 4)) = _;rw [List.take_append_drop]
theorem Open_eq {b:List Int} (hb:okB b) (hl:b.length <= 1000000):VR b = pure (yK b):=by
 unfold VR;have hw:IntKind.i64.wrap ((b.length:Int) - 4) = (b.length:Int) - 4:=uJ (by omega) (by omega)
 cases b with
 | nil=>rfl
 | cons x r=>
  rw [hw];have hx:=hb x (by simp);have hr:okB r:=fun y hy=>hb y (by simp [hy])
  by_cases h4:r.length < 4
  ·rw [decide_eq_true (by rw [List.length_cons];omega),cond_true];show _ = pure (if r.length < 4 then _ else _);rw [if_pos h4]
  ·have ht:Int.toNat (((x :: r).length:Int) - 4) = r.length - 3:=by rw [List.length_cons];omega
   have e1:List.drop (Int.toNat 0) (List.take (Int.toNat 1) (x :: r)) = [x]:=by simp
   have e2:List.drop (Int.toNat 1) (List.take (Int.toNat (((x :: r).length:Int) - 4)) (x :: r)) = r.take (r.length - 4):=by
    rw [ht,show r.length - 3 = (r.length - 4) + 1 by omega];rfl
   have e3:List.drop (Int.toNat (((x :: r).length:Int) - 4)) (List.take (Int.toNat ((x :: r).length:Int)) (x :: r)) = r.drop (r.length - 4):=by
    rw [ht,show Int.toNat ((x :: r).length:Int) = (x :: r).length by omega,List.take_length,show r.length - 3 = (r.length - 4) + 1 by omega];rfl
   rw [decide_eq_false (by rw [List.length_cons];omega),cond_false,zD (by rw [List.length_cons];omega),zD (by rw [List.length_cons];omega),e1,e2,e3,
    sum_eq [x] (r.take (r.length - 4)) (fun y hy=>by rw [List.mem_singleton.1 hy];exact hx) (fun y hy=>hr y (List.mem_of_mem_take hy)) (by simp) (by rw [List.length_take];rw [List.length_cons] at hl;omega),zB,zA,zD (by rw [List.length_cons];omega)]
   have e4:(decide (XK (four (XG ([x] ++ r.take (r.length - 4)))) = XK (r.drop (r.length - 4)))) = decide (uI x (r.take (r.length - 4)) = x :: r):=by
    congr 1
    rw [seal_iff (by omega)];exact propext ⟨fun h=>D.wqa (Jp (vJa _)) (Jp fun y hy=>hr y (List.mem_of_mem_drop hy)) h,fun h=>congrArg XK h⟩
   show cond (!decide (XK (four (XG ([x] ++ r.take (r.length - 4)))) = XK (r.drop (r.length - 4)))) _ _ = pure (if r.length < 4 then _ else if _ then _ else _);rw [e4,if_neg h4]
   by_cases hs:uI x (r.take (r.length - 4)) = x :: r
   ·rw [decide_eq_true hs,if_pos hs,Bool.not_true,cond_false,show (0:Int) = ((0:Nat):Int) from rfl,zN (y:=x) rfl,zA,zD (by rw [List.length_cons];omega),zD (by rw [List.length_take];rw [List.length_cons] at hl;omega)]
   ·rw [decide_eq_false hs,if_neg hs];rfl
theorem rOpen_eq {b:List Int} (hb:okB b) (hl:b.length <= 1000000):jM b = pure (yK b):=by
 unfold jM;have hw:IntKind.i64.wrap ((b.length:Int) - 4) = (b.length:Int) - 4:=uJ (by omega) (by omega)
 cases b with
 | nil=>rfl
 | cons x r=>
  rw [hw];have hx:=hb x (by simp);have hr:okB r:=fun y hy=>hb y (by simp [hy])
  by_cases h4:r.length < 4
  ·rw [decide_eq_true (by rw [List.length_cons];omega),cond_true];show _ = pure (if r.length < 4 then _ else _);rw [if_pos h4]
  ·have ht:Int.toNat (((x :: r).length:Int) - 4) = r.length - 3:=by rw [List.length_cons];omega
   have e2:List.drop (Int.toNat 1) (List.take (Int.toNat (((x :: r).length:Int) - 4)) (x :: r)) = r.take (r.length - 4):=by
    rw [ht,show r.length - 3 = (r.length - 4) + 1 by omega];rfl
   have ho:okB (r.take (r.length - 4)):=fun y hy=>hr y (List.mem_of_mem_take hy)
   rw [decide_eq_false (by rw [List.length_cons];omega),cond_false,zD (by rw [List.length_cons];omega),e2,zD (by rw [List.length_take,List.length_nil];rw [List.length_cons] at hl;omega),
    show (0:Int) = ((0:Nat):Int) from rfl,zN (y:=x) rfl,zA]
   show (det (WO x (r.take (r.length - 4)))).bind _ = _;rw [vHa x _ hx ho (by rw [List.length_take];rw [List.length_cons] at hl;omega),zB,zA];have e4:(decide (XK (uI x (r.take (r.length - 4))) = XK (x :: r))) = decide (uI x (r.take (r.length - 4)) = x :: r):=by
    congr 1
    exact propext ⟨fun h=>D.wqa (Jp (vKa hx ho)) (Jp hb) h,fun h=>congrArg XK h⟩
   show cond (!decide (XK (uI x (r.take (r.length - 4))) = XK (x :: r))) _ _ = pure (if r.length < 4 then _ else if _ then _ else _);rw [e4,if_neg h4]
   by_cases hs:uI x (r.take (r.length - 4)) = x :: r
   ·rw [decide_eq_true hs,if_pos hs];rfl
   ·rw [decide_eq_false hs,if_neg hs];rfl
theorem x5a {b:List Int} (hb:okB b) (h:(yK b).2.2 = 0):b = uI (yK b).1 (yK b).2.1 /\ okB (yK b).2.1 /\ (yK b).2.1.length <= b.length /\ 0 <= (yK b).1 /\ (yK b).1 < 256:=by
 cases b with
 | nil=>cases h
 | cons x r=>
  unfold yK at h ⊢
  by_cases h4:r.length < 4
  ·simp only [if_pos h4] at h;cases h
  ·simp only [if_neg h4] at h ⊢
   by_cases hs:uI x (r.take (r.length - 4)) = x :: r
   ·simp only [if_pos hs] at h ⊢;exact ⟨hs.symm,fun y hy=>hb y (by simp [List.mem_of_mem_take hy]),by rw [List.length_take,List.length_cons];omega,(hb x (by simp)).1,(hb x (by simp)).2⟩
   ·simp only [if_neg hs] at h;cases h
theorem Xg (e:Int) (s:RS):(N.wW e s).1.length <= s.1.length:=by unfold N.wW;split <;> simp
theorem Wi (s:RS):(zM s).2.1.length <= s.1.length:=by
 unfold zM
 split
 ·simp
 ·split
  ·exact Xg _ _
  ·simp
theorem xta (m:Int) (s:RS):(zu m s).2.1.length <= s.1.length:=by
 unfold zu
 split
 ·exact Nat.le_trans (Xg _ _) (Wi s)
 ·exact Wi s
theorem byte_le (s:RS):(xZ s).2.1.length <= s.1.length:=by
 unfold xZ
 split
 ·simp
 ·split
  ·exact Xg _ _
  ·rename_i x r h;rw [h];simp
def noD : DL:=⟨[],[],[]⟩
def Jw (s:RS):RS:=(zM (zu 65535 s).2).2
def qz (s:RS):Int × Int:=((zu 65535 s).1,(zM (zu 65535 s).2).1)
def Jq (s:RS):RS:=(zM (xZ s).2).2
def qL (s:RS):Int × Int:=((xZ s).1,(zM (xZ s).2).1)
def Zr (k:Int) (s:RS):TMsg × RS:=
 if k = 1 then (⟨k,(qL s).1,(qL s).2,0,0,0,[],[],noD⟩,Jq s) else
 if k = 2 then (⟨k,(qL s).1,(qL s).2,(qz (Jq s)).1,(qz (Jq s)).2,0,[],[],(ZR (Jw (Jq s))).1⟩,(ZR (Jw (Jq s))).2) else
 if k = 4 then (⟨k,0,0,(qz s).1,(qz s).2,0,[],(vQ (ZR (Jw s)).2).1,(ZR (Jw s)).1⟩,(vQ (ZR (Jw s)).2).2) else
 if k = 5 then (⟨k,0,0,(qz s).1,(qz s).2,0,(vQ (Jw s)).1,[],⟨[],[],(XQ 4 (vQ (Jw s)).2).1⟩⟩,(XQ 4 (vQ (Jw s)).2).2) else
 if k = 8 then (⟨k,0,0,(qz s).1,(qz s).2,0,[],[],noD⟩,Jw s) else
 if k = 9 then (⟨k,0,0,(qz s).1,(qz s).2,(xZ (Jw s)).1,[],[],noD⟩,(xZ (Jw s)).2) else
 (⟨k,0,0,(qz s).1,(qz s).2,0,(vQ (Jw s)).1,[],noD⟩,(vQ (Jw s)).2)
theorem QA {s:RS} (h:N.Ok s):N.Ok (Jw s) /\ (Jw s).1.length <= s.1.length /\ 0 <= (qz s).1 /\ (qz s).1 <= 65535:=by
 obtain ⟨h1,h2,h3⟩:=N.ZP h (m:=65535) (by omega);obtain ⟨h4,_⟩:=N.yb h1;exact ⟨h4,Nat.le_trans (Wi _) (xta _ _),h2,h3⟩
theorem x6a {s:RS} (h:N.Ok s):N.Ok (Jq s) /\ (Jq s).1.length <= s.1.length /\ 0 <= (qL s).1 /\ (qL s).1 <= 255:=by
 obtain ⟨h1,h2,h3⟩:=N.Jc h;obtain ⟨h4,_⟩:=N.yb h1;exact ⟨h4,Nat.le_trans (Wi _) (byte_le _),h2,h3⟩
theorem je {s:RS} (hO:N.Ok s):N.Ok (ZR s).2:=by
 obtain ⟨o1,_⟩:=D.yE hO;obtain ⟨o2,_⟩:=D.yE o1;show N.Ok (fin _ _ _).2;rw [D.YN];exact D.Uf (E.ZWa o2 4096) _
theorem ctx_le {s:RS} (hO:N.Ok s):(vQ s).2.1.length <= s.1.length:=(G.Xm hO).2
theorem all_le {s:RS} (hO:N.Ok s) (m:Int):(XQ m s).2.1.length <= s.1.length:=by
 obtain ⟨_,_,_,h4,h5⟩:=E.UF hO m
 by_cases c:(XQ m s).2.2 = 0
 ·have h7:=congrArg List.length (h4 c).1;rw [List.length_append] at h7;omega
 ·rw [(E.ZWa hO m).nil c];simp
theorem delta_le {s:RS} (hO:N.Ok s):(ZR s).2.1.length <= s.1.length:=by
 obtain ⟨o1,_⟩:=D.yE hO;obtain ⟨o2,_⟩:=D.yE o1;have h1:=ctx_le hO;have h2:=ctx_le o1;have h3:=all_le o2 4096;show (fin _ _ _).2.1.length <= _;rw [D.YN];refine Nat.le_trans ?_ (Nat.le_trans h3 (Nat.le_trans h2 h1));show (D.WS _ _).1.length <= _;unfold D.WS
 split
 ·exact Xg _ _
 ·exact Nat.le_refl _
theorem Jr : OkD noD:=⟨C.ok_nil,C.ok_nil,(fun e he=>by cases he),by simp [noD],(fun e he=>by cases he)⟩
theorem Zga {s:RS} (hO:N.Ok s) (hl:s.1.length <= 500000):C.Ok (vQ s).1 /\ C.yf (vQ s).1 <= 1000000:=by
 obtain ⟨_,a2,a3,_,_⟩:=D.yE hO;have:=G.Xm hO;exact ⟨D.yaa a2 a3,by omega⟩
theorem Um {k:Int} (hk:1 <= k /\ k <= 9) {s:RS} (hO:N.Ok s) (hl:s.1.length <= 500000):OkM (Zr k s).1 /\ (Zr k s).1.kind = k /\ N.Ok (Zr k s).2:=by
 obtain ⟨o1,l1,v1,w1⟩:=QA hO;obtain ⟨o2,l2,v2,w2⟩:=x6a hO;obtain ⟨o3,l3,v3,w3⟩:=QA o2;have z0:C.yf ([]:List PT) <= 1000000:=by simp [C.yf]
 have z8:(0:Int) <= 0 /\ (0:Int) <= 255:=by decide
 have z16:(0:Int) <= 0 /\ (0:Int) <= 65535:=by decide
 have c1:=Zga o1 (by omega);unfold Zr;rcases kinds hk with e | e | e | e | e | e | e | e | e
 all_goals simp only [e,Int.reduceEq,if_true,if_false]
 ·exact ⟨⟨(by decide:(0:Int) <= 1 /\ (1:Int) <= 255),⟨v2,w2⟩,z16,z8,C.ok_nil,C.ok_nil,Jr,z0⟩,trivial,o2⟩
 ·exact ⟨⟨(by decide:(0:Int) <= 2 /\ (2:Int) <= 255),⟨v2,w2⟩,⟨v3,w3⟩,z8,C.ok_nil,C.ok_nil,G.yoa o3 (by omega),z0⟩,trivial,je o3⟩
 ·exact ⟨⟨(by decide:(0:Int) <= 3 /\ (3:Int) <= 255),z8,⟨v1,w1⟩,z8,c1.1,C.ok_nil,Jr,c1.2⟩,trivial,(D.yE o1).1⟩
 ·have o4:=je o1;have l4:=delta_le o1;exact ⟨⟨(by decide:(0:Int) <= 4 /\ (4:Int) <= 255),z8,⟨v1,w1⟩,z8,C.ok_nil,(Zga o4 (by omega)).1,G.yoa o1 (by omega),z0⟩,trivial,(D.yE o4).1⟩
 ·have o4:=(D.yE o1).1;obtain ⟨_,p2,_,_,_⟩:=E.UF o4 4;have z1:=G.Xm o1;have z2:=G.yna o4 4;exact ⟨⟨(by decide:(0:Int) <= 5 /\ (5:Int) <= 255),z8,⟨v1,w1⟩,z8,c1.1,C.ok_nil,⟨C.ok_nil,C.ok_nil,fun e he=>(p2 e he).1,by show (XQ 4 _).1.length <= _;omega,fun e he=>by have:=G.vEa (p2 e he).2;omega⟩,c1.2⟩,trivial,E.ZWa o4 4⟩
 ·exact ⟨⟨(by decide:(0:Int) <= 6 /\ (6:Int) <= 255),z8,⟨v1,w1⟩,z8,c1.1,C.ok_nil,Jr,c1.2⟩,trivial,(D.yE o1).1⟩
 ·exact ⟨⟨(by decide:(0:Int) <= 7 /\ (7:Int) <= 255),z8,⟨v1,w1⟩,z8,c1.1,C.ok_nil,Jr,c1.2⟩,trivial,(D.yE o1).1⟩
 ·exact ⟨⟨(by decide:(0:Int) <= 8 /\ (8:Int) <= 255),z8,⟨v1,w1⟩,z8,C.ok_nil,C.ok_nil,Jr,z0⟩,trivial,o1⟩
 ·obtain ⟨h1,h2,h3⟩:=N.Jc o1;exact ⟨⟨(by decide:(0:Int) <= 9 /\ (9:Int) <= 255),z8,⟨v1,w1⟩,⟨h2,h3⟩,C.ok_nil,C.ok_nil,Jr,z0⟩,trivial,h1⟩
theorem slot_eq {t:RS} (h:N.Ok t):((det (zj t.1 t.2)).bind fun y11=>(det (zS y11.2.1 y11.2.2)).bind fun y13=>pure (y11.1,y13.1,y13.2.1,y13.2.2)) = pure ((qL t).1,(qL t).2,(Jq t).1,(Jq t).2):=by
 obtain ⟨h1,_⟩:=N.Jc h;rw [N.jW h,zB,zA,N.XF h1,zB,zA]
 rfl
theorem dev_eq {t:RS} (h:N.Ok t):((det (yI 65535 t.1 t.2)).bind fun y20=>(det (zS y20.2.1 y20.2.2)).bind fun y22=>pure (IntKind.u16.wrap y20.1,y22.1,y22.2.1,y22.2.2)) = pure ((qz t).1,(qz t).2,(Jw t).1,(Jw t).2):=by
 obtain ⟨h1,h2,h3⟩:=N.ZP h (m:=65535) (by omega);rw [N.xia h,zB,zA,N.XF h1,zB,zA,wU16 h2 h3]
 rfl
theorem Zha {k:Int} (hk:1 <= k /\ k <= 9) {s:RS} (hO:N.Ok s) (hl:s.1.length <= 500000):wO k s.1 s.2 = pure (Zr k s):=by
 obtain ⟨o1,l1,_⟩:=QA hO;obtain ⟨o2,l2,_⟩:=x6a hO;obtain ⟨o3,l3,_⟩:=QA o2;have o4:=je o1;have o5:=(D.yE o1).1;unfold wO Zr;rcases kinds hk with e | e | e | e | e | e | e | e | e
 all_goals
  simp only [e,Int.reduceEq,decide_true,decide_false,Bool.not_true,Bool.not_false,cond_true,cond_false,zA,if_true,if_false,slot_eq hO,dev_eq hO,dev_eq o2,N.jW o1,D.wxa o1,D.wxa o4,G.vGa o1 (show (Jw s).1.length <= 500000 by omega),G.vGa o3 (show (Jw (Jq s)).1.length <= 500000 by omega),E.yja o5 (most:=4) (by omega),zB] <;> rfl
def x7a : TMsg:=⟨0,0,0,0,0,0,[],[],noD⟩
theorem jf : OkM x7a:=⟨by decide,by decide,by decide,by decide,C.ok_nil,C.ok_nil,Jr,by simp [x7a,C.yf]⟩
noncomputable def Zia (m:TMsg):Bool:=@decide (ud m = pure true) (Classical.propDecidable _)
theorem vLa {m:TMsg} (h:OkM m):ud m = pure (Zia m):=by
 obtain ⟨b,hb⟩:=F.Zda h;rw [hb]
 congr 1
 unfold Zia
 cases b with
 | true=>exact (@decide_eq_true _ (Classical.propDecidable _) hb).symm
 | false=>exact (@decide_eq_false _ (Classical.propDecidable _) fun h2=>by rw [hb] at h2;cases eq_of9 h2).symm
noncomputable def finM (m:TMsg) (t:RS):TMsg × Int:=if (zba t).1 ≠ 0 then (x7a,(zba t).1) else if Zia m = true then (m,0) else (x7a,4)
noncomputable def decM (b:List Int):TMsg × Int:=
 if (yK b).2.2 ≠ 0 then (x7a,(yK b).2.2) else if (yK b).1 < 1 \/ 9 < (yK b).1 then (x7a,4) else finM (Zr (yK b).1 ((yK b).2.1,0)).1 (Zr (yK b).1 ((yK b).2.1,0)).2
theorem zaa {B:List Int} {a:Int} {t:RS} {m:TMsg} (hB:OkB B) (hO:N.Ok t) (hs:Sim B a t) (hm:OkM m) :
  ((det (yA B a t.2)).bind fun y74=>
   cond (decide (y74.1 = 0)) ((det (ud m)).bind fun v77=>pure (!v77,y74.2.1,y74.2.2.1,y74.2.2.2)) (pure (false,y74.2.1,y74.2.2.1,y74.2.2.2))).bind (fun x:Bool × List Int × Int × Int=>
   (cond x.1 ((det (zC 4 x.2.1 x.2.2.1 x.2.2.2)).bind fun y83=>pure (y83.1,y83.2.1,y83.2.2)) (pure (x.2.1,x.2.2.1,x.2.2.2))).bind (fun z:List Int × Int × Int=>
    cond (!decide (z.2.2 = 0)) (pure (x7a,z.2.2)) (pure (m,0)))) = pure (finM m t):=by
 obtain ⟨a',e⟩:=N.rEndS_eq hB hO hs;rw [e,zB,zA];unfold finM
 by_cases h:(zba t).1 = 0
 ·rw [if_neg (by simpa using h)];simp only [h,decide_true,cond_true];rw [vLa hm,zB,zA,zA]
  cases hg:Zia m with
  | true=>rfl
  | false=>
   have hF:zC 4 B a' 0 = pure (B,a',4):=N.vq B a' ([],0) (by decide);simp only [Bool.not_false,cond_true,hF,zB,zA]
   rfl
 ·rw [if_pos (by simpa using h)];simp only [decide_eq_false h,cond_false,zA,Bool.not_false,cond_true]
theorem yqa {b:List Int} (hb:okB b) (hl:b.length <= 500005):uA b = pure (decM b):=by
 unfold uA decM;rw [Open_eq hb (by omega),zB,zA]
 by_cases h0:(yK b).2.2 = 0
 ·obtain ⟨q1,q2,q3,q4,q5⟩:=x5a hb h0;have hlen:(yK b).2.1.length + 5 = b.length:=by
   have:=congrArg List.length q1;unfold uI at this;rw [List.length_append,List.length_cons] at this;have h4:(four (XG ((yK b).1 :: (yK b).2.1))).length = 4:=rfl;omega
  rw [decide_eq_true h0,Bool.not_true,cond_false,if_neg (by simpa using h0)];have hB:OkB (yK b).2.1:=⟨Jp q2,by omega⟩
  have hO:=hB.ok
  by_cases hk:(yK b).1 < 1 \/ 9 < (yK b).1
  ·rw [if_pos hk];have:(cond (decide ((yK b).1 = 0)) (pure true) (pure (decide (9 < (yK b).1))):M Bool) = pure true:=by
    rcases hk with h | h
    ·rw [decide_eq_true (by omega)];rfl
    ·rw [decide_eq_false (by omega),decide_eq_true h];rfl
   rw [this,zA];rfl
  ·rw [if_neg hk];have hk1:1 <= (yK b).1 /\ (yK b).1 <= 9:=by omega
   rw [decide_eq_false (by omega),cond_false,zA,decide_eq_false (by omega),cond_false,N.New_eq _ (by omega),zB,zA];have hf:=Zha hk1 hO (by show (yK b).2.1.length <= 500000;omega);obtain ⟨m1,m2,m3⟩:=Um hk1 hO (by show (yK b).2.1.length <= 500000;omega);show (det (wO (yK b).1 ((yK b).2.1,0).1 ((yK b).2.1,0).2)).bind _ = _;rw [hf,zB,zA]
   generalize Zr (yK b).1 ((yK b).2.1,0) = q at m1 m3
   rw [N.End_eq,zB,zA];unfold finM
   by_cases h:(zba q.2).1 = 0
   ·rw [if_neg (by simpa using h),decide_eq_true h,Bool.not_true,cond_false,F.Zca m1,vLa m1,zB,zA]
    cases Zia q.1 <;> rfl
   ·rw [if_pos (by simpa using h),decide_eq_false h];rfl
 ·rw [decide_eq_false h0,if_pos (by simpa using h0)];rfl
theorem QB {b:List Int} (hb:okB b) (hl:b.length <= 500005):YC b = pure (decM b):=by
 unfold YC decM;rw [rOpen_eq hb (by omega),zB,zA]
 by_cases h0:(yK b).2.2 = 0
 ·obtain ⟨q1,q2,q3,q4,q5⟩:=x5a hb h0;have hlen:(yK b).2.1.length + 5 = b.length:=by
   have:=congrArg List.length q1;unfold uI at this;rw [List.length_append,List.length_cons] at this;have h4:(four (XG ((yK b).1 :: (yK b).2.1))).length = 4:=rfl;omega
  rw [decide_eq_true h0,Bool.not_true,cond_false,if_neg (by simpa using h0)];have hB:OkB (yK b).2.1:=⟨Jp q2,by omega⟩
  have hO:=hB.ok
  by_cases hk:(yK b).1 < 1 \/ 9 < (yK b).1
  ·rw [if_pos hk];have:(cond (decide ((yK b).1 < 1)) (pure true) (pure (decide (9 < (yK b).1))):M Bool) = pure true:=by
    rcases hk with h | h
    ·rw [decide_eq_true h];rfl
    ·rw [decide_eq_false (by omega),decide_eq_true h];rfl
   rw [this,zA];rfl
  ·rw [if_neg hk];have hk1:1 <= (yK b).1 /\ (yK b).1 <= 9:=by omega
   rw [decide_eq_false (by omega),cond_false,zA,decide_eq_false (by omega),cond_false];have hl2:(((yK b).2.1,0):RS).1.length <= 500000:=by show (yK b).2.1.length <= 500000;omega
   obtain ⟨m1,m2,m3⟩:=Um hk1 hO hl2
   generalize (yK b).1 = k at hk1 m1 m2 m3 ⊢
   generalize (yK b).2.1 = B at hB hO hl2 m1 m2 m3 ⊢
   have hl3:((B,0):RS).1.length <= 500000:=hl2;obtain ⟨o1,l1,v1,w1⟩:=QA hO;obtain ⟨o2,l2,_⟩:=x6a hO;obtain ⟨o3,l3,v3,w3⟩:=QA o2;have st:=Sim.start B
   -- slot and try
   obtain ⟨a1,e1,s1⟩:=N.Vw hB st;obtain ⟨a2,e2,s2⟩:=N.uT hB s1;have eS:((det (zQ B 0 0)).bind fun y14=>(det (zE y14.2.1 y14.2.2.1 y14.2.2.2)).bind fun y16=>pure (y16.2.1,y16.2.2.1,y16.2.2.2,y14.1,y16.1)) = pure (B,a2,(Jq (B,0)).2,(qL (B,0)).1,(qL (B,0)).2):=by
    rw [show zQ B 0 0 = _ from e1,zB,zA,e2,zB,zA];rfl
   -- device and epoch, wherever one stands
   have dev:∀ {a:Int} {t:RS},N.Ok t -> Sim B a t -> ∃ a',((det (zY 65535 B a t.2)).bind fun y24=>(det (zE y24.2.1 y24.2.2.1 y24.2.2.2)).bind fun y26=>pure (y26.2.1,y26.2.2.1,y26.2.2.2,IntKind.u16.wrap y24.1,y26.1)) = pure (B,a',(Jw t).2,(qz t).1,(qz t).2) /\ Sim B a' (Jw t):=fun {a t} hO h=>by
    obtain ⟨h1,h2,h3⟩:=N.ZP hO (m:=65535) (by omega);obtain ⟨b1,f1,t1⟩:=N.zNa hB h 65535;obtain ⟨b2,f2,t2⟩:=N.uT hB t1;refine ⟨b2,?_,t2⟩;rw [f1,zB,zA,f2,zB,zA,wU16 h2 h3];rfl
   obtain ⟨a3,e3,s3⟩:=dev hO st;have e3':((det (zY 65535 B 0 0)).bind fun y24=>(det (zE y24.2.1 y24.2.2.1 y24.2.2.2)).bind fun y26=>pure (y26.2.1,y26.2.2.1,y26.2.2.2,IntKind.u16.wrap y24.1,y26.1)) = pure (B,a3,(Jw (B,0)).2,(qz (B,0)).1,(qz (B,0)).2):=e3;obtain ⟨a4,e4,s4⟩:=dev o2 s2;obtain ⟨a5,e5,s5⟩:=N.Vw hB s3;obtain ⟨a6,e6,s6⟩:=D.zXa hB o1 s3;obtain ⟨a7,e7,s7⟩:=G.ypa hB o3 s4 (by omega);obtain ⟨a8,e8,s8⟩:=G.ypa hB o1 s3 (by omega);have o8:=je o1;have o6:=(D.yE o1).1;obtain ⟨a9,e9,s9⟩:=D.zXa hB o8 s8;obtain ⟨a10,e10,s10⟩:=E.qw hB o6 s6 (most:=4) (by omega);unfold Zr at m1 m3 ⊢;rcases kinds hk1 with e | e | e | e | e | e | e | e | e
   all_goals
    simp only [e,Int.reduceEq,Int.reduceLE,decide_true,decide_false,Bool.not_true,Bool.not_false,cond_true,cond_false,zA,if_true,if_false,eS,e3',e4,e5,e6,e7,e8,e9,e10,zB] at m1 m3 ⊢
   ·exact zaa hB m3 s2 m1
   ·exact zaa hB m3 s7 m1
   ·exact zaa hB m3 s6 m1
   ·exact zaa hB m3 s9 m1
   ·exact zaa hB m3 s10 m1
   ·exact zaa hB m3 s6 m1
   ·exact zaa hB m3 s6 m1
   ·exact zaa hB m3 s3 m1
   ·exact zaa hB m3 s5 m1
 ·rw [decide_eq_false h0,if_pos (by simpa using h0)];rfl
theorem Zja {b:List Int} (hb:okB b) (hl:b.length <= 500005):OkM (decM b).1:=by
 unfold decM
 split
 ·exact jf
 ·rename_i h0
  split
  ·exact jf
  ·rename_i hk
   obtain ⟨q1,q2,q3,q4,q5⟩:=x5a hb (by simpa using h0);have hlen:(yK b).2.1.length + 5 = b.length:=by
    have:=congrArg List.length q1;unfold uI at this;rw [List.length_append,List.length_cons] at this;have h4:(four (XG ((yK b).1 :: (yK b).2.1))).length = 4:=rfl;omega
   have hB:OkB (yK b).2.1:=⟨Jp q2,by omega⟩
   have m1:=(Um (k:=(yK b).1) (by omega) hB.ok (by show (yK b).2.1.length <= 500000;omega)).1;unfold finM
   split
   ·exact jf
   ·split
    ·exact m1
    ·exact jf
theorem same27 {m:TMsg} (h:OkM m):Vb m m = pure true:=by
 unfold Vb;have hd:Va m.delta m.delta = pure true:=G.same20 h.delta;simp only [C.Zi _ _ h.have_ h.have_,C.Zi _ _ h.front h.front,hd,zB,zA,decide_true,cond_true]
 rfl
theorem mcodeReads_eq (b:List Int) (k:Int) (hb:∀ x ∈ b,0 <= x /\ x <= 255) (hk:0 <= k /\ k <= 255):vl b k = pure true:=by
 unfold vl;rw [works28]
 by_cases hl:1500 < b.length
 ·rw [decide_eq_true (show (1500:Int) < (b.length:Int) by omega),cond_true,zB,zA]
 rw [decide_eq_false (show ¬ (1500:Int) < (b.length:Int) by omega),cond_false];have ho:okB b:=by_okB hb;have hs:=vHa k b ⟨hk.1,by omega⟩ ho (by omega);have ho2:okB (uI k b):=vKa ⟨hk.1,by omega⟩ ho;have hl2:(uI k b).length <= 500005:=by
  unfold uI;rw [List.length_append,List.length_cons];have h4:(four (XG (k :: b))).length = 4:=rfl;omega
 rw [yqa ho (by omega),zB,zA,QB ho (by omega),zB,zA,hs,zB,zA,yqa ho2 hl2,zB,zA,QB ho2 hl2,zB,zA,same27 (Zja ho (by omega)),same27 (Zja ho2 hl2)];simp only [zB,zA,decide_true,cond_true]
end Go.Ep.M.U

namespace Go.Ep
open Go.RowKit Go.ChangeShapes Go.WideShapes

abbrev All : Nat -> Prop:=fun _=>True

mutual
def yra {H:Type}:DataW H -> Nat
 | .lit (.string bytes)=>bytes.length + 1
 | .lit _=>1
 | .nil=>1
 | .ptr d=>yra d + 1
 | .slice elems spare=>vg elems + vg spare + 1
 | .agg parts=>vg parts + 1
 | .iface _ d=>yra d + 1
 | .map entries=>Js entries + 1
 | .held _=>1
def vg {H:Type}:List (DataW H) -> Nat
 | []=>0
 | d :: r=>yra d + vg r
def Js {H:Type}:List (Lit × DataW H) -> Nat
 | []=>0
 | x :: r=>Zka x + Js r
def Zka {H:Type}:Lit × DataW H -> Nat
 | (.string bytes,d)=>bytes.length + yra d + 1
 | (_,d)=>yra d + 1
end
theorem vMa {H:Type} (d:DataW H):1 <= yra d:=by
 cases d with
 | lit l=>cases l <;> simp [yra]
 | nil=>simp [yra]
 | ptr d=>simp [yra]
 | slice elems spare=>simp [yra]
 | agg parts=>simp [yra]
 | iface t d=>simp [yra]
 | map entries=>simp [yra]
 | held h=>simp [yra]
theorem x8a {H:Type} (l r:List (DataW H)):vg (l ++ r) = vg l + vg r:=by
 induction l with
 | nil=>simp [vg]
 | cons x l ih=>simp only [List.cons_append,vg,ih];omega
def szL {α:Type} (sz:α -> Nat):List α -> Nat
 | []=>0
 | a :: r=>sz a + szL sz r
theorem szL_app {α:Type} (sz:α -> Nat) (l r:List α):szL sz (l ++ r) = szL sz l + szL sz r:=by
 induction l with
 | nil=>simp [szL]
 | cons x l ih=>simp only [List.cons_append,szL,ih];omega
structure Opn (P:Program) (t:TypeId) (k:Nat) {α:Type} (enc:α -> List DV) (ok:α -> Prop) (sz:α -> Nat):Prop where
 cells:P.cellsOf t = k
 op:∀ {H:Type} {en:TypeId × Value -> H} {w:World} {fuel:Nat} {cs:List Value} {x:DataW H × List MemPlace},DataW.trod en P w 0 (fun _=>true) true fuel t cs = some x ->
  ∃ a,ok a /\ cs.length = k /\ (enc a).length = k /\ (∀ (j:Nat) (y:DV) (u:Value),(enc a)[j]? = some y -> cs[j]? = some u -> DRd w All y u) /\ sz a <= yra x.1

section
variable {P:Program} {t:TypeId}

theorem Opn.map {k:Nat} {α β:Type} {enc:α -> List DV} {enc':β -> List DV} {ok:α -> Prop} {ok':β -> Prop} {sz:α -> Nat} {sz':β -> Nat} (h:Opn P t k enc ok sz) (f:α -> β) (he:∀ a,ok a -> enc' (f a) = enc a) (ho:∀ a,ok a -> ok' (f a)) (hz:∀ a,sz' (f a) <= sz a):Opn P t k enc' ok' sz':=
 ⟨h.cells,fun hx=>let ⟨a,h1,h2,h3,h4,h5⟩:=h.op hx;⟨f a,ho a h1,h2,by rw [he a h1];exact h3,by rw [he a h1];exact h4,Nat.le_trans (hz a) h5⟩⟩

theorem x9a {w:World} {y:DV} {u:Value} (h:DRd w All y u):∀ (j:Nat) (y':DV) (u':Value),[y][j]? = some y' -> [u][j]? = some u' -> DRd w All y' u':=by
 intro j y' u' h1 h2
 cases j with
 | zero=>simp at h1 h2;subst h1;subst h2;exact h
 | succ j=>simp at h1

def okK (k:IntKind) (n:Int):Prop:=(Lit.int k n).wf = true
theorem Opn.int {k:IntKind} (hu:P.underlying t = some (.int k)) (hc:P.cellsOf t = 1):Opn P t 1 (eK k) (okK k) (fun _=>1):=by
 refine ⟨hc,fun {H en w fuel cs x} h=>?_⟩
 cases fuel with
 | zero=>simp [DataW.trod] at h
 | succ fuel=>
  unfold DataW.trod at h;rw [hu] at h
  split at h <;> simp_all
  case h_2 n _=>
   obtain ⟨⟨h1,h2⟩,_⟩:=h;subst h1;refine ⟨n,h2,rfl,?_,vMa _⟩;intro j y u h1 h3;exact x9a (.v _ rfl) j y u h1 h3
theorem okU8 {n:Int} (h:okK .u8 n):0 <= n /\ n < 256:=by
 simp [okK,Lit.wf,IntKind.min,IntKind.max,IntKind.signed,IntKind.bits] at h;omega
theorem Opn.slice {e:TypeId} {k:Nat} {α:Type} {enc:α -> List DV} {ok:α -> Prop} {sz:α -> Nat} (h:Opn P e k enc ok sz) (hu:P.underlying t = some (.slice e)) (hc:P.cellsOf t = 1) (hk:0 < k) :
  Opn P t 1 (eL enc) (fun l=>l.length <= 9223372036854775807 /\ ∀ a ∈ l,ok a) (fun l=>szL sz l + 1):=by
 refine ⟨hc,fun {H en w fuel cs x} hx=>?_⟩;rcases Deep.open_slice hu hx with ⟨rfl,_⟩ | ⟨a,len,cap,m,n,D,Pl,rfl,_,hl,hm,hmm,hxD,hel⟩
 ·exact ⟨[],⟨Nat.zero_le _,by simp⟩,rfl,rfl,x9a (.nil none 0 (Nat.zero_le _) (fun _=>rfl)),vMa _⟩
 simp only [if_true] at hmm;subst hmm;rw [h.cells] at hel;have hcut:∀ n0,n0 <= len -> ∃ l:List α,l.length = n0 /\ (∀ a ∈ l,ok a) /\ szL sz l <= vg ((List.range n0).map D) /\ ∀ (i:Nat) (b:α),l[i]? = some b -> (enc b).length = k /\ ∀ (j:Nat) (y:DV),(enc b)[j]? = some y -> ∃ u,w.cell? (a.add (i * k + j)) = some u /\ DRd w All y u:=by
  intro n0
  induction n0 with
  | zero=>intro _;exact ⟨[],rfl,by simp,by simp [szL],by simp⟩
  | succ n0 ih=>
   intro hn;obtain ⟨l,h1,h2,hz,h3⟩:=ih (by omega);obtain ⟨cs',hc',ht'⟩:=hel n0 (by omega);obtain ⟨b,hb1,hb2,hb3,hb4,hb5⟩:=h.op ht';obtain ⟨_,_,hcell⟩:=World.cells?_some hc';refine ⟨l ++ [b],by simp [h1],?_,by rw [szL_app,List.range_succ,List.map_append,x8a];simp only [szL,List.map_cons,List.map_nil,vg];simp only at hb5;omega,?_⟩
   ·intro a ha;rcases List.mem_append.1 ha with ha | ha
    ·exact h2 a ha
    ·simp at ha;subst ha;exact hb1
   ·intro i b' hi;rw [List.getElem?_append] at hi
    split at hi
    ·exact h3 i b' hi
    ·rename_i hge
     have hi0:i = n0:=by
      have:i - l.length < 1:=by simpa using (List.getElem?_eq_some_iff.1 hi).1
      omega
     subst hi0;simp [h1] at hi;subst hi;refine ⟨hb3,fun j y hy=>?_⟩;have hj:j < k:=by rw [<- hb3];exact (List.getElem?_eq_some_iff.1 hy).1
     have hcj:=hcell j hj;rw [Deep.add_add] at hcj;have hu':cs'[j]? = some (cs'[j]'(by omega)):=List.getElem?_eq_getElem (by omega);exact ⟨_,by rw [hcj,hu'],hb4 j y _ hy hu'⟩
 obtain ⟨l,h1,h2,hz,h3⟩:=hcut len (Nat.le_refl _);refine ⟨l,⟨by unfold maxLen at hm;omega,h2⟩,rfl,rfl,x9a ?_,?_⟩
 rotate_left
 ·rw [hxD];simp only [yra];omega
 by_cases h0:len = 0
 ·have:l = []:=List.eq_nil_of_length_eq_zero (by omega);subst this;subst h0;exact .nil _ _ hm (fun e=>by cases e)
 ·-- the first cell tells that the address is a plain one
  have hl0:0 < l.length:=by omega
  obtain ⟨hk0,hc0⟩:=h3 0 _ (List.getElem?_eq_getElem hl0);obtain ⟨u0,hu0,_⟩:=hc0 0 _ (List.getElem?_eq_getElem (by omega:0 < (enc l[0]).length));have hspot:a.spot = none:=by simpa [Addr.add] using World.cell?_spot hu0
  obtain ⟨b,off,spot⟩:=a;simp only at hspot;subst hspot;have hb:b < w.heap.size:=by
   rw [Addr.add_lit] at hu0;unfold World.cell? at hu0
   cases hh:w.heap[b]? with
   | none=>simp [hh] at hu0
   | some o=>exact (Array.getElem?_eq_some_iff.1 hh).1
  have hlen:(l.map enc).length = len:=by simp [h1]
  rw [<- hlen];refine .sl _ b off m k (fun i j=>(w.cell? ⟨b,off + (i * k + j),none⟩).getD undef) (by omega) hm trivial hb ?_ ?_ ?_
  ·intro i cs hi;rw [List.getElem?_map] at hi
   cases hx:l[i]? with
   | none=>simp [hx] at hi
   | some y=>simp [hx] at hi;subst hi;exact (h3 i y hx).1
  ·intro i j hi hj;have hil:i < l.length:=by simpa using hi
   obtain ⟨e1,e2⟩:=h3 i _ (List.getElem?_eq_getElem hil);obtain ⟨u,hu,_⟩:=e2 j _ (List.getElem?_eq_getElem (by omega:j < (enc l[i]).length));rw [Addr.add_lit] at hu;simp [hu]
  ·intro i cs j x hi hx;rw [List.getElem?_map] at hi
   cases hy:l[i]? with
   | none=>simp [hy] at hi
   | some y=>
    simp [hy] at hi;subst hi;obtain ⟨u,hu,hd⟩:=(h3 i y hy).2 j x hx;rw [Addr.add_lit] at hu;simpa [hu] using hd

structure OpnF (P:Program) (fs:List Field) (off k:Nat) {α:Type} (enc:α -> List DV) (ok:α -> Prop) (sz:α -> Nat):Prop where
 op:∀ {H:Type} {en:TypeId × Value -> H} {w:World} {n:Nat} {cs:List Value} {xs:List (DataW H × List MemPlace)},xs.length = fs.length ->
  (∀ (i:Nat) (f:Field),fs[i]? = some f -> DataW.trod en P w 0 (fun _=>true) true n f.type ((cs.drop f.offset).take (P.cellsOf f.type)) = xs[i]?) ->
  ∃ a,ok a /\ (enc a).length = k /\ (∀ (j:Nat) (y:DV) (u:Value),(enc a)[j]? = some y -> cs[off + j]? = some u -> DRd w All y u) /\ sz a <= vg (xs.map (·.1))

theorem OpnF.nil (off:Nat):OpnF P [] off 0 (fun _:Unit=>[]) (fun _=>True) (fun _=>0):=⟨fun _ _=>⟨(),trivial,rfl,by simp,Nat.zero_le _⟩⟩
theorem OpnF.cons {f:Field} {fs:List Field} {off k1 k2:Nat} {α β:Type} {e1:α -> List DV} {o1:α -> Prop} {e2:β -> List DV} {o2:β -> Prop} {z1:α -> Nat} {z2:β -> Nat} (h1:Opn P f.type k1 e1 o1 z1) (ho:f.offset = off) (h2:OpnF P fs (off + k1) k2 e2 o2 z2) :
  OpnF P (f :: fs) off (k1 + k2) (fun p:α × β=>e1 p.1 ++ e2 p.2) (fun p=>o1 p.1 /\ o2 p.2) (fun p=>z1 p.1 + z2 p.2):=by
 refine ⟨fun {H en w n cs xs} hlen hx=>?_⟩
 cases xs with
 | nil=>simp at hlen
 | cons x xs=>
  have hx0:=hx 0 f rfl;simp only [List.getElem?_cons_zero] at hx0;obtain ⟨a,ha1,ha2,ha3,ha4,ha5⟩:=h1.op hx0;obtain ⟨b,hb1,hb2,hb3,hb4⟩:=h2.op (xs:=xs) (by simpa using hlen) (fun i f' hf=>by have:=hx (i + 1) f' (by simpa using hf);simpa using this);refine ⟨(a,b),⟨ha1,hb1⟩,by simp [ha3,hb2],?_,by simp only [List.map_cons,vg];omega⟩;intro j y u hy hu;simp only [List.getElem?_append] at hy
  by_cases hj:j < k1
  ·rw [if_pos (by omega)] at hy;refine ha4 j y u hy ?_;rw [List.getElem?_take,h1.cells,if_pos hj,List.getElem?_drop,ho];exact hu
  ·rw [if_neg (by omega),ha3] at hy;refine hb3 (j - k1) y u hy ?_;rw [<- hu]
   congr 1
   omega
theorem Opn.arg {H:Type} {en:TypeId × Value -> H} {w:World} {v:Value} {d:DataW H} {ps:List MemPlace} {α:Type} {enc:α -> DV} {ok:α -> Prop} {sz:α -> Nat} (h:Opn P t 1 (fun a=>[enc a]) ok sz)
  (hx:DataW.Trod en P w 0 (fun _=>true) true t v d ps) (h1:v.oneCell' = true):∃ a,ok a /\ Rd w g0 All (.d (enc a)) v /\ sz a <= yra d:=by
 obtain ⟨fuel,hf⟩:=hx;obtain ⟨a,ha,_,_,hr,hz⟩:=h.op hf;have hcs:v.cells.toList = [v]:=by cases v <;> first | rfl | (simp [Value.oneCell'] at h1;done)
 exact ⟨a,ha,.d (hr 0 _ v rfl (by rw [hcs];rfl)),hz⟩
theorem UI {H:Type} {en:TypeId × Value -> H} (hl:laidOutB P = true) {W W':World} (hb:Below W.heap.size W W'):∀ {ts:List TypeId} {vs:List Value} {ds:List (DataW H)} {ps:List MemPlace},
  (∀ t ∈ ts,P.readableRec t = true /\ t < P.types.size) -> DataW.TrodAll en P W 0 (fun _=>true) true ts vs ds ps -> (∀ x ∈ ps,x.block < W.heap.size) -> DataW.TrodAll en P W' 0 (fun b=>decide (b < W.heap.size)) true ts vs ds ps
 | [],[],[],ps,_,h,_=>h
 | t :: ts,v :: vs,d :: ds,ps,hr,h,hlt=>by
  obtain ⟨p,q,h1,h2,rfl⟩:=h;have hrt:=hr t (by simp);exact ⟨p,q,Below.trod hl hrt.1 hrt.2 h1 hb (fun x hx=>hlt x (List.mem_append.2 (.inl hx))),UI hl hb (fun t ht=>hr t (by simp [ht])) h2 (fun x hx=>hlt x (List.mem_append.2 (.inr hx))),rfl⟩
 | [],[],_ :: _,_,_,h,_=>h.elim
 | [],_ :: _,_,_,_,h,_=>h.elim
 | _ :: _,[],_,_,_,h,_=>h.elim
 | _ :: _,_ :: _,[],_,_,h,_=>h.elim
theorem Jt {H:Type} {en:TypeId × Value -> H} {w:World} {base:Nat} {sp:Nat -> Bool} {hd:Bool}:∀ {ts:List TypeId} {vs:List Value} {ds:List (DataW H)} {ps:List MemPlace},DataW.TrodAll en P w base sp hd ts vs ds ps -> ds.length = ts.length
 | [],[],[],_,_=>rfl
 | _ :: _,_ :: _,_ :: _,_,h=>by
  obtain ⟨_,_,_,h2,_⟩:=h;simp [Jt h2]
 | [],[],_ :: _,_,h=>h.elim
 | [],_ :: _,_,_,h=>h.elim
 | _ :: _,[],_,_,h=>h.elim
 | _ :: _,_ :: _,[],_,h=>h.elim

theorem Zla {H:Type} {en:TypeId × Value -> H} {fn:Func} {s:ChangeSpec} {tb:TypeId} {W W':World} {args:Array Value} {ds gs:List (DataW H)} {before:List MemPlace} (hl:laidOutB P = true)
  (hW:DataW.Whole en P fn.params.toList s.vars false W args.toList ds gs before) (hv:s.vars = []) (hs:∀ ds:List (DataW H),ds.length = fn.params.size -> (s.fn H ds).results = [.lit (.bool true)] /\ (s.fn H ds).args = ds /\ (s.fn H ds).vars = [])
  (hres:fn.resultTypes = #[tb]) (htb:P.underlying tb = some .bool) (hr:∀ t ∈ fn.params.toList,P.readableRec t = true /\ t < P.types.size) (hb:Below W.heap.size W W') :
  s.post en P fn false true false false W args (.bool true) W':=by
 have hW':=hW;obtain ⟨p,q,hA,hV,hpq,hfz,hnd⟩:=hW;rw [hv] at hV;obtain ⟨rfl,rfl⟩:=trodVars_none hV;simp only [List.append_nil] at hpq;subst hpq;have hlt:∀ x ∈ before,x.block < W.heap.size:=fun x hx=>by simpa using hW'.lt x hx
 have hlen:ds.length = fn.params.size:=by simpa using Jt hA
 obtain ⟨e1,e2,e3⟩:=hs (ds ++ []) (by simpa using hlen);refine ⟨ds,[],before,[],before,[],hW',?_,?_,?_,hb.frame _,fun h=>by cases h⟩
 ·rw [e1,hres];exact trodAll_mk1 (shut_bool htb true)
 ·rw [e2,List.append_nil];exact UI hl hb hr hA hlt
 ·rw [e3,hv];rfl
end
end Go.Ep

namespace Go.Ep
set_option linter.unusedVariables false

def DT.ok (x:DT):Prop:=okK .u16 x.dev /\ okK .u64 x.n
def DT.sz (x:DT):Nat:=(1 + (1 + 0)) + 1
def RN.ok (x:RN):Prop:=okK .u64 x.lo /\ okK .u64 x.hi
def RN.sz (x:RN):Nat:=(1 + (1 + 0)) + 1
def PT.ok (x:PT):Prop:=okK .u16 x.dev /\ (x.runs.length <= 9223372036854775807 /\ ∀ a ∈ x.runs,RN.ok a)
def PT.sz (x:PT):Nat:=(1 + ((szL RN.sz x.runs + 1) + 0)) + 1
def EV.ok (x:EV):Prop:=DT.ok x.dot /\ okK .u8 x.kind /\ okK .u64 x.cid /\ okK .u8 x.field /\ ByteArray.size x.text <= 9223372036854775807 /\ (x.kills.length <= 9223372036854775807 /\ ∀ a ∈ x.kills,DT.ok a)
def EV.sz (x:EV):Nat:=(DT.sz x.dot + (1 + (1 + (1 + ((ByteArray.size x.text + 1) + ((szL DT.sz x.kills + 1) + 0)))))) + 1
def DL.ok (x:DL):Prop:=(x.from_.length <= 9223372036854775807 /\ ∀ a ∈ x.from_,PT.ok a) /\ (x.to_.length <= 9223372036854775807 /\ ∀ a ∈ x.to_,PT.ok a) /\ (x.events.length <= 9223372036854775807 /\ ∀ a ∈ x.events,EV.ok a)
def DL.sz (x:DL):Nat:=((szL PT.sz x.from_ + 1) + ((szL PT.sz x.to_ + 1) + ((szL EV.sz x.events + 1) + 0))) + 1
def TMsg.ok (x:TMsg):Prop:=okK .u8 x.kind /\ okK .u8 x.slot /\ okK .u64 x.try_ /\ okK .u16 x.dev /\ okK .u64 x.epoch /\ okK .u8 x.why /\ (x.have_.length <= 9223372036854775807 /\ ∀ a ∈ x.have_,PT.ok a) /\ (x.front.length <= 9223372036854775807 /\ ∀ a ∈ x.front,PT.ok a) /\ DL.ok x.delta
def TMsg.sz (x:TMsg):Nat:=(1 + (1 + (1 + (1 + (1 + (1 + ((szL PT.sz x.have_ + 1) + ((szL PT.sz x.front + 1) + (DL.sz x.delta + 0))))))))) + 1
end Go.Ep
namespace Go.Proofs
open Go.Ep
set_option maxRecDepth 100000
end Go.Proofs


/- Side texts. -/
import Derived.Test.YthldiocaakcolaaGreatDoorNBa12
set_option linter.unusedVariables false
set_option linter.unusedSimpArgs false
namespace Go.Ep.M.F
open Go
open E (OkE zr)

def Xs (l:List DT) (d:DT):Bool:=l.any fun x=>decide (x = d)
theorem qG (l:List DT) (d:DT) (hl:l.length <= 1000000000000):qi l d = pure (Xs l d):=by
 unfold qi yR yu;have:=loopF (body:=yB l d) l (fun i=>(i:Int)) (fun _ x=>decide (x = d)) (fun i _=>Ex.ret (i:Int)) (pure (Ex.brk ())) (fun i x hx hi=>by
  have hd:decide ((i:Int) < (l.length:Int)) = true:=by simpa using hi
  unfold yB;simp only [hd,cond_true,zI hx,zA,D.xQa,yH (show i < 9223372036854775807 by omega),xw,eq_comm (a:=d) (b:=x),decide_eq_true_eq]) (by
  unfold yB;simp [zA])
 rw [show (0:Int) = ((0:Nat):Int) from rfl,this];have hf:(l.zipIdx.find? fun y=>decide (y.1 = d)).isSome = Xs l d:=by
  rw [List.isSome_find?];unfold Xs;rw [Bool.eq_iff_iff,List.any_eq_true,List.any_eq_true]
  constructor
  ·rintro ⟨y,hy,h⟩;exact ⟨y.1,List.fst_mem_of_mem_zipIdx hy,h⟩
  ·rintro ⟨x,hx,h⟩;obtain ⟨i,hi⟩:=List.getElem?_of_mem hx;exact ⟨(x,i),by rw [List.mk_mem_zipIdx_iff_getElem?];exact hi,h⟩
 rw [<- hf]
 cases l.zipIdx.find? fun y=>decide (y.1 = d) with
 | none=>simp only [zA,zB,xz];rfl
 | some y=>simp only [zA,zB,wb];simp
def vu (l:List EV) (d:DT):Bool:=l.any fun e=>Xs e.kills d
theorem Dead_eq (l:List EV) (d:DT) (hl:l.length <= 1000000000000) (hk:∀ e ∈ l,e.kills.length <= 1000000000000):XQ l d = pure (vu l d):=by
 unfold XQ;have:=yo (body:=vz l d) l (fun i=>(i:Int)) (fun _ x=>!Xs x.kills d) (Ex.brk ()) (Ex.ret true) (fun i x hx hi=>by
  have hd:decide ((i:Int) < (l.length:Int)) = true:=by simpa using hi
  unfold vz WL;simp only [hd,cond_true,zI hx,zA,qG x.kills d (hk x (List.mem_of_getElem? hx)),zB,yH (show i < 9223372036854775807 by omega)]
  cases Xs x.kills d <;> rfl) (by
  unfold vz;simp)
 rw [show (0:Int) = ((0:Nat):Int) from rfl,this,zA,E.ZR l fun x=>!Xs x.kills d];have e:vu l d = !(l.all fun x=>!Xs x.kills d):=by simp [vu,List.all_eq_not_any_not]
 rw [e]
 cases l.all fun x=>!Xs x.kills d <;> rfl
theorem rDead_eq (l:List EV) (d:DT) (hl:l.length <= 1000000000000) (hk:∀ e ∈ l,e.kills.length <= 1000000000000):VB l d = pure (vu l d):=by
 unfold VB;have:=yo (body:=YE l d) l (fun i=>(i:Int)) (fun _ x=>!Xs x.kills d) (Ex.brk ()) (Ex.ret true) (fun i x hx hi=>by
  have hd:decide ((i:Int) < (l.length:Int)) = true:=by simpa using hi
  unfold YE;simp only [hd,cond_true,zI hx,zA,E.UB x.kills d (hk x (List.mem_of_getElem? hx)),zB,yH (show i < 9223372036854775807 by omega)];show cond (Xs x.kills d) _ _ = _
  cases Xs x.kills d <;> rfl) (by
  unfold YE;simp)
 rw [show (0:Int) = ((0:Nat):Int) from rfl,this,zA,E.ZR l fun x=>!Xs x.kills d];have e:vu l d = !(l.all fun x=>!Xs x.kills d):=by simp [vu,List.all_eq_not_any_not]
 rw [e]
 cases l.all fun x=>!Xs x.kills d <;> rfl

def vKa (l:List DT) (c:List PT):List DT:=D.wO (l.filter fun d=>!C.xp c d.dev d.n)
theorem Drop_eq (l : List DT) (c : List PT) (hl : l.length <= 1000000000) (hc : C.Sm c) : XS l c = pure (vKa l c) := by
  unfold XS Vm;have := Yy (body := uA l c false) l (fun i t => ((i : Int), t)) (fun t d => if C.xp c d.dev d.n = true then t else t ++ [d]) (fun t => pure t) (fun i t => t.length <= i) (fun i x t hx hi hI => by
    have hd : decide ((i : Int) < (l.length : Int)) = true := by simpa using hi
    refine ⟨?_, by split
                   · omega
                   · simp; omega⟩
    unfold uA;simp only [hd, cond_true, zI hx, zA, C.qG c x hc, zB, yH (show i < 9223372036854775807 by omega)]
    by_cases c : C.xp c x.dev x.n = true
    · rw [c, show (true == false) = false from rfl, cond_false, zA, if_pos rfl]
    · simp only [Bool.not_eq_true] at c;rw [c, show (false == false) = true from rfl, cond_true, zC (by simp; omega), zA]; rfl) (fun t _ => by
    unfold uA;simp [zA]) [] (by simp)
  have key : ∀ (l t : List DT), l.foldl (fun t d => if C.xp c d.dev d.n = true then t else t ++ [d]) t = t ++ l.filter fun d => !C.xp c d.dev d.n := by
    intro l
    induction l with
    | nil => intro t; simp
    | cons x r ih =>
      intro t;rw [List.foldl_cons, ih]
      by_cases h : C.xp c x.dev x.n = true
      · rw [if_pos h, List.filter_cons, if_neg (by simp [h])]
      · rw [if_neg h, List.filter_cons, if_pos (by simp [h]), List.append_assoc]; rfl
  rw [show (0 : Int) = ((0 : Nat) : Int) from rfl, this, zA, key, List.nil_append, D.xRa _ (by have := List.length_filter_le (fun d : DT => !C.xp c d.dev d.n) l; omega), zB, zA, zB, zA, vKa]
theorem rDrop_eq (l : List DT) (c : List PT) (hl : l.length <= 1000000000) (hc : C.Ok c) : Uo l c = pure (vKa l c) := by
  unfold Uo;have := Yy (body := YF l c) l (fun i t => (t, (i : Int))) (fun t d => if C.xp c d.dev d.n = true then t else D.zFa t d) (fun t => pure t) (fun i t => t.length <= i) (fun i x t hx hi hI => by
    have hd : decide ((i : Int) < (l.length : Int)) = true := by simpa using hi
    refine ⟨?_, by split
                   · omega
                   · have := D.Qk t x; omega⟩
    unfold YF;simp only [hd, cond_true, zI hx, zA, C.UB c x hc, zB, yH (show i < 9223372036854775807 by omega)]
    by_cases c : C.xp c x.dev x.n = true
    · rw [c, Bool.not_true, cond_false, zA, if_pos rfl]
    · simp only [Bool.not_eq_true] at c;rw [c, Bool.not_false, cond_true, D.xOa t x (by omega), zB, zA, zA]; rfl) (fun t _ => by
    unfold YF;simp [zA]) [] (by simp)
  have key : ∀ (l t : List DT), l.foldl (fun t d => if C.xp c d.dev d.n = true then t else D.zFa t d) t = (l.filter fun d => !C.xp c d.dev d.n).foldl D.zFa t := by
    intro l
    induction l with
    | nil => intro t; rfl
    | cons x r ih =>
      intro t;rw [List.foldl_cons, ih]
      by_cases h : C.xp c x.dev x.n = true
      · rw [if_pos h, List.filter_cons, if_neg (by simp [h])]
      · rw [if_neg h, List.filter_cons, if_pos (by simp [h])]; rfl
  rw [show (0 : Int) = ((0 : Nat) : Int) from rfl, this, zA, key]; rfl

def zp (l:List EV):List DT:=l.flatMap fun e=>e.dot :: e.kills
def vO (l:List EV):List DT:=D.wO (zp l)
theorem wVa (l:List EV) (k:Nat) (h:∀ e ∈ l,e.kills.length <= k):(zp l).length <= l.length * (k + 1):=by
 induction l with
 | nil=>simp [zp]
 | cons e r ih=>
  have h1:=ih fun x hx=>h x (by simp [hx])
  have h2:=h e (by simp);have e1:(zp (e :: r)).length = e.kills.length + 1 + (zp r).length:=by simp [zp];omega
  rw [e1,List.length_cons,Nat.add_mul];omega
theorem JL {l:List EV} {i:Nat} {x:EV} (h:l[i]? = some x):zp (l.take (i + 1)) = zp (l.take i) ++ x.dot :: x.kills:=by
 rw [List.take_add_one,h];simp [zp]
theorem yPa (l:List EV) (i:Nat):(zp (l.take i)).length <= (zp l).length:=by
 have:zp l = zp (l.take i) ++ zp (l.drop i):=by unfold zp;rw [<- List.flatMap_append,List.take_append_drop]
 rw [this,List.length_append];omega
theorem xUa (l:List EV) (hl:l.length <= 1000000000) (hs:(zp l).length <= 1000000000):XT l = pure (vO l):=by
 unfold XT;have key:∀ (k i:Nat),i + k = l.length -> loop (uB l) ((i:Int),zp (l.take i)) = pure (zp l):=by
  intro k
  induction k with
  | zero=>
   intro i hi;refine zW ?_;unfold uB;have:decide ((i:Int) < (l.length:Int)) = false:=by simp;omega
   simp only [this,cond_false];rw [List.take_of_length_le (by omega)]
  | succ k ih=>
   intro i hi;obtain ⟨x,hx⟩:∃ x,l[i]? = some x:=⟨_,List.getElem?_eq_getElem (by omega)⟩
   have hd:decide ((i:Int) < (l.length:Int)) = true:=by simp;omega
   have h1:=yPa l (i + 1);rw [JL hx,List.length_append,List.length_cons] at h1;rw [zg (s':=(((i + 1:Nat):Int),zp (l.take (i + 1)))) ?_]
   ·exact ih (i + 1) (by omega)
   ·unfold uB;simp only [hd,cond_true,zI hx,zA,yH (show i < 9223372036854775807 by omega)];rw [zC (by simp;omega),zC (by simp;omega),JL hx,List.append_assoc];rfl
 have:=key l.length 0 (by omega);rw [show zp (l.take 0) = [] from rfl] at this;rw [show (0:Int) = ((0:Nat):Int) from rfl,this,zA,D.xRa _ (by omega),zB,zA,vO]
theorem rdots_in (l:List EV) {i:Nat} {x:EV} (hx:l[i]? = some x) (hk:x.kills.length <= 1000000000) (s:List DT) (hs:s.length <= 1000000000):loop (ug l (i:Int)) (s,0) = pure (x.kills.foldl D.zFa s):=by
 have:=Yy (body:=ug l (i:Int)) x.kills (fun k t=>(t,(k:Int))) D.zFa (fun t=>pure t) (fun k t=>t.length <= 1000000000 + k) (fun k d t hd hi hI=>by
  have hc:decide ((k:Int) < (x.kills.length:Int)) = true:=by simpa using hi
  refine ⟨?_,by have:=D.Qk t d;omega⟩;unfold ug;simp only [zI hx,zA,hc,cond_true,zI hd,D.xOa t d (by omega),zB,yH (show k < 9223372036854775807 by omega)]) (fun t _=>by
  unfold ug;simp [zI hx,zA]) s (by omega)
 exact this
theorem rDots_eq (l:List EV) (hl:l.length <= 1000000) (hk:∀ e ∈ l,e.kills.length <= 300):Uq l = pure (vO l):=by
 unfold Uq;have key:∀ (k i:Nat),i + k = l.length -> loop (YG l) (D.wO (zp (l.take i)),(i:Int)) = pure (vO l):=by
  intro k
  induction k with
  | zero=>
   intro i hi;refine zW ?_;unfold YG;have:decide ((i:Int) < (l.length:Int)) = false:=by simp;omega
   simp only [this,cond_false];rw [List.take_of_length_le (by omega)];rfl
  | succ k ih=>
   intro i hi;obtain ⟨x,hx⟩:∃ x,l[i]? = some x:=⟨_,List.getElem?_eq_getElem (by omega)⟩
   have hd:decide ((i:Int) < (l.length:Int)) = true:=by simp;omega
   have h1:=yPa l i;have h2:=wVa l 300 hk;have h3:=D.jB (zp (l.take i));have h4:=D.Qk (D.wO (zp (l.take i))) x.dot;have h5:=hk x (List.mem_of_getElem? hx);rw [zg (s':=(D.wO (zp (l.take (i + 1))),((i + 1:Nat):Int))) ?_]
   ·exact ih (i + 1) (by omega)
   ·unfold YG;simp only [hd,cond_true,zI hx,zA,D.xOa _ x.dot (show (D.wO (zp (l.take i))).length <= 1000000000000 by omega),zB,rdots_in l hx (show x.kills.length <= 1000000000 by omega) _ (show (D.zFa (D.wO (zp (l.take i))) x.dot).length <= 1000000000 by omega),yH (show i < 9223372036854775807 by omega)];rw [JL hx];unfold D.wO;rw [List.foldl_append];rfl
 have:=key l.length 0 (by omega);rw [show D.wO (zp (l.take 0)) = [] from rfl] at this;rw [show (0:Int) = ((0:Nat):Int) from rfl,this,zA]

def xq (l:List EV) (i:Nat) (x:EV):Bool:=decide (0 < i) && match l[i - 1]? with | some y=>decide (0 <= V.yXa y.dot x.dot) | none=>false
theorem JM {β:Type} {l:List EV} {i:Nat} {x:EV} (hi:i < l.length) (hl:l.length <= 1000000000) (f:DT -> DT -> M Int) (hf:∀ a b,f a b = pure (V.yXa a b)) (K:Bool -> M β) :
  (cond (decide (0 < (i:Int))) ((idx l (IntKind.i64.wrap ((i:Int) - 1))).bind fun y=>(det (f y.dot x.dot)).bind fun v=>K (decide (0 <= v))) (K false)) = K (xq l i x):=by
 unfold xq
 by_cases h:0 < i
 ·obtain ⟨y,hy⟩:∃ y,l[i - 1]? = some y:=⟨_,List.getElem?_eq_getElem (by omega)⟩
  have e:IntKind.i64.wrap ((i:Int) - 1) = ((i - 1:Nat):Int):=by rw [YU (by omega) (by omega)];omega
  have hd:decide (0 < (i:Int)) = true:=by simp;omega
  rw [hd,cond_true,e,zI hy,zA,hf,zB,zA,decide_eq_true h,Bool.true_and,hy]
 ·have hd:decide (0 < (i:Int)) = false:=by simp;omega
  rw [hd,cond_false,decide_eq_false h,Bool.false_and]
def vWa (d:DL) (i:Nat) (e:EV):Bool:=!zr e || (xq d.events i e || (C.xp d.from_ e.dot.dev e.dot.n || (decide (e.kind = 1) && vu d.events e.dot)))
def yr (d:DL):Bool:=decide (d.from_ = C.zk d.from_) && (decide (d.to_ = C.zk d.to_) && (decide (C.opC (fun x y=>x && !y) d.from_ d.to_ = []) && (decide (d.events.length <= 4096) && ((d.events.zipIdx.all fun y=>!vWa d y.2 y.1) && decide (vKa (vO d.events) d.to_ = [])))))
structure OkD (d:DL):Prop where
 from_:C.Ok d.from_
 to_:C.Ok d.to_
 evs:∀ e ∈ d.events,OkE e
 len:d.events.length <= 1000000
 kills:∀ e ∈ d.events,e.kills.length <= 300
theorem UJ {α:Type} [DecidableEq α] (l:List α):decide ((l.length:Int) = 0) = decide (l = []):=by
 cases l with
 | nil=>rfl
 | cons x r=>simp;omega
theorem vLa {d:DL} (h:OkD d):loop (wh d) 0 = pure (if (d.events.zipIdx.all fun y=>!vWa d y.2 y.1) = true then Ex.brk () else Ex.ret false):=by
 have hl:=h.len;have:=yo (body:=wh d) d.events (fun i=>(i:Int)) (fun i x=>!vWa d i x) (Ex.brk ()) (Ex.ret false) (fun i x hx hi=>by
  have hd:decide ((i:Int) < (d.events.length:Int)) = true:=by simpa using hi
  have hm:=List.mem_of_getElem? hx;have hp:=fun (K:Bool -> M (Step Int (Ex Unit Bool)))=>JM (x:=x) hi (by omega) vF D.qJ K
  unfold wh;simp only [hd,cond_true,zI hx,zA,E.ZO (h.evs x hm),C.qG d.from_ x.dot h.from_.sm,Dead_eq d.events x.dot (by omega) (fun e he=>by have:=h.kills e he;omega),zB,yH (show i < 9223372036854775807 by omega)];have hp:=JM (x:=x) hi (by omega) vF D.qJ (fun b=>(pure b:M Bool));rw [hp];unfold vWa;simp only [zA]
  cases zr x with
  | false=>rfl
  | true=>
   cases C.xp d.from_ x.dot.dev x.dot.n with
   | true=>cases xq d.events i x <;> rfl
   | false=>
    cases xq d.events i x with
    | true=>rfl
    | false=>
     cases decide (x.kind = 1) with
     | false=>rfl
     | true=>cases vu d.events x.dot <;> rfl) (by
  unfold wh;simp)
 rw [show (0:Int) = ((0:Nat):Int) from rfl,this]
theorem xWa {d:DL} (h:OkD d):loop (uh d) 0 = pure (if (d.events.zipIdx.all fun y=>!vWa d y.2 y.1) = true then Ex.brk () else Ex.ret false):=by
 have hl:=h.len;have:=yo (body:=uh d) d.events (fun i=>(i:Int)) (fun i x=>!vWa d i x) (Ex.brk ()) (Ex.ret false) (fun i x hx hi=>by
  have hd:decide ((i:Int) < (d.events.length:Int)) = true:=by simpa using hi
  have hm:=List.mem_of_getElem? hx;unfold uh;simp only [hd,cond_true,zI hx,zA,E.wv (h.evs x hm),C.UB d.from_ x.dot h.from_,rDead_eq d.events x.dot (by omega) (fun e he=>by have:=h.kills e he;omega),zB,yH (show i < 9223372036854775807 by omega)];have hp:=JM (x:=x) hi (by omega) ZL V.Zh (fun b=>(cond b (pure true) (cond (C.xp d.from_ x.dot.dev x.dot.n) (pure true) (cond (decide (x.kind = 1)) (pure (vu d.events x.dot)) (pure false))):M Bool));refine (congrArg (fun m:M Bool=>M.bind (cond (!zr x) (pure true) m) fun v70=>cond v70 (pure (Step.done (Ex.ret false))) (pure (Step.next ((i + 1:Nat):Int)))) hp).trans ?_;unfold vWa
  cases zr x with
  | false=>rfl
  | true=>
   cases C.xp d.from_ x.dot.dev x.dot.n with
   | true=>cases xq d.events i x <;> rfl
   | false=>
    cases xq d.events i x with
    | true=>rfl
    | false=>
     cases decide (x.kind = 1) with
     | false=>rfl
     | true=>cases vu d.events x.dot <;> rfl) (by
  unfold uh;simp)
 rw [show (0:Int) = ((0:Nat):Int) from rfl,this]
theorem u7a (l:List EV):decide ((4096:Int) < (l.length:Int)) = !decide (l.length <= 4096):=by
 by_cases c:l.length <= 4096
 ·rw [decide_eq_true c];simp;omega
 ·rw [decide_eq_false c];simp;omega
theorem dlen {d:DL} (h:OkD d):(zp d.events).length <= 1000000000:=by have:=wVa d.events 300 h.kills;have:=h.len;omega
theorem Ve {d:DL} (h:OkD d):vG d = pure (yr d):=by
 have h1:=h.len;have h2:=dlen h;have h3:(vO d.events).length <= 1000000000:=Nat.le_trans (D.jB _) h2;unfold vG yr;rw [vLa h];simp only [C.ZO _ h.from_.sm,C.ZO _ h.to_.sm,C.jz _ _ h.from_.sm h.to_.sm,xUa d.events (by omega) h2,Drop_eq _ _ h3 h.to_.sm,zB,zA,u7a,UJ]
 cases decide (d.from_ = C.zk d.from_) with
 | false=>rfl
 | true=>
  cases decide (d.to_ = C.zk d.to_) with
  | false=>rfl
  | true=>
   cases decide (C.opC (fun x y=>x && !y) d.from_ d.to_ = []) with
   | false=>rfl
   | true=>
    cases decide (d.events.length <= 4096) with
    | false=>rfl
    | true=>cases d.events.zipIdx.all fun y=>!vWa d y.2 y.1 <;> rfl
theorem ZS {d:DL} (h:OkD d):VC d = pure (yr d):=by
 have h1:=h.len;have h2:=dlen h;have h3:(vO d.events).length <= 1000000000:=Nat.le_trans (D.jB _) h2;unfold VC yr;rw [xWa h];simp only [C.wv _ h.from_,C.wv _ h.to_,C.Xp _ _ h.from_ h.to_,rDots_eq d.events (by omega) h.kills,rDrop_eq _ _ h3 h.to_,zB,zA,u7a,UJ]
 cases decide (d.from_ = C.zk d.from_) with
 | false=>rfl
 | true=>
  cases decide (d.to_ = C.zk d.to_) with
  | false=>rfl
  | true=>
   cases decide (C.opC (fun x y=>x && !y) d.from_ d.to_ = []) with
   | false=>rfl
   | true=>
    cases decide (d.events.length <= 4096) with
    | false=>rfl
    | true=>cases d.events.zipIdx.all fun y=>!vWa d y.2 y.1 <;> rfl

open E (OkE zr)

def jH (n:Int):Bool:=decide (0 < n) && decide (n <= 281474976710655)
theorem yQa (n:Int):ZW n = pure (jH n):=by
 unfold ZW jH;rw [zS,zA]
theorem UK (n:Int):uR n = pure (jH n):=by
 unfold uR jH;rw [zS,zA,show decide (1 <= n) = decide (0 < n) from rfl]
theorem wWa (c:List PT) (d k n:Int):C.xp (C.ut c d) k n = (decide (d = k) && C.xp c k n):=by
 unfold C.ut;rw [C.Zj];unfold C.xp;rw [C.vi,C.VT,List.append_nil]
 by_cases h:d = k
 ·subst h
  by_cases h0:0 < d
  ·rw [if_pos ⟨rfl,h0⟩,R.wH];simp
  ·rw [if_neg (by simp [h0]),C.VV h0];simp [R.yC]
 ·rw [if_neg (by simp [h])];simp [h,R.yC]
def xE (c:List PT):Bool:=decide (c = C.zk c)
def vP (a b:List PT):Bool:=decide (C.opC (fun x y=>x && !y) a b = [])
def UL (a b:List PT):Bool:=decide (C.zk a = C.zk b)
theorem wXa : xE [] = true:=by
 unfold xE;rw [C.UA C.z4a];rfl
theorem xXa (c:List PT) (d:Int):vP c (C.ut c d) = UL c (C.ut c d):=by
 unfold vP UL;rw [Bool.eq_iff_iff,decide_eq_true_eq,decide_eq_true_eq]
 constructor
 ·intro h;refine C.z3a fun k n=>?_
  have h1:C.xp (C.opC (fun x y=>x && !y) c (C.ut c d)) k n = false:=by rw [h];rfl
  rw [C.xFa rfl,wWa] at h1;rw [wWa]
  cases hc:C.xp c k n with
  | false=>simp
  | true=>rw [hc] at h1;simpa using h1
 ·intro h;refine C.qE (C.x3a rfl _ _) fun k n=>?_
  have h1:C.xp (C.zk c) k n = C.xp (C.zk (C.ut c d)) k n:=by rw [h]
  rw [C.Zj,C.Zj] at h1;rw [C.xFa rfl,<- h1]
  cases C.xp c k n <;> rfl
theorem zAa {c:List PT} (h:C.Ok c) (ht:C.yN c <= 1000000) {d:Int} (hd:0 <= d):C.Ok (C.ut c d):=by
 have h2:=R.vL (C.yK c d);have h3:=C.xb c d;have h4:=h.tot;rw [C.z5a]
 split
 ·exact C.ok_nil
 ·exact ⟨fun p hp=>by rw [List.mem_singleton.1 hp];exact hd,by simp,by simp [C.yN];omega⟩
def ownB (c:List PT) (d:Int):Bool:=xE c && UL c (C.ut c d)
theorem own_eq {c:List PT} (h:C.Ok c) (ht:C.yN c <= 1000000) {d:Int} (hd:0 <= d):jU c d = pure (ownB c d):=by
 unfold jU;simp only [C.ZO c h.sm,C.Only_eq c d h,C.jz c _ h.sm (zAa h ht hd).sm,zB,zA,zS];show pure (xE c && vP c (C.ut c d)) = _;rw [xXa];rfl

def bad2 (l:List EV) (dev:Int) (c:List PT) (i:Nat) (e:EV):Bool:=!zr e || (!decide (e.dot.dev = dev) || (C.xp c e.dot.dev e.dot.n || xq l i e))
def zGa (l:List EV) (dev:Int) (i:Nat) (e:EV):Bool:=!zr e || (!decide (e.dot.dev = dev) || xq l i e)
def Vf (l:List EV):Bool:=decide (1 <= (l.length:Int)) && decide ((l.length:Int) <= 4)
theorem u8a {l:List EV} {dev:Int} {c:List PT} (hE:∀ e ∈ l,OkE e) (hl:l.length <= 1000000) (hc:C.Ok c):XU l dev c = pure ((l.zipIdx.all fun y=>!bad2 l dev c y.2 y.1) && Vf l):=by
 unfold XU;have:=yo (body:=uC l dev c) l (fun i=>(i:Int)) (fun i x=>!bad2 l dev c i x) (Ex.brk ()) (Ex.ret false) (fun i x hx hi=>by
  have hd:decide ((i:Int) < (l.length:Int)) = true:=by simpa using hi
  have hm:=List.mem_of_getElem? hx;unfold uC;simp only [hd,cond_true,zI hx,zA,E.ZO (hE x hm),C.qG c x.dot hc.sm,zB,yH (show i < 9223372036854775807 by omega)];have hp:=JM (x:=x) hi (by omega) vF D.qJ (fun b=>(pure b:M Bool));rw [hp];unfold bad2
  cases zr x with
  | false=>rfl
  | true=>
   cases decide (x.dot.dev = dev) with
   | false=>rfl
   | true=>
    cases C.xp c x.dot.dev x.dot.n with
    | true=>rfl
    | false=>cases xq l i x <;> rfl) (by
  unfold uC;simp)
 rw [show (0:Int) = ((0:Nat):Int) from rfl,this,zA,zS,zA];show exk (fun _=>pure (Vf l)) _ = _
 cases l.zipIdx.all fun y=>!bad2 l dev c y.2 y.1 <;> rfl
theorem zBa {d:DL} {dev:Int} (hE:∀ e ∈ d.events,OkE e) (hl:d.events.length <= 1000000):Ur d dev = pure ((d.events.zipIdx.all fun y=>!zGa d.events dev y.2 y.1) && (decide (d.from_ = []) && (decide (d.to_ = []) && Vf d.events))):=by
 unfold Ur;have:=yo (body:=YH d dev) d.events (fun i=>(i:Int)) (fun i x=>!zGa d.events dev i x) (Ex.brk ()) (Ex.ret false) (fun i x hx hi=>by
  have hd:decide ((i:Int) < (d.events.length:Int)) = true:=by simpa using hi
  have hm:=List.mem_of_getElem? hx;unfold YH;simp only [hd,cond_true,zI hx,zA,E.wv (hE x hm),zB,yH (show i < 9223372036854775807 by omega)];have hp:=JM (x:=x) hi (by omega) ZL V.Zh (fun b=>(pure b:M Bool));rw [hp];unfold zGa
  cases zr x with
  | false=>rfl
  | true=>
   cases decide (x.dot.dev = dev) with
   | false=>rfl
   | true=>cases xq d.events i x <;> rfl) (by
  unfold YH;simp)
 rw [show (0:Int) = ((0:Nat):Int) from rfl,this,zA];simp only [UJ,Int.natCast_zero,zS,zA];show exk (fun _=>pure (decide (d.from_ = []) && (decide (d.to_ = []) && Vf d.events))) _ = _
 cases d.events.zipIdx.all fun y=>!zGa d.events dev y.2 y.1 <;> rfl
def uv (c:List PT) (l:List EV):Bool:=l.any fun e=>C.xp c e.dot.dev e.dot.n
theorem WV {c:List PT} {l:List EV} (hl:l.length <= 1000000) (hc:C.Ok c):YI c l = pure (uv c l):=by
 unfold YI;have:=yo (body:=vT l c) l (fun i=>(i:Int)) (fun _ x=>!C.xp c x.dot.dev x.dot.n) (Ex.brk ()) (Ex.ret true) (fun i x hx hi=>by
  have hd:decide ((i:Int) < (l.length:Int)) = true:=by simpa using hi
  unfold vT;simp only [hd,cond_true,zI hx,zA,C.UB c x.dot hc,zB,yH (show i < 9223372036854775807 by omega)]
  cases C.xp c x.dot.dev x.dot.n <;> rfl) (by
  unfold vT;simp)
 rw [show (0:Int) = ((0:Nat):Int) from rfl,this,zA,E.ZR l fun x=>!C.xp c x.dot.dev x.dot.n];have e:uv c l = !(l.all fun x=>!C.xp c x.dot.dev x.dot.n):=by simp [uv,List.all_eq_not_any_not]
 rw [e]
 cases l.all fun x=>!C.xp c x.dot.dev x.dot.n <;> rfl
theorem u9a (l:List EV) (dev:Int) (c:List PT):(l.zipIdx.all fun y=>!bad2 l dev c y.2 y.1) = ((l.zipIdx.all fun y=>!zGa l dev y.2 y.1) && !uv c l):=by
 have e:uv c l = !(l.all fun x=>!C.xp c x.dot.dev x.dot.n):=by simp [uv,List.all_eq_not_any_not]
 rw [e,Bool.not_not,<- E.ZR l fun x=>!C.xp c x.dot.dev x.dot.n,Bool.eq_iff_iff,Bool.and_eq_true,List.all_eq_true,List.all_eq_true,List.all_eq_true]
 constructor
 ·intro h;refine ⟨fun y hy=>?_,fun y hy=>?_⟩
  ·have:=h y hy;unfold bad2 at this;unfold zGa
   revert this
   cases zr y.1 <;> cases decide (y.1.dot.dev = dev) <;> cases C.xp c y.1.dot.dev y.1.dot.n <;> cases xq l y.2 y.1 <;> decide
  ·have:=h y hy;unfold bad2 at this
   revert this
   cases zr y.1 <;> cases decide (y.1.dot.dev = dev) <;> cases C.xp c y.1.dot.dev y.1.dot.n <;> cases xq l y.2 y.1 <;> decide
 ·rintro ⟨h1,h2⟩ y hy;have a:=h1 y hy;have b:=h2 y hy;unfold zGa at a;unfold bad2
  revert a b
  cases zr y.1 <;> cases decide (y.1.dot.dev = dev) <;> cases C.xp c y.1.dot.dev y.1.dot.n <;> cases xq l y.2 y.1 <;> decide

structure OkM (m:TMsg):Prop where
 kind:0 <= m.kind /\ m.kind <= 255
 slot:0 <= m.slot /\ m.slot <= 255
 dev:0 <= m.dev /\ m.dev <= 65535
 why:0 <= m.why /\ m.why <= 255
 have_:C.Ok m.have_
 front:C.Ok m.front
 delta:OkD m.delta
 tot:C.yN m.have_ <= 1000000
def bareB (m:TMsg):Bool:=decide (m.slot = 0) && (decide (m.try_ = 0) && (decide (m.why = 0) && (decide (m.have_ = []) && (decide (m.front = []) && ((decide (m.delta.from_ = []) && decide (m.delta.to_ = [])) && decide (m.delta.events = []))))))
theorem ZAa (m:TMsg):Wp m = pure (bareB m):=by
 unfold Wp jS bareB;simp only [UJ,zS,zA,zB]
theorem zCa (d:DL):Us d = pure (decide (d.from_ = []) && (decide (d.to_ = []) && decide (d.events = []))):=by
 unfold Us;simp only [UJ,zS,zA]
theorem vZ {α:Type} (a:Bool) (x y:M α):det (cond a x y) = cond a (det x) (det y):=by cases a <;> rfl
theorem va {α β:Type} (k:β -> M α) (a:Bool) (x y:Ex β α):exk k (cond a x y) = cond a (exk k x) (exk k y):=by cases a <;> rfl
set_option maxHeartbeats 4000000 in
theorem yRa {m:TMsg} (h:OkM m):uD m = yk m:=by
 obtain ⟨h1,h2,h3,h4,h5,h6,h7,h8⟩:=h;have hev:∀ e ∈ m.delta.events,OkE e:=h7.evs;have hfrom:decide ((0:Int) < (m.delta.from_.length:Int)) = !decide (m.delta.from_ = []):=by
  cases m.delta.from_ with
  | nil=>rfl
  | cons x r=>simp
 unfold uD yk jT;simp only [yQa,UK,own_eq h5 h8 h3.1,C.ZO _ h5.sm,C.ZO _ h6.sm,C.jz _ _ h6.sm h7.to_.sm,Ve h7,ZS h7,u8a hev h7.len h5,zBa hev h7.len,WV h7.len h5,ZAa,zCa,C.wv _ h5,C.wv _ h6,C.Qg _ _ h3.1 h5,C.uM _ _ h5 (zAa h5 h8 h3.1),C.Xp _ _ h6 h7.to_,hfrom,zB,zA,UJ,u9a,bareB];obtain ⟨kind,slot,try_,dev,epoch,why,have_,front,delta⟩:=m;dsimp only at *
 have e1:∀ c:List PT,decide (c = C.zk c) = xE c:=fun _=>rfl
 have e2:∀ a b:List PT,decide (C.zk a = C.zk b) = UL a b:=fun _ _=>rfl
 have e3:∀ a b:List PT,decide (C.opC (fun x y=>x && !y) a b = []) = vP a b:=fun _ _=>rfl
 have gh:decide (have_ = []) = true -> xE have_ = true:=fun e=>by rw [of_decide_eq_true e];exact wXa
 have gf:decide (front = []) = true -> xE front = true:=fun e=>by rw [of_decide_eq_true e];exact wXa
 simp only [e1,e2,e3,ownB];clear hfrom hev h2 h3 h5 h6 h7 h8
 by_cases k1:kind = 1
 ·subst k1;simp only [Int.reduceEq,Int.reduceLE,Int.reduceLT,decide_true,decide_false,Bool.not_true,Bool.not_false,cond_true,cond_false,zA,zB,wb,xz,yw,vZ,va,yv,eq_self,Bool.true_and,Bool.and_true,Bool.false_and,Bool.and_false,e1,e2,e3]
  generalize xE have_ = A at *
  generalize xE front = B at *
  generalize UL have_ (C.ut have_ dev) = D1 at *
  generalize vP front delta.to_ = E1 at *
  generalize yr delta = F1 at *
  generalize (delta.events.zipIdx.all fun y=>!zGa delta.events dev y.2 y.1) = G1 at *
  generalize uv have_ delta.events = H1 at *
  generalize Vf delta.events = I1 at *
  generalize jH epoch = J1 at *
  generalize jH try_ = K1 at *
  generalize decide (have_ = []) = L1 at *
  generalize decide (front = []) = M1 at *
  generalize decide (delta.from_ = []) = N1 at *
  generalize decide (delta.to_ = []) = O1 at *
  generalize decide (delta.events = []) = P1 at *
  generalize decide (dev = 0) = Q1 at *
  generalize decide (epoch = 0) = R1 at *
  generalize decide (slot = 0) = S1 at *
  generalize decide (try_ = 0) = T1 at *
  generalize decide (16 <= slot) = U1 at *
  generalize decide (why = 0) = V1 at *
  generalize decide (why = 1) = W1 at *
  generalize decide (why = 2) = X1 at *
  clear e1 e2 e3;refine congrArg pure ?_;clear h1 h4
  all_goals (cases U1 <;> try rfl)
  all_goals (cases K1 <;> try rfl)
  all_goals (cases Q1 <;> try rfl)
  all_goals (cases R1 <;> try rfl)
  all_goals (cases L1 <;> cases A <;> (try (exact absurd (gh rfl) (by decide))) <;> cases M1 <;> cases B <;> (try (exact absurd (gf rfl) (by decide))))
  all_goals (try rfl)
  all_goals (cases V1 <;> try rfl)
  all_goals (cases N1 <;> try rfl)
  all_goals (cases O1 <;> try rfl)
  all_goals (cases P1 <;> try rfl)
  all_goals (cases E1 <;> try rfl)
 by_cases k2:kind = 2
 ·subst k2;simp only [Int.reduceEq,Int.reduceLE,Int.reduceLT,decide_true,decide_false,Bool.not_true,Bool.not_false,cond_true,cond_false,zA,zB,wb,xz,yw,vZ,va,yv,eq_self,Bool.true_and,Bool.and_true,Bool.false_and,Bool.and_false,e1,e2,e3]
  generalize xE have_ = A at *
  generalize xE front = B at *
  generalize UL have_ (C.ut have_ dev) = D1 at *
  generalize vP front delta.to_ = E1 at *
  generalize yr delta = F1 at *
  generalize (delta.events.zipIdx.all fun y=>!zGa delta.events dev y.2 y.1) = G1 at *
  generalize uv have_ delta.events = H1 at *
  generalize Vf delta.events = I1 at *
  generalize jH epoch = J1 at *
  generalize jH try_ = K1 at *
  generalize decide (have_ = []) = L1 at *
  generalize decide (front = []) = M1 at *
  generalize decide (delta.from_ = []) = N1 at *
  generalize decide (delta.to_ = []) = O1 at *
  generalize decide (delta.events = []) = P1 at *
  generalize decide (dev = 0) = Q1 at *
  generalize decide (epoch = 0) = R1 at *
  generalize decide (slot = 0) = S1 at *
  generalize decide (try_ = 0) = T1 at *
  generalize decide (16 <= slot) = U1 at *
  generalize decide (why = 0) = V1 at *
  generalize decide (why = 1) = W1 at *
  generalize decide (why = 2) = X1 at *
  clear e1 e2 e3;refine congrArg pure ?_;clear h1 h4
  all_goals (cases Q1 <;> try rfl)
  all_goals (cases J1 <;> try rfl)
  all_goals (cases U1 <;> try rfl)
  all_goals (cases K1 <;> try rfl)
  all_goals (cases L1 <;> cases A <;> (try (exact absurd (gh rfl) (by decide))) <;> cases M1 <;> cases B <;> (try (exact absurd (gf rfl) (by decide))))
  all_goals (try rfl)
  all_goals (cases F1 <;> try rfl)
  all_goals (cases N1 <;> try rfl)
  all_goals (cases V1 <;> try rfl)
  all_goals (cases E1 <;> try rfl)
 by_cases k3:kind = 3
 ·subst k3;simp only [Int.reduceEq,Int.reduceLE,Int.reduceLT,decide_true,decide_false,Bool.not_true,Bool.not_false,cond_true,cond_false,zA,zB,wb,xz,yw,vZ,va,yv,eq_self,Bool.true_and,Bool.and_true,Bool.false_and,Bool.and_false,e1,e2,e3]
  generalize xE have_ = A at *
  generalize xE front = B at *
  generalize UL have_ (C.ut have_ dev) = D1 at *
  generalize vP front delta.to_ = E1 at *
  generalize yr delta = F1 at *
  generalize (delta.events.zipIdx.all fun y=>!zGa delta.events dev y.2 y.1) = G1 at *
  generalize uv have_ delta.events = H1 at *
  generalize Vf delta.events = I1 at *
  generalize jH epoch = J1 at *
  generalize jH try_ = K1 at *
  generalize decide (have_ = []) = L1 at *
  generalize decide (front = []) = M1 at *
  generalize decide (delta.from_ = []) = N1 at *
  generalize decide (delta.to_ = []) = O1 at *
  generalize decide (delta.events = []) = P1 at *
  generalize decide (dev = 0) = Q1 at *
  generalize decide (epoch = 0) = R1 at *
  generalize decide (slot = 0) = S1 at *
  generalize decide (try_ = 0) = T1 at *
  generalize decide (16 <= slot) = U1 at *
  generalize decide (why = 0) = V1 at *
  generalize decide (why = 1) = W1 at *
  generalize decide (why = 2) = X1 at *
  clear e1 e2 e3;refine congrArg pure ?_;clear h1 h4
  all_goals (cases S1 <;> try rfl)
  all_goals (cases T1 <;> try rfl)
  all_goals (cases Q1 <;> try rfl)
  all_goals (cases J1 <;> try rfl)
  all_goals (cases L1 <;> cases A <;> (try (exact absurd (gh rfl) (by decide))) <;> cases M1 <;> cases B <;> (try (exact absurd (gf rfl) (by decide))))
  all_goals (try rfl)
  all_goals (cases V1 <;> try rfl)
  all_goals (cases N1 <;> try rfl)
  all_goals (cases O1 <;> try rfl)
  all_goals (cases P1 <;> try rfl)
  all_goals (cases E1 <;> try rfl)
 by_cases k4:kind = 4
 ·subst k4;simp only [Int.reduceEq,Int.reduceLE,Int.reduceLT,decide_true,decide_false,Bool.not_true,Bool.not_false,cond_true,cond_false,zA,zB,wb,xz,yw,vZ,va,yv,eq_self,Bool.true_and,Bool.and_true,Bool.false_and,Bool.and_false,e1,e2,e3]
  generalize xE have_ = A at *
  generalize xE front = B at *
  generalize UL have_ (C.ut have_ dev) = D1 at *
  generalize vP front delta.to_ = E1 at *
  generalize yr delta = F1 at *
  generalize (delta.events.zipIdx.all fun y=>!zGa delta.events dev y.2 y.1) = G1 at *
  generalize uv have_ delta.events = H1 at *
  generalize Vf delta.events = I1 at *
  generalize jH epoch = J1 at *
  generalize jH try_ = K1 at *
  generalize decide (have_ = []) = L1 at *
  generalize decide (front = []) = M1 at *
  generalize decide (delta.from_ = []) = N1 at *
  generalize decide (delta.to_ = []) = O1 at *
  generalize decide (delta.events = []) = P1 at *
  generalize decide (dev = 0) = Q1 at *
  generalize decide (epoch = 0) = R1 at *
  generalize decide (slot = 0) = S1 at *
  generalize decide (try_ = 0) = T1 at *
  generalize decide (16 <= slot) = U1 at *
  generalize decide (why = 0) = V1 at *
  generalize decide (why = 1) = W1 at *
  generalize decide (why = 2) = X1 at *
  clear e1 e2 e3;refine congrArg pure ?_;clear h1 h4
  all_goals (cases S1 <;> try rfl)
  all_goals (cases T1 <;> try rfl)
  all_goals (cases Q1 <;> try rfl)
  all_goals (cases J1 <;> try rfl)
  all_goals (cases L1 <;> cases A <;> (try (exact absurd (gh rfl) (by decide))) <;> cases M1 <;> cases B <;> (try (exact absurd (gf rfl) (by decide))))
  all_goals (try rfl)
  all_goals (cases V1 <;> try rfl)
  all_goals (cases F1 <;> try rfl)
  all_goals (cases E1 <;> try rfl)
 by_cases k5:kind = 5
 ·subst k5;simp only [Int.reduceEq,Int.reduceLE,Int.reduceLT,decide_true,decide_false,Bool.not_true,Bool.not_false,cond_true,cond_false,zA,zB,wb,xz,yw,vZ,va,yv,eq_self,Bool.true_and,Bool.and_true,Bool.false_and,Bool.and_false,e1,e2,e3]
  generalize xE have_ = A at *
  generalize xE front = B at *
  generalize UL have_ (C.ut have_ dev) = D1 at *
  generalize vP front delta.to_ = E1 at *
  generalize yr delta = F1 at *
  generalize (delta.events.zipIdx.all fun y=>!zGa delta.events dev y.2 y.1) = G1 at *
  generalize uv have_ delta.events = H1 at *
  generalize Vf delta.events = I1 at *
  generalize jH epoch = J1 at *
  generalize jH try_ = K1 at *
  generalize decide (have_ = []) = L1 at *
  generalize decide (front = []) = M1 at *
  generalize decide (delta.from_ = []) = N1 at *
  generalize decide (delta.to_ = []) = O1 at *
  generalize decide (delta.events = []) = P1 at *
  generalize decide (dev = 0) = Q1 at *
  generalize decide (epoch = 0) = R1 at *
  generalize decide (slot = 0) = S1 at *
  generalize decide (try_ = 0) = T1 at *
  generalize decide (16 <= slot) = U1 at *
  generalize decide (why = 0) = V1 at *
  generalize decide (why = 1) = W1 at *
  generalize decide (why = 2) = X1 at *
  clear e1 e2 e3;refine congrArg pure ?_;clear h1 h4
  all_goals (cases S1 <;> try rfl)
  all_goals (cases T1 <;> try rfl)
  all_goals (cases Q1 <;> try rfl)
  all_goals (cases J1 <;> try rfl)
  all_goals (cases L1 <;> cases A <;> (try (exact absurd (gh rfl) (by decide))) <;> cases M1 <;> cases B <;> (try (exact absurd (gf rfl) (by decide))))
  all_goals (try rfl)
  all_goals (cases V1 <;> try rfl)
  all_goals (cases D1 <;> try rfl)
  all_goals (cases G1 <;> try rfl)
  all_goals (cases H1 <;> try rfl)
  all_goals (cases I1 <;> try rfl)
  all_goals (cases N1 <;> try rfl)
  all_goals (cases O1 <;> try rfl)
  all_goals (cases E1 <;> try rfl)
 by_cases k6:kind = 6
 ·subst k6;simp only [Int.reduceEq,Int.reduceLE,Int.reduceLT,decide_true,decide_false,Bool.not_true,Bool.not_false,cond_true,cond_false,zA,zB,wb,xz,yw,vZ,va,yv,eq_self,Bool.true_and,Bool.and_true,Bool.false_and,Bool.and_false,e1,e2,e3]
  generalize xE have_ = A at *
  generalize xE front = B at *
  generalize UL have_ (C.ut have_ dev) = D1 at *
  generalize vP front delta.to_ = E1 at *
  generalize yr delta = F1 at *
  generalize (delta.events.zipIdx.all fun y=>!zGa delta.events dev y.2 y.1) = G1 at *
  generalize uv have_ delta.events = H1 at *
  generalize Vf delta.events = I1 at *
  generalize jH epoch = J1 at *
  generalize jH try_ = K1 at *
  generalize decide (have_ = []) = L1 at *
  generalize decide (front = []) = M1 at *
  generalize decide (delta.from_ = []) = N1 at *
  generalize decide (delta.to_ = []) = O1 at *
  generalize decide (delta.events = []) = P1 at *
  generalize decide (dev = 0) = Q1 at *
  generalize decide (epoch = 0) = R1 at *
  generalize decide (slot = 0) = S1 at *
  generalize decide (try_ = 0) = T1 at *
  generalize decide (16 <= slot) = U1 at *
  generalize decide (why = 0) = V1 at *
  generalize decide (why = 1) = W1 at *
  generalize decide (why = 2) = X1 at *
  clear e1 e2 e3;refine congrArg pure ?_;clear h1 h4
  all_goals (cases S1 <;> try rfl)
  all_goals (cases T1 <;> try rfl)
  all_goals (cases Q1 <;> try rfl)
  all_goals (cases J1 <;> try rfl)
  all_goals (cases L1 <;> cases A <;> (try (exact absurd (gh rfl) (by decide))) <;> cases M1 <;> cases B <;> (try (exact absurd (gf rfl) (by decide))))
  all_goals (try rfl)
  all_goals (cases V1 <;> try rfl)
  all_goals (cases D1 <;> try rfl)
  all_goals (cases N1 <;> try rfl)
  all_goals (cases O1 <;> try rfl)
  all_goals (cases P1 <;> try rfl)
  all_goals (cases E1 <;> try rfl)
 by_cases k7:kind = 7
 ·subst k7;simp only [Int.reduceEq,Int.reduceLE,Int.reduceLT,decide_true,decide_false,Bool.not_true,Bool.not_false,cond_true,cond_false,zA,zB,wb,xz,yw,vZ,va,yv,eq_self,Bool.true_and,Bool.and_true,Bool.false_and,Bool.and_false,e1,e2,e3]
  generalize xE have_ = A at *
  generalize xE front = B at *
  generalize UL have_ (C.ut have_ dev) = D1 at *
  generalize vP front delta.to_ = E1 at *
  generalize yr delta = F1 at *
  generalize (delta.events.zipIdx.all fun y=>!zGa delta.events dev y.2 y.1) = G1 at *
  generalize uv have_ delta.events = H1 at *
  generalize Vf delta.events = I1 at *
  generalize jH epoch = J1 at *
  generalize jH try_ = K1 at *
  generalize decide (have_ = []) = L1 at *
  generalize decide (front = []) = M1 at *
  generalize decide (delta.from_ = []) = N1 at *
  generalize decide (delta.to_ = []) = O1 at *
  generalize decide (delta.events = []) = P1 at *
  generalize decide (dev = 0) = Q1 at *
  generalize decide (epoch = 0) = R1 at *
  generalize decide (slot = 0) = S1 at *
  generalize decide (try_ = 0) = T1 at *
  generalize decide (16 <= slot) = U1 at *
  generalize decide (why = 0) = V1 at *
  generalize decide (why = 1) = W1 at *
  generalize decide (why = 2) = X1 at *
  clear e1 e2 e3;refine congrArg pure ?_;clear h1 h4
  all_goals (cases S1 <;> try rfl)
  all_goals (cases T1 <;> try rfl)
  all_goals (cases Q1 <;> try rfl)
  all_goals (cases J1 <;> try rfl)
  all_goals (cases L1 <;> cases A <;> (try (exact absurd (gh rfl) (by decide))) <;> cases M1 <;> cases B <;> (try (exact absurd (gf rfl) (by decide))))
  all_goals (try rfl)
  all_goals (cases V1 <;> try rfl)
  all_goals (cases N1 <;> try rfl)
  all_goals (cases O1 <;> try rfl)
  all_goals (cases P1 <;> try rfl)
  all_goals (cases E1 <;> try rfl)
 by_cases k8:kind = 8
 ·subst k8;simp only [Int.reduceEq,Int.reduceLE,Int.reduceLT,decide_true,decide_false,Bool.not_true,Bool.not_false,cond_true,cond_false,zA,zB,wb,xz,yw,vZ,va,yv,eq_self,Bool.true_and,Bool.and_true,Bool.false_and,Bool.and_false,e1,e2,e3]
  generalize xE have_ = A at *
  generalize xE front = B at *
  generalize UL have_ (C.ut have_ dev) = D1 at *
  generalize vP front delta.to_ = E1 at *
  generalize yr delta = F1 at *
  generalize (delta.events.zipIdx.all fun y=>!zGa delta.events dev y.2 y.1) = G1 at *
  generalize uv have_ delta.events = H1 at *
  generalize Vf delta.events = I1 at *
  generalize jH epoch = J1 at *
  generalize jH try_ = K1 at *
  generalize decide (have_ = []) = L1 at *
  generalize decide (front = []) = M1 at *
  generalize decide (delta.from_ = []) = N1 at *
  generalize decide (delta.to_ = []) = O1 at *
  generalize decide (delta.events = []) = P1 at *
  generalize decide (dev = 0) = Q1 at *
  generalize decide (epoch = 0) = R1 at *
  generalize decide (slot = 0) = S1 at *
  generalize decide (try_ = 0) = T1 at *
  generalize decide (16 <= slot) = U1 at *
  generalize decide (why = 0) = V1 at *
  generalize decide (why = 1) = W1 at *
  generalize decide (why = 2) = X1 at *
  clear e1 e2 e3;refine congrArg pure ?_;clear h1 h4
  all_goals (cases S1 <;> try rfl)
  all_goals (cases T1 <;> try rfl)
  all_goals (cases Q1 <;> try rfl)
  all_goals (cases J1 <;> try rfl)
  all_goals (cases L1 <;> cases A <;> (try (exact absurd (gh rfl) (by decide))) <;> cases M1 <;> cases B <;> (try (exact absurd (gf rfl) (by decide))))
  all_goals (try rfl)
  all_goals (cases V1 <;> try rfl)
  all_goals (cases N1 <;> try rfl)
  all_goals (cases O1 <;> try rfl)
  all_goals (cases P1 <;> try rfl)
  all_goals (cases E1 <;> try rfl)
 by_cases k9:kind = 9
 ·subst k9;simp only [Int.reduceEq,Int.reduceLE,Int.reduceLT,decide_true,decide_false,Bool.not_true,Bool.not_false,cond_true,cond_false,zA,zB,wb,xz,yw,vZ,va,yv,eq_self,Bool.true_and,Bool.and_true,Bool.false_and,Bool.and_false,e1,e2,e3]
  generalize xE have_ = A at *
  generalize xE front = B at *
  generalize UL have_ (C.ut have_ dev) = D1 at *
  generalize vP front delta.to_ = E1 at *
  generalize yr delta = F1 at *
  generalize (delta.events.zipIdx.all fun y=>!zGa delta.events dev y.2 y.1) = G1 at *
  generalize uv have_ delta.events = H1 at *
  generalize Vf delta.events = I1 at *
  generalize jH epoch = J1 at *
  generalize jH try_ = K1 at *
  generalize decide (have_ = []) = L1 at *
  generalize decide (front = []) = M1 at *
  generalize decide (delta.from_ = []) = N1 at *
  generalize decide (delta.to_ = []) = O1 at *
  generalize decide (delta.events = []) = P1 at *
  generalize decide (dev = 0) = Q1 at *
  generalize decide (epoch = 0) = R1 at *
  generalize decide (slot = 0) = S1 at *
  generalize decide (try_ = 0) = T1 at *
  generalize decide (16 <= slot) = U1 at *
  generalize decide (why = 0) = V1 at *
  generalize decide (why = 1) = W1 at *
  generalize decide (why = 2) = X1 at *
  clear e1 e2 e3;refine congrArg pure ?_;clear h1 h4
  all_goals (cases S1 <;> try rfl)
  all_goals (cases T1 <;> try rfl)
  all_goals (cases Q1 <;> try rfl)
  all_goals (cases J1 <;> try rfl)
  all_goals (cases L1 <;> cases A <;> (try (exact absurd (gh rfl) (by decide))) <;> cases M1 <;> cases B <;> (try (exact absurd (gf rfl) (by decide))))
  all_goals (try rfl)
  all_goals (cases W1 <;> try rfl)
  all_goals (cases X1 <;> try rfl)
  all_goals (cases N1 <;> try rfl)
  all_goals (cases O1 <;> try rfl)
  all_goals (cases P1 <;> try rfl)
  all_goals (cases E1 <;> try rfl)
 have k0:decide (kind < 1) = true \/ decide (kind < 1) = false /\ decide (9 < kind) = true:=by
  simp only [decide_eq_true_eq,decide_eq_false_iff_not];omega
 simp only [decide_eq_false k1,decide_eq_false k2,decide_eq_false k3,decide_eq_false k4,decide_eq_false k5,decide_eq_false k6,decide_eq_false k7,decide_eq_false k8,decide_eq_false k9,Int.reduceEq,Int.reduceLE,Int.reduceLT,decide_true,decide_false,Bool.not_true,Bool.not_false,cond_true,cond_false,zA,zB,wb,xz,yw,vZ,va,yv,eq_self,Bool.true_and,Bool.and_true,Bool.false_and,Bool.and_false,e1,e2,e3];rcases k0 with k0 | ⟨k0,k10⟩
 ·rw [k0]
  cases decide (dev = 0) <;> cases jH epoch <;> rfl
 ·rw [k0,k10]
  cases decide (dev = 0) <;> cases jH epoch <;> rfl

def fewC (c:List PT):Bool:=decide (c.length <= 30) && c.all fun p=>decide (p.runs.length <= 30)
def fewM (m:TMsg):Bool:=fewC m.have_ && (fewC m.front && (fewC m.delta.from_ && (fewC m.delta.to_ && E.fewE m.delta.events 30)))
theorem fewM_eq (m:TMsg):ql m = pure (fewM m):=by
 unfold ql yja fewM fewC;rw [C.UC,C.UC,C.UC,C.UC,show jZ m.delta.events 30 = pure (E.fewE m.delta.events 30) from E.UC m.delta.events 30 (by decide)];simp only [zB,zA,zS]
structure InM (m:TMsg):Prop where
 kind:0 <= m.kind /\ m.kind <= 255
 slot:0 <= m.slot /\ m.slot <= 255
 dev:0 <= m.dev /\ m.dev <= 65535
 why:0 <= m.why /\ m.why <= 255
 have_:∀ p ∈ m.have_,0 <= p.dev
 front:∀ p ∈ m.front,0 <= p.dev
 from_:∀ p ∈ m.delta.from_,0 <= p.dev
 to_:∀ p ∈ m.delta.to_,0 <= p.dev
 evs:∀ e ∈ m.delta.events,e.kills.length <= 300 /\ e.text.size <= 200 -> OkE e
theorem okM {m:TMsg} (h:InM m) (hf:fewM m = true):OkM m:=by
 unfold fewM at hf;simp only [Bool.and_eq_true] at hf;obtain ⟨f1,f2,f3,f4,f5⟩:=hf;obtain ⟨g1,g2⟩:=E.uwa f5;have t:=C.Yz f1;exact ⟨h.kind,h.slot,h.dev,h.why,C.wAa h.have_ t,C.wAa h.front (C.Yz f2),⟨C.wAa h.from_ (C.Yz f3),C.wAa h.to_ (C.Yz f4),fun e he=>h.evs e he (g2 e he),by omega,fun e he=>(g2 e he).1⟩,by omega⟩
theorem ZBa {m:TMsg} (h:OkM m):∃ b,yk m = pure b:=by
 obtain ⟨h1,h2,h3,h4,h5,h6,h7,h8⟩:=h;have hev:∀ e ∈ m.delta.events,OkE e:=h7.evs;unfold yk;simp only [UK,ZS h7,zBa hev h7.len,WV h7.len h5,zCa,C.wv _ h5,C.wv _ h6,C.Qg _ _ h3.1 h5,C.uM _ _ h5 (zAa h5 h8 h3.1),C.Xp _ _ h6 h7.to_,zB,zA,yv,yw];exact ⟨_,rfl⟩
end Go.Ep.M.F

namespace Go.Ep.M.G
open Go
open E (OkE zr Yh)
open F (Xs zp vO)

def ent (e:EV):DT × EV:=(e.dot,e)
theorem mem_ent {l:List EV} {k:DT × EV}:k ∈ l.map ent ↔ k.2 ∈ l /\ k.1 = k.2.dot:=by
 rw [List.mem_map]
 constructor
 ·rintro ⟨e,h,rfl⟩;exact ⟨h,rfl⟩
 ·rintro ⟨h1,h2⟩;exact ⟨k.2,h1,by unfold ent;rw [<- h2]⟩
def Holds (m:List (DT × EV)) (l:List EV):Prop:=m.Perm (l.map ent)
theorem Holds.mem {m:List (DT × EV)} {l:List EV} (h:Holds m l) {k:DT × EV}:k ∈ m ↔ k.2 ∈ l /\ k.1 = k.2.dot:=by rw [h.mem_iff,mem_ent]
theorem Holds.len {m:List (DT × EV)} {l:List EV} (h:Holds m l):m.length = l.length:=by rw [h.length_eq,List.length_map]
open E (OkE zr Yh)
open F (Xs zp vO vu)

section
variable {κ ν:Type} [DecidableEq κ]
end
theorem vMa {e:EV} (h:zr e = true):e.kills.length <= 256 /\ D.Srt e.kills /\ ∀ d ∈ e.kills,V.yI d = true /\ d ≠ e.dot:=by
 simp only [zr,E.yMa,Bool.and_eq_true,decide_eq_true_eq,List.all_eq_true,Bool.not_eq_true',decide_eq_false_iff_not] at h;exact ⟨h.2.2.1,D.Qs.1 h.2.2.2.1,fun d hd=>h.2.2.2.2 d hd⟩
open E (OkE zr Yh)
open F (Xs zp vO vu)

def liveL (L:List EV):List EV:=L.filter fun e=>decide (e.kind = 1)
def tombL (L:List EV):List EV:=L.filter fun e=>decide (e.kind = 2)
structure Rep (n:Nat) (W c xc:List PT) (nl1:Bool) (m1:List (DT × EV)) (nl2:Bool) (m2:List (DT × EV)) (L:List EV):Prop where
 ctx:c = C.zk W
 xctx:∀ k n,C.xp xc k n = C.xp W k n
 xok:C.Ok xc
 live:Holds m1 (liveL L)
 tomb:Holds m2 (tombL L)
 n1:nl1 = true -> m1 = []
 n2:nl2 = true -> m2 = []
 srt:Yh L
 good:∀ e ∈ L,zr e = true /\ OkE e
 dots:∀ d ∈ zp L,C.xp W d.dev d.n = true
 alive:∀ e ∈ L,e.kind = 1 -> vu L e.dot = false
 wl:W.length <= n
 wt:C.yN W <= n
 ll:L.length <= n
theorem ok_normW {W:List PT} (h1:W.length <= 400000000) (h2:C.yN W <= 400000000):C.Ok (C.zk W):=
 ⟨fun p hp=>by have:=((C.uU W).nf p hp).1;omega,by have:=C.uq W;omega,by have:=C.ur W;omega⟩
section
variable {n:Nat} {W c xc:List PT} {nl1:Bool} {m1:List (DT × EV)} {nl2:Bool} {m2:List (DT × EV)} {L:List EV}
theorem Rep.mono (hR:Rep n W c xc nl1 m1 nl2 m2 L) {k:Nat} (h:n <= k):Rep k W c xc nl1 m1 nl2 m2 L:=
 { hR with wl:=Nat.le_trans hR.wl h,wt:=Nat.le_trans hR.wt h,ll:=Nat.le_trans hR.ll h }
theorem Rep.okc (hR:Rep n W c xc nl1 m1 nl2 m2 L) (hn:n <= 100000000):C.Ok c:=by
 rw [hR.ctx];exact ok_normW (by have:=hR.wl;omega) (by have:=hR.wt;omega)
theorem Rep.has (hR:Rep n W c xc nl1 m1 nl2 m2 L) (hn:n <= 100000000) (d:DT):WK c d = pure (C.xp W d.dev d.n):=by
 rw [C.qG c d (hR.okc hn).sm,hR.ctx,C.Zj]
end

open E (OkE zr Yh)
open F (Xs zp vO vu)

section
variable {n:Nat} {W c xc:List PT} {nl1:Bool} {m1:List (DT × EV)} {nl2:Bool} {m2:List (DT × EV)} {L:List EV}
theorem Rep.kl (hR:Rep n W c xc nl1 m1 nl2 m2 L):∀ e ∈ L,e.kills.length <= 256:=fun e he=>(vMa (hR.good e he).1).1
end

open E (OkE zr Yh)
open F (Xs zp vO vu)

section
variable {n:Nat} {W c xc:List PT} {nl1:Bool} {m1:List (DT × EV)} {nl2:Bool} {m2:List (DT × EV)} {L:List EV}
end

open E (OkE zr Yh)
open F (Xs zp vO vu)

section
variable {n:Nat} {W c xc:List PT} {nl1:Bool} {m1:List (DT × EV)} {nl2:Bool} {m2:List (DT × EV)} {L:List EV}
def ofL (L:List EV) (cid:Int):List EV:=(liveL L).filter fun x=>decide (x.cid = cid)
end
open E (OkE zr Yh)
open F (Xs zp vO vu)

def exB : EV:=⟨⟨1,2⟩,2,281474976710657,0,⟨#[]⟩,[]⟩
theorem okB : OkE exB:=⟨⟨by decide,by decide,by decide,by decide⟩,by decide,by decide,by decide,by decide,(fun d hd=>nomatch hd),by decide⟩
open E (OkE zr Yh)
open F (Xs zp vO vu xq vKa)

theorem prev_srt {l:List EV} {i:Nat} {x:EV} (hx:l[i]? = some x) (hs:Yh (l.take i)) (hp:xq l i x = false):Yh (l.take (i + 1)) /\ ∀ z ∈ l.take i,zY z.dot x.dot = true:=by
 have htk:l.take (i + 1) = l.take i ++ [x]:=by rw [List.take_add_one,hx];rfl
 have hlt:i < l.length:=(List.getElem?_eq_some_iff.1 hx).1;have hall:∀ z ∈ l.take i,zY z.dot x.dot = true:=by
  intro z hz;obtain ⟨j,hj⟩:=List.getElem?_of_mem hz;have hji:j < (l.take i).length:=(List.getElem?_eq_some_iff.1 hj).1;rw [List.length_take] at hji;obtain ⟨y,hy⟩:∃ y,l[i - 1]? = some y:=⟨_,List.getElem?_eq_getElem (by omega)⟩
  unfold xq at hp;rw [decide_eq_true (show 0 < i by omega),Bool.true_and,hy] at hp;have hyx:zY y.dot x.dot = true:=V.Uw.1 (by simpa using hp)
  by_cases e:j = i - 1
  ·have:(l.take i)[j]? = l[j]?:=by rw [List.getElem?_take,if_pos (by omega)]
   rw [this,e,hy] at hj
   cases hj;exact hyx
  ·have h2:(l.take i)[i - 1]? = some y:=by rw [List.getElem?_take,if_pos (by omega)];exact hy
   have h3:=List.pairwise_iff_getElem.1 hs j (i - 1) (by rw [List.length_take];omega) (by rw [List.length_take];omega) (by omega);rw [(List.getElem?_eq_some_iff.1 hj).2,(List.getElem?_eq_some_iff.1 h2).2] at h3;exact D.VX h3 hyx
 refine ⟨?_,hall⟩;rw [htk];unfold Yh;rw [List.pairwise_append];exact ⟨hs,by simp,fun a ha b hb=>by rw [List.mem_singleton.1 hb];exact hall a ha⟩
open E (OkE zr Yh)
open F (Xs zp vO vu xq vKa)

section
variable {n:Nat} {W c xc:List PT} {nl1:Bool} {m1:List (DT × EV)} {nl2:Bool} {m2:List (DT × EV)} {L:List EV}
end
open E (OkE zr Yh)
open F (Xs zp vO vu)

section
variable {n:Nat} {W c xc:List PT} {nl1:Bool} {m1:List (DT × EV)} {nl2:Bool} {m2:List (DT × EV)} {L:List EV}
end
section
variable {n:Nat} {W c xc:List PT} {nl1:Bool} {m1:List (DT × EV)} {nl2:Bool} {m2:List (DT × EV)} {L:List EV}
end
open E (OkE zr Yh)
open F (Xs zp vO vu yr OkD)

section
variable {n:Nat} {W c xc:List PT} {nl1:Bool} {m1:List (DT × EV)} {nl2:Bool} {m2:List (DT × EV)} {L:List EV}
end
section
variable {n:Nat} {W c xc:List PT} {nl1:Bool} {m1:List (DT × EV)} {nl2:Bool} {m2:List (DT × EV)} {L:List EV}
end

open E (OkE zr Yh)
open F (Xs zp vO vu yr OkD)

section
variable {n:Nat} {W c xc:List PT} {nl1:Bool} {m1:List (DT × EV)} {nl2:Bool} {m2:List (DT × EV)} {L:List EV}
end
open E (OkE zr Yh vB)
open D (XE)
open F (Xs zp vO vu yr OkD)

theorem xC {c:List PT} (h:∀ p ∈ c,p.dev <= 65535) (h1:c.length <= 1000000) (h2:C.yN c <= 1000000):(XE c).length <= 60000000:=by
 have hn:=C.uq c;have ht:=C.ur c;have hl:=D.Qp (D.VZ h) (by omega) (by omega);rw [XE];omega
section
variable {n:Nat} {W c xc:List PT} {nl1:Bool} {m1:List (DT × EV)} {nl2:Bool} {m2:List (DT × EV)} {L:List EV}
end
open E (OkE zr Yh vB WE)
open D (XE vw jE fin)
open F (Xs zp vO vu yr OkD)
open N (RS z9a Sim OkB)

theorem wYa (v:Int):1 <= (N.yj v).length:=by unfold N.yj N.yYa;simp
theorem wZa : ∀ c:List PT,c.length + C.yN c <= (c.flatMap D.Qo).length
 | []=>by simp [C.yN]
 | p :: r=>by
  have h1:=wZa r;have h2:=wYa p.dev;have h3:p.runs.length <= (p.runs.flatMap D.JT).length:=by
   generalize p.runs = l
   induction l with
   | nil=>simp
   | cons x l ih=>
    have:=wYa x.lo;rw [List.flatMap_cons,List.length_append,List.length_cons,D.JT,List.length_append];omega
  have h4:C.yN (p :: r) = p.runs.length + C.yN r:=by simp [C.yN]
  rw [List.flatMap_cons,List.length_append,List.length_cons,D.Qo,List.length_append,List.length_append];omega
theorem waa : ∀ l:List EV,l.length <= (l.flatMap E.Xw).length
 | []=>by simp
 | e :: r=>by
  have h1:=waa r;have h2:1 <= (E.Xw e).length:=by
   unfold E.Xw;simp only [List.length_append,List.length_cons];omega
  rw [List.flatMap_cons,List.length_append,List.length_cons];omega
theorem XI {s:RS} (hO:N.Ok s):(vw s).1.length + C.yN (vw s).1 <= s.1.length /\ (vw s).2.1.length <= s.1.length:=by
 obtain ⟨h1,_,_,h4,h5⟩:=D.yF hO
 by_cases c:(vw s).2.2 = 0
 ·have h6:=D.ctx_inv hO c;have h7:=congrArg List.length h6;rw [List.length_append,XE,<- h5 c,D.yYa,List.length_append] at h7;have:=wZa (vw s).1;omega
 ·rw [h4 c,h1.nil c];simp [C.yN]
theorem ySa {s:RS} (hO:N.Ok s) (m:Int):(WE m s).1.length <= s.1.length:=by
 obtain ⟨_,_,_,h4,h5⟩:=E.Vd hO m
 by_cases c:(WE m s).2.2 = 0
 ·have h7:=congrArg List.length (h4 c).1;rw [List.length_append,vB,List.length_append] at h7;have:=waa (WE m s).1;omega
 ·rw [h5 c];simp
theorem wba {e:EV} (h:zr e = true):e.kills.length <= 256:=by
 simp only [zr,E.yMa,Bool.and_eq_true,decide_eq_true_eq] at h;exact h.2.2.1
def JN (s:RS):DL:=⟨(vw s).1,(vw (vw s).2).1,(WE 4096 (vw (vw s).2).2).1⟩
def ZCa (s:RS):RS:=jE (!yr (JN s)) (WE 4096 (vw (vw s).2).2).2
def ZK (s:RS):DL × RS:=fin ⟨[],[],[]⟩ (JN s) (ZCa s)
theorem yTa {s:RS} (hO:N.Ok s) (hl:s.1.length <= 500000):OkD (JN s):=by
 obtain ⟨a1,a2,a3,_,_⟩:=D.yF hO;obtain ⟨b1,b2,b3,_,_⟩:=D.yF a1;obtain ⟨_,c2,_,_,_⟩:=E.Vd b1 4096;have s1:=XI hO;have s2:=XI a1;have s3:=ySa b1 4096;exact ⟨D.wLa a2 a3,D.wLa b2 b3,fun e he=>(c2 e he).1,by show (WE 4096 _).1.length <= _;omega,fun e he=>by have:=wba (c2 e he).2;omega⟩
theorem yUa {s:RS} (hO:N.Ok s) (hl:s.1.length <= 500000):OkD (ZK s).1:=by
 unfold ZK fin
 split
 ·exact ⟨C.ok_nil,C.ok_nil,(fun e he=>by cases he),by simp,(fun e he=>by cases he)⟩
 ·exact yTa hO hl
theorem wca {s:RS} (hO:N.Ok s) (hl:s.1.length <= 500000):wj s.1 s.2 = pure (ZK s):=by
 obtain ⟨a1,_⟩:=D.yF hO;obtain ⟨b1,_⟩:=D.yF a1;have hg:vG ⟨(vw s).1,(vw (vw s).2).1,(WE 4096 (vw (vw s).2).2).1⟩ = pure (yr (JN s)):=F.Ve (yTa hO hl);unfold wj;rw [D.wMa hO,zB,zA,D.wMa a1,zB,zA,E.yOa b1 (by omega),zB,zA,hg,zB,zA,D.Qq,zA];exact D.xTa ⟨[],[],[]⟩ (JN s) (ZCa s)
theorem same20 {d:DL} (h:OkD d):Wx d d = pure true:=by
 unfold Wx;rw [C.uM _ _ h.from_ h.from_,zB,zA,decide_eq_true rfl,cond_true,C.uM _ _ h.to_ h.to_,zB,zA,decide_eq_true rfl,cond_true,E.rAll_eq _ _ (by have:=h.len;omega) (fun e he=>by have:=h.kills e he;omega),zB,zA,decide_eq_true rfl,zA]
open E (OkE zr Yh vB WE)
open D (XE vw jE fin)
open F (Xs zp vO vu yr OkD xq)
open N (RS z9a Sim OkB)

section
variable {n:Nat} {W c xc:List PT} {nl1:Bool} {m1:List (DT × EV)} {nl2:Bool} {m2:List (DT × EV)} {L:List EV}
end
theorem wda {l:List EV} (h:∀ (i:Nat) (x:EV),l[i]? = some x -> xq l i x = false):Yh l:=by
 have key:∀ i,i <= l.length -> Yh (l.take i):=by
  intro i
  induction i with
  | zero=>intro _;simp [Yh]
  | succ i ih=>
   intro hi;have hx:=List.getElem?_eq_getElem (show i < l.length by omega);exact (prev_srt hx (ih (by omega)) (h i _ hx)).1
 have:=key l.length (Nat.le_refl _)
 rwa [List.take_length] at this
theorem vNa {d:DL} (h:yr d = true):d.from_ = C.zk d.from_ /\ d.to_ = C.zk d.to_ /\ d.events.length <= 4096 /\ Yh d.events /\ ∀ e ∈ d.events,zr e = true:=by
 unfold yr at h;simp only [Bool.and_eq_true,decide_eq_true_eq,List.all_eq_true] at h;obtain ⟨h1,h2,_,h4,h5,_⟩:=h;have hb:∀ (i:Nat) (x:EV),d.events[i]? = some x -> F.vWa d i x = false:=fun i x hx=>by
  have:=h5 (x,i) (by rw [List.mem_zipIdx_iff_getElem?];exact hx);simpa using this
 refine ⟨h1,h2,h4,wda fun i x hx=>?_,fun e he=>?_⟩
 ·have:=hb i x hx;simp only [F.vWa,Bool.or_eq_false_iff] at this;exact this.2.1
 ·obtain ⟨i,hi⟩:=List.getElem?_of_mem he;have:=hb i e hi;simp only [F.vWa,Bool.or_eq_false_iff,Bool.not_eq_false'] at this;exact this.1
theorem vOa {d:DL} (od:OkD d) (h1:∀ p ∈ d.from_,p.dev <= 65535) (h2:∀ p ∈ d.to_,p.dev <= 65535) (s1:d.from_.length <= 10000 /\ C.yN d.from_ <= 10000) (s2:d.to_.length <= 10000 /\ C.yN d.to_ <= 10000) (hg:yr d = true) (r:List Int) :
  ZK (XE d.from_ ++ XE d.to_ ++ vB d.events ++ r,0) = (d,(r,0)):=by
 obtain ⟨g1,g2,g3,g4,g5⟩:=vNa hg;have e1:=D.Qu h1 (by omega) (XE d.to_ ++ (vB d.events ++ r));have e2:=D.Qu h2 (by omega) (vB d.events ++ r);have e3:=E.u6a g4 (fun e he=>⟨od.evs e he,g5 e he⟩) (most:=4096) (by omega) (by omega) r;rw [<- g1] at e1;rw [<- g2] at e2;have hs:(XE d.from_ ++ XE d.to_ ++ vB d.events ++ r,(0:Int)) = (XE d.from_ ++ (XE d.to_ ++ (vB d.events ++ r)),(0:Int)):=by simp only [List.append_assoc]
 rw [hs];have hr:JN (XE d.from_ ++ (XE d.to_ ++ (vB d.events ++ r)),0) = d:=by
  unfold JN;rw [e1];dsimp only;rw [e2];dsimp only;rw [e3]
 unfold ZK ZCa;rw [hr,hg,e1];dsimp only;rw [e2];dsimp only;rw [e3]
 rfl
open E (OkE zr Yh)
open F (Xs zp vO)

def hD (e:EV) (k n:Int):Bool:=C.xp (C.dotsC (vO [e])) k n
structure Past (P:List EV) (W:List PT) (L:List EV):Prop where
 has:∀ k n,C.xp W k n = true ↔ ∃ e ∈ P,zr e = true /\ hD e k n = true
 mem:∀ x,x ∈ L ↔ x ∈ P /\ zr x = true /\ ∀ f ∈ P,zr f = true -> x.dot ∉ f.kills
 srt:Yh L
open E (OkE zr Yh)
open F (Xs zp vO)

open E (OkE zr Yh)
open F (Xs zp vO)

structure InK (K:List DT) (n:Nat) (v:List EV):Prop where
 srt:Yh v
 len:v.length = n
 ok:∀ e ∈ v,OkE e
 kl:∀ e ∈ v,e.kills.length <= 4000
 sub:∀ e ∈ v,∀ d ∈ e.kills,d ∈ K
open E (OkE zr Yh)
open F (Xs zp vO)
end Go.Ep.M.G

namespace Go.Ep.M.U
open Go
def C (b:BitVec 32):Int:=(b.toNat:Int)
theorem C_lt (b:BitVec 32):0 <= C b /\ C b < 4294967296:=⟨by unfold C;omega,by have:=b.isLt;unfold C;omega⟩
theorem wU32 {n:Int} (h:0 <= n) (h':n < 4294967296):IntKind.u32.wrap n = n:=by simp [IntKind.wrap,IntKind.bits,IntKind.signed];omega
theorem ofC (b:BitVec 32):BitVec.ofInt 32 (C b) = b:=by unfold C;rw [BitVec.ofInt_natCast];simp
theorem C_of {n:Int} (h:0 <= n) (h':n < 4294967296):C (BitVec.ofInt 32 n) = n:=by
 unfold C;rw [BitVec.toNat_ofInt];omega
theorem xorC (a b:BitVec 32):Wi .u32 (C a) (C b) = C (a ^^^ b):=by
 show IntKind.u32.wrap (((BitVec.ofInt 32 (C a) ^^^ BitVec.ofInt 32 (C b)).toNat:Nat):Int) = _;rw [ofC,ofC];exact wU32 (C_lt _).1 (C_lt _).2
theorem andC (a b:BitVec 32):yWa .u32 (C a) (C b) = C (a &&& b):=by
 show IntKind.u32.wrap (((BitVec.ofInt 32 (C a) &&& BitVec.ofInt 32 (C b)).toNat:Nat):Int) = _;rw [ofC,ofC];exact wU32 (C_lt _).1 (C_lt _).2
theorem shrC (a:BitVec 32) (k:Nat):Int.fdiv (C a) ((2 ^ k:Nat):Int) = C (a >>> k):=by
 unfold C;rw [BitVec.toNat_ushiftRight,Nat.shiftRight_eq_div_pow,Int.fdiv_eq_ediv_of_nonneg _ (Int.natCast_nonneg _)]
 rfl
theorem fdiv16 (a:BitVec 32):Int.fdiv (C a) (2 ^ 4) = C (a >>> 4):=shrC a 4
def s1 (c:BitVec 32):BitVec 32:=(c >>> 1) ^^^ (if c.getLsbD 0 then 0xedb88320#32 else 0#32)
def s4 (c:BitVec 32):BitVec 32:=s1 (s1 (s1 (s1 c)))
theorem x4 (a b p q:BitVec 32):(a ^^^ b) ^^^ (p ^^^ q) = (a ^^^ p) ^^^ (b ^^^ q):=by
 rw [BitVec.xor_assoc,BitVec.xor_assoc,<- BitVec.xor_assoc b p q,BitVec.xor_comm b p,BitVec.xor_assoc p b q]
theorem s1_xor (a b:BitVec 32):s1 (a ^^^ b) = s1 a ^^^ s1 b:=by
 unfold s1;rw [BitVec.getLsbD_xor,BitVec.ushiftRight_xor_distrib];have r:∀ x y z:BitVec 32,x ^^^ y ^^^ z = x ^^^ z ^^^ y:=fun x y z=>by rw [BitVec.xor_assoc,BitVec.xor_comm y,<- BitVec.xor_assoc]
 cases a.getLsbD 0 <;> cases b.getLsbD 0
 ·simp
 ·simp [BitVec.xor_assoc]
 ·simp [r]
 ·have:=x4 (a >>> 1) (b >>> 1) 0xedb88320#32 0xedb88320#32;simpa using this
theorem s4_xor (a b:BitVec 32):s4 (a ^^^ b) = s4 a ^^^ s4 b:=by unfold s4;simp only [s1_xor]
theorem WW {c:BitVec 32} (h:c.getLsbD 0 = false):s1 c = c >>> 1:=by unfold s1;rw [h];simp
theorem split16 (c:BitVec 32):c = (c &&& 0xfffffff0#32) ^^^ (c &&& 15#32):=by
 apply BitVec.eq_of_getLsbD_eq;intro i hi;rw [BitVec.getLsbD_xor,BitVec.getLsbD_and,BitVec.getLsbD_and];have h:∀ j:Fin 32,((0xfffffff0#32:BitVec 32).getLsbD j ^^ (15#32:BitVec 32).getLsbD j) = true:=by decide
 have:=h ⟨i,hi⟩;simp only at this
 cases c.getLsbD i <;> simp_all
theorem s4_hi (c:BitVec 32):s4 (c &&& 0xfffffff0#32) = c >>> 4:=by
 have hb:∀ i,i < 4 -> (c &&& 0xfffffff0#32).getLsbD i = false:=fun i hi=>by
  rw [BitVec.getLsbD_and];have h:∀ j:Fin 4,(0xfffffff0#32:BitVec 32).getLsbD j = false:=by decide
  rw [h ⟨i,hi⟩,Bool.and_false]
 have e:(c &&& 0xfffffff0#32) >>> 4 = c >>> 4:=by
  apply BitVec.eq_of_getLsbD_eq;intro i hi;rw [BitVec.getLsbD_ushiftRight,BitVec.getLsbD_ushiftRight,BitVec.getLsbD_and]
  by_cases h4:4 + i < 32
  ·have h:∀ j:Fin 28,(0xfffffff0#32:BitVec 32).getLsbD (4 + j) = true:=by decide
   rw [show (0xfffffff0#32:BitVec 32).getLsbD (4 + i) = true from h ⟨i,by omega⟩,Bool.and_true]
  ·rw [BitVec.getLsbD_of_ge c _ (by omega),Bool.false_and]
 generalize c &&& 0xfffffff0#32 = d at hb e ⊢
 have h1:s1 d = d >>> 1:=WW (hb 0 (by omega));have h2:s1 (d >>> 1) = d >>> 2:=by rw [WW (by rw [BitVec.getLsbD_ushiftRight];exact hb 1 (by omega)),<- BitVec.shiftRight_add]
 have h3:s1 (d >>> 2) = d >>> 3:=by rw [WW (by rw [BitVec.getLsbD_ushiftRight];exact hb 2 (by omega)),<- BitVec.shiftRight_add]
 have h4:s1 (d >>> 3) = d >>> 4:=by rw [WW (by rw [BitVec.getLsbD_ushiftRight];exact hb 3 (by omega)),<- BitVec.shiftRight_add]
 unfold s4;rw [h1,h2,h3,h4,e]
theorem s4_eq (c:BitVec 32):s4 c = (c >>> 4) ^^^ s4 (c &&& 15#32):=by
 conv=>lhs;rw [split16 c]
 rw [s4_xor,s4_hi]
def s8 (c x:BitVec 32):BitVec 32:=s4 (s4 (c ^^^ x))
theorem and15 (c:BitVec 32):(c &&& 15#32).toNat < 16:=by
 have h:(c &&& 15#32).toNat <= 15:=by rw [BitVec.toNat_and];exact Nat.and_le_right
 omega
theorem tab_get (c:BitVec 32):tabG.getD (Int.toNat (C (c &&& 15#32))) 0 = C (s4 (c &&& 15#32)):=by
 have h:∀ j:Fin 16,tabG.getD j 0 = C (s4 (BitVec.ofNat 32 j)):=by decide
 have h2:=h ⟨(c &&& 15#32).toNat,and15 c⟩;have e:BitVec.ofNat 32 (c &&& 15#32).toNat = c &&& 15#32:=by simp
 rw [show Int.toNat (C (c &&& 15#32)) = (c &&& 15#32).toNat from by unfold C;omega,h2,e]
theorem byte_eq (c x:BitVec 32) (hx:x.toNat < 256) :
  s4 ((s4 ((c ^^^ x) &&& 15#32) ^^^ (c >>> 4) ^^^ (x >>> 4)) &&& 15#32) ^^^ ((s4 ((c ^^^ x) &&& 15#32) ^^^ (c >>> 4)) >>> 4) = s8 c x:=by
 have h0:(x >>> 4) >>> 4 = 0#32:=by
  rw [<- BitVec.shiftRight_add];apply BitVec.eq_of_toNat_eq;rw [BitVec.toNat_ushiftRight,Nat.shiftRight_eq_div_pow];exact Nat.div_eq_of_lt hx
 have e:s4 (c ^^^ x) = s4 ((c ^^^ x) &&& 15#32) ^^^ (c >>> 4) ^^^ (x >>> 4):=by
  rw [s4_eq (c ^^^ x),BitVec.ushiftRight_xor_distrib,BitVec.xor_comm,BitVec.xor_assoc]
 show _ = s4 (s4 (c ^^^ x));rw [e,s4_eq (_ ^^^ (x >>> 4)),BitVec.ushiftRight_xor_distrib _ (x >>> 4),h0,BitVec.xor_zero,BitVec.xor_comm]
theorem c15 : (15:Int) = C 15#32:=rfl
def WY (c:BitVec 32) (l:List Int):BitVec 32:=l.foldl (fun c x=>s8 c (BitVec.ofInt 32 x)) c
def okB (l:List Int):Prop:=∀ x ∈ l,0 <= x /\ x < 256
theorem ofB_lt {x:Int} (h:0 <= x /\ x < 256):(BitVec.ofInt 32 x).toNat < 256:=by
 have:=C_of (n:=x) h.1 (by omega);unfold C at this;omega
theorem idxOk (c:BitVec 32):(0:Int) <= C (c &&& 15#32) /\ C (c &&& 15#32) < ((16:Nat):Int):=⟨(C_lt _).1,by have:=and15 c;unfold C;omega⟩
theorem xYa (l:List Int) (hl:l.length <= 1000000000000) (ho:okB l) (c:BitVec 32):XX (C c) l = pure (C (0xffffffff#32 ^^^ WY (0xffffffff#32 ^^^ c) l)):=by
 unfold XX;have e:(4294967295:Int) = C 0xffffffff#32:=rfl;rw [e,xorC];have key:∀ k i (c:BitVec 32),i + k = l.length -> loop (jV l) (C c,(i:Int)) = pure (C (WY c (l.drop i))):=by
  intro k
  induction k with
  | zero=>
   intro i c hi;rw [zW (r:=C c)]
   ·rw [List.drop_of_length_le (by omega)];rfl
   ·show cond (decide ((i:Int) < (l.length:Int))) _ _ = _;rw [decide_eq_false (by omega)];rfl
  | succ k ih=>
   intro i c hi;have hlt:i < l.length:=by omega
   have hx:=ho _ (List.getElem_mem hlt);rw [zg (s':=(C (s8 c (BitVec.ofInt 32 l[i])),((i + 1:Nat):Int)))]
   ·rw [ih (i + 1) _ (by omega),List.drop_eq_getElem_cons hlt];rfl
   ·show cond (decide ((i:Int) < (l.length:Int))) _ _ = _;rw [decide_eq_true (by omega)];show (M.idx l (i:Int)).bind _ = _;rw [zI (List.getElem?_eq_getElem hlt)];have ex:IntKind.u32.wrap l[i] = C (BitVec.ofInt 32 l[i]):=by rw [C_of hx.1 (by omega)];exact wU32 hx.1 (by omega)
    have ex4:IntKind.u32.wrap (Int.fdiv l[i] (2 ^ 4)) = C ((BitVec.ofInt 32 l[i]) >>> 4):=by
     rw [<- fdiv16,C_of hx.1 (by omega)];have:Int.fdiv l[i] (2 ^ 4) = l[i] / 16:=Int.fdiv_eq_ediv_of_nonneg _ (by omega);rw [this];exact wU32 (by omega) (by omega)
    have ei:IntKind.i64.wrap ((i:Int) + 1) = ((i + 1:Nat):Int):=by rw [YU (by omega) (by omega)];omega
    rw [zA];simp only [ex,ex4,ei,c15,xorC,andC,fdiv16,tab_get];rw [zC (idxOk _),zC (idxOk _),byte_eq c _ (ofB_lt hx)]
 rw [show (0:Int) = ((0:Nat):Int) from rfl,key l.length 0 _ (by omega),zA,xorC]
 rfl
def four (c:BitVec 32):List Int:=[C c % 256,C c / 256 % 256,C c / 65536 % 256,C c / 16777216 % 256]
def Xx (l:List Int):BitVec 32:=0xffffffff#32 ^^^ WY 0xffffffff#32 l
theorem u8mod (n:Int):IntKind.u8.wrap n = n % 256:=by simp [IntKind.wrap,IntKind.bits,IntKind.signed]
def vC (k:Int) (b:List Int):List Int:=k :: b ++ four (Xx (k :: b))
theorem Seal_eq (k:Int) (b:List Int) (hk:0 <= k /\ k < 256) (hb:okB b) (hl:b.length <= 1000000000):Wr k b = pure (vC k b):=by
 unfold Wr;have ho:okB (k :: b):=fun x hx=>(List.mem_cons.1 hx).elim (fun h=>h ▸ hk) (hb x)
 rw [zC (by rw [YU (by omega) (by omega)];omega),zC (by simp),zC (by simp;omega)];have hs:Zu [([] ++ [k]) ++ b] = pure (C (Xx (k :: b)) % 256,C (Xx (k :: b)) / 256 % 256,C (Xx (k :: b)) / 65536 % 256,C (Xx (k :: b)) / 16777216 % 256):=by
  unfold Zu zSa;have hm:=xYa (k :: b) (by simp;omega) ho 0#32;have h1:ZY [([] ++ [k]) ++ b] (0,0) = pure (.next (C (Xx (k :: b)),1)):=by
   show (M.idx [k :: b] 0).bind _ = _;rw [show (0:Int) = ((0:Nat):Int) from rfl,zI (y:=k :: b) rfl,zA];show (M.det (XX (C 0#32) (k :: b))).bind _ = _;rw [hm,zB,zA]
   rfl
  have h2:ZY [([] ++ [k]) ++ b] (C (Xx (k :: b)),1) = pure (.done (C (Xx (k :: b)))):=rfl;rw [zg h1,zW h2,zA,zB,zA];have hc:=(C_lt (Xx (k :: b))).1
  generalize C (Xx (k :: b)) = n at hc
  simp only [u8mod];have hq:∀ m:Nat,Int.fdiv n ((m:Nat):Int) = n / m:=fun m=>Int.fdiv_eq_ediv_of_nonneg _ (by omega)
  have q1:Int.fdiv n (2 ^ 8) = n / 256:=hq 256;have q2:Int.fdiv n (2 ^ 16) = n / 65536:=hq 65536;have q3:Int.fdiv n (2 ^ 24) = n / 16777216:=hq 16777216;rw [q1,q2,q3]
 rw [hs,zB,zA,zC (by simp;omega)]
 rfl
open E (OkE zr vB)
open D (XE)
open F (OkM InM fewM)
theorem Vg {m:TMsg} (hg:yk m = pure true):1 <= m.kind /\ m.kind <= 9:=by
 have no:(pure false:M Bool) ≠ pure true:=fun h=>by
  have h2:(pure false:M Bool).wp (· = true):=by rw [h];rfl
  cases h2
 refine ⟨Decidable.byContradiction fun h=>no ?_,Decidable.byContradiction fun h=>no ?_⟩
 ·rw [<- hg];have h1:decide (m.kind < 1) = true:=decide_eq_true (by omega);unfold yk;rw [h1]
  cases decide (m.kind = 1) <;> rfl
 ·rw [<- hg];have h1:decide (m.kind < 1) = false:=decide_eq_false (by omega);have h2:decide (9 < m.kind) = true:=decide_eq_true (by omega);unfold yk;rw [h1,h2]
  cases decide (m.kind = 1) <;> rfl
def UY (d:DL):List Int:=XE d.from_ ++ XE d.to_ ++ vB d.events
def XJ (m:TMsg):List Int:=
 if m.kind = 1 then [m.slot] ++ N.yj m.try_ else
 if m.kind = 2 then [m.slot] ++ N.yj m.try_ ++ N.yj m.dev ++ N.yj m.epoch ++ UY m.delta else
 if m.kind = 4 then N.yj m.dev ++ N.yj m.epoch ++ UY m.delta ++ XE m.front else
 if m.kind = 5 then N.yj m.dev ++ N.yj m.epoch ++ XE m.have_ ++ vB m.delta.events else
 if m.kind = 8 then N.yj m.dev ++ N.yj m.epoch else
 if m.kind = 9 then N.yj m.dev ++ N.yj m.epoch ++ [m.why] else N.yj m.dev ++ N.yj m.epoch ++ XE m.have_
structure FitM (m:TMsg):Prop where
 ok:OkM m
 try_:0 <= m.try_ /\ m.try_ <= 18446744073709551615
 epoch:0 <= m.epoch /\ m.epoch <= 18446744073709551615
 have_:(∀ p ∈ m.have_,p.dev <= 65535) /\ m.have_.length <= 10000 /\ C.yN m.have_ <= 10000
 front:(∀ p ∈ m.front,p.dev <= 65535) /\ m.front.length <= 10000 /\ C.yN m.front <= 10000
 from_:(∀ p ∈ m.delta.from_,p.dev <= 65535) /\ m.delta.from_.length <= 10000 /\ C.yN m.delta.from_ <= 10000
 to_:(∀ p ∈ m.delta.to_,p.dev <= 65535) /\ m.delta.to_.length <= 10000 /\ C.yN m.delta.to_ <= 10000
 evs:m.delta.events.length <= 10000 /\ ∀ e ∈ m.delta.events,e.text.size <= 200
theorem ZDa {d:DL} (hd:F.OkD d) (h1:∀ p ∈ d.from_,p.dev <= 65535) (h2:∀ p ∈ d.to_,p.dev <= 65535) (s1:d.from_.length <= 10000 /\ C.yN d.from_ <= 10000) (s2:d.to_.length <= 10000 /\ C.yN d.to_ <= 10000) (hl:d.events.length <= 10000) (ht:∀ e ∈ d.events,e.text.size <= 200):(UY d).length <= 1000000000:=by
 have e1:=G.xC h1 (by omega) (by omega);have e2:=G.xC h2 (by omega) (by omega);have e3:=E.XH hd.evs (fun e he=>⟨hd.kills e he,ht e he⟩);have e4:=N.zc (v:=(d.events.length:Int)) (by omega);unfold UY vB;simp only [List.length_append];omega
theorem vPa {d:DL} (hd:F.OkD d) (h1:∀ p ∈ d.from_,p.dev <= 65535) (h2:∀ p ∈ d.to_,p.dev <= 65535) (s1:d.from_.length <= 10000 /\ C.yN d.from_ <= 10000) (s2:d.to_.length <= 10000 /\ C.yN d.to_ <= 10000) (hl:d.events.length <= 10000) (ht:∀ e ∈ d.events,e.text.size <= 200) (row:List Int) (hr:row.length <= 100000000):yT d row = pure (row ++ UY d):=by
 have e1:=G.xC h1 (by omega) (by omega);have e2:=G.xC h2 (by omega) (by omega);have e3:=E.XH hd.evs (fun e he=>⟨hd.kills e he,ht e he⟩);have e4:=N.zc (v:=(d.events.length:Int)) (by omega);unfold yT;rw [D.Va hd.from_ h1 (by omega) row (by omega),zB,zA,D.Va hd.to_ h2 (by omega) _ (by rw [List.length_append];omega),zB,zA,E.yNa hd.evs (by omega) _ (by simp only [List.length_append];omega),zB,zA];unfold UY;simp only [List.append_assoc]
theorem ZEa {k:Int} (h:1 <= k /\ k <= 9):k = 1 \/ k = 2 \/ k = 3 \/ k = 4 \/ k = 5 \/ k = 6 \/ k = 7 \/ k = 8 \/ k = 9:=by omega
theorem by_evs {l:List EV} (h:∀ e ∈ l,OkE e) (hl:l.length <= 1000000000):N.By (vB l):=by
 refine (N.vv (by omega)).app fun y hy=>?_
 obtain ⟨e,he,hy2⟩:=List.mem_flatMap.1 hy;have ho:=h e he;have b1:N.By (D.encD e.dot):=(N.vv (by have:=ho.dot.d1;omega)).app (N.vv ho.dot.n1);have b2:N.By [e.kind]:=fun x hx=>by rw [List.mem_singleton.1 hx];exact ho.kind
 have b3:N.By [e.field]:=fun x hx=>by rw [List.mem_singleton.1 hx];exact ho.field
 have ht:=ho.text;have hk:=ho.klen;have b4:N.By (E.Qv e.text):=(N.vv (by omega)).app (E.by_bytes _);have b5:N.By (D.uN e.kills):=by
  rw [D.uN];refine (N.vv (by have:=D.jD e.kills;omega)).app fun z hz=>?_
  obtain ⟨d,hd,h⟩:=List.mem_flatMap.1 hz;have hd2:=ho.kills d (D.wEa.1 hd).1;exact ((N.vv (by have:=hd2.d1;omega)).app (N.vv hd2.n1)) z h
 exact (b1.app (b2.app ((N.vv ho.cid.2).app (b3.app (b4.app b5))))) y hy2
theorem wea {c:List PT} (h:∀ p ∈ c,p.dev <= 65535) (hl:c.length <= 10000 /\ C.yN c <= 10000):N.By (XE c):=
 D.by_encC c (D.VZ h) ⟨by have:=C.uq c;omega,by have:=C.ur c;omega⟩
theorem by_okB {l:List Int} (h:N.By l):okB l:=fun x hx=>by have:=h x hx;omega
theorem xZa {m:TMsg} (h:FitM m):N.By (XJ m) /\ (XJ m).length <= 1000000000:=by
 have o:=h.ok;have hs:N.By [m.slot]:=fun x hx=>by rw [List.mem_singleton.1 hx];exact o.slot
 have hw:N.By [m.why]:=fun x hx=>by rw [List.mem_singleton.1 hx];exact o.why
 have h1:=N.vv h.try_.2;have h2:=N.vv h.epoch.2;have h3:N.By (N.yj m.dev):=N.vv (by have:=o.dev;omega);have h4:=wea h.have_.1 h.have_.2;have h5:=wea h.front.1 h.front.2;have h6:=by_evs o.delta.evs (by have:=h.evs.1;omega);have h7:N.By (UY m.delta):=((wea h.from_.1 h.from_.2).app (wea h.to_.1 h.to_.2)).app h6;have l1:=N.zc h.try_.2;have l2:=N.zc h.epoch.2;have l3:=N.zc (v:=m.dev) (by have:=o.dev;omega);have l4:=G.xC h.have_.1 (by have:=h.have_.2;omega) (by have:=h.have_.2;omega);have l5:=G.xC h.front.1 (by have:=h.front.2;omega) (by have:=h.front.2;omega);have l6:=E.XH o.delta.evs (fun e he=>⟨o.delta.kills e he,h.evs.2 e he⟩);have l7:=N.zc (v:=(m.delta.events.length:Int)) (by have:=h.evs.1;omega);have l8:=G.xC h.from_.1 (by have:=h.from_.2;omega) (by have:=h.from_.2;omega);have l9:=G.xC h.to_.1 (by have:=h.to_.2;omega) (by have:=h.to_.2;omega);have lq:=h.evs.1;unfold XJ
 constructor
 ·repeat' split
  ·exact hs.app h1
  ·exact (((hs.app h1).app h3).app h2).app h7
  ·exact ((h3.app h2).app h7).app h5
  ·exact ((h3.app h2).app h4).app h6
  ·exact h3.app h2
  ·exact (h3.app h2).app hw
  ·exact (h3.app h2).app h4
 ·repeat' split
  all_goals
   simp only [UY,vB,List.length_append,List.length_cons,List.length_nil];omega
theorem ZFa {m:TMsg} (h:FitM m) (hk:1 <= m.kind /\ m.kind <= 9) (hg:uD m = pure true):yd m = pure (vC m.kind (XJ m),0):=by
 have o:=h.ok;have hd:IntKind.u64.wrap m.dev = m.dev:=WT (by have:=o.dev;omega) (by have:=o.dev;omega);have l1:=N.zc h.try_.2;have l2:=N.zc h.epoch.2;have l3:=N.zc (v:=m.dev) (by have:=o.dev;omega);have l4:=G.xC h.have_.1 (by have:=h.have_.2;omega) (by have:=h.have_.2;omega);have l5:=G.xC h.front.1 (by have:=h.front.2;omega) (by have:=h.front.2;omega);have l6:=E.XH o.delta.evs (fun e he=>⟨o.delta.kills e he,h.evs.2 e he⟩);have lq:=h.evs.1;have hD:=vPa o.delta h.from_.1 h.to_.1 h.from_.2 h.to_.2 h.evs.1 h.evs.2;have l7:=ZDa o.delta h.from_.1 h.to_.1 h.from_.2 h.to_.2 h.evs.1 h.evs.2;have l8:(vB m.delta.events).length <= 100000000:=by
  have:=N.zc (v:=(m.delta.events.length:Int)) (by omega);unfold vB;rw [List.length_append];omega
 have eT:∀ row:List Int,row.length <= 10000000000000 -> zJ m.try_ row = pure (row ++ N.yj m.try_):=fun row hr=>N.ww row h.try_.1 h.try_.2 hr
 have eE:∀ row:List Int,row.length <= 10000000000000 -> zJ m.epoch row = pure (row ++ N.yj m.epoch):=fun row hr=>N.ww row h.epoch.1 h.epoch.2 hr
 have eV:∀ row:List Int,row.length <= 10000000000000 -> zJ m.dev row = pure (row ++ N.yj m.dev):=fun row hr=>N.ww row o.dev.1 (by have:=o.dev;omega) hr
 have eH:∀ row:List Int,row.length <= 100000000000 -> zw m.have_ row = pure (row ++ XE m.have_):=fun row hr=>D.Va o.have_ h.have_.1 (by have:=h.have_.2;omega) row hr
 have eF:∀ row:List Int,row.length <= 100000000000 -> zw m.front row = pure (row ++ XE m.front):=fun row hr=>D.Va o.front h.front.1 (by have:=h.front.2;omega) row hr
 have eA:∀ row:List Int,row.length <= 400000000 -> xA m.delta.events row = pure (row ++ vB m.delta.events):=fun row hr=>E.yNa o.delta.evs (by omega) row (by omega)
 have eD:∀ row:List Int,row.length <= 100000000 -> yT m.delta row = pure (row ++ UY m.delta):=fun row hr=>hD row hr
 have eB:∀ (c:Int) (row:List Int),row.length <= 10000000000000 -> zo c row = pure (row ++ [c]):=fun c row hr=>N.Qj c row hr
 have eY:∀ row:List Int,row.length <= 100000000000000 -> yQ row = pure (row,row):=fun row hr=>N.Bytes_eq row hr
 have eS:=Seal_eq m.kind (XJ m) ⟨by omega,by omega⟩ (by_okB (xZa h).1) (xZa h).2;unfold yd;rw [hg,zB,zA];unfold XJ at eS ⊢;rcases ZEa hk with e | e | e | e | e | e | e | e | e
 all_goals
  simp (disch:=first | omega | (simp only [List.length_append,List.length_cons,List.length_nil];omega)) only [e,hd,eB,eT,eE,eV,eH,eF,eA,eD,eY,Int.reduceEq,Int.reduceLE,decide_true,decide_false,Bool.not_true,Bool.not_false,cond_true,cond_false,zA,zB,if_true,if_false,zC,List.nil_append,List.append_assoc] at eS ⊢;rw [eS,zB,zA]
def encM9 (b:Bool) (m:TMsg):List Int × Int:=if b = true then (vC m.kind (XJ m),0) else ([],1)
theorem vQa {m:TMsg} (h:FitM m) {b:Bool} (hb:yk m = pure b):yd m = pure (encM9 b m):=by
 have hm:uD m = pure b:=by rw [F.yRa h.ok,hb]
 cases b with
 | false=>unfold yd;rw [hm,zB];rfl
 | true=>exact ZFa h (Vg hb) hm
def xaa : TMsg:=⟨8,0,0,1,2,0,[],[],⟨[],[],[]⟩⟩
theorem fit_bye : FitM xaa where
 ok:=F.okM (m:=xaa) ⟨by decide,by decide,by decide,by decide,by simp [xaa],by simp [xaa],by simp [xaa],by simp [xaa],by simp [xaa]⟩ (by decide)
 try_:=by decide
 epoch:=by decide
 have_:=⟨by simp [xaa],by decide,by decide⟩
 front:=⟨by simp [xaa],by decide,by decide⟩
 from_:=⟨by simp [xaa],by decide,by decide⟩
 to_:=⟨by simp [xaa],by decide,by decide⟩
 evs:=⟨by decide,by simp [xaa]⟩
theorem good_bye : uD xaa = pure true:=by
 unfold uD;simp only [F.yQa,F.ZAa,zB,zA]
 rfl
theorem works28 : Ys = pure true:=by
 unfold Ys;have e:=ZFa fit_bye (by decide) good_bye;show (det (yd xaa)).bind _ = _;rw [e,zB,zA];have e1:N.yj 1 = [1,1]:=by
  show (N.XA 1:Int) :: N.be 1 (N.XA 1) = _;have:N.XA 1 = 1:=by rw [N.Ya (by decide),show 1 / 256 = 0 from rfl,N.Zk]
  rw [this];rfl
 have e2:N.yj 2 = [1,2]:=by
  show (N.XA 2:Int) :: N.be 2 (N.XA 2) = _;have:N.XA 2 = 1:=by rw [N.Ya (by decide),show 2 / 256 = 0 from rfl,N.Zk]
  rw [this];rfl
 have eb:XJ xaa = [1,1,1,2]:=by
  show N.yj 1 ++ N.yj 2 = _;rw [e1,e2];rfl
 rw [eb];show (M.yS ((0:Int) <= 0 /\ (0:Int) <= 5 /\ (5:Int) <= ((vC 8 [1,1,1,2]).length:Int)) ((det (Ws ((vC 8 [1,1,1,2]).take 5) [8,1,1,1,2])).bind pure)).bind pure = _;have hq:Ws ((vC 8 [1,1,1,2]).take 5) [8,1,1,1,2] = pure true:=by
  show pure (decide (Xz [8,1,1,1,2] = Xz [8,1,1,1,2])) = _;rw [decide_eq_true rfl]
 rw [zC ⟨by decide,by decide,by show (5:Int) <= ((9:Nat):Int);decide⟩,hq,zB]
 rfl
def it : Nat -> BitVec 32 -> BitVec 32
 | 0,e=>e
 | n + 1,e=>it n (s1 e)
theorem UV (m:Nat):∀ (n:Nat) (e:BitVec 32),it (n + m) e = it m (it n e)
 | 0,e=>by rw [Nat.zero_add];rfl
 | n + 1,e=>by rw [show n + 1 + m = (n + m) + 1 by omega];exact UV m n (s1 e)
theorem UW : ∀ (n:Nat) (a b:BitVec 32),it n (a ^^^ b) = it n a ^^^ it n b
 | 0,_,_=>rfl
 | n + 1,a,b=>by show it n (s1 (a ^^^ b)) = _;rw [s1_xor];exact UW n _ _
theorem ZGa (c x:BitVec 32):s8 c x = it 8 (c ^^^ x):=rfl
theorem s1_zero {d:BitVec 32} (h:s1 d = 0#32):d = 0#32:=by
 have h31:=congrArg (BitVec.getLsbD · 31) h;simp only [s1,BitVec.getLsbD_xor,BitVec.getLsbD_ushiftRight] at h31;rw [BitVec.getLsbD_of_ge d _ (by omega)] at h31;have hb:d.getLsbD 0 = false:=by
  cases hd:d.getLsbD 0 with
  | false=>rfl
  | true=>rw [hd] at h31;revert h31;decide
 rw [WW hb] at h;apply BitVec.eq_of_getLsbD_eq;intro i hi
 cases i with
 | zero=>rw [hb];rfl
 | succ i=>
  have:=congrArg (BitVec.getLsbD · i) h;simp only [BitVec.getLsbD_ushiftRight] at this;rw [show 1 + i = i + 1 by omega] at this;rw [this];simp
theorem it_ne : ∀ (n:Nat) {e:BitVec 32},e ≠ 0#32 -> it n e ≠ 0#32
 | 0,_,h=>h
 | n + 1,_,h=>it_ne n fun h2=>h (s1_zero h2)
theorem wfa : ∀ (n:Nat) (d:BitVec 32),(∀ i,i < n -> d.getLsbD i = false) -> it n d = d >>> n
 | 0,d,_=>by simp [it]
 | n + 1,d,h=>by
  show it n (s1 d) = _;rw [WW (h 0 (by omega)),wfa n (d >>> 1) (fun i hi=>by rw [BitVec.getLsbD_ushiftRight];exact h _ (by omega)),<- BitVec.shiftRight_add,Nat.add_comm]
theorem ZHa : ∀ (l:List Int) (c e:BitVec 32),WY (c ^^^ e) l = WY c l ^^^ it (8 * l.length) e
 | [],_,_=>rfl
 | x :: r,c,e=>by
  show WY (s8 (c ^^^ e) _) r = WY (s8 c _) r ^^^ _;have h:s8 (c ^^^ e) (BitVec.ofInt 32 x) = s8 c (BitVec.ofInt 32 x) ^^^ it 8 e:=by
   rw [ZGa,ZGa,<- UW]
   congr 1
   rw [BitVec.xor_assoc,BitVec.xor_comm e,<- BitVec.xor_assoc]
  rw [h,ZHa r,<- UV,List.length_cons,show 8 + 8 * r.length = 8 * (r.length + 1) by omega]
theorem xba (c:BitVec 32) (a b:List Int):WY c (a ++ b) = WY (WY c a) b:=by unfold WY;rw [List.foldl_append]
theorem ZIa : ∀ (i:Nat),i < 32 -> it i (1#32 <<< i) = 1#32
 | 0,_=>rfl
 | i + 1,h=>by
  show it i (s1 (1#32 <<< (i + 1))) = _;have hb:(1#32 <<< (i + 1):BitVec 32).getLsbD 0 = false:=by simp
  have e:(1#32 <<< (i + 1):BitVec 32) >>> 1 = 1#32 <<< i:=by
   apply BitVec.eq_of_getLsbD_eq;intro j hj;simp only [BitVec.getLsbD_ushiftRight,BitVec.getLsbD_shiftLeft]
   by_cases h1:j < i
   ·simp [h1,show 1 + j < i + 1 by omega]
   ·have e:1 + j - (i + 1) = j - i:=by omega
    simp only [e,show ¬ 1 + j < i + 1 by omega,h1,decide_false,Bool.not_false,Bool.and_true,hj,decide_true,Bool.true_and]
    by_cases h2:1 + j < 32
    ·simp [h2]
    ·obtain rfl:j = 31:=by omega
     have:1 <= 31 - i:=by omega
     obtain ⟨m,hm⟩:∃ m,31 - i = m + 1:=⟨31 - i - 1,by omega⟩
     rw [hm];simp
  rw [WW hb,e,ZIa i (by omega)]
theorem flip_sum (c:BitVec 32) (l:List Int) (p:Nat) (hp:p < 8 * l.length) {x y:Int} (hx:l[p / 8]? = some x) (hy:BitVec.ofInt 32 y = BitVec.ofInt 32 x ^^^ (1#32 <<< (p % 8))) :
  WY c (l.set (p / 8) y) = WY c l ^^^ it (8 * l.length - p) 1#32:=by
 have hk:p / 8 < l.length:=by omega
 have ex:l[p / 8] = x:=by rw [List.getElem?_eq_getElem hk] at hx;exact Option.some.inj hx
 have e1:WY c l = WY (s8 (WY c (l.take (p / 8))) (BitVec.ofInt 32 x)) (l.drop (p / 8 + 1)):=by
  have:l = l.take (p / 8) ++ x :: l.drop (p / 8 + 1):=by
   rw [<- ex,<- List.drop_eq_getElem_cons hk,List.take_append_drop]
  conv=>lhs;rw [this]
  rw [xba];rfl
 have e2:WY c (l.set (p / 8) y) = WY (s8 (WY c (l.take (p / 8))) (BitVec.ofInt 32 y)) (l.drop (p / 8 + 1)):=by
  rw [List.set_eq_take_append_cons_drop,if_pos hk,xba];rfl
 have hl:8 * l.length - p = (8 - p % 8) + 8 * (l.drop (p / 8 + 1)).length:=by rw [List.length_drop];omega
 have e3:it 8 (1#32 <<< (p % 8)) = it (8 - p % 8) 1#32:=by
  have hj:p % 8 < 8:=by omega
  generalize p % 8 = j at hj
  have h8:it 8 (1#32 <<< j) = it (j + (8 - j)) (1#32 <<< j):=by rw [show j + (8 - j) = 8 by omega]
  rw [h8,UV,ZIa _ (by omega)]
 rw [e2,e1,hl,hy,ZGa,<- BitVec.xor_assoc,UW,<- ZGa,ZHa,UV,e3]
theorem bit_at (N a i:Nat) (hi:i < 32) (h:a + i < N):it (N - (a + i)) 1#32 = it (N - a) (1#32 <<< i):=by
 rw [show N - a = i + (N - (a + i)) by omega,UV,ZIa i hi]
theorem split256 (w:BitVec 32):it 8 w = (w >>> 8) ^^^ it 8 (w &&& 255#32):=by
 have e0:w = (w &&& 0xffffff00#32) ^^^ (w &&& 255#32):=by
  apply BitVec.eq_of_getLsbD_eq;intro i hi;rw [BitVec.getLsbD_xor,BitVec.getLsbD_and,BitVec.getLsbD_and];have h:∀ j:Fin 32,((0xffffff00#32:BitVec 32).getLsbD j ^^ (255#32:BitVec 32).getLsbD j) = true:=by decide
  have:=h ⟨i,hi⟩;simp only at this
  cases w.getLsbD i <;> simp_all
 conv=>lhs;rw [e0]
 rw [UW]
 congr 1
 rw [wfa 8 _ (fun i hi=>by
  rw [BitVec.getLsbD_and];have h:∀ j:Fin 8,(0xffffff00#32:BitVec 32).getLsbD j = false:=by decide
  rw [h ⟨i,hi⟩,Bool.and_false])]
 apply BitVec.eq_of_getLsbD_eq;intro i hi;rw [BitVec.getLsbD_ushiftRight,BitVec.getLsbD_ushiftRight,BitVec.getLsbD_and]
 by_cases h4:8 + i < 32
 ·have h:∀ j:Fin 24,(0xffffff00#32:BitVec 32).getLsbD (8 + j) = true:=by decide
  rw [show (0xffffff00#32:BitVec 32).getLsbD (8 + i) = true from h ⟨i,by omega⟩,Bool.and_true]
 ·rw [BitVec.getLsbD_of_ge w _ (by omega),Bool.false_and]
theorem byteW (w:BitVec 32) (k:Nat):BitVec.ofInt 32 (C w / ((2 ^ k:Nat):Int) % 256) = (w >>> k) &&& 255#32:=by
 apply BitVec.eq_of_toNat_eq;have e:C w / ((2 ^ k:Nat):Int) % 256 = ((w.toNat / 2 ^ k % 256:Nat):Int):=by unfold C;omega
 have h255:(w.toNat / 2 ^ k) &&& 255 = w.toNat / 2 ^ k % 256:=Nat.and_two_pow_sub_one_eq_mod _ 8;rw [e,BitVec.ofInt_natCast,BitVec.toNat_ofNat,BitVec.toNat_and,BitVec.toNat_ushiftRight,Nat.shiftRight_eq_div_pow];show _ = (w.toNat / 2 ^ k) &&& 255;rw [h255,Nat.mod_eq_of_lt (by omega)]
theorem Vh (c w:BitVec 32) (k:Nat):s8 (c ^^^ (w >>> k)) ((w >>> k) &&& 255#32) = it 8 c ^^^ (w >>> (k + 8)):=by
 rw [ZGa,UW,UW,BitVec.xor_assoc]
 congr 1
 rw [split256 (w >>> k),BitVec.xor_assoc,BitVec.xor_self,BitVec.xor_zero,<- BitVec.shiftRight_add]
theorem sum_four (c w:BitVec 32):WY c (four w) = it 32 (c ^^^ w):=by
 have b0:BitVec.ofInt 32 (C w % 256) = (w >>> 0) &&& 255#32:=by have:=byteW w 0;simpa using this
 have b1:BitVec.ofInt 32 (C w / 256 % 256) = (w >>> 8) &&& 255#32:=byteW w 8;have b2:BitVec.ofInt 32 (C w / 65536 % 256) = (w >>> 16) &&& 255#32:=byteW w 16;have b3:BitVec.ofInt 32 (C w / 16777216 % 256) = (w >>> 24) &&& 255#32:=byteW w 24;show s8 (s8 (s8 (s8 c (BitVec.ofInt 32 (C w % 256))) (BitVec.ofInt 32 (C w / 256 % 256))) (BitVec.ofInt 32 (C w / 65536 % 256))) (BitVec.ofInt 32 (C w / 16777216 % 256)) = _;rw [b0,b1,b2,b3];have ec:c = (c ^^^ w) ^^^ (w >>> 0):=by simp [BitVec.xor_assoc]
 conv=>lhs;rw [ec]
 rw [Vh,Vh,Vh,Vh];have h0:w >>> (24 + 8) = 0#32:=by
  apply BitVec.eq_of_getLsbD_eq;intro i hi;rw [BitVec.getLsbD_ushiftRight,BitVec.getLsbD_of_ge w _ (by omega)];simp
 rw [h0,BitVec.xor_zero,<- UV,<- UV,<- UV]
theorem ZJa (l:List Int):WY 0xffffffff#32 (l ++ four (Xx l)) = it 32 0xffffffff#32:=by
 rw [xba,sum_four];unfold Xx
 congr 1
 rw [BitVec.xor_comm 0xffffffff#32,<- BitVec.xor_assoc,BitVec.xor_self,BitVec.zero_xor]

open E (OkE zr vB WE)
open D (XE vw fin)
open F (OkM InM fewM OkD)
open N (RS zQ xd yA z9a Sim OkB)
open G (ZK)
theorem ZKa {α:Type} {a b:α} (h:(pure a:M α) = pure b):a = b:=by
 have h2:(pure a:M α).wp (· = b):=by rw [h];rfl
 exact h2
def xF (b:List Int):Int × List Int × Int:=
 match b with
 | []=>(0,[],2)
 | x :: r=>if r.length < 4 then (0,[],2) else if vC x (r.take (r.length - 4)) = x :: r then (x,r.take (r.length - 4),0) else (0,[],5)
theorem ZLa {l:List Int} (h:okB l):N.By l:=fun x hx=>by have:=h x hx;omega
theorem wga (c:BitVec 32):okB (four c):=fun x hx=>by
 have:=(C_lt c).1;simp only [four,List.mem_cons,List.not_mem_nil,or_false] at hx;rcases hx with rfl | rfl | rfl | rfl <;> omega
theorem okB_seal {x:Int} {r:List Int} (hx:0 <= x /\ x < 256) (hr:okB r):okB (vC x r):=fun y hy=>by
 unfold vC at hy;rcases List.mem_append.1 hy with h | h
 ·exact (List.mem_cons.1 h).elim (fun e=>e ▸ hx) (hr y)
 ·exact wga _ y h
theorem crc_sum (p q:List Int) (hp:okB p) (hq:okB q) (h1:p.length <= 10000000) (h2:q.length <= 10000000):zSa [p,q] = pure (C (Xx (p ++ q))):=by
 unfold zSa;have m1:=xYa p (by omega) hp 0#32;have m2:=xYa q (by omega) hq (0xffffffff#32 ^^^ WY (0xffffffff#32 ^^^ 0#32) p);have s1:ZY [p,q] (0,0) = pure (.next (C (0xffffffff#32 ^^^ WY (0xffffffff#32 ^^^ 0#32) p),1)):=by
  show (M.idx [p,q] 0).bind _ = _;rw [show (0:Int) = ((0:Nat):Int) from rfl,zI (y:=p) rfl,zA];show (M.det (XX (C 0#32) p)).bind _ = _;rw [m1,zB,zA];rfl
 have e2:(0xffffffff#32 ^^^ WY (0xffffffff#32 ^^^ (0xffffffff#32 ^^^ WY (0xffffffff#32 ^^^ 0#32) p)) q) = Xx (p ++ q):=by
  unfold Xx;rw [<- BitVec.xor_assoc 0xffffffff#32 0xffffffff#32,BitVec.xor_self,BitVec.zero_xor,BitVec.xor_zero];unfold WY;rw [List.foldl_append]
 have s2:ZY [p,q] (C (0xffffffff#32 ^^^ WY (0xffffffff#32 ^^^ 0#32) p),1) = pure (.next (C (Xx (p ++ q)),2)):=by
  show (M.idx [p,q] 1).bind _ = _;rw [show (1:Int) = ((1:Nat):Int) from rfl,zI (y:=q) rfl,zA,m2,zB,zA,e2];rfl
 have s3:ZY [p,q] (C (Xx (p ++ q)),2) = pure (.done (C (Xx (p ++ q)))):=rfl;rw [zg s1,zg s2,zW s3];rfl
theorem sum_eq (p q:List Int) (hp:okB p) (hq:okB q) (h1:p.length <= 10000000) (h2:q.length <= 10000000) :
  Zu [p,q] = pure (C (Xx (p ++ q)) % 256,C (Xx (p ++ q)) / 256 % 256,C (Xx (p ++ q)) / 65536 % 256,C (Xx (p ++ q)) / 16777216 % 256):=by
 unfold Zu;rw [crc_sum p q hp hq h1 h2,zB,zA]
 generalize Xx (p ++ q) = c
 have hc:=(C_lt c).1
 generalize C c = n at hc
 simp only [u8mod];have hq:∀ m:Nat,Int.fdiv n ((m:Nat):Int) = n / m:=fun m=>Int.fdiv_eq_ediv_of_nonneg _ (by omega)
 have q1:Int.fdiv n (2 ^ 8) = n / 256:=hq 256;have q2:Int.fdiv n (2 ^ 16) = n / 65536:=hq 65536;have q3:Int.fdiv n (2 ^ 24) = n / 16777216:=hq 16777216;rw [q1,q2,q3]
theorem seal_iff {x:Int} {r:List Int} (h4:4 <= r.length):vC x (r.take (r.length - 4)) = x :: r ↔ four (Xx (x :: r.take (r.length - 4))) = r.drop (r.length - 4):=by
 unfold vC
 constructor
 ·intro h;have h2:r.take (r.length - 4) ++ four (Xx (x :: r.take (r.length - 4))) = r:=List.cons.inj h |>.2;have h3:=congrArg (List.drop (r.length - 4)) h2;rw [List.drop_left' (by rw [List.length_take];omega)] at h3;exact h3
 ·intro h;rw [h];show x :: (r.take (r.length - 4) ++ r.drop (r.length - 4)) = _;rw [List.take_append_drop]
theorem Open_eq {b:List Int} (hb:okB b) (hl:b.length <= 1000000):Wt b = pure (xF b):=by
 unfold Wt;have hw:IntKind.i64.wrap ((b.length:Int) - 4) = (b.length:Int) - 4:=YU (by omega) (by omega)
 cases b with
 | nil=>rfl
 | cons x r=>
  rw [hw];have hx:=hb x (by simp);have hr:okB r:=fun y hy=>hb y (by simp [hy])
  by_cases h4:r.length < 4
  ·rw [decide_eq_true (by rw [List.length_cons];omega),cond_true];show _ = pure (if r.length < 4 then _ else _);rw [if_pos h4]
  ·have ht:Int.toNat (((x :: r).length:Int) - 4) = r.length - 3:=by rw [List.length_cons];omega
   have e1:List.drop (Int.toNat 0) (List.take (Int.toNat 1) (x :: r)) = [x]:=by simp
   have e2:List.drop (Int.toNat 1) (List.take (Int.toNat (((x :: r).length:Int) - 4)) (x :: r)) = r.take (r.length - 4):=by
    rw [ht,show r.length - 3 = (r.length - 4) + 1 by omega];rfl
   have e3:List.drop (Int.toNat (((x :: r).length:Int) - 4)) (List.take (Int.toNat ((x :: r).length:Int)) (x :: r)) = r.drop (r.length - 4):=by
    rw [ht,show Int.toNat ((x :: r).length:Int) = (x :: r).length by omega,List.take_length,show r.length - 3 = (r.length - 4) + 1 by omega];rfl
   rw [decide_eq_false (by rw [List.length_cons];omega),cond_false,zC (by rw [List.length_cons];omega),zC (by rw [List.length_cons];omega),e1,e2,e3,
    sum_eq [x] (r.take (r.length - 4)) (fun y hy=>by rw [List.mem_singleton.1 hy];exact hx) (fun y hy=>hr y (List.mem_of_mem_take hy)) (by simp) (by rw [List.length_take];rw [List.length_cons] at hl;omega),zB,zA,zC (by rw [List.length_cons];omega)]
   have e4:(decide (Xz (four (Xx ([x] ++ r.take (r.length - 4)))) = Xz (r.drop (r.length - 4)))) = decide (vC x (r.take (r.length - 4)) = x :: r):=by
    congr 1
    rw [seal_iff (by omega)];exact propext ⟨fun h=>D.strL_inj (ZLa (wga _)) (ZLa fun y hy=>hr y (List.mem_of_mem_drop hy)) h,fun h=>congrArg Xz h⟩
   show cond (!decide (Xz (four (Xx ([x] ++ r.take (r.length - 4)))) = Xz (r.drop (r.length - 4)))) _ _ = pure (if r.length < 4 then _ else if _ then _ else _);rw [e4,if_neg h4]
   by_cases hs:vC x (r.take (r.length - 4)) = x :: r
   ·rw [decide_eq_true hs,if_pos hs,Bool.not_true,cond_false,show (0:Int) = ((0:Nat):Int) from rfl,zI (y:=x) rfl,zA,zC (by rw [List.length_cons];omega),zC (by rw [List.length_take];rw [List.length_cons] at hl;omega)]
   ·rw [decide_eq_false hs,if_neg hs];rfl
theorem ZMa {k:Int} {b:List Int}:xF (vC k b) = (k,b,0):=by
 have e:vC k b = k :: (b ++ four (Xx (k :: b))):=rfl;rw [e];have hl:(b ++ four (Xx (k :: b))).length = b.length + 4:=by rw [List.length_append];rfl
 have ht:(b ++ four (Xx (k :: b))).take ((b ++ four (Xx (k :: b))).length - 4) = b:=by
  rw [hl,Nat.add_sub_cancel,List.take_left'];rfl
 show (if _ then _ else if _ then _ else _) = _;rw [if_neg (by rw [hl];omega),ht,if_pos e]
theorem open_ok {b:List Int} (hb:okB b) (h:(xF b).2.2 = 0):b = vC (xF b).1 (xF b).2.1 /\ okB (xF b).2.1 /\ (xF b).2.1.length <= b.length /\ 0 <= (xF b).1 /\ (xF b).1 < 256:=by
 cases b with
 | nil=>cases h
 | cons x r=>
  unfold xF at h ⊢
  by_cases h4:r.length < 4
  ·simp only [if_pos h4] at h;cases h
  ·simp only [if_neg h4] at h ⊢
   by_cases hs:vC x (r.take (r.length - 4)) = x :: r
   ·simp only [if_pos hs] at h ⊢;exact ⟨hs.symm,fun y hy=>hb y (by simp [List.mem_of_mem_take hy]),by rw [List.length_take,List.length_cons];omega,(hb x (by simp)).1,(hb x (by simp)).2⟩
   ·simp only [if_neg hs] at h;cases h
theorem UE (e:Int) (s:RS):(N.vj e s).1.length <= s.1.length:=by unfold N.vj;split <;> simp
theorem UT (s:RS):(zQ s).2.1.length <= s.1.length:=by
 unfold zQ
 split
 ·simp
 ·split
  ·exact UE _ _
  ·simp
theorem upto_le (m:Int) (s:RS):(yA m s).2.1.length <= s.1.length:=by
 unfold yA
 split
 ·exact Nat.le_trans (UE _ _) (UT s)
 ·exact UT s
theorem byte_le (s:RS):(xd s).2.1.length <= s.1.length:=by
 unfold xd
 split
 ·simp
 ·split
  ·exact UE _ _
  ·rename_i x r h;rw [h];simp
def noD : DL:=⟨[],[],[]⟩
def Jg (s:RS):RS:=(zQ (yA 65535 s).2).2
def zHa (s:RS):Int × Int:=((yA 65535 s).1,(zQ (yA 65535 s).2).1)
def UZ (s:RS):RS:=(zQ (xd s).2).2
def Jh (s:RS):Int × Int:=((xd s).1,(zQ (xd s).2).1)
def uw (k:Int) (s:RS):TMsg × RS:=
 if k = 1 then (⟨k,(Jh s).1,(Jh s).2,0,0,0,[],[],noD⟩,UZ s) else
 if k = 2 then (⟨k,(Jh s).1,(Jh s).2,(zHa (UZ s)).1,(zHa (UZ s)).2,0,[],[],(ZK (Jg (UZ s))).1⟩,(ZK (Jg (UZ s))).2) else
 if k = 4 then (⟨k,0,0,(zHa s).1,(zHa s).2,0,[],(vw (ZK (Jg s)).2).1,(ZK (Jg s)).1⟩,(vw (ZK (Jg s)).2).2) else
 if k = 5 then (⟨k,0,0,(zHa s).1,(zHa s).2,0,(vw (Jg s)).1,[],⟨[],[],(WE 4 (vw (Jg s)).2).1⟩⟩,(WE 4 (vw (Jg s)).2).2) else
 if k = 8 then (⟨k,0,0,(zHa s).1,(zHa s).2,0,[],[],noD⟩,Jg s) else
 if k = 9 then (⟨k,0,0,(zHa s).1,(zHa s).2,(xd (Jg s)).1,[],[],noD⟩,(xd (Jg s)).2) else
 (⟨k,0,0,(zHa s).1,(zHa s).2,0,(vw (Jg s)).1,[],noD⟩,(vw (Jg s)).2)
theorem wha {s:RS} (h:N.Ok s):N.Ok (Jg s) /\ (Jg s).1.length <= s.1.length /\ 0 <= (zHa s).1 /\ (zHa s).1 <= 65535:=by
 obtain ⟨h1,h2,h3⟩:=N.XC h (m:=65535) (by omega);obtain ⟨h4,_⟩:=N.yq h1;exact ⟨h4,Nat.le_trans (UT _) (upto_le _ _),h2,h3⟩
theorem ZNa {s:RS} (h:N.Ok s):N.Ok (UZ s) /\ (UZ s).1.length <= s.1.length /\ 0 <= (Jh s).1 /\ (Jh s).1 <= 255:=by
 obtain ⟨h1,h2,h3⟩:=N.JD h;obtain ⟨h4,_⟩:=N.yq h1;exact ⟨h4,Nat.le_trans (UT _) (byte_le _),h2,h3⟩
theorem zDa {s:RS} (hO:N.Ok s):N.Ok (ZK s).2:=by
 obtain ⟨o1,_⟩:=D.yF hO;obtain ⟨o2,_⟩:=D.yF o1;show N.Ok (fin _ _ _).2;rw [D.US];exact D.UF (E.u3a o2 4096) _
theorem ctx_le {s:RS} (hO:N.Ok s):(vw s).2.1.length <= s.1.length:=(G.XI hO).2
theorem all_le {s:RS} (hO:N.Ok s) (m:Int):(WE m s).2.1.length <= s.1.length:=by
 obtain ⟨_,_,_,h4,h5⟩:=E.Vd hO m
 by_cases c:(WE m s).2.2 = 0
 ·have h7:=congrArg List.length (h4 c).1;rw [List.length_append] at h7;omega
 ·rw [(E.u3a hO m).nil c];simp
theorem delta_le {s:RS} (hO:N.Ok s):(ZK s).2.1.length <= s.1.length:=by
 obtain ⟨o1,_⟩:=D.yF hO;obtain ⟨o2,_⟩:=D.yF o1;have h1:=ctx_le hO;have h2:=ctx_le o1;have h3:=all_le o2 4096;show (fin _ _ _).2.1.length <= _;rw [D.US];refine Nat.le_trans ?_ (Nat.le_trans h3 (Nat.le_trans h2 h1));show (D.jE _ _).1.length <= _;unfold D.jE
 split
 ·exact UE _ _
 ·exact Nat.le_refl _
theorem qM : OkD noD:=⟨C.ok_nil,C.ok_nil,(fun e he=>by cases he),by simp [noD],(fun e he=>by cases he)⟩
theorem ZOa {s:RS} (hO:N.Ok s) (hl:s.1.length <= 500000):C.Ok (vw s).1 /\ C.yN (vw s).1 <= 1000000:=by
 obtain ⟨_,a2,a3,_,_⟩:=D.yF hO;have:=G.XI hO;exact ⟨D.wLa a2 a3,by omega⟩
theorem vRa {k:Int} (hk:1 <= k /\ k <= 9) {s:RS} (hO:N.Ok s) (hl:s.1.length <= 500000):OkM (uw k s).1 /\ (uw k s).1.kind = k /\ N.Ok (uw k s).2:=by
 obtain ⟨o1,l1,v1,w1⟩:=wha hO;obtain ⟨o2,l2,v2,w2⟩:=ZNa hO;obtain ⟨o3,l3,v3,w3⟩:=wha o2;have z0:C.yN ([]:List PT) <= 1000000:=by simp [C.yN]
 have z8:(0:Int) <= 0 /\ (0:Int) <= 255:=by decide
 have z16:(0:Int) <= 0 /\ (0:Int) <= 65535:=by decide
 have c1:=ZOa o1 (by omega);unfold uw;rcases ZEa hk with e | e | e | e | e | e | e | e | e
 all_goals simp only [e,Int.reduceEq,if_true,if_false]
 ·exact ⟨⟨(by decide:(0:Int) <= 1 /\ (1:Int) <= 255),⟨v2,w2⟩,z16,z8,C.ok_nil,C.ok_nil,qM,z0⟩,trivial,o2⟩
 ·exact ⟨⟨(by decide:(0:Int) <= 2 /\ (2:Int) <= 255),⟨v2,w2⟩,⟨v3,w3⟩,z8,C.ok_nil,C.ok_nil,G.yUa o3 (by omega),z0⟩,trivial,zDa o3⟩
 ·exact ⟨⟨(by decide:(0:Int) <= 3 /\ (3:Int) <= 255),z8,⟨v1,w1⟩,z8,c1.1,C.ok_nil,qM,c1.2⟩,trivial,(D.yF o1).1⟩
 ·have o4:=zDa o1;have l4:=delta_le o1;exact ⟨⟨(by decide:(0:Int) <= 4 /\ (4:Int) <= 255),z8,⟨v1,w1⟩,z8,C.ok_nil,(ZOa o4 (by omega)).1,G.yUa o1 (by omega),z0⟩,trivial,(D.yF o4).1⟩
 ·have o4:=(D.yF o1).1;obtain ⟨_,p2,_,_,_⟩:=E.Vd o4 4;have z1:=G.XI o1;have z2:=G.ySa o4 4;exact ⟨⟨(by decide:(0:Int) <= 5 /\ (5:Int) <= 255),z8,⟨v1,w1⟩,z8,c1.1,C.ok_nil,⟨C.ok_nil,C.ok_nil,fun e he=>(p2 e he).1,by show (WE 4 _).1.length <= _;omega,fun e he=>by have:=G.wba (p2 e he).2;omega⟩,c1.2⟩,trivial,E.u3a o4 4⟩
 ·exact ⟨⟨(by decide:(0:Int) <= 6 /\ (6:Int) <= 255),z8,⟨v1,w1⟩,z8,c1.1,C.ok_nil,qM,c1.2⟩,trivial,(D.yF o1).1⟩
 ·exact ⟨⟨(by decide:(0:Int) <= 7 /\ (7:Int) <= 255),z8,⟨v1,w1⟩,z8,c1.1,C.ok_nil,qM,c1.2⟩,trivial,(D.yF o1).1⟩
 ·exact ⟨⟨(by decide:(0:Int) <= 8 /\ (8:Int) <= 255),z8,⟨v1,w1⟩,z8,C.ok_nil,C.ok_nil,qM,z0⟩,trivial,o1⟩
 ·obtain ⟨h1,h2,h3⟩:=N.JD o1;exact ⟨⟨(by decide:(0:Int) <= 9 /\ (9:Int) <= 255),z8,⟨v1,w1⟩,⟨h2,h3⟩,C.ok_nil,C.ok_nil,qM,z0⟩,trivial,h1⟩
theorem slot_eq {t:RS} (h:N.Ok t):((det (zd t.1 t.2)).bind fun y11=>(det (zL y11.2.1 y11.2.2)).bind fun y13=>pure (y11.1,y13.1,y13.2.1,y13.2.2)) = pure ((Jh t).1,(Jh t).2,(UZ t).1,(UZ t).2):=by
 obtain ⟨h1,_⟩:=N.JD h;rw [N.Uz h,zB,zA,N.Yg h1,zB,zA]
 rfl
theorem dev_eq {t:RS} (h:N.Ok t):((det (zy 65535 t.1 t.2)).bind fun y20=>(det (zL y20.2.1 y20.2.2)).bind fun y22=>pure (IntKind.u16.wrap y20.1,y22.1,y22.2.1,y22.2.2)) = pure ((zHa t).1,(zHa t).2,(Jg t).1,(Jg t).2):=by
 obtain ⟨h1,h2,h3⟩:=N.XC h (m:=65535) (by omega);rw [N.xJa h,zB,zA,N.Yg h1,zB,zA,wU16 h2 h3]
 rfl
theorem ZPa {k:Int} (hk:1 <= k /\ k <= 9) {s:RS} (hO:N.Ok s) (hl:s.1.length <= 500000):xm k s.1 s.2 = pure (uw k s):=by
 obtain ⟨o1,l1,_⟩:=wha hO;obtain ⟨o2,l2,_⟩:=ZNa hO;obtain ⟨o3,l3,_⟩:=wha o2;have o4:=zDa o1;have o5:=(D.yF o1).1;unfold xm uw;rcases ZEa hk with e | e | e | e | e | e | e | e | e
 all_goals
  simp only [e,Int.reduceEq,decide_true,decide_false,Bool.not_true,Bool.not_false,cond_true,cond_false,zA,if_true,if_false,slot_eq hO,dev_eq hO,dev_eq o2,N.Uz o1,D.wMa o1,D.wMa o4,G.wca o1 (show (Jg s).1.length <= 500000 by omega),G.wca o3 (show (Jg (UZ s)).1.length <= 500000 by omega),E.yOa o5 (most:=4) (by omega),zB] <;> rfl
def ZQa : TMsg:=⟨0,0,0,0,0,0,[],[],noD⟩
noncomputable def vSa (m:TMsg):Bool:=@decide (yk m = pure true) (Classical.propDecidable _)
theorem jI {m:TMsg} (h:OkM m):yk m = pure (vSa m):=by
 obtain ⟨b,hb⟩:=F.ZBa h;rw [hb]
 congr 1
 unfold vSa
 cases b with
 | true=>exact (@decide_eq_true _ (Classical.propDecidable _) hb).symm
 | false=>exact (@decide_eq_false _ (Classical.propDecidable _) fun h2=>by rw [hb] at h2;cases ZKa h2).symm
noncomputable def finM (m:TMsg) (t:RS):TMsg × Int:=if (z9a t).1 ≠ 0 then (ZQa,(z9a t).1) else if vSa m = true then (m,0) else (ZQa,4)
noncomputable def decM (b:List Int):TMsg × Int:=
 if (xF b).2.2 ≠ 0 then (ZQa,(xF b).2.2) else if (xF b).1 < 1 \/ 9 < (xF b).1 then (ZQa,4) else finM (uw (xF b).1 ((xF b).2.1,0)).1 (uw (xF b).1 ((xF b).2.1,0)).2
theorem yVa {b:List Int} (hb:okB b) (hl:b.length <= 500005):ve b = pure (decM b):=by
 unfold ve decM;rw [Open_eq hb (by omega),zB,zA]
 by_cases h0:(xF b).2.2 = 0
 ·obtain ⟨q1,q2,q3,q4,q5⟩:=open_ok hb h0;have hlen:(xF b).2.1.length + 5 = b.length:=by
   have:=congrArg List.length q1;unfold vC at this;rw [List.length_append,List.length_cons] at this;have h4:(four (Xx ((xF b).1 :: (xF b).2.1))).length = 4:=rfl;omega
  rw [decide_eq_true h0,Bool.not_true,cond_false,if_neg (by simpa using h0)];have hB:OkB (xF b).2.1:=⟨ZLa q2,by omega⟩
  have hO:=hB.ok
  by_cases hk:(xF b).1 < 1 \/ 9 < (xF b).1
  ·rw [if_pos hk];have:(cond (decide ((xF b).1 = 0)) (pure true) (pure (decide (9 < (xF b).1))):M Bool) = pure true:=by
    rcases hk with h | h
    ·rw [decide_eq_true (by omega)];rfl
    ·rw [decide_eq_false (by omega),decide_eq_true h];rfl
   rw [this,zA];rfl
  ·rw [if_neg hk];have hk1:1 <= (xF b).1 /\ (xF b).1 <= 9:=by omega
   rw [decide_eq_false (by omega),cond_false,zA,decide_eq_false (by omega),cond_false,N.New_eq _ (by omega),zB,zA];have hf:=ZPa hk1 hO (by show (xF b).2.1.length <= 500000;omega);obtain ⟨m1,m2,m3⟩:=vRa hk1 hO (by show (xF b).2.1.length <= 500000;omega);show (det (xm (xF b).1 ((xF b).2.1,0).1 ((xF b).2.1,0).2)).bind _ = _;rw [hf,zB,zA]
   generalize uw (xF b).1 ((xF b).2.1,0) = q at m1 m3
   rw [N.End_eq,zB,zA];unfold finM
   by_cases h:(z9a q.2).1 = 0
   ·rw [if_neg (by simpa using h),decide_eq_true h,Bool.not_true,cond_false,F.yRa m1,jI m1,zB,zA]
    cases vSa q.1 <;> rfl
   ·rw [if_pos (by simpa using h),decide_eq_false h];rfl
 ·rw [decide_eq_false h0,if_pos (by simpa using h0)];rfl
theorem same27 {m:TMsg} (h:OkM m):Ul m m = pure true:=by
 unfold Ul;have hd:Wx m.delta m.delta = pure true:=G.same20 h.delta;simp only [C.uM _ _ h.have_ h.have_,C.uM _ _ h.front h.front,hd,zB,zA,decide_true,cond_true]
 rfl
open E (OkE zr vB WE)
open D (XE vw fin)
open F (OkM InM fewM OkD)
open N (RS zQ xd yA z9a Sim OkB)
open G (ZK)
def evsOK (l:List EV):Prop:=E.Yh l /\ (∀ e ∈ l,zr e = true) /\ l.length <= 4
theorem evs_of {l:List EV} {dev:Int} (h:(l.zipIdx.all fun y=>!F.zGa l dev y.2 y.1) = true) (h4:l.length <= 4):evsOK l:=by
 have key:∀ (i:Nat) (x:EV),l[i]? = some x -> zr x = true /\ F.xq l i x = false:=fun i x hx=>by
  have hm:(x,i) ∈ l.zipIdx:=List.mem_zipIdx_iff_getElem?.2 hx;have:=List.all_eq_true.1 h _ hm;simp only [F.zGa,Bool.not_eq_true',Bool.or_eq_false_iff,Bool.not_eq_false'] at this;exact ⟨this.1,this.2.2⟩
 refine ⟨G.wda fun i x hx=>(key i x hx).2,fun e he=>?_,h4⟩;obtain ⟨i,hi⟩:=List.getElem?_of_mem he;exact (key i e hi).1
def wia (m:TMsg):Prop:=
 if m.kind = 1 then m.dev = 0 /\ m.epoch = 0 /\ m.why = 0 /\ m.have_ = [] /\ m.front = [] /\ m.delta = noD else
 if m.kind = 2 then m.why = 0 /\ m.have_ = [] /\ m.front = [] /\ F.yr m.delta = true else
 if m.kind = 4 then m.slot = 0 /\ m.try_ = 0 /\ m.why = 0 /\ m.have_ = [] /\ m.front = C.zk m.front /\ F.yr m.delta = true else
 if m.kind = 5 then m.slot = 0 /\ m.try_ = 0 /\ m.why = 0 /\ m.have_ = C.zk m.have_ /\ m.front = [] /\ m.delta.from_ = [] /\ m.delta.to_ = [] /\ evsOK m.delta.events else
 if m.kind = 8 then m.slot = 0 /\ m.try_ = 0 /\ m.why = 0 /\ m.have_ = [] /\ m.front = [] /\ m.delta = noD else
 if m.kind = 9 then m.slot = 0 /\ m.try_ = 0 /\ m.have_ = [] /\ m.front = [] /\ m.delta = noD else
 m.slot = 0 /\ m.try_ = 0 /\ m.why = 0 /\ m.have_ = C.zk m.have_ /\ m.front = [] /\ m.delta = noD
theorem vQ {α:Type} {l:List α} (h:(l.length:Int) = 0):l = []:=List.eq_nil_of_length_eq_zero (by omega)
theorem qO {d:DL} (h:d.from_ = [] /\ d.to_ = [] /\ d.events = []):d = noD:=by
 obtain ⟨a,b,c⟩:=d;obtain ⟨rfl,rfl,rfl⟩:=h
 rfl
theorem shape_of {m:TMsg} (h:OkM m) (hg:yk m = pure true):wia m:=by
 have hk:=Vg hg;obtain ⟨h1,h2,h3,h4,h5,h6,h7,h8⟩:=h;have hev:∀ e ∈ m.delta.events,OkE e:=h7.evs;have ct:∀ {p:Prop} [Decidable p],(¬p -> true = false) -> p:=fun h=>Decidable.byContradiction fun hp=>by cases h hp
 unfold yk at hg;unfold wia;rcases ZEa hk with e | e | e | e | e | e | e | e | e
 all_goals
  simp only [e,Int.reduceEq,Int.reduceLT,Int.reduceLE,decide_true,decide_false,Bool.not_true,Bool.not_false,cond_true,cond_false,F.UK,F.ZS h7,F.zBa hev h7.len,F.WV h7.len h5,F.zCa,C.wv _ h5,C.wv _ h6,C.Qg _ _ h3.1 h5,C.uM _ _ h5 (F.zAa h5 h8 h3.1),C.Xp _ _ h6 h7.to_,zB,zA,yv,yw,if_true,if_false] at hg ⊢;replace hg:=ZKa hg;simp only [Bool.cond_eq_true_distrib,Bool.cond_true_left,Bool.cond_false_left,Bool.cond_true_right,Bool.cond_false_right,Bool.and_eq_true,Bool.or_eq_true,Bool.not_eq_true',Bool.not_not,Bool.or_eq_false_iff,Bool.and_eq_false_imp,decide_eq_true_eq,decide_eq_false_iff_not,Decidable.not_not,Bool.not_eq_false',Bool.not_eq_true] at hg
 ·exact ⟨hg.2.1.1,ct hg.2.1.2,hg.2.2.1,vQ hg.2.2.2.1.1,vQ hg.2.2.2.2.1.1,qO hg.2.2.2.2.2⟩
 ·exact ⟨hg.2.2.1,vQ hg.2.2.2.1.1,vQ hg.2.2.2.2.1.1,hg.2.2.2.2.2.1⟩
 ·exact ⟨hg.1.1,hg.1.2,hg.2.2.1,ct hg.2.2.2.1,vQ hg.2.2.2.2.1.1,qO hg.2.2.2.2.2⟩
 ·exact ⟨hg.1.1,hg.1.2,hg.2.2.1,vQ hg.2.2.2.1.1,hg.2.2.2.2.1.1,hg.2.2.2.2.2⟩
 ·refine ⟨hg.1.1,hg.1.2,hg.2.2.1,hg.2.2.2.1.1,vQ hg.2.2.2.2.1.1,hg.2.2.2.2.2.1.2.1,hg.2.2.2.2.2.1.2.2.1,evs_of hg.2.2.2.2.2.1.1 ?_⟩;have h4:=hg.2.2.2.2.2.1.2.2.2;simp only [F.Vf,Bool.and_eq_true,decide_eq_true_eq] at h4;omega
 ·exact ⟨hg.1.1,hg.1.2,hg.2.2.1,hg.2.2.2.1.1,vQ hg.2.2.2.2.1.1,qO hg.2.2.2.2.2⟩
 ·exact ⟨hg.1.1,hg.1.2,hg.2.2.1,ct hg.2.2.2.1,vQ hg.2.2.2.2.1.1,qO hg.2.2.2.2.2⟩
 ·exact ⟨hg.1.1,hg.1.2,hg.2.2.1,vQ hg.2.2.2.1.1,vQ hg.2.2.2.2.1.1,qO hg.2.2.2.2.2⟩
 ·exact ⟨hg.1.1,hg.1.2,vQ hg.2.2.2.1.1,vQ hg.2.2.2.2.1.1,qO hg.2.2.2.2.2⟩
theorem Yc (x:Int) (r:List Int):xd (x :: r,0) = (x,(r,0)):=by unfold xd;simp
theorem slot_enc {x v:Int} (h0:0 <= v) (h:v <= 18446744073709551615) (r:List Int):UZ (x :: (N.yj v ++ r),0) = (r,0) /\ Jh (x :: (N.yj v ++ r),0) = (x,v):=by
 unfold UZ Jh;rw [Yc];dsimp only;rw [D.vt h0 h];exact ⟨rfl,rfl⟩
theorem dev_enc {d v:Int} (h0:0 <= d) (h1:d <= 65535) (h2:0 <= v) (h3:v <= 18446744073709551615) (r:List Int):Jg (N.yj d ++ (N.yj v ++ r),0) = (r,0) /\ zHa (N.yj d ++ (N.yj v ++ r),0) = (d,v):=by
 unfold Jg zHa;rw [D.Qt h0 h1 (by omega)];dsimp only;rw [D.vt h2 h3];exact ⟨rfl,rfl⟩
theorem vTa {m:TMsg} (h:FitM m) (hk:1 <= m.kind /\ m.kind <= 9) (hs:wia m) (r:List Int):uw m.kind (XJ m ++ r,0) = (m,(r,0)):=by
 have o:=h.ok;have sl:=fun q:List Int=>slot_enc (x:=m.slot) h.try_.1 h.try_.2 q
 have dv:=fun q:List Int=>dev_enc o.dev.1 o.dev.2 h.epoch.1 h.epoch.2 q
 have cH:=fun q:List Int=>D.Qu h.have_.1 (by have:=h.have_.2;omega) q
 have cF:=fun q:List Int=>D.Qu h.front.1 (by have:=h.front.2;omega) q
 have dD:=fun (hg:F.yr m.delta = true) (q:List Int)=>G.vOa o.delta h.from_.1 h.to_.1 h.from_.2 h.to_.2 hg q
 obtain ⟨kind,slot,try_,dev,epoch,why,have_,front,delta⟩:=m;unfold uw XJ;unfold wia at hs;dsimp only at *
 rcases ZEa hk with e | e | e | e | e | e | e | e | e
 all_goals
  subst e;simp only [Int.reduceEq,if_true,if_false,List.append_assoc,List.singleton_append,List.cons_append,List.nil_append] at hs ⊢
 ·obtain ⟨rfl,rfl,rfl,rfl,rfl,rfl⟩:=hs;rw [(sl r).1,(sl r).2]
 ·obtain ⟨rfl,rfl,rfl,hg⟩:=hs;have e1:=dD hg r;simp only [UY,List.append_assoc] at e1 ⊢;rw [(sl _).1,(sl _).2,(dv _).1,(dv _).2,e1]
 ·obtain ⟨rfl,rfl,rfl,hc,rfl,rfl⟩:=hs;rw [(dv _).1,(dv _).2,cH,<- hc]
 ·obtain ⟨rfl,rfl,rfl,rfl,hc,hg⟩:=hs;have e1:=dD hg (XE front ++ r);simp only [UY,List.append_assoc] at e1 ⊢;rw [(dv _).1,(dv _).2,e1];dsimp only;rw [cF,<- hc]
 ·obtain ⟨rfl,rfl,rfl,hc,rfl,h1,h2,h3,h4,h5⟩:=hs;have e1:=E.u6a h3 (fun e he=>⟨o.delta.evs e he,h4 e he⟩) (most:=4) (by omega) (by omega) r;rw [(dv _).1,(dv _).2,cH,<- hc];dsimp only;rw [e1];obtain ⟨f,t,l⟩:=delta;dsimp only at h1 h2;subst h1;subst h2;rfl
 ·obtain ⟨rfl,rfl,rfl,hc,rfl,rfl⟩:=hs;rw [(dv _).1,(dv _).2,cH,<- hc]
 ·obtain ⟨rfl,rfl,rfl,hc,rfl,rfl⟩:=hs;rw [(dv _).1,(dv _).2,cH,<- hc]
 ·obtain ⟨rfl,rfl,rfl,rfl,rfl,rfl⟩:=hs;rw [(dv r).1,(dv r).2]
 ·obtain ⟨rfl,rfl,rfl,rfl,rfl⟩:=hs;rw [(dv _).1,(dv _).2,Yc]
theorem four_len (c:BitVec 32):(four c).length = 4:=rfl
theorem wja (k:Int) (b:List Int):(vC k b).length = b.length + 5:=by
 unfold vC;rw [List.length_append,List.length_cons,four_len]
theorem ZRa {m:TMsg} (h:FitM m) (hg:yk m = pure true):decM (vC m.kind (XJ m)) = (m,0):=by
 have hk:=Vg hg;have e:=vTa h hk (shape_of h.ok hg) [];rw [List.append_nil] at e;unfold decM;rw [ZMa];dsimp only;rw [if_neg (by simp),if_neg (by omega),e];unfold finM;have hgm:vSa m = true:=by have:=jI h.ok;rw [hg] at this;exact (ZKa this).symm
 rw [if_neg (show ¬ (N.z9a ([],0)).1 ≠ 0 by simp [N.z9a]),if_pos hgm]
theorem xor8 {a b:Nat} (ha:a < 256) (hb:b < 256):Wi .u8 (a:Int) (b:Int) = ((a ^^^ b:Nat):Int):=by
 show IntKind.u8.wrap (((BitVec.ofInt 8 (a:Int) ^^^ BitVec.ofInt 8 (b:Int)).toNat:Nat):Int) = _;rw [BitVec.ofInt_natCast,BitVec.ofInt_natCast,BitVec.toNat_xor,BitVec.toNat_ofNat,BitVec.toNat_ofNat,Nat.mod_eq_of_lt (by omega:a < 2 ^ 8),Nat.mod_eq_of_lt (by omega:b < 2 ^ 8),u8mod];have:=Nat.xor_lt_two_pow (n:=8) ha hb;omega
theorem bit_loop (at_ i:Nat) (h1:at_ + i <= 1000000000):loop (uH (at_:Int) (i:Int)) (1,0) = pure (((2 ^ ((at_ + i) % 8):Nat):Int)):=by
 have hw:IntKind.i64.wrap ((at_:Int) + (i:Int)) = ((at_ + i:Nat):Int):=by rw [YU (by omega) (by omega)];omega
 have ht:Int.tmod ((at_ + i:Nat):Int) 8 = (((at_ + i) % 8:Nat):Int):=by rw [Int.tmod_eq_emod_of_nonneg (by omega)];omega
 have key:∀ (m j:Nat),j + m = (at_ + i) % 8 -> loop (uH (at_:Int) (i:Int)) (((2 ^ j:Nat):Int),(j:Int)) = pure (((2 ^ ((at_ + i) % 8):Nat):Int)):=by
  intro m
  induction m with
  | zero=>
   intro j hj;refine zW ?_;show cond (decide ((j:Int) < Int.tmod (IntKind.i64.wrap ((at_:Int) + (i:Int))) 8)) _ _ = _;rw [hw,ht,decide_eq_false (by omega),show j = (at_ + i) % 8 by omega];rfl
  | succ m ih=>
   intro j hj;have hp:2 ^ (j + 1) <= 2 ^ 7:=Nat.pow_le_pow_right (by omega) (by omega);have hd:2 ^ (j + 1) = 2 ^ j * 2:=Nat.pow_succ 2 j;have e:uH (at_:Int) (i:Int) (((2 ^ j:Nat):Int),(j:Int)) = pure (.next (((2 ^ (j + 1):Nat):Int),((j + 1:Nat):Int))):=by
    show cond (decide ((j:Int) < Int.tmod (IntKind.i64.wrap ((at_:Int) + (i:Int))) 8)) _ _ = _;rw [hw,ht,decide_eq_true (by omega)];have e1:IntKind.u8.wrap (((2 ^ j:Nat):Int) * 2) = ((2 ^ (j + 1):Nat):Int):=by rw [u8mod,hd];omega
    have e2:IntKind.i64.wrap ((j:Int) + 1) = ((j + 1:Nat):Int):=by rw [YU (by omega) (by omega)];omega
    rw [<- e1,<- e2];rfl
   rw [zg e];exact ih (j + 1) (by omega)
 exact key ((at_ + i) % 8) 0 (by omega)
structure Dmg (b:List Int) (a:Nat) (i:Nat) (v:List Int) (n:Int):Prop where
 ok:okB v
 len:v.length = b.length
 n0:0 <= n /\ n <= i
 w:∃ w:BitVec 32,w.toNat < 2 ^ i /\ (0 < n -> w ≠ 0#32) /\ ∀ c,WY c v = WY c b ^^^ it (8 * b.length - a) w
theorem dmg_step {b:List Int} {a i:Nat} {v:List Int} {n:Int} (hi:i < 32) (h:Dmg b a i v n) (hk:a + i < 8 * b.length) {x:Int} (hx:v[(a + i) / 8]? = some x) :
  Dmg b a (i + 1) (v.set ((a + i) / 8) (Wi .u8 x ((2 ^ ((a + i) % 8):Nat):Int))) (n + 1):=by
 obtain ⟨w,hw,hn,hs⟩:=h.w;have hxo:=h.ok x (List.mem_of_getElem? hx);have hp:2 ^ ((a + i) % 8) <= 2 ^ 7:=Nat.pow_le_pow_right (by omega) (by omega);have e:Wi .u8 x ((2 ^ ((a + i) % 8):Nat):Int) = ((x.toNat ^^^ 2 ^ ((a + i) % 8):Nat):Int):=by
  have:=xor8 (a:=x.toNat) (b:=2 ^ ((a + i) % 8)) (by omega) (by omega)
  rwa [show ((x.toNat:Nat):Int) = x by omega] at this
 have hlt:x.toNat ^^^ 2 ^ ((a + i) % 8) < 2 ^ 8:=Nat.xor_lt_two_pow (by omega) (by omega);rw [e];have hy:BitVec.ofInt 32 (((x.toNat ^^^ 2 ^ ((a + i) % 8):Nat)):Int) = BitVec.ofInt 32 x ^^^ (1#32 <<< ((a + i) % 8)):=by
  have hxe:BitVec.ofInt 32 x = BitVec.ofNat 32 x.toNat:=by rw [<- BitVec.ofInt_natCast];congr 1;omega
  rw [BitVec.ofInt_natCast,hxe];apply BitVec.eq_of_toNat_eq;rw [BitVec.toNat_xor,BitVec.toNat_ofNat,BitVec.toNat_ofNat,BitVec.toNat_shiftLeft,Nat.mod_eq_of_lt (by omega:x.toNat ^^^ 2 ^ ((a + i) % 8) < 2 ^ 32),Nat.mod_eq_of_lt (by omega:x.toNat < 2 ^ 32)]
  congr 1
  show _ = 1 <<< ((a + i) % 8) % 2 ^ 32;rw [Nat.one_shiftLeft,Nat.mod_eq_of_lt (show 2 ^ ((a + i) % 8) < 2 ^ 32 by omega)]
 refine ⟨fun y hm=>?_,by rw [List.length_set];exact h.len,by have:=h.n0;omega,w ^^^ (1#32 <<< i),?_,fun _ hz=>?_,fun c=>?_⟩
 ·rcases List.mem_or_eq_of_mem_set hm with hm | rfl
  ·exact h.ok y hm
  ·omega
 ·rw [BitVec.toNat_xor,BitVec.toNat_shiftLeft];have h1:2 ^ i < 2 ^ 32:=Nat.pow_lt_pow_right (by omega) hi;have h2:(1#32).toNat <<< i % 2 ^ 32 = 2 ^ i:=by
   show 1 <<< i % 2 ^ 32 = 2 ^ i;rw [Nat.one_shiftLeft,Nat.mod_eq_of_lt h1]
  rw [h2];exact Nat.xor_lt_two_pow (by rw [Nat.pow_succ];omega) (by rw [Nat.pow_succ];have:=Nat.two_pow_pos i;omega)
 ·have hb:(w ^^^ (1#32 <<< i)).getLsbD i = true:=by
   rw [BitVec.getLsbD_xor,BitVec.getLsbD,Nat.testBit_lt_two_pow hw];simp [hi]
  rw [hz] at hb;simp at hb
 ·rw [flip_sum c v (a + i) (by rw [h.len];exact hk) hx hy,hs c,h.len,bit_at _ _ _ hi hk,UW,BitVec.xor_assoc]
theorem dmg_same {b:List Int} {a i:Nat} {v:List Int} {n:Int} (h:Dmg b a i v n):Dmg b a (i + 1) v n:=by
 obtain ⟨w,hw,hn,hs⟩:=h.w;exact ⟨h.ok,h.len,by have:=h.n0;omega,w,by rw [Nat.pow_succ];omega,hn,hs⟩
theorem ZSa {b:List Int} (hb:okB b) (hl:b.length <= 1000000) (a:Nat) (ha:a < 8 * b.length) {mask:Int} (hm:0 <= mask /\ mask <= 4294967295):∃ v n,Xm b (a:Int) mask = pure (v,n) /\ Dmg b a 32 v n:=by
 have key:∀ (k i:Nat) (mask:Int) (v:List Int) (n:Int),i + k = 32 -> 0 <= mask /\ mask <= 4294967295 -> Dmg b a i v n -> ∃ v' n',loop (wn (a:Int)) (mask,n,(i:Int),v) = pure (n',v') /\ Dmg b a 32 v' n':=by
  intro k
  induction k with
  | zero=>
   intro i mask v n hi hm h;obtain rfl:i = 32:=by omega
   exact ⟨v,n,zW rfl,h⟩
  | succ k ih=>
   intro i mask v n hi hm h;have hi32:i < 32:=by omega
   have hw:IntKind.i64.wrap ((a:Int) + (i:Int)) = ((a + i:Nat):Int):=by rw [YU (by omega) (by omega)];omega
   have hq:IntKind.u32.wrap (Int.tdiv mask 2) = mask / 2:=by rw [Int.tdiv_eq_ediv_of_nonneg hm.1];exact wU32 (by omega) (by omega)
   have hi1:IntKind.i64.wrap ((i:Int) + 1) = ((i + 1:Nat):Int):=by rw [YU (by omega) (by omega)];omega
   have h8:IntKind.i64.wrap (8 * (v.length:Int)) = 8 * (v.length:Int):=YU (by omega) (by have:=h.len;omega);have st:∀ {n':Int} {v':List Int},Dmg b a (i + 1) v' n' -> wn (a:Int) (mask,n,(i:Int),v) = pure (.next (mask / 2,n',((i + 1:Nat):Int),v')) -> ∃ v'' n'',loop (wn (a:Int)) (mask,n,(i:Int),v) = pure (n'',v'') /\ Dmg b a 32 v'' n'':=fun {n' v'} hd e=>by
    rw [zg e];exact ih (i + 1) (mask / 2) v' n' (by omega) (by omega) hd
   by_cases hc:Int.tmod mask 2 = 1 /\ a + i < 8 * b.length
   ·have hlt:(a + i) / 8 < v.length:=by rw [h.len];omega
    have hx:v[(a + i) / 8]? = some v[(a + i) / 8]:=List.getElem?_eq_getElem hlt;have hd:=dmg_step hi32 h hc.2 hx;refine st hd ?_;have hq8:IntKind.i64.wrap (Int.tdiv ((a + i:Nat):Int) 8) = (((a + i) / 8:Nat):Int):=by rw [Int.tdiv_eq_ediv_of_nonneg (by omega),YU (by omega) (by omega)];omega
    have hn1:IntKind.i64.wrap (n + 1) = n + 1:=YU (by have:=h.n0;omega) (by have:=h.n0;omega);show cond (decide ((i:Int) < 32)) _ _ = _;rw [decide_eq_true (by omega),cond_true,hw,h8,hc.1,decide_eq_true rfl,cond_true,decide_eq_true (by rw [h.len];omega),zA,cond_true,bit_loop a i (by omega),zA,hq8,zI hx,zA,zA,hn1,hq,hi1,show Int.toNat (((a + i) / 8:Nat):Int) = (a + i) / 8 by omega]
    rfl
   ·refine st (dmg_same h) ?_;show cond (decide ((i:Int) < 32)) _ _ = _;rw [decide_eq_true (by omega),cond_true,hw,h8,hq,hi1];have hf:(cond (decide (Int.tmod mask 2 = 1)) (pure (decide (((a + i:Nat):Int) < 8 * (v.length:Int)))) (pure false):M Bool) = pure false:=by
     by_cases h1:Int.tmod mask 2 = 1
     ·rw [decide_eq_true h1,cond_true,decide_eq_false (by rw [h.len];omega)]
     ·rw [decide_eq_false h1,cond_false]
    rw [hf,zA]
    rfl
 obtain ⟨v,n,e,hd⟩:=key 32 0 mask b 0 (by omega) hm ⟨hb,rfl,by omega,0#32,by decide,fun h=>absurd h (by omega),fun c=>by
  have:it (8 * b.length - a) 0#32 = 0#32:=by
   have:=UW (8 * b.length - a) 0#32 0#32;rw [BitVec.xor_self] at this;rw [this,BitVec.xor_self]
  rw [this,BitVec.xor_zero]⟩
 refine ⟨v,n,?_,hd⟩;unfold Xm;rw [zC (by simp;omega)];show (loop (wn (a:Int)) (mask,0,((0:Nat):Int),b)).bind _ = _;rw [e,zA]
theorem Spoil_eq {b:List Int} (hb:okB b) (hl:b.length <= 1000000) (h1:1 <= b.length) (at_:Int) {mask:Int} (hm:0 <= mask /\ mask <= 4294967295):∃ v n a,VD b at_ mask = pure (v,n) /\ a < 8 * b.length /\ Dmg b a 32 v n:=by
 have h8:IntKind.i64.wrap (8 * (b.length:Int)) = 8 * (b.length:Int):=YU (by omega) (by omega);have t1:=Int.tmod_lt_of_pos at_ (show (0:Int) < 8 * (b.length:Int) by omega);have t2:-(8 * (b.length:Int)) < Int.tmod at_ (8 * (b.length:Int)):=by
  rcases Int.le_total 0 at_ with h | h
  ·have:=Int.tmod_nonneg (8 * (b.length:Int)) h;omega
  ·have e:Int.tmod at_ (8 * (b.length:Int)) = -(Int.tmod (-at_) (8 * (b.length:Int))):=by rw [Int.neg_tmod,Int.neg_neg]
   have:=Int.tmod_lt_of_pos (-at_) (show (0:Int) < 8 * (b.length:Int) by omega);omega
 have hw:IntKind.i64.wrap (Int.tmod at_ (8 * (b.length:Int)) + 8 * (b.length:Int)) = Int.tmod at_ (8 * (b.length:Int)) + 8 * (b.length:Int):=YU (by omega) (by omega);have r1:=Int.tmod_lt_of_pos (Int.tmod at_ (8 * (b.length:Int)) + 8 * (b.length:Int)) (show (0:Int) < 8 * (b.length:Int) by omega);have r2:=Int.tmod_nonneg (8 * (b.length:Int)) (show 0 <= Int.tmod at_ (8 * (b.length:Int)) + 8 * (b.length:Int) by omega);obtain ⟨v,n,e,hd⟩:=ZSa hb hl (Int.tmod (Int.tmod at_ (8 * (b.length:Int)) + 8 * (b.length:Int)) (8 * (b.length:Int))).toNat (by omega) hm;refine ⟨v,n,_,?_,(by omega:(Int.tmod (Int.tmod at_ (8 * (b.length:Int)) + 8 * (b.length:Int)) (8 * (b.length:Int))).toNat < 8 * b.length),hd⟩;rw [Int.toNat_of_nonneg r2] at e;unfold VD;rw [h8,decide_eq_false (by omega),cond_false,zC (by omega),zC (by omega),hw,e,zB,zA]
theorem damaged {k:Int} {q:List Int} {a:Nat} {v:List Int} {n:Int} (h:Dmg (vC k q) a 32 v n) (hn:0 < n):decM v = (ZQa,5):=by
 obtain ⟨w,_,hw,hs⟩:=h.w;have hl:=h.len;rw [wja] at hl;have hK:WY 0xffffffff#32 (vC k q) = it 32 0xffffffff#32:=ZJa (k :: q);have ho:xF v = (0,[],5):=by
  cases v with
  | nil=>simp at hl
  | cons x r=>
   rw [List.length_cons] at hl;show (if r.length < 4 then ((0:Int),([]:List Int),(2:Int)) else if vC x (r.take (r.length - 4)) = x :: r then _ else _) = _;rw [if_neg (by omega)]
   split
   ·rename_i hv
    have h1:=ZJa (x :: r.take (r.length - 4));have h2:(x :: r.take (r.length - 4)) ++ four (Xx (x :: r.take (r.length - 4))) = x :: r:=hv;rw [h2,hs,hK] at h1;have h3:it (8 * (vC k q).length - a) w = 0#32:=by
     have h4:it 32 0xffffffff#32 ^^^ (it 32 0xffffffff#32 ^^^ it (8 * (vC k q).length - a) w) = it 32 0xffffffff#32 ^^^ it 32 0xffffffff#32:=congrArg (it 32 0xffffffff#32 ^^^ ·) h1
     rwa [<- BitVec.xor_assoc,BitVec.xor_self,BitVec.zero_xor] at h4
    exact absurd h3 (it_ne _ (hw hn))
   ·rfl
 unfold decM;rw [ho]
 rfl
theorem jJ {c:List PT} (h:∀ p ∈ c,p.dev <= 65535) (h1:c.length <= 30) (h2:C.yN c <= 900):(D.XE c).length <= 40000:=by
 have l1:=C.uq c;have l2:=C.ur c;have:=D.Qp (c:=C.zk c) (D.VZ h) (by omega) (by omega);unfold D.XE;omega
theorem body_few {m:TMsg} (h:FitM m) (t1:m.have_.length <= 30 /\ C.yN m.have_ <= 900) (t2:m.front.length <= 30 /\ C.yN m.front <= 900) (t3:m.delta.from_.length <= 30 /\ C.yN m.delta.from_ <= 900) (t4:m.delta.to_.length <= 30 /\ C.yN m.delta.to_ <= 900) (t5:m.delta.events.length <= 30):(XJ m).length <= 490000:=by
 have o:=h.ok;have l1:=N.zc h.try_.2;have l2:=N.zc h.epoch.2;have l3:=N.zc (v:=m.dev) (by have:=o.dev;omega);have l4:=jJ h.have_.1 t1.1 t1.2;have l5:=jJ h.front.1 t2.1 t2.2;have l6:=E.XH o.delta.evs (fun e he=>⟨o.delta.kills e he,h.evs.2 e he⟩);have l7:=N.zc (v:=(m.delta.events.length:Int)) (by omega);have l8:=jJ h.from_.1 t3.1 t3.2;have l9:=jJ h.to_.1 t4.1 t4.2;unfold XJ
 repeat' split
 all_goals
  simp only [UY,E.vB,List.length_append,List.length_cons,List.length_nil];omega
theorem mcodeBack_eq (m:TMsg) (at_ mask:Int) (hi:F.InM m) (ht:0 <= m.try_ /\ m.try_ <= 18446744073709551615) (he:0 <= m.epoch /\ m.epoch <= 18446744073709551615)
  (h1:∀ p ∈ m.have_,p.dev <= 65535) (h2:∀ p ∈ m.front,p.dev <= 65535) (h3:∀ p ∈ m.delta.from_,p.dev <= 65535) (h4:∀ p ∈ m.delta.to_,p.dev <= 65535) (hm:0 <= mask /\ mask <= 4294967295):uI m at_ mask = pure true:=by
 unfold uI;rw [F.fewM_eq,zB,zA,works28]
 cases hf:F.fewM m with
 | false=>show (pure true).bind _ = _;rw [zA,cond_true,zB];rfl
 | true=>
  have ok:=F.okM hi hf;have hf2:=hf;simp only [F.fewM,Bool.and_eq_true] at hf2;obtain ⟨f1,f2,f3,f4,f5⟩:=hf2;obtain ⟨g1,g2⟩:=E.uwa f5;have t1:=C.Yz f1;have t2:=C.Yz f2;have t3:=C.Yz f3;have t4:=C.Yz f4;have fit:FitM m:=⟨ok,ht,he,⟨h1,by omega,by omega⟩,⟨h2,by omega,by omega⟩,⟨h3,by omega,by omega⟩,⟨h4,by omega,by omega⟩,by omega,fun e he=>(g2 e he).2⟩
  have small:=body_few fit t1 t2 t3 t4 g1;rw [jI ok,zB]
  cases hg:vSa m with
  | false=>show (pure true).bind _ = _;rw [zA,cond_true,zB];rfl
  | true=>
   have hgm:yk m = pure true:=by rw [jI ok,hg]
   have hk:=Vg hgm;have hob:okB (XJ m):=by_okB (xZa fit).1;have hos:okB (vC m.kind (XJ m)):=okB_seal ⟨by omega,by omega⟩ hob;have hls:=wja m.kind (XJ m);have e1:yd m = pure (vC m.kind (XJ m),0):=vQa fit hgm;obtain ⟨v,n,a,e2,ha,hd⟩:=Spoil_eq hos (by omega) (by omega) at_ hm;have e3:=yVa hos (by omega);rw [ZRa fit hgm] at e3;have e4:=yVa hd.ok (by rw [hd.len];omega);show (pure false).bind _ = _;rw [zA,cond_false,e1,zB,zA,e3,zB,zA,e2,zB,zA,e4,zB,zA];have hno:(cond (decide (0 < n)) (cond (!decide ((decM v).2 = 5)) (pure true) (pure (!decide ((decM v).1.kind = 0)))) (pure false):M Bool) = pure false:=by
    by_cases hn:0 < n
    ·rw [damaged hd hn,decide_eq_true hn];rfl
    ·rw [decide_eq_false hn];rfl
   dsimp only;rw [hno,zA,cond_false,same27 ok];simp only [decide_true,cond_true,zB,zA]
end Go.Ep.M.U


/- Side texts. -/
import Derived.ProofKit
import Derived.Deep.Slices
import Derived.Test.YtbgghlomkcnikaaGreatDoorProg
import Derived.KernelRfl
import Derived.Test.YtbgghlomkcnikaaGreatDoorMMw2
import Derived.Test.YtbgghlomkcnikaaGreatDoorMMw11
set_option linter.unusedVariables false
set_option linter.unusedSimpArgs false
namespace Go.Ep.M.F
open Go
open E (OkE yG)

def Yi (l:List DT) (d:DT):Bool:=l.any fun x=>decide (x = d)
theorem jY (l:List DT) (d:DT) (hl:l.length <= 1000000000000):jx l d = pure (Yi l d):=by
 unfold jx yI yZ;have:=loopF (body:=zo l d) l (fun i=>(i:Int)) (fun _ x=>decide (x = d)) (fun i _=>Ex.ret (i:Int)) (pure (Ex.brk ())) (fun i x hx hi=>by
  have hd:decide ((i:Int) < (l.length:Int)) = true:=by simpa using hi
  unfold zo;simp only [hd,cond_true,zH hx,zA,D.y2a,zn (show i < 9223372036854775807 by omega),xP,eq_comm (a:=d) (b:=x),decide_eq_true_eq]) (by
  unfold zo;simp [zA])
 rw [show (0:Int) = ((0:Nat):Int) from rfl,this];have hf:(l.zipIdx.find? fun y=>decide (y.1 = d)).isSome = Yi l d:=by
  rw [List.isSome_find?];unfold Yi;rw [Bool.eq_iff_iff,List.any_eq_true,List.any_eq_true]
  constructor
  ·rintro ⟨y,hy,h⟩;exact ⟨y.1,List.fst_mem_of_mem_zipIdx hy,h⟩
  ·rintro ⟨x,hx,h⟩;obtain ⟨i,hi⟩:=List.getElem?_of_mem hx;exact ⟨(x,i),by rw [List.mk_mem_zipIdx_iff_getElem?];exact hi,h⟩
 rw [<- hf]
 cases l.zipIdx.find? fun y=>decide (y.1 = d) with
 | none=>simp only [zA,zB,xh];rfl
 | some y=>simp only [zA,zB,xw];simp
def vC (l:List EV) (d:DT):Bool:=l.any fun e=>Yi e.kills d
theorem Dead_eq (l:List EV) (d:DT) (hl:l.length <= 1000000000000) (hk:∀ e ∈ l,e.kills.length <= 1000000000000):YN l d = pure (vC l d):=by
 unfold YN;have:=yd (body:=vE l d) l (fun i=>(i:Int)) (fun _ x=>!Yi x.kills d) (Ex.brk ()) (Ex.ret true) (fun i x hx hi=>by
  have hd:decide ((i:Int) < (l.length:Int)) = true:=by simpa using hi
  unfold vE Yw;simp only [hd,cond_true,zH hx,zA,jY x.kills d (hk x (List.mem_of_getElem? hx)),zB,zn (show i < 9223372036854775807 by omega)]
  cases Yi x.kills d <;> rfl) (by
  unfold vE;simp)
 rw [show (0:Int) = ((0:Nat):Int) from rfl,this,zA,E.uZ l fun x=>!Yi x.kills d];have e:vC l d = !(l.all fun x=>!Yi x.kills d):=by simp [vC,List.all_eq_not_any_not]
 rw [e]
 cases l.all fun x=>!Yi x.kills d <;> rfl
theorem rDead_eq (l:List EV) (d:DT) (hl:l.length <= 1000000000000) (hk:∀ e ∈ l,e.kills.length <= 1000000000000):Xd l d = pure (vC l d):=by
 unfold Xd;have:=yd (body:=ZI l d) l (fun i=>(i:Int)) (fun _ x=>!Yi x.kills d) (Ex.brk ()) (Ex.ret true) (fun i x hx hi=>by
  have hd:decide ((i:Int) < (l.length:Int)) = true:=by simpa using hi
  unfold ZI;simp only [hd,cond_true,zH hx,zA,E.Wh x.kills d (hk x (List.mem_of_getElem? hx)),zB,zn (show i < 9223372036854775807 by omega)];show cond (Yi x.kills d) _ _ = _
  cases Yi x.kills d <;> rfl) (by
  unfold ZI;simp)
 rw [show (0:Int) = ((0:Nat):Int) from rfl,this,zA,E.uZ l fun x=>!Yi x.kills d];have e:vC l d = !(l.all fun x=>!Yi x.kills d):=by simp [vC,List.all_eq_not_any_not]
 rw [e]
 cases l.all fun x=>!Yi x.kills d <;> rfl

def xCa (l:List DT) (c:List PT):List DT:=D.ya (l.filter fun d=>!C.xC c d.dev d.n)
theorem Drop_eq (l : List DT) (c : List PT) (hl : l.length <= 1000000000) (hc : C.Sm c) : YP l c = pure (xCa l c) := by
  unfold YP WR;have := Zz (body := vF l c false) l (fun i t => ((i : Int), t)) (fun t d => if C.xC c d.dev d.n = true then t else t ++ [d]) (fun t => pure t) (fun i t => t.length <= i) (fun i x t hx hi hI => by
    have hd : decide ((i : Int) < (l.length : Int)) = true := by simpa using hi
    refine ⟨?_, by split
                   · omega
                   · simp; omega⟩
    unfold vF;simp only [hd, cond_true, zH hx, zA, C.jY c x hc, zB, zn (show i < 9223372036854775807 by omega)]
    by_cases c : C.xC c x.dev x.n = true
    · rw [c, show (true == false) = false from rfl, cond_false, zA, if_pos rfl]
    · simp only [Bool.not_eq_true] at c;rw [c, show (false == false) = true from rfl, cond_true, zD (by simp; omega), zA]; rfl) (fun t _ => by
    unfold vF;simp [zA]) [] (by simp)
  have key : ∀ (l t : List DT), l.foldl (fun t d => if C.xC c d.dev d.n = true then t else t ++ [d]) t = t ++ l.filter fun d => !C.xC c d.dev d.n := by
    intro l
    induction l with
    | nil => intro t; simp
    | cons x r ih =>
      intro t;rw [List.foldl_cons, ih]
      by_cases h : C.xC c x.dev x.n = true
      · rw [if_pos h, List.filter_cons, if_neg (by simp [h])]
      · rw [if_neg h, List.filter_cons, if_pos (by simp [h]), List.append_assoc]; rfl
  rw [show (0 : Int) = ((0 : Nat) : Int) from rfl, this, zA, key, List.nil_append, D.zTa _ (by have := List.length_filter_le (fun d : DT => !C.xC c d.dev d.n) l; omega), zB, zA, zB, zA, xCa]
theorem rDrop_eq (l : List DT) (c : List PT) (hl : l.length <= 1000000000) (hc : C.Ok c) : VN l c = pure (xCa l c) := by
  unfold VN;have := Zz (body := ZJ l c) l (fun i t => (t, (i : Int))) (fun t d => if C.xC c d.dev d.n = true then t else D.Uz t d) (fun t => pure t) (fun i t => t.length <= i) (fun i x t hx hi hI => by
    have hd : decide ((i : Int) < (l.length : Int)) = true := by simpa using hi
    refine ⟨?_, by split
                   · omega
                   · have := D.UX t x; omega⟩
    unfold ZJ;simp only [hd, cond_true, zH hx, zA, C.Wh c x hc, zB, zn (show i < 9223372036854775807 by omega)]
    by_cases c : C.xC c x.dev x.n = true
    · rw [c, Bool.not_true, cond_false, zA, if_pos rfl]
    · simp only [Bool.not_eq_true] at c;rw [c, Bool.not_false, cond_true, D.Wj t x (by omega), zB, zA, zA]; rfl) (fun t _ => by
    unfold ZJ;simp [zA]) [] (by simp)
  have key : ∀ (l t : List DT), l.foldl (fun t d => if C.xC c d.dev d.n = true then t else D.Uz t d) t = (l.filter fun d => !C.xC c d.dev d.n).foldl D.Uz t := by
    intro l
    induction l with
    | nil => intro t; rfl
    | cons x r ih =>
      intro t;rw [List.foldl_cons, ih]
      by_cases h : C.xC c x.dev x.n = true
      · rw [if_pos h, List.filter_cons, if_neg (by simp [h])]
      · rw [if_neg h, List.filter_cons, if_pos (by simp [h])]; rfl
  rw [show (0 : Int) = ((0 : Nat) : Int) from rfl, this, zA, key]; rfl

def zi (l:List EV):List DT:=l.flatMap fun e=>e.dot :: e.kills
def wI (l:List EV):List DT:=D.ya (zi l)
theorem WF (l:List EV) (k:Nat) (h:∀ e ∈ l,e.kills.length <= k):(zi l).length <= l.length * (k + 1):=by
 induction l with
 | nil=>simp [zi]
 | cons e r ih=>
  have h1:=ih fun x hx=>h x (by simp [hx])
  have h2:=h e (by simp);have e1:(zi (e :: r)).length = e.kills.length + 1 + (zi r).length:=by simp [zi];omega
  rw [e1,List.length_cons,Nat.add_mul];omega
theorem Ue {l:List EV} {i:Nat} {x:EV} (h:l[i]? = some x):zi (l.take (i + 1)) = zi (l.take i) ++ x.dot :: x.kills:=by
 rw [List.take_add_one,h];simp [zi]
theorem QM (l:List EV) (i:Nat):(zi (l.take i)).length <= (zi l).length:=by
 have:zi l = zi (l.take i) ++ zi (l.drop i):=by unfold zi;rw [<- List.flatMap_append,List.take_append_drop]
 rw [this,List.length_append];omega
theorem Dots_eq (l:List EV) (hl:l.length <= 1000000000) (hs:(zi l).length <= 1000000000):YQ l = pure (wI l):=by
 unfold YQ;have key:∀ (k i:Nat),i + k = l.length -> loop (vG l) ((i:Int),zi (l.take i)) = pure (zi l):=by
  intro k
  induction k with
  | zero=>
   intro i hi;refine zZ ?_;unfold vG;have:decide ((i:Int) < (l.length:Int)) = false:=by simp;omega
   simp only [this,cond_false];rw [List.take_of_length_le (by omega)]
  | succ k ih=>
   intro i hi;obtain ⟨x,hx⟩:∃ x,l[i]? = some x:=⟨_,List.getElem?_eq_getElem (by omega)⟩
   have hd:decide ((i:Int) < (l.length:Int)) = true:=by simp;omega
   have h1:=QM l (i + 1);rw [Ue hx,List.length_append,List.length_cons] at h1;rw [zQ (s':=(((i + 1:Nat):Int),zi (l.take (i + 1)))) ?_]
   ·exact ih (i + 1) (by omega)
   ·unfold vG;simp only [hd,cond_true,zH hx,zA,zn (show i < 9223372036854775807 by omega)];rw [zD (by simp;omega),zD (by simp;omega),Ue hx,List.append_assoc];rfl
 have:=key l.length 0 (by omega);rw [show zi (l.take 0) = [] from rfl] at this;rw [show (0:Int) = ((0:Nat):Int) from rfl,this,zA,D.zTa _ (by omega),zB,zA,wI]
theorem rdots_in (l:List EV) {i:Nat} {x:EV} (hx:l[i]? = some x) (hk:x.kills.length <= 1000000000) (s:List DT) (hs:s.length <= 1000000000):loop (vo l (i:Int)) (s,0) = pure (x.kills.foldl D.Uz s):=by
 have:=Zz (body:=vo l (i:Int)) x.kills (fun k t=>(t,(k:Int))) D.Uz (fun t=>pure t) (fun k t=>t.length <= 1000000000 + k) (fun k d t hd hi hI=>by
  have hc:decide ((k:Int) < (x.kills.length:Int)) = true:=by simpa using hi
  refine ⟨?_,by have:=D.UX t d;omega⟩;unfold vo;simp only [zH hx,zA,hc,cond_true,zH hd,D.Wj t d (by omega),zB,zn (show k < 9223372036854775807 by omega)]) (fun t _=>by
  unfold vo;simp [zH hx,zA]) s (by omega)
 exact this
theorem rDots_eq (l:List EV) (hl:l.length <= 1000000) (hk:∀ e ∈ l,e.kills.length <= 300):VO l = pure (wI l):=by
 unfold VO;have key:∀ (k i:Nat),i + k = l.length -> loop (ZK l) (D.ya (zi (l.take i)),(i:Int)) = pure (wI l):=by
  intro k
  induction k with
  | zero=>
   intro i hi;refine zZ ?_;unfold ZK;have:decide ((i:Int) < (l.length:Int)) = false:=by simp;omega
   simp only [this,cond_false];rw [List.take_of_length_le (by omega)];rfl
  | succ k ih=>
   intro i hi;obtain ⟨x,hx⟩:∃ x,l[i]? = some x:=⟨_,List.getElem?_eq_getElem (by omega)⟩
   have hd:decide ((i:Int) < (l.length:Int)) = true:=by simp;omega
   have h1:=QM l i;have h2:=WF l 300 hk;have h3:=D.Vf (zi (l.take i));have h4:=D.UX (D.ya (zi (l.take i))) x.dot;have h5:=hk x (List.mem_of_getElem? hx);rw [zQ (s':=(D.ya (zi (l.take (i + 1))),((i + 1:Nat):Int))) ?_]
   ·exact ih (i + 1) (by omega)
   ·unfold ZK;simp only [hd,cond_true,zH hx,zA,D.Wj _ x.dot (show (D.ya (zi (l.take i))).length <= 1000000000000 by omega),zB,rdots_in l hx (show x.kills.length <= 1000000000 by omega) _ (show (D.Uz (D.ya (zi (l.take i))) x.dot).length <= 1000000000 by omega),zn (show i < 9223372036854775807 by omega)];rw [Ue hx];unfold D.ya;rw [List.foldl_append];rfl
 have:=key l.length 0 (by omega);rw [show D.ya (zi (l.take 0)) = [] from rfl] at this;rw [show (0:Int) = ((0:Nat):Int) from rfl,this,zA]

def ww (l:List EV) (i:Nat) (x:EV):Bool:=decide (0 < i) && match l[i - 1]? with | some y=>decide (0 <= V.z4a y.dot x.dot) | none=>false
theorem Uf {β:Type} {l:List EV} {i:Nat} {x:EV} (hi:i < l.length) (hl:l.length <= 1000000000) (f:DT -> DT -> M Int) (hf:∀ a b,f a b = pure (V.z4a a b)) (K:Bool -> M β) :
  (cond (decide (0 < (i:Int))) ((idx l (IntKind.i64.wrap ((i:Int) - 1))).bind fun y=>(det (f y.dot x.dot)).bind fun v=>K (decide (0 <= v))) (K false)) = K (ww l i x):=by
 unfold ww
 by_cases h:0 < i
 ·obtain ⟨y,hy⟩:∃ y,l[i - 1]? = some y:=⟨_,List.getElem?_eq_getElem (by omega)⟩
  have e:IntKind.i64.wrap ((i:Int) - 1) = ((i - 1:Nat):Int):=by rw [Wz (by omega) (by omega)];omega
  have hd:decide (0 < (i:Int)) = true:=by simp;omega
  rw [hd,cond_true,e,zH hy,zA,hf,zB,zA,decide_eq_true h,Bool.true_and,hy]
 ·have hd:decide (0 < (i:Int)) = false:=by simp;omega
  rw [hd,cond_false,decide_eq_false h,Bool.false_and]
def bad1 (d:DL) (i:Nat) (e:EV):Bool:=!yG e || (ww d.events i e || (C.xC d.from_ e.dot.dev e.dot.n || (decide (e.kind = 1) && vC d.events e.dot)))
def xv (d:DL):Bool:=decide (d.from_ = C.zm d.from_) && (decide (d.to_ = C.zm d.to_) && (decide (C.opC (fun x y=>x && !y) d.from_ d.to_ = []) && (decide (d.events.length <= 4096) && ((d.events.zipIdx.all fun y=>!bad1 d y.2 y.1) && decide (xCa (wI d.events) d.to_ = [])))))
structure OkD (d:DL):Prop where
 from_:C.Ok d.from_
 to_:C.Ok d.to_
 evs:∀ e ∈ d.events,OkE e
 len:d.events.length <= 1000000
 kills:∀ e ∈ d.events,e.kills.length <= 300
theorem Wo {α:Type} [DecidableEq α] (l:List α):decide ((l.length:Int) = 0) = decide (l = []):=by
 cases l with
 | nil=>rfl
 | cons x r=>simp;omega
theorem xDa {d:DL} (h:OkD d):loop (xl d) 0 = pure (if (d.events.zipIdx.all fun y=>!bad1 d y.2 y.1) = true then Ex.brk () else Ex.ret false):=by
 have hl:=h.len;have:=yd (body:=xl d) d.events (fun i=>(i:Int)) (fun i x=>!bad1 d i x) (Ex.brk ()) (Ex.ret false) (fun i x hx hi=>by
  have hd:decide ((i:Int) < (d.events.length:Int)) = true:=by simpa using hi
  have hm:=List.mem_of_getElem? hx;have hp:=fun (K:Bool -> M (Step Int (Ex Unit Bool)))=>Uf (x:=x) hi (by omega) ZA D.yPa K
  unfold xl;simp only [hd,cond_true,zH hx,zA,E.YA (h.evs x hm),C.jY d.from_ x.dot h.from_.sm,Dead_eq d.events x.dot (by omega) (fun e he=>by have:=h.kills e he;omega),zB,zn (show i < 9223372036854775807 by omega)];have hp:=Uf (x:=x) hi (by omega) ZA D.yPa (fun b=>(pure b:M Bool));rw [hp];unfold bad1;simp only [zA]
  cases yG x with
  | false=>rfl
  | true=>
   cases C.xC d.from_ x.dot.dev x.dot.n with
   | true=>cases ww d.events i x <;> rfl
   | false=>
    cases ww d.events i x with
    | true=>rfl
    | false=>
     cases decide (x.kind = 1) with
     | false=>rfl
     | true=>cases vC d.events x.dot <;> rfl) (by
  unfold xl;simp)
 rw [show (0:Int) = ((0:Nat):Int) from rfl,this]
theorem zZa {d:DL} (h:OkD d):loop (vp d) 0 = pure (if (d.events.zipIdx.all fun y=>!bad1 d y.2 y.1) = true then Ex.brk () else Ex.ret false):=by
 have hl:=h.len;have:=yd (body:=vp d) d.events (fun i=>(i:Int)) (fun i x=>!bad1 d i x) (Ex.brk ()) (Ex.ret false) (fun i x hx hi=>by
  have hd:decide ((i:Int) < (d.events.length:Int)) = true:=by simpa using hi
  have hm:=List.mem_of_getElem? hx;unfold vp;simp only [hd,cond_true,zH hx,zA,E.vS (h.evs x hm),C.Wh d.from_ x.dot h.from_,rDead_eq d.events x.dot (by omega) (fun e he=>by have:=h.kills e he;omega),zB,zn (show i < 9223372036854775807 by omega)];have hp:=Uf (x:=x) hi (by omega) uV V.un (fun b=>(cond b (pure true) (cond (C.xC d.from_ x.dot.dev x.dot.n) (pure true) (cond (decide (x.kind = 1)) (pure (vC d.events x.dot)) (pure false))):M Bool));refine (congrArg (fun m:M Bool=>M.bind (cond (!yG x) (pure true) m) fun v70=>cond v70 (pure (Step.done (Ex.ret false))) (pure (Step.next ((i + 1:Nat):Int)))) hp).trans ?_;unfold bad1
  cases yG x with
  | false=>rfl
  | true=>
   cases C.xC d.from_ x.dot.dev x.dot.n with
   | true=>cases ww d.events i x <;> rfl
   | false=>
    cases ww d.events i x with
    | true=>rfl
    | false=>
     cases decide (x.kind = 1) with
     | false=>rfl
     | true=>cases vC d.events x.dot <;> rfl) (by
  unfold vp;simp)
 rw [show (0:Int) = ((0:Nat):Int) from rfl,this]
theorem wwa (l:List EV):decide ((4096:Int) < (l.length:Int)) = !decide (l.length <= 4096):=by
 by_cases c:l.length <= 4096
 ·rw [decide_eq_true c];simp;omega
 ·rw [decide_eq_false c];simp;omega
theorem dlen {d:DL} (h:OkD d):(zi d.events).length <= 1000000000:=by have:=WF d.events 300 h.kills;have:=h.len;omega
theorem Jw {d:DL} (h:OkD d):uf d = pure (xv d):=by
 have h1:=h.len;have h2:=dlen h;have h3:(wI d.events).length <= 1000000000:=Nat.le_trans (D.Vf _) h2;unfold uf xv;rw [xDa h];simp only [C.YA _ h.from_.sm,C.YA _ h.to_.sm,C.UU _ _ h.from_.sm h.to_.sm,Dots_eq d.events (by omega) h2,Drop_eq _ _ h3 h.to_.sm,zB,zA,wwa,Wo]
 cases decide (d.from_ = C.zm d.from_) with
 | false=>rfl
 | true=>
  cases decide (d.to_ = C.zm d.to_) with
  | false=>rfl
  | true=>
   cases decide (C.opC (fun x y=>x && !y) d.from_ d.to_ = []) with
   | false=>rfl
   | true=>
    cases decide (d.events.length <= 4096) with
    | false=>rfl
    | true=>cases d.events.zipIdx.all fun y=>!bad1 d y.2 y.1 <;> rfl
theorem Yo {d:DL} (h:OkD d):Xe d = pure (xv d):=by
 have h1:=h.len;have h2:=dlen h;have h3:(wI d.events).length <= 1000000000:=Nat.le_trans (D.Vf _) h2;unfold Xe xv;rw [zZa h];simp only [C.vS _ h.from_,C.vS _ h.to_,C.Wg _ _ h.from_ h.to_,rDots_eq d.events (by omega) h.kills,rDrop_eq _ _ h3 h.to_,zB,zA,wwa,Wo]
 cases decide (d.from_ = C.zm d.from_) with
 | false=>rfl
 | true=>
  cases decide (d.to_ = C.zm d.to_) with
  | false=>rfl
  | true=>
   cases decide (C.opC (fun x y=>x && !y) d.from_ d.to_ = []) with
   | false=>rfl
   | true=>
    cases decide (d.events.length <= 4096) with
    | false=>rfl
    | true=>cases d.events.zipIdx.all fun y=>!bad1 d y.2 y.1 <;> rfl

open E (OkE yG)

def Vi (n:Int):Bool:=decide (0 < n) && decide (n <= 281474976710655)
theorem QN (n:Int):uc n = pure (Vi n):=by
 unfold uc Vi;rw [zM,zA]
theorem je (n:Int):vW n = pure (Vi n):=by
 unfold vW Vi;rw [zM,zA,show decide (1 <= n) = decide (0 < n) from rfl]
theorem yWa (c:List PT) (d k n:Int):C.xC (C.uD c d) k n = (decide (d = k) && C.xC c k n):=by
 unfold C.uD;rw [C.up];unfold C.xC;rw [C.wv,C.WB,List.append_nil]
 by_cases h:d = k
 ·subst h
  by_cases h0:0 < d
  ·rw [if_pos ⟨rfl,h0⟩,R.xV];simp
  ·rw [if_neg (by simp [h0]),C.WD h0];simp [R.zq]
 ·rw [if_neg (by simp [h])];simp [h,R.zq]
def ye (c:List PT):Bool:=decide (c = C.zm c)
def wO (a b:List PT):Bool:=decide (C.opC (fun x y=>x && !y) a b = [])
def Wp (a b:List PT):Bool:=decide (C.zm a = C.zm b)
theorem yXa : ye [] = true:=by
 unfold ye;rw [C.jW C.qz];rfl
theorem zaa (c:List PT) (d:Int):wO c (C.uD c d) = Wp c (C.uD c d):=by
 unfold wO Wp;rw [Bool.eq_iff_iff,decide_eq_true_eq,decide_eq_true_eq]
 constructor
 ·intro h;refine C.qy fun k n=>?_
  have h1:C.xC (C.opC (fun x y=>x && !y) c (C.uD c d)) k n = false:=by rw [h];rfl
  rw [C.zMa rfl,yWa] at h1;rw [yWa]
  cases hc:C.xC c k n with
  | false=>simp
  | true=>rw [hc] at h1;simpa using h1
 ·intro h;refine C.jX (C.yCa rfl _ _) fun k n=>?_
  have h1:C.xC (C.zm c) k n = C.xC (C.zm (C.uD c d)) k n:=by rw [h]
  rw [C.up,C.up] at h1;rw [C.zMa rfl,<- h1]
  cases C.xC c k n <;> rfl
theorem zba {c:List PT} (h:C.Ok c) (ht:C.xB c <= 1000) {d:Int} (hd:0 <= d):C.Ok (C.uD c d):=by
 have h2:=R.wA (C.yB c d);have h3:=C.yw c d;have h4:=h.tot;rw [C.QA]
 split
 ·exact C.ok_nil
 ·exact ⟨fun p hp=>by rw [List.mem_singleton.1 hp];exact hd,by simp,by simp [C.xB];omega⟩
def ownB (c:List PT) (d:Int):Bool:=ye c && Wp c (C.uD c d)
theorem own_eq {c:List PT} (h:C.Ok c) (ht:C.xB c <= 1000) {d:Int} (hd:0 <= d):Vt c d = pure (ownB c d):=by
 unfold Vt;simp only [C.YA c h.sm,C.Only_eq c d h,C.UU c _ h.sm (zba h ht hd).sm,zB,zA,zM];show pure (ye c && wO c (C.uD c d)) = _;rw [zaa];rfl

def bad2 (l:List EV) (dev:Int) (c:List PT) (i:Nat) (e:EV):Bool:=!yG e || (!decide (e.dot.dev = dev) || (C.xC c e.dot.dev e.dot.n || ww l i e))
def QS (l:List EV) (dev:Int) (i:Nat) (e:EV):Bool:=!yG e || (!decide (e.dot.dev = dev) || ww l i e)
def Wq (l:List EV):Bool:=decide (1 <= (l.length:Int)) && decide ((l.length:Int) <= 4)
theorem wxa {l:List EV} {dev:Int} {c:List PT} (hE:∀ e ∈ l,OkE e) (hl:l.length <= 1000000) (hc:C.Ok c):YR l dev c = pure ((l.zipIdx.all fun y=>!bad2 l dev c y.2 y.1) && Wq l):=by
 unfold YR;have:=yd (body:=vH l dev c) l (fun i=>(i:Int)) (fun i x=>!bad2 l dev c i x) (Ex.brk ()) (Ex.ret false) (fun i x hx hi=>by
  have hd:decide ((i:Int) < (l.length:Int)) = true:=by simpa using hi
  have hm:=List.mem_of_getElem? hx;unfold vH;simp only [hd,cond_true,zH hx,zA,E.YA (hE x hm),C.jY c x.dot hc.sm,zB,zn (show i < 9223372036854775807 by omega)];have hp:=Uf (x:=x) hi (by omega) ZA D.yPa (fun b=>(pure b:M Bool));rw [hp];unfold bad2
  cases yG x with
  | false=>rfl
  | true=>
   cases decide (x.dot.dev = dev) with
   | false=>rfl
   | true=>
    cases C.xC c x.dot.dev x.dot.n with
    | true=>rfl
    | false=>cases ww l i x <;> rfl) (by
  unfold vH;simp)
 rw [show (0:Int) = ((0:Nat):Int) from rfl,this,zA,zM,zA];show exk (fun _=>pure (Wq l)) _ = _
 cases l.zipIdx.all fun y=>!bad2 l dev c y.2 y.1 <;> rfl
theorem yYa {d:DL} {dev:Int} (hE:∀ e ∈ d.events,OkE e) (hl:d.events.length <= 1000000):VP d dev = pure ((d.events.zipIdx.all fun y=>!QS d.events dev y.2 y.1) && (decide (d.from_ = []) && (decide (d.to_ = []) && Wq d.events))):=by
 unfold VP;have:=yd (body:=ZL d dev) d.events (fun i=>(i:Int)) (fun i x=>!QS d.events dev i x) (Ex.brk ()) (Ex.ret false) (fun i x hx hi=>by
  have hd:decide ((i:Int) < (d.events.length:Int)) = true:=by simpa using hi
  have hm:=List.mem_of_getElem? hx;unfold ZL;simp only [hd,cond_true,zH hx,zA,E.vS (hE x hm),zB,zn (show i < 9223372036854775807 by omega)];have hp:=Uf (x:=x) hi (by omega) uV V.un (fun b=>(pure b:M Bool));rw [hp];unfold QS
  cases yG x with
  | false=>rfl
  | true=>
   cases decide (x.dot.dev = dev) with
   | false=>rfl
   | true=>cases ww d.events i x <;> rfl) (by
  unfold ZL;simp)
 rw [show (0:Int) = ((0:Nat):Int) from rfl,this,zA];simp only [Wo,Int.natCast_zero,zM,zA];show exk (fun _=>pure (decide (d.from_ = []) && (decide (d.to_ = []) && Wq d.events))) _ = _
 cases d.events.zipIdx.all fun y=>!QS d.events dev y.2 y.1 <;> rfl
def uE (c:List PT) (l:List EV):Bool:=l.any fun e=>C.xC c e.dot.dev e.dot.n
theorem Ug {c:List PT} {l:List EV} (hl:l.length <= 1000000) (hc:C.Ok c):ZM c l = pure (uE c l):=by
 unfold ZM;have:=yd (body:=wV l c) l (fun i=>(i:Int)) (fun _ x=>!C.xC c x.dot.dev x.dot.n) (Ex.brk ()) (Ex.ret true) (fun i x hx hi=>by
  have hd:decide ((i:Int) < (l.length:Int)) = true:=by simpa using hi
  unfold wV;simp only [hd,cond_true,zH hx,zA,C.Wh c x.dot hc,zB,zn (show i < 9223372036854775807 by omega)]
  cases C.xC c x.dot.dev x.dot.n <;> rfl) (by
  unfold wV;simp)
 rw [show (0:Int) = ((0:Nat):Int) from rfl,this,zA,E.uZ l fun x=>!C.xC c x.dot.dev x.dot.n];have e:uE c l = !(l.all fun x=>!C.xC c x.dot.dev x.dot.n):=by simp [uE,List.all_eq_not_any_not]
 rw [e]
 cases l.all fun x=>!C.xC c x.dot.dev x.dot.n <;> rfl
theorem wya (l:List EV) (dev:Int) (c:List PT):(l.zipIdx.all fun y=>!bad2 l dev c y.2 y.1) = ((l.zipIdx.all fun y=>!QS l dev y.2 y.1) && !uE c l):=by
 have e:uE c l = !(l.all fun x=>!C.xC c x.dot.dev x.dot.n):=by simp [uE,List.all_eq_not_any_not]
 rw [e,Bool.not_not,<- E.uZ l fun x=>!C.xC c x.dot.dev x.dot.n,Bool.eq_iff_iff,Bool.and_eq_true,List.all_eq_true,List.all_eq_true,List.all_eq_true]
 constructor
 ·intro h;refine ⟨fun y hy=>?_,fun y hy=>?_⟩
  ·have:=h y hy;unfold bad2 at this;unfold QS
   revert this
   cases yG y.1 <;> cases decide (y.1.dot.dev = dev) <;> cases C.xC c y.1.dot.dev y.1.dot.n <;> cases ww l y.2 y.1 <;> decide
  ·have:=h y hy;unfold bad2 at this
   revert this
   cases yG y.1 <;> cases decide (y.1.dot.dev = dev) <;> cases C.xC c y.1.dot.dev y.1.dot.n <;> cases ww l y.2 y.1 <;> decide
 ·rintro ⟨h1,h2⟩ y hy;have a:=h1 y hy;have b:=h2 y hy;unfold QS at a;unfold bad2
  revert a b
  cases yG y.1 <;> cases decide (y.1.dot.dev = dev) <;> cases C.xC c y.1.dot.dev y.1.dot.n <;> cases ww l y.2 y.1 <;> decide

structure OkM (m:TMsg):Prop where
 kind:0 <= m.kind /\ m.kind <= 255
 slot:0 <= m.slot /\ m.slot <= 255
 dev:0 <= m.dev /\ m.dev <= 65535
 why:0 <= m.why /\ m.why <= 255
 have_:C.Ok m.have_
 front:C.Ok m.front
 delta:OkD m.delta
 tot:C.xB m.have_ <= 1000
def bareB (m:TMsg):Bool:=decide (m.slot = 0) && (decide (m.try_ = 0) && (decide (m.why = 0) && (decide (m.have_ = []) && (decide (m.front = []) && ((decide (m.delta.from_ = []) && decide (m.delta.to_ = [])) && decide (m.delta.events = []))))))
theorem wza (m:TMsg):XT m = pure (bareB m):=by
 unfold XT Vr bareB;simp only [Wo,zM,zA,zB]
theorem yZa (d:DL):VQ d = pure (decide (d.from_ = []) && (decide (d.to_ = []) && decide (d.events = []))):=by
 unfold VQ;simp only [Wo,zM,zA]
theorem wc {α:Type} (a:Bool) (x y:M α):det (cond a x y) = cond a (det x) (det y):=by cases a <;> rfl
theorem wd {α β:Type} (k:β -> M α) (a:Bool) (x y:Ex β α):exk k (cond a x y) = cond a (exk k x) (exk k y):=by cases a <;> rfl
set_option maxHeartbeats 4000000 in
theorem w0a {m:TMsg} (h:OkM m):uO m = wW m:=by
 obtain ⟨h1,h2,h3,h4,h5,h6,h7,h8⟩:=h;have hev:∀ e ∈ m.delta.events,OkE e:=h7.evs;have hfrom:decide ((0:Int) < (m.delta.from_.length:Int)) = !decide (m.delta.from_ = []):=by
  cases m.delta.from_ with
  | nil=>rfl
  | cons x r=>simp
 unfold uO wW Vs;simp only [QN,je,own_eq h5 h8 h3.1,C.YA _ h5.sm,C.YA _ h6.sm,C.UU _ _ h6.sm h7.to_.sm,Jw h7,Yo h7,wxa hev h7.len h5,yYa hev h7.len,Ug h7.len h5,wza,yZa,C.vS _ h5,C.vS _ h6,C.yJa _ _ h3.1 h5,C.yIa _ _ h5 (zba h5 h8 h3.1),C.Wg _ _ h6 h7.to_,hfrom,zB,zA,Wo,wya,bareB];obtain ⟨kind,slot,try_,dev,epoch,why,have_,front,delta⟩:=m;dsimp only at *
 have e1:∀ c:List PT,decide (c = C.zm c) = ye c:=fun _=>rfl
 have e2:∀ a b:List PT,decide (C.zm a = C.zm b) = Wp a b:=fun _ _=>rfl
 have e3:∀ a b:List PT,decide (C.opC (fun x y=>x && !y) a b = []) = wO a b:=fun _ _=>rfl
 have gh:decide (have_ = []) = true -> ye have_ = true:=fun e=>by rw [of_decide_eq_true e];exact yXa
 have gf:decide (front = []) = true -> ye front = true:=fun e=>by rw [of_decide_eq_true e];exact yXa
 simp only [e1,e2,e3,ownB];clear hfrom hev h2 h3 h5 h6 h7 h8
 by_cases k1:kind = 1
 ·subst k1;simp only [Int.reduceEq,Int.reduceLE,Int.reduceLT,decide_true,decide_false,Bool.not_true,Bool.not_false,cond_true,cond_false,zA,zB,xw,xh,yj,wc,wd,yi,eq_self,Bool.true_and,Bool.and_true,Bool.false_and,Bool.and_false,e1,e2,e3]
  generalize ye have_ = A at *
  generalize ye front = B at *
  generalize Wp have_ (C.uD have_ dev) = D1 at *
  generalize wO front delta.to_ = E1 at *
  generalize xv delta = F1 at *
  generalize (delta.events.zipIdx.all fun y=>!QS delta.events dev y.2 y.1) = G1 at *
  generalize uE have_ delta.events = H1 at *
  generalize Wq delta.events = I1 at *
  generalize Vi epoch = J1 at *
  generalize Vi try_ = K1 at *
  generalize decide (have_ = []) = L1 at *
  generalize decide (front = []) = M1 at *
  generalize decide (delta.from_ = []) = N1 at *
  generalize decide (delta.to_ = []) = O1 at *
  generalize decide (delta.events = []) = P1 at *
  generalize decide (dev = 0) = Q1 at *
  generalize decide (epoch = 0) = R1 at *
  generalize decide (slot = 0) = S1 at *
  generalize decide (try_ = 0) = T1 at *
  generalize decide (16 <= slot) = U1 at *
  generalize decide (why = 0) = V1 at *
  generalize decide (why = 1) = W1 at *
  generalize decide (why = 2) = X1 at *
  clear e1 e2 e3;refine congrArg pure ?_;clear h1 h4
  all_goals (cases U1 <;> try rfl)
  all_goals (cases K1 <;> try rfl)
  all_goals (cases Q1 <;> try rfl)
  all_goals (cases R1 <;> try rfl)
  all_goals (cases L1 <;> cases A <;> (try (exact absurd (gh rfl) (by decide))) <;> cases M1 <;> cases B <;> (try (exact absurd (gf rfl) (by decide))))
  all_goals (try rfl)
  all_goals (cases V1 <;> try rfl)
  all_goals (cases N1 <;> try rfl)
  all_goals (cases O1 <;> try rfl)
  all_goals (cases P1 <;> try rfl)
  all_goals (cases E1 <;> try rfl)
 by_cases k2:kind = 2
 ·subst k2;simp only [Int.reduceEq,Int.reduceLE,Int.reduceLT,decide_true,decide_false,Bool.not_true,Bool.not_false,cond_true,cond_false,zA,zB,xw,xh,yj,wc,wd,yi,eq_self,Bool.true_and,Bool.and_true,Bool.false_and,Bool.and_false,e1,e2,e3]
  generalize ye have_ = A at *
  generalize ye front = B at *
  generalize Wp have_ (C.uD have_ dev) = D1 at *
  generalize wO front delta.to_ = E1 at *
  generalize xv delta = F1 at *
  generalize (delta.events.zipIdx.all fun y=>!QS delta.events dev y.2 y.1) = G1 at *
  generalize uE have_ delta.events = H1 at *
  generalize Wq delta.events = I1 at *
  generalize Vi epoch = J1 at *
  generalize Vi try_ = K1 at *
  generalize decide (have_ = []) = L1 at *
  generalize decide (front = []) = M1 at *
  generalize decide (delta.from_ = []) = N1 at *
  generalize decide (delta.to_ = []) = O1 at *
  generalize decide (delta.events = []) = P1 at *
  generalize decide (dev = 0) = Q1 at *
  generalize decide (epoch = 0) = R1 at *
  generalize decide (slot = 0) = S1 at *
  generalize decide (try_ = 0) = T1 at *
  generalize decide (16 <= slot) = U1 at *
  generalize decide (why = 0) = V1 at *
  generalize decide (why = 1) = W1 at *
  generalize decide (why = 2) = X1 at *
  clear e1 e2 e3;refine congrArg pure ?_;clear h1 h4
  all_goals (cases Q1 <;> try rfl)
  all_goals (cases J1 <;> try rfl)
  all_goals (cases U1 <;> try rfl)
  all_goals (cases K1 <;> try rfl)
  all_goals (cases L1 <;> cases A <;> (try (exact absurd (gh rfl) (by decide))) <;> cases M1 <;> cases B <;> (try (exact absurd (gf rfl) (by decide))))
  all_goals (try rfl)
  all_goals (cases F1 <;> try rfl)
  all_goals (cases N1 <;> try rfl)
  all_goals (cases V1 <;> try rfl)
  all_goals (cases E1 <;> try rfl)
 by_cases k3:kind = 3
 ·subst k3;simp only [Int.reduceEq,Int.reduceLE,Int.reduceLT,decide_true,decide_false,Bool.not_true,Bool.not_false,cond_true,cond_false,zA,zB,xw,xh,yj,wc,wd,yi,eq_self,Bool.true_and,Bool.and_true,Bool.false_and,Bool.and_false,e1,e2,e3]
  generalize ye have_ = A at *
  generalize ye front = B at *
  generalize Wp have_ (C.uD have_ dev) = D1 at *
  generalize wO front delta.to_ = E1 at *
  generalize xv delta = F1 at *
  generalize (delta.events.zipIdx.all fun y=>!QS delta.events dev y.2 y.1) = G1 at *
  generalize uE have_ delta.events = H1 at *
  generalize Wq delta.events = I1 at *
  generalize Vi epoch = J1 at *
  generalize Vi try_ = K1 at *
  generalize decide (have_ = []) = L1 at *
  generalize decide (front = []) = M1 at *
  generalize decide (delta.from_ = []) = N1 at *
  generalize decide (delta.to_ = []) = O1 at *
  generalize decide (delta.events = []) = P1 at *
  generalize decide (dev = 0) = Q1 at *
  generalize decide (epoch = 0) = R1 at *
  generalize decide (slot = 0) = S1 at *
  generalize decide (try_ = 0) = T1 at *
  generalize decide (16 <= slot) = U1 at *
  generalize decide (why = 0) = V1 at *
  generalize decide (why = 1) = W1 at *
  generalize decide (why = 2) = X1 at *
  clear e1 e2 e3;refine congrArg pure ?_;clear h1 h4
  all_goals (cases S1 <;> try rfl)
  all_goals (cases T1 <;> try rfl)
  all_goals (cases Q1 <;> try rfl)
  all_goals (cases J1 <;> try rfl)
  all_goals (cases L1 <;> cases A <;> (try (exact absurd (gh rfl) (by decide))) <;> cases M1 <;> cases B <;> (try (exact absurd (gf rfl) (by decide))))
  all_goals (try rfl)
  all_goals (cases V1 <;> try rfl)
  all_goals (cases N1 <;> try rfl)
  all_goals (cases O1 <;> try rfl)
  all_goals (cases P1 <;> try rfl)
  all_goals (cases E1 <;> try rfl)
 by_cases k4:kind = 4
 ·subst k4;simp only [Int.reduceEq,Int.reduceLE,Int.reduceLT,decide_true,decide_false,Bool.not_true,Bool.not_false,cond_true,cond_false,zA,zB,xw,xh,yj,wc,wd,yi,eq_self,Bool.true_and,Bool.and_true,Bool.false_and,Bool.and_false,e1,e2,e3]
  generalize ye have_ = A at *
  generalize ye front = B at *
  generalize Wp have_ (C.uD have_ dev) = D1 at *
  generalize wO front delta.to_ = E1 at *
  generalize xv delta = F1 at *
  generalize (delta.events.zipIdx.all fun y=>!QS delta.events dev y.2 y.1) = G1 at *
  generalize uE have_ delta.events = H1 at *
  generalize Wq delta.events = I1 at *
  generalize Vi epoch = J1 at *
  generalize Vi try_ = K1 at *
  generalize decide (have_ = []) = L1 at *
  generalize decide (front = []) = M1 at *
  generalize decide (delta.from_ = []) = N1 at *
  generalize decide (delta.to_ = []) = O1 at *
  generalize decide (delta.events = []) = P1 at *
  generalize decide (dev = 0) = Q1 at *
  generalize decide (epoch = 0) = R1 at *
  generalize decide (slot = 0) = S1 at *
  generalize decide (try_ = 0) = T1 at *
  generalize decide (16 <= slot) = U1 at *
  generalize decide (why = 0) = V1 at *
  generalize decide (why = 1) = W1 at *
  generalize decide (why = 2) = X1 at *
  clear e1 e2 e3;refine congrArg pure ?_;clear h1 h4
  all_goals (cases S1 <;> try rfl)
  all_goals (cases T1 <;> try rfl)
  all_goals (cases Q1 <;> try rfl)
  all_goals (cases J1 <;> try rfl)
  all_goals (cases L1 <;> cases A <;> (try (exact absurd (gh rfl) (by decide))) <;> cases M1 <;> cases B <;> (try (exact absurd (gf rfl) (by decide))))
  all_goals (try rfl)
  all_goals (cases V1 <;> try rfl)
  all_goals (cases F1 <;> try rfl)
  all_goals (cases E1 <;> try rfl)
 by_cases k5:kind = 5
 ·subst k5;simp only [Int.reduceEq,Int.reduceLE,Int.reduceLT,decide_true,decide_false,Bool.not_true,Bool.not_false,cond_true,cond_false,zA,zB,xw,xh,yj,wc,wd,yi,eq_self,Bool.true_and,Bool.and_true,Bool.false_and,Bool.and_false,e1,e2,e3]
  generalize ye have_ = A at *
  generalize ye front = B at *
  generalize Wp have_ (C.uD have_ dev) = D1 at *
  generalize wO front delta.to_ = E1 at *
  generalize xv delta = F1 at *
  generalize (delta.events.zipIdx.all fun y=>!QS delta.events dev y.2 y.1) = G1 at *
  generalize uE have_ delta.events = H1 at *
  generalize Wq delta.events = I1 at *
  generalize Vi epoch = J1 at *
  generalize Vi try_ = K1 at *
  generalize decide (have_ = []) = L1 at *
  generalize decide (front = []) = M1 at *
  generalize decide (delta.from_ = []) = N1 at *
  generalize decide (delta.to_ = []) = O1 at *
  generalize decide (delta.events = []) = P1 at *
  generalize decide (dev = 0) = Q1 at *
  generalize decide (epoch = 0) = R1 at *
  generalize decide (slot = 0) = S1 at *
  generalize decide (try_ = 0) = T1 at *
  generalize decide (16 <= slot) = U1 at *
  generalize decide (why = 0) = V1 at *
  generalize decide (why = 1) = W1 at *
  generalize decide (why = 2) = X1 at *
  clear e1 e2 e3;refine congrArg pure ?_;clear h1 h4
  all_goals (cases S1 <;> try rfl)
  all_goals (cases T1 <;> try rfl)
  all_goals (cases Q1 <;> try rfl)
  all_goals (cases J1 <;> try rfl)
  all_goals (cases L1 <;> cases A <;> (try (exact absurd (gh rfl) (by decide))) <;> cases M1 <;> cases B <;> (try (exact absurd (gf rfl) (by decide))))
  all_goals (try rfl)
  all_goals (cases V1 <;> try rfl)
  all_goals (cases D1 <;> try rfl)
  all_goals (cases G1 <;> try rfl)
  all_goals (cases H1 <;> try rfl)
  all_goals (cases I1 <;> try rfl)
  all_goals (cases N1 <;> try rfl)
  all_goals (cases O1 <;> try rfl)
  all_goals (cases E1 <;> try rfl)
 by_cases k6:kind = 6
 ·subst k6;simp only [Int.reduceEq,Int.reduceLE,Int.reduceLT,decide_true,decide_false,Bool.not_true,Bool.not_false,cond_true,cond_false,zA,zB,xw,xh,yj,wc,wd,yi,eq_self,Bool.true_and,Bool.and_true,Bool.false_and,Bool.and_false,e1,e2,e3]
  generalize ye have_ = A at *
  generalize ye front = B at *
  generalize Wp have_ (C.uD have_ dev) = D1 at *
  generalize wO front delta.to_ = E1 at *
  generalize xv delta = F1 at *
  generalize (delta.events.zipIdx.all fun y=>!QS delta.events dev y.2 y.1) = G1 at *
  generalize uE have_ delta.events = H1 at *
  generalize Wq delta.events = I1 at *
  generalize Vi epoch = J1 at *
  generalize Vi try_ = K1 at *
  generalize decide (have_ = []) = L1 at *
  generalize decide (front = []) = M1 at *
  generalize decide (delta.from_ = []) = N1 at *
  generalize decide (delta.to_ = []) = O1 at *
  generalize decide (delta.events = []) = P1 at *
  generalize decide (dev = 0) = Q1 at *
  generalize decide (epoch = 0) = R1 at *
  generalize decide (slot = 0) = S1 at *
  generalize decide (try_ = 0) = T1 at *
  generalize decide (16 <= slot) = U1 at *
  generalize decide (why = 0) = V1 at *
  generalize decide (why = 1) = W1 at *
  generalize decide (why = 2) = X1 at *
  clear e1 e2 e3;refine congrArg pure ?_;clear h1 h4
  all_goals (cases S1 <;> try rfl)
  all_goals (cases T1 <;> try rfl)
  all_goals (cases Q1 <;> try rfl)
  all_goals (cases J1 <;> try rfl)
  all_goals (cases L1 <;> cases A <;> (try (exact absurd (gh rfl) (by decide))) <;> cases M1 <;> cases B <;> (try (exact absurd (gf rfl) (by decide))))
  all_goals (try rfl)
  all_goals (cases V1 <;> try rfl)
  all_goals (cases D1 <;> try rfl)
  all_goals (cases N1 <;> try rfl)
  all_goals (cases O1 <;> try rfl)
  all_goals (cases P1 <;> try rfl)
  all_goals (cases E1 <;> try rfl)
 by_cases k7:kind = 7
 ·subst k7;simp only [Int.reduceEq,Int.reduceLE,Int.reduceLT,decide_true,decide_false,Bool.not_true,Bool.not_false,cond_true,cond_false,zA,zB,xw,xh,yj,wc,wd,yi,eq_self,Bool.true_and,Bool.and_true,Bool.false_and,Bool.and_false,e1,e2,e3]
  generalize ye have_ = A at *
  generalize ye front = B at *
  generalize Wp have_ (C.uD have_ dev) = D1 at *
  generalize wO front delta.to_ = E1 at *
  generalize xv delta = F1 at *
  generalize (delta.events.zipIdx.all fun y=>!QS delta.events dev y.2 y.1) = G1 at *
  generalize uE have_ delta.events = H1 at *
  generalize Wq delta.events = I1 at *
  generalize Vi epoch = J1 at *
  generalize Vi try_ = K1 at *
  generalize decide (have_ = []) = L1 at *
  generalize decide (front = []) = M1 at *
  generalize decide (delta.from_ = []) = N1 at *
  generalize decide (delta.to_ = []) = O1 at *
  generalize decide (delta.events = []) = P1 at *
  generalize decide (dev = 0) = Q1 at *
  generalize decide (epoch = 0) = R1 at *
  generalize decide (slot = 0) = S1 at *
  generalize decide (try_ = 0) = T1 at *
  generalize decide (16 <= slot) = U1 at *
  generalize decide (why = 0) = V1 at *
  generalize decide (why = 1) = W1 at *
  generalize decide (why = 2) = X1 at *
  clear e1 e2 e3;refine congrArg pure ?_;clear h1 h4
  all_goals (cases S1 <;> try rfl)
  all_goals (cases T1 <;> try rfl)
  all_goals (cases Q1 <;> try rfl)
  all_goals (cases J1 <;> try rfl)
  all_goals (cases L1 <;> cases A <;> (try (exact absurd (gh rfl) (by decide))) <;> cases M1 <;> cases B <;> (try (exact absurd (gf rfl) (by decide))))
  all_goals (try rfl)
  all_goals (cases V1 <;> try rfl)
  all_goals (cases N1 <;> try rfl)
  all_goals (cases O1 <;> try rfl)
  all_goals (cases P1 <;> try rfl)
  all_goals (cases E1 <;> try rfl)
 by_cases k8:kind = 8
 ·subst k8;simp only [Int.reduceEq,Int.reduceLE,Int.reduceLT,decide_true,decide_false,Bool.not_true,Bool.not_false,cond_true,cond_false,zA,zB,xw,xh,yj,wc,wd,yi,eq_self,Bool.true_and,Bool.and_true,Bool.false_and,Bool.and_false,e1,e2,e3]
  generalize ye have_ = A at *
  generalize ye front = B at *
  generalize Wp have_ (C.uD have_ dev) = D1 at *
  generalize wO front delta.to_ = E1 at *
  generalize xv delta = F1 at *
  generalize (delta.events.zipIdx.all fun y=>!QS delta.events dev y.2 y.1) = G1 at *
  generalize uE have_ delta.events = H1 at *
  generalize Wq delta.events = I1 at *
  generalize Vi epoch = J1 at *
  generalize Vi try_ = K1 at *
  generalize decide (have_ = []) = L1 at *
  generalize decide (front = []) = M1 at *
  generalize decide (delta.from_ = []) = N1 at *
  generalize decide (delta.to_ = []) = O1 at *
  generalize decide (delta.events = []) = P1 at *
  generalize decide (dev = 0) = Q1 at *
  generalize decide (epoch = 0) = R1 at *
  generalize decide (slot = 0) = S1 at *
  generalize decide (try_ = 0) = T1 at *
  generalize decide (16 <= slot) = U1 at *
  generalize decide (why = 0) = V1 at *
  generalize decide (why = 1) = W1 at *
  generalize decide (why = 2) = X1 at *
  clear e1 e2 e3;refine congrArg pure ?_;clear h1 h4
  all_goals (cases S1 <;> try rfl)
  all_goals (cases T1 <;> try rfl)
  all_goals (cases Q1 <;> try rfl)
  all_goals (cases J1 <;> try rfl)
  all_goals (cases L1 <;> cases A <;> (try (exact absurd (gh rfl) (by decide))) <;> cases M1 <;> cases B <;> (try (exact absurd (gf rfl) (by decide))))
  all_goals (try rfl)
  all_goals (cases V1 <;> try rfl)
  all_goals (cases N1 <;> try rfl)
  all_goals (cases O1 <;> try rfl)
  all_goals (cases P1 <;> try rfl)
  all_goals (cases E1 <;> try rfl)
 by_cases k9:kind = 9
 ·subst k9;simp only [Int.reduceEq,Int.reduceLE,Int.reduceLT,decide_true,decide_false,Bool.not_true,Bool.not_false,cond_true,cond_false,zA,zB,xw,xh,yj,wc,wd,yi,eq_self,Bool.true_and,Bool.and_true,Bool.false_and,Bool.and_false,e1,e2,e3]
  generalize ye have_ = A at *
  generalize ye front = B at *
  generalize Wp have_ (C.uD have_ dev) = D1 at *
  generalize wO front delta.to_ = E1 at *
  generalize xv delta = F1 at *
  generalize (delta.events.zipIdx.all fun y=>!QS delta.events dev y.2 y.1) = G1 at *
  generalize uE have_ delta.events = H1 at *
  generalize Wq delta.events = I1 at *
  generalize Vi epoch = J1 at *
  generalize Vi try_ = K1 at *
  generalize decide (have_ = []) = L1 at *
  generalize decide (front = []) = M1 at *
  generalize decide (delta.from_ = []) = N1 at *
  generalize decide (delta.to_ = []) = O1 at *
  generalize decide (delta.events = []) = P1 at *
  generalize decide (dev = 0) = Q1 at *
  generalize decide (epoch = 0) = R1 at *
  generalize decide (slot = 0) = S1 at *
  generalize decide (try_ = 0) = T1 at *
  generalize decide (16 <= slot) = U1 at *
  generalize decide (why = 0) = V1 at *
  generalize decide (why = 1) = W1 at *
  generalize decide (why = 2) = X1 at *
  clear e1 e2 e3;refine congrArg pure ?_;clear h1 h4
  all_goals (cases S1 <;> try rfl)
  all_goals (cases T1 <;> try rfl)
  all_goals (cases Q1 <;> try rfl)
  all_goals (cases J1 <;> try rfl)
  all_goals (cases L1 <;> cases A <;> (try (exact absurd (gh rfl) (by decide))) <;> cases M1 <;> cases B <;> (try (exact absurd (gf rfl) (by decide))))
  all_goals (try rfl)
  all_goals (cases W1 <;> try rfl)
  all_goals (cases X1 <;> try rfl)
  all_goals (cases N1 <;> try rfl)
  all_goals (cases O1 <;> try rfl)
  all_goals (cases P1 <;> try rfl)
  all_goals (cases E1 <;> try rfl)
 have k0:decide (kind < 1) = true \/ decide (kind < 1) = false /\ decide (9 < kind) = true:=by
  simp only [decide_eq_true_eq,decide_eq_false_iff_not];omega
 simp only [decide_eq_false k1,decide_eq_false k2,decide_eq_false k3,decide_eq_false k4,decide_eq_false k5,decide_eq_false k6,decide_eq_false k7,decide_eq_false k8,decide_eq_false k9,Int.reduceEq,Int.reduceLE,Int.reduceLT,decide_true,decide_false,Bool.not_true,Bool.not_false,cond_true,cond_false,zA,zB,xw,xh,yj,wc,wd,yi,eq_self,Bool.true_and,Bool.and_true,Bool.false_and,Bool.and_false,e1,e2,e3];rcases k0 with k0 | ⟨k0,k10⟩
 ·rw [k0]
  cases decide (dev = 0) <;> cases Vi epoch <;> rfl
 ·rw [k0,k10]
  cases decide (dev = 0) <;> cases Vi epoch <;> rfl

def fewC (c:List PT):Bool:=decide (c.length <= 30) && c.all fun p=>decide (p.runs.length <= 30)
def fewM (m:TMsg):Bool:=fewC m.have_ && (fewC m.front && (fewC m.delta.from_ && (fewC m.delta.to_ && E.fewE m.delta.events 30)))
theorem fewM_eq (m:TMsg):jw m = pure (fewM m):=by
 unfold jw Qd fewM fewC;rw [C.Wi,C.Wi,C.Wi,C.Wi,show Vp m.delta.events 30 = pure (E.fewE m.delta.events 30) from E.Wi m.delta.events 30 (by decide)];simp only [zB,zA,zM]
structure InM (m:TMsg):Prop where
 kind:0 <= m.kind /\ m.kind <= 255
 slot:0 <= m.slot /\ m.slot <= 255
 dev:0 <= m.dev /\ m.dev <= 65535
 why:0 <= m.why /\ m.why <= 255
 have_:∀ p ∈ m.have_,0 <= p.dev
 front:∀ p ∈ m.front,0 <= p.dev
 from_:∀ p ∈ m.delta.from_,0 <= p.dev
 to_:∀ p ∈ m.delta.to_,0 <= p.dev
 evs:∀ e ∈ m.delta.events,e.kills.length <= 300 /\ e.text.size <= 200 -> OkE e
theorem okM {m:TMsg} (h:InM m) (hf:fewM m = true):OkM m:=by
 unfold fewM at hf;simp only [Bool.and_eq_true] at hf;obtain ⟨f1,f2,f3,f4,f5⟩:=hf;obtain ⟨g1,g2⟩:=E.wsa f5;have t:=C.YB f1;exact ⟨h.kind,h.slot,h.dev,h.why,C.yKa h.have_ t,C.yKa h.front (C.YB f2),⟨C.yKa h.from_ (C.YB f3),C.yKa h.to_ (C.YB f4),fun e he=>h.evs e he (g2 e he),by omega,fun e he=>(g2 e he).1⟩,by omega⟩
theorem w1a {m:TMsg} (h:OkM m):∃ b,wW m = pure b:=by
 obtain ⟨h1,h2,h3,h4,h5,h6,h7,h8⟩:=h;have hev:∀ e ∈ m.delta.events,OkE e:=h7.evs;unfold wW;simp only [je,Yo h7,yYa hev h7.len,Ug h7.len h5,yZa,C.vS _ h5,C.vS _ h6,C.yJa _ _ h3.1 h5,C.yIa _ _ h5 (zba h5 h8 h3.1),C.Wg _ _ h6 h7.to_,zB,zA,yi,yj];exact ⟨_,rfl⟩
end Go.Ep.M.F

namespace Go.Ep.M.G
open Go
open E (OkE yG Yl)
open F (Yi zi wI)

theorem w2a {l:List EV} (h:Yl l):(l.map (·.dot)).Nodup:=by
 unfold List.Nodup;rw [List.pairwise_map];exact h.imp fun {a b} h e=>by rw [e,D.yMa] at h;cases h
theorem Uh {l:List EV} (h:Yl l) (p:EV -> Bool):Yl (l.filter p):=h.sublist List.filter_sublist
def ent (e:EV):DT × EV:=(e.dot,e)
theorem ent_inj {a b:EV} (h:ent a = ent b):a = b:=(Prod.mk.inj h).2
theorem w3a {l:List EV} {k:DT × EV}:k ∈ l.map ent ↔ k.2 ∈ l /\ k.1 = k.2.dot:=by
 rw [List.mem_map]
 constructor
 ·rintro ⟨e,h,rfl⟩;exact ⟨h,rfl⟩
 ·rintro ⟨h1,h2⟩;exact ⟨k.2,h1,by unfold ent;rw [<- h2]⟩
def Holds (m:List (DT × EV)) (l:List EV):Prop:=m.Perm (l.map ent)
theorem Holds.keys {m:List (DT × EV)} {l:List EV} (h:Holds m l) (hs:Yl l):(m.map (·.1)).Nodup:=by
 have h1:=h.map (·.1);rw [List.map_map] at h1;exact h1.nodup_iff.2 (w2a hs)
theorem Holds.mem {m:List (DT × EV)} {l:List EV} (h:Holds m l) {k:DT × EV}:k ∈ m ↔ k.2 ∈ l /\ k.1 = k.2.dot:=by rw [h.mem_iff,w3a]
theorem Holds.len {m:List (DT × EV)} {l:List EV} (h:Holds m l):m.length = l.length:=by rw [h.length_eq,List.length_map]
theorem QO {l:List EV} (h:Yl l):(l.map ent).Nodup:=by
 unfold List.Nodup;rw [List.pairwise_map];exact h.imp fun {a b} h e=>by rw [ent_inj e,D.yMa] at h;cases h
theorem Holds.nodup {m:List (DT × EV)} {l:List EV} (h:Holds m l) (hs:Yl l):m.Nodup:=h.nodup_iff.2 (QO hs)
theorem holds_of {m:List (DT × EV)} {l:List EV} (hn:(m.map (·.1)).Nodup) (hs:Yl l) (h:∀ k,k ∈ m ↔ k.2 ∈ l /\ k.1 = k.2.dot):Holds m l:=by
 have hm:m.Nodup:=by
  unfold List.Nodup at hn ⊢;rw [List.pairwise_map] at hn;exact hn.imp fun {a b} h e=>h (by rw [e])
 exact (List.perm_ext_iff_of_nodup hm (QO hs)).2 fun k=>by rw [h,w3a]
open E (OkE yG Yl)
open F (Yi zi wI vC)

section
variable {κ ν:Type} [DecidableEq κ]
theorem mem_set {m:List (κ × ν)} (hn:(m.map (·.1)).Nodup) (x:κ) (v:ν) (k:κ × ν):k ∈ AL.set m x v ↔ (k ∈ m /\ k.1 ≠ x) \/ k = (x,v):=by
 induction m with
 | nil=>simp [AL.set]
 | cons y r ih=>
  obtain ⟨q,u⟩:=y;rw [List.map_cons,List.nodup_cons] at hn;unfold AL.set
  split
  ·rename_i e
   subst e;rw [List.mem_cons,List.mem_cons]
   constructor
   ·rintro (h | h)
    ·exact .inr h
    ·exact .inl ⟨.inr h,fun e=>hn.1 (e ▸ List.mem_map.2 ⟨k,h,rfl⟩)⟩
   ·rintro (⟨h | h,h2⟩ | h)
    ·subst h;exact absurd rfl h2
    ·exact .inr h
    ·exact .inl h
  ·rename_i e
   rw [List.mem_cons,List.mem_cons,ih hn.2]
   constructor
   ·rintro (h | ⟨h,h2⟩ | h)
    ·subst h;exact .inl ⟨.inl rfl,e⟩
    ·exact .inl ⟨.inr h,h2⟩
    ·exact .inr h
   ·rintro (⟨h | h,h2⟩ | h)
    ·exact .inl h
    ·exact .inr (.inl ⟨h,h2⟩)
    ·exact .inr (.inr h)
end
def insE (l:List EV) (e:EV):List EV:=(l.filter fun x=>zT x.dot e.dot) ++ [e] ++ (l.filter fun x=>zT e.dot x.dot)
theorem insE_srt {l:List EV} (hs:Yl l) (e:EV):Yl (insE l e):=by
 unfold insE Yl;rw [List.pairwise_append,List.pairwise_append];refine ⟨⟨Uh hs _,by simp,fun a ha b hb=>?_⟩,Uh hs _,fun a ha b hb=>?_⟩
 ·rw [List.mem_singleton.1 hb];exact (List.mem_filter.1 ha).2
 ·have h2:=(List.mem_filter.1 hb).2;rcases List.mem_append.1 ha with h | h
  ·exact D.Vd (List.mem_filter.1 h).2 h2
  ·rw [List.mem_singleton.1 h];exact h2
theorem insE_mem {l:List EV} {e:EV} (hn:∀ x ∈ l,x.dot ≠ e.dot) {x:EV}:x ∈ insE l e ↔ x = e \/ x ∈ l:=by
 unfold insE;rw [List.mem_append,List.mem_append,List.mem_filter,List.mem_filter,List.mem_singleton]
 constructor
 ·rintro ((⟨h,_⟩ | h) | ⟨h,_⟩)
  ·exact .inr h
  ·exact .inl h
  ·exact .inr h
 ·rintro (h | h)
  ·exact .inl (.inr h)
  ·cases h1:zT x.dot e.dot with
   | true=>exact .inl (.inl ⟨h,rfl⟩)
   | false=>
    cases h2:zT e.dot x.dot with
    | true=>exact .inr ⟨h,rfl⟩
    | false=>exact absurd (D.yNa h1 h2) (hn x h)
theorem Holds.add {m:List (DT × EV)} {l:List EV} (h:Holds m l) (hs:Yl l) {e:EV} (hn:∀ x ∈ l,x.dot ≠ e.dot):Holds (AL.set m e.dot e) (insE l e):=
 holds_of (AL.nodup_set (h.keys hs) _ _) (insE_srt hs e) fun k=>by
  rw [mem_set (h.keys hs),h.mem,insE_mem hn]
  constructor
  ·rintro (⟨⟨h1,h2⟩,h3⟩ | h1)
   ·exact ⟨.inr h1,h2⟩
   ·rw [h1];exact ⟨.inl rfl,rfl⟩
  ·rintro ⟨h1 | h1,h2⟩
   ·refine .inr ?_;obtain ⟨k1,k2⟩:=k;simp only at h1 h2;rw [h2,h1]
   ·exact .inl ⟨⟨h1,h2⟩,by rw [h2];exact hn _ h1⟩

theorem Ui {e:EV} (h:yG e = true):e.kind = 1 \/ e.kind = 2:=by
 simp only [yG,E.goodK,Bool.and_eq_true,Bool.or_eq_true,decide_eq_true_eq] at h;rcases h.2.1 with h | h
 ·exact .inl h.1
 ·exact .inr h.1
theorem xEa {e:EV} (h:yG e = true):e.kills.length <= 256 /\ D.Srt e.kills /\ ∀ d ∈ e.kills,V.yA d = true /\ d ≠ e.dot:=by
 simp only [yG,E.y9a,Bool.and_eq_true,decide_eq_true_eq,List.all_eq_true,Bool.not_eq_true',decide_eq_false_iff_not] at h;exact ⟨h.2.2.1,D.yUa.1 h.2.2.2.1,fun d hd=>h.2.2.2.2 d hd⟩
open E (OkE yG Yl)
open F (Yi zi wI vC)

def liveL (L:List EV):List EV:=L.filter fun e=>decide (e.kind = 1)
def tombL (L:List EV):List EV:=L.filter fun e=>decide (e.kind = 2)
structure Rep (n:Nat) (W c xc:List PT) (nl1:Bool) (m1:List (DT × EV)) (nl2:Bool) (m2:List (DT × EV)) (L:List EV):Prop where
 ctx:c = C.zm W
 xctx:∀ k n,C.xC xc k n = C.xC W k n
 xok:C.Ok xc
 live:Holds m1 (liveL L)
 tomb:Holds m2 (tombL L)
 n1:nl1 = true -> m1 = []
 n2:nl2 = true -> m2 = []
 srt:Yl L
 good:∀ e ∈ L,yG e = true /\ OkE e
 dots:∀ d ∈ zi L,C.xC W d.dev d.n = true
 alive:∀ e ∈ L,e.kind = 1 -> vC L e.dot = false
 wl:W.length <= n
 wt:C.xB W <= n
 ll:L.length <= n
theorem ok_normW {W:List PT} (h1:W.length <= 400000000) (h2:C.xB W <= 400000000):C.Ok (C.zm W):=
 ⟨fun p hp=>by have:=((C.vb W).nf p hp).1;omega,by have:=C.uB W;omega,by have:=C.uC W;omega⟩
section
variable {n:Nat} {W c xc:List PT} {nl1:Bool} {m1:List (DT × EV)} {nl2:Bool} {m2:List (DT × EV)} {L:List EV}
theorem Rep.mono (hR:Rep n W c xc nl1 m1 nl2 m2 L) {k:Nat} (h:n <= k):Rep k W c xc nl1 m1 nl2 m2 L:=
 { hR with wl:=Nat.le_trans hR.wl h,wt:=Nat.le_trans hR.wt h,ll:=Nat.le_trans hR.ll h }
theorem Rep.okc (hR:Rep n W c xc nl1 m1 nl2 m2 L) (hn:n <= 100000000):C.Ok c:=by
 rw [hR.ctx];exact ok_normW (by have:=hR.wl;omega) (by have:=hR.wt;omega)
theorem Rep.has (hR:Rep n W c xc nl1 m1 nl2 m2 L) (hn:n <= 100000000) (d:DT):Yv c d = pure (C.xC W d.dev d.n):=by
 rw [C.jY c d (hR.okc hn).sm,hR.ctx,C.up]
theorem Rep.new : Rep 0 [] [] [] true [] true [] [] where
 ctx:=rfl
 xctx _ _:=rfl
 xok:=C.ok_nil
 live:=List.Perm.refl _
 tomb:=List.Perm.refl _
 n1 _:=rfl
 n2 _:=rfl
 srt:=List.Pairwise.nil
 good _ h:=by cases h
 dots _ h:=by cases h
 alive _ h:=by cases h
 wl:=Nat.le_refl _
 wt:=Nat.le_refl _
 ll:=Nat.le_refl _
end

open E (OkE yG Yl)
open F (Yi zi wI vC)

section
variable {n:Nat} {W c xc:List PT} {nl1:Bool} {m1:List (DT × EV)} {nl2:Bool} {m2:List (DT × EV)} {L:List EV}
theorem Rep.kl (hR:Rep n W c xc nl1 m1 nl2 m2 L):∀ e ∈ L,e.kills.length <= 256:=fun e he=>(xEa (hR.good e he).1).1
theorem Rep.kinds (hR:Rep n W c xc nl1 m1 nl2 m2 L):∀ e ∈ L,e.kind = 1 \/ e.kind = 2:=fun e he=>Ui (hR.good e he).1
end

open E (OkE yG Yl)
open F (Yi zi wI vC)

section
variable {n:Nat} {W c xc:List PT} {nl1:Bool} {m1:List (DT × EV)} {nl2:Bool} {m2:List (DT × EV)} {L:List EV}
end

open E (OkE yG Yl)
open F (Yi zi wI vC)

section
variable {n:Nat} {W c xc:List PT} {nl1:Bool} {m1:List (DT × EV)} {nl2:Bool} {m2:List (DT × EV)} {L:List EV}
def ofL (L:List EV) (cid:Int):List EV:=(liveL L).filter fun x=>decide (x.cid = cid)
end
open E (OkE yG Yl)
open F (Yi zi wI vC)

def exB : EV:=⟨⟨1,2⟩,2,281474976710657,0,⟨#[]⟩,[]⟩
theorem okB : OkE exB:=⟨⟨by decide,by decide,by decide,by decide⟩,by decide,by decide,by decide,by decide,(fun d hd=>nomatch hd),by decide⟩
open E (OkE yG Yl)
open F (Yi zi wI vC ww xCa)

open E (OkE yG Yl)
open F (Yi zi wI vC ww xCa)

section
variable {n:Nat} {W c xc:List PT} {nl1:Bool} {m1:List (DT × EV)} {nl2:Bool} {m2:List (DT × EV)} {L:List EV}
end
open E (OkE yG Yl)
open F (Yi zi wI vC)

section
variable {n:Nat} {W c xc:List PT} {nl1:Bool} {m1:List (DT × EV)} {nl2:Bool} {m2:List (DT × EV)} {L:List EV}
end
section
variable {n:Nat} {W c xc:List PT} {nl1:Bool} {m1:List (DT × EV)} {nl2:Bool} {m2:List (DT × EV)} {L:List EV}
end
open E (OkE yG Yl)
open F (Yi zi wI vC xv OkD)

section
variable {n:Nat} {W c xc:List PT} {nl1:Bool} {m1:List (DT × EV)} {nl2:Bool} {m2:List (DT × EV)} {L:List EV}
end
section
variable {n:Nat} {W c xc:List PT} {nl1:Bool} {m1:List (DT × EV)} {nl2:Bool} {m2:List (DT × EV)} {L:List EV}
end

open E (OkE yG Yl)
open F (Yi zi wI vC xv OkD)

structure InD (d:DL):Prop where
 from_:∀ p ∈ d.from_,0 <= p.dev
 to_:∀ p ∈ d.to_,0 <= p.dev
 evs:∀ e ∈ d.events,e.kills.length <= 300 /\ e.text.size <= 200 -> OkE e
section
variable {n:Nat} {W c xc:List PT} {nl1:Bool} {m1:List (DT × EV)} {nl2:Bool} {m2:List (DT × EV)} {L:List EV}
end
open E (OkE yG Yl YE)
open D (jA)
open F (Yi zi wI vC xv OkD)

theorem xZ {c:List PT} (h:∀ p ∈ c,p.dev <= 65535) (h1:c.length <= 1000000) (h2:C.xB c <= 1000000):(jA c).length <= 60000000:=by
 have hn:=C.uB c;have ht:=C.uC c;have hl:=D.Jt (D.Vg h) (by omega) (by omega);rw [jA];omega
section
variable {n:Nat} {W c xc:List PT} {nl1:Bool} {m1:List (DT × EV)} {nl2:Bool} {m2:List (DT × EV)} {L:List EV}
end
open E (OkE yG Yl YE allS)
open D (jA ctxS yRa fin)
open F (Yi zi wI vC xv OkD)
open N (RS endS Sim OkB)

open E (OkE yG Yl YE allS)
open D (jA ctxS yRa fin)
open F (Yi zi wI vC xv OkD ww)
open N (RS endS Sim OkB)

section
variable {n:Nat} {W c xc:List PT} {nl1:Bool} {m1:List (DT × EV)} {nl2:Bool} {m2:List (DT × EV)} {L:List EV}
end
open E (OkE yG Yl)
open F (Yi zi wI)

def hD (e:EV) (k n:Int):Bool:=C.xC (C.UT (wI [e])) k n
structure Past (P:List EV) (W:List PT) (L:List EV):Prop where
 has:∀ k n,C.xC W k n = true ↔ ∃ e ∈ P,yG e = true /\ hD e k n = true
 mem:∀ x,x ∈ L ↔ x ∈ P /\ yG x = true /\ ∀ f ∈ P,yG f = true -> x.dot ∉ f.kills
 srt:Yl L
open E (OkE yG Yl)
open F (Yi zi wI)

open E (OkE yG Yl)
open F (Yi zi wI)

structure InK (K:List DT) (n:Nat) (v:List EV):Prop where
 srt:Yl v
 len:v.length = n
 ok:∀ e ∈ v,OkE e
 kl:∀ e ∈ v,e.kills.length <= 4000
 sub:∀ e ∈ v,∀ d ∈ e.kills,d ∈ K
abbrev Bk:=List PT × Bool × List (DT × EV) × Bool × List (DT × EV)
def At (n:Nat) (P:List EV) (t:Bk):Prop:=∃ W xc L,Rep n W t.1 xc t.2.2.2.1 t.2.2.2.2 t.2.1 t.2.2.1 L /\ Past P W L
open E (OkE yG Yl)
open F (Yi zi wI)
end Go.Ep.M.G

namespace Go.Ep.M.U
open Go
def C (b:BitVec 32):Int:=(b.toNat:Int)
theorem C_lt (b:BitVec 32):0 <= C b /\ C b < 4294967296:=⟨by unfold C;omega,by have:=b.isLt;unfold C;omega⟩
theorem wU32 {n:Int} (h:0 <= n) (h':n < 4294967296):IntKind.u32.wrap n = n:=by simp [IntKind.wrap,IntKind.bits,IntKind.signed];omega
theorem ofC (b:BitVec 32):BitVec.ofInt 32 (C b) = b:=by unfold C;rw [BitVec.ofInt_natCast];simp
theorem C_of {n:Int} (h:0 <= n) (h':n < 4294967296):C (BitVec.ofInt 32 n) = n:=by
 unfold C;rw [BitVec.toNat_ofInt];omega
theorem xorC (a b:BitVec 32):XO .u32 (C a) (C b) = C (a ^^^ b):=by
 show IntKind.u32.wrap (((BitVec.ofInt 32 (C a) ^^^ BitVec.ofInt 32 (C b)).toNat:Nat):Int) = _;rw [ofC,ofC];exact wU32 (C_lt _).1 (C_lt _).2
theorem andC (a b:BitVec 32):QR .u32 (C a) (C b) = C (a &&& b):=by
 show IntKind.u32.wrap (((BitVec.ofInt 32 (C a) &&& BitVec.ofInt 32 (C b)).toNat:Nat):Int) = _;rw [ofC,ofC];exact wU32 (C_lt _).1 (C_lt _).2
theorem shrC (a:BitVec 32) (k:Nat):Int.fdiv (C a) ((2 ^ k:Nat):Int) = C (a >>> k):=by
 unfold C;rw [BitVec.toNat_ushiftRight,Nat.shiftRight_eq_div_pow,Int.fdiv_eq_ediv_of_nonneg _ (Int.natCast_nonneg _)]
 rfl
theorem fdiv16 (a:BitVec 32):Int.fdiv (C a) (2 ^ 4) = C (a >>> 4):=shrC a 4
def s1 (c:BitVec 32):BitVec 32:=(c >>> 1) ^^^ (if c.getLsbD 0 then 0xedb88320#32 else 0#32)
def s4 (c:BitVec 32):BitVec 32:=s1 (s1 (s1 (s1 c)))
theorem x4 (a b p q:BitVec 32):(a ^^^ b) ^^^ (p ^^^ q) = (a ^^^ p) ^^^ (b ^^^ q):=by
 rw [BitVec.xor_assoc,BitVec.xor_assoc,<- BitVec.xor_assoc b p q,BitVec.xor_comm b p,BitVec.xor_assoc p b q]
theorem s1_xor (a b:BitVec 32):s1 (a ^^^ b) = s1 a ^^^ s1 b:=by
 unfold s1;rw [BitVec.getLsbD_xor,BitVec.ushiftRight_xor_distrib];have r:∀ x y z:BitVec 32,x ^^^ y ^^^ z = x ^^^ z ^^^ y:=fun x y z=>by rw [BitVec.xor_assoc,BitVec.xor_comm y,<- BitVec.xor_assoc]
 cases a.getLsbD 0 <;> cases b.getLsbD 0
 ·simp
 ·simp [BitVec.xor_assoc]
 ·simp [r]
 ·have:=x4 (a >>> 1) (b >>> 1) 0xedb88320#32 0xedb88320#32;simpa using this
theorem s4_xor (a b:BitVec 32):s4 (a ^^^ b) = s4 a ^^^ s4 b:=by unfold s4;simp only [s1_xor]
theorem Jx {c:BitVec 32} (h:c.getLsbD 0 = false):s1 c = c >>> 1:=by unfold s1;rw [h];simp
theorem split16 (c:BitVec 32):c = (c &&& 0xfffffff0#32) ^^^ (c &&& 15#32):=by
 apply BitVec.eq_of_getLsbD_eq;intro i hi;rw [BitVec.getLsbD_xor,BitVec.getLsbD_and,BitVec.getLsbD_and];have h:∀ j:Fin 32,((0xfffffff0#32:BitVec 32).getLsbD j ^^ (15#32:BitVec 32).getLsbD j) = true:=by decide
 have:=h ⟨i,hi⟩;simp only at this
 cases c.getLsbD i <;> simp_all
theorem s4_hi (c:BitVec 32):s4 (c &&& 0xfffffff0#32) = c >>> 4:=by
 have hb:∀ i,i < 4 -> (c &&& 0xfffffff0#32).getLsbD i = false:=fun i hi=>by
  rw [BitVec.getLsbD_and];have h:∀ j:Fin 4,(0xfffffff0#32:BitVec 32).getLsbD j = false:=by decide
  rw [h ⟨i,hi⟩,Bool.and_false]
 have e:(c &&& 0xfffffff0#32) >>> 4 = c >>> 4:=by
  apply BitVec.eq_of_getLsbD_eq;intro i hi;rw [BitVec.getLsbD_ushiftRight,BitVec.getLsbD_ushiftRight,BitVec.getLsbD_and]
  by_cases h4:4 + i < 32
  ·have h:∀ j:Fin 28,(0xfffffff0#32:BitVec 32).getLsbD (4 + j) = true:=by decide
   rw [show (0xfffffff0#32:BitVec 32).getLsbD (4 + i) = true from h ⟨i,by omega⟩,Bool.and_true]
  ·rw [BitVec.getLsbD_of_ge c _ (by omega),Bool.false_and]
 generalize c &&& 0xfffffff0#32 = d at hb e ⊢
 have h1:s1 d = d >>> 1:=Jx (hb 0 (by omega));have h2:s1 (d >>> 1) = d >>> 2:=by rw [Jx (by rw [BitVec.getLsbD_ushiftRight];exact hb 1 (by omega)),<- BitVec.shiftRight_add]
 have h3:s1 (d >>> 2) = d >>> 3:=by rw [Jx (by rw [BitVec.getLsbD_ushiftRight];exact hb 2 (by omega)),<- BitVec.shiftRight_add]
 have h4:s1 (d >>> 3) = d >>> 4:=by rw [Jx (by rw [BitVec.getLsbD_ushiftRight];exact hb 3 (by omega)),<- BitVec.shiftRight_add]
 unfold s4;rw [h1,h2,h3,h4,e]
theorem s4_eq (c:BitVec 32):s4 c = (c >>> 4) ^^^ s4 (c &&& 15#32):=by
 conv=>lhs;rw [split16 c]
 rw [s4_xor,s4_hi]
def s8 (c x:BitVec 32):BitVec 32:=s4 (s4 (c ^^^ x))
theorem and15 (c:BitVec 32):(c &&& 15#32).toNat < 16:=by
 have h:(c &&& 15#32).toNat <= 15:=by rw [BitVec.toNat_and];exact Nat.and_le_right
 omega
theorem tab_get (c:BitVec 32):tabG.getD (Int.toNat (C (c &&& 15#32))) 0 = C (s4 (c &&& 15#32)):=by
 have h:∀ j:Fin 16,tabG.getD j 0 = C (s4 (BitVec.ofNat 32 j)):=by decide
 have h2:=h ⟨(c &&& 15#32).toNat,and15 c⟩;have e:BitVec.ofNat 32 (c &&& 15#32).toNat = c &&& 15#32:=by simp
 rw [show Int.toNat (C (c &&& 15#32)) = (c &&& 15#32).toNat from by unfold C;omega,h2,e]
theorem byte_eq (c x:BitVec 32) (hx:x.toNat < 256) :
  s4 ((s4 ((c ^^^ x) &&& 15#32) ^^^ (c >>> 4) ^^^ (x >>> 4)) &&& 15#32) ^^^ ((s4 ((c ^^^ x) &&& 15#32) ^^^ (c >>> 4)) >>> 4) = s8 c x:=by
 have h0:(x >>> 4) >>> 4 = 0#32:=by
  rw [<- BitVec.shiftRight_add];apply BitVec.eq_of_toNat_eq;rw [BitVec.toNat_ushiftRight,Nat.shiftRight_eq_div_pow];exact Nat.div_eq_of_lt hx
 have e:s4 (c ^^^ x) = s4 ((c ^^^ x) &&& 15#32) ^^^ (c >>> 4) ^^^ (x >>> 4):=by
  rw [s4_eq (c ^^^ x),BitVec.ushiftRight_xor_distrib,BitVec.xor_comm,BitVec.xor_assoc]
 show _ = s4 (s4 (c ^^^ x));rw [e,s4_eq (_ ^^^ (x >>> 4)),BitVec.ushiftRight_xor_distrib _ (x >>> 4),h0,BitVec.xor_zero,BitVec.xor_comm]
theorem c15 : (15:Int) = C 15#32:=rfl
def sumB (c:BitVec 32) (l:List Int):BitVec 32:=l.foldl (fun c x=>s8 c (BitVec.ofInt 32 x)) c
def okB (l:List Int):Prop:=∀ x ∈ l,0 <= x /\ x < 256
theorem ofB_lt {x:Int} (h:0 <= x /\ x < 256):(BitVec.ofInt 32 x).toNat < 256:=by
 have:=C_of (n:=x) h.1 (by omega);unfold C at this;omega
theorem idxOk (c:BitVec 32):(0:Int) <= C (c &&& 15#32) /\ C (c &&& 15#32) < ((16:Nat):Int):=⟨(C_lt _).1,by have:=and15 c;unfold C;omega⟩
theorem more_eq (l:List Int) (hl:l.length <= 1000000000000) (ho:okB l) (c:BitVec 32):XV (C c) l = pure (C (0xffffffff#32 ^^^ sumB (0xffffffff#32 ^^^ c) l)):=by
 unfold XV;have e:(4294967295:Int) = C 0xffffffff#32:=rfl;rw [e,xorC];have key:∀ k i (c:BitVec 32),i + k = l.length -> loop (Vu l) (C c,(i:Int)) = pure (C (sumB c (l.drop i))):=by
  intro k
  induction k with
  | zero=>
   intro i c hi;rw [zZ (r:=C c)]
   ·rw [List.drop_of_length_le (by omega)];rfl
   ·show cond (decide ((i:Int) < (l.length:Int))) _ _ = _;rw [decide_eq_false (by omega)];rfl
  | succ k ih=>
   intro i c hi;have hlt:i < l.length:=by omega
   have hx:=ho _ (List.getElem_mem hlt);rw [zQ (s':=(C (s8 c (BitVec.ofInt 32 l[i])),((i + 1:Nat):Int)))]
   ·rw [ih (i + 1) _ (by omega),List.drop_eq_getElem_cons hlt];rfl
   ·show cond (decide ((i:Int) < (l.length:Int))) _ _ = _;rw [decide_eq_true (by omega)];show (M.idx l (i:Int)).bind _ = _;rw [zH (List.getElem?_eq_getElem hlt)];have ex:IntKind.u32.wrap l[i] = C (BitVec.ofInt 32 l[i]):=by rw [C_of hx.1 (by omega)];exact wU32 hx.1 (by omega)
    have ex4:IntKind.u32.wrap (Int.fdiv l[i] (2 ^ 4)) = C ((BitVec.ofInt 32 l[i]) >>> 4):=by
     rw [<- fdiv16,C_of hx.1 (by omega)];have:Int.fdiv l[i] (2 ^ 4) = l[i] / 16:=Int.fdiv_eq_ediv_of_nonneg _ (by omega);rw [this];exact wU32 (by omega) (by omega)
    have ei:IntKind.i64.wrap ((i:Int) + 1) = ((i + 1:Nat):Int):=by rw [Wz (by omega) (by omega)];omega
    rw [zA];simp only [ex,ex4,ei,c15,xorC,andC,fdiv16,tab_get];rw [zD (idxOk _),zD (idxOk _),byte_eq c _ (ofB_lt hx)]
 rw [show (0:Int) = ((0:Nat):Int) from rfl,key l.length 0 _ (by omega),zA,xorC]
 rfl
theorem bit_eq (c:BitVec 32):(cond ((decide ((Int.tmod (C c) 2) = 1))) (M.pure ((XO .u32 (IntKind.u32.wrap (Int.tdiv (C c) 2)) 3988292384))) (M.pure (IntKind.u32.wrap (Int.tdiv (C c) 2)))) = (M.pure (C (s1 c)):M Int):=by
 have hc:=C_lt c;have e2:IntKind.u32.wrap (Int.tdiv (C c) 2) = C (c >>> 1):=by
  rw [<- shrC c 1,Int.fdiv_eq_ediv_of_nonneg _ (by omega),Int.tdiv_eq_ediv_of_nonneg hc.1];exact wU32 (by omega) (by omega)
 have e1:decide ((Int.tmod (C c) 2) = 1) = c.getLsbD 0:=by
  rw [Int.tmod_eq_emod_of_nonneg hc.1,BitVec.getLsbD,Nat.testBit_zero];unfold C
  congr 1
  exact propext (by omega)
 rw [e1,e2,show (3988292384:Int) = C 0xedb88320#32 from rfl,xorC];unfold s1
 cases c.getLsbD 0 <;> simp
theorem step_eq (c:BitVec 32) {x:Int} (hx:0 <= x /\ x < 256):VR (C c) x = pure (C (s8 c (BitVec.ofInt 32 x))):=by
 unfold VR;have ex:IntKind.u32.wrap x = C (BitVec.ofInt 32 x):=by rw [C_of hx.1 (by omega)];exact wU32 hx.1 (by omega)
 rw [ex,xorC];have st:∀ (c:BitVec 32) (i:Nat),i < 8 -> Yy (C c,(i:Int)) = pure (.next (C (s1 c),((i + 1:Nat):Int))):=fun c i hi=>by
  show cond (decide ((i:Int) < 8)) _ _ = _;rw [decide_eq_true (by omega)];show (cond _ _ _:M Int).bind _ = _;rw [bit_eq];have ei:IntKind.i64.wrap ((i:Int) + 1) = ((i + 1:Nat):Int):=by rw [Wz (by omega) (by omega)];omega
  rw [<- ei];rfl
 have en:∀ c:BitVec 32,Yy (C c,((8:Nat):Int)) = pure (.done (C c)):=fun c=>rfl
 rw [show (0:Int) = ((0:Nat):Int) from rfl,zQ (st _ 0 (by omega)),zQ (st _ 1 (by omega)),zQ (st _ 2 (by omega)),zQ (st _ 3 (by omega)),zQ (st _ 4 (by omega)),zQ (st _ 5 (by omega)),zQ (st _ 6 (by omega)),zQ (st _ 7 (by omega)),zZ (en _)]
 rfl
theorem rmore_eq (l:List Int) (hl:l.length <= 1000000000000) (ho:okB l) (c:BitVec 32):Xf (C c) l = pure (C (0xffffffff#32 ^^^ sumB (0xffffffff#32 ^^^ c) l)):=by
 unfold Xf;have e:(4294967295:Int) = C 0xffffffff#32:=rfl;rw [e,xorC];have key:∀ k i (c:BitVec 32),i + k = l.length -> loop (UA l) (C c,(i:Int)) = pure (C (sumB c (l.drop i))):=by
  intro k
  induction k with
  | zero=>
   intro i c hi;rw [zZ (r:=C c)]
   ·rw [List.drop_of_length_le (by omega)];rfl
   ·show cond (decide ((i:Int) < (l.length:Int))) _ _ = _;rw [decide_eq_false (by omega)];rfl
  | succ k ih=>
   intro i c hi;have hlt:i < l.length:=by omega
   have hx:=ho _ (List.getElem_mem hlt);rw [zQ (s':=(C (s8 c (BitVec.ofInt 32 l[i])),((i + 1:Nat):Int)))]
   ·rw [ih (i + 1) _ (by omega),List.drop_eq_getElem_cons hlt];rfl
   ·show cond (decide ((i:Int) < (l.length:Int))) _ _ = _;rw [decide_eq_true (by omega)];show (M.idx l (i:Int)).bind _ = _;rw [zH (List.getElem?_eq_getElem hlt),zA];show (M.det _).bind _ = _;rw [step_eq c hx,zB,zA];have ei:IntKind.i64.wrap ((i:Int) + 1) = ((i + 1:Nat):Int):=by rw [Wz (by omega) (by omega)];omega
    rw [ei]
 rw [show (0:Int) = ((0:Nat):Int) from rfl,key l.length 0 _ (by omega),zA,xorC,BitVec.xor_comm 0xffffffff#32 (sumB _ l),BitVec.xor_comm c]
 rfl
def four (c:BitVec 32):List Int:=[C c % 256,C c / 256 % 256,C c / 65536 % 256,C c / 16777216 % 256]
def Jy (l:List Int):BitVec 32:=0xffffffff#32 ^^^ sumB 0xffffffff#32 l
theorem u8mod (n:Int):IntKind.u8.wrap n = n % 256:=by simp [IntKind.wrap,IntKind.bits,IntKind.signed]
def QP (k:Int) (b:List Int):List Int:=k :: b ++ four (Jy (k :: b))
theorem Seal_eq (k:Int) (b:List Int) (hk:0 <= k /\ k < 256) (hb:okB b) (hl:b.length <= 1000000000):XW k b = pure (QP k b):=by
 unfold XW;have ho:okB (k :: b):=fun x hx=>(List.mem_cons.1 hx).elim (fun h=>h ▸ hk) (hb x)
 rw [zD (by rw [Wz (by omega) (by omega)];omega),zD (by simp),zD (by simp;omega)];have hs:VI [([] ++ [k]) ++ b] = pure (C (Jy (k :: b)) % 256,C (Jy (k :: b)) / 256 % 256,C (Jy (k :: b)) / 65536 % 256,C (Jy (k :: b)) / 16777216 % 256):=by
  unfold VI xZa;have hm:=more_eq (k :: b) (by simp;omega) ho 0#32;have h1:Vv [([] ++ [k]) ++ b] (0,0) = pure (.next (C (Jy (k :: b)),1)):=by
   show (M.idx [k :: b] 0).bind _ = _;rw [show (0:Int) = ((0:Nat):Int) from rfl,zH (y:=k :: b) rfl,zA];show (M.det (XV (C 0#32) (k :: b))).bind _ = _;rw [hm,zB,zA]
   rfl
  have h2:Vv [([] ++ [k]) ++ b] (C (Jy (k :: b)),1) = pure (.done (C (Jy (k :: b)))):=rfl;rw [zQ h1,zZ h2,zA,zB,zA];have hc:=(C_lt (Jy (k :: b))).1
  generalize C (Jy (k :: b)) = n at hc
  simp only [u8mod];have hq:∀ m:Nat,Int.fdiv n ((m:Nat):Int) = n / m:=fun m=>Int.fdiv_eq_ediv_of_nonneg _ (by omega)
  have q1:Int.fdiv n (2 ^ 8) = n / 256:=hq 256;have q2:Int.fdiv n (2 ^ 16) = n / 65536:=hq 65536;have q3:Int.fdiv n (2 ^ 24) = n / 16777216:=hq 16777216;rw [q1,q2,q3]
 rw [hs,zB,zA,zD (by simp;omega)]
 rfl
theorem rSeal_eq (k:Int) (b:List Int) (hk:0 <= k /\ k < 256) (hb:okB b) (hl:b.length <= 1000000000):Xg k b = pure (QP k b):=by
 unfold Xg;have ho:okB (k :: b):=fun x hx=>(List.mem_cons.1 hx).elim (fun h=>h ▸ hk) (hb x)
 have hm:Xf 0 ([k] ++ b) = pure (C (Jy (k :: b))):=rmore_eq (k :: b) (by simp;omega) ho 0#32;rw [zD (by simp;omega),hm,zB,zA];have hc:=C_lt (Jy (k :: b));have ef:[C (Jy (k :: b)) % 256,C (Jy (k :: b)) / 256 % 256,C (Jy (k :: b)) / 256 / 256 % 256,C (Jy (k :: b)) / 256 / 256 / 256 % 256] = four (Jy (k :: b)):=by
  unfold four;rw [Int.ediv_ediv_of_nonneg (by omega),Int.ediv_ediv_of_nonneg (by omega)]
  rfl
 show (loop ZN (C (Jy (k :: b)),0,[k] ++ b)).bind _ = _;unfold QP;rw [<- ef]
 generalize C (Jy (k :: b)) = n at hc
 have st:∀ (c:Int) (i:Nat) (v:List Int),i < 4 -> 0 <= c -> c < 4294967296 -> v.length <= 2000000000 -> ZN (c,(i:Int),v) = pure (.next (c / 256,((i + 1:Nat):Int),v ++ [c % 256])):=fun c i v hi h0 h1 hv=>by
  show cond (decide ((i:Int) < 4)) _ _ = _;rw [decide_eq_true (by omega)];show M.yY _ _ = _;rw [zD (by simp;omega),Int.tmod_eq_emod_of_nonneg h0,Int.tdiv_eq_ediv_of_nonneg h0,wU32 (by omega) (by omega),Wz (by omega) (by omega),u8mod,Int.emod_emod_of_dvd _ (by decide)]
  rfl
 have en:∀ c v,ZN (c,((4:Nat):Int),v) = pure (.done v):=fun c v=>rfl
 rw [show (0:Int) = ((0:Nat):Int) from rfl,zQ (st _ 0 _ (by omega) (by omega) (by omega) (by simp;omega)),zQ (st _ 1 _ (by omega) (by omega) (by omega) (by simp;omega)),zQ (st _ 2 _ (by omega) (by omega) (by omega) (by simp;omega)),zQ (st _ 3 _ (by omega) (by omega) (by omega) (by simp;omega)),zZ (en _ _),zA]
 congr 1
 simp

open E (OkE yG YE)
open D (jA)
open F (OkM InM fewM)
theorem Ui {m:TMsg} (hg:wW m = pure true):1 <= m.kind /\ m.kind <= 9:=by
 have no:(pure false:M Bool) ≠ pure true:=fun h=>by
  have h2:(pure false:M Bool).wp (· = true):=by rw [h];rfl
  cases h2
 refine ⟨Decidable.byContradiction fun h=>no ?_,Decidable.byContradiction fun h=>no ?_⟩
 ·rw [<- hg];have h1:decide (m.kind < 1) = true:=decide_eq_true (by omega);unfold wW;rw [h1]
  cases decide (m.kind = 1) <;> rfl
 ·rw [<- hg];have h1:decide (m.kind < 1) = false:=decide_eq_false (by omega);have h2:decide (9 < m.kind) = true:=decide_eq_true (by omega);unfold wW;rw [h1,h2]
  cases decide (m.kind = 1) <;> rfl
def VA (d:DL):List Int:=jA d.from_ ++ jA d.to_ ++ YE d.events
def VB (m:TMsg):List Int:=
 if m.kind = 1 then [m.slot] ++ N.xE m.try_ else
 if m.kind = 2 then [m.slot] ++ N.xE m.try_ ++ N.xE m.dev ++ N.xE m.epoch ++ VA m.delta else
 if m.kind = 4 then N.xE m.dev ++ N.xE m.epoch ++ VA m.delta ++ jA m.front else
 if m.kind = 5 then N.xE m.dev ++ N.xE m.epoch ++ jA m.have_ ++ YE m.delta.events else
 if m.kind = 8 then N.xE m.dev ++ N.xE m.epoch else
 if m.kind = 9 then N.xE m.dev ++ N.xE m.epoch ++ [m.why] else N.xE m.dev ++ N.xE m.epoch ++ jA m.have_
structure FitM (m:TMsg):Prop where
 ok:OkM m
 try_:0 <= m.try_ /\ m.try_ <= 18446744073709551615
 epoch:0 <= m.epoch /\ m.epoch <= 18446744073709551615
 have_:(∀ p ∈ m.have_,p.dev <= 65535) /\ m.have_.length <= 10000 /\ C.xB m.have_ <= 10000
 front:(∀ p ∈ m.front,p.dev <= 65535) /\ m.front.length <= 10000 /\ C.xB m.front <= 10000
 from_:(∀ p ∈ m.delta.from_,p.dev <= 65535) /\ m.delta.from_.length <= 10000 /\ C.xB m.delta.from_ <= 10000
 to_:(∀ p ∈ m.delta.to_,p.dev <= 65535) /\ m.delta.to_.length <= 10000 /\ C.xB m.delta.to_ <= 10000
 evs:m.delta.events.length <= 10000 /\ ∀ e ∈ m.delta.events,e.text.size <= 200
theorem QQ {d:DL} (hd:F.OkD d) (h1:∀ p ∈ d.from_,p.dev <= 65535) (h2:∀ p ∈ d.to_,p.dev <= 65535) (s1:d.from_.length <= 10000 /\ C.xB d.from_ <= 10000) (s2:d.to_.length <= 10000 /\ C.xB d.to_ <= 10000) (hl:d.events.length <= 10000) (ht:∀ e ∈ d.events,e.text.size <= 200) (row:List Int) (hr:row.length <= 100000000) :
  yJ d row = pure (row ++ VA d) /\ wj row d = pure (row ++ VA d) /\ (VA d).length <= 1000000000:=by
 have e1:=G.xZ h1 (by omega) (by omega);have e2:=G.xZ h2 (by omega) (by omega);have e3:=E.Ud hd.evs (fun e he=>⟨hd.kills e he,ht e he⟩);have e4:=N.zR (v:=(d.events.length:Int)) (by omega);refine ⟨?_,?_,by unfold VA YE;simp only [List.length_append];omega⟩
 ·unfold yJ;rw [D.WK hd.from_ h1 (by omega) row (by omega),zB,zA,D.WK hd.to_ h2 (by omega) _ (by rw [List.length_append];omega),zB,zA,E.QL hd.evs (by omega) _ (by simp only [List.length_append];omega),zB,zA];unfold VA;simp only [List.append_assoc]
 ·unfold wj;rw [D.Yh hd.from_ h1 (by omega) row (by omega),zB,zA,D.Yh hd.to_ h2 (by omega) _ (by rw [List.length_append];omega),zB,zA,E.jd hd.evs (by omega) _ (by simp only [List.length_append];omega),zB,zA];unfold VA;simp only [List.append_assoc]
theorem kinds {k:Int} (h:1 <= k /\ k <= 9):k = 1 \/ k = 2 \/ k = 3 \/ k = 4 \/ k = 5 \/ k = 6 \/ k = 7 \/ k = 8 \/ k = 9:=by omega
theorem by_evs {l:List EV} (h:∀ e ∈ l,OkE e) (hl:l.length <= 1000000000):N.By (YE l):=by
 refine (N.vD (by omega)).app fun y hy=>?_
 obtain ⟨e,he,hy2⟩:=List.mem_flatMap.1 hy;have ho:=h e he;have b1:N.By (D.encD e.dot):=(N.vD (by have:=ho.dot.d1;omega)).app (N.vD ho.dot.n1);have b2:N.By [e.kind]:=fun x hx=>by rw [List.mem_singleton.1 hx];exact ho.kind
 have b3:N.By [e.field]:=fun x hx=>by rw [List.mem_singleton.1 hx];exact ho.field
 have ht:=ho.text;have hk:=ho.klen;have b4:N.By (E.wta e.text):=(N.vD (by omega)).app (E.by_bytes _);have b5:N.By (D.WH e.kills):=by
  rw [D.WH];refine (N.vD (by have:=D.WI e.kills;omega)).app fun z hz=>?_
  obtain ⟨d,hd,h⟩:=List.mem_flatMap.1 hz;have hd2:=ho.kills d (D.yQa.1 hd).1;exact ((N.vD (by have:=hd2.d1;omega)).app (N.vD hd2.n1)) z h
 exact (b1.app (b2.app ((N.vD ho.cid.2).app (b3.app (b4.app b5))))) y hy2
theorem yaa {c:List PT} (h:∀ p ∈ c,p.dev <= 65535) (hl:c.length <= 10000 /\ C.xB c <= 10000):N.By (jA c):=
 D.by_encC c (D.Vg h) ⟨by have:=C.uB c;omega,by have:=C.uC c;omega⟩
theorem by_okB {l:List Int} (h:N.By l):okB l:=fun x hx=>by have:=h x hx;omega
theorem Jz {m:TMsg} (h:FitM m):N.By (VB m) /\ (VB m).length <= 1000000000:=by
 have o:=h.ok;have hs:N.By [m.slot]:=fun x hx=>by rw [List.mem_singleton.1 hx];exact o.slot
 have hw:N.By [m.why]:=fun x hx=>by rw [List.mem_singleton.1 hx];exact o.why
 have h1:=N.vD h.try_.2;have h2:=N.vD h.epoch.2;have h3:N.By (N.xE m.dev):=N.vD (by have:=o.dev;omega);have h4:=yaa h.have_.1 h.have_.2;have h5:=yaa h.front.1 h.front.2;have h6:=by_evs o.delta.evs (by have:=h.evs.1;omega);have h7:N.By (VA m.delta):=((yaa h.from_.1 h.from_.2).app (yaa h.to_.1 h.to_.2)).app h6;have l1:=N.zR h.try_.2;have l2:=N.zR h.epoch.2;have l3:=N.zR (v:=m.dev) (by have:=o.dev;omega);have l4:=G.xZ h.have_.1 (by have:=h.have_.2;omega) (by have:=h.have_.2;omega);have l5:=G.xZ h.front.1 (by have:=h.front.2;omega) (by have:=h.front.2;omega);have l6:=E.Ud o.delta.evs (fun e he=>⟨o.delta.kills e he,h.evs.2 e he⟩);have l7:=N.zR (v:=(m.delta.events.length:Int)) (by have:=h.evs.1;omega);have l8:=G.xZ h.from_.1 (by have:=h.from_.2;omega) (by have:=h.from_.2;omega);have l9:=G.xZ h.to_.1 (by have:=h.to_.2;omega) (by have:=h.to_.2;omega);have lq:=h.evs.1;unfold VB
 constructor
 ·repeat' split
  ·exact hs.app h1
  ·exact (((hs.app h1).app h3).app h2).app h7
  ·exact ((h3.app h2).app h7).app h5
  ·exact ((h3.app h2).app h4).app h6
  ·exact h3.app h2
  ·exact (h3.app h2).app hw
  ·exact (h3.app h2).app h4
 ·repeat' split
  all_goals
   simp only [VA,YE,List.length_append,List.length_cons,List.length_nil];omega
theorem yba {m:TMsg} (h:FitM m) (hk:1 <= m.kind /\ m.kind <= 9) (hg:uO m = pure true):yQ m = pure (QP m.kind (VB m),0) /\ VU m = pure (VB m):=by
 have o:=h.ok;have hd:IntKind.u64.wrap m.dev = m.dev:=Xu (by have:=o.dev;omega) (by have:=o.dev;omega);have l1:=N.zR h.try_.2;have l2:=N.zR h.epoch.2;have l3:=N.zR (v:=m.dev) (by have:=o.dev;omega);have l4:=G.xZ h.have_.1 (by have:=h.have_.2;omega) (by have:=h.have_.2;omega);have l5:=G.xZ h.front.1 (by have:=h.front.2;omega) (by have:=h.front.2;omega);have l6:=E.Ud o.delta.evs (fun e he=>⟨o.delta.kills e he,h.evs.2 e he⟩);have lq:=h.evs.1;have hD:=QQ o.delta h.from_.1 h.to_.1 h.from_.2 h.to_.2 h.evs.1 h.evs.2;have l7:=(hD [] (by simp)).2.2;have l8:(YE m.delta.events).length <= 100000000:=by
  have:=N.zR (v:=(m.delta.events.length:Int)) (by omega);unfold YE;rw [List.length_append];omega
 have eT:∀ row:List Int,row.length <= 10000000000000 -> zG m.try_ row = pure (row ++ N.xE m.try_):=fun row hr=>N.xr row h.try_.1 h.try_.2 hr
 have eE:∀ row:List Int,row.length <= 10000000000000 -> zG m.epoch row = pure (row ++ N.xE m.epoch):=fun row hr=>N.xr row h.epoch.1 h.epoch.2 hr
 have eV:∀ row:List Int,row.length <= 10000000000000 -> zG m.dev row = pure (row ++ N.xE m.dev):=fun row hr=>N.xr row o.dev.1 (by have:=o.dev;omega) hr
 have rT:∀ row:List Int,row.length <= 10000000000000 -> zc row m.try_ = pure (row ++ N.xE m.try_):=fun row hr=>N.zy row h.try_.1 h.try_.2 hr
 have rE:∀ row:List Int,row.length <= 10000000000000 -> zc row m.epoch = pure (row ++ N.xE m.epoch):=fun row hr=>N.zy row h.epoch.1 h.epoch.2 hr
 have rV:∀ row:List Int,row.length <= 10000000000000 -> zc row m.dev = pure (row ++ N.xE m.dev):=fun row hr=>N.zy row o.dev.1 (by have:=o.dev;omega) hr
 have eH:∀ row:List Int,row.length <= 100000000000 -> zk m.have_ row = pure (row ++ jA m.have_):=fun row hr=>D.WK o.have_ h.have_.1 (by have:=h.have_.2;omega) row hr
 have rH:∀ row:List Int,row.length <= 100000000000 -> yt row m.have_ = pure (row ++ jA m.have_):=fun row hr=>D.Yh o.have_ h.have_.1 (by have:=h.have_.2;omega) row hr
 have eF:∀ row:List Int,row.length <= 100000000000 -> zk m.front row = pure (row ++ jA m.front):=fun row hr=>D.WK o.front h.front.1 (by have:=h.front.2;omega) row hr
 have rF:∀ row:List Int,row.length <= 100000000000 -> yt row m.front = pure (row ++ jA m.front):=fun row hr=>D.Yh o.front h.front.1 (by have:=h.front.2;omega) row hr
 have eA:∀ row:List Int,row.length <= 400000000 -> yc m.delta.events row = pure (row ++ YE m.delta.events):=fun row hr=>E.QL o.delta.evs (by omega) row (by omega)
 have rA:∀ row:List Int,row.length <= 400000000 -> vY row m.delta.events = pure (row ++ YE m.delta.events):=fun row hr=>E.jd o.delta.evs (by omega) row (by omega)
 have eD:∀ row:List Int,row.length <= 100000000 -> yJ m.delta row = pure (row ++ VA m.delta):=fun row hr=>(hD row hr).1
 have rD:∀ row:List Int,row.length <= 100000000 -> wj row m.delta = pure (row ++ VA m.delta):=fun row hr=>(hD row hr).2.1
 have eB:∀ (c:Int) (row:List Int),row.length <= 10000000000000 -> zg c row = pure (row ++ [c]):=fun c row hr=>N.Jq c row hr
 have eY:∀ row:List Int,row.length <= 100000000000000 -> yH row = pure (row,row):=fun row hr=>N.Bytes_eq row hr
 have eS:=Seal_eq m.kind (VB m) ⟨by omega,by omega⟩ (by_okB (Jz h).1) (Jz h).2;unfold yQ VU;rw [hg,zB,zA];have hb:=VB m;unfold VB at eS ⊢;rcases kinds hk with e | e | e | e | e | e | e | e | e
 all_goals
  simp (disch:=first | omega | (simp only [List.length_append,List.length_cons,List.length_nil];omega)) only [e,hd,eB,eT,eE,eV,eH,eF,eA,eD,eY,rT,rE,rV,rH,rF,rA,rD,Int.reduceEq,Int.reduceLE,decide_true,decide_false,Bool.not_true,Bool.not_false,cond_true,cond_false,zA,zB,if_true,if_false,zD,List.nil_append,List.append_assoc] at eS ⊢;exact ⟨by rw [eS,zB,zA],trivial⟩
def xFa (b:Bool) (m:TMsg):List Int × Int:=if b = true then (QP m.kind (VB m),0) else ([],1)
theorem w4a {m:TMsg} (h:FitM m) {b:Bool} (hb:wW m = pure b):yQ m = pure (xFa b m) /\ ui m = pure (xFa b m):=by
 have hm:uO m = pure b:=by rw [F.w0a h.ok,hb]
 cases b with
 | false=>
  refine ⟨?_,?_⟩
  ·unfold yQ;rw [hm,zB];rfl
  ·unfold ui;rw [hb,zB];rfl
 | true=>
  have hk:=Ui hb;obtain ⟨e1,e2⟩:=yba h hk hm;refine ⟨e1,?_⟩;unfold ui;rw [hb,zB,zA,e2,zB];show (det (Xg m.kind (VB m))).bind _ = _;rw [rSeal_eq m.kind (VB m) ⟨by omega,by omega⟩ (by_okB (Jz h).1) (Jz h).2,zB]
  rfl
def zca : TMsg:=⟨8,0,0,1,2,0,[],[],⟨[],[],[]⟩⟩
theorem fit_bye : FitM zca where
 ok:=F.okM (m:=zca) ⟨by decide,by decide,by decide,by decide,by simp [zca],by simp [zca],by simp [zca],by simp [zca],by simp [zca]⟩ (by decide)
 try_:=by decide
 epoch:=by decide
 have_:=⟨by simp [zca],by decide,by decide⟩
 front:=⟨by simp [zca],by decide,by decide⟩
 from_:=⟨by simp [zca],by decide,by decide⟩
 to_:=⟨by simp [zca],by decide,by decide⟩
 evs:=⟨by decide,by simp [zca]⟩
theorem good_bye : uO zca = pure true:=by
 unfold uO;simp only [F.QN,F.wza,zB,zA]
 rfl
theorem w5a : vj = pure true:=by
 unfold vj;have e:=(yba fit_bye (by decide) good_bye).1;show (det (yQ zca)).bind _ = _;rw [e,zB,zA];have e1:N.xE 1 = [1,1]:=by
  show (N.WG 1:Int) :: N.be 1 (N.WG 1) = _;have:N.WG 1 = 1:=by rw [N.Zg (by decide),show 1 / 256 = 0 from rfl,N.uq]
  rw [this];rfl
 have e2:N.xE 2 = [1,2]:=by
  show (N.WG 2:Int) :: N.be 2 (N.WG 2) = _;have:N.WG 2 = 1:=by rw [N.Zg (by decide),show 2 / 256 = 0 from rfl,N.uq]
  rw [this];rfl
 have eb:VB zca = [1,1,1,2]:=by
  show N.xE 1 ++ N.xE 2 = _;rw [e1,e2];rfl
 rw [eb];show (M.yY ((0:Int) <= 0 /\ (0:Int) <= 5 /\ (5:Int) <= ((QP 8 [1,1,1,2]).length:Int)) ((det (vi ((QP 8 [1,1,1,2]).take 5) [8,1,1,1,2])).bind pure)).bind pure = _;have hq:vi ((QP 8 [1,1,1,2]).take 5) [8,1,1,1,2] = pure true:=by
  show pure (decide (Qb [8,1,1,1,2] = Qb [8,1,1,1,2])) = _;rw [decide_eq_true rfl]
 rw [zD ⟨by decide,by decide,by show (5:Int) <= ((9:Nat):Int);decide⟩,hq,zB]
 rfl
theorem mcodeWrites_eq (m:TMsg) (hi:InM m) (ht:0 <= m.try_ /\ m.try_ <= 18446744073709551615) (he:0 <= m.epoch /\ m.epoch <= 18446744073709551615)
  (h1:∀ p ∈ m.have_,p.dev <= 65535) (h2:∀ p ∈ m.front,p.dev <= 65535) (h3:∀ p ∈ m.delta.from_,p.dev <= 65535) (h4:∀ p ∈ m.delta.to_,p.dev <= 65535):xn m = pure true:=by
 unfold xn;rw [F.fewM_eq,zB,zA]
 cases hf:fewM m with
 | false=>show (det vj).bind _ = _;rw [w5a,zB];rfl
 | true=>
  have ok:=F.okM hi hf;have hf2:=hf;simp only [fewM,Bool.and_eq_true] at hf2;obtain ⟨f1,f2,f3,f4,f5⟩:=hf2;obtain ⟨g1,g2⟩:=E.wsa f5;have t1:=C.YB f1;have t2:=C.YB f2;have t3:=C.YB f3;have t4:=C.YB f4;have fit:FitM m:=⟨ok,ht,he,⟨h1,by omega,by omega⟩,⟨h2,by omega,by omega⟩,⟨h3,by omega,by omega⟩,⟨h4,by omega,by omega⟩,by omega,fun e he=>(g2 e he).2⟩
  obtain ⟨b,hb⟩:=F.w1a ok;obtain ⟨e1,e2⟩:=w4a fit hb;show (det (yQ m)).bind _ = _;rw [e1,zB,zA,e2,zB,zA];have eq:vi (xFa b m).1 (xFa b m).1 = pure true:=by
   unfold vi;rw [decide_eq_true rfl]
  rw [eq,zB,zA];show (cond (decide ((xFa b m).2 = (xFa b m).2)) ((det vj).bind _) _).bind _ = _;rw [decide_eq_true rfl,w5a,zB]
  rfl
end Go.Ep.M.U

namespace Go.Ep
open Go.RowKit Go.ChangeShapes Go.WideShapes

abbrev All : Nat -> Prop:=fun _=>True

mutual
def jf {H:Type}:DataW H -> Nat
 | .lit (.string bytes)=>bytes.length + 1
 | .lit _=>1
 | .nil=>1
 | .ptr d=>jf d + 1
 | .slice elems spare=>wP elems + wP spare + 1
 | .agg parts=>wP parts + 1
 | .iface _ d=>jf d + 1
 | .map entries=>Uj entries + 1
 | .held _=>1
def wP {H:Type}:List (DataW H) -> Nat
 | []=>0
 | d :: r=>jf d + wP r
def Uj {H:Type}:List (Lit × DataW H) -> Nat
 | []=>0
 | x :: r=>w6a x + Uj r
def w6a {H:Type}:Lit × DataW H -> Nat
 | (.string bytes,d)=>bytes.length + jf d + 1
 | (_,d)=>jf d + 1
end
theorem yca {H:Type} (d:DataW H):1 <= jf d:=by
 cases d with
 | lit l=>cases l <;> simp [jf]
 | nil=>simp [jf]
 | ptr d=>simp [jf]
 | slice elems spare=>simp [jf]
 | agg parts=>simp [jf]
 | iface t d=>simp [jf]
 | map entries=>simp [jf]
 | held h=>simp [jf]
theorem zda {H:Type} (l r:List (DataW H)):wP (l ++ r) = wP l + wP r:=by
 induction l with
 | nil=>simp [wP]
 | cons x l ih=>simp only [List.cons_append,wP,ih];omega
def szL {α:Type} (sz:α -> Nat):List α -> Nat
 | []=>0
 | a :: r=>sz a + szL sz r
theorem szL_app {α:Type} (sz:α -> Nat) (l r:List α):szL sz (l ++ r) = szL sz l + szL sz r:=by
 induction l with
 | nil=>simp [szL]
 | cons x l ih=>simp only [List.cons_append,szL,ih];omega
structure Opn (P:Program) (t:TypeId) (k:Nat) {α:Type} (enc:α -> List DV) (ok:α -> Prop) (sz:α -> Nat):Prop where
 cells:P.cellsOf t = k
 op:∀ {H:Type} {en:TypeId × Value -> H} {w:World} {fuel:Nat} {cs:List Value} {x:DataW H × List MemPlace},DataW.trod en P w 0 (fun _=>true) true fuel t cs = some x ->
  ∃ a,ok a /\ cs.length = k /\ (enc a).length = k /\ (∀ (j:Nat) (y:DV) (u:Value),(enc a)[j]? = some y -> cs[j]? = some u -> DRd w All y u) /\ sz a <= jf x.1

section
variable {P:Program} {t:TypeId}

theorem Opn.map {k:Nat} {α β:Type} {enc:α -> List DV} {enc':β -> List DV} {ok:α -> Prop} {ok':β -> Prop} {sz:α -> Nat} {sz':β -> Nat} (h:Opn P t k enc ok sz) (f:α -> β) (he:∀ a,ok a -> enc' (f a) = enc a) (ho:∀ a,ok a -> ok' (f a)) (hz:∀ a,sz' (f a) <= sz a):Opn P t k enc' ok' sz':=
 ⟨h.cells,fun hx=>let ⟨a,h1,h2,h3,h4,h5⟩:=h.op hx;⟨f a,ho a h1,h2,by rw [he a h1];exact h3,by rw [he a h1];exact h4,Nat.le_trans (hz a) h5⟩⟩

theorem qA {w:World} {y:DV} {u:Value} (h:DRd w All y u):∀ (j:Nat) (y':DV) (u':Value),[y][j]? = some y' -> [u][j]? = some u' -> DRd w All y' u':=by
 intro j y' u' h1 h2
 cases j with
 | zero=>simp at h1 h2;subst h1;subst h2;exact h
 | succ j=>simp at h1

def okK (k:IntKind) (n:Int):Prop:=(Lit.int k n).wf = true
theorem Opn.int {k:IntKind} (hu:P.underlying t = some (.int k)) (hc:P.cellsOf t = 1):Opn P t 1 (eK k) (okK k) (fun _=>1):=by
 refine ⟨hc,fun {H en w fuel cs x} h=>?_⟩
 cases fuel with
 | zero=>simp [DataW.trod] at h
 | succ fuel=>
  unfold DataW.trod at h;rw [hu] at h
  split at h <;> simp_all
  case h_2 n _=>
   obtain ⟨⟨h1,h2⟩,_⟩:=h;subst h1;refine ⟨n,h2,rfl,?_,yca _⟩;intro j y u h1 h3;exact qA (.v _ rfl) j y u h1 h3
theorem w7a {n:Int} (h:okK .u64 n):0 <= n /\ n < 18446744073709551616:=by
 simp [okK,Lit.wf,IntKind.min,IntKind.max,IntKind.signed,IntKind.bits] at h;omega
theorem Uk {n:Int} (h:okK .u16 n):0 <= n /\ n < 65536:=by
 simp [okK,Lit.wf,IntKind.min,IntKind.max,IntKind.signed,IntKind.bits] at h;omega
theorem okU8 {n:Int} (h:okK .u8 n):0 <= n /\ n < 256:=by
 simp [okK,Lit.wf,IntKind.min,IntKind.max,IntKind.signed,IntKind.bits] at h;omega
theorem Opn.str (hu:P.underlying t = some .string) (hc:P.cellsOf t = 1):Opn P t 1 eS (fun s=>s.size <= 9223372036854775807) (fun s=>s.size + 1):=by
 refine ⟨hc,fun {H en w fuel cs x} h=>?_⟩
 cases fuel with
 | zero=>simp [DataW.trod] at h
 | succ fuel=>
  unfold DataW.trod at h;rw [hu] at h
  split at h <;> simp_all
  case h_4=>
   rename_i s
   obtain ⟨h1,h2⟩:=h;refine ⟨s,by have:=h1;unfold maxLen at this;exact this,rfl,?_,?_⟩
   ·intro j y u h1 h2;exact qA (.v _ rfl) j y u h1 h2
   ·subst h2;have e:s.data.toList.length = s.size:=Array.length_toList;show s.size + 1 <= jf (DataW.lit (Lit.string s.data.toList));unfold jf;omega

theorem Opn.slice {e:TypeId} {k:Nat} {α:Type} {enc:α -> List DV} {ok:α -> Prop} {sz:α -> Nat} (h:Opn P e k enc ok sz) (hu:P.underlying t = some (.slice e)) (hc:P.cellsOf t = 1) (hk:0 < k) :
  Opn P t 1 (eL enc) (fun l=>l.length <= 9223372036854775807 /\ ∀ a ∈ l,ok a) (fun l=>szL sz l + 1):=by
 refine ⟨hc,fun {H en w fuel cs x} hx=>?_⟩;rcases Deep.open_slice hu hx with ⟨rfl,_⟩ | ⟨a,len,cap,m,n,D,Pl,rfl,_,hl,hm,hmm,hxD,hel⟩
 ·exact ⟨[],⟨Nat.zero_le _,by simp⟩,rfl,rfl,qA (.nil none 0 (Nat.zero_le _) (fun _=>rfl)),yca _⟩
 simp only [if_true] at hmm;subst hmm;rw [h.cells] at hel;have hcut:∀ n0,n0 <= len -> ∃ l:List α,l.length = n0 /\ (∀ a ∈ l,ok a) /\ szL sz l <= wP ((List.range n0).map D) /\ ∀ (i:Nat) (b:α),l[i]? = some b -> (enc b).length = k /\ ∀ (j:Nat) (y:DV),(enc b)[j]? = some y -> ∃ u,w.cell? (a.add (i * k + j)) = some u /\ DRd w All y u:=by
  intro n0
  induction n0 with
  | zero=>intro _;exact ⟨[],rfl,by simp,by simp [szL],by simp⟩
  | succ n0 ih=>
   intro hn;obtain ⟨l,h1,h2,hz,h3⟩:=ih (by omega);obtain ⟨cs',hc',ht'⟩:=hel n0 (by omega);obtain ⟨b,hb1,hb2,hb3,hb4,hb5⟩:=h.op ht';obtain ⟨_,_,hcell⟩:=World.cells?_some hc';refine ⟨l ++ [b],by simp [h1],?_,by rw [szL_app,List.range_succ,List.map_append,zda];simp only [szL,List.map_cons,List.map_nil,wP];simp only at hb5;omega,?_⟩
   ·intro a ha;rcases List.mem_append.1 ha with ha | ha
    ·exact h2 a ha
    ·simp at ha;subst ha;exact hb1
   ·intro i b' hi;rw [List.getElem?_append] at hi
    split at hi
    ·exact h3 i b' hi
    ·rename_i hge
     have hi0:i = n0:=by
      have:i - l.length < 1:=by simpa using (List.getElem?_eq_some_iff.1 hi).1
      omega
     subst hi0;simp [h1] at hi;subst hi;refine ⟨hb3,fun j y hy=>?_⟩;have hj:j < k:=by rw [<- hb3];exact (List.getElem?_eq_some_iff.1 hy).1
     have hcj:=hcell j hj;rw [Deep.add_add] at hcj;have hu':cs'[j]? = some (cs'[j]'(by omega)):=List.getElem?_eq_getElem (by omega);exact ⟨_,by rw [hcj,hu'],hb4 j y _ hy hu'⟩
 obtain ⟨l,h1,h2,hz,h3⟩:=hcut len (Nat.le_refl _);refine ⟨l,⟨by unfold maxLen at hm;omega,h2⟩,rfl,rfl,qA ?_,?_⟩
 rotate_left
 ·rw [hxD];simp only [jf];omega
 by_cases h0:len = 0
 ·have:l = []:=List.eq_nil_of_length_eq_zero (by omega);subst this;subst h0;exact .nil _ _ hm (fun e=>by cases e)
 ·-- the first cell tells that the address is a plain one
  have hl0:0 < l.length:=by omega
  obtain ⟨hk0,hc0⟩:=h3 0 _ (List.getElem?_eq_getElem hl0);obtain ⟨u0,hu0,_⟩:=hc0 0 _ (List.getElem?_eq_getElem (by omega:0 < (enc l[0]).length));have hspot:a.spot = none:=by simpa [Addr.add] using World.cell?_spot hu0
  obtain ⟨b,off,spot⟩:=a;simp only at hspot;subst hspot;have hb:b < w.heap.size:=by
   rw [Addr.add_lit] at hu0;unfold World.cell? at hu0
   cases hh:w.heap[b]? with
   | none=>simp [hh] at hu0
   | some o=>exact (Array.getElem?_eq_some_iff.1 hh).1
  have hlen:(l.map enc).length = len:=by simp [h1]
  rw [<- hlen];refine .sl _ b off m k (fun i j=>(w.cell? ⟨b,off + (i * k + j),none⟩).getD undef) (by omega) hm trivial hb ?_ ?_ ?_
  ·intro i cs hi;rw [List.getElem?_map] at hi
   cases hx:l[i]? with
   | none=>simp [hx] at hi
   | some y=>simp [hx] at hi;subst hi;exact (h3 i y hx).1
  ·intro i j hi hj;have hil:i < l.length:=by simpa using hi
   obtain ⟨e1,e2⟩:=h3 i _ (List.getElem?_eq_getElem hil);obtain ⟨u,hu,_⟩:=e2 j _ (List.getElem?_eq_getElem (by omega:j < (enc l[i]).length));rw [Addr.add_lit] at hu;simp [hu]
  ·intro i cs j x hi hx;rw [List.getElem?_map] at hi
   cases hy:l[i]? with
   | none=>simp [hy] at hi
   | some y=>
    simp [hy] at hi;subst hi;obtain ⟨u,hu,hd⟩:=(h3 i y hy).2 j x hx;rw [Addr.add_lit] at hu;simpa [hu] using hd

structure OpnF (P:Program) (fs:List Field) (off k:Nat) {α:Type} (enc:α -> List DV) (ok:α -> Prop) (sz:α -> Nat):Prop where
 op:∀ {H:Type} {en:TypeId × Value -> H} {w:World} {n:Nat} {cs:List Value} {xs:List (DataW H × List MemPlace)},xs.length = fs.length ->
  (∀ (i:Nat) (f:Field),fs[i]? = some f -> DataW.trod en P w 0 (fun _=>true) true n f.type ((cs.drop f.offset).take (P.cellsOf f.type)) = xs[i]?) ->
  ∃ a,ok a /\ (enc a).length = k /\ (∀ (j:Nat) (y:DV) (u:Value),(enc a)[j]? = some y -> cs[off + j]? = some u -> DRd w All y u) /\ sz a <= wP (xs.map (·.1))

theorem OpnF.nil (off:Nat):OpnF P [] off 0 (fun _:Unit=>[]) (fun _=>True) (fun _=>0):=⟨fun _ _=>⟨(),trivial,rfl,by simp,Nat.zero_le _⟩⟩
theorem OpnF.cons {f:Field} {fs:List Field} {off k1 k2:Nat} {α β:Type} {e1:α -> List DV} {o1:α -> Prop} {e2:β -> List DV} {o2:β -> Prop} {z1:α -> Nat} {z2:β -> Nat} (h1:Opn P f.type k1 e1 o1 z1) (ho:f.offset = off) (h2:OpnF P fs (off + k1) k2 e2 o2 z2) :
  OpnF P (f :: fs) off (k1 + k2) (fun p:α × β=>e1 p.1 ++ e2 p.2) (fun p=>o1 p.1 /\ o2 p.2) (fun p=>z1 p.1 + z2 p.2):=by
 refine ⟨fun {H en w n cs xs} hlen hx=>?_⟩
 cases xs with
 | nil=>simp at hlen
 | cons x xs=>
  have hx0:=hx 0 f rfl;simp only [List.getElem?_cons_zero] at hx0;obtain ⟨a,ha1,ha2,ha3,ha4,ha5⟩:=h1.op hx0;obtain ⟨b,hb1,hb2,hb3,hb4⟩:=h2.op (xs:=xs) (by simpa using hlen) (fun i f' hf=>by have:=hx (i + 1) f' (by simpa using hf);simpa using this);refine ⟨(a,b),⟨ha1,hb1⟩,by simp [ha3,hb2],?_,by simp only [List.map_cons,wP];omega⟩;intro j y u hy hu;simp only [List.getElem?_append] at hy
  by_cases hj:j < k1
  ·rw [if_pos (by omega)] at hy;refine ha4 j y u hy ?_;rw [List.getElem?_take,h1.cells,if_pos hj,List.getElem?_drop,ho];exact hu
  ·rw [if_neg (by omega),ha3] at hy;refine hb3 (j - k1) y u hy ?_;rw [<- hu]
   congr 1
   omega
theorem Opn.struct {fs:List Field} {k:Nat} {α:Type} {enc:α -> List DV} {ok:α -> Prop} {sz:α -> Nat} (hu:P.underlying t = some (.struct fs.toArray)) (hc:P.cellsOf t = k) (h:OpnF P fs 0 k enc ok sz):Opn P t k enc ok (fun a=>sz a + 1):=by
 refine ⟨hc,fun {H en w fuel cs x} hx=>?_⟩;obtain ⟨xs,n,_,hxe,hlen,hxl,hf⟩:=DataW.trod_struct hu hx;obtain ⟨a,h1,h2,h3,h4⟩:=h.op (cs:=cs) (xs:=xs) (by simpa using hxl) (fun i f hi=>hf i f (by simpa using hi));exact ⟨a,h1,by rw [hlen,hc],h2,fun j y u hy hu=>h3 j y u hy (by simpa using hu),by rw [hxe];simp only [jf];omega⟩

theorem Opn.argAgg {H:Type} {en:TypeId × Value -> H} {w:World} {us:Array Value} {d:DataW H} {ps:List MemPlace} {k:Nat} {α:Type} {enc:α -> List DV} {ok:α -> Prop} {sz:α -> Nat} (h:Opn P t k enc ok sz)
  (hx:DataW.Trod en P w 0 (fun _=>true) true t (.agg us) d ps):∃ a,ok a /\ Rd w g0 All (.agg (List.map .d (enc a))) (.agg us) /\ sz a <= jf d:=by
 obtain ⟨fuel,hf⟩:=hx;obtain ⟨a,ha,hl,hel,hr,hz⟩:=h.op hf;have hcs:(Value.agg us).cells.toList = us.toList:=rfl;rw [hcs] at hl hr;refine ⟨a,ha,?_,hz⟩;have key:∀ (i:Nat) (y:DV) (u:Value),(enc a)[i]? = some y -> us.toList[i]? = some u -> DRd w All y u:=hr;have:=Rd.agg (w:=w) (g:=g0) (S:=All) ((enc a).map .d) us.toList (by simp [hel,hl]) (fun i p u hp hu=>by
  rw [List.getElem?_map] at hp
  cases hy:(enc a)[i]? with
  | none=>simp [hy] at hp
  | some y=>simp [hy] at hp;subst hp;exact .d (key i y u hy hu)) (fun u hu=>by
  obtain ⟨i,hi,rfl⟩:=List.getElem_of_mem hu;have hi2:i < (enc a).length:=by omega
  exact (key i _ _ (List.getElem?_eq_getElem hi2) (List.getElem?_eq_getElem hi)).one)
 simpa using this

theorem WL {H:Type} {en:TypeId × Value -> H} (hl:laidOutB P = true) {W W':World} (hb:Below W.heap.size W W'):∀ {ts:List TypeId} {vs:List Value} {ds:List (DataW H)} {ps:List MemPlace},
  (∀ t ∈ ts,P.readableRec t = true /\ t < P.types.size) -> DataW.TrodAll en P W 0 (fun _=>true) true ts vs ds ps -> (∀ x ∈ ps,x.block < W.heap.size) -> DataW.TrodAll en P W' 0 (fun b=>decide (b < W.heap.size)) true ts vs ds ps
 | [],[],[],ps,_,h,_=>h
 | t :: ts,v :: vs,d :: ds,ps,hr,h,hlt=>by
  obtain ⟨p,q,h1,h2,rfl⟩:=h;have hrt:=hr t (by simp);exact ⟨p,q,Below.trod hl hrt.1 hrt.2 h1 hb (fun x hx=>hlt x (List.mem_append.2 (.inl hx))),WL hl hb (fun t ht=>hr t (by simp [ht])) h2 (fun x hx=>hlt x (List.mem_append.2 (.inr hx))),rfl⟩
 | [],[],_ :: _,_,_,h,_=>h.elim
 | [],_ :: _,_,_,_,h,_=>h.elim
 | _ :: _,[],_,_,_,h,_=>h.elim
 | _ :: _,_ :: _,[],_,_,h,_=>h.elim
theorem Ul {H:Type} {en:TypeId × Value -> H} {w:World} {base:Nat} {sp:Nat -> Bool} {hd:Bool}:∀ {ts:List TypeId} {vs:List Value} {ds:List (DataW H)} {ps:List MemPlace},DataW.TrodAll en P w base sp hd ts vs ds ps -> ds.length = ts.length
 | [],[],[],_,_=>rfl
 | _ :: _,_ :: _,_ :: _,_,h=>by
  obtain ⟨_,_,_,h2,_⟩:=h;simp [Ul h2]
 | [],[],_ :: _,_,h=>h.elim
 | [],_ :: _,_,_,h=>h.elim
 | _ :: _,[],_,_,h=>h.elim
 | _ :: _,_ :: _,[],_,h=>h.elim

theorem w8a {H:Type} {en:TypeId × Value -> H} {fn:Func} {s:ChangeSpec} {tb:TypeId} {W W':World} {args:Array Value} {ds gs:List (DataW H)} {before:List MemPlace} (hl:laidOutB P = true)
  (hW:DataW.Whole en P fn.params.toList s.vars false W args.toList ds gs before) (hv:s.vars = []) (hs:∀ ds:List (DataW H),ds.length = fn.params.size -> (s.fn H ds).results = [.lit (.bool true)] /\ (s.fn H ds).args = ds /\ (s.fn H ds).vars = [])
  (hres:fn.resultTypes = #[tb]) (htb:P.underlying tb = some .bool) (hr:∀ t ∈ fn.params.toList,P.readableRec t = true /\ t < P.types.size) (hb:Below W.heap.size W W') :
  s.post en P fn false true false false W args (.bool true) W':=by
 have hW':=hW;obtain ⟨p,q,hA,hV,hpq,hfz,hnd⟩:=hW;rw [hv] at hV;obtain ⟨rfl,rfl⟩:=trodVars_none hV;simp only [List.append_nil] at hpq;subst hpq;have hlt:∀ x ∈ before,x.block < W.heap.size:=fun x hx=>by simpa using hW'.lt x hx
 have hlen:ds.length = fn.params.size:=by simpa using Ul hA
 obtain ⟨e1,e2,e3⟩:=hs (ds ++ []) (by simpa using hlen);refine ⟨ds,[],before,[],before,[],hW',?_,?_,?_,hb.frame _,fun h=>by cases h⟩
 ·rw [e1,hres];exact trodAll_mk1 (shut_bool htb true)
 ·rw [e2,List.append_nil];exact WL hl hb hr hA hlt
 ·rw [e3,hv];rfl
end
end Go.Ep

namespace Go.Ep
set_option linter.unusedVariables false

def DT.ok (x:DT):Prop:=okK .u16 x.dev /\ okK .u64 x.n
def DT.sz (x:DT):Nat:=(1 + (1 + 0)) + 1
def RN.ok (x:RN):Prop:=okK .u64 x.lo /\ okK .u64 x.hi
def RN.sz (x:RN):Nat:=(1 + (1 + 0)) + 1
def PT.ok (x:PT):Prop:=okK .u16 x.dev /\ (x.runs.length <= 9223372036854775807 /\ ∀ a ∈ x.runs,RN.ok a)
def PT.sz (x:PT):Nat:=(1 + ((szL RN.sz x.runs + 1) + 0)) + 1
def EV.ok (x:EV):Prop:=DT.ok x.dot /\ okK .u8 x.kind /\ okK .u64 x.cid /\ okK .u8 x.field /\ ByteArray.size x.text <= 9223372036854775807 /\ (x.kills.length <= 9223372036854775807 /\ ∀ a ∈ x.kills,DT.ok a)
def EV.sz (x:EV):Nat:=(DT.sz x.dot + (1 + (1 + (1 + ((ByteArray.size x.text + 1) + ((szL DT.sz x.kills + 1) + 0)))))) + 1
def DL.ok (x:DL):Prop:=(x.from_.length <= 9223372036854775807 /\ ∀ a ∈ x.from_,PT.ok a) /\ (x.to_.length <= 9223372036854775807 /\ ∀ a ∈ x.to_,PT.ok a) /\ (x.events.length <= 9223372036854775807 /\ ∀ a ∈ x.events,EV.ok a)
def DL.sz (x:DL):Nat:=((szL PT.sz x.from_ + 1) + ((szL PT.sz x.to_ + 1) + ((szL EV.sz x.events + 1) + 0))) + 1
def TMsg.ok (x:TMsg):Prop:=okK .u8 x.kind /\ okK .u8 x.slot /\ okK .u64 x.try_ /\ okK .u16 x.dev /\ okK .u64 x.epoch /\ okK .u8 x.why /\ (x.have_.length <= 9223372036854775807 /\ ∀ a ∈ x.have_,PT.ok a) /\ (x.front.length <= 9223372036854775807 /\ ∀ a ∈ x.front,PT.ok a) /\ DL.ok x.delta
def TMsg.sz (x:TMsg):Nat:=(1 + (1 + (1 + (1 + (1 + (1 + ((szL PT.sz x.have_ + 1) + ((szL PT.sz x.front + 1) + (DL.sz x.delta + 0))))))))) + 1
end Go.Ep
namespace Go.Proofs
open Go.Ep
set_option maxRecDepth 100000
theorem opnTDot : Opn Tryz.prog 67 2 DT.e DT.ok DT.sz:=(Opn.struct Tryz.underlying67 (by kernel_rfl) (OpnF.cons (Opn.int Tryz.underlying23 (by kernel_rfl)) rfl (OpnF.cons (Opn.int Tryz.underlying22 (by kernel_rfl)) rfl (OpnF.nil _)))).map (fun p=>⟨p.1,p.2.1⟩) (fun _ _=>rfl) (fun p h=>⟨h.1,h.2.1⟩) (fun _=>Nat.le_refl _)
theorem opnTRun : Opn Tryz.prog 65 2 RN.e RN.ok RN.sz:=(Opn.struct Tryz.underlying65 (by kernel_rfl) (OpnF.cons (Opn.int Tryz.underlying22 (by kernel_rfl)) rfl (OpnF.cons (Opn.int Tryz.underlying22 (by kernel_rfl)) rfl (OpnF.nil _)))).map (fun p=>⟨p.1,p.2.1⟩) (fun _ _=>rfl) (fun p h=>⟨h.1,h.2.1⟩) (fun _=>Nat.le_refl _)
theorem opnTPart : Opn Tryz.prog 55 2 PT.e PT.ok PT.sz:=(Opn.struct Tryz.underlying55 (by kernel_rfl) (OpnF.cons (Opn.int Tryz.underlying23 (by kernel_rfl)) rfl (OpnF.cons (opnTRun.slice Tryz.underlying53 (by kernel_rfl) (by decide)) rfl (OpnF.nil _)))).map (fun p=>⟨p.1,p.2.1⟩) (fun _ _=>rfl) (fun p h=>⟨h.1,h.2.1⟩) (fun _=>Nat.le_refl _)
theorem opnTEvent : Opn Tryz.prog 70 7 EV.e EV.ok EV.sz:=(Opn.struct Tryz.underlying70 (by kernel_rfl) (OpnF.cons opnTDot rfl (OpnF.cons (Opn.int Tryz.underlying5 (by kernel_rfl)) rfl (OpnF.cons (Opn.int Tryz.underlying22 (by kernel_rfl)) rfl (OpnF.cons (Opn.int Tryz.underlying5 (by kernel_rfl)) rfl (OpnF.cons (Opn.str Tryz.underlying9 (by kernel_rfl)) rfl (OpnF.cons (opnTDot.slice Tryz.underlying68 (by kernel_rfl) (by decide)) rfl (OpnF.nil _)))))))).map (fun p=>⟨p.1,p.2.1,p.2.2.1,p.2.2.2.1,p.2.2.2.2.1,p.2.2.2.2.2.1⟩) (fun _ _=>rfl) (fun p h=>⟨h.1,h.2.1,h.2.2.1,h.2.2.2.1,h.2.2.2.2.1,h.2.2.2.2.2.1⟩) (fun _=>Nat.le_refl _)
theorem w9a : Opn Tryz.prog 28 3 DL.e DL.ok DL.sz:=(Opn.struct Tryz.underlying28 (by kernel_rfl) (OpnF.cons (opnTPart.slice Tryz.underlying25 (by kernel_rfl) (by decide)) rfl (OpnF.cons (opnTPart.slice Tryz.underlying25 (by kernel_rfl) (by decide)) rfl (OpnF.cons (opnTEvent.slice Tryz.underlying26 (by kernel_rfl) (by decide)) rfl (OpnF.nil _))))).map (fun p=>⟨p.1,p.2.1,p.2.2.1⟩) (fun _ _=>rfl) (fun p h=>⟨h.1,h.2.1,h.2.2.1⟩) (fun _=>Nat.le_refl _)
theorem opnTMsg : Opn Tryz.prog 30 11 TMsg.e TMsg.ok TMsg.sz:=(Opn.struct Tryz.underlying30 (by kernel_rfl) (OpnF.cons (Opn.int Tryz.underlying5 (by kernel_rfl)) rfl (OpnF.cons (Opn.int Tryz.underlying5 (by kernel_rfl)) rfl (OpnF.cons (Opn.int Tryz.underlying22 (by kernel_rfl)) rfl (OpnF.cons (Opn.int Tryz.underlying23 (by kernel_rfl)) rfl (OpnF.cons (Opn.int Tryz.underlying22 (by kernel_rfl)) rfl (OpnF.cons (Opn.int Tryz.underlying5 (by kernel_rfl)) rfl (OpnF.cons (opnTPart.slice Tryz.underlying25 (by kernel_rfl) (by decide)) rfl (OpnF.cons (opnTPart.slice Tryz.underlying25 (by kernel_rfl) (by decide)) rfl (OpnF.cons w9a rfl (OpnF.nil _))))))))))).map (fun p=>⟨p.1,p.2.1,p.2.2.1,p.2.2.2.1,p.2.2.2.2.1,p.2.2.2.2.2.1,p.2.2.2.2.2.2.1,p.2.2.2.2.2.2.2.1,p.2.2.2.2.2.2.2.2.1⟩) (fun _ _=>rfl) (fun p h=>⟨h.1,h.2.1,h.2.2.1,h.2.2.2.1,h.2.2.2.2.1,h.2.2.2.2.2.1,h.2.2.2.2.2.2.1,h.2.2.2.2.2.2.2.1,h.2.2.2.2.2.2.2.2.1⟩) (fun _=>Nat.le_refl _)
end Go.Proofs


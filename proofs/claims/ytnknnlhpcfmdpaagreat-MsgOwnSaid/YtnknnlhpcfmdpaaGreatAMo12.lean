/- Texts that the walks and laws lean on, side by side. -/
import Derived.ProofKit
import Derived.Deep.Slices
import Derived.Test.YtnknnlhpcfmdpaaGreatProg
import Derived.KernelRfl
import Derived.Test.YtnknnlhpcfmdpaaGreatAMo2
import Derived.Test.YtnknnlhpcfmdpaaGreatAMo4
import Derived.Test.YtnknnlhpcfmdpaaGreatAMo7
import Derived.Test.YtnknnlhpcfmdpaaGreatAMo11
set_option linter.unusedVariables false
set_option linter.unusedSimpArgs false
namespace Go.Ep.M.F
open Go
open E (OkE goodE)
def hasD(l:List TDot)(d:TDot):Bool:=l.any fun x=>decide (x=d)
theorem Has_eq(l:List TDot)(d:TDot)(hl:l.length ≤ 1000000000000):dot_Has l d=pure (hasD l d):=by
 unfold dot_Has slices_Contains_sl_Dot_Dot slices_Index_sl_Dot_Dot;have:=loopF (body:=slices_Index_sl_Dot_Dot_l0 l d) l (fun i=>(i:Int)) (fun _ x=>decide (x=d)) (fun i _=>Ex.ret (i:Int)) (pure (Ex.brk ())) (fun i x hx hi=>by
  have hd:decide ((i:Int) < (l.length:Int))=true:=by simpa using hi
  unfold slices_Index_sl_Dot_Dot_l0;simp only[hd,cond_true,idx_nat hx,pure_bind,D.dotEq,wSucc (show i < 9223372036854775807 by omega),cond_dec,eq_comm (a:=d) (b:=x),decide_eq_true_eq]) (by
  unfold slices_Index_sl_Dot_Dot_l0;simp[pure_bind])
 rw[show(0:Int)=((0:Nat):Int) from rfl,this];have hf:(l.zipIdx.find? fun y=>decide (y.1=d)).isSome=hasD l d:=by
  rw[List.isSome_find?];unfold hasD;rw[Bool.eq_iff_iff,List.any_eq_true,List.any_eq_true]
  constructor
  ·rintro⟨y,hy,h⟩;exact⟨y.1,List.fst_mem_of_mem_zipIdx hy,h⟩
  ·rintro⟨x,hx,h⟩;obtain⟨i,hi⟩:=List.getElem?_of_mem hx;exact⟨(x,i),by rw[List.mk_mem_zipIdx_iff_getElem?];exact hi,h⟩
 rw[← hf]
 cases l.zipIdx.find? fun y=>decide (y.1=d) with
 | none=>simp only[pure_bind,det_pure,exk_brk];rfl
 | some y=>simp only[pure_bind,det_pure,exk_ret];simp
def deadE(l:List TEvent)(d:TDot):Bool:=l.any fun e=>hasD e.kills d
theorem Dead_eq(l:List TEvent)(d:TDot)(hl:l.length ≤ 1000000000000)(hk:∀ e∈l,e.kills.length ≤ 1000000000000):kills_Dead l d=pure (deadE l d):=by
 unfold kills_Dead;have:=loopAll (body:=kills_Dead_l0 l d) l (fun i=>(i:Int)) (fun _ x=>!hasD x.kills d) (Ex.brk ()) (Ex.ret true) (fun i x hx hi=>by
  have hd:decide ((i:Int) < (l.length:Int))=true:=by simpa using hi
  unfold kills_Dead_l0 event_Kills;simp only[hd,cond_true,idx_nat hx,pure_bind,Has_eq x.kills d (hk x (List.mem_of_getElem? hx)),det_pure,wSucc (show i < 9223372036854775807 by omega)]
  cases hasD x.kills d <;> rfl) (by
  unfold kills_Dead_l0;simp)
 rw[show(0:Int)=((0:Nat):Int) from rfl,this,pure_bind,E.all_zip l fun x=>!hasD x.kills d];have e:deadE l d=!(l.all fun x=>!hasD x.kills d):=by simp[deadE,List.all_eq_not_any_not]
 rw[e]
 cases l.all fun x=>!hasD x.kills d <;> rfl
theorem rDead_eq(l:List TEvent)(d:TDot)(hl:l.length ≤ 1000000000000)(hk:∀ e∈l,e.kills.length ≤ 1000000000000):r17_Dead l d=pure (deadE l d):=by
 unfold r17_Dead;have:=loopAll (body:=r17_Dead_l0 l d) l (fun i=>(i:Int)) (fun _ x=>!hasD x.kills d) (Ex.brk ()) (Ex.ret true) (fun i x hx hi=>by
  have hd:decide ((i:Int) < (l.length:Int))=true:=by simpa using hi
  unfold r17_Dead_l0;simp only[hd,cond_true,idx_nat hx,pure_bind,E.rHas_eq x.kills d (hk x (List.mem_of_getElem? hx)),det_pure,wSucc (show i < 9223372036854775807 by omega)];show cond (hasD x.kills d) _ _=_
  cases hasD x.kills d <;> rfl) (by
  unfold r17_Dead_l0;simp)
 rw[show(0:Int)=((0:Nat):Int) from rfl,this,pure_bind,E.all_zip l fun x=>!hasD x.kills d];have e:deadE l d=!(l.all fun x=>!hasD x.kills d):=by simp[deadE,List.all_eq_not_any_not]
 rw[e]
 cases l.all fun x=>!hasD x.kills d <;> rfl
def dropK(l:List TDot)(c:List TPart):List TDot:=D.sortD (l.filter fun d=>!C.hasC c d.dev d.n)
theorem Drop_eq(l : List TDot)(c : List TPart)(hl : l.length ≤ 1000000000)(hc : C.Sm c) : kills_Drop l c=pure (dropK l c) := by
  unfold kills_Drop kills_part;have := loopL (body := kills_part_l0 l c false) l (fun i t => ((i : Int), t)) (fun t d => if C.hasC c d.dev d.n=true then t else t++[d]) (fun t => pure t) (fun i t => t.length ≤ i) (fun i x t hx hi hI => by
    have hd : decide ((i : Int) < (l.length : Int))=true := by simpa using hi
    refine ⟨?_, by split
                   · omega
                   · simp; omega⟩
    unfold kills_part_l0;simp only[hd, cond_true, idx_nat hx, pure_bind, C.Has_eq c x hc, det_pure, wSucc (show i < 9223372036854775807 by omega)]
    by_cases c : C.hasC c x.dev x.n=true
    · rw[c, show(true==false)=false from rfl, cond_false, pure_bind, if_pos rfl]
    · simp only[Bool.not_eq_true] at c;rw[c, show(false==false)=true from rfl, cond_true, need_true (by simp; omega), pure_bind]; rfl) (fun t _ => by
    unfold kills_part_l0;simp[pure_bind]) [] (by simp)
  have key : ∀ (l t : List TDot), l.foldl (fun t d => if C.hasC c d.dev d.n=true then t else t++[d]) t=t++l.filter fun d => !C.hasC c d.dev d.n := by
    intro l
    induction l with
    | nil => intro t; simp
    | cons x r ih =>
      intro t;rw[List.foldl_cons, ih]
      by_cases h : C.hasC c x.dev x.n=true
      · rw[if_pos h, List.filter_cons, if_neg (by simp[h])]
      · rw[if_neg h, List.filter_cons, if_pos (by simp[h]), List.append_assoc]; rfl
  rw[show(0 : Int)=((0 : Nat) : Int) from rfl, this, pure_bind, key, List.nil_append, D.Sort_eq _ (by have := List.length_filter_le (fun d : TDot => !C.hasC c d.dev d.n) l; omega), det_pure, pure_bind, det_pure, pure_bind, dropK]
theorem rDrop_eq(l : List TDot)(c : List TPart)(hl : l.length ≤ 1000000000)(hc : C.Ok c) : r17_Drop l c=pure (dropK l c) := by
  unfold r17_Drop;have := loopL (body := r17_Drop_l0 l c) l (fun i t => (t, (i : Int))) (fun t d => if C.hasC c d.dev d.n=true then t else D.insD t d) (fun t => pure t) (fun i t => t.length ≤ i) (fun i x t hx hi hI => by
    have hd : decide ((i : Int) < (l.length : Int))=true := by simpa using hi
    refine ⟨?_, by split
                   · omega
                   · have := D.ins_len t x; omega⟩
    unfold r17_Drop_l0;simp only[hd, cond_true, idx_nat hx, pure_bind, C.rHas_eq c x hc, det_pure, wSucc (show i < 9223372036854775807 by omega)]
    by_cases c : C.hasC c x.dev x.n=true
    · rw[c, Bool.not_true, cond_false, pure_bind, if_pos rfl]
    · simp only[Bool.not_eq_true] at c;rw[c, Bool.not_false, cond_true, D.rPut_eq t x (by omega), det_pure, pure_bind, pure_bind]; rfl) (fun t _ => by
    unfold r17_Drop_l0;simp[pure_bind]) [] (by simp)
  have key : ∀ (l t : List TDot), l.foldl (fun t d => if C.hasC c d.dev d.n=true then t else D.insD t d) t=(l.filter fun d => !C.hasC c d.dev d.n).foldl D.insD t := by
    intro l
    induction l with
    | nil => intro t; rfl
    | cons x r ih =>
      intro t;rw[List.foldl_cons, ih]
      by_cases h : C.hasC c x.dev x.n=true
      · rw[if_pos h, List.filter_cons, if_neg (by simp[h])]
      · rw[if_neg h, List.filter_cons, if_pos (by simp[h])]; rfl
  rw[show(0 : Int)=((0 : Nat) : Int) from rfl, this, pure_bind, key]; rfl
def dotsL(l:List TEvent):List TDot:=l.flatMap fun e=>e.dot::e.kills
def dotsE(l:List TEvent):List TDot:=D.sortD (dotsL l)
theorem dots_len(l:List TEvent)(k:Nat)(h:∀ e∈l,e.kills.length ≤ k):(dotsL l).length ≤ l.length*(k+1):=by
 induction l with
 | nil=>simp[dotsL]
 | cons e r ih=>
  have h1:=ih fun x hx=>h x (by simp[hx])
  have h2:=h e (by simp);have e1:(dotsL (e::r)).length=e.kills.length+1+(dotsL r).length:=by simp[dotsL];omega
  rw[e1,List.length_cons,Nat.add_mul];omega
theorem dots_snoc{l:List TEvent}{i:Nat}{x:TEvent}(h:l[i]?=some x):dotsL (l.take (i+1))=dotsL (l.take i)++x.dot::x.kills:=by
 rw[List.take_add_one,h];simp[dotsL]
theorem dots_part(l:List TEvent)(i:Nat):(dotsL (l.take i)).length ≤ (dotsL l).length:=by
 have:dotsL l=dotsL (l.take i)++dotsL (l.drop i):=by unfold dotsL;rw[← List.flatMap_append,List.take_append_drop]
 rw[this,List.length_append];omega
theorem Dots_eq(l:List TEvent)(hl:l.length ≤ 1000000000)(hs:(dotsL l).length ≤ 1000000000):event_Dots l=pure (dotsE l):=by
 unfold event_Dots;have key:∀ (k i:Nat),i+k=l.length → loop (event_Dots_l0 l) ((i:Int),dotsL (l.take i))=pure (dotsL l):=by
  intro k
  induction k with
  | zero=>
   intro i hi;refine loop_done ?_;unfold event_Dots_l0;have:decide ((i:Int) < (l.length:Int))=false:=by simp;omega
   simp only[this,cond_false];rw[List.take_of_length_le (by omega)]
  | succ k ih=>
   intro i hi;obtain⟨x,hx⟩:∃ x,l[i]?=some x:=⟨_,List.getElem?_eq_getElem (by omega)⟩
   have hd:decide ((i:Int) < (l.length:Int))=true:=by simp;omega
   have h1:=dots_part l (i+1);rw[dots_snoc hx,List.length_append,List.length_cons] at h1;rw[loop_next (s':=(((i+1:Nat):Int),dotsL (l.take (i+1)))) ?_]
   ·exact ih (i+1) (by omega)
   ·unfold event_Dots_l0;simp only[hd,cond_true,idx_nat hx,pure_bind,wSucc (show i < 9223372036854775807 by omega)];rw[need_true (by simp;omega),need_true (by simp;omega),dots_snoc hx,List.append_assoc];rfl
 have:=key l.length 0 (by omega);rw[show dotsL (l.take 0)=[] from rfl] at this;rw[show(0:Int)=((0:Nat):Int) from rfl,this,pure_bind,D.Sort_eq _ (by omega),det_pure,pure_bind,dotsE]
theorem rdots_in(l:List TEvent){i:Nat}{x:TEvent}(hx:l[i]?=some x)(hk:x.kills.length ≤ 1000000000)(s:List TDot)(hs:s.length ≤ 1000000000):loop (r13_Dots_l0 l (i:Int)) (s,0)=pure (x.kills.foldl D.insD s):=by
 have:=loopL (body:=r13_Dots_l0 l (i:Int)) x.kills (fun k t=>(t,(k:Int))) D.insD (fun t=>pure t) (fun k t=>t.length ≤ 1000000000+k) (fun k d t hd hi hI=>by
  have hc:decide ((k:Int) < (x.kills.length:Int))=true:=by simpa using hi
  refine⟨?_,by have:=D.ins_len t d;omega⟩;unfold r13_Dots_l0;simp only[idx_nat hx,pure_bind,hc,cond_true,idx_nat hd,D.rPut_eq t d (by omega),det_pure,wSucc (show k < 9223372036854775807 by omega)]) (fun t _=>by
  unfold r13_Dots_l0;simp[idx_nat hx,pure_bind]) s (by omega)
 exact this
theorem rDots_eq(l:List TEvent)(hl:l.length ≤ 1000000)(hk:∀ e∈l,e.kills.length ≤ 300):r13_Dots l=pure (dotsE l):=by
 unfold r13_Dots;have key:∀ (k i:Nat),i+k=l.length → loop (r13_Dots_l1 l) (D.sortD (dotsL (l.take i)),(i:Int))=pure (dotsE l):=by
  intro k
  induction k with
  | zero=>
   intro i hi;refine loop_done ?_;unfold r13_Dots_l1;have:decide ((i:Int) < (l.length:Int))=false:=by simp;omega
   simp only[this,cond_false];rw[List.take_of_length_le (by omega)];rfl
  | succ k ih=>
   intro i hi;obtain⟨x,hx⟩:∃ x,l[i]?=some x:=⟨_,List.getElem?_eq_getElem (by omega)⟩
   have hd:decide ((i:Int) < (l.length:Int))=true:=by simp;omega
   have h1:=dots_part l i;have h2:=dots_len l 300 hk;have h3:=D.sort_len (dotsL (l.take i));have h4:=D.ins_len (D.sortD (dotsL (l.take i))) x.dot;have h5:=hk x (List.mem_of_getElem? hx);rw[loop_next (s':=(D.sortD (dotsL (l.take (i+1))),((i+1:Nat):Int))) ?_]
   ·exact ih (i+1) (by omega)
   ·unfold r13_Dots_l1;simp only[hd,cond_true,idx_nat hx,pure_bind,D.rPut_eq _ x.dot (show(D.sortD (dotsL (l.take i))).length ≤ 1000000000000 by omega),det_pure,rdots_in l hx (show x.kills.length ≤ 1000000000 by omega) _ (show(D.insD (D.sortD (dotsL (l.take i))) x.dot).length ≤ 1000000000 by omega),wSucc (show i < 9223372036854775807 by omega)];rw[dots_snoc hx];unfold D.sortD;rw[List.foldl_append];rfl
 have:=key l.length 0 (by omega);rw[show D.sortD (dotsL (l.take 0))=[] from rfl] at this;rw[show(0:Int)=((0:Nat):Int) from rfl,this,pure_bind]
def prevGe(l:List TEvent)(i:Nat)(x:TEvent):Bool:=decide (0 < i)&&match l[i - 1]? with | some y=>decide (0 ≤ V.cmpD y.dot x.dot) | none=>false
theorem prev_eq{β:Type}{l:List TEvent}{i:Nat}{x:TEvent}(hi:i < l.length)(hl:l.length ≤ 1000000000)(f:TDot → TDot → M Int)(hf:∀ a b,f a b=pure (V.cmpD a b))(K:Bool → M β) :
  (cond (decide (0 < (i:Int))) ((idx l (IntKind.i64.wrap ((i:Int) - 1))).bind fun y=>(det (f y.dot x.dot)).bind fun v=>K (decide (0 ≤ v))) (K false))=K (prevGe l i x):=by
 unfold prevGe
 by_cases h:0 < i
 ·obtain⟨y,hy⟩:∃ y,l[i - 1]?=some y:=⟨_,List.getElem?_eq_getElem (by omega)⟩
  have e:IntKind.i64.wrap ((i:Int) - 1)=((i - 1:Nat):Int):=by rw[wI64 (by omega) (by omega)];omega
  have hd:decide (0 < (i:Int))=true:=by simp;omega
  rw[hd,cond_true,e,idx_nat hy,pure_bind,hf,det_pure,pure_bind,decide_eq_true h,Bool.true_and,hy]
 ·have hd:decide (0 < (i:Int))=false:=by simp;omega
  rw[hd,cond_false,decide_eq_false h,Bool.false_and]
def bad1(d:TDelta)(i:Nat)(e:TEvent):Bool:=!goodE e||(prevGe d.events i e||(C.hasC d.from_ e.dot.dev e.dot.n||(decide (e.kind=1)&&deadE d.events e.dot)))
def goodDl(d:TDelta):Bool:=decide (d.from_=C.normC d.from_)&&(decide (d.to_=C.normC d.to_)&&(decide (C.opC (fun x y=>x&&!y) d.from_ d.to_=[])&&(decide (d.events.length ≤ 4096)&&((d.events.zipIdx.all fun y=>!bad1 d y.2 y.1)&&decide (dropK (dotsE d.events) d.to_=[])))))
structure OkD(d:TDelta):Prop where
 from_:C.Ok d.from_
 to_:C.Ok d.to_
 evs:∀ e∈d.events,OkE e
 len:d.events.length ≤ 1000000
 kills:∀ e∈d.events,e.kills.length ≤ 300
theorem nil_dec{α:Type}[DecidableEq α](l:List α):decide ((l.length:Int)=0)=decide (l=[]):=by
 cases l with
 | nil=>rfl
 | cons x r=>simp;omega
theorem delta_loop{d:TDelta}(h:OkD d):loop (delta_Good_l0 d) 0=pure (if (d.events.zipIdx.all fun y=>!bad1 d y.2 y.1)=true then Ex.brk () else Ex.ret false):=by
 have hl:=h.len;have:=loopAll (body:=delta_Good_l0 d) d.events (fun i=>(i:Int)) (fun i x=>!bad1 d i x) (Ex.brk ()) (Ex.ret false) (fun i x hx hi=>by
  have hd:decide ((i:Int) < (d.events.length:Int))=true:=by simpa using hi
  have hm:=List.mem_of_getElem? hx;have hp:=fun(K:Bool → M (Step Int (Ex Unit Bool)))=>prev_eq (x:=x) hi (by omega) dot_Cmp D.Cmp_eq K
  unfold delta_Good_l0;simp only[hd,cond_true,idx_nat hx,pure_bind,E.Good_eq (h.evs x hm),C.Has_eq d.from_ x.dot h.from_.sm,Dead_eq d.events x.dot (by omega) (fun e he=>by have:=h.kills e he;omega),det_pure,wSucc (show i < 9223372036854775807 by omega)];have hp:=prev_eq (x:=x) hi (by omega) dot_Cmp D.Cmp_eq (fun b=>(pure b:M Bool));rw[hp];unfold bad1;simp only[pure_bind]
  cases goodE x with
  | false=>rfl
  | true=>
   cases C.hasC d.from_ x.dot.dev x.dot.n with
   | true=>cases prevGe d.events i x <;> rfl
   | false=>
    cases prevGe d.events i x with
    | true=>rfl
    | false=>
     cases decide (x.kind=1) with
     | false=>rfl
     | true=>cases deadE d.events x.dot <;> rfl) (by
  unfold delta_Good_l0;simp)
 rw[show(0:Int)=((0:Nat):Int) from rfl,this]
theorem rdelta_loop{d:TDelta}(h:OkD d):loop (r20_Good_l0 d) 0=pure (if (d.events.zipIdx.all fun y=>!bad1 d y.2 y.1)=true then Ex.brk () else Ex.ret false):=by
 have hl:=h.len;have:=loopAll (body:=r20_Good_l0 d) d.events (fun i=>(i:Int)) (fun i x=>!bad1 d i x) (Ex.brk ()) (Ex.ret false) (fun i x hx hi=>by
  have hd:decide ((i:Int) < (d.events.length:Int))=true:=by simpa using hi
  have hm:=List.mem_of_getElem? hx;unfold r20_Good_l0;simp only[hd,cond_true,idx_nat hx,pure_bind,E.rGood_eq (h.evs x hm),C.rHas_eq d.from_ x.dot h.from_,rDead_eq d.events x.dot (by omega) (fun e he=>by have:=h.kills e he;omega),det_pure,wSucc (show i < 9223372036854775807 by omega)];have hp:=prev_eq (x:=x) hi (by omega) r07_Cmp V.r07_Cmp_eq (fun b=>(cond b (pure true) (cond (C.hasC d.from_ x.dot.dev x.dot.n) (pure true) (cond (decide (x.kind=1)) (pure (deadE d.events x.dot)) (pure false))):M Bool));refine(congrArg (fun m:M Bool=>M.bind (cond (!goodE x) (pure true) m) fun v70=>cond v70 (pure (Step.done (Ex.ret false))) (pure (Step.next ((i+1:Nat):Int)))) hp).trans ?_;unfold bad1
  cases goodE x with
  | false=>rfl
  | true=>
   cases C.hasC d.from_ x.dot.dev x.dot.n with
   | true=>cases prevGe d.events i x <;> rfl
   | false=>
    cases prevGe d.events i x with
    | true=>rfl
    | false=>
     cases decide (x.kind=1) with
     | false=>rfl
     | true=>cases deadE d.events x.dot <;> rfl) (by
  unfold r20_Good_l0;simp)
 rw[show(0:Int)=((0:Nat):Int) from rfl,this]
theorem len_dec(l:List TEvent):decide ((4096:Int) < (l.length:Int))=!decide (l.length ≤ 4096):=by
 by_cases c:l.length ≤ 4096
 ·rw[decide_eq_true c];simp;omega
 ·rw[decide_eq_false c];simp;omega
theorem dlen{d:TDelta}(h:OkD d):(dotsL d.events).length ≤ 1000000000:=by have:=dots_len d.events 300 h.kills;have:=h.len;omega
theorem delta_Good_eq{d:TDelta}(h:OkD d):delta_Good d=pure (goodDl d):=by
 have h1:=h.len;have h2:=dlen h;have h3:(dotsE d.events).length ≤ 1000000000:=Nat.le_trans (D.sort_len _) h2;unfold delta_Good goodDl;rw[delta_loop h];simp only[C.Good_eq _ h.from_.sm,C.Good_eq _ h.to_.sm,C.Within_eq _ _ h.from_.sm h.to_.sm,Dots_eq d.events (by omega) h2,Drop_eq _ _ h3 h.to_.sm,det_pure,pure_bind,len_dec,nil_dec]
 cases decide (d.from_=C.normC d.from_) with
 | false=>rfl
 | true=>
  cases decide (d.to_=C.normC d.to_) with
  | false=>rfl
  | true=>
   cases decide (C.opC (fun x y=>x&&!y) d.from_ d.to_=[]) with
   | false=>rfl
   | true=>
    cases decide (d.events.length ≤ 4096) with
    | false=>rfl
    | true=>cases d.events.zipIdx.all fun y=>!bad1 d y.2 y.1 <;> rfl
theorem rdelta_Good_eq{d:TDelta}(h:OkD d):r20_Good d=pure (goodDl d):=by
 have h1:=h.len;have h2:=dlen h;have h3:(dotsE d.events).length ≤ 1000000000:=Nat.le_trans (D.sort_len _) h2;unfold r20_Good goodDl;rw[rdelta_loop h];simp only[C.rGood_eq _ h.from_,C.rGood_eq _ h.to_,C.rWithin_eq _ _ h.from_ h.to_,rDots_eq d.events (by omega) h.kills,rDrop_eq _ _ h3 h.to_,det_pure,pure_bind,len_dec,nil_dec]
 cases decide (d.from_=C.normC d.from_) with
 | false=>rfl
 | true=>
  cases decide (d.to_=C.normC d.to_) with
  | false=>rfl
  | true=>
   cases decide (C.opC (fun x y=>x&&!y) d.from_ d.to_=[]) with
   | false=>rfl
   | true=>
    cases decide (d.events.length ≤ 4096) with
    | false=>rfl
    | true=>cases d.events.zipIdx.all fun y=>!bad1 d y.2 y.1 <;> rfl
open E (OkE goodE)
def numB(n:Int):Bool:=decide (0 < n)&&decide (n ≤ 281474976710655)
theorem number_eq(n:Int):msg_number n=pure (numB n):=by
 unfold msg_number numB;rw[cond_pure_and,pure_bind]
theorem rnumber_eq(n:Int):r27_number n=pure (numB n):=by
 unfold r27_number numB;rw[cond_pure_and,pure_bind,show decide (1 ≤ n)=decide (0 < n) from rfl]
theorem has_only(c:List TPart)(d k n:Int):C.hasC (C.onlyC c d) k n=(decide (d=k)&&C.hasC c k n):=by
 unfold C.onlyC;rw[C.has_normC];unfold C.hasC;rw[C.rawC_cons,C.rawC_nil,List.append_nil]
 by_cases h:d=k
 ·subst h
  by_cases h0:0 < d
  ·rw[if_pos ⟨rfl,h0⟩,R.nrm_has];simp
  ·rw[if_neg (by simp[h0]),C.rawC_bad h0];simp[R.hasR]
 ·rw[if_neg (by simp[h])];simp[h,R.hasR]
def goodC(c:List TPart):Bool:=decide (c=C.normC c)
def withinC(a b:List TPart):Bool:=decide (C.opC (fun x y=>x&&!y) a b=[])
def sameC(a b:List TPart):Bool:=decide (C.normC a=C.normC b)
theorem good_nil : goodC []=true:=by
 unfold goodC;rw[C.norm_canon C.canon_nil];rfl
theorem within_only(c:List TPart)(d:Int):withinC c (C.onlyC c d)=sameC c (C.onlyC c d):=by
 unfold withinC sameC;rw[Bool.eq_iff_iff,decide_eq_true_eq,decide_eq_true_eq]
 constructor
 ·intro h;refine C.normC_ext fun k n=>?_
  have h1:C.hasC (C.opC (fun x y=>x&&!y) c (C.onlyC c d)) k n=false:=by rw[h];rfl
  rw[C.has_opC rfl,has_only] at h1;rw[has_only]
  cases hc:C.hasC c k n with
  | false=>simp
  | true=>rw[hc] at h1;simpa using h1
 ·intro h;refine C.canon_none (C.canon_op rfl _ _) fun k n=>?_
  have h1:C.hasC (C.normC c) k n=C.hasC (C.normC (C.onlyC c d)) k n:=by rw[h]
  rw[C.has_normC,C.has_normC] at h1;rw[C.has_opC rfl,← h1]
  cases C.hasC c k n <;> rfl
theorem only_ok{c:List TPart}(h:C.Ok c)(ht:C.totC c ≤ 1000000){d:Int}(hd:0 ≤ d):C.Ok (C.onlyC c d):=by
 have h2:=R.nrm_len (C.rawC c d);have h3:=C.rawC_len c d;have h4:=h.tot;rw[C.only_form]
 split
 ·exact C.ok_nil
 ·exact⟨fun p hp=>by rw[List.mem_singleton.1 hp];exact hd,by simp,by simp[C.totC];omega⟩
def ownB(c:List TPart)(d:Int):Bool:=goodC c&&sameC c (C.onlyC c d)
theorem own_eq{c:List TPart}(h:C.Ok c)(ht:C.totC c ≤ 1000000){d:Int}(hd:0 ≤ d):msg_own c d=pure (ownB c d):=by
 unfold msg_own;simp only[C.Good_eq c h.sm,C.Only_eq c d h,C.Within_eq c _ h.sm (only_ok h ht hd).sm,det_pure,pure_bind,cond_pure_and];show pure (goodC c&&withinC c (C.onlyC c d))=_;rw[within_only];rfl
def bad2(l:List TEvent)(dev:Int)(c:List TPart)(i:Nat)(e:TEvent):Bool:=!goodE e||(!decide (e.dot.dev=dev)||(C.hasC c e.dot.dev e.dot.n||prevGe l i e))
def bad3(l:List TEvent)(dev:Int)(i:Nat)(e:TEvent):Bool:=!goodE e||(!decide (e.dot.dev=dev)||prevGe l i e)
def fourB(l:List TEvent):Bool:=decide (1 ≤ (l.length:Int))&&decide ((l.length:Int) ≤ 4)
theorem pushed_eq{l:List TEvent}{dev:Int}{c:List TPart}(hE:∀ e∈l,OkE e)(hl:l.length ≤ 1000000)(hc:C.Ok c):msg_pushed l dev c=pure ((l.zipIdx.all fun y=>!bad2 l dev c y.2 y.1)&&fourB l):=by
 unfold msg_pushed;have:=loopAll (body:=msg_pushed_l0 l dev c) l (fun i=>(i:Int)) (fun i x=>!bad2 l dev c i x) (Ex.brk ()) (Ex.ret false) (fun i x hx hi=>by
  have hd:decide ((i:Int) < (l.length:Int))=true:=by simpa using hi
  have hm:=List.mem_of_getElem? hx;unfold msg_pushed_l0;simp only[hd,cond_true,idx_nat hx,pure_bind,E.Good_eq (hE x hm),C.Has_eq c x.dot hc.sm,det_pure,wSucc (show i < 9223372036854775807 by omega)];have hp:=prev_eq (x:=x) hi (by omega) dot_Cmp D.Cmp_eq (fun b=>(pure b:M Bool));rw[hp];unfold bad2
  cases goodE x with
  | false=>rfl
  | true=>
   cases decide (x.dot.dev=dev) with
   | false=>rfl
   | true=>
    cases C.hasC c x.dot.dev x.dot.n with
    | true=>rfl
    | false=>cases prevGe l i x <;> rfl) (by
  unfold msg_pushed_l0;simp)
 rw[show(0:Int)=((0:Nat):Int) from rfl,this,pure_bind,cond_pure_and,pure_bind];show exk (fun _=>pure (fourB l)) _=_
 cases l.zipIdx.all fun y=>!bad2 l dev c y.2 y.1 <;> rfl
theorem rpush_eq{d:TDelta}{dev:Int}(hE:∀ e∈d.events,OkE e)(hl:d.events.length ≤ 1000000):r27_push d dev=pure ((d.events.zipIdx.all fun y=>!bad3 d.events dev y.2 y.1)&&(decide (d.from_=[])&&(decide (d.to_=[])&&fourB d.events))):=by
 unfold r27_push;have:=loopAll (body:=r27_push_l0 d dev) d.events (fun i=>(i:Int)) (fun i x=>!bad3 d.events dev i x) (Ex.brk ()) (Ex.ret false) (fun i x hx hi=>by
  have hd:decide ((i:Int) < (d.events.length:Int))=true:=by simpa using hi
  have hm:=List.mem_of_getElem? hx;unfold r27_push_l0;simp only[hd,cond_true,idx_nat hx,pure_bind,E.rGood_eq (hE x hm),det_pure,wSucc (show i < 9223372036854775807 by omega)];have hp:=prev_eq (x:=x) hi (by omega) r07_Cmp V.r07_Cmp_eq (fun b=>(pure b:M Bool));rw[hp];unfold bad3
  cases goodE x with
  | false=>rfl
  | true=>
   cases decide (x.dot.dev=dev) with
   | false=>rfl
   | true=>cases prevGe d.events i x <;> rfl) (by
  unfold r27_push_l0;simp)
 rw[show(0:Int)=((0:Nat):Int) from rfl,this,pure_bind];simp only[nil_dec,Int.natCast_zero,cond_pure_and,pure_bind];show exk (fun _=>pure (decide (d.from_=[])&&(decide (d.to_=[])&&fourB d.events))) _=_
 cases d.events.zipIdx.all fun y=>!bad3 d.events dev y.2 y.1 <;> rfl
def touchB(c:List TPart)(l:List TEvent):Bool:=l.any fun e=>C.hasC c e.dot.dev e.dot.n
theorem rtouches_eq{c:List TPart}{l:List TEvent}(hl:l.length ≤ 1000000)(hc:C.Ok c):r27_touches c l=pure (touchB c l):=by
 unfold r27_touches;have:=loopAll (body:=r27_touches_l0 l c) l (fun i=>(i:Int)) (fun _ x=>!C.hasC c x.dot.dev x.dot.n) (Ex.brk ()) (Ex.ret true) (fun i x hx hi=>by
  have hd:decide ((i:Int) < (l.length:Int))=true:=by simpa using hi
  unfold r27_touches_l0;simp only[hd,cond_true,idx_nat hx,pure_bind,C.rHas_eq c x.dot hc,det_pure,wSucc (show i < 9223372036854775807 by omega)]
  cases C.hasC c x.dot.dev x.dot.n <;> rfl) (by
  unfold r27_touches_l0;simp)
 rw[show(0:Int)=((0:Nat):Int) from rfl,this,pure_bind,E.all_zip l fun x=>!C.hasC c x.dot.dev x.dot.n];have e:touchB c l=!(l.all fun x=>!C.hasC c x.dot.dev x.dot.n):=by simp[touchB,List.all_eq_not_any_not]
 rw[e]
 cases l.all fun x=>!C.hasC c x.dot.dev x.dot.n <;> rfl
theorem bad_split(l:List TEvent)(dev:Int)(c:List TPart):(l.zipIdx.all fun y=>!bad2 l dev c y.2 y.1)=((l.zipIdx.all fun y=>!bad3 l dev y.2 y.1)&&!touchB c l):=by
 have e:touchB c l=!(l.all fun x=>!C.hasC c x.dot.dev x.dot.n):=by simp[touchB,List.all_eq_not_any_not]
 rw[e,Bool.not_not,← E.all_zip l fun x=>!C.hasC c x.dot.dev x.dot.n,Bool.eq_iff_iff,Bool.and_eq_true,List.all_eq_true,List.all_eq_true,List.all_eq_true]
 constructor
 ·intro h;refine⟨fun y hy=>?_,fun y hy=>?_⟩
  ·have:=h y hy;unfold bad2 at this;unfold bad3
   revert this
   cases goodE y.1 <;> cases decide (y.1.dot.dev=dev) <;> cases C.hasC c y.1.dot.dev y.1.dot.n <;> cases prevGe l y.2 y.1 <;> decide
  ·have:=h y hy;unfold bad2 at this
   revert this
   cases goodE y.1 <;> cases decide (y.1.dot.dev=dev) <;> cases C.hasC c y.1.dot.dev y.1.dot.n <;> cases prevGe l y.2 y.1 <;> decide
 ·rintro⟨h1,h2⟩ y hy;have a:=h1 y hy;have b:=h2 y hy;unfold bad3 at a;unfold bad2
  revert a b
  cases goodE y.1 <;> cases decide (y.1.dot.dev=dev) <;> cases C.hasC c y.1.dot.dev y.1.dot.n <;> cases prevGe l y.2 y.1 <;> decide
structure OkM(m:TMsg):Prop where
 kind:0 ≤ m.kind ∧ m.kind ≤ 255
 slot:0 ≤ m.slot ∧ m.slot ≤ 255
 dev:0 ≤ m.dev ∧ m.dev ≤ 65535
 why:0 ≤ m.why ∧ m.why ≤ 255
 have_:C.Ok m.have_
 front:C.Ok m.front
 delta:OkD m.delta
 tot:C.totC m.have_ ≤ 1000000
def bareB(m:TMsg):Bool:=decide (m.slot=0)&&(decide (m.try_=0)&&(decide (m.why=0)&&(decide (m.have_=[])&&(decide (m.front=[])&&((decide (m.delta.from_=[])&&decide (m.delta.to_=[]))&&decide (m.delta.events=[]))))))
theorem bare_eq(m:TMsg):msg_bare m=pure (bareB m):=by
 unfold msg_bare msg_empty bareB;simp only[nil_dec,cond_pure_and,pure_bind,det_pure]
theorem rnone_eq(d:TDelta):r27_none d=pure (decide (d.from_=[])&&(decide (d.to_=[])&&decide (d.events=[]))):=by
 unfold r27_none;simp only[nil_dec,cond_pure_and,pure_bind]
theorem det_cond{α:Type}(a:Bool)(x y:M α):det (cond a x y)=cond a (det x) (det y):=by cases a <;> rfl
theorem exk_cond{α β:Type}(k:β → M α)(a:Bool)(x y:Ex β α):exk k (cond a x y)=cond a (exk k x) (exk k y):=by cases a <;> rfl
set_option maxHeartbeats 4000000 in
theorem good_same{m:TMsg}(h:OkM m):msg_Good m=r27_Good m:=by
 obtain⟨h1,h2,h3,h4,h5,h6,h7,h8⟩:=h;have hev:∀ e∈m.delta.events,OkE e:=h7.evs;have hfrom:decide ((0:Int) < (m.delta.from_.length:Int))=!decide (m.delta.from_=[]):=by
  cases m.delta.from_ with
  | nil=>rfl
  | cons x r=>simp
 unfold msg_Good r27_Good msg_hello;simp only[number_eq,rnumber_eq,own_eq h5 h8 h3.1,C.Good_eq _ h5.sm,C.Good_eq _ h6.sm,C.Within_eq _ _ h6.sm h7.to_.sm,delta_Good_eq h7,rdelta_Good_eq h7,pushed_eq hev h7.len h5,rpush_eq hev h7.len,rtouches_eq h7.len h5,bare_eq,rnone_eq,C.rGood_eq _ h5,C.rGood_eq _ h6,C.rOnly_eq _ _ h3.1 h5,C.rSame_eq _ _ h5 (only_ok h5 h8 h3.1),C.rWithin_eq _ _ h6 h7.to_,hfrom,det_pure,pure_bind,nil_dec,bad_split,bareB];obtain⟨kind,slot,try_,dev,epoch,why,have_,front,delta⟩:=m;dsimp only at *
 have e1:∀ c:List TPart,decide (c=C.normC c)=goodC c:=fun _=>rfl
 have e2:∀ a b:List TPart,decide (C.normC a=C.normC b)=sameC a b:=fun _ _=>rfl
 have e3:∀ a b:List TPart,decide (C.opC (fun x y=>x&&!y) a b=[])=withinC a b:=fun _ _=>rfl
 have gh:decide (have_=[])=true → goodC have_=true:=fun e=>by rw[of_decide_eq_true e];exact good_nil
 have gf:decide (front=[])=true → goodC front=true:=fun e=>by rw[of_decide_eq_true e];exact good_nil
 simp only[e1,e2,e3,ownB];clear hfrom hev h2 h3 h5 h6 h7 h8
 by_cases k1:kind=1
 ·subst k1;simp only[Int.reduceEq,Int.reduceLE,Int.reduceLT,decide_true,decide_false,Bool.not_true,Bool.not_false,cond_true,cond_false,pure_bind,det_pure,exk_ret,exk_brk,bind_cond,det_cond,exk_cond,cond_pure,eq_self,Bool.true_and,Bool.and_true,Bool.false_and,Bool.and_false,e1,e2,e3]
  generalize goodC have_=A at *
  generalize goodC front=B at *
  generalize sameC have_ (C.onlyC have_ dev)=D1 at *
  generalize withinC front delta.to_=E1 at *
  generalize goodDl delta=F1 at *
  generalize (delta.events.zipIdx.all fun y=>!bad3 delta.events dev y.2 y.1)=G1 at *
  generalize touchB have_ delta.events=H1 at *
  generalize fourB delta.events=I1 at *
  generalize numB epoch=J1 at *
  generalize numB try_=K1 at *
  generalize decide (have_=[])=L1 at *
  generalize decide (front=[])=M1 at *
  generalize decide (delta.from_=[])=N1 at *
  generalize decide (delta.to_=[])=O1 at *
  generalize decide (delta.events=[])=P1 at *
  generalize decide (dev=0)=Q1 at *
  generalize decide (epoch=0)=R1 at *
  generalize decide (slot=0)=S1 at *
  generalize decide (try_=0)=T1 at *
  generalize decide (16 ≤ slot)=U1 at *
  generalize decide (why=0)=V1 at *
  generalize decide (why=1)=W1 at *
  generalize decide (why=2)=X1 at *
  clear e1 e2 e3;refine congrArg pure ?_;clear h1 h4
  all_goals (cases U1 <;> try rfl)
  all_goals (cases K1 <;> try rfl)
  all_goals (cases Q1 <;> try rfl)
  all_goals (cases R1 <;> try rfl)
  all_goals (cases L1 <;> cases A <;> (try (exact absurd (gh rfl) (by decide))) <;> cases M1 <;> cases B <;> (try (exact absurd (gf rfl) (by decide))))
  all_goals (try rfl)
  all_goals (cases V1 <;> try rfl)
  all_goals (cases N1 <;> try rfl)
  all_goals (cases O1 <;> try rfl)
  all_goals (cases P1 <;> try rfl)
  all_goals (cases E1 <;> try rfl)
 by_cases k2:kind=2
 ·subst k2;simp only[Int.reduceEq,Int.reduceLE,Int.reduceLT,decide_true,decide_false,Bool.not_true,Bool.not_false,cond_true,cond_false,pure_bind,det_pure,exk_ret,exk_brk,bind_cond,det_cond,exk_cond,cond_pure,eq_self,Bool.true_and,Bool.and_true,Bool.false_and,Bool.and_false,e1,e2,e3]
  generalize goodC have_=A at *
  generalize goodC front=B at *
  generalize sameC have_ (C.onlyC have_ dev)=D1 at *
  generalize withinC front delta.to_=E1 at *
  generalize goodDl delta=F1 at *
  generalize (delta.events.zipIdx.all fun y=>!bad3 delta.events dev y.2 y.1)=G1 at *
  generalize touchB have_ delta.events=H1 at *
  generalize fourB delta.events=I1 at *
  generalize numB epoch=J1 at *
  generalize numB try_=K1 at *
  generalize decide (have_=[])=L1 at *
  generalize decide (front=[])=M1 at *
  generalize decide (delta.from_=[])=N1 at *
  generalize decide (delta.to_=[])=O1 at *
  generalize decide (delta.events=[])=P1 at *
  generalize decide (dev=0)=Q1 at *
  generalize decide (epoch=0)=R1 at *
  generalize decide (slot=0)=S1 at *
  generalize decide (try_=0)=T1 at *
  generalize decide (16 ≤ slot)=U1 at *
  generalize decide (why=0)=V1 at *
  generalize decide (why=1)=W1 at *
  generalize decide (why=2)=X1 at *
  clear e1 e2 e3;refine congrArg pure ?_;clear h1 h4
  all_goals (cases Q1 <;> try rfl)
  all_goals (cases J1 <;> try rfl)
  all_goals (cases U1 <;> try rfl)
  all_goals (cases K1 <;> try rfl)
  all_goals (cases L1 <;> cases A <;> (try (exact absurd (gh rfl) (by decide))) <;> cases M1 <;> cases B <;> (try (exact absurd (gf rfl) (by decide))))
  all_goals (try rfl)
  all_goals (cases F1 <;> try rfl)
  all_goals (cases N1 <;> try rfl)
  all_goals (cases V1 <;> try rfl)
  all_goals (cases E1 <;> try rfl)
 by_cases k3:kind=3
 ·subst k3;simp only[Int.reduceEq,Int.reduceLE,Int.reduceLT,decide_true,decide_false,Bool.not_true,Bool.not_false,cond_true,cond_false,pure_bind,det_pure,exk_ret,exk_brk,bind_cond,det_cond,exk_cond,cond_pure,eq_self,Bool.true_and,Bool.and_true,Bool.false_and,Bool.and_false,e1,e2,e3]
  generalize goodC have_=A at *
  generalize goodC front=B at *
  generalize sameC have_ (C.onlyC have_ dev)=D1 at *
  generalize withinC front delta.to_=E1 at *
  generalize goodDl delta=F1 at *
  generalize (delta.events.zipIdx.all fun y=>!bad3 delta.events dev y.2 y.1)=G1 at *
  generalize touchB have_ delta.events=H1 at *
  generalize fourB delta.events=I1 at *
  generalize numB epoch=J1 at *
  generalize numB try_=K1 at *
  generalize decide (have_=[])=L1 at *
  generalize decide (front=[])=M1 at *
  generalize decide (delta.from_=[])=N1 at *
  generalize decide (delta.to_=[])=O1 at *
  generalize decide (delta.events=[])=P1 at *
  generalize decide (dev=0)=Q1 at *
  generalize decide (epoch=0)=R1 at *
  generalize decide (slot=0)=S1 at *
  generalize decide (try_=0)=T1 at *
  generalize decide (16 ≤ slot)=U1 at *
  generalize decide (why=0)=V1 at *
  generalize decide (why=1)=W1 at *
  generalize decide (why=2)=X1 at *
  clear e1 e2 e3;refine congrArg pure ?_;clear h1 h4
  all_goals (cases S1 <;> try rfl)
  all_goals (cases T1 <;> try rfl)
  all_goals (cases Q1 <;> try rfl)
  all_goals (cases J1 <;> try rfl)
  all_goals (cases L1 <;> cases A <;> (try (exact absurd (gh rfl) (by decide))) <;> cases M1 <;> cases B <;> (try (exact absurd (gf rfl) (by decide))))
  all_goals (try rfl)
  all_goals (cases V1 <;> try rfl)
  all_goals (cases N1 <;> try rfl)
  all_goals (cases O1 <;> try rfl)
  all_goals (cases P1 <;> try rfl)
  all_goals (cases E1 <;> try rfl)
 by_cases k4:kind=4
 ·subst k4;simp only[Int.reduceEq,Int.reduceLE,Int.reduceLT,decide_true,decide_false,Bool.not_true,Bool.not_false,cond_true,cond_false,pure_bind,det_pure,exk_ret,exk_brk,bind_cond,det_cond,exk_cond,cond_pure,eq_self,Bool.true_and,Bool.and_true,Bool.false_and,Bool.and_false,e1,e2,e3]
  generalize goodC have_=A at *
  generalize goodC front=B at *
  generalize sameC have_ (C.onlyC have_ dev)=D1 at *
  generalize withinC front delta.to_=E1 at *
  generalize goodDl delta=F1 at *
  generalize (delta.events.zipIdx.all fun y=>!bad3 delta.events dev y.2 y.1)=G1 at *
  generalize touchB have_ delta.events=H1 at *
  generalize fourB delta.events=I1 at *
  generalize numB epoch=J1 at *
  generalize numB try_=K1 at *
  generalize decide (have_=[])=L1 at *
  generalize decide (front=[])=M1 at *
  generalize decide (delta.from_=[])=N1 at *
  generalize decide (delta.to_=[])=O1 at *
  generalize decide (delta.events=[])=P1 at *
  generalize decide (dev=0)=Q1 at *
  generalize decide (epoch=0)=R1 at *
  generalize decide (slot=0)=S1 at *
  generalize decide (try_=0)=T1 at *
  generalize decide (16 ≤ slot)=U1 at *
  generalize decide (why=0)=V1 at *
  generalize decide (why=1)=W1 at *
  generalize decide (why=2)=X1 at *
  clear e1 e2 e3;refine congrArg pure ?_;clear h1 h4
  all_goals (cases S1 <;> try rfl)
  all_goals (cases T1 <;> try rfl)
  all_goals (cases Q1 <;> try rfl)
  all_goals (cases J1 <;> try rfl)
  all_goals (cases L1 <;> cases A <;> (try (exact absurd (gh rfl) (by decide))) <;> cases M1 <;> cases B <;> (try (exact absurd (gf rfl) (by decide))))
  all_goals (try rfl)
  all_goals (cases V1 <;> try rfl)
  all_goals (cases F1 <;> try rfl)
  all_goals (cases E1 <;> try rfl)
 by_cases k5:kind=5
 ·subst k5;simp only[Int.reduceEq,Int.reduceLE,Int.reduceLT,decide_true,decide_false,Bool.not_true,Bool.not_false,cond_true,cond_false,pure_bind,det_pure,exk_ret,exk_brk,bind_cond,det_cond,exk_cond,cond_pure,eq_self,Bool.true_and,Bool.and_true,Bool.false_and,Bool.and_false,e1,e2,e3]
  generalize goodC have_=A at *
  generalize goodC front=B at *
  generalize sameC have_ (C.onlyC have_ dev)=D1 at *
  generalize withinC front delta.to_=E1 at *
  generalize goodDl delta=F1 at *
  generalize (delta.events.zipIdx.all fun y=>!bad3 delta.events dev y.2 y.1)=G1 at *
  generalize touchB have_ delta.events=H1 at *
  generalize fourB delta.events=I1 at *
  generalize numB epoch=J1 at *
  generalize numB try_=K1 at *
  generalize decide (have_=[])=L1 at *
  generalize decide (front=[])=M1 at *
  generalize decide (delta.from_=[])=N1 at *
  generalize decide (delta.to_=[])=O1 at *
  generalize decide (delta.events=[])=P1 at *
  generalize decide (dev=0)=Q1 at *
  generalize decide (epoch=0)=R1 at *
  generalize decide (slot=0)=S1 at *
  generalize decide (try_=0)=T1 at *
  generalize decide (16 ≤ slot)=U1 at *
  generalize decide (why=0)=V1 at *
  generalize decide (why=1)=W1 at *
  generalize decide (why=2)=X1 at *
  clear e1 e2 e3;refine congrArg pure ?_;clear h1 h4
  all_goals (cases S1 <;> try rfl)
  all_goals (cases T1 <;> try rfl)
  all_goals (cases Q1 <;> try rfl)
  all_goals (cases J1 <;> try rfl)
  all_goals (cases L1 <;> cases A <;> (try (exact absurd (gh rfl) (by decide))) <;> cases M1 <;> cases B <;> (try (exact absurd (gf rfl) (by decide))))
  all_goals (try rfl)
  all_goals (cases V1 <;> try rfl)
  all_goals (cases D1 <;> try rfl)
  all_goals (cases G1 <;> try rfl)
  all_goals (cases H1 <;> try rfl)
  all_goals (cases I1 <;> try rfl)
  all_goals (cases N1 <;> try rfl)
  all_goals (cases O1 <;> try rfl)
  all_goals (cases E1 <;> try rfl)
 by_cases k6:kind=6
 ·subst k6;simp only[Int.reduceEq,Int.reduceLE,Int.reduceLT,decide_true,decide_false,Bool.not_true,Bool.not_false,cond_true,cond_false,pure_bind,det_pure,exk_ret,exk_brk,bind_cond,det_cond,exk_cond,cond_pure,eq_self,Bool.true_and,Bool.and_true,Bool.false_and,Bool.and_false,e1,e2,e3]
  generalize goodC have_=A at *
  generalize goodC front=B at *
  generalize sameC have_ (C.onlyC have_ dev)=D1 at *
  generalize withinC front delta.to_=E1 at *
  generalize goodDl delta=F1 at *
  generalize (delta.events.zipIdx.all fun y=>!bad3 delta.events dev y.2 y.1)=G1 at *
  generalize touchB have_ delta.events=H1 at *
  generalize fourB delta.events=I1 at *
  generalize numB epoch=J1 at *
  generalize numB try_=K1 at *
  generalize decide (have_=[])=L1 at *
  generalize decide (front=[])=M1 at *
  generalize decide (delta.from_=[])=N1 at *
  generalize decide (delta.to_=[])=O1 at *
  generalize decide (delta.events=[])=P1 at *
  generalize decide (dev=0)=Q1 at *
  generalize decide (epoch=0)=R1 at *
  generalize decide (slot=0)=S1 at *
  generalize decide (try_=0)=T1 at *
  generalize decide (16 ≤ slot)=U1 at *
  generalize decide (why=0)=V1 at *
  generalize decide (why=1)=W1 at *
  generalize decide (why=2)=X1 at *
  clear e1 e2 e3;refine congrArg pure ?_;clear h1 h4
  all_goals (cases S1 <;> try rfl)
  all_goals (cases T1 <;> try rfl)
  all_goals (cases Q1 <;> try rfl)
  all_goals (cases J1 <;> try rfl)
  all_goals (cases L1 <;> cases A <;> (try (exact absurd (gh rfl) (by decide))) <;> cases M1 <;> cases B <;> (try (exact absurd (gf rfl) (by decide))))
  all_goals (try rfl)
  all_goals (cases V1 <;> try rfl)
  all_goals (cases D1 <;> try rfl)
  all_goals (cases N1 <;> try rfl)
  all_goals (cases O1 <;> try rfl)
  all_goals (cases P1 <;> try rfl)
  all_goals (cases E1 <;> try rfl)
 by_cases k7:kind=7
 ·subst k7;simp only[Int.reduceEq,Int.reduceLE,Int.reduceLT,decide_true,decide_false,Bool.not_true,Bool.not_false,cond_true,cond_false,pure_bind,det_pure,exk_ret,exk_brk,bind_cond,det_cond,exk_cond,cond_pure,eq_self,Bool.true_and,Bool.and_true,Bool.false_and,Bool.and_false,e1,e2,e3]
  generalize goodC have_=A at *
  generalize goodC front=B at *
  generalize sameC have_ (C.onlyC have_ dev)=D1 at *
  generalize withinC front delta.to_=E1 at *
  generalize goodDl delta=F1 at *
  generalize (delta.events.zipIdx.all fun y=>!bad3 delta.events dev y.2 y.1)=G1 at *
  generalize touchB have_ delta.events=H1 at *
  generalize fourB delta.events=I1 at *
  generalize numB epoch=J1 at *
  generalize numB try_=K1 at *
  generalize decide (have_=[])=L1 at *
  generalize decide (front=[])=M1 at *
  generalize decide (delta.from_=[])=N1 at *
  generalize decide (delta.to_=[])=O1 at *
  generalize decide (delta.events=[])=P1 at *
  generalize decide (dev=0)=Q1 at *
  generalize decide (epoch=0)=R1 at *
  generalize decide (slot=0)=S1 at *
  generalize decide (try_=0)=T1 at *
  generalize decide (16 ≤ slot)=U1 at *
  generalize decide (why=0)=V1 at *
  generalize decide (why=1)=W1 at *
  generalize decide (why=2)=X1 at *
  clear e1 e2 e3;refine congrArg pure ?_;clear h1 h4
  all_goals (cases S1 <;> try rfl)
  all_goals (cases T1 <;> try rfl)
  all_goals (cases Q1 <;> try rfl)
  all_goals (cases J1 <;> try rfl)
  all_goals (cases L1 <;> cases A <;> (try (exact absurd (gh rfl) (by decide))) <;> cases M1 <;> cases B <;> (try (exact absurd (gf rfl) (by decide))))
  all_goals (try rfl)
  all_goals (cases V1 <;> try rfl)
  all_goals (cases N1 <;> try rfl)
  all_goals (cases O1 <;> try rfl)
  all_goals (cases P1 <;> try rfl)
  all_goals (cases E1 <;> try rfl)
 by_cases k8:kind=8
 ·subst k8;simp only[Int.reduceEq,Int.reduceLE,Int.reduceLT,decide_true,decide_false,Bool.not_true,Bool.not_false,cond_true,cond_false,pure_bind,det_pure,exk_ret,exk_brk,bind_cond,det_cond,exk_cond,cond_pure,eq_self,Bool.true_and,Bool.and_true,Bool.false_and,Bool.and_false,e1,e2,e3]
  generalize goodC have_=A at *
  generalize goodC front=B at *
  generalize sameC have_ (C.onlyC have_ dev)=D1 at *
  generalize withinC front delta.to_=E1 at *
  generalize goodDl delta=F1 at *
  generalize (delta.events.zipIdx.all fun y=>!bad3 delta.events dev y.2 y.1)=G1 at *
  generalize touchB have_ delta.events=H1 at *
  generalize fourB delta.events=I1 at *
  generalize numB epoch=J1 at *
  generalize numB try_=K1 at *
  generalize decide (have_=[])=L1 at *
  generalize decide (front=[])=M1 at *
  generalize decide (delta.from_=[])=N1 at *
  generalize decide (delta.to_=[])=O1 at *
  generalize decide (delta.events=[])=P1 at *
  generalize decide (dev=0)=Q1 at *
  generalize decide (epoch=0)=R1 at *
  generalize decide (slot=0)=S1 at *
  generalize decide (try_=0)=T1 at *
  generalize decide (16 ≤ slot)=U1 at *
  generalize decide (why=0)=V1 at *
  generalize decide (why=1)=W1 at *
  generalize decide (why=2)=X1 at *
  clear e1 e2 e3;refine congrArg pure ?_;clear h1 h4
  all_goals (cases S1 <;> try rfl)
  all_goals (cases T1 <;> try rfl)
  all_goals (cases Q1 <;> try rfl)
  all_goals (cases J1 <;> try rfl)
  all_goals (cases L1 <;> cases A <;> (try (exact absurd (gh rfl) (by decide))) <;> cases M1 <;> cases B <;> (try (exact absurd (gf rfl) (by decide))))
  all_goals (try rfl)
  all_goals (cases V1 <;> try rfl)
  all_goals (cases N1 <;> try rfl)
  all_goals (cases O1 <;> try rfl)
  all_goals (cases P1 <;> try rfl)
  all_goals (cases E1 <;> try rfl)
 by_cases k9:kind=9
 ·subst k9;simp only[Int.reduceEq,Int.reduceLE,Int.reduceLT,decide_true,decide_false,Bool.not_true,Bool.not_false,cond_true,cond_false,pure_bind,det_pure,exk_ret,exk_brk,bind_cond,det_cond,exk_cond,cond_pure,eq_self,Bool.true_and,Bool.and_true,Bool.false_and,Bool.and_false,e1,e2,e3]
  generalize goodC have_=A at *
  generalize goodC front=B at *
  generalize sameC have_ (C.onlyC have_ dev)=D1 at *
  generalize withinC front delta.to_=E1 at *
  generalize goodDl delta=F1 at *
  generalize (delta.events.zipIdx.all fun y=>!bad3 delta.events dev y.2 y.1)=G1 at *
  generalize touchB have_ delta.events=H1 at *
  generalize fourB delta.events=I1 at *
  generalize numB epoch=J1 at *
  generalize numB try_=K1 at *
  generalize decide (have_=[])=L1 at *
  generalize decide (front=[])=M1 at *
  generalize decide (delta.from_=[])=N1 at *
  generalize decide (delta.to_=[])=O1 at *
  generalize decide (delta.events=[])=P1 at *
  generalize decide (dev=0)=Q1 at *
  generalize decide (epoch=0)=R1 at *
  generalize decide (slot=0)=S1 at *
  generalize decide (try_=0)=T1 at *
  generalize decide (16 ≤ slot)=U1 at *
  generalize decide (why=0)=V1 at *
  generalize decide (why=1)=W1 at *
  generalize decide (why=2)=X1 at *
  clear e1 e2 e3;refine congrArg pure ?_;clear h1 h4
  all_goals (cases S1 <;> try rfl)
  all_goals (cases T1 <;> try rfl)
  all_goals (cases Q1 <;> try rfl)
  all_goals (cases J1 <;> try rfl)
  all_goals (cases L1 <;> cases A <;> (try (exact absurd (gh rfl) (by decide))) <;> cases M1 <;> cases B <;> (try (exact absurd (gf rfl) (by decide))))
  all_goals (try rfl)
  all_goals (cases W1 <;> try rfl)
  all_goals (cases X1 <;> try rfl)
  all_goals (cases N1 <;> try rfl)
  all_goals (cases O1 <;> try rfl)
  all_goals (cases P1 <;> try rfl)
  all_goals (cases E1 <;> try rfl)
 have k0:decide (kind < 1)=true ∨ decide (kind < 1)=false ∧ decide (9 < kind)=true:=by
  simp only[decide_eq_true_eq,decide_eq_false_iff_not];omega
 simp only[decide_eq_false k1,decide_eq_false k2,decide_eq_false k3,decide_eq_false k4,decide_eq_false k5,decide_eq_false k6,decide_eq_false k7,decide_eq_false k8,decide_eq_false k9,Int.reduceEq,Int.reduceLE,Int.reduceLT,decide_true,decide_false,Bool.not_true,Bool.not_false,cond_true,cond_false,pure_bind,det_pure,exk_ret,exk_brk,bind_cond,det_cond,exk_cond,cond_pure,eq_self,Bool.true_and,Bool.and_true,Bool.false_and,Bool.and_false,e1,e2,e3];rcases k0 with k0 | ⟨k0,k10⟩
 ·rw[k0]
  cases decide (dev=0) <;> cases numB epoch <;> rfl
 ·rw[k0,k10]
  cases decide (dev=0) <;> cases numB epoch <;> rfl
theorem eSame_eq(a b:TEvent)(h:a.kills.length ≤ 1000000000000):event_Same a b=pure (decide (a=b)):=by
 unfold event_Same;rw[D.dotEq,V.dot_Same_eq a.kills b.kills h,det_pure,pure_bind];have e:decide (a=b)=(decide (a.dot=b.dot)&&(decide (a.kind=b.kind)&&(decide (a.cid=b.cid)&&(decide (a.field=b.field)&&(decide (a.text=b.text)&&decide (a.kills=b.kills)))))):=by
  cases a;cases b;simp only[TEvent.mk.injEq,Bool.decide_and]
 rw[e]
 cases decide (a.dot=b.dot) <;> cases decide (a.kind=b.kind) <;> cases decide (a.cid=b.cid) <;> cases decide (a.field=b.field) <;> cases decide (a.text=b.text) <;> rfl
theorem eAll_eq(a b:List TEvent)(ha:a.length ≤ 1000000000000)(hk:∀ e∈a,e.kills.length ≤ 1000000000000):event_All a b=pure (decide (a=b)):=by
 unfold event_All slices_EqualFunc_sl_Event_sl_Event_Event_Event_event_Same
 by_cases hlen:a.length=b.length
 ·have h1:decide ((a.length:Int)=(b.length:Int))=true:=by simp[hlen]
  rw[h1,Bool.not_true,cond_false];have:=loopAll (body:=slices_EqualFunc_sl_Event_sl_Event_Event_Event_event_Same_l0 a b) a (fun i=>(i:Int)) (fun i x=>decide (b[i]?=some x)) (Ex.brk ()) (Ex.ret false) (fun i x hx hi=>by
   have hd:decide ((i:Int) < (a.length:Int))=true:=by simpa using hi
   obtain⟨y,hy⟩:∃ y,b[i]?=some y:=⟨_,List.getElem?_eq_getElem (by omega)⟩
   unfold slices_EqualFunc_sl_Event_sl_Event_Event_Event_event_Same_l0;simp only[hd,cond_true,idx_nat hx,idx_nat hy,pure_bind,eSame_eq x y (hk x (List.mem_of_getElem? hx)),det_pure,wSucc (show i < 9223372036854775807 by omega),hy]
   by_cases c:x=y
   ·subst c;simp
   ·have:¬ some y=some x:=fun e=>c (Option.some.inj e).symm
    simp[c,this]) (by
   unfold slices_EqualFunc_sl_Event_sl_Event_Event_Event_event_Same_l0;simp)
  rw[show(0:Int)=((0:Nat):Int) from rfl,this,pure_bind];have e:(a.zipIdx.all fun y=>decide (b[y.2]?=some y.1))=decide (a=b):=by
   rw[Bool.eq_iff_iff,List.all_eq_true,decide_eq_true_eq]
   constructor
   ·intro h;apply List.ext_getElem?;intro i
    by_cases hi:i < a.length
    ·have:=h (a[i],i) (by rw[List.mem_zipIdx_iff_getElem?];exact List.getElem?_eq_getElem hi);simp only[decide_eq_true_eq] at this;rw[this,List.getElem?_eq_getElem hi]
    ·rw[List.getElem?_eq_none (by omega),List.getElem?_eq_none (by omega)]
   ·rintro rfl y hy;rw[List.mem_zipIdx_iff_getElem?] at hy;simpa using hy
  rw[e]
  cases decide (a=b) <;> simp[det_pure,exk,pure_bind]
 ·have h1:decide ((a.length:Int)=(b.length:Int))=false:=by simp;omega
  have h2:decide (a=b)=false:=decide_eq_false fun e=>hlen (by rw[e])
  rw[h1,Bool.not_false,cond_true,det_pure,pure_bind,h2]
theorem delta_Same_eq{a b:TDelta}(ha:OkD a)(hb:OkD b):delta_Same a b=r20_Same a b:=by
 have h1:=ha.len;unfold delta_Same r20_Same;rw[C.Same_eq _ _ ha.from_.sm hb.from_.sm,C.Same_eq _ _ ha.to_.sm hb.to_.sm,C.rSame_eq _ _ ha.from_ hb.from_,C.rSame_eq _ _ ha.to_ hb.to_,eAll_eq _ _ (by omega) (fun e he=>by have:=ha.kills e he;omega),E.rAll_eq _ _ (by omega) (fun e he=>by have:=ha.kills e he;omega)]
theorem msg_Same_eq{a b:TMsg}(ha:OkM a)(hb:OkM b):msg_Same a b=r27_Same a b:=by
 have w:∀ {n:Int} (h:0 ≤ n ∧ n ≤ 65535),IntKind.u64.wrap n=n:=fun h=>wU64 h.1 (by omega)
 have k:∀ {n:Int} (h:0 ≤ n ∧ n ≤ 255),IntKind.u64.wrap n=n:=fun h=>wU64 h.1 (by omega)
 unfold msg_Same r27_Same;rw[k ha.kind,k hb.kind,k ha.slot,k hb.slot,w ha.dev,w hb.dev,k ha.why,k hb.why,C.Same_eq _ _ ha.have_.sm hb.have_.sm,C.Same_eq _ _ ha.front.sm hb.front.sm,C.rSame_eq _ _ ha.have_ hb.have_,C.rSame_eq _ _ ha.front hb.front,delta_Same_eq ha.delta hb.delta]
 cases decide (a.kind=b.kind) with
 | false=>rfl
 | true=>
  cases decide (a.slot=b.slot) with
  | false=>rfl
  | true=>
   cases decide (a.try_=b.try_) with
   | false=>rfl
   | true=>
    cases decide (a.dev=b.dev) with
    | false=>rfl
    | true=>
     cases decide (a.epoch=b.epoch) with
     | false=>rfl
     | true=>cases decide (a.why=b.why) <;> rfl
theorem works27 : l27_works=pure true:=by
 unfold l27_works msg_Good msg_ToHub;simp only[Int.reduceEq,Int.reduceLE,Int.reduceLT,decide_true,decide_false,Bool.not_true,Bool.not_false,cond_true,cond_false,pure_bind,det_pure,number_eq,bare_eq,exk_ret,exk_brk];rw[show numB 2=true from rfl];have b0:bareB ⟨8,0,0,1,2,0,[],[],⟨[],[],[]⟩⟩=true:=rfl;have b1:bareB ⟨8,0,0,1,2,1,[],[],⟨[],[],[]⟩⟩=false:=rfl;simp only[Bool.not_true,Bool.not_false,cond_false,pure_bind,cond_true,det_pure,b0,b1]
def fewC(c:List TPart):Bool:=decide (c.length ≤ 30)&&c.all fun p=>decide (p.runs.length ≤ 30)
def fewM(m:TMsg):Bool:=fewC m.have_&&(fewC m.front&&(fewC m.delta.from_&&(fewC m.delta.to_&&E.fewE m.delta.events 30)))
theorem fewM_eq(m:TMsg):r27_Few m=pure (fewM m):=by
 unfold r27_Few r20_Few fewM fewC;rw[C.rFew_eq,C.rFew_eq,C.rFew_eq,C.rFew_eq,show r13_Few m.delta.events 30=pure (E.fewE m.delta.events 30) from E.rFew_eq m.delta.events 30 (by decide)];simp only[det_pure,pure_bind,cond_pure_and]
structure InM(m:TMsg):Prop where
 kind:0 ≤ m.kind ∧ m.kind ≤ 255
 slot:0 ≤ m.slot ∧ m.slot ≤ 255
 dev:0 ≤ m.dev ∧ m.dev ≤ 65535
 why:0 ≤ m.why ∧ m.why ≤ 255
 have_:∀ p∈m.have_,0 ≤ p.dev
 front:∀ p∈m.front,0 ≤ p.dev
 from_:∀ p∈m.delta.from_,0 ≤ p.dev
 to_:∀ p∈m.delta.to_,0 ≤ p.dev
 evs:∀ e∈m.delta.events,e.kills.length ≤ 300 ∧ e.text.size ≤ 200 → OkE e
theorem okM{m:TMsg}(h:InM m)(hf:fewM m=true):OkM m:=by
 unfold fewM at hf;simp only[Bool.and_eq_true] at hf;obtain⟨f1,f2,f3,f4,f5⟩:=hf;obtain⟨g1,g2⟩:=E.few_mem f5;have t:=C.few_tot f1;exact⟨h.kind,h.slot,h.dev,h.why,C.ok_few h.have_ t,C.ok_few h.front (C.few_tot f2),⟨C.ok_few h.from_ (C.few_tot f3),C.ok_few h.to_ (C.few_tot f4),fun e he=>h.evs e he (g2 e he),by omega,fun e he=>(g2 e he).1⟩,by omega⟩
theorem good_pure{m:TMsg}(h:OkM m):∃ b,r27_Good m=pure b:=by
 obtain⟨h1,h2,h3,h4,h5,h6,h7,h8⟩:=h;have hev:∀ e∈m.delta.events,OkE e:=h7.evs;unfold r27_Good;simp only[rnumber_eq,rdelta_Good_eq h7,rpush_eq hev h7.len,rtouches_eq h7.len h5,rnone_eq,C.rGood_eq _ h5,C.rGood_eq _ h6,C.rOnly_eq _ _ h3.1 h5,C.rSame_eq _ _ h5 (only_ok h5 h8 h3.1),C.rWithin_eq _ _ h6 h7.to_,det_pure,pure_bind,cond_pure,bind_cond];exact⟨_,rfl⟩
end Go.Ep.M.F
namespace Go.Ep.M.F
open Go
theorem same_self{m:TMsg}(h:OkM m):r27_Same m m=pure true:=by
 have h1:=h.delta.len;unfold r27_Same r20_Same;simp only[C.rSame_eq _ _ h.have_ h.have_,C.rSame_eq _ _ h.front h.front,C.rSame_eq _ _ h.delta.from_ h.delta.from_,C.rSame_eq _ _ h.delta.to_ h.delta.to_,E.rAll_eq m.delta.events m.delta.events (by omega) (fun e he=>by have:=h.delta.kills e he;omega),det_pure,pure_bind,decide_true,cond_true,Bool.not_true,cond_false]
theorem small_of{m:TMsg}(hf:fewM m=true):SmM m:=by
 unfold fewM at hf;simp only[Bool.and_eq_true] at hf;obtain⟨f1,f2,f3,f4,f5⟩:=hf;obtain⟨g1,g2⟩:=E.few_mem f5;have c:∀ {l:List TPart},fewC l=true → SmC l:=fun {l} h=>by
  unfold fewC at h;simp only[Bool.and_eq_true,decide_eq_true_eq,List.all_eq_true] at h;exact⟨by omega,fun x hx=>by have:=h.2 x hx;omega⟩
 exact⟨c f1,c f2,c f3,c f4,by omega,fun e he=>by have:=(g2 e he).1;omega⟩
theorem msgOwn_eq(m:TMsg)(h:InM m):l27_MsgOwn m=pure true:=by
 unfold l27_MsgOwn;rw[fewM_eq,works27,det_pure,pure_bind]
 cases f:fewM m with
 | false=>simp only[Bool.not_false,cond_true,det_pure,pure_bind]
 | true=>
  have o:=okM h f;obtain⟨x,e⟩:=good_pure o;rw[Bool.not_true,cond_false,need_true (small_of f),msg_Same_eq o o,same_self o,good_same o,e];simp only[det_pure,pure_bind];rw[need_true trivial,need_true trivial,need_true trivial]
end Go.Ep.M.F
namespace Go.Ep
open Go.RowKit Go.ChangeShapes Go.WideShapes
abbrev All : Nat → Prop:=fun _=>True
mutual
def bulk{H:Type}:DataW H → Nat
 | .lit (.string bytes)=>bytes.length+1
 | .lit _=>1
 | .nil=>1
 | .ptr d=>bulk d+1
 | .slice elems spare=>bulkAll elems+bulkAll spare+1
 | .agg parts=>bulkAll parts+1
 | .iface _ d=>bulk d+1
 | .map entries=>bulkEntries entries+1
 | .held _=>1
def bulkAll{H:Type}:List (DataW H) → Nat
 | []=>0
 | d::r=>bulk d+bulkAll r
def bulkEntries{H:Type}:List (Lit×DataW H) → Nat
 | []=>0
 | x::r=>bulkEntry x+bulkEntries r
def bulkEntry{H:Type}:Lit×DataW H → Nat
 | (.string bytes,d)=>bytes.length+bulk d+1
 | (_,d)=>bulk d+1
end
theorem one_bulk{H:Type}(d:DataW H):1 ≤ bulk d:=by
 cases d with
 | lit l=>cases l <;> simp[bulk]
 | nil=>simp[bulk]
 | ptr d=>simp[bulk]
 | slice elems spare=>simp[bulk]
 | agg parts=>simp[bulk]
 | iface t d=>simp[bulk]
 | map entries=>simp[bulk]
 | held h=>simp[bulk]
theorem bulkAll_app{H:Type}(l r:List (DataW H)):bulkAll (l++r)=bulkAll l+bulkAll r:=by
 induction l with
 | nil=>simp[bulkAll]
 | cons x l ih=>simp only[List.cons_append,bulkAll,ih];omega
def szL{α:Type}(sz:α → Nat):List α → Nat
 | []=>0
 | a::r=>sz a+szL sz r
theorem szL_app{α:Type}(sz:α → Nat)(l r:List α):szL sz (l++r)=szL sz l+szL sz r:=by
 induction l with
 | nil=>simp[szL]
 | cons x l ih=>simp only[List.cons_append,szL,ih];omega
structure Opn(P:Program)(t:TypeId)(k:Nat){α:Type}(enc:α → List DV)(ok:α → Prop)(sz:α → Nat):Prop where
 cells:P.cellsOf t=k
 op:∀ {H:Type} {en:TypeId×Value → H} {w:World} {fuel:Nat} {cs:List Value} {x:DataW H×List MemPlace},DataW.trod en P w 0 (fun _=>true) true fuel t cs=some x →
  ∃ a,ok a ∧ cs.length=k ∧ (enc a).length=k ∧ (∀ (j:Nat) (y:DV) (u:Value),(enc a)[j]?=some y → cs[j]?=some u → DRd w All y u) ∧ sz a ≤ bulk x.1
section
variable{P:Program}{t:TypeId}
theorem Opn.map{k:Nat}{α β:Type}{enc:α → List DV}{enc':β → List DV}{ok:α → Prop}{ok':β → Prop}{sz:α → Nat}{sz':β → Nat}(h:Opn P t k enc ok sz)(f:α → β)(he:∀ a,ok a → enc' (f a)=enc a)(ho:∀ a,ok a → ok' (f a))(hz:∀ a,sz' (f a) ≤ sz a):Opn P t k enc' ok' sz':=
 ⟨h.cells,fun hx=>let ⟨a,h1,h2,h3,h4,h5⟩:=h.op hx;⟨f a,ho a h1,h2,by rw[he a h1];exact h3,by rw[he a h1];exact h4,Nat.le_trans (hz a) h5⟩⟩
theorem one_get{w:World}{y:DV}{u:Value}(h:DRd w All y u):∀ (j:Nat) (y':DV) (u':Value),[y][j]?=some y' → [u][j]?=some u' → DRd w All y' u':=by
 intro j y' u' h1 h2
 cases j with
 | zero=>simp at h1 h2;subst h1;subst h2;exact h
 | succ j=>simp at h1
def okK(k:IntKind)(n:Int):Prop:=(Lit.int k n).wf=true
theorem Opn.int{k:IntKind}(hu:P.underlying t=some (.int k))(hc:P.cellsOf t=1):Opn P t 1 (eK k) (okK k) (fun _=>1):=by
 refine⟨hc,fun {H en w fuel cs x} h=>?_⟩
 cases fuel with
 | zero=>simp[DataW.trod] at h
 | succ fuel=>
  unfold DataW.trod at h;rw[hu] at h
  split at h <;> simp_all
  case h_2 n _=>
   obtain⟨⟨h1,h2⟩,_⟩:=h;subst h1;refine⟨n,h2,rfl,?_,one_bulk _⟩;intro j y u h1 h3;exact one_get (.v _ rfl) j y u h1 h3
theorem okU64{n:Int}(h:okK .u64 n):0 ≤ n ∧ n < 18446744073709551616:=by
 simp[okK,Lit.wf,IntKind.min,IntKind.max,IntKind.signed,IntKind.bits] at h;omega
theorem okU16{n:Int}(h:okK .u16 n):0 ≤ n ∧ n < 65536:=by
 simp[okK,Lit.wf,IntKind.min,IntKind.max,IntKind.signed,IntKind.bits] at h;omega
theorem okU8{n:Int}(h:okK .u8 n):0 ≤ n ∧ n < 256:=by
 simp[okK,Lit.wf,IntKind.min,IntKind.max,IntKind.signed,IntKind.bits] at h;omega
theorem Opn.str(hu:P.underlying t=some .string)(hc:P.cellsOf t=1):Opn P t 1 eS (fun s=>s.size ≤ 9223372036854775807) (fun s=>s.size+1):=by
 refine⟨hc,fun {H en w fuel cs x} h=>?_⟩
 cases fuel with
 | zero=>simp[DataW.trod] at h
 | succ fuel=>
  unfold DataW.trod at h;rw[hu] at h
  split at h <;> simp_all
  case h_4=>
   rename_i s
   obtain⟨h1,h2⟩:=h;refine⟨s,by have:=h1;unfold maxLen at this;exact this,rfl,?_,?_⟩
   ·intro j y u h1 h2;exact one_get (.v _ rfl) j y u h1 h2
   ·subst h2;have e:s.data.toList.length=s.size:=Array.length_toList;show s.size+1 ≤ bulk (DataW.lit (Lit.string s.data.toList));unfold bulk;omega
theorem Opn.slice{e:TypeId}{k:Nat}{α:Type}{enc:α → List DV}{ok:α → Prop}{sz:α → Nat}(h:Opn P e k enc ok sz)(hu:P.underlying t=some (.slice e))(hc:P.cellsOf t=1)(hk:0 < k) :
  Opn P t 1 (eL enc) (fun l=>l.length ≤ 9223372036854775807 ∧ ∀ a∈l,ok a) (fun l=>szL sz l+1):=by
 refine⟨hc,fun {H en w fuel cs x} hx=>?_⟩;rcases Deep.open_slice hu hx with⟨rfl,_⟩ | ⟨a,len,cap,m,n,D,Pl,rfl,_,hl,hm,hmm,hxD,hel⟩
 ·exact⟨[],⟨Nat.zero_le _,by simp⟩,rfl,rfl,one_get (.nil none 0 (Nat.zero_le _) (fun _=>rfl)),one_bulk _⟩
 simp only[if_true] at hmm;subst hmm;rw[h.cells] at hel;have hcut:∀ n0,n0 ≤ len → ∃ l:List α,l.length=n0 ∧ (∀ a∈l,ok a) ∧ szL sz l ≤ bulkAll ((List.range n0).map D) ∧ ∀ (i:Nat) (b:α),l[i]?=some b → (enc b).length=k ∧ ∀ (j:Nat) (y:DV),(enc b)[j]?=some y → ∃ u,w.cell? (a.add (i*k+j))=some u ∧ DRd w All y u:=by
  intro n0
  induction n0 with
  | zero=>intro _;exact⟨[],rfl,by simp,by simp[szL],by simp⟩
  | succ n0 ih=>
   intro hn;obtain⟨l,h1,h2,hz,h3⟩:=ih (by omega);obtain⟨cs',hc',ht'⟩:=hel n0 (by omega);obtain⟨b,hb1,hb2,hb3,hb4,hb5⟩:=h.op ht';obtain⟨_,_,hcell⟩:=World.cells?_some hc';refine⟨l++[b],by simp[h1],?_,by rw[szL_app,List.range_succ,List.map_append,bulkAll_app];simp only[szL,List.map_cons,List.map_nil,bulkAll];simp only at hb5;omega,?_⟩
   ·intro a ha;rcases List.mem_append.1 ha with ha | ha
    ·exact h2 a ha
    ·simp at ha;subst ha;exact hb1
   ·intro i b' hi;rw[List.getElem?_append] at hi
    split at hi
    ·exact h3 i b' hi
    ·rename_i hge
     have hi0:i=n0:=by
      have:i - l.length < 1:=by simpa using (List.getElem?_eq_some_iff.1 hi).1
      omega
     subst hi0;simp[h1] at hi;subst hi;refine⟨hb3,fun j y hy=>?_⟩;have hj:j < k:=by rw[← hb3];exact(List.getElem?_eq_some_iff.1 hy).1
     have hcj:=hcell j hj;rw[Deep.add_add] at hcj;have hu':cs'[j]?=some (cs'[j]'(by omega)):=List.getElem?_eq_getElem (by omega);exact⟨_,by rw[hcj,hu'],hb4 j y _ hy hu'⟩
 obtain⟨l,h1,h2,hz,h3⟩:=hcut len (Nat.le_refl _);refine⟨l,⟨by unfold maxLen at hm;omega,h2⟩,rfl,rfl,one_get ?_,?_⟩
 rotate_left
 ·rw[hxD];simp only[bulk];omega
 by_cases h0:len=0
 ·have:l=[]:=List.eq_nil_of_length_eq_zero (by omega);subst this;subst h0;exact .nil _ _ hm (fun e=>by cases e)
 ·-- the first cell tells that the address is a plain one
  have hl0:0 < l.length:=by omega
  obtain⟨hk0,hc0⟩:=h3 0 _ (List.getElem?_eq_getElem hl0);obtain⟨u0,hu0,_⟩:=hc0 0 _ (List.getElem?_eq_getElem (by omega:0 < (enc l[0]).length));have hspot:a.spot=none:=by simpa[Addr.add] using World.cell?_spot hu0
  obtain⟨b,off,spot⟩:=a;simp only at hspot;subst hspot;have hb:b < w.heap.size:=by
   rw[Addr.add_lit] at hu0;unfold World.cell? at hu0
   cases hh:w.heap[b]? with
   | none=>simp[hh] at hu0
   | some o=>exact(Array.getElem?_eq_some_iff.1 hh).1
  have hlen:(l.map enc).length=len:=by simp[h1]
  rw[← hlen];refine .sl _ b off m k (fun i j=>(w.cell? ⟨b,off+(i*k+j),none⟩).getD undef) (by omega) hm trivial hb ?_ ?_ ?_
  ·intro i cs hi;rw[List.getElem?_map] at hi
   cases hx:l[i]? with
   | none=>simp[hx] at hi
   | some y=>simp[hx] at hi;subst hi;exact(h3 i y hx).1
  ·intro i j hi hj;have hil:i < l.length:=by simpa using hi
   obtain⟨e1,e2⟩:=h3 i _ (List.getElem?_eq_getElem hil);obtain⟨u,hu,_⟩:=e2 j _ (List.getElem?_eq_getElem (by omega:j < (enc l[i]).length));rw[Addr.add_lit] at hu;simp[hu]
  ·intro i cs j x hi hx;rw[List.getElem?_map] at hi
   cases hy:l[i]? with
   | none=>simp[hy] at hi
   | some y=>
    simp[hy] at hi;subst hi;obtain⟨u,hu,hd⟩:=(h3 i y hy).2 j x hx;rw[Addr.add_lit] at hu;simpa[hu] using hd
structure OpnF(P:Program)(fs:List Field)(off k:Nat){α:Type}(enc:α → List DV)(ok:α → Prop)(sz:α → Nat):Prop where
 op:∀ {H:Type} {en:TypeId×Value → H} {w:World} {n:Nat} {cs:List Value} {xs:List (DataW H×List MemPlace)},xs.length=fs.length →
  (∀ (i:Nat) (f:Field),fs[i]?=some f → DataW.trod en P w 0 (fun _=>true) true n f.type ((cs.drop f.offset).take (P.cellsOf f.type))=xs[i]?) →
  ∃ a,ok a ∧ (enc a).length=k ∧ (∀ (j:Nat) (y:DV) (u:Value),(enc a)[j]?=some y → cs[off+j]?=some u → DRd w All y u) ∧ sz a ≤ bulkAll (xs.map (·.1))
theorem OpnF.nil(off:Nat):OpnF P [] off 0 (fun _:Unit=>[]) (fun _=>True) (fun _=>0):=⟨fun _ _=>⟨(),trivial,rfl,by simp,Nat.zero_le _⟩⟩
theorem OpnF.cons{f:Field}{fs:List Field}{off k1 k2:Nat}{α β:Type}{e1:α → List DV}{o1:α → Prop}{e2:β → List DV}{o2:β → Prop}{z1:α → Nat}{z2:β → Nat}(h1:Opn P f.type k1 e1 o1 z1)(ho:f.offset=off)(h2:OpnF P fs (off+k1) k2 e2 o2 z2) :
  OpnF P (f::fs) off (k1+k2) (fun p:α×β=>e1 p.1++e2 p.2) (fun p=>o1 p.1 ∧ o2 p.2) (fun p=>z1 p.1+z2 p.2):=by
 refine⟨fun {H en w n cs xs} hlen hx=>?_⟩
 cases xs with
 | nil=>simp at hlen
 | cons x xs=>
  have hx0:=hx 0 f rfl;simp only[List.getElem?_cons_zero] at hx0;obtain⟨a,ha1,ha2,ha3,ha4,ha5⟩:=h1.op hx0;obtain⟨b,hb1,hb2,hb3,hb4⟩:=h2.op (xs:=xs) (by simpa using hlen) (fun i f' hf=>by have:=hx (i+1) f' (by simpa using hf);simpa using this);refine⟨(a,b),⟨ha1,hb1⟩,by simp[ha3,hb2],?_,by simp only[List.map_cons,bulkAll];omega⟩;intro j y u hy hu;simp only[List.getElem?_append] at hy
  by_cases hj:j < k1
  ·rw[if_pos (by omega)] at hy;refine ha4 j y u hy ?_;rw[List.getElem?_take,h1.cells,if_pos hj,List.getElem?_drop,ho];exact hu
  ·rw[if_neg (by omega),ha3] at hy;refine hb3 (j - k1) y u hy ?_;rw[← hu]
   congr 1
   omega
theorem Opn.struct{fs:List Field}{k:Nat}{α:Type}{enc:α → List DV}{ok:α → Prop}{sz:α → Nat}(hu:P.underlying t=some (.struct fs.toArray))(hc:P.cellsOf t=k)(h:OpnF P fs 0 k enc ok sz):Opn P t k enc ok (fun a=>sz a+1):=by
 refine⟨hc,fun {H en w fuel cs x} hx=>?_⟩;obtain⟨xs,n,_,hxe,hlen,hxl,hf⟩:=DataW.trod_struct hu hx;obtain⟨a,h1,h2,h3,h4⟩:=h.op (cs:=cs) (xs:=xs) (by simpa using hxl) (fun i f hi=>hf i f (by simpa using hi));exact⟨a,h1,by rw[hlen,hc],h2,fun j y u hy hu=>h3 j y u hy (by simpa using hu),by rw[hxe];simp only[bulk];omega⟩
theorem Opn.argAgg{H:Type}{en:TypeId×Value → H}{w:World}{us:Array Value}{d:DataW H}{ps:List MemPlace}{k:Nat}{α:Type}{enc:α → List DV}{ok:α → Prop}{sz:α → Nat}(h:Opn P t k enc ok sz)
  (hx:DataW.Trod en P w 0 (fun _=>true) true t (.agg us) d ps):∃ a,ok a ∧ Rd w g0 All (.agg (List.map .d (enc a))) (.agg us) ∧ sz a ≤ bulk d:=by
 obtain⟨fuel,hf⟩:=hx;obtain⟨a,ha,hl,hel,hr,hz⟩:=h.op hf;have hcs:(Value.agg us).cells.toList=us.toList:=rfl;rw[hcs] at hl hr;refine⟨a,ha,?_,hz⟩;have key:∀ (i:Nat) (y:DV) (u:Value),(enc a)[i]?=some y → us.toList[i]?=some u → DRd w All y u:=hr;have:=Rd.agg (w:=w) (g:=g0) (S:=All) ((enc a).map .d) us.toList (by simp[hel,hl]) (fun i p u hp hu=>by
  rw[List.getElem?_map] at hp
  cases hy:(enc a)[i]? with
  | none=>simp[hy] at hp
  | some y=>simp[hy] at hp;subst hp;exact .d (key i y u hy hu)) (fun u hu=>by
  obtain⟨i,hi,rfl⟩:=List.getElem_of_mem hu;have hi2:i < (enc a).length:=by omega
  exact(key i _ _ (List.getElem?_eq_getElem hi2) (List.getElem?_eq_getElem hi)).one)
 simpa using this
theorem trodAll_below{H:Type}{en:TypeId×Value → H}(hl:laidOutB P=true){W W':World}(hb:Below W.heap.size W W'):∀ {ts:List TypeId} {vs:List Value} {ds:List (DataW H)} {ps:List MemPlace},
  (∀ t∈ts,P.readableRec t=true ∧ t < P.types.size) → DataW.TrodAll en P W 0 (fun _=>true) true ts vs ds ps → (∀ x∈ps,x.block < W.heap.size) → DataW.TrodAll en P W' 0 (fun b=>decide (b < W.heap.size)) true ts vs ds ps
 | [],[],[],ps,_,h,_=>h
 | t::ts,v::vs,d::ds,ps,hr,h,hlt=>by
  obtain⟨p,q,h1,h2,rfl⟩:=h;have hrt:=hr t (by simp);exact⟨p,q,Below.trod hl hrt.1 hrt.2 h1 hb (fun x hx=>hlt x (List.mem_append.2 (.inl hx))),trodAll_below hl hb (fun t ht=>hr t (by simp[ht])) h2 (fun x hx=>hlt x (List.mem_append.2 (.inr hx))),rfl⟩
 | [],[],_::_,_,_,h,_=>h.elim
 | [],_::_,_,_,_,h,_=>h.elim
 | _::_,[],_,_,_,h,_=>h.elim
 | _::_,_::_,[],_,_,h,_=>h.elim
theorem trodAll_len{H:Type}{en:TypeId×Value → H}{w:World}{base:Nat}{sp:Nat → Bool}{hd:Bool}:∀ {ts:List TypeId} {vs:List Value} {ds:List (DataW H)} {ps:List MemPlace},DataW.TrodAll en P w base sp hd ts vs ds ps → ds.length=ts.length
 | [],[],[],_,_=>rfl
 | _::_,_::_,_::_,_,h=>by
  obtain⟨_,_,_,h2,_⟩:=h;simp[trodAll_len h2]
 | [],[],_::_,_,h=>h.elim
 | [],_::_,_,_,h=>h.elim
 | _::_,[],_,_,h=>h.elim
 | _::_,_::_,[],_,h=>h.elim
theorem post_true{H:Type}{en:TypeId×Value → H}{fn:Func}{s:ChangeSpec}{tb:TypeId}{W W':World}{args:Array Value}{ds gs:List (DataW H)}{before:List MemPlace}(hl:laidOutB P=true)
  (hW:DataW.Whole en P fn.params.toList s.vars false W args.toList ds gs before) (hv:s.vars=[]) (hs:∀ ds:List (DataW H),ds.length=fn.params.size → (s.fn H ds).results=[.lit (.bool true)] ∧ (s.fn H ds).args=ds ∧ (s.fn H ds).vars=[])
  (hres:fn.resultTypes=#[tb]) (htb:P.underlying tb=some .bool) (hr:∀ t∈fn.params.toList,P.readableRec t=true ∧ t < P.types.size) (hb:Below W.heap.size W W') :
  s.post en P fn false true false false W args (.bool true) W':=by
 have hW':=hW;obtain⟨p,q,hA,hV,hpq,hfz,hnd⟩:=hW;rw[hv] at hV;obtain⟨rfl,rfl⟩:=trodVars_none hV;simp only[List.append_nil] at hpq;subst hpq;have hlt:∀ x∈before,x.block < W.heap.size:=fun x hx=>by simpa using hW'.lt x hx
 have hlen:ds.length=fn.params.size:=by simpa using trodAll_len hA
 obtain⟨e1,e2,e3⟩:=hs (ds++[]) (by simpa using hlen);refine⟨ds,[],before,[],before,[],hW',?_,?_,?_,hb.frame _,fun h=>by cases h⟩
 ·rw[e1,hres];exact trodAll_mk1 (shut_bool htb true)
 ·rw[e2,List.append_nil];exact trodAll_below hl hb hr hA hlt
 ·rw[e3,hv];rfl
end
end Go.Ep
namespace Go.Ep
set_option linter.unusedVariables false
def TDot.ok(x:TDot):Prop:=okK .u16 x.dev ∧ okK .u64 x.n
def TDot.sz(x:TDot):Nat:=(1+(1+0))+1
def TRun.ok(x:TRun):Prop:=okK .u64 x.lo ∧ okK .u64 x.hi
def TRun.sz(x:TRun):Nat:=(1+(1+0))+1
def TPart.ok(x:TPart):Prop:=okK .u16 x.dev ∧ (List.length x.runs ≤ 9223372036854775807 ∧ ∀ a∈x.runs,TRun.ok a)
def TPart.sz(x:TPart):Nat:=(1+((szL TRun.sz x.runs+1)+0))+1
def TEvent.ok(x:TEvent):Prop:=TDot.ok x.dot ∧ okK .u8 x.kind ∧ okK .u64 x.cid ∧ okK .u8 x.field ∧ ByteArray.size x.text ≤ 9223372036854775807 ∧ (List.length x.kills ≤ 9223372036854775807 ∧ ∀ a∈x.kills,TDot.ok a)
def TEvent.sz(x:TEvent):Nat:=(TDot.sz x.dot+(1+(1+(1+((ByteArray.size x.text+1)+((szL TDot.sz x.kills+1)+0))))))+1
def TDelta.ok(x:TDelta):Prop:=(List.length x.from_ ≤ 9223372036854775807 ∧ ∀ a∈x.from_,TPart.ok a) ∧ (List.length x.to_ ≤ 9223372036854775807 ∧ ∀ a∈x.to_,TPart.ok a) ∧ (List.length x.events ≤ 9223372036854775807 ∧ ∀ a∈x.events,TEvent.ok a)
def TDelta.sz(x:TDelta):Nat:=((szL TPart.sz x.from_+1)+((szL TPart.sz x.to_+1)+((szL TEvent.sz x.events+1)+0)))+1
def TMsg.ok(x:TMsg):Prop:=okK .u8 x.kind ∧ okK .u8 x.slot ∧ okK .u64 x.try_ ∧ okK .u16 x.dev ∧ okK .u64 x.epoch ∧ okK .u8 x.why ∧ (List.length x.have_ ≤ 9223372036854775807 ∧ ∀ a∈x.have_,TPart.ok a) ∧ (List.length x.front ≤ 9223372036854775807 ∧ ∀ a∈x.front,TPart.ok a) ∧ TDelta.ok x.delta
def TMsg.sz(x:TMsg):Nat:=(1+(1+(1+(1+(1+(1+((szL TPart.sz x.have_+1)+((szL TPart.sz x.front+1)+(TDelta.sz x.delta+0)))))))))+1
end Go.Ep
namespace Go.Proofs
open Go.Ep
set_option maxRecDepth 100000
theorem opnTDot : Opn Tryz.prog 41 2 TDot.e TDot.ok TDot.sz:=(Opn.struct Tryz.underlying41 (by kernel_rfl) (OpnF.cons (Opn.int Tryz.underlying23 (by kernel_rfl)) rfl (OpnF.cons (Opn.int Tryz.underlying22 (by kernel_rfl)) rfl (OpnF.nil _)))).map (fun p=>⟨p.1,p.2.1⟩) (fun _ _=>rfl) (fun p h=>⟨h.1,h.2.1⟩) (fun _=>Nat.le_refl _)
theorem opnTRun : Opn Tryz.prog 39 2 TRun.e TRun.ok TRun.sz:=(Opn.struct Tryz.underlying39 (by kernel_rfl) (OpnF.cons (Opn.int Tryz.underlying22 (by kernel_rfl)) rfl (OpnF.cons (Opn.int Tryz.underlying22 (by kernel_rfl)) rfl (OpnF.nil _)))).map (fun p=>⟨p.1,p.2.1⟩) (fun _ _=>rfl) (fun p h=>⟨h.1,h.2.1⟩) (fun _=>Nat.le_refl _)
theorem opnTPart : Opn Tryz.prog 37 2 TPart.e TPart.ok TPart.sz:=(Opn.struct Tryz.underlying37 (by kernel_rfl) (OpnF.cons (Opn.int Tryz.underlying23 (by kernel_rfl)) rfl (OpnF.cons (opnTRun.slice Tryz.underlying35 (by kernel_rfl) (by decide)) rfl (OpnF.nil _)))).map (fun p=>⟨p.1,p.2.1⟩) (fun _ _=>rfl) (fun p h=>⟨h.1,h.2.1⟩) (fun _=>Nat.le_refl _)
theorem opnTEvent : Opn Tryz.prog 44 7 TEvent.e TEvent.ok TEvent.sz:=(Opn.struct Tryz.underlying44 (by kernel_rfl) (OpnF.cons opnTDot rfl (OpnF.cons (Opn.int Tryz.underlying5 (by kernel_rfl)) rfl (OpnF.cons (Opn.int Tryz.underlying22 (by kernel_rfl)) rfl (OpnF.cons (Opn.int Tryz.underlying5 (by kernel_rfl)) rfl (OpnF.cons (Opn.str Tryz.underlying9 (by kernel_rfl)) rfl (OpnF.cons (opnTDot.slice Tryz.underlying42 (by kernel_rfl) (by decide)) rfl (OpnF.nil _)))))))).map (fun p=>⟨p.1,p.2.1,p.2.2.1,p.2.2.2.1,p.2.2.2.2.1,p.2.2.2.2.2.1⟩) (fun _ _=>rfl) (fun p h=>⟨h.1,h.2.1,h.2.2.1,h.2.2.2.1,h.2.2.2.2.1,h.2.2.2.2.2.1⟩) (fun _=>Nat.le_refl _)
theorem opnTDelta : Opn Tryz.prog 28 3 TDelta.e TDelta.ok TDelta.sz:=(Opn.struct Tryz.underlying28 (by kernel_rfl) (OpnF.cons (opnTPart.slice Tryz.underlying25 (by kernel_rfl) (by decide)) rfl (OpnF.cons (opnTPart.slice Tryz.underlying25 (by kernel_rfl) (by decide)) rfl (OpnF.cons (opnTEvent.slice Tryz.underlying26 (by kernel_rfl) (by decide)) rfl (OpnF.nil _))))).map (fun p=>⟨p.1,p.2.1,p.2.2.1⟩) (fun _ _=>rfl) (fun p h=>⟨h.1,h.2.1,h.2.2.1⟩) (fun _=>Nat.le_refl _)
theorem opnTMsg : Opn Tryz.prog 30 11 TMsg.e TMsg.ok TMsg.sz:=(Opn.struct Tryz.underlying30 (by kernel_rfl) (OpnF.cons (Opn.int Tryz.underlying5 (by kernel_rfl)) rfl (OpnF.cons (Opn.int Tryz.underlying5 (by kernel_rfl)) rfl (OpnF.cons (Opn.int Tryz.underlying22 (by kernel_rfl)) rfl (OpnF.cons (Opn.int Tryz.underlying23 (by kernel_rfl)) rfl (OpnF.cons (Opn.int Tryz.underlying22 (by kernel_rfl)) rfl (OpnF.cons (Opn.int Tryz.underlying5 (by kernel_rfl)) rfl (OpnF.cons (opnTPart.slice Tryz.underlying25 (by kernel_rfl) (by decide)) rfl (OpnF.cons (opnTPart.slice Tryz.underlying25 (by kernel_rfl) (by decide)) rfl (OpnF.cons opnTDelta rfl (OpnF.nil _))))))))))).map (fun p=>⟨p.1,p.2.1,p.2.2.1,p.2.2.2.1,p.2.2.2.2.1,p.2.2.2.2.2.1,p.2.2.2.2.2.2.1,p.2.2.2.2.2.2.2.1,p.2.2.2.2.2.2.2.2.1⟩) (fun _ _=>rfl) (fun p h=>⟨h.1,h.2.1,h.2.2.1,h.2.2.2.1,h.2.2.2.2.1,h.2.2.2.2.2.1,h.2.2.2.2.2.2.1,h.2.2.2.2.2.2.2.1,h.2.2.2.2.2.2.2.2.1⟩) (fun _=>Nat.le_refl _)
end Go.Proofs

/- Side texts. -/
import Derived.Test.YtjdnjamfgdjncaaGreatADs11
set_option linter.unusedVariables false
set_option linter.unusedSimpArgs false
namespace Go.Ep.M.F
open Go
open E (OkE yE)
def vf(l:List DT)(d:DT):Bool:=l.any fun x=>decide (x=d)
theorem VZ(l:List DT)(d:DT)(hl:l.length<=1000000000000):JT l d=pure (vf l d):=by
 unfold JT yz xX;have:=loopF (body:=yT l d) l (fun i=>(i:Int)) (fun _ x=>decide (x=d)) (fun i _=>Ex.ret (i:Int)) (pure (Ex.brk ())) (fun i x hx hi=>by
  have hd:decide ((i:Int) < (l.length:Int))=true:=by simpa using hi
  unfold yT;simp only[hd,cond_true,zK hx,zA,D.Qe,yL (show i < 9223372036854775807 by omega),yw,eq_comm (a:=d) (b:=x),decide_eq_true_eq]) (by
  unfold yT;simp[zA])
 rw[show(0:Int)=((0:Nat):Int) from rfl,this];have hf:(l.zipIdx.find? fun y=>decide (y.1=d)).isSome=vf l d:=by
  rw[List.isSome_find?];unfold vf;rw[Bool.eq_iff_iff,List.any_eq_true,List.any_eq_true]
  constructor
  ·rintro⟨y,hy,h⟩;exact⟨y.1,List.fst_mem_of_mem_zipIdx hy,h⟩
  ·rintro⟨x,hx,h⟩;obtain⟨i,hi⟩:=List.getElem?_of_mem hx;exact⟨(x,i),by rw[List.mk_mem_zipIdx_iff_getElem?];exact hi,h⟩
 rw[<- hf]
 cases l.zipIdx.find? fun y=>decide (y.1=d) with
 | none=>simp only[zA,zB,uh];rfl
 | some y=>simp only[zA,zB,JP];simp
def wk(l:List EV)(d:DT):Bool:=l.any fun e=>vf e.kills d
theorem Dead_eq(l:List EV)(d:DT)(hl:l.length<=1000000000000)(hk:∀ e∈l,e.kills.length<=1000000000000):XI l d=pure (wk l d):=by
 unfold XI;have:=vZ (body:=uO l d) l (fun i=>(i:Int)) (fun _ x=>!vf x.kills d) (Ex.brk ()) (Ex.ret true) (fun i x hx hi=>by
  have hd:decide ((i:Int) < (l.length:Int))=true:=by simpa using hi
  unfold uO Xu;simp only[hd,cond_true,zK hx,zA,VZ x.kills d (hk x (List.mem_of_getElem? hx)),zB,yL (show i < 9223372036854775807 by omega)]
  cases vf x.kills d <;> rfl) (by
  unfold uO;simp)
 rw[show(0:Int)=((0:Nat):Int) from rfl,this,zA,E.VN l fun x=>!vf x.kills d];have e:wk l d=!(l.all fun x=>!vf x.kills d):=by simp[wk,List.all_eq_not_any_not]
 rw[e]
 cases l.all fun x=>!vf x.kills d <;> rfl
def Qm(l:List DT)(c:List PT):List DT:=D.ZY (l.filter fun d=>!C.yf c d.dev d.n)
theorem Drop_eq(l : List DT)(c : List PT)(hl : l.length<=1000000000)(hc : C.Sm c) : XJ l c=pure (Qm l c) := by
  unfold XJ Wu;have := ZX (body := uP l c false) l (fun i t => ((i : Int), t)) (fun t d => if C.yf c d.dev d.n=true then t else t++[d]) (fun t => pure t) (fun i t => t.length<=i) (fun i x t hx hi hI => by
    have hd : decide ((i : Int) < (l.length : Int))=true := by simpa using hi
    refine ⟨?_, by split
                   · omega
                   · simp; omega⟩
    unfold uP;simp only[hd, cond_true, zK hx, zA, C.VZ c x hc, zB, yL (show i < 9223372036854775807 by omega)]
    by_cases c : C.yf c x.dev x.n=true
    · rw[c, show(true==false)=false from rfl, cond_false, zA, if_pos rfl]
    · simp only[Bool.not_eq_true] at c;rw[c, show(false==false)=true from rfl, cond_true, zE (by simp; omega), zA]; rfl) (fun t _ => by
    unfold uP;simp[zA]) [] (by simp)
  have key : ∀ (l t : List DT), l.foldl (fun t d => if C.yf c d.dev d.n=true then t else t++[d]) t=t++l.filter fun d => !C.yf c d.dev d.n := by
    intro l
    induction l with
    | nil => intro t; simp
    | cons x r ih =>
      intro t;rw[List.foldl_cons, ih]
      by_cases h : C.yf c x.dev x.n=true
      · rw[if_pos h, List.filter_cons, if_neg (by simp[h])]
      · rw[if_neg h, List.filter_cons, if_pos (by simp[h]), List.append_assoc]; rfl
  rw[show(0 : Int)=((0 : Nat) : Int) from rfl, this, zA, key, List.nil_append, D.waa _ (by have := List.length_filter_le (fun d : DT => !C.yf c d.dev d.n) l; omega), zB, zA, zB, zA, Qm]
def zu(l:List EV):List DT:=l.flatMap fun e=>e.dot::e.kills
def yB(l:List EV):List DT:=D.ZY (zu l)
theorem vO(l:List EV)(k:Nat)(h:∀ e∈l,e.kills.length<=k):(zu l).length<=l.length*(k+1):=by
 induction l with
 | nil=>simp[zu]
 | cons e r ih=>
  have h1:=ih fun x hx=>h x (by simp[hx])
  have h2:=h e (by simp);have e1:(zu (e::r)).length=e.kills.length+1+(zu r).length:=by simp[zu];omega
  rw[e1,List.length_cons,Nat.add_mul];omega
theorem jI{l:List EV}{i:Nat}{x:EV}(h:l[i]?=some x):zu (l.take (i+1))=zu (l.take i)++x.dot::x.kills:=by
 rw[List.take_add_one,h];simp[zu]
theorem Qn(l:List EV)(i:Nat):(zu (l.take i)).length<=(zu l).length:=by
 have:zu l=zu (l.take i)++zu (l.drop i):=by unfold zu;rw[<- List.flatMap_append,List.take_append_drop]
 rw[this,List.length_append];omega
theorem jJ(l:List EV)(hl:l.length<=1000000000)(hs:(zu l).length<=1000000000):vU l=pure (yB l):=by
 unfold vU;have key:∀ (k i:Nat),i+k=l.length->loop (uN l) ((i:Int),zu (l.take i))=pure (zu l):=by
  intro k
  induction k with
  | zero=>
   intro i hi;refine yJ ?_;unfold uN;have:decide ((i:Int) < (l.length:Int))=false:=by simp;omega
   simp only[this,cond_false];rw[List.take_of_length_le (by omega)]
  | succ k ih=>
   intro i hi;obtain⟨x,hx⟩:∃ x,l[i]?=some x:=⟨_,List.getElem?_eq_getElem (by omega)⟩
   have hd:decide ((i:Int) < (l.length:Int))=true:=by simp;omega
   have h1:=Qn l (i+1);rw[jI hx,List.length_append,List.length_cons] at h1;rw[yI (s':=(((i+1:Nat):Int),zu (l.take (i+1)))) ?_]
   ·exact ih (i+1) (by omega)
   ·unfold uN;simp only[hd,cond_true,zK hx,zA,yL (show i < 9223372036854775807 by omega)];rw[zE (by simp;omega),zE (by simp;omega),jI hx,List.append_assoc];rfl
 have:=key l.length 0 (by omega);rw[show zu (l.take 0)=[] from rfl] at this;rw[show(0:Int)=((0:Nat):Int) from rfl,this,zA,D.waa _ (by omega),zB,zA,yB]
theorem rdots_in(l:List EV){i:Nat}{x:EV}(hx:l[i]?=some x)(hk:x.kills.length<=1000000000)(s:List DT)(hs:s.length<=1000000000):loop (uv l (i:Int)) (s,0)=pure (x.kills.foldl D.zWa s):=by
 have:=ZX (body:=uv l (i:Int)) x.kills (fun k t=>(t,(k:Int))) D.zWa (fun t=>pure t) (fun k t=>t.length<=1000000000+k) (fun k d t hd hi hI=>by
  have hc:decide ((k:Int) < (x.kills.length:Int))=true:=by simpa using hi
  refine⟨?_,by have:=D.zXa t d;omega⟩;unfold uv;simp only[zK hx,zA,hc,cond_true,zK hd,D.wZa t d (by omega),zB,yL (show k < 9223372036854775807 by omega)]) (fun t _=>by
  unfold uv;simp[zK hx,zA]) s (by omega)
 exact this
theorem qe(l:List EV)(hl:l.length<=1000000)(hk:∀ e∈l,e.kills.length<=300):Wf l=pure (yB l):=by
 unfold Wf;have key:∀ (k i:Nat),i+k=l.length->loop (YG l) (D.ZY (zu (l.take i)),(i:Int))=pure (yB l):=by
  intro k
  induction k with
  | zero=>
   intro i hi;refine yJ ?_;unfold YG;have:decide ((i:Int) < (l.length:Int))=false:=by simp;omega
   simp only[this,cond_false];rw[List.take_of_length_le (by omega)];rfl
  | succ k ih=>
   intro i hi;obtain⟨x,hx⟩:∃ x,l[i]?=some x:=⟨_,List.getElem?_eq_getElem (by omega)⟩
   have hd:decide ((i:Int) < (l.length:Int))=true:=by simp;omega
   have h1:=Qn l i;have h2:=vO l 300 hk;have h3:=D.qY (zu (l.take i));have h4:=D.zXa (D.ZY (zu (l.take i))) x.dot;have h5:=hk x (List.mem_of_getElem? hx);rw[yI (s':=(D.ZY (zu (l.take (i+1))),((i+1:Nat):Int))) ?_]
   ·exact ih (i+1) (by omega)
   ·unfold YG;simp only[hd,cond_true,zK hx,zA,D.wZa _ x.dot (show(D.ZY (zu (l.take i))).length<=1000000000000 by omega),zB,rdots_in l hx (show x.kills.length<=1000000000 by omega) _ (show(D.zWa (D.ZY (zu (l.take i))) x.dot).length<=1000000000 by omega),yL (show i < 9223372036854775807 by omega)];rw[jI hx];unfold D.ZY;rw[List.foldl_append];rfl
 have:=key l.length 0 (by omega);rw[show D.ZY (zu (l.take 0))=[] from rfl] at this;rw[show(0:Int)=((0:Nat):Int) from rfl,this,zA]
def YR(l:List EV)(i:Nat)(x:EV):Bool:=decide (0 < i)&&match l[i - 1]? with | some y=>decide (0<=V.QS y.dot x.dot) | none=>false
theorem wsa{β:Type}{l:List EV}{i:Nat}{x:EV}(hi:i < l.length)(hl:l.length<=1000000000)(f:DT->DT->M Int)(hf:∀ a b,f a b=pure (V.QS a b))(K:Bool->M β) :
  (cond (decide (0 < (i:Int))) ((idx l (IntKind.i64.wrap ((i:Int) - 1))).bind fun y=>(det (f y.dot x.dot)).bind fun v=>K (decide (0<=v))) (K false))=K (YR l i x):=by
 unfold YR
 by_cases h:0 < i
 ·obtain⟨y,hy⟩:∃ y,l[i - 1]?=some y:=⟨_,List.getElem?_eq_getElem (by omega)⟩
  have e:IntKind.i64.wrap ((i:Int) - 1)=((i - 1:Nat):Int):=by rw[Wc (by omega) (by omega)];omega
  have hd:decide (0 < (i:Int))=true:=by simp;omega
  rw[hd,cond_true,e,zK hy,zA,hf,zB,zA,decide_eq_true h,Bool.true_and,hy]
 ·have hd:decide (0 < (i:Int))=false:=by simp;omega
  rw[hd,cond_false,decide_eq_false h,Bool.false_and]
def bad1(d:DL)(i:Nat)(e:EV):Bool:=!yE e||(YR d.events i e||(C.yf d.from_ e.dot.dev e.dot.n||(decide (e.kind=1)&&wk d.events e.dot)))
def ZB(d:DL):Bool:=decide (d.from_=C.zb d.from_)&&(decide (d.to_=C.zb d.to_)&&(decide (C.opC (fun x y=>x&&!y) d.from_ d.to_=[])&&(decide (d.events.length<=4096)&&((d.events.zipIdx.all fun y=>!bad1 d y.2 y.1)&&decide (Qm (yB d.events) d.to_=[])))))
structure OkD(d:DL):Prop where
 from_:C.Ok d.from_
 to_:C.Ok d.to_
 evs:∀ e∈d.events,OkE e
 len:d.events.length<=1000000
 kills:∀ e∈d.events,e.kills.length<=300
theorem nil_dec{α:Type}[DecidableEq α](l:List α):decide ((l.length:Int)=0)=decide (l=[]):=by
 cases l with
 | nil=>rfl
 | cons x r=>simp;omega
theorem y6a{d:DL}(h:OkD d):loop (vB d) 0=pure (if (d.events.zipIdx.all fun y=>!bad1 d y.2 y.1)=true then Ex.brk () else Ex.ret false):=by
 have hl:=h.len;have:=vZ (body:=vB d) d.events (fun i=>(i:Int)) (fun i x=>!bad1 d i x) (Ex.brk ()) (Ex.ret false) (fun i x hx hi=>by
  have hd:decide ((i:Int) < (d.events.length:Int))=true:=by simpa using hi
  have hm:=List.mem_of_getElem? hx;have hp:=fun(K:Bool->M (Step Int (Ex Unit Bool)))=>wsa (x:=x) hi (by omega) Xt D.wba K
  unfold vB;simp only[hd,cond_true,zK hx,zA,E.YM (h.evs x hm),C.VZ d.from_ x.dot h.from_.sm,Dead_eq d.events x.dot (by omega) (fun e he=>by have:=h.kills e he;omega),zB,yL (show i < 9223372036854775807 by omega)];have hp:=wsa (x:=x) hi (by omega) Xt D.wba (fun b=>(pure b:M Bool));rw[hp];unfold bad1;simp only[zA]
  cases yE x with
  | false=>rfl
  | true=>
   cases C.yf d.from_ x.dot.dev x.dot.n with
   | true=>cases YR d.events i x <;> rfl
   | false=>
    cases YR d.events i x with
    | true=>rfl
    | false=>
     cases decide (x.kind=1) with
     | false=>rfl
     | true=>cases wk d.events x.dot <;> rfl) (by
  unfold vB;simp)
 rw[show(0:Int)=((0:Nat):Int) from rfl,this]
theorem len_dec(l:List EV):decide ((4096:Int) < (l.length:Int))=!decide (l.length<=4096):=by
 by_cases c:l.length<=4096
 ·rw[decide_eq_true c];simp;omega
 ·rw[decide_eq_false c];simp;omega
theorem dlen{d:DL}(h:OkD d):(zu d.events).length<=1000000000:=by have:=vO d.events 300 h.kills;have:=h.len;omega
theorem qf{d:DL}(h:OkD d):XK d=pure (ZB d):=by
 have h1:=h.len;have h2:=dlen h;have h3:(yB d.events).length<=1000000000:=Nat.le_trans (D.qY _) h2;unfold XK ZB;rw[y6a h];simp only[C.YM _ h.from_.sm,C.YM _ h.to_.sm,C.Qa _ _ h.from_.sm h.to_.sm,jJ d.events (by omega) h2,Drop_eq _ _ h3 h.to_.sm,zB,zA,len_dec,nil_dec]
 cases decide (d.from_=C.zb d.from_) with
 | false=>rfl
 | true=>
  cases decide (d.to_=C.zb d.to_) with
  | false=>rfl
  | true=>
   cases decide (C.opC (fun x y=>x&&!y) d.from_ d.to_=[]) with
   | false=>rfl
   | true=>
    cases decide (d.events.length<=4096) with
    | false=>rfl
    | true=>cases d.events.zipIdx.all fun y=>!bad1 d y.2 y.1 <;> rfl
open E (OkE yE)
set_option maxHeartbeats 4000000 in
theorem eSame_eq(a b:EV)(h:a.kills.length<=1000000000000):XL a b=pure (decide (a=b)):=by
 unfold XL;rw[D.Qe,V.zQa a.kills b.kills h,zB,zA];have e:decide (a=b)=(decide (a.dot=b.dot)&&(decide (a.kind=b.kind)&&(decide (a.cid=b.cid)&&(decide (a.field=b.field)&&(decide (a.text=b.text)&&decide (a.kills=b.kills)))))):=by
  cases a;cases b;simp only[EV.mk.injEq,Bool.decide_and]
 rw[e]
 cases decide (a.dot=b.dot) <;> cases decide (a.kind=b.kind) <;> cases decide (a.cid=b.cid) <;> cases decide (a.field=b.field) <;> cases decide (a.text=b.text) <;> rfl
theorem eAll_eq(a b:List EV)(ha:a.length<=1000000000000)(hk:∀ e∈a,e.kills.length<=1000000000000):Yd a b=pure (decide (a=b)):=by
 unfold Yd zY
 by_cases hlen:a.length=b.length
 ·have h1:decide ((a.length:Int)=(b.length:Int))=true:=by simp[hlen]
  rw[h1,Bool.not_true,cond_false];have:=vZ (body:=zJ a b) a (fun i=>(i:Int)) (fun i x=>decide (b[i]?=some x)) (Ex.brk ()) (Ex.ret false) (fun i x hx hi=>by
   have hd:decide ((i:Int) < (a.length:Int))=true:=by simpa using hi
   obtain⟨y,hy⟩:∃ y,b[i]?=some y:=⟨_,List.getElem?_eq_getElem (by omega)⟩
   unfold zJ;simp only[hd,cond_true,zK hx,zK hy,zA,eSame_eq x y (hk x (List.mem_of_getElem? hx)),zB,yL (show i < 9223372036854775807 by omega),hy]
   by_cases c:x=y
   ·subst c;simp
   ·have:¬ some y=some x:=fun e=>c (Option.some.inj e).symm
    simp[c,this]) (by
   unfold zJ;simp)
  rw[show(0:Int)=((0:Nat):Int) from rfl,this,zA];have e:(a.zipIdx.all fun y=>decide (b[y.2]?=some y.1))=decide (a=b):=by
   rw[Bool.eq_iff_iff,List.all_eq_true,decide_eq_true_eq]
   constructor
   ·intro h;apply List.ext_getElem?;intro i
    by_cases hi:i < a.length
    ·have:=h (a[i],i) (by rw[List.mem_zipIdx_iff_getElem?];exact List.getElem?_eq_getElem hi);simp only[decide_eq_true_eq] at this;rw[this,List.getElem?_eq_getElem hi]
    ·rw[List.getElem?_eq_none (by omega),List.getElem?_eq_none (by omega)]
   ·rintro rfl y hy;rw[List.mem_zipIdx_iff_getElem?] at hy;simpa using hy
  rw[e]
  cases decide (a=b) <;> simp[zB,exk,zA]
 ·have h1:decide ((a.length:Int)=(b.length:Int))=false:=by simp;omega
  have h2:decide (a=b)=false:=decide_eq_false fun e=>hlen (by rw[e])
  rw[h1,Bool.not_false,cond_true,zB,zA,h2]
end Go.Ep.M.F
namespace Go.Ep.M.G
open Go
open E (OkE yE wj)
open F (vf zu yB)
theorem vg : ∀ {l l':List EV},wj l->wj l'->(∀ d,d∈l↔d∈l')->l=l'
 | [],[],_,_,_=>rfl
 | [],y::r,_,_,h=>by have:=(h y).2 (by simp);simp at this
 | x::r,[],_,_,h=>by have:=(h x).1 (by simp);simp at this
 | x::r,y::t,h1,h2,h=>by
  have hx:=(h x).1 (by simp);have hy:=(h y).2 (by simp);have e:x=y:=by
   rcases List.mem_cons.1 hx with e | hx
   ·exact e
   ·rcases List.mem_cons.1 hy with e | hy
    ·exact e.symm
    ·have a1:=(List.pairwise_cons.1 h2).1 x hx;have a2:=(List.pairwise_cons.1 h1).1 y hy;rw[D.Yv a1] at a2;cases a2
  subst e
  congr 1
  refine vg (List.pairwise_cons.1 h1).2 (List.pairwise_cons.1 h2).2 fun d=>?_
  have h3:=h d;simp only[List.mem_cons] at h3
  constructor
  ·intro hd;rcases h3.1 (.inr hd) with e | h4
   ·have:=(List.pairwise_cons.1 h1).1 d hd;rw[e,D.Xp] at this;cases this
   ·exact h4
  ·intro hd;rcases h3.2 (.inr hd) with e | h4
   ·have:=(List.pairwise_cons.1 h2).1 d hd;rw[e,D.Xp] at this;cases this
   ·exact h4
theorem Zq{l:List EV}(h:wj l):(l.map (·.dot)).Nodup:=by
 unfold List.Nodup;rw[List.pairwise_map];exact h.imp fun {a b} h e=>by rw[e,D.Xp] at h;cases h
theorem srtE_one{l:List EV}(h:wj l){a b:EV}(ha:a∈l)(hb:b∈l)(e:a.dot=b.dot):a=b:=by
 induction l with
 | nil=>cases ha
 | cons x r ih=>
  obtain⟨h1,h2⟩:=List.pairwise_cons.1 h;rcases List.mem_cons.1 ha with ea | ea <;> rcases List.mem_cons.1 hb with eb | eb
  ·rw[ea,eb]
  ·have:=h1 b eb;rw[<- ea,e,D.Xp] at this;cases this
  ·have:=h1 a ea;rw[<- eb,e,D.Xp] at this;cases this
  ·exact ih h2 ea eb
theorem zR{l:List EV}(h:wj l)(p:EV->Bool):wj (l.filter p):=h.sublist List.filter_sublist
theorem wta{s:List EV}(hn:(s.map (·.dot)).Nodup)(h:s.Pairwise fun x y=>Zx y x=false):wj s:=by
 unfold List.Nodup at hn;rw[List.pairwise_map] at hn;refine(hn.and h).imp fun {a b} ⟨h1,h2⟩=>?_
 cases h3:zT a.dot b.dot with
 | true=>rfl
 | false=>exact absurd (D.JB h3 h2) h1
theorem wua{l:List EV}{Q:List EV->Prop}(h:∀ s,s.Perm l->(s.Pairwise fun x y=>Zx y x=false)->Q s):(srt Zx l).wp Q:=by
 refine⟨⟨l.mergeSort (fun x y=>!zT y.dot x.dot),List.mergeSort_perm _ _,?_⟩,fun s ⟨h1,h2⟩=>h s h1 h2⟩;refine(List.pairwise_mergeSort (fun a b c h1 h2=>?_) (fun a b=>?_) l).imp fun {x y} h=>by show zT y.dot x.dot=false;simpa using h
 ·simp only[Bool.not_eq_true'] at h1 h2 ⊢
  cases h3:zT c.dot a.dot with
  | false=>rfl
  | true=>
   rw[D.Vb] at h3;have h4:¬ (zT b.dot a.dot=true):=by simp[h1]
   have h5:¬ (zT c.dot b.dot=true):=by simp[h2]
   rw[D.Vb] at h4 h5;omega
 ·cases h1:zT b.dot a.dot with
  | false=>rfl
  | true=>rw[D.Yv h1];rfl
def ent(e:EV):DT×EV:=(e.dot,e)
theorem ent_inj{a b:EV}(h:ent a=ent b):a=b:=(Prod.mk.inj h).2
theorem wva{l:List EV}{k:DT×EV}:k∈l.map ent↔k.2∈l/\k.1=k.2.dot:=by
 rw[List.mem_map]
 constructor
 ·rintro⟨e,h,rfl⟩;exact⟨h,rfl⟩
 ·rintro⟨h1,h2⟩;exact⟨k.2,h1,by unfold ent;rw[<- h2]⟩
def Holds(m:List (DT×EV))(l:List EV):Prop:=m.Perm (l.map ent)
theorem Holds.keys{m:List (DT×EV)}{l:List EV}(h:Holds m l)(hs:wj l):(m.map (·.1)).Nodup:=by
 have h1:=h.map (·.1);rw[List.map_map] at h1;exact h1.nodup_iff.2 (Zq hs)
theorem Holds.mem{m:List (DT×EV)}{l:List EV}(h:Holds m l){k:DT×EV}:k∈m↔k.2∈l/\k.1=k.2.dot:=by rw[h.mem_iff,wva]
theorem Holds.len{m:List (DT×EV)}{l:List EV}(h:Holds m l):m.length=l.length:=by rw[h.length_eq,List.length_map]
theorem wwa{l:List EV}(h:wj l):(l.map ent).Nodup:=by
 unfold List.Nodup;rw[List.pairwise_map];exact h.imp fun {a b} h e=>by rw[ent_inj e,D.Xp] at h;cases h
theorem qg{m:List (DT×EV)}{l:List EV}(hn:(m.map (·.1)).Nodup)(hs:wj l)(h:∀ k,k∈m↔k.2∈l/\k.1=k.2.dot):Holds m l:=by
 have hm:m.Nodup:=by
  unfold List.Nodup at hn ⊢;rw[List.pairwise_map] at hn;exact hn.imp fun {a b} h e=>h (by rw[e])
 exact(List.perm_ext_iff_of_nodup hm (wwa hs)).2 fun k=>by rw[h,wva]
theorem qd(e:EV)(h:e.kills.length<=1000000000000):xC e=pure e:=by
 unfold xC;rw[D.qZ e.kills h,zB,zA]
theorem jK{body:List Nat×List EV->M (Step (List Nat×List EV) (List EV))}(m:List (DT×EV))(hb:body=fun⟨seen,out⟩=>yc (∀ i∈seen,i < m.length)<|M.bind (nxt m.length seen) fun o=>match o with
  | none=>pure (.done out)
  | some j=>M.bind (idx m (Int.ofNat j)) fun kv=>M.bind (det (xC kv.2)) fun v=>yc ((out.length+List.length [v])*80<=140737488355328)<|pure (.next (seen++[j],out++[v])))
  (hl:m.length<=500000000000) (hk:∀ k∈m,k.2.kills.length<=1000000000000) (t0:List EV) (h0:t0.length<=500000000000) {Q:List EV->Prop} (hQ:∀ l:List (DT×EV),l.Perm m->Q (t0++l.map (·.2))):(loop body ([],t0)).wp Q:=by
 refine M.loopM (body:=body) m (fun L (t:List EV)=>(L,t)) (fun t e=>(xC e.2).det.bind fun v=>yc ((t.length+1)*80<=140737488355328) (pure (t++[v]))) (fun t=>pure t)
  (fun l t=>t=t0++l.map (·.2)) Q (fun L t hL=>?_) (fun l t y ht hlen hy=>?_) (fun l t hp ht=>?_) t0 (by simp)
 ·subst hb;show yc _ ((nxt _ _).bind _)=yc _ ((nxt _ _).bind _);refine congrArg (fun k=>yc _ ((nxt _ _).bind k)) (funext fun o=>?_)
  cases o with
  | none=>rfl
  | some i=>rfl
 ·rw[qd y.2 (hk y hy),zB,zA];subst ht;exact⟨_,zE (by simp;omega) _,by simp⟩
 ·subst ht;exact hQ l hp
theorem yPa{nl:Bool}{m:List (DT×EV)}{l:List EV}(hm:Holds m l)(hs:wj l)(hl:l.length<=500000000000)(hk:∀ e∈l,e.kills.length<=1000000000000):vo nl m=pure l:=by
 unfold vo;refine ug (jK (body:=Yg m) m rfl (by rw[hm.len];exact hl) (fun k h=>hk _ (hm.mem.1 h).1) [] (by simp) fun q hq=>?_);show(yc _ _).wp _;have hp:(q.map (·.2)).Perm l:=by
  have:=(hq.trans hm).map (·.2);rw[List.map_map] at this;simpa[Function.comp_def,ent] using this
 rw[List.nil_append,zE (by rw[hp.length_eq];omega)];refine wua fun s h1 h2=>?_
 show s=l;have h3:=h1.trans hp;exact vg (wta ((h3.map (·.dot)).nodup_iff.2 (Zq hs)) h2) hs fun d=>h3.mem_iff
theorem list2_eq{nl1 nl2:Bool}{m1 m2:List (DT×EV)}{l l1 l2:List EV}(h1:Holds m1 l1)(h2:Holds m2 l2)(hp:(l1++l2).Perm l)(hs:wj l)(hl:l.length<=200000000000)(hk:∀ e∈l,e.kills.length<=1000000000000):ZM nl1 m1 nl2 m2=pure l:=by
 have hll:=hp.length_eq;rw[List.length_append] at hll;have hk1:∀ k∈m1,k.2.kills.length<=1000000000000:=fun k h=>hk _ (hp.mem_iff.1 (List.mem_append_left _ (h1.mem.1 h).1))
 have hk2:∀ k∈m2,k.2.kills.length<=1000000000000:=fun k h=>hk _ (hp.mem_iff.1 (List.mem_append_right _ (h2.mem.1 h).1))
 unfold ZM;refine ug (jK (body:=Ye m1) m1 rfl (by rw[h1.len];omega) hk1 [] (by simp) fun q hq=>?_);have hq1:(q.map (·.2)).Perm l1:=by
  have:=(hq.trans h1).map (·.2);rw[List.map_map] at this;simpa[Function.comp_def,ent] using this
 refine jK (body:=Yf m2) m2 rfl (by rw[h2.len];omega) hk2 _ (by rw[List.nil_append,hq1.length_eq];omega) fun q2 hq2=>?_
 have hq3:(q2.map (·.2)).Perm l2:=by
  have:=(hq2.trans h2).map (·.2);rw[List.map_map] at this;simpa[Function.comp_def,ent] using this
 show(yc _ _).wp _;rw[List.nil_append];have hpp:(q.map (·.2)++q2.map (·.2)).Perm l:=(hq1.append hq3).trans hp;rw[zE (by rw[hpp.length_eq];omega)];refine wua fun s h3 h4=>?_
 show s=l;have h5:=h3.trans hpp;exact vg (wta ((h5.map (·.dot)).nodup_iff.2 (Zq hs)) h4) hs fun d=>h5.mem_iff
open E (OkE yE wj)
open F (vf zu yB wk)
section
variable{κ ν:Type}[DecidableEq κ]
theorem del_sub(m:List (κ×ν))(x:κ):(AL.del m x).Sublist m:=by
 induction m with
 | nil=>exact List.Sublist.slnil
 | cons k r ih=>
  obtain⟨k,v⟩:=k;unfold AL.del
  split
  ·exact List.sublist_cons_self _ _
  ·exact ih.cons_cons _
theorem mem_del{m:List (κ×ν)}(hn:(m.map (·.1)).Nodup)(x:κ)(k:κ×ν):k∈AL.del m x↔k∈m/\k.1≠x:=by
 induction m with
 | nil=>simp[AL.del]
 | cons y r ih=>
  obtain⟨q,v⟩:=y;rw[List.map_cons,List.nodup_cons] at hn;unfold AL.del
  split
  ·rename_i e
   subst e;rw[List.mem_cons]
   constructor
   ·intro h;exact⟨.inr h,fun e=>hn.1 (e▸List.mem_map.2 ⟨k,h,rfl⟩)⟩
   ·rintro⟨h | h,h2⟩
    ·subst h;exact absurd rfl h2
    ·exact h
  ·rename_i e
   rw[List.mem_cons,List.mem_cons,ih hn.2]
   constructor
   ·rintro(h | ⟨h,h2⟩)
    ·subst h;exact⟨.inl rfl,e⟩
    ·exact⟨.inr h,h2⟩
   ·rintro⟨h | h,h2⟩
    ·exact .inl h
    ·exact .inr ⟨h,h2⟩
theorem wxa{m:List (κ×ν)}(hn:(m.map (·.1)).Nodup)(x:κ)(v:ν)(k:κ×ν):k∈AL.set m x v↔(k∈m/\k.1≠x)\/k=(x,v):=by
 induction m with
 | nil=>simp[AL.set]
 | cons y r ih=>
  obtain⟨q,u⟩:=y;rw[List.map_cons,List.nodup_cons] at hn;unfold AL.set
  split
  ·rename_i e
   subst e;rw[List.mem_cons,List.mem_cons]
   constructor
   ·rintro(h | h)
    ·exact .inr h
    ·exact .inl ⟨.inr h,fun e=>hn.1 (e▸List.mem_map.2 ⟨k,h,rfl⟩)⟩
   ·rintro(⟨h | h,h2⟩ | h)
    ·subst h;exact absurd rfl h2
    ·exact .inr h
    ·exact .inl h
  ·rename_i e
   rw[List.mem_cons,List.mem_cons,ih hn.2]
   constructor
   ·rintro(h | ⟨h,h2⟩ | h)
    ·subst h;exact .inl ⟨.inl rfl,e⟩
    ·exact .inl ⟨.inr h,h2⟩
    ·exact .inr h
   ·rintro(⟨h | h,h2⟩ | h)
    ·exact .inl h
    ·exact .inr (.inl ⟨h,h2⟩)
    ·exact .inr (.inr h)
end
theorem Holds.del{m:List (DT×EV)}{l:List EV}(h:Holds m l)(hs:wj l)(d:DT):Holds (AL.del m d) (l.filter fun e=>!decide (e.dot=d)):=
 qg ((h.keys hs).sublist ((del_sub m d).map _)) (zR hs _) fun k=>by
  rw[mem_del (h.keys hs),h.mem,List.mem_filter]
  constructor
  ·rintro⟨⟨h1,h2⟩,h3⟩;exact⟨⟨h1,by rw[h2] at h3;simp[h3]⟩,h2⟩
  ·rintro⟨⟨h1,h3⟩,h2⟩;exact⟨⟨h1,h2⟩,by rw[h2];simpa using h3⟩
theorem vP{l:List DT}{d:DT}:vf l d=true↔d∈l:=by
 unfold vf;rw[List.any_eq_true]
 constructor
 ·rintro⟨x,h1,h2⟩;rw[<- of_decide_eq_true h2];exact h1
 ·intro h;exact⟨d,h,by simp⟩
theorem wya(x:DT)(r:List DT)(d:DT):vf (x::r) d=(decide (x=d)||vf r d):=rfl
theorem Holds.dels : ∀ (ks:List DT) {m:List (DT×EV)} {l:List EV},Holds m l->wj l->Holds (ks.foldl AL.del m) (l.filter fun e=>!vf ks e.dot)
 | [],m,l,h,_=>by
  have:(l.filter fun e=>!vf [] e.dot)=l:=List.filter_eq_self.2 fun _ _=>rfl
  rw[this];exact h
 | d::r,m,l,h,hs=>by
  have h1:=Holds.dels r (h.del hs d) (zR hs _);rw[List.filter_filter] at h1;rw[List.foldl_cons];have:(fun e:EV=>!vf (d::r) e.dot)=fun e=>(!vf r e.dot)&&!decide (e.dot=d):=funext fun e=>by
   rw[wya,Bool.not_or,Bool.and_comm]
   congr 2
   exact decide_eq_decide.2 ⟨Eq.symm,Eq.symm⟩
  rw[this];exact h1
def jb(l:List EV)(e:EV):List EV:=(l.filter fun x=>zT x.dot e.dot)++[e]++(l.filter fun x=>zT e.dot x.dot)
theorem UC{l:List EV}(hs:wj l)(e:EV):wj (jb l e):=by
 unfold jb wj;rw[List.pairwise_append,List.pairwise_append];refine⟨⟨zR hs _,by simp,fun a ha b hb=>?_⟩,zR hs _,fun a ha b hb=>?_⟩
 ·rw[List.mem_singleton.1 hb];exact(List.mem_filter.1 ha).2
 ·have h2:=(List.mem_filter.1 hb).2;rcases List.mem_append.1 ha with h | h
  ·exact D.XY (List.mem_filter.1 h).2 h2
  ·rw[List.mem_singleton.1 h];exact h2
theorem uX{l:List EV}{e:EV}(hn:∀ x∈l,x.dot≠e.dot){x:EV}:x∈jb l e↔x=e\/x∈l:=by
 unfold jb;rw[List.mem_append,List.mem_append,List.mem_filter,List.mem_filter,List.mem_singleton]
 constructor
 ·rintro((⟨h,_⟩ | h) | ⟨h,_⟩)
  ·exact .inr h
  ·exact .inl h
  ·exact .inr h
 ·rintro(h | h)
  ·exact .inl (.inr h)
  ·cases h1:zT x.dot e.dot with
   | true=>exact .inl (.inl ⟨h,rfl⟩)
   | false=>
    cases h2:zT e.dot x.dot with
    | true=>exact .inr ⟨h,rfl⟩
    | false=>exact absurd (D.JB h1 h2) (hn x h)
theorem insE_len(l:List EV)(e:EV)(hs:wj l):(jb l e).length<=l.length+1:=by
 unfold jb;have h:∀ q:List EV,(q.filter fun x=>zT x.dot e.dot).length+(q.filter fun x=>zT e.dot x.dot).length<=q.length:=by
  intro q
  induction q with
  | nil=>simp
  | cons x r ih=>
   rw[List.filter_cons,List.filter_cons]
   cases h1:zT x.dot e.dot with
   | true=>rw[D.Yv h1];simp;omega
   | false=>simp only[Bool.false_eq_true,if_false];split <;> simp <;> omega
 have:=h l;simp;omega
theorem Holds.add{m:List (DT×EV)}{l:List EV}(h:Holds m l)(hs:wj l){e:EV}(hn:∀ x∈l,x.dot≠e.dot):Holds (AL.set m e.dot e) (jb l e):=
 qg (AL.nodup_set (h.keys hs) _ _) (UC hs e) fun k=>by
  rw[wxa (h.keys hs),h.mem,uX hn]
  constructor
  ·rintro(⟨⟨h1,h2⟩,h3⟩ | h1)
   ·exact⟨.inr h1,h2⟩
   ·rw[h1];exact⟨.inl rfl,rfl⟩
  ·rintro⟨h1 | h1,h2⟩
   ·refine .inr ?_;obtain⟨k1,k2⟩:=k;simp only at h1 h2;rw[h2,h1]
   ·exact .inl ⟨⟨h1,h2⟩,by rw[h2];exact hn _ h1⟩
theorem y7a{ρ:Type}{body:Int×List EV->M (Step (Int×List EV) ρ)}(l:List EV)(p:EV->Bool)(g:List EV->M ρ)
  (h1:∀ (i:Nat) (x:EV) (t:List EV),l[i]?=some x->i < l.length->t.length<=i->body ((i:Int),t)=pure (.next (((i+1:Nat):Int),if p x then t++[x] else t)))
  (h2:∀ t,body ((l.length:Int),t)=(g t).bind fun r=>pure (.done r)):loop body (0,[])=g (l.filter p):=by
 have h:=ZX (body:=body) l (fun i (t:List EV)=>((i:Int),t)) (fun t x=>if p x then t++[x] else t) g (fun i t=>t.length<=i)
  (fun i x t hx hi hI=>⟨h1 i x t hx hi hI,by split <;> (try rw[List.length_append,List.length_singleton]) <;> omega⟩) (fun t _=>h2 t) [] (Nat.le_refl _)
 have hf:∀ (q t:List EV),q.foldl (fun t x=>if p x then t++[x] else t) t=t++q.filter p:=by
  intro q
  induction q with
  | nil=>intro t;simp
  | cons x r ih=>intro t;rw[List.foldl_cons,ih,List.filter_cons];split <;> simp
 rw[hf,List.nil_append] at h;exact h
theorem rPutI_eq(l:List EV)(e:EV)(hs:wj l)(hn:∀ x∈l,x.dot≠e.dot)(hl:l.length<=1000000000):zPa l e=pure (jb l e):=by
 unfold zPa;have h:=ZX (body:=Zm l e) l (fun i (t:Bool×List EV)=>(t.1,(i:Int),t.2)) (fun t x=>((t.1||!zT x.dot e.dot),(if (!zT x.dot e.dot&&!t.1)=true then t.2++[e] else t.2)++[x])) (fun t=>pure (Ex.brk (t.1,t.2)))
  (fun i t=>t.2.length<=i+1/\(t.1=false->t.2.length<=i)) (fun i x t hx hi hI=>by
   obtain⟨dn,out⟩:=t;have c0:x.dot≠e.dot:=hn x (List.mem_of_getElem? hx);have hz:V.QS x.dot e.dot≠0:=by
    unfold V.QS;rw[if_neg c0];split <;> decide
   have hpos:decide (0 < V.QS x.dot e.dot)=!zT x.dot e.dot:=by
    by_cases c1:zT x.dot e.dot=true
    ·have:=V.XV.2 c1;rw[c1];simp;omega
    ·have h2:¬ V.QS x.dot e.dot < 0:=fun h=>c1 (V.XV.1 h)
     simp only[Bool.not_eq_true] at c1;rw[c1];simp;omega
   have hc:decide ((i:Int) < (l.length:Int))=true:=by simpa using hi
   have hI1:=hI.1;have hI2:=hI.2;simp only at hI1 hI2;refine⟨?_,?_⟩
   ·unfold Zm;simp only[hc,cond_true,zK hx,zA,V.XU,zB,decide_eq_false hz,cond_false,hpos]
    cases zT x.dot e.dot <;> cases dn <;> simp only[Bool.not_true,Bool.not_false,cond_true,cond_false,zA,Bool.and_true,Bool.and_false,Bool.or_true,Bool.or_false,Bool.false_eq_true,if_true,if_false]
    ·rw[zE (by simp;omega),zA];simp only[];rw[zE (by simp;omega),yL (show i < 9223372036854775807 by omega)]
    ·rw[zE (by simp;omega),yL (show i < 9223372036854775807 by omega)]
    ·rw[zE (by simp;omega),yL (show i < 9223372036854775807 by omega)]
    ·rw[zE (by simp;omega),yL (show i < 9223372036854775807 by omega)]
   ·cases zT x.dot e.dot <;> cases dn <;> simp_all <;> omega) (fun t _=>by
   unfold Zm;simp[zA]) (false,[]) (by simp)
 have hA:∀ (q acc:List EV),q.foldl (fun(t:Bool×List EV) x=>((t.1||!zT x.dot e.dot),(if (!zT x.dot e.dot&&!t.1)=true then t.2++[e] else t.2)++[x])) (true,acc)=(true,acc++q):=by
  intro q
  induction q with
  | nil=>intro acc;simp
  | cons x r ih=>intro acc;rw[List.foldl_cons];simp only[Bool.true_or,Bool.not_true,Bool.and_false,Bool.false_eq_true,if_false];rw[ih];simp
 have hB:∀ (q acc:List EV),wj q->(∀ x∈q,x.dot≠e.dot)->∃ r:Bool×List EV,q.foldl (fun(t:Bool×List EV) x=>((t.1||!zT x.dot e.dot),(if (!zT x.dot e.dot&&!t.1)=true then t.2++[e] else t.2)++[x])) (false,acc)=r/\(if r.1=true then r.2 else r.2++[e])=acc++jb q e/\(r.1=false->r.2.length=acc.length+q.length):=by
  intro q
  induction q with
  | nil=>intro acc _ _;exact⟨(false,acc),rfl,by simp[jb],fun _=>by simp⟩
  | cons x r ih=>
   intro acc hs hn;obtain⟨p1,p2⟩:=List.pairwise_cons.1 hs;rw[List.foldl_cons]
   cases c:zT x.dot e.dot with
   | true=>
    simp only[Bool.not_true,Bool.or_self,Bool.false_and,Bool.false_eq_true,if_false];obtain⟨y,h1,h2,h3⟩:=ih (acc++[x]) p2 fun z hz=>hn z (by simp[hz])
    refine⟨y,h1,?_,fun h=>by rw[h3 h];simp;omega⟩;rw[h2];unfold jb;rw[List.filter_cons,List.filter_cons,if_pos c,if_neg (by rw[D.Yv c];simp)];simp
   | false=>
    have hgt:zT e.dot x.dot=true:=by
     cases hh:zT e.dot x.dot with
     | true=>rfl
     | false=>exact absurd (D.JB c hh) (hn x (by simp))
    simp only[Bool.not_false,Bool.or_true,Bool.and_self,if_true];rw[hA];refine⟨_,rfl,?_,fun h=>by cases h⟩;rw[if_pos rfl];unfold jb;have e1:((x::r).filter fun y=>zT y.dot e.dot)=[]:=List.filter_eq_nil_iff.2 fun y hy=>by
     rcases List.mem_cons.1 hy with rfl | hy
     ·rw[c];simp
     ·rw[D.Yv (D.XY hgt (p1 y hy))];simp
    have e2:((x::r).filter fun y=>zT e.dot y.dot)=x::r:=List.filter_eq_self.2 fun y hy=>by
     rcases List.mem_cons.1 hy with rfl | hy
     ·exact hgt
     ·exact D.XY hgt (p1 y hy)
    rw[e1,e2];simp
 obtain⟨r,h1,h2,h3⟩:=hB l [] hs hn;rw[h1] at h;have h':loop (Zm l e) (false,0,[])=pure (Ex.brk (r.1,r.2)):=h;rw[h',zA,uh];obtain⟨r1,r2⟩:=r
 cases r1 with
 | true=>
  simp only[Bool.not_true,cond_false,zA];rw[if_pos rfl,List.nil_append] at h2;have h2:r2=jb l e:=h2;rw[h2]
 | false=>
  have:=h3 rfl;simp only[List.length_nil,Nat.zero_add] at this;simp only[Bool.not_false,cond_true];rw[zE (by simp;omega),zA];rw[if_neg (by simp),List.nil_append] at h2;have h2:r2++[e]=jb l e:=h2;rw[h2]
theorem Qo{e:EV}(h:yE e=true):e.kind=1\/e.kind=2:=by
 simp only[yE,E.woa,Bool.and_eq_true,Bool.or_eq_true,decide_eq_true_eq] at h;rcases h.2.1 with h | h
 ·exact .inl h.1
 ·exact .inr h.1
theorem XZ{e:EV}(h:yE e=true):e.kills.length<=256/\D.Srt e.kills/\∀ d∈e.kills,V.yC d=true/\d≠e.dot:=by
 simp only[yE,E.y3a,Bool.and_eq_true,decide_eq_true_eq,List.all_eq_true,Bool.not_eq_true',decide_eq_false_iff_not] at h;exact⟨h.2.2.1,D.qb.1 h.2.2.2.1,fun d hd=>h.2.2.2.2 d hd⟩
theorem Wm{e:EV}(h:yE e=true):V.yC e.dot=true:=by
 simp only[yE,Bool.and_eq_true] at h;exact h.1.2
open E (OkE yE wj)
open F (vf zu yB wk)
def yx(L:List EV):List EV:=L.filter fun e=>decide (e.kind=1)
def wn(L:List EV):List EV:=L.filter fun e=>decide (e.kind=2)
theorem zy{L:List EV}{x:EV}:x∈yx L↔x∈L/\x.kind=1:=by simp[yx]
theorem wP{L:List EV}{x:EV}:x∈wn L↔x∈L/\x.kind=2:=by simp[wn]
theorem yV{l:List EV}{d:DT}:d∈zu l↔∃ e∈l,d=e.dot\/d∈e.kills:=by simp[zu]
theorem Xa{l:List EV}{d:DT}:wk l d=true↔∃ e∈l,d∈e.kills:=by
 unfold wk;rw[List.any_eq_true];exact⟨fun⟨e,h1,h2⟩=>⟨e,h1,vP.1 h2⟩,fun⟨e,h1,h2⟩=>⟨e,h1,vP.2 h2⟩⟩
structure Rep(n:Nat)(W c xc:List PT)(nl1:Bool)(m1:List (DT×EV))(nl2:Bool)(m2:List (DT×EV))(L:List EV):Prop where
 ctx:c=C.zb W
 xctx:∀ k n,C.yf xc k n=C.yf W k n
 xok:C.Ok xc
 live:Holds m1 (yx L)
 tomb:Holds m2 (wn L)
 n1:nl1=true->m1=[]
 n2:nl2=true->m2=[]
 srt:wj L
 good:∀ e∈L,yE e=true/\OkE e
 dots:∀ d∈zu L,C.yf W d.dev d.n=true
 alive:∀ e∈L,e.kind=1->wk L e.dot=false
 wl:W.length<=n
 wt:C.uF W<=n
 ll:L.length<=n
theorem ZT{W:List PT}(h1:W.length<=400000000)(h2:C.uF W<=400000000):C.Ok (C.zb W):=
 ⟨fun p hp=>by have:=((C.yp W).nf p hp).1;omega,by have:=C.vu W;omega,by have:=C.vv W;omega⟩
section
variable{n:Nat}{W c xc:List PT}{nl1:Bool}{m1:List (DT×EV)}{nl2:Bool}{m2:List (DT×EV)}{L:List EV}
theorem Rep.mono(hR:Rep n W c xc nl1 m1 nl2 m2 L){k:Nat}(h:n<=k):Rep k W c xc nl1 m1 nl2 m2 L:=
 { hR with wl:=Nat.le_trans hR.wl h,wt:=Nat.le_trans hR.wt h,ll:=Nat.le_trans hR.ll h }
theorem Rep.okc(hR:Rep n W c xc nl1 m1 nl2 m2 L)(hn:n<=100000000):C.Ok c:=by
 rw[hR.ctx];exact ZT (by have:=hR.wl;omega) (by have:=hR.wt;omega)
theorem Rep.has(hR:Rep n W c xc nl1 m1 nl2 m2 L)(hn:n<=100000000)(d:DT):uB c d=pure (C.yf W d.dev d.n):=by
 rw[C.VZ c d (hR.okc hn).sm,hR.ctx,C.zx]
theorem Rep.rhas(hR:Rep n W c xc nl1 m1 nl2 m2 L)(d:DT):Ys xc d=pure (C.yf W d.dev d.n):=by
 rw[C.VJ xc d hR.xok,hR.xctx]
theorem Rep.new : Rep 0 [] [] [] true [] true [] [] where
 ctx:=rfl
 xctx _ _:=rfl
 xok:=C.ok_nil
 live:=List.Perm.refl _
 tomb:=List.Perm.refl _
 n1 _:=rfl
 n2 _:=rfl
 srt:=List.Pairwise.nil
 good _ h:=by cases h
 dots _ h:=by cases h
 alive _ h:=by cases h
 wl:=Nat.le_refl _
 wt:=Nat.le_refl _
 ll:=Nat.le_refl _
theorem qh(ks:List DT):ks.foldl AL.del ([]:List (DT×EV))=[]:=by
 induction ks with
 | nil=>rfl
 | cons d r ih=>rw[List.foldl_cons];exact ih
theorem add_eq{e:EV}(hk:e.kills.length<=1000000000000){nl:Bool}{m:List (DT×EV)}(h:nl=true->m=[]):Zh e nl m=pure (false,AL.set m e.dot e):=by
 unfold Zh;have h1:(cond nl (M.pure ([]:List (DT×EV))) (M.pure m))=M.pure m:=by
  cases nl with
  | true=>rw[h rfl];rfl
  | false=>rfl
 rw[h1,zA,qd e hk,zB,zA]
def Xb(L:List EV)(e:EV):List EV:=jb (L.filter fun x=>!decide (x.kind=1)||!vf e.kills x.dot) e
theorem Qp(e:EV)(hk:e.kills.length<=1000000000)(m:List (DT×EV)):loop (xI e) (0,m)=pure (e.kills.foldl AL.del m):=
 ZX (body:=xI e) e.kills (fun i (t:List (DT×EV))=>((i:Int),t)) AL.del (fun t=>pure t) (fun _ _=>True) (fun i x t hx hi _=>by
  have hd:decide ((i:Int) < (e.kills.length:Int))=true:=by simpa using hi
  refine⟨?_,trivial⟩;unfold xI;simp only[hd,cond_true,zK hx,zA,yL (show i < 9223372036854775807 by omega)]) (fun t _=>by
  unfold xI;simp[zA]) m trivial
theorem wza(e:EV)(hk:e.kills.length<=1000000000)(xc:List PT)(L:List EV)(hl:L.length<=1000000000):loop (Zn ⟨xc,L⟩ e) (0,[])=pure (L.filter fun x=>!decide (x.kind=1)||!vf e.kills x.dot):=
 y7a (body:=Zn ⟨xc,L⟩ e) L (fun x=>!decide (x.kind=1)||!vf e.kills x.dot) (fun t=>pure t) (fun i x t hx hi hI=>by
  have hd:decide ((i:Int) < (L.length:Int))=true:=by simpa using hi
  unfold Zn;have hh:Ug e.kills x.dot=pure (vf e.kills x.dot):=E.VJ e.kills x.dot (by omega);simp only[hd,cond_true,zK hx,zA,hh,zB,yL (show i < 9223372036854775807 by omega)]
  cases decide (x.kind=1) <;> cases vf e.kills x.dot <;> simp only[Bool.not_true,Bool.not_false,cond_true,cond_false,zA,Bool.or_true,Bool.or_false,Bool.true_or,Bool.false_or,if_true,if_false,Bool.false_eq_true]
  all_goals (try rw[zE (by simp;omega)])
  all_goals rfl) (fun t=>by
  unfold Zn;simp[zA])
theorem Yx(hR:Rep n W c xc nl1 m1 nl2 m2 L){e:EV}(hc:C.yf W e.dot.dev e.dot.n=false){x:EV}:x∈Xb L e↔x=e\/(x∈L/\(x.kind≠1\/x.dot∉e.kills)):=by
 unfold Xb;rw[uX,List.mem_filter]
 ·simp only[Bool.or_eq_true,Bool.not_eq_true',decide_eq_false_iff_not,<- Bool.not_eq_true (b:=vf _ _),vP]
 ·intro x hx e1;have:=hR.dots x.dot (yV.2 ⟨x,(List.mem_filter.1 hx).1,.inl rfl⟩);rw[e1,hc] at this;cases this
theorem Rep.put(hR:Rep n W c xc nl1 m1 nl2 m2 L)(hn:n<=100000000){e:EV}(oe:OkE e)(g:yE e=true)(hc:C.yf W e.dot.dev e.dot.n=false) :
  ∃ c' xc' nl1' m1' nl2' m2',zl e c nl1 m1 nl2 m2=pure (0,c',nl1',m1',nl2',m2')/\VC ⟨xc,L⟩ e=pure (⟨xc',Xb L e⟩,0)/\Rep (n+600) (W++C.yD (yB [e])) c' xc' nl1' m1' nl2' m2' (Xb L e):=by
 obtain⟨k1,k2,k3⟩:=XZ g;have hdl:(zu [e]).length<=300:=by simp[zu];omega
 have hde:(yB [e]).length<=300:=Nat.le_trans (D.qY _) hdl;have hne:∀ x∈L,x.dot≠e.dot:=fun x hx e1=>by
  have:=hR.dots x.dot (yV.2 ⟨x,hx,.inl rfl⟩);rw[e1,hc] at this;cases this
 have hadd:UQ c (yB [e])=pure (C.zb (W++C.yD (yB [e]))):=by
  have h:=hR.okc hn;rw[C.Add_eq c (yB [e]) (by omega) h.len h.tot,hR.ctx,C.qR]
 have hxok:C.Ok (C.zb (C.yD (yB [e]))):=C.qV (by omega);have hjoin:XT xc (C.zb (C.yD (yB [e])))=pure (C.opC (·||·) xc (C.zb (C.yD (yB [e])))):=C.qQ _ _ hR.xok hxok;have hxe:C.opC (·||·) xc (C.zb (C.yD (yB [e])))=C.zb (W++C.yD (yB [e])):=(C.xr rfl _ _).ext (C.yp _) fun k n=>by
  rw[C.vN rfl,C.zx,C.zx,C.ve,hR.xctx]
 have hW1:(W++C.yD (yB [e])).length<=n+600:=by have:=hR.wl;have:=C.vO (yB [e]);rw[List.length_append];omega
 have hW2:C.uF (W++C.yD (yB [e]))<=n+600:=by have:=hR.wt;have:=C.XX (yB [e]);rw[C.XW];omega
 have hsP:wj (Xb L e):=UC (zR hR.srt _) e;have hmem:=fun x=>Yx (x:=x) hR hc
 -- the document
 have hr:VC ⟨xc,L⟩ e=pure (⟨C.zb (W++C.yD (yB [e])),Xb L e⟩,0):=by
  unfold VC;rw[E.UB oe,zB,zA,g,Bool.not_true,cond_false];rw[show(⟨xc,L⟩:RB).ctx=xc from rfl,hR.rhas,zB,zA,hc,cond_false,wza e (by omega) xc L (by have:=hR.ll;omega),zA];rw[F.qe [e] (by simp) (fun x hx=>by rw[List.mem_singleton.1 hx];omega),zB,zA,C.rOf_eq _ (by omega),zB,zA,hjoin,zB,zA,hxe];rw[rPutI_eq _ e (zR hR.srt _) (fun x hx=>hne x (List.mem_filter.1 hx).1) (by have:=List.length_filter_le (fun x:EV=>!decide (x.kind=1)||!vf e.kills x.dot) L;have:=hR.ll;omega),zB,zA]
  rfl
 have hdots:∀ d∈zu (Xb L e),C.yf (W++C.yD (yB [e])) d.dev d.n=true:=fun d hd=>by
  rw[C.ve];obtain⟨x,hx,h⟩:=yV.1 hd;rcases(hmem x).1 hx with rfl | ⟨hx,_⟩
  ·rw[Bool.or_eq_true];refine .inr ((C.qM _ _ _).2 ⟨d,D.ZS.2 (yV.2 ⟨x,by simp,h⟩),?_,rfl,rfl⟩);rcases h with rfl | h
   ·exact Wm g
   ·exact(k3 d h).1
  ·rw[hR.dots d (yV.2 ⟨x,hx,h⟩)];rfl
 have halive:∀ x∈Xb L e,x.kind=1->wk (Xb L e) x.dot=false:=fun x hx h1=>by
  rw[<- Bool.not_eq_true,Xa];rintro⟨y,hy,h2⟩;rcases(hmem x).1 hx with rfl | ⟨hx,h3⟩ <;> rcases(hmem y).1 hy with rfl | ⟨hy,_⟩
  ·exact(k3 _ h2).2 rfl
  ·have:=hR.dots _ (yV.2 ⟨y,hy,.inr h2⟩);rw[hc] at this;cases this
  ·exact h3.elim (fun h=>h h1) (fun h=>h h2)
  ·have:=hR.alive x hx h1;rw[<- Bool.not_eq_true,Xa] at this;exact this ⟨y,hy,h2⟩
 have base:∀ {a b:Bool} {p q:List (DT×EV)},Holds p (yx (Xb L e))->Holds q (wn (Xb L e))->(a=true->p=[])->(b=true->q=[]) ->
   Rep (n+600) (W++C.yD (yB [e])) (C.zb (W++C.yD (yB [e]))) (C.zb (W++C.yD (yB [e]))) a p b q (Xb L e):=fun h1 h2 h3 h4=>
  ⟨rfl,fun k n=>C.zx _ _ _,ZT (by omega) (by omega),h1,h2,h3,h4,hsP,fun x hx=>by
   rcases(hmem x).1 hx with rfl | ⟨hx,_⟩
   ·exact⟨g,oe⟩
   ·exact hR.good x hx,hdots,halive,hW1,hW2,by
   have h5:=insE_len (L.filter fun x=>!decide (x.kind=1)||!vf e.kills x.dot) e (zR hR.srt _);have h6:=List.length_filter_le (fun x:EV=>!decide (x.kind=1)||!vf e.kills x.dot) L;have:=hR.ll;unfold Xb;omega⟩
 have hL1:=Holds.dels e.kills hR.live (zR hR.srt _);have hst1:wj ((yx L).filter fun x=>!vf e.kills x.dot):=zR (zR hR.srt _) _;rcases Qo g with hk | hk
 ·have h1:yx (Xb L e)=jb ((yx L).filter fun x=>!vf e.kills x.dot) e:=vg (zR hsP _) (UC hst1 e) fun x=>by
   rw[zy,hmem,uX (fun x hx=>hne x (zy.1 (List.mem_filter.1 hx).1).1),List.mem_filter,zy,Bool.not_eq_true',<- Bool.not_eq_true,vP]
   constructor
   ·rintro⟨rfl | ⟨h1,h2⟩,h3⟩
    ·exact .inl rfl
    ·exact .inr ⟨⟨h1,h3⟩,h2.resolve_left (fun h=>h h3)⟩
   ·rintro(rfl | ⟨⟨h1,h2⟩,h3⟩)
    ·exact⟨.inl rfl,hk⟩
    ·exact⟨.inr ⟨h1,.inr h3⟩,h2⟩
  have h2:wn (Xb L e)=wn L:=vg (zR hsP _) (zR hR.srt _) fun x=>by
   rw[wP,hmem,wP]
   constructor
   ·rintro⟨rfl | ⟨h1,h2⟩,h3⟩
    ·omega
    ·exact⟨h1,h3⟩
   ·rintro⟨h1,h2⟩;exact⟨.inr ⟨h1,.inl (by omega)⟩,h2⟩
  refine⟨_,_,false,AL.set (e.kills.foldl AL.del m1) e.dot e,nl2,m2,?_,hr,base ?_ ?_ (fun h=>by cases h) hR.n2⟩
  ·unfold zl;rw[E.YM oe,zB,zA,g,Bool.not_true,cond_false,hR.has hn,zB,zA,hc,cond_false,F.jJ [e] (by simp) (by omega),zB,zA,hadd,zB,zA,Qp e (by omega),zA,decide_eq_true hk,cond_true];rw[add_eq (by omega) (fun h=>by rw[hR.n1 h];exact qh _),zB,zA]
   rfl
  ·rw[h1];exact hL1.add hst1 fun x hx=>hne x (zy.1 (List.mem_filter.1 hx).1).1
  ·rw[h2];exact hR.tomb
 ·have h1:yx (Xb L e)=(yx L).filter fun x=>!vf e.kills x.dot:=vg (zR hsP _) hst1 fun x=>by
   rw[zy,hmem,List.mem_filter,zy,Bool.not_eq_true',<- Bool.not_eq_true,vP]
   constructor
   ·rintro⟨rfl | ⟨h1,h2⟩,h3⟩
    ·omega
    ·exact⟨⟨h1,h3⟩,h2.resolve_left (fun h=>h h3)⟩
   ·rintro⟨⟨h1,h2⟩,h3⟩;exact⟨.inr ⟨h1,.inr h3⟩,h2⟩
  have h2:wn (Xb L e)=jb (wn L) e:=vg (zR hsP _) (UC (zR hR.srt _) e) fun x=>by
   rw[wP,hmem,uX (fun x hx=>hne x (wP.1 hx).1),wP]
   constructor
   ·rintro⟨rfl | ⟨h1,h2⟩,h3⟩
    ·exact .inl rfl
    ·exact .inr ⟨h1,h3⟩
   ·rintro(rfl | ⟨h1,h2⟩)
    ·exact⟨.inl rfl,hk⟩
    ·exact⟨.inr ⟨h1,.inl (by omega)⟩,h2⟩
  refine⟨_,_,nl1,e.kills.foldl AL.del m1,false,AL.set m2 e.dot e,?_,hr,base ?_ ?_ (fun h=>by rw[hR.n1 h];exact qh _) (fun h=>by cases h)⟩
  ·unfold zl;rw[E.YM oe,zB,zA,g,Bool.not_true,cond_false,hR.has hn,zB,zA,hc,cond_false,F.jJ [e] (by simp) (by omega),zB,zA,hadd,zB,zA,Qp e (by omega),zA,decide_eq_false (show ¬ e.kind=1 by omega),cond_false];rw[add_eq (by omega) hR.n2,zB,zA]
   rfl
  ·rw[h1];exact hL1
  ·rw[h2];exact hR.tomb.add (zR hR.srt _) fun x hx=>hne x (wP.1 hx).1
end
open E (OkE yE wj)
open F (vf zu yB wk)
section
variable{n:Nat}{W c xc:List PT}{nl1:Bool}{m1:List (DT×EV)}{nl2:Bool}{m2:List (DT×EV)}{L:List EV}
theorem UD(L:List EV):(yx L).length<=L.length:=List.length_filter_le _ _
theorem yQa(L:List EV):(wn L).length<=L.length:=List.length_filter_le _ _
theorem Rep.kl(hR:Rep n W c xc nl1 m1 nl2 m2 L):∀ e∈L,e.kills.length<=256:=fun e he=>(XZ (hR.good e he).1).1
theorem Rep.Live(hR:Rep n W c xc nl1 m1 nl2 m2 L)(hn:n<=100000000):zp c nl1 m1 nl2 m2=pure (yx L):=by
 unfold zp;rw[yPa hR.live (zR hR.srt _) (by have:=UD L;have:=hR.ll;omega) (fun e he=>by have:=hR.kl e (zy.1 he).1;omega),zB,zA]
theorem Rep.Tombs(hR:Rep n W c xc nl1 m1 nl2 m2 L)(hn:n<=100000000):xU c nl1 m1 nl2 m2=pure (wn L):=by
 unfold xU;rw[yPa hR.tomb (zR hR.srt _) (by have:=yQa L;have:=hR.ll;omega) (fun e he=>by have:=hR.kl e (wP.1 he).1;omega),zB,zA]
theorem y8a(L:List EV)(h:∀ e∈L,e.kind=1\/e.kind=2):(yx L++wn L).Perm L:=by
 induction L with
 | nil=>exact List.Perm.refl _
 | cons x r ih=>
  have ih:=ih fun e he=>h e (by simp[he])
  rcases h x (by simp) with h1 | h1
  ·have e1:yx (x::r)=x::yx r:=by unfold yx;rw[List.filter_cons,if_pos (by simp[h1])]
   have e2:wn (x::r)=wn r:=by unfold wn;rw[List.filter_cons,if_neg (by simp[h1])]
   rw[e1,e2];exact ih.cons x
  ·have e1:yx (x::r)=yx r:=by unfold yx;rw[List.filter_cons,if_neg (by simp[h1])]
   have e2:wn (x::r)=x::wn r:=by unfold wn;rw[List.filter_cons,if_pos (by simp[h1])]
   rw[e1,e2];exact List.perm_middle.trans (ih.cons x)
theorem Rep.kinds(hR:Rep n W c xc nl1 m1 nl2 m2 L):∀ e∈L,e.kind=1\/e.kind=2:=fun e he=>Qo (hR.good e he).1
theorem Rep.All(hR:Rep n W c xc nl1 m1 nl2 m2 L)(hn:n<=100000000):yP c nl1 m1 nl2 m2=pure L:=by
 unfold yP;rw[list2_eq hR.live hR.tomb (y8a L hR.kinds) hR.srt (by have:=hR.ll;omega) (fun e he=>by have:=hR.kl e he;omega),zB,zA]
theorem Rep.Ctx(hR:Rep n W c xc nl1 m1 nl2 m2 L)(hn:n<=100000000):zI c nl1 m1 nl2 m2=pure (C.zb W):=by
 unfold zI;rw[C.jA c (hR.okc hn).sm,zB,zA,hR.ctx,C.ub (C.yp W)]
theorem rkind_eq(l:List EV)(k:Int)(hl:l.length<=1000000000):Ju l k=pure (l.filter fun e=>decide (e.kind=k)):=by
 unfold Ju;rw[y7a (body:=YH l k) l (fun e=>decide (e.kind=k)) (fun t=>pure t) (fun i x t hx hi hI=>by
  have hd:decide ((i:Int) < (l.length:Int))=true:=by simpa using hi
  unfold YH;simp only[hd,cond_true,zK hx,zA,yL (show i < 9223372036854775807 by omega)]
  cases decide (x.kind=k) <;> simp only[cond_true,cond_false,zA,if_true,if_false,Bool.false_eq_true]
  rw[zE (by simp;omega)]
  rfl) (fun t=>by unfold YH;simp[zA]),zA]
theorem Rep.rLive(hR:Rep n W c xc nl1 m1 nl2 m2 L)(hn:n<=100000000)(y:List PT):Vu ⟨y,L⟩=pure (yx L):=by
 unfold Vu;rw[rkind_eq L 1 (by have:=hR.ll;omega),zB,zA]
 rfl
theorem Rep.see(hR:Rep n W c xc nl1 m1 nl2 m2 L)(hn:n<=100000000){y:List PT}(hy:C.Ok y){k:Nat}(h1:y.length<=k)(h2:C.uF y<=k)(hk:k<=100000000) :
  ∃ c' xc',vD y c nl1 m1 nl2 m2=pure c'/\x5a ⟨xc,L⟩ y=pure ⟨xc',L⟩/\Rep (n+k) (W++y) c' xc' nl1 m1 nl2 m2 L:=by
 have hc:=hR.okc hn;have hwl:=hR.wl;have hwt:=hR.wt;have hl:=C.vu W;have ht:=C.vv W;have e1:C.opC (·||·) xc y=C.zb (W++y):=(C.xr rfl _ _).ext (C.yp _) fun k n=>by rw[C.vN rfl,C.zx,C.ve,hR.xctx]
 refine⟨C.zb (W++y),C.zb (W++y),?_,?_,?_⟩
 ·unfold vD;rw[C.wNa c y (C.sm_app (by rw[hR.ctx];omega) (by rw[hR.ctx];omega)),zB,zA,hR.ctx,C.qR]
 ·unfold x5a;rw[show(⟨xc,L⟩:RB).ctx=xc from rfl,C.qQ xc y hR.xok hy,zB,zA,e1]
 ·exact⟨rfl,fun k n=>C.zx _ _ _,ZT (by rw[List.length_append];omega) (by rw[C.XW];omega),hR.live,hR.tomb,hR.n1,hR.n2,hR.srt,hR.good,fun d hd=>by rw[C.ve,hR.dots d hd];rfl,hR.alive,by rw[List.length_append];omega,by rw[C.XW];omega,by have:=hR.ll;omega⟩
def vc(e:EV):EV:=⟨e.dot,e.kind,e.cid,e.field,e.text,[]⟩
def wq(L:List EV)(e:EV):List DT:=yB ((yx L).filter fun x=>if e.kind=1 then decide (x.cid=e.cid)&&decide (x.field=e.field) else decide (x.cid=e.cid))
theorem ofE_eq(l:List EV)(cid f:Int)(hl:l.length<=1000000)(hk:∀ e∈l,e.kind=1/\e.kills.length<=300):Zi l cid f=pure (yB (l.filter fun x=>decide (x.cid=cid)&&decide (x.field=f))):=by
 unfold Zi xb;have hf:=List.length_filter_le (fun x:EV=>decide (x.cid=cid)&&decide (x.field=f)) l;have hd:=F.vO (l.filter fun x=>decide (x.cid=cid)&&decide (x.field=f)) 300 fun e he=>(hk e (List.mem_filter.1 he).1).2
 rw[y7a (body:=yY l cid f) l (fun x=>decide (x.cid=cid)&&decide (x.field=f)) (fun t=>pure t) (fun i x t hx hi hI=>by
  have hd:decide ((i:Int) < (l.length:Int))=true:=by simpa using hi
  unfold yY uC;simp only[hd,cond_true,zK hx,zA,(hk x (List.mem_of_getElem? hx)).1,decide_true,zg,zB,yL (show i < 9223372036854775807 by omega)]
  cases decide (x.cid=cid) <;> cases decide (x.field=f) <;> simp only[cond_true,cond_false,zA,if_true,if_false,Bool.false_eq_true,Bool.and_true,Bool.and_false,Bool.true_and,Bool.false_and]
  rw[zE (by simp;omega)]
  rfl) (fun t=>by unfold yY;simp[zA]),zA,F.jJ _ (by omega) (by omega),zB,zA,zB,zA]
theorem ofD_eq(l:List EV)(cid:Int)(hl:l.length<=1000000)(hk:∀ e∈l,e.kind=1/\e.kills.length<=300):vp l cid=pure (yB (l.filter fun x=>decide (x.cid=cid))):=by
 unfold vp xS;have hf:=List.length_filter_le (fun x:EV=>decide (x.cid=cid)) l;have hd:=F.vO (l.filter fun x=>decide (x.cid=cid)) 300 fun e he=>(hk e (List.mem_filter.1 he).1).2
 rw[y7a (body:=yQ l cid) l (fun x=>decide (x.cid=cid)) (fun t=>pure t) (fun i x t hx hi hI=>by
  have hd:decide ((i:Int) < (l.length:Int))=true:=by simpa using hi
  unfold yQ vE;simp only[hd,cond_true,zK hx,zA,(hk x (List.mem_of_getElem? hx)).1,decide_true,zB,yL (show i < 9223372036854775807 by omega)]
  cases decide (x.cid=cid) <;> simp only[cond_true,cond_false,zA,if_true,if_false,Bool.false_eq_true]
  rw[zE (by simp;omega)]
  rfl) (fun t=>by unfold yQ;simp[zA]),zA,F.jJ _ (by omega) (by omega),zB,zA,zB,zA]
theorem rofE_eq(l:List EV)(cid f:Int)(hl:l.length<=1000000)(hk:∀ e∈l,e.kind=1/\e.kills.length<=300):Jv l cid f=pure (yB (l.filter fun x=>decide (x.cid=cid)&&decide (x.field=f))):=by
 unfold Jv;have hf:=List.length_filter_le (fun x:EV=>decide (x.cid=cid)&&decide (x.field=f)) l;rw[y7a (body:=YI l cid f) l (fun x=>decide (x.cid=cid)&&decide (x.field=f)) (fun t=>pure t) (fun i x t hx hi hI=>by
  have hd:decide ((i:Int) < (l.length:Int))=true:=by simpa using hi
  unfold YI;simp only[hd,cond_true,zK hx,zA,(hk x (List.mem_of_getElem? hx)).1,decide_true,yL (show i < 9223372036854775807 by omega)]
  cases decide (x.cid=cid) <;> cases decide (x.field=f) <;> simp only[cond_true,cond_false,zA,if_true,if_false,Bool.false_eq_true,Bool.and_true,Bool.and_false,Bool.true_and,Bool.false_and]
  rw[zE (by simp;omega)]
  rfl) (fun t=>by unfold YI;simp[zA]),zA,F.qe _ (by omega) (fun e he=>(hk e (List.mem_filter.1 he).1).2),zB,zA]
theorem rofD_eq(l:List EV)(cid:Int)(hl:l.length<=1000000)(hk:∀ e∈l,e.kind=1/\e.kills.length<=300):VD l cid=pure (yB (l.filter fun x=>decide (x.cid=cid))):=by
 unfold VD;have hf:=List.length_filter_le (fun x:EV=>decide (x.cid=cid)) l;rw[y7a (body:=uS l cid) l (fun x=>decide (x.cid=cid)) (fun t=>pure t) (fun i x t hx hi hI=>by
  have hd:decide ((i:Int) < (l.length:Int))=true:=by simpa using hi
  unfold uS;simp only[hd,cond_true,zK hx,zA,(hk x (List.mem_of_getElem? hx)).1,decide_true,yL (show i < 9223372036854775807 by omega)]
  cases decide (x.cid=cid) <;> simp only[cond_true,cond_false,zA,if_true,if_false,Bool.false_eq_true]
  rw[zE (by simp;omega)]
  rfl) (fun t=>by unfold uS;simp[zA]),zA,F.qe _ (by omega) (fun e he=>(hk e (List.mem_filter.1 he).1).2),zB,zA]
def Ve(W:List PT)(L:List EV)(e:EV):EV×Int:=
 if yE (vc e)=false then (⟨⟨0,0⟩,0,0,0,⟨#[]⟩,[]⟩,1) else if C.yf W e.dot.dev e.dot.n=true then (⟨⟨0,0⟩,0,0,0,⟨#[]⟩,[]⟩,7)
 else if 256 < (wq L e).length then (⟨⟨0,0⟩,0,0,0,⟨#[]⟩,[]⟩,3) else (⟨e.dot,e.kind,e.cid,e.field,e.text,wq L e⟩,0)
theorem zaa{e:EV}(h:OkE e):OkE (vc e):=⟨h.dot,h.kind,h.cid,h.field,h.text,(fun d hd=>nomatch hd),by simp[vc]⟩
theorem Rep.make(hR:Rep n W c xc nl1 m1 nl2 m2 L)(hn:n<=1000000){e:EV}(oe:OkE e) :
  yh e c nl1 m1 nl2 m2=pure (Ve W L e)/\z6a ⟨xc,L⟩ e=pure (Ve W L e):=by
 have hll:=UD L;have hL:=hR.ll;have hk:∀ x∈yx L,x.kind=1/\x.kills.length<=300:=fun x hx=>⟨(zy.1 hx).2,by have:=hR.kl x (zy.1 hx).1;omega⟩
 have h1:=E.YM (zaa oe);have h2:=E.UB (zaa oe);have h3:=hR.has (by omega) e.dot;have h4:=hR.rhas e.dot;have a1:=ofE_eq (yx L) e.cid e.field (by omega) hk;have a2:=ofD_eq (yx L) e.cid (by omega) hk;have a3:=rofE_eq (yx L) e.cid e.field (by omega) hk;have a4:=rofD_eq (yx L) e.cid (by omega) hk;unfold Ve
 constructor
 ·unfold yh;rw[show(⟨e.dot,e.kind,e.cid,e.field,e.text,([]:List DT)⟩:EV)=vc e from rfl,h1,zB,zA]
  cases yE (vc e) with
  | false=>rfl
  | true=>
   rw[Bool.not_true,cond_false,h3,zB,zA]
   cases C.yf W e.dot.dev e.dot.n with
   | true=>rfl
   | false=>
    rw[cond_false,if_neg (by simp),if_neg (by simp)];have hq:(cond (decide (e.kind=1))
      (M.bind (M.det (zp c nl1 m1 nl2 m2)) fun y15=>M.bind (M.det (Zi y15 e.cid e.field)) fun v17=>M.pure (Ex.brk v17))
      (M.bind (M.det (zp c nl1 m1 nl2 m2)) fun y19=>M.bind (M.det (vp y19 e.cid)) fun v21=>M.pure (Ex.brk v21)):M (Ex (List DT) (EV×Int)))=pure (Ex.brk (wq L e)):=by
     rw[hR.Live (by omega),zB,zA,zA,a1,a2,zB,zB,zA,zA,WI];unfold wq
     by_cases h:e.kind=1 <;> simp[h]
    rw[hq,zA,uh,yw]
    by_cases h:256 < (wq L e).length
    ·rw[if_pos h,if_pos (by omega)]
    ·rw[if_neg h,if_neg (by omega)]
 ·unfold z6a;rw[show(⟨e.dot,e.kind,e.cid,e.field,e.text,([]:List DT)⟩:EV)=vc e from rfl,h2,zB,zA]
  cases yE (vc e) with
  | false=>rfl
  | true=>
   rw[Bool.not_true,cond_false,show(⟨xc,L⟩:RB).ctx=xc from rfl,h4,zB,zA]
   cases C.yf W e.dot.dev e.dot.n with
   | true=>rfl
   | false=>
    rw[cond_false,if_neg (by simp),if_neg (by simp),hR.rLive (by omega),zB,zA,a4,zB,zA];simp only[zA,a3,zB];rw[WI,zA];have hq:(cond (decide (e.kind=1)) (yB ((yx L).filter fun x=>decide (x.cid=e.cid)&&decide (x.field=e.field))) (yB ((yx L).filter fun x=>decide (x.cid=e.cid))))=wq L e:=by
     unfold wq
     by_cases h:e.kind=1 <;> simp[h]
    rw[hq,yw]
    by_cases h:256 < (wq L e).length
    ·rw[if_pos h,if_pos (by omega)]
    ·rw[if_neg h,if_neg (by omega)]
end
open E (OkE yE wj)
open F (vf zu yB wk)
theorem yRa{l:List EV}:wj l↔D.Srt (l.map (·.dot)):=by
 unfold wj D.Srt;rw[List.pairwise_map]
theorem Yy{l l':List EV}(h:wj l)(e:l'.map (·.dot)=l.map (·.dot)):wj l':=by rw[yRa,e,<- yRa];exact h
def ya(y:List PT)(x:EV):EV:=if C.yf y x.dot.dev x.dot.n=true then vc x else x
theorem Yz(y:List PT)(x:EV):(ya y x).dot=x.dot:=by unfold ya;split <;> rfl
theorem Zr(y:List PT)(x:EV):(ya y x).kind=x.kind:=by unfold ya;split <;> rfl
theorem jL(y:List PT)(x:EV):∀ d∈(ya y x).kills,d∈x.kills:=by
 unfold ya
 split
 ·intro d hd;cases hd
 ·intro d hd;exact hd
theorem y9a{y:List PT}{x:EV}(h:yE x=true/\OkE x):yE (ya y x)=true/\OkE (ya y x):=by
 unfold ya
 split
 ·refine⟨?_,zaa h.2⟩;have:=h.1;simp only[yE,Bool.and_eq_true] at this ⊢;exact⟨this.1,this.2.1,rfl⟩
 ·exact h
theorem vh(y:List PT)(l:List EV):(l.map (ya y)).map (·.dot)=l.map (·.dot):=by
 rw[List.map_map];exact List.map_congr_left fun x _=>Yz y x
theorem Strip_eq(x:EV){y:List PT}(hy:C.Ok y)(hk:x.kills.length<=1000000000):Zz x y=pure (ya y x):=by
 unfold Zz;rw[qd x (by omega),zB,zA,C.VZ y x.dot hy.sm,zB,zA,WI,zA];unfold ya vc
 cases C.yf y x.dot.dev x.dot.n <;> rfl
theorem w0a(x:EV){y:List PT}(hy:C.Ok y):Ui x y=pure (ya y x):=by
 unfold Ui;rw[C.VJ y x.dot hy,zB,zA,WI,zA];unfold ya vc
 cases C.yf y x.dot.dev x.dot.n <;> rfl
def zt(y:List PT)(x:EV):Bool:=C.yf y x.dot.dev x.dot.n
def xV(y:List PT)(L:List EV):List EV:=(L.filter fun x=>decide (x.kind=1)||!zt y x).map (ya y)
theorem ySa{m:List (DT×EV)}{A B:List EV}{x x':EV}(h:Holds m (A++x::B))(hs:wj (A++x::B))(hd:x'.dot=x.dot):Holds (AL.set m x.dot x') (A++x'::B):=by
 have hs':wj (A++x'::B):=Yy hs (by simp[hd]);refine qg (AL.nodup_set (h.keys hs) _ _) hs' fun k=>?_
 rw[wxa (h.keys hs),h.mem];have hne:∀ z,z∈A\/z∈B->z.dot≠x.dot:=fun z hz e=>by
  have hz':z∈A++x::B:=by rw[List.mem_append,List.mem_cons];exact hz.imp (fun h=>h) .inr
  have e2:=srtE_one hs hz' (by simp) e;subst e2;have h2:=Zq hs;rw[List.map_append,List.map_cons,List.nodup_append,List.nodup_cons] at h2;rcases hz with hz | hz
  ·exact h2.2.2 _ (List.mem_map.2 ⟨z,hz,rfl⟩) _ (by simp) rfl
  ·exact h2.2.1.1 (List.mem_map.2 ⟨z,hz,rfl⟩)
 simp only[List.mem_append,List.mem_cons]
 constructor
 ·rintro(⟨⟨h1,h2⟩,h3⟩ | h1)
  ·refine⟨?_,h2⟩;rcases h1 with h1 | h1 | h1
   ·exact .inl h1
   ·exact absurd (by rw[h2,h1]) h3
   ·exact .inr (.inr h1)
  ·rw[h1];exact⟨.inr (.inl rfl),hd.symm⟩
 ·rintro⟨h1 | h1 | h1,h2⟩
  ·exact .inl ⟨⟨.inl h1,h2⟩,by rw[h2];exact hne _ (.inl h1)⟩
  ·refine .inr ?_;obtain⟨k1,k2⟩:=k;simp only at h1 h2;rw[h2,h1,hd]
  ·exact .inl ⟨⟨.inr (.inr h1),h2⟩,by rw[h2];exact hne _ (.inr h1)⟩
theorem has_of{m:List (DT×EV)}{l:List EV}(h:Holds m l)(hs:wj l){x:EV}(hx:x∈l):AL.has m x.dot=true:=by
 unfold AL.has;have:=AL.mem_get (h.keys hs) ((Holds.mem h (k:=(x.dot,x))).2 ⟨hx,rfl⟩);rw[this];rfl
theorem xAa{y:List PT}(hy:C.Ok y)(l:List EV)(hl:l.length<=1000000000)(hk:∀ e∈l,e.kills.length<=300)(hs:wj l){nl:Bool}{m:List (DT×EV)}(h:Holds m l) :
  ∃ m',ZN l y nl m=pure (nl,m')/\Holds m' (l.map (ya y))/\(m=[]->m'=[]):=by
 have h1:=ZX (body:=vF l y nl) l (fun i (t:List (DT×EV))=>((i:Int),t)) (fun t x=>AL.set t x.dot (ya y x)) (fun t=>pure (nl,t))
  (fun i t=>Holds t ((l.take i).map (ya y)++l.drop i)) (fun i x t hx hi hI=>by
   have hd:decide ((i:Int) < (l.length:Int))=true:=by simpa using hi
   have hdr:l.drop i=x::l.drop (i+1):=by
    rw[List.drop_eq_getElem_cons hi]
    congr 1
    rw[List.getElem?_eq_getElem hi] at hx;exact Option.some.inj hx
   have htk:l.take (i+1)=l.take i++[x]:=by rw[List.take_add_one,hx];rfl
   have hss:wj ((l.take i).map (ya y)++x::l.drop (i+1)):=by
    rw[<- hdr];refine Yy hs ?_;rw[List.map_append,vh,<- List.map_append,List.take_append_drop]
   rw[hdr] at hI;refine⟨?_,?_⟩
   ·unfold vF;have hh:=has_of hI hss (x:=x) (by simp);simp only[hd,cond_true,zK hx,zA,hh,Strip_eq x hy (by have:=hk x (List.mem_of_getElem? hx);omega),zB,yL (show i < 9223372036854775807 by omega)];rw[zE trivial,zA]
   ·rw[htk,List.map_append,List.append_assoc];exact ySa hI hss (Yz y x)) (fun t _=>by
   unfold vF;simp[zA]) m (by simpa using h)
 have hinv:∀ (k i:Nat) (t:List (DT×EV)),i+k=l.length->Holds t ((l.take i).map (ya y)++l.drop i)->Holds ((l.drop i).foldl (fun t x=>AL.set t x.dot (ya y x)) t) (l.map (ya y)):=by
  intro k
  induction k with
  | zero=>
   intro i t hi ht;have:i=l.length:=by omega
   subst this;rw[List.drop_length,List.take_length,List.append_nil] at ht;rw[List.drop_length];exact ht
  | succ k ih=>
   intro i t hi ht;have hlt:i < l.length:=by omega
   have hdr:=List.drop_eq_getElem_cons hlt;have htk:l.take (i+1)=l.take i++[l[i]]:=by rw[List.take_add_one,List.getElem?_eq_getElem hlt];rfl
   have hss:wj ((l.take i).map (ya y)++l[i]::l.drop (i+1)):=by
    rw[<- hdr];refine Yy hs ?_;rw[List.map_append,vh,<- List.map_append,List.take_append_drop]
   rw[hdr,List.foldl_cons];refine ih (i+1) _ (by omega) ?_;rw[htk,List.map_append,List.append_assoc];rw[hdr] at ht;exact ySa ht hss (Yz y _)
 refine⟨l.foldl (fun(t:List (DT×EV)) (x:EV)=>AL.set t x.dot (ya y x)) m,by unfold ZN;exact h1,by simpa using hinv l.length 0 m (by omega) (by simpa using h),fun hm=>?_⟩;subst hm;have:l=[]:=by
  have:=h.len;simpa using this.symm
 rw[this];rfl
section
variable{n:Nat}{W c xc:List PT}{nl1:Bool}{m1:List (DT×EV)}{nl2:Bool}{m2:List (DT×EV)}{L:List EV}
theorem Rep.Live'(hR:Rep n W c xc nl1 m1 nl2 m2 L)(hn:n<=100000000)(c':List PT)(b:Bool)(m':List (DT×EV)):zp c' nl1 m1 b m'=pure (yx L):=hR.Live hn
theorem w1a{y:List PT}(hy:C.Ok y)(T:List EV)(hl:T.length<=1000000000)(m:List (DT×EV)) :
  loop (yj T y) (0,0,m)=pure (((T.filter (zt y)).length:Int),((T.filter (zt y)).map (·.dot)).foldl AL.del m):=by
 have h1:=ZX (body:=yj T y) T (fun i (t:List EV×List (DT×EV))=>((t.1.length:Int),(i:Int),t.2)) (fun t x=>if zt y x=true then (t.1++[x],AL.del t.2 x.dot) else t) (fun t=>pure ((t.1.length:Int),t.2))
  (fun i t=>t.1.length<=i) (fun i x t hx hi hI=>by
   have hd:decide ((i:Int) < (T.length:Int))=true:=by simpa using hi
   refine⟨?_,?_⟩
   ·unfold yj;have hh:uB y x.dot=pure (zt y x):=C.VZ y x.dot hy.sm;simp only[hd,cond_true,zK hx,zA,hh,zB,yL (show i < 9223372036854775807 by omega)]
    cases zt y x with
    | true=>
     simp only[cond_true,if_true,zA];rw[yL (by omega)];simp
    | false=>simp[zA]
   ·split
    ·simp only[List.length_append,List.length_singleton];omega
    ·omega) (fun t _=>by
   unfold yj;simp[zA]) ([],m) (Nat.le_refl _)
 have hf:∀ (q:List EV) (t:List EV×List (DT×EV)),q.foldl (fun t x=>if zt y x=true then (t.1++[x],AL.del t.2 x.dot) else t) t=(t.1++q.filter (zt y),((q.filter (zt y)).map (·.dot)).foldl AL.del t.2):=by
  intro q
  induction q with
  | nil=>intro t;simp
  | cons x r ih=>
   intro t;rw[List.foldl_cons,ih,List.filter_cons]
   split <;> simp_all
 rw[hf] at h1;exact h1
theorem zba{y:List PT}(hy:C.Ok y)(xc:List PT)(L:List EV)(hl:L.length<=1000000000):loop (vt ⟨xc,L⟩ y) (0,[])=pure (xV y L):=by
 have h1:=ZX (body:=vt ⟨xc,L⟩ y) L (fun i (t:List EV)=>((i:Int),t)) (fun t x=>if (decide (x.kind=1)||!zt y x)=true then t++[ya y x] else t) (fun t=>pure t)
  (fun i t=>t.length<=i) (fun i x t hx hi hI=>by
   have hd:decide ((i:Int) < (L.length:Int))=true:=by simpa using hi
   refine⟨?_,by split <;> (try rw[List.length_append,List.length_singleton]) <;> omega⟩;unfold vt;have hh:Ys y x.dot=pure (zt y x):=C.VJ y x.dot hy;simp only[hd,cond_true,zK hx,zA,hh,zB,w0a x hy,yL (show i < 9223372036854775807 by omega)]
   cases decide (x.kind=1) <;> cases zt y x <;> simp only[Bool.not_true,Bool.not_false,cond_true,cond_false,zA,Bool.or_true,Bool.or_false,Bool.true_or,Bool.false_or,if_true,if_false,Bool.false_eq_true]
   all_goals (try rw[zE (by simp;omega)])
   all_goals rfl) (fun t _=>by unfold vt;simp[zA]) [] (Nat.le_refl _)
 have hf:∀ (q t:List EV),q.foldl (fun t x=>if (decide (x.kind=1)||!zt y x)=true then t++[ya y x] else t) t=t++(q.filter fun x=>decide (x.kind=1)||!zt y x).map (ya y):=by
  intro q
  induction q with
  | nil=>intro t;simp
  | cons x r ih=>intro t;rw[List.foldl_cons,ih,List.filter_cons];split <;> simp
 rw[hf,List.nil_append] at h1;exact h1
theorem Rep.prune(hR:Rep n W c xc nl1 m1 nl2 m2 L)(hn:n<=100000000){y:List PT}(hy:C.Ok y) :
  ∃ k nl1' m1' nl2' m2',xm y c nl1 m1 nl2 m2=pure (k,nl1',m1',nl2',m2')/\QQ ⟨xc,L⟩ y=pure (⟨xc,xV y L⟩,k)/\Rep n W c xc nl1' m1' nl2' m2' (xV y L)/\k=((wn L).filter (zt y)).length:=by
 have hll:=hR.ll;have hl1:=UD L;have ht1:=yQa L;obtain⟨m1',h1,h2,h3⟩:=xAa (nl:=nl1) hy (yx L) (by omega) (fun e he=>by have:=hR.kl e (zy.1 he).1;omega) (zR hR.srt _) hR.live;have hdel:=Holds.dels ((wn L).filter (zt y) |>.map (·.dot)) hR.tomb (zR hR.srt _);have hP:∀ x∈L,(decide (x.kind=1)||!zt y x)=true↔(x.kind=1\/zt y x=false):=fun x _=>by simp
 have hsP:wj (xV y L):=Yy (zR hR.srt (fun x=>decide (x.kind=1)||!zt y x)) (vh y _);have mem_p:∀ z,z∈xV y L↔∃ x∈L,(x.kind=1\/zt y x=false)/\ya y x=z:=fun z=>by
  unfold xV;rw[List.mem_map]
  constructor
  ·rintro⟨x,hx,e⟩;rw[List.mem_filter] at hx;exact⟨x,hx.1,(hP x hx.1).1 hx.2,e⟩
  ·rintro⟨x,hx,hp,e⟩;exact⟨x,List.mem_filter.2 ⟨hx,(hP x hx).2 hp⟩,e⟩
 have hlive:yx (xV y L)=(yx L).map (ya y):=by
  refine vg (zR hsP _) (Yy (zR hR.srt _) (vh y _)) fun z=>?_
  rw[zy,mem_p,List.mem_map]
  constructor
  ·rintro⟨⟨x,hx,hp,rfl⟩,hz⟩;exact⟨x,zy.2 ⟨hx,by rw[<- Zr y x];exact hz⟩,rfl⟩
  ·rintro⟨x,hx,rfl⟩;obtain⟨h4,h5⟩:=zy.1 hx;exact⟨⟨x,h4,.inl h5,rfl⟩,by rw[Zr];exact h5⟩
 have htomb:wn (xV y L)=(wn L).filter fun e=>!vf ((wn L).filter (zt y) |>.map (·.dot)) e.dot:=by
  refine vg (zR hsP _) (zR (zR hR.srt _) _) fun z=>?_
  rw[wP,mem_p,List.mem_filter,wP,Bool.not_eq_true',<- Bool.not_eq_true,vP];have hsn:∀ x:EV,zt y x=false->ya y x=x:=fun x h=>by
   unfold ya;rw[if_neg];show ¬ zt y x=true;rw[h];simp
  constructor
  ·rintro⟨⟨x,hx,hp,rfl⟩,hz⟩;rw[Zr] at hz;have hs:zt y x=false:=hp.resolve_left (by omega);rw[hsn x hs];refine⟨⟨hx,hz⟩,fun h=>?_⟩;obtain⟨w,hw,e⟩:=List.mem_map.1 h;have h4:=(List.mem_filter.1 hw).2;unfold zt at h4 hs;rw[e,hs] at h4;cases h4
  ·rintro⟨⟨hx,hz⟩,h⟩;have hs:zt y z=false:=by
    cases h4:zt y z with
    | false=>rfl
    | true=>exact absurd (List.mem_map.2 ⟨z,List.mem_filter.2 ⟨wP.2 ⟨hx,hz⟩,h4⟩,rfl⟩) h
   exact⟨⟨z,hx,.inr hs,hsn z hs⟩,hz⟩
 have hlen:(L.length:Int) - ((xV y L).length:Int)=((wn L).filter (zt y)).length:=by
  have e1:(xV y L).length=(L.filter fun x=>decide (x.kind=1)||!zt y x).length:=by unfold xV;rw[List.length_map]
  have e2:(wn L).filter (zt y)=L.filter fun x=>!(decide (x.kind=1)||!zt y x):=by
   unfold wn;rw[List.filter_filter];refine List.filter_congr fun x hx=>?_
   rcases hR.kinds x hx with h | h <;> simp[h]
  have e3:∀ (q:List EV) (p:EV->Bool),q.length=(q.filter p).length+(q.filter fun x=>!p x).length:=by
   intro q p
   induction q with
   | nil=>rfl
   | cons x r ih=>rw[List.filter_cons,List.filter_cons];cases p x <;> simp <;> omega
  have:=e3 L fun x=>decide (x.kind=1)||!zt y x
  rw[e1,e2];omega
 have hle:(xV y L).length<=L.length:=by unfold xV;rw[List.length_map];exact List.length_filter_le _ _
 refine⟨_,nl1,m1',nl2,((wn L).filter (zt y) |>.map (·.dot)).foldl AL.del m2,?_,?_,?_,rfl⟩
 ·unfold xm;rw[hR.Tombs hn,zB,zA,w1a hy (wn L) (by omega),zA];simp only[];rw[hR.Live' hn,zB,zA,h1,zB,zA]
 ·unfold QQ;rw[zba hy xc L (by omega),zA];simp only[];rw[Wc (by omega) (by omega),hlen]
 ·refine⟨hR.ctx,hR.xctx,hR.xok,by rw[hlive];exact h2,by rw[htomb];exact hdel,fun h=>h3 (hR.n1 h),fun h=>by rw[hR.n2 h];exact qh _,hsP,fun z hz=>?_,fun d hd=>?_,fun z hz hk=>?_,hR.wl,hR.wt,by omega⟩
  ·obtain⟨x,hx,_,rfl⟩:=(mem_p z).1 hz;exact y9a (hR.good x hx)
  ·obtain⟨z,hz,h⟩:=yV.1 hd;obtain⟨x,hx,_,rfl⟩:=(mem_p z).1 hz;refine hR.dots d (yV.2 ⟨x,hx,?_⟩);rw[Yz] at h;exact h.imp (fun h=>h) (jL y x d)
  ·obtain⟨x,hx,_,rfl⟩:=(mem_p z).1 hz;rw[Zr] at hk;rw[Yz,<- Bool.not_eq_true,Xa];rintro⟨w,hw,h⟩;obtain⟨v,hv,_,rfl⟩:=(mem_p w).1 hw;have:=hR.alive x hx hk;rw[<- Bool.not_eq_true,Xa] at this;exact this ⟨v,hv,jL y v _ h⟩
theorem Rep.Same(hR:Rep n W c xc nl1 m1 nl2 m2 L)(hn:n<=100000000){n':Nat}{W' c' xc':List PT}{a b:Bool}{p q:List (DT×EV)}{L':List EV}(hR':Rep n' W' c' xc' a p b q L')(hn':n'<=100000000) :
  vV c c' nl1 m1 nl2 m2 a p b q=pure (decide (C.zb W=C.zb W')&&decide (L=L')):=by
 unfold vV;have o1:C.Ok (C.zb W):=hR.ctx▸hR.okc hn;have o2:C.Ok (C.zb W'):=hR'.ctx▸hR'.okc hn';have hA:=F.eAll_eq L L' (by have:=hR.ll;omega) (fun e he=>by have:=hR.kl e he;omega);rw[hR.Ctx hn,zB,zA,hR'.Ctx hn',zB,zA,C.Same_eq _ _ o1.sm o2.sm,zB,zA,C.ub (C.yp W),C.ub (C.yp W'),hR.All hn,zB,zA,hR'.All hn',zB,zA,hA,zB,zA,zg,zA]
end
open E (OkE yE wj)
open F (vf zu yB wk)
theorem delF{body:Int×Int×List EV->M (Step (Int×Int×List EV) (Int×List EV))}(p:EV->Bool)(l:List EV)(hl:l.length<=1000000000)
  (hb1:∀ (i j:Nat) (v:List EV) (x:EV),v[j]?=some x->j < v.length->i < j->v.length<=1000000000->body ((i:Int),(j:Int),v)=pure (.next (if p x=true then ((i:Int),((j+1:Nat):Int),v) else (((i+1:Nat):Int),((j+1:Nat):Int),v.set i x))))
  (hb2:∀ (i:Int) (v:List EV),body (i,(v.length:Int),v)=pure (.done (i,v))) :
  ∀ (k i j:Nat) (v:List EV),j+k=l.length->v.length=l.length->i < j->i=((l.take j).filter fun x=>!p x).length->v.take i=(l.take j).filter (fun x=>!p x)->v.drop j=l.drop j ->
   ∃ v',loop body ((i:Int),(j:Int),v)=pure (((l.filter fun x=>!p x).length:Int),v')/\v'.length=l.length/\v'.take (l.filter fun x=>!p x).length=l.filter fun x=>!p x:=by
 intro k
 induction k with
 | zero=>
  intro i j v hj hv hij hi ht hd;have e:j=v.length:=by omega
  subst e;rw[yJ (hb2 _ _)];rw[hv,List.take_length] at hi ht;exact⟨v,by rw[hi],hv,by rw[<- hi];exact ht⟩
 | succ k ih=>
  intro i j v hj hv hij hi ht hd;have hlt:j < v.length:=by omega
  have hx:=List.getElem?_eq_getElem hlt;have hlx:l[j]?=some v[j]:=by
   have:=congrArg (fun q:List EV=>q[0]?) hd;simp only[List.getElem?_drop,Nat.add_zero] at this;rw[<- this];exact hx
  have htk:l.take (j+1)=l.take j++[v[j]]:=by rw[List.take_add_one,hlx];rfl
  rw[yI (hb1 i j v _ hx hlt hij (by omega))];have hd1:v.drop (j+1)=l.drop (j+1):=by
   have:=congrArg (fun q:List EV=>q.drop 1) hd;simpa[List.drop_drop,Nat.add_comm] using this
  by_cases c:p v[j]=true
  ·rw[if_pos c];refine ih i (j+1) v (by omega) hv (by omega) ?_ ?_ hd1
   ·rw[htk,List.filter_append,List.filter_cons,if_neg (by simp[c])];simpa using hi
   ·rw[htk,List.filter_append,List.filter_cons,if_neg (by simp[c])];simpa using ht
  ·rw[if_neg c];have hf:(l.take (j+1)).filter (fun x=>!p x)=(l.take j).filter (fun x=>!p x)++[v[j]]:=by
    rw[htk,List.filter_append,List.filter_cons,if_pos (by simp[c])];rfl
   refine ih (i+1) (j+1) (v.set i v[j]) (by omega) (by rw[List.length_set];exact hv) (by omega) ?_ ?_ ?_
   ·rw[hf,List.length_append,List.length_singleton,<- hi]
   ·have hls:i < (v.set i v[j]).length:=by rw[List.length_set];omega
    rw[hf,List.take_add_one,List.take_set,List.getElem?_set_self (by omega),ht];have:((l.take j).filter fun x=>!p x).set i v[j]=(l.take j).filter fun x=>!p x:=List.set_eq_of_length_le (by omega)
    rw[this];rfl
   ·rw[List.drop_set,if_pos (by omega)];exact hd1
theorem xBa(l:List EV)(p:EV->Bool):∀ b:Nat,match (l.zipIdx b).find? (fun y=>p y.1) with
  | some y=>b<=y.2/\y.2 - b < l.length/\(l.take (y.2 - b)).all (fun x=>!p x)=true/\∃ x,l[y.2 - b]?=some x/\p x=true
  | none=>l.filter (fun x=>!p x)=l:=by
 induction l with
 | nil=>intro b;simp
 | cons x r ih=>
  intro b;rw[List.zipIdx_cons,List.find?_cons]
  cases hp:p x with
  | true=>simp[hp]
  | false=>
   simp only[];have h:=ih (b+1)
   revert h
   cases (r.zipIdx (b+1)).find? (fun y=>p y.1) with
   | none=>intro h;rw[List.filter_cons,if_pos (by simp[hp]),h]
   | some y=>
    rintro⟨h1,h2,h3,z,h4,h5⟩;have e:y.2 - b=(y.2 - (b+1))+1:=by omega
    refine⟨by omega,by simp;omega,?_,z,?_,h5⟩
    ·rw[e,List.take_succ_cons,List.all_cons,hp];exact h3
    ·rw[e,List.getElem?_cons_succ];exact h4
theorem xCa{l:List EV}{p:EV->Bool}(h:l.all (fun x=>!p x)=true):l.filter (fun x=>!p x)=l:=List.filter_eq_self.2 fun x hx=>List.all_eq_true.1 h x hx
theorem xDa(p:EV->Bool)(l:List EV)(hl:l.length<=1000000000)(ask:M Int)(body:Int×Int×List EV->M (Step (Int×Int×List EV) (Int×List EV)))(z:EV)
  (hask:ask=match l.zipIdx.find? (fun y=>p y.1) with | some y=>pure (y.2:Int) | none=>pure (-1))
  (hb1:∀ (i j:Nat) (v:List EV) (x:EV),v[j]?=some x->j < v.length->i < j->v.length<=1000000000->body ((i:Int),(j:Int),v)=pure (.next (if p x=true then ((i:Int),((j+1:Nat):Int),v) else (((i+1:Nat):Int),((j+1:Nat):Int),v.set i x))))
  (hb2:∀ (i:Int) (v:List EV),body (i,(v.length:Int),v)=pure (.done (i,v))) :
  (M.bind (M.det ask) fun v3=>cond (decide (v3=(-1))) (M.pure l) (M.bind (M.loop body (v3,(IntKind.i64.wrap (v3+1)),l)) (fun⟨i6,v7⟩=>
   M.yc ((0:Int)<=i6/\i6<=(v7.length:Int))<|M.yc ((Int.toNat i6)+(v7.length - Int.toNat i6)<=v7.length) <|
   M.yc ((0:Int)<=0/\(0:Int)<=i6/\i6<=(List.length ((List.take (Int.toNat i6) v7++List.replicate (v7.length - Int.toNat i6) z++List.drop ((Int.toNat i6)+(v7.length - Int.toNat i6)) v7)):Int)) <|
   M.pure ((List.take (Int.toNat i6) ((List.take (Int.toNat i6) v7++List.replicate (v7.length - Int.toNat i6) z++List.drop ((Int.toNat i6)+(v7.length - Int.toNat i6)) v7)))))):M (List EV))=pure (l.filter fun x=>!p x):=by
 have hf:=xBa l p 0
 revert hf
 rw[hask]
 cases l.zipIdx.find? (fun y=>p y.1) with
 | none=>intro hf;rw[hf];simp[zB,zA]
 | some y=>
  rintro⟨h1,h2,h3,x,h4,h5⟩;simp only[Nat.sub_zero] at h2 h3 h4;have hne:decide ((y.2:Int)=-1)=false:=decide_eq_false (by omega);have hall:=xCa h3;have hlen:(l.take y.2).length=y.2:=by rw[List.length_take];omega
  have htk:l.take (y.2+1)=l.take y.2++[x]:=by rw[List.take_add_one,h4];rfl
  have hft:(l.take (y.2+1)).filter (fun x=>!p x)=l.take y.2:=by rw[htk,List.filter_append,hall,List.filter_cons,if_neg (by simp[h5])];simp
  obtain⟨v',e1,e2,e3⟩:=delF (body:=body) p l hl hb1 hb2 (l.length - (y.2+1)) y.2 (y.2+1) l (by omega) rfl (by omega) (by rw[hft,hlen]) (by rw[hft]) rfl;have hle:=List.length_filter_le (fun x=>!p x) l;simp only[zB,zA,hne,cond_false,yL (show y.2 < 9223372036854775807 by omega),e1,Int.toNat_natCast];rw[zE (by omega),zE (by omega),zE (by simp;omega)];rw[List.append_assoc,List.take_append_of_le_length (by rw[List.length_take];omega),List.take_take,Nat.min_self,e3]
section
variable{n:Nat}{W c xc:List PT}{nl1:Bool}{m1:List (DT×EV)}{nl2:Bool}{m2:List (DT×EV)}{L:List EV}
def ofL(L:List EV)(cid:Int):List EV:=(yx L).filter fun x=>decide (x.cid=cid)
theorem make_ok(hR:Rep n W c xc nl1 m1 nl2 m2 L){e:EV}(oe:OkE e):OkE (Ve W L e).1:=by
 have hz:OkE ⟨⟨0,0⟩,0,0,0,⟨#[]⟩,[]⟩:=⟨⟨by decide,by decide,by decide,by decide⟩,by decide,by decide,by decide,by decide,(fun d hd=>nomatch hd),by decide⟩
 unfold Ve
 split
 ·exact hz
 ·split
  ·exact hz
  ·split
   ·exact hz
   ·rename_i h
    refine⟨oe.dot,oe.kind,oe.cid,oe.field,oe.text,fun d hd=>?_,by show(wq L e).length<=_;omega⟩;have hd':d∈wq L e:=hd;unfold wq at hd';obtain⟨x,hx,h2⟩:=yV.1 (D.ZS.1 hd');have hxL:=(zy.1 (List.mem_filter.1 hx).1).1;rcases h2 with rfl | h2
    ·exact(hR.good x hxL).2.dot
    ·exact(hR.good x hxL).2.kills d h2
end
open E (OkE yE wj)
open F (vf zu yB wk)
def exA : EV:=⟨⟨1,1⟩,1,281474976710657,1,⟨#[97]⟩,[]⟩
def exB : EV:=⟨⟨1,2⟩,2,281474976710657,0,⟨#[]⟩,[]⟩
theorem okA : OkE exA:=⟨⟨by decide,by decide,by decide,by decide⟩,by decide,by decide,by decide,by decide,(fun d hd=>nomatch hd),by decide⟩
theorem okB : OkE exB:=⟨⟨by decide,by decide,by decide,by decide⟩,by decide,by decide,by decide,by decide,(fun d hd=>nomatch hd),by decide⟩
theorem putA : Xb [] exA=[exA]:=by decide
theorem gA : yE exA=true:=by decide
def wA : List PT:=[]++C.yD (yB [exA])
open E (OkE yE wj)
open F (vf zu yB wk YR Qm)
open E (OkE yE wj)
open F (vf zu yB wk YR Qm)
theorem zca{l:List EV}(hs:wj l){i:Nat}{x:EV}(hx:l[i]?=some x):YR l i x=false:=by
 unfold YR
 by_cases h:0 < i
 ·have hl:=(List.getElem?_eq_some_iff.1 hx).1;obtain⟨y,hy⟩:∃ y,l[i - 1]?=some y:=⟨_,List.getElem?_eq_getElem (by omega)⟩
  have h3:=List.pairwise_iff_getElem.1 hs (i - 1) i (by omega) hl (by omega);rw[(List.getElem?_eq_some_iff.1 hy).2,(List.getElem?_eq_some_iff.1 hx).2] at h3;have:=V.XV.2 h3;rw[hy];simp;omega
 ·simp[h]
section
variable{n:Nat}{W c xc:List PT}{nl1:Bool}{m1:List (DT×EV)}{nl2:Bool}{m2:List (DT×EV)}{L:List EV}
end
open E (OkE yE wj)
open F (vf zu yB wk)
section
variable{n:Nat}{W c xc:List PT}{nl1:Bool}{m1:List (DT×EV)}{nl2:Bool}{m2:List (DT×EV)}{L:List EV}
def Vc(s:List PT×List EV)(e:EV):List PT×List EV:=if yE e=true/\C.yf s.1 e.dot.dev e.dot.n=false then (s.1++C.yD (yB [e]),Xb s.2 e) else s
theorem Rep.putS(hR:Rep n W c xc nl1 m1 nl2 m2 L)(hn:n<=100000000){e:EV}(oe:OkE e) :
  ∃ k c' xc' nl1' m1' nl2' m2',zl e c nl1 m1 nl2 m2=pure (k,c',nl1',m1',nl2',m2')/\VC ⟨xc,L⟩ e=pure (⟨xc',(Vc (W,L) e).2⟩,k)/\Rep (n+600) (Vc (W,L) e).1 c' xc' nl1' m1' nl2' m2' (Vc (W,L) e).2/\(k≠0->xc'=xc/\(Vc (W,L) e).2=L):=by
 unfold Vc
 cases g:yE e with
 | false=>
  rw[if_neg (by simp)];refine⟨1,c,xc,nl1,m1,nl2,m2,?_,?_,hR.mono (by omega),fun _=>⟨rfl,rfl⟩⟩
  ·unfold zl;rw[E.YM oe,zB,zA,g];rfl
  ·unfold VC;rw[E.UB oe,zB,zA,g];rfl
 | true=>
  cases hc:C.yf W e.dot.dev e.dot.n with
  | true=>
   rw[if_neg (by simp)];refine⟨7,c,xc,nl1,m1,nl2,m2,?_,?_,hR.mono (by omega),fun _=>⟨rfl,rfl⟩⟩
   ·unfold zl;rw[E.YM oe,zB,zA,g,Bool.not_true,cond_false,hR.has hn,zB,zA,hc];rfl
   ·unfold VC;rw[E.UB oe,zB,zA,g,Bool.not_true,cond_false,show(⟨xc,L⟩:RB).ctx=xc from rfl,hR.rhas,zB,zA,hc];rfl
  | false=>
   rw[if_pos (by simp)];obtain⟨c',xc',a,p,b,q,h1,h2,h3⟩:=hR.put hn oe g hc;exact⟨0,c',xc',a,p,b,q,h1,h2,h3,fun h=>absurd rfl h⟩
end
section
variable{n:Nat}{W c xc:List PT}{nl1:Bool}{m1:List (DT×EV)}{nl2:Bool}{m2:List (DT×EV)}{L:List EV}
end
open E (OkE yE wj)
open F (vf zu yB wk ZB OkD)
theorem JC(x:EV){y:List PT}(hy:C.Ok y):xR x y=pure (zt y x):=by
 unfold xR;rw[C.VZ y x.dot hy.sm,zB,zA]
 rfl
theorem zda(l:List EV){y:List PT}(hy:C.Ok y)(hl:l.length<=1000000000):zV y l=pure (l.filter fun x=>!zt y x):=by
 unfold zV;refine xDa (zt y) l hl (zZ l y) (zS y) ⟨⟨0,0⟩,0,0,0,⟨#[]⟩,[]⟩ ?_ (fun i j v x hx hj hij hv=>?_) (fun i v=>?_)
 ·unfold zZ;have:=loopF (body:=zU l y) l (fun i=>(i:Int)) (fun _ x=>zt y x) (fun i _=>Ex.ret (i:Int)) (pure (Ex.brk ())) (fun i x hx hi=>by
   have hd:decide ((i:Int) < (l.length:Int))=true:=by simpa using hi
   unfold zU;simp only[hd,cond_true,zK hx,zA,JC x hy,zB,yL (show i < 9223372036854775807 by omega)]
   cases zt y x <;> rfl) (by
   unfold zU;simp[zA])
  rw[show(0:Int)=((0:Nat):Int) from rfl,this]
  cases l.zipIdx.find? (fun z=>zt y z.1) <;> rfl
 ·have hd:decide ((j:Int) < (v.length:Int))=true:=by simpa using hj
  obtain⟨w,hw⟩:∃ w,v[i]?=some w:=⟨_,List.getElem?_eq_getElem (by omega)⟩
  unfold zS;simp only[hd,cond_true,zK hx,zK hw,zA,JC x hy,zB,yL (show j < 9223372036854775807 by omega),yL (show i < 9223372036854775807 by omega),Int.toNat_natCast]
  cases zt y x <;> rfl
 ·unfold zS;simp
def uL(W:List PT)(L:List EV)(from_:List PT):DL:=⟨C.opC (·&&·) from_ W,C.zb W,L.filter fun x=>!zt from_ x⟩
section
variable{n:Nat}{W c xc:List PT}{nl1:Bool}{m1:List (DT×EV)}{nl2:Bool}{m2:List (DT×EV)}{L:List EV}
theorem meet_ext(y:List PT){a b:List PT}(h:∀ k m,C.yf a k m=C.yf b k m):C.opC (·&&·) y a=C.opC (·&&·) y b:=
 (C.xr rfl _ _).ext (C.xr rfl _ _) fun k m=>by rw[C.vN rfl,C.vN rfl,h]
theorem w2a(y:List PT){a b:List PT}(h:∀ k m,C.yf a k m=C.yf b k m):C.opC (fun x y=>x&&!y) y a=C.opC (fun x y=>x&&!y) y b:=
 (C.xr rfl _ _).ext (C.xr rfl _ _) fun k m=>by rw[C.vN rfl,C.vN rfl,h]
theorem Rep.Since(hR:Rep n W c xc nl1 m1 nl2 m2 L)(hn:n<=100000000){y:List PT}(hy:C.Ok y):zQ y c nl1 m1 nl2 m2=pure (uL W L y):=by
 have hwl:=hR.wl;have hwt:=hR.wt;have hll:=hR.ll;unfold zQ;rw[hR.Ctx hn,zB,zA,C.Meet_eq _ _ hy.sm (ZT (by omega) (by omega)).sm,zB,zA,hR.All hn,zB,zA,zda L hy (by omega),zB,zA,meet_ext y (fun k m=>C.zx W k m)]
 rfl
end
theorem xEa(d:DL)(hd:OkD d) :
  ∀ (q k n:Nat) (W c xc:List PT) (a:Bool) (p:List (DT×EV)) (b:Bool) (r:List (DT×EV)) (L:List EV),k+q=d.events.length->n+600*q<=100000000->Rep n W c xc a p b r L ->
   ∃ c' xc' a' p' b' r',loop (xY d) ((k:Int),c,b,r,a,p)=pure (c',b',r',a',p') /\
    Rep (n+600*q) ((d.events.drop k).foldl Vc (W,L)).1 c' xc' a' p' b' r' ((d.events.drop k).foldl Vc (W,L)).2:=by
 have hel:=hd.len;intro q
 induction q with
 | zero=>
  intro k n W c xc a p b r L hk hn hR;have hkl:k=d.events.length:=by omega
  subst hkl;rw[List.drop_length];refine⟨c,xc,a,p,b,r,yJ ?_,hR⟩;unfold xY;simp
 | succ q ih=>
  intro k n W c xc a p b r L hk hn hR;have hlt:k < d.events.length:=by omega
  obtain⟨x,hx⟩:∃ x,d.events[k]?=some x:=⟨_,List.getElem?_eq_getElem hlt⟩
  have hdr:d.events.drop k=x::d.events.drop (k+1):=by
   rw[List.drop_eq_getElem_cons hlt]
   congr 1
   rw[List.getElem?_eq_getElem hlt] at hx;exact Option.some.inj hx
  obtain⟨cd,c1,xc1,a1,p1,b1,r1,e1,e2,R1,h0⟩:=hR.putS (by omega) (hd.evs x (List.mem_of_getElem? hx));have hdc:decide ((k:Int) < (d.events.length:Int))=true:=by simpa using hlt
  have s1:xY d ((k:Int),c,b,r,a,p)=pure (.next (((k+1:Nat):Int),c1,b1,r1,a1,p1)):=by
   unfold xY;simp only[hdc,cond_true,zK hx,zA,e1,zB,yL (show k < 9223372036854775807 by omega)]
  obtain⟨c',xc',a',p',b',r',f1,R2⟩:=ih (k+1) (n+600) _ c1 xc1 a1 p1 b1 r1 _ (by omega) (by omega) R1;rw[yI s1,hdr,List.foldl_cons];exact⟨c',xc',a',p',b',r',f1,R2.mono (by omega)⟩
def Qq(d:DL)(W:List PT):Bool:=decide (C.opC (fun x y=>x&&!y) d.from_ W=[])
def vw(s:List PT×List EV)(d:DL):List PT×List EV:=if ZB d=true/\Qq d s.1=true then ((d.events.foldl Vc s).1++d.to_,(d.events.foldl Vc s).2) else s
def XA(W:List PT)(d:DL):Int:=if ZB d=true then (if Qq d W=true then 0 else 12) else 1
section
variable{n:Nat}{W c xc:List PT}{nl1:Bool}{m1:List (DT×EV)}{nl2:Bool}{m2:List (DT×EV)}{L:List EV}
theorem Rep.ApplyP(hR:Rep n W c xc nl1 m1 nl2 m2 L){d:DL}(hd:OkD d){j:Nat}(hj:d.to_.length<=j/\C.uF d.to_<=j)(hn:n+600*d.events.length+j<=50000000) :
  ∃ c' xc' a p b q,zL d c nl1 m1 nl2 m2=pure (XA W d,c',a,p,b,q) /\
   Rep (n+600*d.events.length+j) (vw (W,L) d).1 c' xc' a p b q (vw (W,L) d).2:=by
 have hwl:=hR.wl;have hwt:=hR.wt;have hw1:=C.Qa d.from_ (C.zb W) hd.from_.sm (ZT (by omega) (by omega)).sm;rw[w2a d.from_ (fun k m=>C.zx W k m)] at hw1;unfold zL XA vw;rw[F.qf hd,zB,zA]
 cases g:ZB d with
 | false=>
  rw[if_neg (by simp),if_neg (by simp),Bool.not_false,cond_true];exact⟨c,xc,nl1,m1,nl2,m2,rfl,hR.mono (by omega)⟩
 | true=>
  rw[if_pos rfl,Bool.not_true,cond_false,hR.Ctx (by omega),zB,zA,hw1,zB,zA];have hwb:decide (C.opC (fun x y=>x&&!y) d.from_ W=[])=Qq d W:=rfl;rw[hwb]
  cases w:Qq d W with
  | false=>
   rw[if_neg (by simp),if_neg (by simp),Bool.not_false,cond_true];exact⟨c,xc,nl1,m1,nl2,m2,rfl,hR.mono (by omega)⟩
  | true=>
   obtain⟨c',xc',a',p',b',r',f1,R2⟩:=xEa d hd d.events.length 0 n W c xc nl1 m1 nl2 m2 L (by omega) (by omega) hR;obtain⟨c3,x3,e1,e2,R3⟩:=R2.see (by omega) hd.to_ hj.1 hj.2 (by omega);rw[List.drop_zero] at R3;rw[if_pos rfl,if_pos (by simp),Bool.not_true,cond_false,show(0:Int)=((0:Nat):Int) from rfl,f1,zA];refine⟨c3,x3,a',p',b',r',?_,R3⟩;show(M.bind _ _:M _)=_;rw[e1,zB,zA]
end
open E (OkE yE wj)
open F (vf zu yB wk ZB OkD)
section
variable{n:Nat}{W c xc:List PT}{nl1:Bool}{m1:List (DT×EV)}{nl2:Bool}{m2:List (DT×EV)}{L:List EV}
theorem Rep.okSince(hR:Rep n W c xc nl1 m1 nl2 m2 L)(hn:n<=1000000){y:List PT}(hy:y.length<=10000/\C.uF y<=10000):OkD (uL W L y) where
 from_:=C.ok_mono rfl ⟨by omega,by omega⟩ ⟨by have:=hR.wl;omega,by have:=hR.wt;omega⟩
 to_:=ZT (by have:=hR.wl;omega) (by have:=hR.wt;omega)
 evs e he:=(hR.good e (List.mem_filter.1 he).1).2
 len:=by
  have:=hR.ll;have h:=List.length_filter_le (fun x=>!zt y x) L;show(L.filter fun x=>!zt y x).length<=_;omega
 kills e he:=by have:=hR.kl e (List.mem_filter.1 he).1;omega
end
def dA : DL:=uL wA [exA] []
theorem w3a : Yh=pure true:=by
 obtain⟨c1,x1,a1,p1,b1,q1,hp1,_,R1⟩:=Rep.new.put (by omega) okA gA (by decide);rw[putA] at R1;have hs:=R1.Since (by omega) C.ok_nil;have od:=R1.okSince (by omega) (y:=[]) (by decide);have R1':Rep 600 wA c1 x1 a1 p1 b1 q1 [exA]:=R1.mono (by omega);obtain⟨c2,x2,a2,p2,b2,q2,e2,R2⟩:=Rep.new.ApplyP (d:=dA) od (j:=600) (by decide) (by decide);obtain⟨c3,x3,a3,p3,b3,q3,e3,R3⟩:=R2.ApplyP (d:=dA) od (j:=600) (by decide) (by decide);have k1:XA [] dA=0:=by decide
 have k2:XA (vw ([],[]) dA).1 dA=0:=by decide
 have hL:(vw ((vw ([],[]) dA).1,(vw ([],[]) dA).2) dA).2=[exA]:=by decide
 have hW:C.zb wA=C.zb (vw ((vw ([],[]) dA).1,(vw ([],[]) dA).2) dA).1:=by decide
 rw[k1] at e2;rw[k2] at e3;rw[hL] at R3;have hl:=R3.Live (by decide);have hsm:=R1'.Same (by omega) R3 (by decide);rw[decide_eq_true hW,decide_eq_true rfl] at hsm;unfold Yh wh;rw[show(⟨(⟨1,1⟩:DT),1,281474976710657,1,(⟨#[97]⟩:ByteArray),([]:List DT)⟩:EV)=exA from rfl];simp only[zB,zA,hp1];rw[hs,zB,zA];show(M.bind (M.det (zL dA [] true [] true [])) _:M Bool)=_;rw[e2,zB,zA];show(M.bind (M.det (zL dA c2 a2 p2 b2 q2)) _:M Bool)=_;rw[e3,zB,zA];simp only[decide_true,cond_true,hl,hsm,zB,zA,show(yx [exA]).length=1 by decide,show((1:Nat):Int)=1 from rfl,Bool.and_self]
 rfl
open E (OkE yE wj)
open F (vf zu yB wk ZB OkD)
section
variable{n:Nat}{W c xc:List PT}{nl1:Bool}{m1:List (DT×EV)}{nl2:Bool}{m2:List (DT×EV)}{L:List EV}
end
end Go.Ep.M.G
namespace Go.Ep.M.G
open Go
open E (OkE yE wj)
open F (vf zu yB)
def hD(e:EV)(k n:Int):Bool:=C.yf (C.yD (yB [e])) k n
theorem Vd{e:EV}{k n:Int}:hD e k n=true↔∃ d,(d=e.dot\/d∈e.kills)/\V.yC d=true/\d.dev=k/\d.n=n:=by
 unfold hD;rw[C.qM]
 constructor
 ·rintro⟨d,hd,h⟩;obtain⟨x,hx,h1⟩:=yV.1 (D.ZS.1 hd);rw[List.mem_singleton.1 hx] at h1;exact⟨d,h1,h⟩
 ·rintro⟨d,h1,h⟩;exact⟨d,D.ZS.2 (yV.2 ⟨e,List.mem_singleton.2 rfl,h1⟩),h⟩
structure Past(P:List EV)(W:List PT)(L:List EV):Prop where
 has:∀ k n,C.yf W k n=true↔∃ e∈P,yE e=true/\hD e k n=true
 mem:∀ x,x∈L↔x∈P/\yE x=true/\∀ f∈P,yE f=true->x.dot∉f.kills
 srt:wj L
open E (OkE yE wj)
open F (vf zu yB)
theorem loopE{ε σ ρ τ:Type}{body:σ->M (Step σ ρ)}(l:List ε)(mk:Nat->τ->σ)(I:Nat->τ->Prop)(Q:ρ->Prop)
  (h1:∀ (i:Nat) (x:ε) (t:τ),l[i]?=some x->i < l.length->I i t->∃ t',body (mk i t)=pure (.next (mk (i+1) t'))/\I (i+1) t')
  (h2:∀ t,I l.length t->∃ r,body (mk l.length t)=pure (.done r)/\Q r) (t0:τ) (h0:I 0 t0):∃ r,loop body (mk 0 t0)=pure r/\Q r:=by
 have key:∀ k i t,i+k=l.length->I i t->∃ r,loop body (mk i t)=pure r/\Q r:=by
  intro k
  induction k with
  | zero=>
   intro i t hi hI;have:i=l.length:=by omega
   subst this;obtain⟨r,h3,h4⟩:=h2 t hI;exact⟨r,yJ h3,h4⟩
  | succ k ih=>
   intro i t hi hI;have hlt:i < l.length:=by omega
   obtain⟨t',h3,h4⟩:=h1 i l[i] t (List.getElem?_eq_getElem hlt) hlt hI;rw[yI h3];exact ih (i+1) t' (by omega) h4
 exact key l.length 0 t0 (by omega) h0
end Go.Ep.M.G

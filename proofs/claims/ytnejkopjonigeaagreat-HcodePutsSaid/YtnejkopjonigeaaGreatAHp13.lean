/- Side texts. -/
import Derived.ProofKit
import Derived.Deep.Slices
import Derived.Test.YtnejkopjonigeaaGreatProg
import Derived.KernelRfl
import Derived.Test.YtnejkopjonigeaaGreatAHp2
import Derived.Test.YtnejkopjonigeaaGreatAHp4
import Derived.Test.YtnejkopjonigeaaGreatAHp10
import Derived.Test.YtnejkopjonigeaaGreatAHp11
import Derived.Test.YtnejkopjonigeaaGreatAHp12
set_option linter.unusedVariables false
set_option linter.unusedSimpArgs false
namespace Go.Ep.M.F
open Go
open E (OkE ye)
def Xb(l:List DT)(d:DT):Bool:=l.any fun x=>decide (x=d)
theorem y7a(l:List DT)(d:DT)(hl:l.length<=1000000000000):Ji l d=pure (Xb l d):=by
 unfold Ji yf xA;have:=loopF (body:=yG l d) l (fun i=>(i:Int)) (fun _ x=>decide (x=d)) (fun i _=>Ex.ret (i:Int)) (pure (Ex.brk ())) (fun i x hx hi=>by
  have hd:decide ((i:Int) < (l.length:Int))=true:=by simpa using hi
  unfold yG;simp only[hd,cond_true,zF hx,zA,D.x6a,zq (show i < 9223372036854775807 by omega),yu,eq_comm (a:=d) (b:=x),decide_eq_true_eq]) (by
  unfold yG;simp[zA])
 rw[show(0:Int)=((0:Nat):Int) from rfl,this];have hf:(l.zipIdx.find? fun y=>decide (y.1=d)).isSome=Xb l d:=by
  rw[List.isSome_find?];unfold Xb;rw[Bool.eq_iff_iff,List.any_eq_true,List.any_eq_true]
  constructor
  ·rintro⟨y,hy,h⟩;exact⟨y.1,List.fst_mem_of_mem_zipIdx hy,h⟩
  ·rintro⟨x,hx,h⟩;obtain⟨i,hi⟩:=List.getElem?_of_mem hx;exact⟨(x,i),by rw[List.mk_mem_zipIdx_iff_getElem?];exact hi,h⟩
 rw[<- hf]
 cases l.zipIdx.find? fun y=>decide (y.1=d) with
 | none=>simp only[zA,zB,Ze];rfl
 | some y=>simp only[zA,zB,Ja];simp
def vi(l:List EV)(d:DT):Bool:=l.any fun e=>Xb e.kills d
theorem Dead_eq(l:List EV)(d:DT)(hl:l.length<=1000000000000)(hk:∀ e∈l,e.kills.length<=1000000000000):vE l d=pure (vi l d):=by
 unfold vE;have:=wW (body:=vo l d) l (fun i=>(i:Int)) (fun _ x=>!Xb x.kills d) (Ex.brk ()) (Ex.ret true) (fun i x hx hi=>by
  have hd:decide ((i:Int) < (l.length:Int))=true:=by simpa using hi
  unfold vo Xr;simp only[hd,cond_true,zF hx,zA,y7a x.kills d (hk x (List.mem_of_getElem? hx)),zB,zq (show i < 9223372036854775807 by omega)]
  cases Xb x.kills d <;> rfl) (by
  unfold vo;simp)
 rw[show(0:Int)=((0:Nat):Int) from rfl,this,zA,E.Yt l fun x=>!Xb x.kills d];have e:vi l d=!(l.all fun x=>!Xb x.kills d):=by simp[vi,List.all_eq_not_any_not]
 rw[e]
 cases l.all fun x=>!Xb x.kills d <;> rfl
theorem rDead_eq(l:List EV)(d:DT)(hl:l.length<=1000000000000)(hk:∀ e∈l,e.kills.length<=1000000000000):Wa l d=pure (vi l d):=by
 unfold Wa;have:=wW (body:=Zl l d) l (fun i=>(i:Int)) (fun _ x=>!Xb x.kills d) (Ex.brk ()) (Ex.ret true) (fun i x hx hi=>by
  have hd:decide ((i:Int) < (l.length:Int))=true:=by simpa using hi
  unfold Zl;simp only[hd,cond_true,zF hx,zA,E.qf x.kills d (hk x (List.mem_of_getElem? hx)),zB,zq (show i < 9223372036854775807 by omega)];show cond (Xb x.kills d) _ _=_
  cases Xb x.kills d <;> rfl) (by
  unfold Zl;simp)
 rw[show(0:Int)=((0:Nat):Int) from rfl,this,zA,E.Yt l fun x=>!Xb x.kills d];have e:vi l d=!(l.all fun x=>!Xb x.kills d):=by simp[vi,List.all_eq_not_any_not]
 rw[e]
 cases l.all fun x=>!Xb x.kills d <;> rfl
def VY(l:List DT)(c:List PT):List DT:=D.xI (l.filter fun d=>!C.vn c d.dev d.n)
theorem Drop_eq(l : List DT)(c : List PT)(hl : l.length<=1000000000)(hc : C.Sm c) : XE l c=pure (VY l c) := by
  unfold XE VD;have := ZW (body := vp l c false) l (fun i t => ((i : Int), t)) (fun t d => if C.vn c d.dev d.n=true then t else t++[d]) (fun t => pure t) (fun i t => t.length<=i) (fun i x t hx hi hI => by
    have hd : decide ((i : Int) < (l.length : Int))=true := by simpa using hi
    refine ⟨?_, by split
                   · omega
                   · simp; omega⟩
    unfold vp;simp only[hd, cond_true, zF hx, zA, C.y7a c x hc, zB, zq (show i < 9223372036854775807 by omega)]
    by_cases c : C.vn c x.dev x.n=true
    · rw[c, show(true==false)=false from rfl, cond_false, zA, if_pos rfl]
    · simp only[Bool.not_eq_true] at c;rw[c, show(false==false)=true from rfl, cond_true, zD (by simp; omega), zA]; rfl) (fun t _ => by
    unfold vp;simp[zA]) [] (by simp)
  have key : ∀ (l t : List DT), l.foldl (fun t d => if C.vn c d.dev d.n=true then t else t++[d]) t=t++l.filter fun d => !C.vn c d.dev d.n := by
    intro l
    induction l with
    | nil => intro t; simp
    | cons x r ih =>
      intro t;rw[List.foldl_cons, ih]
      by_cases h : C.vn c x.dev x.n=true
      · rw[if_pos h, List.filter_cons, if_neg (by simp[h])]
      · rw[if_neg h, List.filter_cons, if_pos (by simp[h]), List.append_assoc]; rfl
  rw[show(0 : Int)=((0 : Nat) : Int) from rfl, this, zA, key, List.nil_append, D.yGa _ (by have := List.length_filter_le (fun d : DT => !C.vn c d.dev d.n) l; omega), zB, zA, zB, zA, VY]
theorem rDrop_eq(l : List DT)(c : List PT)(hl : l.length<=1000000000)(hc : C.Ok c) : UF l c=pure (VY l c) := by
  unfold UF;have := ZW (body := Zm l c) l (fun i t => (t, (i : Int))) (fun t d => if C.vn c d.dev d.n=true then t else D.jq t d) (fun t => pure t) (fun i t => t.length<=i) (fun i x t hx hi hI => by
    have hd : decide ((i : Int) < (l.length : Int))=true := by simpa using hi
    refine ⟨?_, by split
                   · omega
                   · have := D.jT t x; omega⟩
    unfold Zm;simp only[hd, cond_true, zF hx, zA, C.qf c x hc, zB, zq (show i < 9223372036854775807 by omega)]
    by_cases c : C.vn c x.dev x.n=true
    · rw[c, Bool.not_true, cond_false, zA, if_pos rfl]
    · simp only[Bool.not_eq_true] at c;rw[c, Bool.not_false, cond_true, D.Yq t x (by omega), zB, zA, zA]; rfl) (fun t _ => by
    unfold Zm;simp[zA]) [] (by simp)
  have key : ∀ (l t : List DT), l.foldl (fun t d => if C.vn c d.dev d.n=true then t else D.jq t d) t=(l.filter fun d => !C.vn c d.dev d.n).foldl D.jq t := by
    intro l
    induction l with
    | nil => intro t; rfl
    | cons x r ih =>
      intro t;rw[List.foldl_cons, ih]
      by_cases h : C.vn c x.dev x.n=true
      · rw[if_pos h, List.filter_cons, if_neg (by simp[h])]
      · rw[if_neg h, List.filter_cons, if_pos (by simp[h])]; rfl
  rw[show(0 : Int)=((0 : Nat) : Int) from rfl, this, zA, key]; rfl
def zm(l:List EV):List DT:=l.flatMap fun e=>e.dot::e.kills
def xm(l:List EV):List DT:=D.xI (zm l)
theorem XY(l:List EV)(k:Nat)(h:∀ e∈l,e.kills.length<=k):(zm l).length<=l.length*(k+1):=by
 induction l with
 | nil=>simp[zm]
 | cons e r ih=>
  have h1:=ih fun x hx=>h x (by simp[hx])
  have h2:=h e (by simp);have e1:(zm (e::r)).length=e.kills.length+1+(zm r).length:=by simp[zm];omega
  rw[e1,List.length_cons,Nat.add_mul];omega
theorem ja{l:List EV}{i:Nat}{x:EV}(h:l[i]?=some x):zm (l.take (i+1))=zm (l.take i)++x.dot::x.kills:=by
 rw[List.take_add_one,h];simp[zm]
theorem zGa(l:List EV)(i:Nat):(zm (l.take i)).length<=(zm l).length:=by
 have:zm l=zm (l.take i)++zm (l.drop i):=by unfold zm;rw[<- List.flatMap_append,List.take_append_drop]
 rw[this,List.length_append];omega
theorem vya(l:List EV)(hl:l.length<=1000000000)(hs:(zm l).length<=1000000000):XF l=pure (xm l):=by
 unfold XF;have key:∀ (k i:Nat),i+k=l.length->loop (vq l) ((i:Int),zm (l.take i))=pure (zm l):=by
  intro k
  induction k with
  | zero=>
   intro i hi;refine zQ ?_;unfold vq;have:decide ((i:Int) < (l.length:Int))=false:=by simp;omega
   simp only[this,cond_false];rw[List.take_of_length_le (by omega)]
  | succ k ih=>
   intro i hi;obtain⟨x,hx⟩:∃ x,l[i]?=some x:=⟨_,List.getElem?_eq_getElem (by omega)⟩
   have hd:decide ((i:Int) < (l.length:Int))=true:=by simp;omega
   have h1:=zGa l (i+1);rw[ja hx,List.length_append,List.length_cons] at h1;rw[zb (s':=(((i+1:Nat):Int),zm (l.take (i+1)))) ?_]
   ·exact ih (i+1) (by omega)
   ·unfold vq;simp only[hd,cond_true,zF hx,zA,zq (show i < 9223372036854775807 by omega)];rw[zD (by simp;omega),zD (by simp;omega),ja hx,List.append_assoc];rfl
 have:=key l.length 0 (by omega);rw[show zm (l.take 0)=[] from rfl] at this;rw[show(0:Int)=((0:Nat):Int) from rfl,this,zA,D.yGa _ (by omega),zB,zA,xm]
theorem rdots_in(l:List EV){i:Nat}{x:EV}(hx:l[i]?=some x)(hk:x.kills.length<=1000000000)(s:List DT)(hs:s.length<=1000000000):loop (uU l (i:Int)) (s,0)=pure (x.kills.foldl D.jq s):=by
 have:=ZW (body:=uU l (i:Int)) x.kills (fun k t=>(t,(k:Int))) D.jq (fun t=>pure t) (fun k t=>t.length<=1000000000+k) (fun k d t hd hi hI=>by
  have hc:decide ((k:Int) < (x.kills.length:Int))=true:=by simpa using hi
  refine⟨?_,by have:=D.jT t d;omega⟩;unfold uU;simp only[zF hx,zA,hc,cond_true,zF hd,D.Yq t d (by omega),zB,zq (show k < 9223372036854775807 by omega)]) (fun t _=>by
  unfold uU;simp[zF hx,zA]) s (by omega)
 exact this
theorem xPa(l:List EV)(hl:l.length<=1000000)(hk:∀ e∈l,e.kills.length<=300):UG l=pure (xm l):=by
 unfold UG;have key:∀ (k i:Nat),i+k=l.length->loop (Zn l) (D.xI (zm (l.take i)),(i:Int))=pure (xm l):=by
  intro k
  induction k with
  | zero=>
   intro i hi;refine zQ ?_;unfold Zn;have:decide ((i:Int) < (l.length:Int))=false:=by simp;omega
   simp only[this,cond_false];rw[List.take_of_length_le (by omega)];rfl
  | succ k ih=>
   intro i hi;obtain⟨x,hx⟩:∃ x,l[i]?=some x:=⟨_,List.getElem?_eq_getElem (by omega)⟩
   have hd:decide ((i:Int) < (l.length:Int))=true:=by simp;omega
   have h1:=zGa l i;have h2:=XY l 300 hk;have h3:=D.UV (zm (l.take i));have h4:=D.jT (D.xI (zm (l.take i))) x.dot;have h5:=hk x (List.mem_of_getElem? hx);rw[zb (s':=(D.xI (zm (l.take (i+1))),((i+1:Nat):Int))) ?_]
   ·exact ih (i+1) (by omega)
   ·unfold Zn;simp only[hd,cond_true,zF hx,zA,D.Yq _ x.dot (show(D.xI (zm (l.take i))).length<=1000000000000 by omega),zB,rdots_in l hx (show x.kills.length<=1000000000 by omega) _ (show(D.jq (D.xI (zm (l.take i))) x.dot).length<=1000000000 by omega),zq (show i < 9223372036854775807 by omega)];rw[ja hx];unfold D.xI;rw[List.foldl_append];rfl
 have:=key l.length 0 (by omega);rw[show D.xI (zm (l.take 0))=[] from rfl] at this;rw[show(0:Int)=((0:Nat):Int) from rfl,this,zA]
def YF(l:List EV)(i:Nat)(x:EV):Bool:=decide (0 < i)&&match l[i - 1]? with | some y=>decide (0<=V.z3a y.dot x.dot) | none=>false
theorem uAa{β:Type}{l:List EV}{i:Nat}{x:EV}(hi:i < l.length)(hl:l.length<=1000000000)(f:DT->DT->M Int)(hf:∀ a b,f a b=pure (V.z3a a b))(K:Bool->M β) :
  (cond (decide (0 < (i:Int))) ((idx l (IntKind.i64.wrap ((i:Int) - 1))).bind fun y=>(det (f y.dot x.dot)).bind fun v=>K (decide (0<=v))) (K false))=K (YF l i x):=by
 unfold YF
 by_cases h:0 < i
 ·obtain⟨y,hy⟩:∃ y,l[i - 1]?=some y:=⟨_,List.getElem?_eq_getElem (by omega)⟩
  have e:IntKind.i64.wrap ((i:Int) - 1)=((i - 1:Nat):Int):=by rw[ue (by omega) (by omega)];omega
  have hd:decide (0 < (i:Int))=true:=by simp;omega
  rw[hd,cond_true,e,zF hy,zA,hf,zB,zA,decide_eq_true h,Bool.true_and,hy]
 ·have hd:decide (0 < (i:Int))=false:=by simp;omega
  rw[hd,cond_false,decide_eq_false h,Bool.false_and]
theorem nil_dec{α:Type}[DecidableEq α](l:List α):decide ((l.length:Int)=0)=decide (l=[]):=by
 cases l with
 | nil=>rfl
 | cons x r=>simp;omega
theorem yQa(l:List EV):decide ((4096:Int) < (l.length:Int))=!decide (l.length<=4096):=by
 by_cases c:l.length<=4096
 ·rw[decide_eq_true c];simp;omega
 ·rw[decide_eq_false c];simp;omega
open E (OkE ye)
def bad2(l:List EV)(dev:Int)(c:List PT)(i:Nat)(e:EV):Bool:=!ye e||(!decide (e.dot.dev=dev)||(C.vn c e.dot.dev e.dot.n||YF l i e))
end Go.Ep.M.F
namespace Go.Ep.M.G
open Go
open E (OkE ye ZH)
open F (Xb zm xm)
theorem xTa : ∀ {l l':List EV},ZH l->ZH l'->(∀ d,d∈l↔d∈l')->l=l'
 | [],[],_,_,_=>rfl
 | [],y::r,_,_,h=>by have:=(h y).2 (by simp);simp at this
 | x::r,[],_,_,h=>by have:=(h x).1 (by simp);simp at this
 | x::r,y::t,h1,h2,h=>by
  have hx:=(h x).1 (by simp);have hy:=(h y).2 (by simp);have e:x=y:=by
   rcases List.mem_cons.1 hx with e | hx
   ·exact e
   ·rcases List.mem_cons.1 hy with e | hy
    ·exact e.symm
    ·have a1:=(List.pairwise_cons.1 h2).1 x hx;have a2:=(List.pairwise_cons.1 h1).1 y hy;rw[D.VV a1] at a2;cases a2
  subst e
  congr 1
  refine xTa (List.pairwise_cons.1 h1).2 (List.pairwise_cons.1 h2).2 fun d=>?_
  have h3:=h d;simp only[List.mem_cons] at h3
  constructor
  ·intro hd;rcases h3.1 (.inr hd) with e | h4
   ·have:=(List.pairwise_cons.1 h1).1 d hd;rw[e,D.Vk] at this;cases this
   ·exact h4
  ·intro hd;rcases h3.2 (.inr hd) with e | h4
   ·have:=(List.pairwise_cons.1 h2).1 d hd;rw[e,D.Vk] at this;cases this
   ·exact h4
theorem zHa{l:List EV}(h:ZH l):(l.map (·.dot)).Nodup:=by
 unfold List.Nodup;rw[List.pairwise_map];exact h.imp fun {a b} h e=>by rw[e,D.Vk] at h;cases h
theorem YB{l:List EV}(h:ZH l)(p:EV->Bool):ZH (l.filter p):=h.sublist List.filter_sublist
theorem srtE_of{s:List EV}(hn:(s.map (·.dot)).Nodup)(h:s.Pairwise fun x y=>Xq y x=false):ZH s:=by
 unfold List.Nodup at hn;rw[List.pairwise_map] at hn;refine(hn.and h).imp fun {a b} ⟨h1,h2⟩=>?_
 cases h3:zU a.dot b.dot with
 | true=>rfl
 | false=>exact absurd (D.Qt h3 h2) h1
theorem srt_wpE{l:List EV}{Q:List EV->Prop}(h:∀ s,s.Perm l->(s.Pairwise fun x y=>Xq y x=false)->Q s):(srt Xq l).wp Q:=by
 refine⟨⟨l.mergeSort (fun x y=>!zU y.dot x.dot),List.mergeSort_perm _ _,?_⟩,fun s ⟨h1,h2⟩=>h s h1 h2⟩;refine(List.pairwise_mergeSort (fun a b c h1 h2=>?_) (fun a b=>?_) l).imp fun {x y} h=>by show zU y.dot x.dot=false;simpa using h
 ·simp only[Bool.not_eq_true'] at h1 h2 ⊢
  cases h3:zU c.dot a.dot with
  | false=>rfl
  | true=>
   rw[D.Vj] at h3;have h4:¬ (zU b.dot a.dot=true):=by simp[h1]
   have h5:¬ (zU c.dot b.dot=true):=by simp[h2]
   rw[D.Vj] at h4 h5;omega
 ·cases h1:zU b.dot a.dot with
  | false=>rfl
  | true=>rw[D.VV h1];rfl
def ent(e:EV):DT×EV:=(e.dot,e)
theorem z2a{a b:EV}(h:ent a=ent b):a=b:=(Prod.mk.inj h).2
theorem jA{l:List EV}{k:DT×EV}:k∈l.map ent↔k.2∈l/\k.1=k.2.dot:=by
 rw[List.mem_map]
 constructor
 ·rintro⟨e,h,rfl⟩;exact⟨h,rfl⟩
 ·rintro⟨h1,h2⟩;exact⟨k.2,h1,by unfold ent;rw[<- h2]⟩
def Holds(m:List (DT×EV))(l:List EV):Prop:=m.Perm (l.map ent)
theorem Holds.keys{m:List (DT×EV)}{l:List EV}(h:Holds m l)(hs:ZH l):(m.map (·.1)).Nodup:=by
 have h1:=h.map (·.1);rw[List.map_map] at h1;exact h1.nodup_iff.2 (zHa hs)
theorem Holds.mem{m:List (DT×EV)}{l:List EV}(h:Holds m l){k:DT×EV}:k∈m↔k.2∈l/\k.1=k.2.dot:=by rw[h.mem_iff,jA]
theorem Holds.len{m:List (DT×EV)}{l:List EV}(h:Holds m l):m.length=l.length:=by rw[h.length_eq,List.length_map]
theorem jB{l:List EV}(h:ZH l):(l.map ent).Nodup:=by
 unfold List.Nodup;rw[List.pairwise_map];exact h.imp fun {a b} h e=>by rw[z2a e,D.Vk] at h;cases h
theorem qK{m:List (DT×EV)}{l:List EV}(hn:(m.map (·.1)).Nodup)(hs:ZH l)(h:∀ k,k∈m↔k.2∈l/\k.1=k.2.dot):Holds m l:=by
 have hm:m.Nodup:=by
  unfold List.Nodup at hn ⊢;rw[List.pairwise_map] at hn;exact hn.imp fun {a b} h e=>h (by rw[e])
 exact(List.perm_ext_iff_of_nodup hm (jB hs)).2 fun k=>by rw[h,jA]
theorem yPa(e:EV)(h:e.kills.length<=1000000000000):xJ e=pure e:=by
 unfold xJ;rw[D.Wk e.kills h,zB,zA]
theorem zIa{body:List Nat×List EV->M (Step (List Nat×List EV) (List EV))}(m:List (DT×EV))(hb:body=fun⟨seen,out⟩=>yM (∀ i∈seen,i < m.length)<|M.bind (nxt m.length seen) fun o=>match o with
  | none=>pure (.done out)
  | some j=>M.bind (idx m (Int.ofNat j)) fun kv=>M.bind (det (xJ kv.2)) fun v=>yM ((out.length+List.length [v])*80<=140737488355328)<|pure (.next (seen++[j],out++[v])))
  (hl:m.length<=500000000000) (hk:∀ k∈m,k.2.kills.length<=1000000000000) (t0:List EV) (h0:t0.length<=500000000000) {Q:List EV->Prop} (hQ:∀ l:List (DT×EV),l.Perm m->Q (t0++l.map (·.2))):(loop body ([],t0)).wp Q:=by
 refine M.loopM (body:=body) m (fun L (t:List EV)=>(L,t)) (fun t e=>(xJ e.2).det.bind fun v=>yM ((t.length+1)*80<=140737488355328) (pure (t++[v]))) (fun t=>pure t)
  (fun l t=>t=t0++l.map (·.2)) Q (fun L t hL=>?_) (fun l t y ht hlen hy=>?_) (fun l t hp ht=>?_) t0 (by simp)
 ·subst hb;show yM _ ((nxt _ _).bind _)=yM _ ((nxt _ _).bind _);refine congrArg (fun k=>yM _ ((nxt _ _).bind k)) (funext fun o=>?_)
  cases o with
  | none=>rfl
  | some i=>rfl
 ·rw[yPa y.2 (hk y hy),zB,zA];subst ht;exact⟨_,zD (by simp;omega) _,by simp⟩
 ·subst ht;exact hQ l hp
theorem list2_eq{nl1 nl2:Bool}{m1 m2:List (DT×EV)}{l l1 l2:List EV}(h1:Holds m1 l1)(h2:Holds m2 l2)(hp:(l1++l2).Perm l)(hs:ZH l)(hl:l.length<=200000000000)(hk:∀ e∈l,e.kills.length<=1000000000000):ux nl1 m1 nl2 m2=pure l:=by
 have hll:=hp.length_eq;rw[List.length_append] at hll;have hk1:∀ k∈m1,k.2.kills.length<=1000000000000:=fun k h=>hk _ (hp.mem_iff.1 (List.mem_append_left _ (h1.mem.1 h).1))
 have hk2:∀ k∈m2,k.2.kills.length<=1000000000000:=fun k h=>hk _ (hp.mem_iff.1 (List.mem_append_right _ (h2.mem.1 h).1))
 unfold ux;refine uN (zIa (body:=Ya m1) m1 rfl (by rw[h1.len];omega) hk1 [] (by simp) fun q hq=>?_);have hq1:(q.map (·.2)).Perm l1:=by
  have:=(hq.trans h1).map (·.2);rw[List.map_map] at this;simpa[Function.comp_def,ent] using this
 refine zIa (body:=Yb m2) m2 rfl (by rw[h2.len];omega) hk2 _ (by rw[List.nil_append,hq1.length_eq];omega) fun q2 hq2=>?_
 have hq3:(q2.map (·.2)).Perm l2:=by
  have:=(hq2.trans h2).map (·.2);rw[List.map_map] at this;simpa[Function.comp_def,ent] using this
 show(yM _ _).wp _;rw[List.nil_append];have hpp:(q.map (·.2)++q2.map (·.2)).Perm l:=(hq1.append hq3).trans hp;rw[zD (by rw[hpp.length_eq];omega)];refine srt_wpE fun s h3 h4=>?_
 show s=l;have h5:=h3.trans hpp;exact xTa (srtE_of ((h5.map (·.dot)).nodup_iff.2 (zHa hs)) h4) hs fun d=>h5.mem_iff
open E (OkE ye ZH)
open F (Xb zm xm vi)
section
variable{κ ν:Type}[DecidableEq κ]
theorem VO{m:List (κ×ν)}(hn:(m.map (·.1)).Nodup)(x:κ)(v:ν)(k:κ×ν):k∈AL.set m x v↔(k∈m/\k.1≠x)\/k=(x,v):=by
 induction m with
 | nil=>simp[AL.set]
 | cons y r ih=>
  obtain⟨q,u⟩:=y;rw[List.map_cons,List.nodup_cons] at hn;unfold AL.set
  split
  ·rename_i e
   subst e;rw[List.mem_cons,List.mem_cons]
   constructor
   ·rintro(h | h)
    ·exact .inr h
    ·exact .inl ⟨.inr h,fun e=>hn.1 (e▸List.mem_map.2 ⟨k,h,rfl⟩)⟩
   ·rintro(⟨h | h,h2⟩ | h)
    ·subst h;exact absurd rfl h2
    ·exact .inr h
    ·exact .inl h
  ·rename_i e
   rw[List.mem_cons,List.mem_cons,ih hn.2]
   constructor
   ·rintro(h | ⟨h,h2⟩ | h)
    ·subst h;exact .inl ⟨.inl rfl,e⟩
    ·exact .inl ⟨.inr h,h2⟩
    ·exact .inr h
   ·rintro(⟨h | h,h2⟩ | h)
    ·exact .inl h
    ·exact .inr (.inl ⟨h,h2⟩)
    ·exact .inr (.inr h)
end
def insE(l:List EV)(e:EV):List EV:=(l.filter fun x=>zU x.dot e.dot)++[e]++(l.filter fun x=>zU e.dot x.dot)
theorem insE_srt{l:List EV}(hs:ZH l)(e:EV):ZH (insE l e):=by
 unfold insE ZH;rw[List.pairwise_append,List.pairwise_append];refine⟨⟨YB hs _,by simp,fun a ha b hb=>?_⟩,YB hs _,fun a ha b hb=>?_⟩
 ·rw[List.mem_singleton.1 hb];exact(List.mem_filter.1 ha).2
 ·have h2:=(List.mem_filter.1 hb).2;rcases List.mem_append.1 ha with h | h
  ·exact D.Wu (List.mem_filter.1 h).2 h2
  ·rw[List.mem_singleton.1 h];exact h2
theorem insE_mem{l:List EV}{e:EV}(hn:∀ x∈l,x.dot≠e.dot){x:EV}:x∈insE l e↔x=e\/x∈l:=by
 unfold insE;rw[List.mem_append,List.mem_append,List.mem_filter,List.mem_filter,List.mem_singleton]
 constructor
 ·rintro((⟨h,_⟩ | h) | ⟨h,_⟩)
  ·exact .inr h
  ·exact .inl h
  ·exact .inr h
 ·rintro(h | h)
  ·exact .inl (.inr h)
  ·cases h1:zU x.dot e.dot with
   | true=>exact .inl (.inl ⟨h,rfl⟩)
   | false=>
    cases h2:zU e.dot x.dot with
    | true=>exact .inr ⟨h,rfl⟩
    | false=>exact absurd (D.Qt h1 h2) (hn x h)
theorem Holds.add{m:List (DT×EV)}{l:List EV}(h:Holds m l)(hs:ZH l){e:EV}(hn:∀ x∈l,x.dot≠e.dot):Holds (AL.set m e.dot e) (insE l e):=
 qK (AL.nodup_set (h.keys hs) _ _) (insE_srt hs e) fun k=>by
  rw[VO (h.keys hs),h.mem,insE_mem hn]
  constructor
  ·rintro(⟨⟨h1,h2⟩,h3⟩ | h1)
   ·exact⟨.inr h1,h2⟩
   ·rw[h1];exact⟨.inl rfl,rfl⟩
  ·rintro⟨h1 | h1,h2⟩
   ·refine .inr ?_;obtain⟨k1,k2⟩:=k;simp only at h1 h2;rw[h2,h1]
   ·exact .inl ⟨⟨h1,h2⟩,by rw[h2];exact hn _ h1⟩
theorem zJa{e:EV}(h:ye e=true):e.kind=1\/e.kind=2:=by
 simp only[ye,E.goodK,Bool.and_eq_true,Bool.or_eq_true,decide_eq_true_eq] at h;rcases h.2.1 with h | h
 ·exact .inl h.1
 ·exact .inr h.1
theorem wIa{e:EV}(h:ye e=true):e.kills.length<=256/\D.Srt e.kills/\∀ d∈e.kills,V.yJ d=true/\d≠e.dot:=by
 simp only[ye,E.wEa,Bool.and_eq_true,decide_eq_true_eq,List.all_eq_true,Bool.not_eq_true',decide_eq_false_iff_not] at h;exact⟨h.2.2.1,D.xQa.1 h.2.2.2.1,fun d hd=>h.2.2.2.2 d hd⟩
open E (OkE ye ZH)
open F (Xb zm xm vi)
def Xg(L:List EV):List EV:=L.filter fun e=>decide (e.kind=1)
def Xh(L:List EV):List EV:=L.filter fun e=>decide (e.kind=2)
theorem xUa{L:List EV}{x:EV}:x∈Xg L↔x∈L/\x.kind=1:=by simp[Xg]
theorem xVa{L:List EV}{x:EV}:x∈Xh L↔x∈L/\x.kind=2:=by simp[Xh]
structure Rep(n:Nat)(W c xc:List PT)(nl1:Bool)(m1:List (DT×EV))(nl2:Bool)(m2:List (DT×EV))(L:List EV):Prop where
 ctx:c=C.yT W
 xctx:∀ k n,C.vn xc k n=C.vn W k n
 xok:C.Ok xc
 live:Holds m1 (Xg L)
 tomb:Holds m2 (Xh L)
 n1:nl1=true->m1=[]
 n2:nl2=true->m2=[]
 srt:ZH L
 good:∀ e∈L,ye e=true/\OkE e
 dots:∀ d∈zm L,C.vn W d.dev d.n=true
 alive:∀ e∈L,e.kind=1->vi L e.dot=false
 wl:W.length<=n
 wt:C.xW W<=n
 ll:L.length<=n
theorem ok_normW{W:List PT}(h1:W.length<=400000000)(h2:C.xW W<=400000000):C.Ok (C.yT W):=
 ⟨fun p hp=>by have:=((C.uI W).nf p hp).1;omega,by have:=C.Yj W;omega,by have:=C.Yk W;omega⟩
section
variable{n:Nat}{W c xc:List PT}{nl1:Bool}{m1:List (DT×EV)}{nl2:Bool}{m2:List (DT×EV)}{L:List EV}
theorem Rep.mono(hR:Rep n W c xc nl1 m1 nl2 m2 L){k:Nat}(h:n<=k):Rep k W c xc nl1 m1 nl2 m2 L:=
 { hR with wl:=Nat.le_trans hR.wl h,wt:=Nat.le_trans hR.wt h,ll:=Nat.le_trans hR.ll h }
theorem Rep.okc(hR:Rep n W c xc nl1 m1 nl2 m2 L)(hn:n<=100000000):C.Ok c:=by
 rw[hR.ctx];exact ok_normW (by have:=hR.wl;omega) (by have:=hR.wt;omega)
theorem Rep.has(hR:Rep n W c xc nl1 m1 nl2 m2 L)(hn:n<=100000000)(d:DT):Ul c d=pure (C.vn W d.dev d.n):=by
 rw[C.y7a c d (hR.okc hn).sm,hR.ctx,C.Qk]
theorem Rep.new : Rep 0 [] [] [] true [] true [] [] where
 ctx:=rfl
 xctx _ _:=rfl
 xok:=C.ok_nil
 live:=List.Perm.refl _
 tomb:=List.Perm.refl _
 n1 _:=rfl
 n2 _:=rfl
 srt:=List.Pairwise.nil
 good _ h:=by cases h
 dots _ h:=by cases h
 alive _ h:=by cases h
 wl:=Nat.le_refl _
 wt:=Nat.le_refl _
 ll:=Nat.le_refl _
theorem add_eq{e:EV}(hk:e.kills.length<=1000000000000){nl:Bool}{m:List (DT×EV)}(h:nl=true->m=[]):ZM e nl m=pure (false,AL.set m e.dot e):=by
 unfold ZM;have h1:(cond nl (M.pure ([]:List (DT×EV))) (M.pure m))=M.pure m:=by
  cases nl with
  | true=>rw[h rfl];rfl
  | false=>rfl
 rw[h1,zA,yPa e hk,zB,zA]
end
open E (OkE ye ZH)
open F (Xb zm xm vi)
section
variable{n:Nat}{W c xc:List PT}{nl1:Bool}{m1:List (DT×EV)}{nl2:Bool}{m2:List (DT×EV)}{L:List EV}
theorem Rep.kl(hR:Rep n W c xc nl1 m1 nl2 m2 L):∀ e∈L,e.kills.length<=256:=fun e he=>(wIa (hR.good e he).1).1
theorem wJa(L:List EV)(h:∀ e∈L,e.kind=1\/e.kind=2):(Xg L++Xh L).Perm L:=by
 induction L with
 | nil=>exact List.Perm.refl _
 | cons x r ih=>
  have ih:=ih fun e he=>h e (by simp[he])
  rcases h x (by simp) with h1 | h1
  ·have e1:Xg (x::r)=x::Xg r:=by unfold Xg;rw[List.filter_cons,if_pos (by simp[h1])]
   have e2:Xh (x::r)=Xh r:=by unfold Xh;rw[List.filter_cons,if_neg (by simp[h1])]
   rw[e1,e2];exact ih.cons x
  ·have e1:Xg (x::r)=Xg r:=by unfold Xg;rw[List.filter_cons,if_neg (by simp[h1])]
   have e2:Xh (x::r)=x::Xh r:=by unfold Xh;rw[List.filter_cons,if_pos (by simp[h1])]
   rw[e1,e2];exact List.perm_middle.trans (ih.cons x)
theorem Rep.kinds(hR:Rep n W c xc nl1 m1 nl2 m2 L):∀ e∈L,e.kind=1\/e.kind=2:=fun e he=>zJa (hR.good e he).1
theorem Rep.All(hR:Rep n W c xc nl1 m1 nl2 m2 L)(hn:n<=100000000):wq c nl1 m1 nl2 m2=pure L:=by
 unfold wq;rw[list2_eq hR.live hR.tomb (wJa L hR.kinds) hR.srt (by have:=hR.ll;omega) (fun e he=>by have:=hR.kl e he;omega),zB,zA]
theorem Rep.Ctx(hR:Rep n W c xc nl1 m1 nl2 m2 L)(hn:n<=100000000):wn c nl1 m1 nl2 m2=pure (C.yT W):=by
 unfold wn;rw[C.VT c (hR.okc hn).sm,zB,zA,hR.ctx,C.JL (C.uI W)]
end
open E (OkE ye ZH)
open F (Xb zm xm vi)
section
variable{n:Nat}{W c xc:List PT}{nl1:Bool}{m1:List (DT×EV)}{nl2:Bool}{m2:List (DT×EV)}{L:List EV}
end
open E (OkE ye ZH)
open F (Xb zm xm vi)
section
variable{n:Nat}{W c xc:List PT}{nl1:Bool}{m1:List (DT×EV)}{nl2:Bool}{m2:List (DT×EV)}{L:List EV}
end
open E (OkE ye ZH)
open F (Xb zm xm vi)
def exB : EV:=⟨⟨1,2⟩,2,281474976710657,0,⟨#[]⟩,[]⟩
theorem okB : OkE exB:=⟨⟨by decide,by decide,by decide,by decide⟩,by decide,by decide,by decide,by decide,(fun d hd=>nomatch hd),by decide⟩
open E (OkE ye ZH)
open F (Xb zm xm vi YF VY)
def jo(l:List EV)(i:Nat)(e:EV):Bool:=!ye e||(YF l i e||(decide (e.kind=1)&&vi l e.dot))
def fromB(c:List PT)(l:List EV):Bool:=(l.zipIdx.all fun y=>!jo l y.2 y.1)&&(decide (c=C.yT c)&&decide (VY (xm l) c=[]))
theorem zKa{l:List EV}{e:EV}(h:∀ x∈l,zU x.dot e.dot=true):insE l e=l++[e]:=by
 unfold insE;rw[List.filter_eq_self.2 h,List.filter_eq_nil_iff.2 fun x hx=>by rw[D.VV (h x hx)];simp];simp
theorem prev_srt{l:List EV}{i:Nat}{x:EV}(hx:l[i]?=some x)(hs:ZH (l.take i))(hp:YF l i x=false):ZH (l.take (i+1))/\∀ z∈l.take i,zU z.dot x.dot=true:=by
 have htk:l.take (i+1)=l.take i++[x]:=by rw[List.take_add_one,hx];rfl
 have hlt:i < l.length:=(List.getElem?_eq_some_iff.1 hx).1;have hall:∀ z∈l.take i,zU z.dot x.dot=true:=by
  intro z hz;obtain⟨j,hj⟩:=List.getElem?_of_mem hz;have hji:j < (l.take i).length:=(List.getElem?_eq_some_iff.1 hj).1;rw[List.length_take] at hji;obtain⟨y,hy⟩:∃ y,l[i - 1]?=some y:=⟨_,List.getElem?_eq_getElem (by omega)⟩
  unfold YF at hp;rw[decide_eq_true (show 0 < i by omega),Bool.true_and,hy] at hp;have hyx:zU y.dot x.dot=true:=V.UN.1 (by simpa using hp)
  by_cases e:j=i - 1
  ·have:(l.take i)[j]?=l[j]?:=by rw[List.getElem?_take,if_pos (by omega)]
   rw[this,e,hy] at hj
   cases hj;exact hyx
  ·have h2:(l.take i)[i - 1]?=some y:=by rw[List.getElem?_take,if_pos (by omega)];exact hy
   have h3:=List.pairwise_iff_getElem.1 hs j (i - 1) (by rw[List.length_take];omega) (by rw[List.length_take];omega) (by omega);rw[(List.getElem?_eq_some_iff.1 hj).2,(List.getElem?_eq_some_iff.1 h2).2] at h3;exact D.Wu h3 hyx
 refine⟨?_,hall⟩;rw[htk];unfold ZH;rw[List.pairwise_append];exact⟨hs,by simp,fun a ha b hb=>by rw[List.mem_singleton.1 hb];exact hall a ha⟩
theorem zLa(l:List EV)(x:EV):Xg (l++[x])=Xg l++(if x.kind=1 then [x] else []):=by
 unfold Xg;rw[List.filter_append,List.filter_cons];by_cases h:x.kind=1 <;> simp[h]
theorem zMa(l:List EV)(x:EV):Xh (l++[x])=Xh l++(if x.kind=2 then [x] else []):=by
 unfold Xh;rw[List.filter_append,List.filter_cons];by_cases h:x.kind=2 <;> simp[h]
theorem from_bad{l:List EV}(hl:l.length<=1000000)(hk:∀ e∈l,OkE e/\e.kills.length<=300){i:Nat}{x:EV}(hx:l[i]?=some x) :
  (M.bind (M.det (ZL x)) fun v84=>cond (!v84) (M.pure true) (cond (decide (0 < (i:Int)))
   (M.bind (M.idx l (IntKind.i64.wrap ((i:Int) - 1))) fun x88=>M.bind (M.det (Zg x88.dot x.dot)) fun v90=>cond (decide (0<=v90)) (M.pure true) (cond (decide (x.kind=1)) (M.bind (M.det (vE l x.dot)) fun v94=>M.pure v94) (M.pure false)))
   (cond (decide (x.kind=1)) (M.bind (M.det (vE l x.dot)) fun v97=>M.pure v97) (M.pure false))):M Bool)=pure (jo l i x):=by
 have hm:=List.mem_of_getElem? hx;have hi:i < l.length:=(List.getElem?_eq_some_iff.1 hx).1;rw[E.qc (hk x hm).1,zB,zA,F.Dead_eq l x.dot (by omega) (fun e he=>by have:=(hk e he).2;omega),zB,zA];have hp:=F.uAa (x:=x) hi (by omega) Zg D.vna (fun b=>(cond b (M.pure true) (cond (decide (x.kind=1)) (M.pure (vi l x.dot)) (M.pure false)):M Bool));simp only[cond_false] at hp;rw[hp];unfold jo
 cases ye x <;> cases YF l i x <;> cases decide (x.kind=1) <;> rfl
theorem uBa{l:List EV}(hl:l.length<=1000000)(hk:∀ e∈l,OkE e/\e.kills.length<=300) :
  ∀ (k i:Nat) (nl2:Bool) (m2:List (DT×EV)) (nl1:Bool) (m1:List (DT×EV)),i+k=l.length->ZH (l.take i)->(∀ e∈l.take i,ye e=true)->Holds m1 (Xg (l.take i))->Holds m2 (Xh (l.take i))->(nl1=true->m1=[])->(nl2=true->m2=[]) ->
   if ((l.drop i).zipIdx i).all (fun y=>!jo l y.2 y.1)=true then ∃ b q a p,loop (zu l) ((i:Int),nl2,m2,nl1,m1)=pure (Ex.brk (b,q,a,p))/\ZH l/\(∀ e∈l,ye e=true)/\Holds p (Xg l)/\Holds q (Xh l)/\(a=true->p=[])/\(b=true->q=[])
   else loop (zu l) ((i:Int),nl2,m2,nl1,m1)=pure (Ex.ret (.inl ())):=by
 intro k
 induction k with
 | zero=>
  intro i nl2 m2 nl1 m1 hi hs hg h1 h2 h3 h4;have e:i=l.length:=by omega
  subst e;rw[List.drop_length,if_pos (by simp)];rw[List.take_length] at hs hg h1 h2;refine⟨nl2,m2,nl1,m1,?_,hs,hg,h1,h2,h3,h4⟩;refine zQ ?_;unfold zu;simp
 | succ k ih=>
  intro i nl2 m2 nl1 m1 hi hs hg h1 h2 h3 h4;obtain⟨x,hx⟩:∃ x,l[i]?=some x:=⟨_,List.getElem?_eq_getElem (by omega)⟩
  have hm:=List.mem_of_getElem? hx;have hdr:l.drop i=x::l.drop (i+1):=by
   rw[List.drop_eq_getElem_cons (by omega)]
   congr 1
   rw[List.getElem?_eq_getElem (by omega)] at hx;exact Option.some.inj hx
  have htk:l.take (i+1)=l.take i++[x]:=by rw[List.take_add_one,hx];rfl
  have hd:decide ((i:Int) < (l.length:Int))=true:=by simp;omega
  have hb:=from_bad hl hk hx;rw[hdr,List.zipIdx_cons,List.all_cons]
  cases hbad:jo l i x with
  | true=>
   simp only[Bool.not_true,Bool.false_and,Bool.false_eq_true,if_false];refine zQ ?_;unfold zu;simp only[hd,cond_true,zF hx,zA];rw[hb,zA,hbad]
   rfl
  | false=>
   simp only[Bool.not_false,Bool.true_and];have hgx:ye x=true:=by
    unfold jo at hbad;simp only[Bool.or_eq_false_iff,Bool.not_eq_false'] at hbad;exact hbad.1
   have hpx:YF l i x=false:=by
    unfold jo at hbad;simp only[Bool.or_eq_false_iff] at hbad;exact hbad.2.1
   obtain⟨hs',hall⟩:=prev_srt hx hs hpx;have hg':∀ e∈l.take (i+1),ye e=true:=fun e he=>by
    rw[htk] at he;rcases List.mem_append.1 he with h | h
    ·exact hg e h
    ·rw[List.mem_singleton.1 h];exact hgx
   have hxk:=(hk x hm).2;rcases zJa hgx with hkd | hkd
   ·have hb2:zu l ((i:Int),nl2,m2,nl1,m1)=pure (.next (((i+1:Nat):Int),nl2,m2,false,AL.set m1 x.dot x)):=by
     unfold zu;simp only[hd,cond_true,zF hx,zA];rw[hb,zA,hbad,decide_eq_true hkd];simp only[cond_false,cond_true,add_eq (show x.kills.length<=1000000000000 by omega) h3,zB,zA,Ze,zq (show i < 9223372036854775807 by omega)]
    rw[zb hb2];refine ih (i+1) nl2 m2 false _ (by omega) hs' hg' ?_ ?_ (fun h=>by cases h) h4
    ·rw[htk,zLa,if_pos hkd,<- zKa (fun z hz=>hall z (xUa.1 hz).1)];exact h1.add (YB hs _) fun z hz e=>by have:=hall z (xUa.1 hz).1;rw[e,D.Vk] at this;cases this
    ·rw[htk,zMa,if_neg (by omega),List.append_nil];exact h2
   ·have hb2:zu l ((i:Int),nl2,m2,nl1,m1)=pure (.next (((i+1:Nat):Int),false,AL.set m2 x.dot x,nl1,m1)):=by
     unfold zu;simp only[hd,cond_true,zF hx,zA];rw[hb,zA,hbad,decide_eq_false (show ¬ x.kind=1 by omega)];simp only[cond_false,add_eq (show x.kills.length<=1000000000000 by omega) h4,zB,zA,Ze,zq (show i < 9223372036854775807 by omega)]
    rw[zb hb2];refine ih (i+1) false _ nl1 m1 (by omega) hs' hg' ?_ ?_ h3 (fun h=>by cases h)
    ·rw[htk,zLa,if_neg (by omega),List.append_nil];exact h1
    ·rw[htk,zMa,if_pos hkd,<- zKa (fun z hz=>hall z (xVa.1 hz).1)];exact h2.add (YB hs _) fun z hz e=>by have:=hall z (xVa.1 hz).1;rw[e,D.Vk] at this;cases this
theorem drop_nil{l:List DT}{c:List PT}(h:VY l c=[]):∀ d∈l,C.vn c d.dev d.n=true:=fun d hd=>by
 cases hc:C.vn c d.dev d.n with
 | true=>rfl
 | false=>
  have:d∈VY l c:=D.Wv.2 (List.mem_filter.2 ⟨hd,by simp[hc]⟩);rw[h] at this;cases this
theorem From_eq{c:List PT}{l:List EV}(hc:C.Ok c){n:Nat}(h1:c.length<=n)(h2:C.xW c<=n)(hl:l.length<=n)(hn:n<=1000000)(hk:∀ e∈l,OkE e/\e.kills.length<=300) :
  if fromB c l=true then ∃ a p b q,uP c l=pure (.inr (C.yT c,a,p,b,q))/\Rep n c (C.yT c) c a p b q l else uP c l=pure (.inl ()):=by
 have hlen:=F.XY l 300 fun e he=>(hk e he).2
 have hdl:(xm l).length<=(zm l).length:=D.UV _;have key:=uBa (l:=l) (by omega) hk l.length 0 true [] true [] (by omega) (by simp[ZH]) (by simp) (by simp[Holds,Xg]) (by simp[Holds,Xh]) (fun _=>rfl) (fun _=>rfl);rw[List.drop_zero] at key;have h0:loop (zu l) (((0:Nat):Int),true,[],true,[])=loop (zu l) (0,true,[],true,[]):=rfl;rw[h0] at key;unfold fromB;unfold uP;rw[C.VT c hc.sm,zB,zA]
 cases ha:(l.zipIdx.all fun y=>!jo l y.2 y.1) with
 | false=>
  rw[ha,if_neg (by simp)] at key;rw[Bool.false_and,if_neg (by simp),key,zA,Ja]
 | true=>
  rw[ha,if_pos rfl] at key;obtain⟨b,q,a,p,e1,hs,hg,g1,g2,g3,g4⟩:=key;rw[e1,zA,Ze,Bool.true_and];simp only[];rw[C.qc c hc.sm,zB,zA,F.vya l (by omega) (by omega),zB,zA,F.Drop_eq (xm l) c (by omega) hc.sm,zB,zA];have hdec:decide (0 < ((VY (xm l) c).length:Int))=!decide (VY (xm l) c=[]):=by
   cases VY (xm l) c with
   | nil=>rfl
   | cons x r=>simp <;> omega
  rw[hdec]
  cases hcn:decide (c=C.yT c) with
  | false=>rw[Bool.false_and,if_neg (by simp)];rfl
  | true=>
   rw[Bool.true_and,Bool.not_true,cond_false,zA]
   cases hdn:decide (VY (xm l) c=[]) with
   | false=>rw[if_neg (by simp)];rfl
   | true=>
    rw[if_pos rfl];refine⟨a,p,b,q,rfl,⟨rfl,fun _ _=>rfl,hc,g1,g2,g3,g4,hs,fun e he=>⟨hg e he,(hk e he).1⟩,fun d hd=>drop_nil (of_decide_eq_true hdn) d (D.Wv.2 hd),fun e he h1=>?_,h1,h2,hl⟩⟩;rw[List.all_eq_true] at ha;obtain⟨i,hi⟩:=List.getElem?_of_mem he;have:=ha (e,i) (by rw[List.mem_zipIdx_iff_getElem?];exact hi);simp only[Bool.not_eq_true',jo,Bool.or_eq_false_iff,Bool.and_eq_false_iff] at this;rcases this.2.2 with h | h
    ·exact absurd h1 (of_decide_eq_false h)
    ·exact h
theorem rFrom_eq{c:List PT}{l:List EV}(hc:C.Ok c)(hl:l.length<=1000000)(hk:∀ e∈l,OkE e/\e.kills.length<=300):UH c l=pure (fromB c l):=by
 unfold UH fromB;have:=wW (body:=Zo l) l (fun i=>(i:Int)) (fun i x=>!jo l i x) (Ex.brk ()) (Ex.ret false) (fun i x hx hi=>by
  have hd:decide ((i:Int) < (l.length:Int))=true:=by simpa using hi
  have hm:=List.mem_of_getElem? hx;unfold Zo;simp only[hd,cond_true,zF hx,zA,E.UR (hk x hm).1,F.rDead_eq l x.dot (by omega) (fun e he=>by have:=(hk e he).2;omega),zB,zq (show i < 9223372036854775807 by omega)];have hp:=F.uAa (x:=x) hi (by omega) ZE V.ZX (fun b=>(cond b (M.pure true) (cond (decide (x.kind=1)) (M.pure (vi l x.dot)) (M.pure false)):M Bool));simp only[cond_false] at hp;rw[hp];unfold jo
  cases ye x <;> cases YF l i x <;> cases decide (x.kind=1) <;> cases vi l x.dot <;> rfl) (by
  unfold Zo;simp)
 rw[show(0:Int)=((0:Nat):Int) from rfl,this,zA];have hlen:=F.XY l 300 fun e he=>(hk e he).2
 have hdl:(xm l).length<=(zm l).length:=D.UV _
 cases (l.zipIdx.all fun y=>!jo l y.2 y.1) with
 | false=>rfl
 | true=>
  rw[if_pos rfl,Ze,Bool.true_and];rw[C.UR c hc,zB,zA,F.xPa l hl (fun e he=>(hk e he).2),zB,zA,F.rDrop_eq (xm l) c (by omega) hc,zB,zA];have hdec:=F.nil_dec (VY (xm l) c)
  cases decide (c=C.yT c) with
  | false=>rfl
  | true=>
   rw[cond_true,Bool.true_and];exact congrArg pure hdec
open E (OkE ye ZH)
open F (Xb zm xm vi YF VY)
section
variable{n:Nat}{W c xc:List PT}{nl1:Bool}{m1:List (DT×EV)}{nl2:Bool}{m2:List (DT×EV)}{L:List EV}
end
open E (OkE ye ZH)
open F (Xb zm xm vi)
section
variable{n:Nat}{W c xc:List PT}{nl1:Bool}{m1:List (DT×EV)}{nl2:Bool}{m2:List (DT×EV)}{L:List EV}
end
section
variable{n:Nat}{W c xc:List PT}{nl1:Bool}{m1:List (DT×EV)}{nl2:Bool}{m2:List (DT×EV)}{L:List EV}
theorem qv{l:List EV}{e:EV}(h:l.getLast?=some e)(hl:l.length<=1000000000):idx l (IntKind.i64.wrap ((l.length:Int) - 1))=pure e/\decide ((l.length:Int)=0)=false:=by
 rw[List.getLast?_eq_getElem?] at h;have hlt:=(List.getElem?_eq_some_iff.1 h).1;refine⟨?_,decide_eq_false (by omega)⟩;rw[show IntKind.i64.wrap ((l.length:Int) - 1)=((l.length - 1:Nat):Int) by rw[ue (by omega) (by omega)];omega];exact zF h
end
open E (OkE ye ZH)
open F (Xb zm xm vi)
section
variable{n:Nat}{W c xc:List PT}{nl1:Bool}{m1:List (DT×EV)}{nl2:Bool}{m2:List (DT×EV)}{L:List EV}
end
section
variable{n:Nat}{W c xc:List PT}{nl1:Bool}{m1:List (DT×EV)}{nl2:Bool}{m2:List (DT×EV)}{L:List EV}
end
open E (OkE ye ZH)
open F (Xb zm xm vi)
section
variable{n:Nat}{W c xc:List PT}{nl1:Bool}{m1:List (DT×EV)}{nl2:Bool}{m2:List (DT×EV)}{L:List EV}
end
open E (OkE ye ZH WA)
open D (qn)
open F (Xb zm xm vi)
section
variable{n:Nat}{W c xc:List PT}{nl1:Bool}{m1:List (DT×EV)}{nl2:Bool}{m2:List (DT×EV)}{L:List EV}
end
open E (OkE ye ZH WA allS)
open D (qn ctxS Vp fin)
open F (Xb zm xm vi)
open N (RS Sim OkB)
open E (OkE ye ZH WA allS)
open D (qn ctxS Vp fin)
open F (Xb zm xm vi YF)
open N (RS Sim OkB)
section
variable{n:Nat}{W c xc:List PT}{nl1:Bool}{m1:List (DT×EV)}{nl2:Bool}{m2:List (DT×EV)}{L:List EV}
end
open E (OkE ye ZH)
open F (Xb zm xm)
def hD(e:EV)(k n:Int):Bool:=C.vn (C.jN (xm [e])) k n
structure Past(P:List EV)(W:List PT)(L:List EV):Prop where
 has:∀ k n,C.vn W k n=true↔∃ e∈P,ye e=true/\hD e k n=true
 mem:∀ x,x∈L↔x∈P/\ye x=true/\∀ f∈P,ye f=true->x.dot∉f.kills
 srt:ZH L
open E (OkE ye ZH)
open F (Xb zm xm)
open E (OkE ye ZH)
open F (Xb zm xm)
structure InK(K:List DT)(n:Nat)(v:List EV):Prop where
 srt:ZH v
 len:v.length=n
 ok:∀ e∈v,OkE e
 kl:∀ e∈v,e.kills.length<=4000
 sub:∀ e∈v,∀ d∈e.kills,d∈K
open E (OkE ye ZH)
open F (Xb zm xm)
end Go.Ep.M.G
namespace Go.Ep.M.Y
open Go
open E (OkE WA)
open D (qn)
def OkC(c:List PT):Prop:=C.Ok c/\(∀ p∈c,p.dev<=65535)/\c.length<=2000/\C.xW c<=2000
structure OkS(s:THubState):Prop where
 epoch:0<=s.epoch/\s.epoch<=18446744073709551615
 last:0<=s.last/\s.last<=65535
 mem:∀ m∈s.members,(0<=m.dev/\m.dev<=65535)/\(0<=m.slot/\m.slot<=255)/\0<=m.try_/\m.try_<=18446744073709551615
 mlen:s.members.length<=400
 tries:∀ t∈s.tries,0<=t/\t<=18446744073709551615
 tlen:s.tries.length<=400
 rows:∀ r∈s.rows,OkC r.have_
 rlen:s.rows.length<=400
 ctx:OkC s.ctx
 all:∀ e∈s.all,OkE e/\e.kills.length<=300/\e.text.size<=200
 alen:s.all.length<=2000
def badR(s:THubState)(i:Nat)(x:TRow):Bool:=!decide (x.who=(s.members.getD i H.zM).dev)||!decide (x.have_=C.yT x.have_)
def rowsB(s:THubState):Bool:=decide (s.rows.length=s.members.length)&&!(s.rows.zipIdx.any fun y=>badR s y.2 y.1)
def Vq(s:THubState):Bool:=H.fromB s.epoch s.last s.members s.tries&&(G.fromB s.ctx s.all&&rowsB s)
theorem yQa(a b:Nat):(!decide ((a:Int)=(b:Int)))=!decide (a=b):=by
 by_cases h:a=b
 ·rw[decide_eq_true h,decide_eq_true (by omega)]
 ·rw[decide_eq_false h,decide_eq_false (by omega)]
theorem mem_at{s:THubState}(he:s.rows.length=s.members.length){i:Nat}(hi:i < s.rows.length):s.members[i]?=some (s.members.getD i H.zM):=by
 rw[List.getD_eq_getElem?_getD,List.getElem?_eq_getElem (by omega)];rfl
theorem cFrom_eq{s:THubState}(h:OkS s):(Vq s=true->∃ z,wj s=pure (.inr z))/\(Vq s=false->wj s=pure (.inl ())):=by
 have ml:=h.mlen;have rl:=h.rlen;unfold wj Vq;rcases H.From_eq h.epoch.1 h.last.1 h.last.2 (show s.members.length<=900 by omega) (tr:=s.tries) (fun x hx=>⟨(h.mem x hx).1.1,(h.mem x hx).2.1.1⟩) with⟨a1,a2⟩ | ⟨a1,a2,m,a3,a4⟩
 ·rw[a1,a2,zB,zA,Bool.false_and];exact⟨fun h=>(by cases h),fun _=>rfl⟩
 ·rw[a1,a3,zB,zA,Bool.true_and];have hb:=G.From_eq (c:=s.ctx) (l:=s.all) h.ctx.1 (n:=2000) h.ctx.2.2.1 h.ctx.2.2.2 h.alen (by omega) (fun e he=>⟨(h.all e he).1,(h.all e he).2.1⟩)
  cases hf:G.fromB s.ctx s.all with
  | false=>
   rw[hf,if_neg (by simp)] at hb;simp only[M.sum,hb,zB,zA,Bool.false_and];exact⟨fun h=>(by cases h),fun _=>trivial⟩
  | true=>
   rw[hf,if_pos rfl] at hb;obtain⟨a,p,b,q,hb,_⟩:=hb;simp only[M.sum,hb,zB,zA,Bool.true_and,yQa];unfold rowsB
   by_cases he:s.rows.length=s.members.length
   ·rw[decide_eq_true he,Bool.not_true,cond_false,Bool.true_and,show YU=pure (true,[]) from rfl,zB,zA];have key:=H.loopB (body:=ve s) s.rows (fun i (t:Bool×List ((Int×Int)×List RN))=>((i:Int),t.1,t.2)) (fun t=>t) (badR s) (.inl ())
     (fun i t=>∃ x,J.Rep (2000*i) i t.1 t.2 x) (fun i x t hx hi hI=>?_) (fun t _=>?_) (true,[]) ⟨[],J.rep_nil _ _⟩
    ·rcases key with⟨k1,k2⟩ | ⟨k1,t,k2,_⟩
     ·rw[k1];refine⟨fun h=>(by cases h),fun _=>?_⟩;show M.bind (loop _ (((0:Nat):Int),true,[])) _=_;rw[k2,zA];rfl
     ·rw[k1];refine⟨fun _=>?_,fun h=>(by cases h)⟩;show ∃ z,M.bind (loop _ (((0:Nat):Int),true,[])) _=_;rw[k2,zA];exact⟨_,rfl⟩
    ·obtain⟨x0,hI⟩:=hI;have hr:=h.rows x (List.mem_of_getElem? hx);have hbody:ve s ((i:Int),t.1,t.2)=cond (badR s i x) (pure (.done (.ret (.inl ())))) ((det (yx x.who t.1 t.2)).bind fun y59=>(det (yy x.who x.have_ y59.2.1 y59.2.2)).bind fun y61=>pure (.next (((i+1:Nat):Int),y61.2.1,y61.2.2))):=by
      show cond (decide ((i:Int) < (s.rows.length:Int))) _ _=_;rw[decide_eq_true (by omega),cond_true,zF hx,zA,zF (mem_at he hi),zA,zq (by omega)];unfold badR;rw[C.qc _ hr.1.sm,zB,zA]
      cases decide (x.who=(s.members.getD i H.zM).dev) <;> cases decide (x.have_=C.yT x.have_) <;> rfl
     rw[hbody]
     constructor
     ·intro hp;rw[hp];rfl
     ·intro hp;rw[hp,cond_false];obtain⟨nl1,m1,j1,R1⟩:=hI.join x.who;rw[j1,zB,zA];have hS:i+1<=1000/\2000*i<=1000000:=by omega
      obtain⟨nl2,m2,j2,R2⟩:=R1.hear hS x.who (c:=x.have_) ⟨by have:=hr.2.2.1;omega,by have:=hr.2.2.2;omega⟩;rw[j2,zB,zA];exact⟨(nl2,m2),rfl,_,R2.up (by have:=hr.2.2.2;omega) (Nat.le_refl _)⟩
    ·show cond (decide ((s.rows.length:Int) < (s.rows.length:Int))) _ _=_;rw[decide_eq_false (by omega)];rfl
   ·rw[decide_eq_false he,Bool.not_false,cond_true,Bool.false_and];exact⟨fun h=>(by cases h),fun _=>rfl⟩
theorem fits_eq{s:THubState}(h:OkS s):XG s=pure (Vq s):=by
 unfold XG;obtain⟨h1,h2⟩:=cFrom_eq h;have ha:decide ((s.all.length:Int)<=4096)=true:=decide_eq_true (by have:=h.alen;omega)
 cases hf:Vq s with
 | true=>
  obtain⟨z,hz⟩:=h1 hf;rw[hz,zB,zA,ha];rfl
 | false=>
  rw[h2 hf,zB,zA];rfl
theorem uCa{s:THubState}(h:OkS s):∃ c,UI s=pure (c,Vq s):=by
 have ml:=h.mlen;have rl:=h.rlen;unfold UI Vq;rw[H.rFrom_eq (by omega) (fun x hx=>(h.mem x hx).2.1.1),zB,zA]
 cases h1:H.fromB s.epoch s.last s.members s.tries with
 | false=>exact⟨_,rfl⟩
 | true=>
  have h16:s.tries.length=16:=by
   unfold H.fromB H.head0 at h1;rw[Bool.and_eq_true,Bool.not_eq_true',Bool.or_eq_false_iff,Bool.or_eq_false_iff,Bool.not_eq_false'] at h1;have:=of_decide_eq_true h1.1.2.2;omega
  rw[G.rFrom_eq h.ctx.1 (by have:=h.alen;omega) (fun e he=>⟨(h.all e he).1,(h.all e he).2.1⟩),zB,zA]
  cases h2:G.fromB s.ctx s.all with
  | false=>exact⟨_,rfl⟩
  | true=>
   rw[Bool.true_and,Bool.true_and,Bool.not_true,cond_false,cond_false,zA,yQa];unfold rowsB
   by_cases he:s.rows.length=s.members.length
   ·rw[decide_eq_true he,Bool.not_true,cond_false,Bool.true_and];have hc:=H.copy_loop (body:=Xt s) s.tries h16 (fun i A=>rfl);have key:=H.loopB (body:=Xu s) s.rows (fun i (t:List R25Row)=>((i:Int),t)) (fun t=>t) (badR s) ((⟨⟨0,0,[],H.z16⟩,[],⟨[],[]⟩⟩:R33Center),false)
     (fun i t=>t.length=i) (fun i x t hx hi hI=>?_) (fun t _=>?_) [] rfl
    ·show ∃ c,M.bind (loop (Xt s) (0,H.z16)) _=_;rw[hc,zA];rcases key with⟨k1,k2⟩ | ⟨k1,t,k2,_⟩
     ·rw[k1];refine⟨⟨⟨0,0,[],H.z16⟩,[],⟨[],[]⟩⟩,?_⟩;show M.bind (loop _ (((0:Nat):Int),[])) _=_;rw[k2,zA];rfl
     ·rw[k1];refine⟨⟨⟨s.epoch,s.last,s.members,AR.over H.z16 s.tries⟩,t,⟨s.ctx,s.all⟩⟩,?_⟩;show M.bind (loop _ (((0:Nat):Int),[])) _=_;rw[k2,zA];rfl
    ·have hr:=h.rows x (List.mem_of_getElem? hx);have hbody:Xu s ((i:Int),t)=cond (badR s i x) (pure (.done (.ret ((⟨⟨0,0,[],H.z16⟩,[],⟨[],[]⟩⟩:R33Center),false)))) (pure (.next (((i+1:Nat):Int),t++[⟨x.who,x.have_⟩]))):=by
      show cond (decide ((i:Int) < (s.rows.length:Int))) _ _=_;rw[decide_eq_true (by omega),cond_true,zF hx,zA,zF (mem_at he hi),zA,zq (by omega),zD (by rw[List.length_nil];omega)];unfold badR;simp only[zA];rw[C.UR _ hr.1,zB,zA,zD (by rw[List.length_append,List.length_nil,List.length_singleton];omega)]
      cases decide (x.who=(s.members.getD i H.zM).dev) <;> cases decide (x.have_=C.yT x.have_) <;> rfl
     rw[hbody]
     constructor
     ·intro hp;rw[hp];rfl
     ·intro hp;rw[hp,cond_false];exact⟨_,rfl,by rw[List.length_append,List.length_singleton,hI]⟩
    ·show cond (decide ((s.rows.length:Int) < (s.rows.length:Int))) _ _=_;rw[decide_eq_false (by omega)];rfl
   ·rw[decide_eq_false he,Bool.not_false,cond_true,Bool.false_and];exact⟨_,rfl⟩
def zN(m:TMember):List Int:=N.xC m.dev++([m.slot]++N.xC m.try_)
def zQa(r:TRow):List Int:=qn r.have_
def encH(s:THubState):List Int:=
 N.xC s.epoch++(N.xC s.last++(N.xC s.members.length++(s.members.flatMap zN++(s.tries.flatMap N.xC++(s.rows.flatMap zQa++(qn s.ctx++WA s.all))))))
theorem zNa{α:Type}(f:α->List Int):∀ (l:List α) (t:List Int),l.foldl (fun t x=>t++f x) t=t++l.flatMap f
 | [],t=>by simp
 | x::l,t=>by rw[List.foldl_cons,zNa f l,List.flatMap_cons,List.append_assoc]
theorem wKa{ε σ:Type}{body:σ->M (Step σ (List Int))}(l:List ε)(mk:Nat->List Int->σ)(f:ε->List Int)(B:Nat)
  (h1:∀ (i:Nat) (x:ε) (t:List Int),l[i]?=some x->i < l.length->t.length<=100000000000->body (mk i t)=pure (.next (mk (i+1) (t++f x)))/\(f x).length<=B)
  (h2:∀ t,body (mk l.length t)=pure (.done t)) (t0:List Int) (h0:t0.length+l.length*B<=100000000000):loop body (mk 0 t0)=pure (t0++l.flatMap f):=by
 rw[<- zNa];refine ZW l mk (fun t x=>t++f x) (fun t=>pure t) (fun i t=>t.length<=t0.length+i*B) (fun i x t hx hi hI=>?_) (fun t _=>?_) t0 (by simp)
 ·have hm:i*B<=l.length*B:=Nat.mul_le_mul_right _ (by omega);obtain⟨h3,h4⟩:=h1 i x t hx hi (by omega);exact⟨h3,by rw[List.length_append,Nat.succ_mul];omega⟩
 ·rw[h2 t,zA]
theorem ur{m:TMember}(h:(0<=m.dev/\m.dev<=65535)/\(0<=m.slot/\m.slot<=255)/\0<=m.try_/\m.try_<=18446744073709551615):(zN m).length<=19:=by
 have h1:=N.zO (v:=m.dev) (by omega);have h2:=N.zO (v:=m.try_) (by omega);unfold zN;simp only[List.length_append,List.length_singleton];omega
theorem Xc{c:List PT}(h:OkC c):(qn c).length<=200000:=by
 have hn:=C.Yj c;have ht:=C.Yk c;have h1:=h.2.2.1;have h2:=h.2.2.2;have hl:=D.qq (D.qr h.2.1) (by omega) (by omega);unfold qn;omega
theorem put_c{c:List PT}(h:OkC c)(row:List Int)(hr:row.length<=100000000000):xK c row=pure (row++qn c):=
 D.vqa h.1 h.2.1 (by have:=h.2.2.1;have:=h.2.2.2;omega) row hr
theorem rput_c{c:List PT}(h:OkC c)(row:List Int)(hr:row.length<=100000000000):uG row c=pure (row++qn c):=
 D.x9a h.1 h.2.1 (by have:=h.2.2.1;have:=h.2.2.2;omega) row hr
theorem yv{α:Type}(l:List α)(f:α->List Int)(B:Nat)(h:∀ x∈l,(f x).length<=B):(l.flatMap f).length<=B*l.length:=D.yv l f B h
theorem xSa{s:THubState}(h:OkS s):YY s=pure (if Vq s=true then (encH s,0) else ([],1)):=by
 have ml:=h.mlen;have tl:=h.tlen;have rl:=h.rlen;have al:=h.alen;have he:=h.epoch;have hla:=h.last;unfold YY;rw[fits_eq h,zB,zA]
 cases hf:Vq s with
 | false=>rfl
 | true=>
  have e1:=N.zO (v:=s.epoch) (by omega);have e2:=N.zO (v:=s.last) (by omega);have e3:=N.zO (v:=(s.members.length:Int)) (by omega);have e4:=yv s.members zN 19 fun m hm=>ur (h.mem m hm)
  have e5:=yv s.tries N.xC 9 fun t ht=>N.zO (by have:=h.tries t ht;omega)
  have e6:=yv s.rows zQa 200000 fun r hr=>Xc (h.rows r hr)
  have e7:=Xc h.ctx;have e8:=E.zFa (l:=s.all) (fun e he=>(h.all e he).1) (fun e he=>(h.all e he).2);rw[Bool.not_true,cond_false,if_pos rfl,N.xd [] he.1 he.2 (by simp),zB,zA,ZA (by omega) (by omega),N.xd _ hla.1 (by omega) (by simp only[List.length_append,List.length_nil];omega),zB,zA,
   ZA (by omega) (by omega),N.xd _ (by omega) (by omega) (by simp only[List.length_append,List.length_nil];omega),zB,zA,List.nil_append]
  have k0:=wKa (body:=YV s) s.members (fun i t=>((i:Int),t)) zN 19 (fun i x t hx hi ht=>?_) (fun t=>?_) ((N.xC s.epoch++N.xC s.last)++N.xC s.members.length) (by simp only[List.length_append];omega)
  ·have k1:=wKa (body:=YW s) s.tries (fun i t=>((i:Int),t)) N.xC 9 (fun i x t hx hi ht=>?_) (fun t=>?_) (((N.xC s.epoch++N.xC s.last)++N.xC s.members.length)++s.members.flatMap zN) (by simp only[List.length_append];omega)
   ·have k2:=wKa (body:=YX s) s.rows (fun i t=>((i:Int),t)) zQa 200000 (fun i x t hx hi ht=>?_) (fun t=>?_) ((((N.xC s.epoch++N.xC s.last)++N.xC s.members.length)++s.members.flatMap zN)++s.tries.flatMap N.xC) (by simp only[List.length_append];omega)
    ·show M.bind (loop (YV s) (((0:Nat):Int),_)) _=_;rw[k0,zA];show M.bind (loop (YW s) (((0:Nat):Int),_)) _=_;rw[k1,zA];show M.bind (loop (YX s) (((0:Nat):Int),_)) _=_;rw[k2,zA,put_c h.ctx _ (by simp only[List.length_append];omega),zB,zA,E.v7a (fun e he=>(h.all e he).1) (by omega) _ (by simp only[List.length_append];omega),zB,zA,
      N.Bytes_eq _ (by unfold WA;have:=N.zO (v:=(s.all.length:Int)) (by omega);simp only[List.length_append];omega),zB,zA]
     unfold encH;simp only[List.append_assoc]
    ·have hr:=h.rows x (List.mem_of_getElem? hx);refine⟨?_,Xc hr⟩;show cond (decide ((i:Int) < (s.rows.length:Int))) _ _=_;rw[decide_eq_true (by omega),cond_true,zF hx,zA,put_c hr _ ht,zB,zA,zq (by omega)]
     rfl
    ·show cond (decide ((s.rows.length:Int) < (s.rows.length:Int))) _ _=_;rw[decide_eq_false (by omega)];rfl
   ·have hr:=h.tries x (List.mem_of_getElem? hx);refine⟨?_,N.zO (by omega)⟩;show cond (decide ((i:Int) < (s.tries.length:Int))) _ _=_;rw[decide_eq_true (by omega),cond_true,zF hx,zA,N.xd _ hr.1 hr.2 (by omega),zB,zA,zq (by omega)]
   ·show cond (decide ((s.tries.length:Int) < (s.tries.length:Int))) _ _=_;rw[decide_eq_false (by omega)];rfl
  ·have hr:=h.mem x (List.mem_of_getElem? hx);have l1:=N.zO (v:=x.dev) (by omega);refine⟨?_,ur hr⟩;show cond (decide ((i:Int) < (s.members.length:Int))) _ _=_;rw[decide_eq_true (by omega),cond_true,zF hx,zA,ZA (by omega) (by omega),N.xd _ hr.1.1 (by omega) (by omega),zB,zA,N.ql _ _ (by rw[List.length_append];omega),zB,zA,
    N.xd _ hr.2.2.1 hr.2.2.2 (by simp only[List.length_append,List.length_singleton];omega),zB,zA,zq (by omega)]
   unfold zN;simp only[List.append_assoc]
  ·show cond (decide ((s.members.length:Int) < (s.members.length:Int))) _ _=_;rw[decide_eq_false (by omega)];rfl
theorem Yq{s:THubState}(h:OkS s):Jo s=pure (if Vq s=true then (encH s,0) else ([],1)):=by
 have ml:=h.mlen;have tl:=h.tlen;have rl:=h.rlen;have al:=h.alen;have he:=h.epoch;have hla:=h.last;unfold Jo;obtain⟨c,hc⟩:=uCa h;rw[hc,zB,zA]
 cases hf:Vq s with
 | false=>rfl
 | true=>
  have e1:=N.zO (v:=s.epoch) (by omega);have e2:=N.zO (v:=s.last) (by omega);have e3:=N.zO (v:=(s.members.length:Int)) (by omega);have e4:=yv s.members zN 19 fun m hm=>ur (h.mem m hm)
  have e5:=yv s.tries N.xC 9 fun t ht=>N.zO (by have:=h.tries t ht;omega)
  have e6:=yv s.rows zQa 200000 fun r hr=>Xc (h.rows r hr)
  have e7:=Xc h.ctx;have e8:=E.zFa (l:=s.all) (fun e he=>(h.all e he).1) (fun e he=>(h.all e he).2);rw[Bool.not_true,cond_false,zA,decide_eq_false (show ¬ ((4096:Int) < (s.all.length:Int)) by omega),cond_false,if_pos rfl,N.yB [] he.1 he.2 (by simp),zB,zA,ZA (by omega) (by omega),N.yB _ hla.1 (by omega) (by simp only[List.length_append,List.length_nil];omega),zB,zA,
   ZA (by omega) (by omega),N.yB _ (by omega) (by omega) (by simp only[List.length_append,List.length_nil];omega),zB,zA,List.nil_append]
  have k0:=wKa (body:=VH s) s.members (fun i t=>(t,(i:Int))) zN 19 (fun i x t hx hi ht=>?_) (fun t=>?_) ((N.xC s.epoch++N.xC s.last)++N.xC s.members.length) (by simp only[List.length_append];omega)
  ·have k1:=wKa (body:=VI s) s.tries (fun i t=>(t,(i:Int))) N.xC 9 (fun i x t hx hi ht=>?_) (fun t=>?_) (((N.xC s.epoch++N.xC s.last)++N.xC s.members.length)++s.members.flatMap zN) (by simp only[List.length_append];omega)
   ·have k2:=wKa (body:=VJ s) s.rows (fun i t=>(t,(i:Int))) zQa 200000 (fun i x t hx hi ht=>?_) (fun t=>?_) ((((N.xC s.epoch++N.xC s.last)++N.xC s.members.length)++s.members.flatMap zN)++s.tries.flatMap N.xC) (by simp only[List.length_append];omega)
    ·show M.bind (loop (VH s) (_,((0:Nat):Int))) _=_;rw[k0,zA];show M.bind (loop (VI s) (_,((0:Nat):Int))) _=_;rw[k1,zA];show M.bind (loop (VJ s) (_,((0:Nat):Int))) _=_;rw[k2,zA,rput_c h.ctx _ (by simp only[List.length_append];omega),zB,zA,E.wHa (fun e he=>(h.all e he).1) (by omega) _ (by simp only[List.length_append];omega),zB,zA];unfold encH;simp only[List.append_assoc]
    ·have hr:=h.rows x (List.mem_of_getElem? hx);refine⟨?_,Xc hr⟩;show cond (decide ((i:Int) < (s.rows.length:Int))) _ _=_;rw[decide_eq_true (by omega),cond_true,zF hx,zA,rput_c hr _ ht,zB,zA,zq (by omega)]
     rfl
    ·show cond (decide ((s.rows.length:Int) < (s.rows.length:Int))) _ _=_;rw[decide_eq_false (by omega)];rfl
   ·have hr:=h.tries x (List.mem_of_getElem? hx);refine⟨?_,N.zO (by omega)⟩;show cond (decide ((i:Int) < (s.tries.length:Int))) _ _=_;rw[decide_eq_true (by omega),cond_true,zF hx,zA,N.yB _ hr.1 hr.2 (by omega),zB,zA,zq (by omega)]
   ·show cond (decide ((s.tries.length:Int) < (s.tries.length:Int))) _ _=_;rw[decide_eq_false (by omega)];rfl
  ·have hr:=h.mem x (List.mem_of_getElem? hx);have l1:=N.zO (v:=x.dev) (by omega);refine⟨?_,ur hr⟩;show cond (decide ((i:Int) < (s.members.length:Int))) _ _=_;rw[decide_eq_true (by omega),cond_true,zF hx,zA,ZA (by omega) (by omega),N.yB _ hr.1.1 (by omega) (by omega),zB,zA,zA,zD (by rw[List.length_append,List.length_singleton];omega),zA,
    N.yB _ hr.2.2.1 hr.2.2.2 (by simp only[List.length_append,List.length_singleton];omega),zB,zA,zq (by omega)]
   unfold zN;simp only[List.append_assoc]
  ·show cond (decide ((s.members.length:Int) < (s.members.length:Int))) _ _=_;rw[decide_eq_false (by omega)];rfl
structure InS(s:THubState):Prop where
 epoch:0<=s.epoch/\s.epoch<=18446744073709551615
 last:0<=s.last/\s.last<=65535
 mem:∀ m∈s.members,(0<=m.dev/\m.dev<=65535)/\(0<=m.slot/\m.slot<=255)/\0<=m.try_/\m.try_<=18446744073709551615
 tries:∀ t∈s.tries,0<=t/\t<=18446744073709551615
 rows:∀ r∈s.rows,∀ p∈r.have_,0<=p.dev/\p.dev<=65535
 ctx:∀ p∈s.ctx,0<=p.dev/\p.dev<=65535
 all:∀ e∈s.all,e.kills.length<=300/\e.text.size<=200->OkE e
def fewC(c:List PT):Bool:=decide (c.length<=30)&&c.all fun p=>decide (p.runs.length<=30)
theorem uDa{c:List PT}(h:∀ p∈c,0<=p.dev/\p.dev<=65535)(hf:fewC c=true):OkC c:=by
 have t:=C.few_tot hf;exact⟨C.ok_few (fun p hp=>(h p hp).1) t,fun p hp=>(h p hp).2,by omega,by omega⟩
theorem Few_ok{s:THubState}(h:InS s):∃ b,Jh s=pure b/\(b=true->OkS s):=by
 unfold Jh
 by_cases h1:20 < s.members.length
 ·exact⟨false,by rw[decide_eq_true (show(20:Int) < (s.members.length:Int) by omega)];rfl,fun h=>by cases h⟩
 by_cases h2:40 < s.tries.length
 ·exact⟨false,by rw[decide_eq_false (show ¬ (20:Int) < (s.members.length:Int) by omega),decide_eq_true (show(40:Int) < (s.tries.length:Int) by omega)];rfl,fun h=>by cases h⟩
 by_cases h3:20 < s.rows.length
 ·exact⟨false,by rw[decide_eq_false (show ¬ (20:Int) < (s.members.length:Int) by omega),decide_eq_false (show ¬ (40:Int) < (s.tries.length:Int) by omega),decide_eq_true (show(20:Int) < (s.rows.length:Int) by omega)];rfl,fun h=>by cases h⟩
 rw[decide_eq_false (show ¬ (20:Int) < (s.members.length:Int) by omega),decide_eq_false (show ¬ (40:Int) < (s.tries.length:Int) by omega),decide_eq_false (show ¬ (20:Int) < (s.rows.length:Int) by omega),cond_false,cond_false,cond_false,
  C.qg,zB,zA,show(30:Int)=((30:Nat):Int) from rfl,E.qg s.all 30 (by omega)]
 show ∃ b,M.bind (cond (!fewC s.ctx) _ _) _=_/\_
 cases h4:fewC s.ctx with
 | false=>exact⟨false,rfl,fun h=>by cases h⟩
 | true=>
  rw[Bool.not_true,cond_false,zB,zA]
  cases h5:E.fewE s.all 30 with
  | false=>exact⟨false,rfl,fun h=>by cases h⟩
  | true=>
   rw[Bool.not_true,zA,cond_false];have key:=wW (body:=JB s) s.rows (fun i=>(i:Int)) (fun _ x=>fewC x.have_) (Ex.brk ()) (Ex.ret false) (fun i x hx hi=>by
    show cond (decide ((i:Int) < (s.rows.length:Int))) _ _=_;rw[decide_eq_true (by omega),cond_true,zF hx,zA,C.qg,zB,zA,zq (by omega)];show cond (!fewC x.have_) _ _=_
    cases fewC x.have_ <;> rfl) (by
    show cond (decide ((s.rows.length:Int) < (s.rows.length:Int))) _ _=_;rw[decide_eq_false (by omega)];rfl)
   rw[show(0:Int)=((0:Nat):Int) from rfl,key,zA];obtain⟨g1,g2⟩:=E.few_mem h5
   cases h6:s.rows.zipIdx.all (fun y=>fewC y.1.have_) with
   | false=>exact⟨false,by rw[if_neg (by simp)];rfl,fun h=>by cases h⟩
   | true=>
    refine⟨true,by rw[if_pos rfl];rfl,fun _=>⟨h.epoch,h.last,h.mem,by omega,h.tries,by omega,fun r hr=>uDa (h.rows r hr) ?_,by omega,uDa h.ctx h4,fun e he=>⟨h.all e he (g2 e he),g2 e he⟩,by omega⟩⟩;obtain⟨i,hi⟩:=List.getElem?_of_mem hr;exact List.all_eq_true.1 h6 (r,i) (by rw[List.mem_zipIdx_iff_getElem?];exact hi)
def s0 : THubState:=⟨1,0,[],AR.l H.z16,[],[],[]⟩
theorem ok_s0 : OkS s0:=
 ⟨by decide,by decide,fun m (h:m∈[])=>absurd h List.not_mem_nil,by decide,fun t ht=>by
  have:t∈List.replicate 16 (0:Int):=ht;rw[List.eq_of_mem_replicate this];decide,by decide,fun m (h:m∈[])=>absurd h List.not_mem_nil,by decide,
  ⟨C.ok_nil,fun m (h:m∈[])=>absurd h List.not_mem_nil,by decide,by decide⟩,fun m (h:m∈[])=>absurd h List.not_mem_nil,by decide⟩
theorem from_s0 : Vq s0=true:=by decide
theorem encI0 : N.xC 0=[0]:=by show(N.Ws 0:Int)::N.be 0 (N.Ws 0)=_;rw[N.Ym];rfl
theorem encI1 : N.xC 1=[1,1]:=by
 have l1:N.Ws 1=1:=E.len_of (k:=0) (by decide) (by decide);show(N.Ws 1:Int)::N.be 1 (N.Ws 1)=_;rw[l1];rfl
theorem enc_s0 : encH s0=1::1::List.replicate 20 0:=by
 have e1:qn []=[0]:=by show N.xC 0++[]=_;rw[encI0];rfl
 have e2:WA []=[0]:=by show N.xC 0++[]=_;rw[encI0];rfl
 show N.xC 1++(N.xC 0++(N.xC 0++([]++((List.replicate 16 (0:Int)).flatMap N.xC++([]++(qn []++WA []))))))=_;rw[e1,e2,encI1,encI0];have e3:(List.replicate 16 (0:Int)).flatMap N.xC=List.replicate 16 0:=by
  simp only[List.replicate,List.flatMap_cons,List.flatMap_nil,encI0];rfl
 rw[e3];rfl
theorem xWa(a:List Int):ZN a a=pure true:=by
 unfold ZN;rw[decide_eq_true rfl]
theorem works34 : Yc=pure true:=by
 unfold Yc YZ;rw[show vW=pure (1,0,H.z16,false,[]) from rfl,zB,zA,show YU=pure (true,[]) from rfl,zB,zA,show VE=pure ([],true,[],true,[]) from rfl,zB,zA,zB,zA];dsimp only;have hr:=H.rep_new (e:=1) (la:=0) (A:=H.z16) (by omega) (by omega) (by omega) (by omega);have q1:=H.Epoch_eq hr;have q2:=H.Last_eq hr;have q3:=H.Members_eq (e:=1) (la:=0) (A:=H.z16) (nl:=false) (m:=[]) (l:=[]) (by omega) (List.Perm.refl _) List.Pairwise.nil (by simp);have q4:=H.Tries_eq hr;have q5:=G.Rep.new.Ctx (by omega);have q6:=G.Rep.new.All (by omega);have hs:yo 1 0 H.z16 [] false [] true [] true [] true []=pure s0:=by
  unfold yo xu;unfold H.newR at q1 q2 q4;dsimp only at q1 q2 q4;rw[zB,zA,cond_false,q1,zB,zA,q2,zB,zA,q3,zB,zA,q4,zB,zA,q5,zB,zA,q6,zB,zA,zQ (r:=[]) (by rfl),zA]
  rfl
 rw[hs,zB,zA,xSa ok_s0,if_pos from_s0,enc_s0,zB,zA];have i0:idx (1::1::List.replicate 20 (0:Int)) 0=pure 1:=zF (i:=0) rfl;have i1:idx (1::1::List.replicate 20 (0:Int)) 1=pure 1:=zF (i:=1) rfl;have hl:decide (((1::1::List.replicate 20 (0:Int)).length:Int)=22)=true:=rfl;dsimp only;rw[hl,i0,zA,i1,zA,zD (by decide)];show M.bind (M.bind (det (ZN (List.replicate 20 0) (List.replicate 20 0))) _) _=_;rw[xWa,zB]
 rfl
theorem hcodePuts_eq(s:THubState)(h:InS s):vz s=pure true:=by
 unfold vz;obtain⟨b,hb,ho⟩:=Few_ok h;rw[hb,zB,zA,works34,zB,zA]
 cases b with
 | false=>rfl
 | true=>
  have ok:=ho rfl;rw[Bool.not_true,cond_false,xSa ok,zB,zA,Yq ok,zB,zA,xWa,zB,zA,cond_true,decide_eq_true rfl]
  rfl
open E (OkE WA allS)
open D (qn ctxS)
open N (RS zg yL uE Sim OkB)
def memV(s:RS):TMember:=⟨(yL 65535 s).1,(uE (yL 65535 s).2).1,(zg (uE (yL 65535 s).2).2).1⟩
def memT(s:RS):RS:=(zg (uE (yL 65535 s).2).2).2
def many{α:Type}(f:RS->α×RS):Nat->List α->RS->List α×RS
 | 0,out,s=>(out,s)
 | k+1,out,s=>many f k (out++[(f s).1]) (f s).2
def memS(s:RS):TMember×RS:=(memV s,memT s)
structure Rd{α:Type}(f:RS->α×RS)(en:α->List Int)(pr:α->Prop):Prop where
 ok:∀ {s},N.Ok s->N.Ok (f s).2/\pr (f s).1/\(f s).2.1.length<=s.1.length
 inv:∀ {s},N.Ok s->(f s).2.2=0->s.1=en (f s).1++(f s).2.1/\s.2=0
 enc:∀ {x},pr x->∀ r,f (en x++r,0)=(x,(r,0))
section
variable{α:Type}{f:RS->α×RS}{en:α->List Int}{ok:α->Prop}(hf:Rd f en ok)
include hf
end
def rowL : List TMember->List TRow->RS->List TRow×RS
 | [],out,s=>(out,s)
 | m::l,out,s=>rowL l (out++[⟨m.dev,(ctxS s).1⟩]) (ctxS s).2
def memsS(s:RS):List TMember×RS:=if 16 < (zg s).1 then ([],N.vK 3 (zg s).2) else many memS (zg s).1.toNat [] (zg s).2
def p1(b:List Int):RS:=(zg (b,0)).2
def p2(b:List Int):RS:=(yL 65535 (p1 b)).2
def p3(b:List Int):RS:=(memsS (p2 b)).2
def p4(b:List Int):RS:=(many zg 16 [] (p3 b)).2
def p5(b:List Int):RS:=(rowL (memsS (p2 b)).1 [] (p4 b)).2
def p6(b:List Int):RS:=(ctxS (p5 b)).2
def p7(b:List Int):RS:=(allS 4096 (p6 b)).2
structure Oks(b:List Int):Prop where
 o1:N.Ok (p1 b)
 o2:N.Ok (p2 b)
 o3:N.Ok (p3 b)
 o4:N.Ok (p4 b)
 o5:N.Ok (p5 b)
 o6:N.Ok (p6 b)
 o7:N.Ok (p7 b)
open E (OkE WA allS)
open D (qn ctxS)
open N (RS zg yL uE Sim OkB)
open E (OkE WA allS ye)
open D (qn ctxS)
open N (RS zg yL uE Sim OkB)
structure Fit(s:THubState):Prop where
 ok:OkS s
 m16:s.members.length<=16
 t16:s.tries.length=16
 who:s.members.map (·.dev)=s.rows.map (·.who)
 rows:∀ r∈s.rows,r.have_=C.yT r.have_
 ctx:s.ctx=C.yT s.ctx
 srt:E.ZH s.all
 good:∀ e∈s.all,ye e=true
end Go.Ep.M.Y
namespace Go.Ep
open Go.RowKit Go.ChangeShapes Go.WideShapes
abbrev All : Nat->Prop:=fun _=>True
mutual
def JO{H:Type}:DataW H->Nat
 | .lit (.string bytes)=>bytes.length+1
 | .lit _=>1
 | .nil=>1
 | .ptr d=>JO d+1
 | .slice elems spare=>vL elems+vL spare+1
 | .agg parts=>vL parts+1
 | .iface _ d=>JO d+1
 | .map entries=>jb entries+1
 | .held _=>1
def vL{H:Type}:List (DataW H)->Nat
 | []=>0
 | d::r=>JO d+vL r
def jb{H:Type}:List (Lit×DataW H)->Nat
 | []=>0
 | x::r=>uEa x+jb r
def uEa{H:Type}:Lit×DataW H->Nat
 | (.string bytes,d)=>bytes.length+JO d+1
 | (_,d)=>JO d+1
end
theorem xXa{H:Type}(d:DataW H):1<=JO d:=by
 cases d with
 | lit l=>cases l <;> simp[JO]
 | nil=>simp[JO]
 | ptr d=>simp[JO]
 | slice elems spare=>simp[JO]
 | agg parts=>simp[JO]
 | iface t d=>simp[JO]
 | map entries=>simp[JO]
 | held h=>simp[JO]
theorem yRa{H:Type}(l r:List (DataW H)):vL (l++r)=vL l+vL r:=by
 induction l with
 | nil=>simp[vL]
 | cons x l ih=>simp only[List.cons_append,vL,ih];omega
def szL{α:Type}(sz:α->Nat):List α->Nat
 | []=>0
 | a::r=>sz a+szL sz r
theorem szL_app{α:Type}(sz:α->Nat)(l r:List α):szL sz (l++r)=szL sz l+szL sz r:=by
 induction l with
 | nil=>simp[szL]
 | cons x l ih=>simp only[List.cons_append,szL,ih];omega
structure Opn(P:Program)(t:TypeId)(k:Nat){α:Type}(enc:α->List DV)(ok:α->Prop)(sz:α->Nat):Prop where
 cells:P.cellsOf t=k
 op:∀ {H:Type} {en:TypeId×Value->H} {w:World} {fuel:Nat} {cs:List Value} {x:DataW H×List MemPlace},DataW.trod en P w 0 (fun _=>true) true fuel t cs=some x ->
  ∃ a,ok a/\cs.length=k/\(enc a).length=k/\(∀ (j:Nat) (y:DV) (u:Value),(enc a)[j]?=some y->cs[j]?=some u->DRd w All y u)/\sz a<=JO x.1
section
variable{P:Program}{t:TypeId}
theorem Opn.map{k:Nat}{α β:Type}{enc:α->List DV}{enc':β->List DV}{ok:α->Prop}{ok':β->Prop}{sz:α->Nat}{sz':β->Nat}(h:Opn P t k enc ok sz)(f:α->β)(he:∀ a,ok a->enc' (f a)=enc a)(ho:∀ a,ok a->ok' (f a))(hz:∀ a,sz' (f a)<=sz a):Opn P t k enc' ok' sz':=
 ⟨h.cells,fun hx=>let ⟨a,h1,h2,h3,h4,h5⟩:=h.op hx;⟨f a,ho a h1,h2,by rw[he a h1];exact h3,by rw[he a h1];exact h4,Nat.le_trans (hz a) h5⟩⟩
theorem qy{w:World}{y:DV}{u:Value}(h:DRd w All y u):∀ (j:Nat) (y':DV) (u':Value),[y][j]?=some y'->[u][j]?=some u'->DRd w All y' u':=by
 intro j y' u' h1 h2
 cases j with
 | zero=>simp at h1 h2;subst h1;subst h2;exact h
 | succ j=>simp at h1
def okK(k:IntKind)(n:Int):Prop:=(Lit.int k n).wf=true
theorem Opn.int{k:IntKind}(hu:P.underlying t=some (.int k))(hc:P.cellsOf t=1):Opn P t 1 (eK k) (okK k) (fun _=>1):=by
 refine⟨hc,fun {H en w fuel cs x} h=>?_⟩
 cases fuel with
 | zero=>simp[DataW.trod] at h
 | succ fuel=>
  unfold DataW.trod at h;rw[hu] at h
  split at h <;> simp_all
  case h_2 n _=>
   obtain⟨⟨h1,h2⟩,_⟩:=h;subst h1;refine⟨n,h2,rfl,?_,xXa _⟩;intro j y u h1 h3;exact qy (.v _ rfl) j y u h1 h3
theorem wLa{n:Int}(h:okK .u64 n):0<=n/\n < 18446744073709551616:=by
 simp[okK,Lit.wf,IntKind.min,IntKind.max,IntKind.signed,IntKind.bits] at h;omega
theorem wMa{n:Int}(h:okK .u16 n):0<=n/\n < 65536:=by
 simp[okK,Lit.wf,IntKind.min,IntKind.max,IntKind.signed,IntKind.bits] at h;omega
theorem okU8{n:Int}(h:okK .u8 n):0<=n/\n < 256:=by
 simp[okK,Lit.wf,IntKind.min,IntKind.max,IntKind.signed,IntKind.bits] at h;omega
theorem Opn.str(hu:P.underlying t=some .string)(hc:P.cellsOf t=1):Opn P t 1 eS (fun s=>s.size<=9223372036854775807) (fun s=>s.size+1):=by
 refine⟨hc,fun {H en w fuel cs x} h=>?_⟩
 cases fuel with
 | zero=>simp[DataW.trod] at h
 | succ fuel=>
  unfold DataW.trod at h;rw[hu] at h
  split at h <;> simp_all
  case h_4=>
   rename_i s
   obtain⟨h1,h2⟩:=h;refine⟨s,by have:=h1;unfold maxLen at this;exact this,rfl,?_,?_⟩
   ·intro j y u h1 h2;exact qy (.v _ rfl) j y u h1 h2
   ·subst h2;have e:s.data.toList.length=s.size:=Array.length_toList;show s.size+1<=JO (DataW.lit (Lit.string s.data.toList));unfold JO;omega
theorem Opn.slice{e:TypeId}{k:Nat}{α:Type}{enc:α->List DV}{ok:α->Prop}{sz:α->Nat}(h:Opn P e k enc ok sz)(hu:P.underlying t=some (.slice e))(hc:P.cellsOf t=1)(hk:0 < k) :
  Opn P t 1 (eL enc) (fun l=>l.length<=9223372036854775807/\∀ a∈l,ok a) (fun l=>szL sz l+1):=by
 refine⟨hc,fun {H en w fuel cs x} hx=>?_⟩;rcases Deep.open_slice hu hx with⟨rfl,_⟩ | ⟨a,len,cap,m,n,D,Pl,rfl,_,hl,hm,hmm,hxD,hel⟩
 ·exact⟨[],⟨Nat.zero_le _,by simp⟩,rfl,rfl,qy (.nil none 0 (Nat.zero_le _) (fun _=>rfl)),xXa _⟩
 simp only[if_true] at hmm;subst hmm;rw[h.cells] at hel;have hcut:∀ n0,n0<=len->∃ l:List α,l.length=n0/\(∀ a∈l,ok a)/\szL sz l<=vL ((List.range n0).map D)/\∀ (i:Nat) (b:α),l[i]?=some b->(enc b).length=k/\∀ (j:Nat) (y:DV),(enc b)[j]?=some y->∃ u,w.cell? (a.add (i*k+j))=some u/\DRd w All y u:=by
  intro n0
  induction n0 with
  | zero=>intro _;exact⟨[],rfl,by simp,by simp[szL],by simp⟩
  | succ n0 ih=>
   intro hn;obtain⟨l,h1,h2,hz,h3⟩:=ih (by omega);obtain⟨cs',hc',ht'⟩:=hel n0 (by omega);obtain⟨b,hb1,hb2,hb3,hb4,hb5⟩:=h.op ht';obtain⟨_,_,hcell⟩:=World.cells?_some hc';refine⟨l++[b],by simp[h1],?_,by rw[szL_app,List.range_succ,List.map_append,yRa];simp only[szL,List.map_cons,List.map_nil,vL];simp only at hb5;omega,?_⟩
   ·intro a ha;rcases List.mem_append.1 ha with ha | ha
    ·exact h2 a ha
    ·simp at ha;subst ha;exact hb1
   ·intro i b' hi;rw[List.getElem?_append] at hi
    split at hi
    ·exact h3 i b' hi
    ·rename_i hge
     have hi0:i=n0:=by
      have:i - l.length < 1:=by simpa using (List.getElem?_eq_some_iff.1 hi).1
      omega
     subst hi0;simp[h1] at hi;subst hi;refine⟨hb3,fun j y hy=>?_⟩;have hj:j < k:=by rw[<- hb3];exact(List.getElem?_eq_some_iff.1 hy).1
     have hcj:=hcell j hj;rw[Deep.add_add] at hcj;have hu':cs'[j]?=some (cs'[j]'(by omega)):=List.getElem?_eq_getElem (by omega);exact⟨_,by rw[hcj,hu'],hb4 j y _ hy hu'⟩
 obtain⟨l,h1,h2,hz,h3⟩:=hcut len (Nat.le_refl _);refine⟨l,⟨by unfold maxLen at hm;omega,h2⟩,rfl,rfl,qy ?_,?_⟩
 rotate_left
 ·rw[hxD];simp only[JO];omega
 by_cases h0:len=0
 ·have:l=[]:=List.eq_nil_of_length_eq_zero (by omega);subst this;subst h0;exact .nil _ _ hm (fun e=>by cases e)
 ·-- the first cell tells that the address is a plain one
  have hl0:0 < l.length:=by omega
  obtain⟨hk0,hc0⟩:=h3 0 _ (List.getElem?_eq_getElem hl0);obtain⟨u0,hu0,_⟩:=hc0 0 _ (List.getElem?_eq_getElem (by omega:0 < (enc l[0]).length));have hspot:a.spot=none:=by simpa[Addr.add] using World.cell?_spot hu0
  obtain⟨b,off,spot⟩:=a;simp only at hspot;subst hspot;have hb:b < w.heap.size:=by
   rw[Addr.add_lit] at hu0;unfold World.cell? at hu0
   cases hh:w.heap[b]? with
   | none=>simp[hh] at hu0
   | some o=>exact(Array.getElem?_eq_some_iff.1 hh).1
  have hlen:(l.map enc).length=len:=by simp[h1]
  rw[<- hlen];refine .sl _ b off m k (fun i j=>(w.cell? ⟨b,off+(i*k+j),none⟩).getD undef) (by omega) hm trivial hb ?_ ?_ ?_
  ·intro i cs hi;rw[List.getElem?_map] at hi
   cases hx:l[i]? with
   | none=>simp[hx] at hi
   | some y=>simp[hx] at hi;subst hi;exact(h3 i y hx).1
  ·intro i j hi hj;have hil:i < l.length:=by simpa using hi
   obtain⟨e1,e2⟩:=h3 i _ (List.getElem?_eq_getElem hil);obtain⟨u,hu,_⟩:=e2 j _ (List.getElem?_eq_getElem (by omega:j < (enc l[i]).length));rw[Addr.add_lit] at hu;simp[hu]
  ·intro i cs j x hi hx;rw[List.getElem?_map] at hi
   cases hy:l[i]? with
   | none=>simp[hy] at hi
   | some y=>
    simp[hy] at hi;subst hi;obtain⟨u,hu,hd⟩:=(h3 i y hy).2 j x hx;rw[Addr.add_lit] at hu;simpa[hu] using hd
structure OpnF(P:Program)(fs:List Field)(off k:Nat){α:Type}(enc:α->List DV)(ok:α->Prop)(sz:α->Nat):Prop where
 op:∀ {H:Type} {en:TypeId×Value->H} {w:World} {n:Nat} {cs:List Value} {xs:List (DataW H×List MemPlace)},xs.length=fs.length ->
  (∀ (i:Nat) (f:Field),fs[i]?=some f->DataW.trod en P w 0 (fun _=>true) true n f.type ((cs.drop f.offset).take (P.cellsOf f.type))=xs[i]?) ->
  ∃ a,ok a/\(enc a).length=k/\(∀ (j:Nat) (y:DV) (u:Value),(enc a)[j]?=some y->cs[off+j]?=some u->DRd w All y u)/\sz a<=vL (xs.map (·.1))
theorem OpnF.nil(off:Nat):OpnF P [] off 0 (fun _:Unit=>[]) (fun _=>True) (fun _=>0):=⟨fun _ _=>⟨(),trivial,rfl,by simp,Nat.zero_le _⟩⟩
theorem OpnF.cons{f:Field}{fs:List Field}{off k1 k2:Nat}{α β:Type}{e1:α->List DV}{o1:α->Prop}{e2:β->List DV}{o2:β->Prop}{z1:α->Nat}{z2:β->Nat}(h1:Opn P f.type k1 e1 o1 z1)(ho:f.offset=off)(h2:OpnF P fs (off+k1) k2 e2 o2 z2) :
  OpnF P (f::fs) off (k1+k2) (fun p:α×β=>e1 p.1++e2 p.2) (fun p=>o1 p.1/\o2 p.2) (fun p=>z1 p.1+z2 p.2):=by
 refine⟨fun {H en w n cs xs} hlen hx=>?_⟩
 cases xs with
 | nil=>simp at hlen
 | cons x xs=>
  have hx0:=hx 0 f rfl;simp only[List.getElem?_cons_zero] at hx0;obtain⟨a,ha1,ha2,ha3,ha4,ha5⟩:=h1.op hx0;obtain⟨b,hb1,hb2,hb3,hb4⟩:=h2.op (xs:=xs) (by simpa using hlen) (fun i f' hf=>by have:=hx (i+1) f' (by simpa using hf);simpa using this);refine⟨(a,b),⟨ha1,hb1⟩,by simp[ha3,hb2],?_,by simp only[List.map_cons,vL];omega⟩;intro j y u hy hu;simp only[List.getElem?_append] at hy
  by_cases hj:j < k1
  ·rw[if_pos (by omega)] at hy;refine ha4 j y u hy ?_;rw[List.getElem?_take,h1.cells,if_pos hj,List.getElem?_drop,ho];exact hu
  ·rw[if_neg (by omega),ha3] at hy;refine hb3 (j - k1) y u hy ?_;rw[<- hu]
   congr 1
   omega
theorem Opn.struct{fs:List Field}{k:Nat}{α:Type}{enc:α->List DV}{ok:α->Prop}{sz:α->Nat}(hu:P.underlying t=some (.struct fs.toArray))(hc:P.cellsOf t=k)(h:OpnF P fs 0 k enc ok sz):Opn P t k enc ok (fun a=>sz a+1):=by
 refine⟨hc,fun {H en w fuel cs x} hx=>?_⟩;obtain⟨xs,n,_,hxe,hlen,hxl,hf⟩:=DataW.trod_struct hu hx;obtain⟨a,h1,h2,h3,h4⟩:=h.op (cs:=cs) (xs:=xs) (by simpa using hxl) (fun i f hi=>hf i f (by simpa using hi));exact⟨a,h1,by rw[hlen,hc],h2,fun j y u hy hu=>h3 j y u hy (by simpa using hu),by rw[hxe];simp only[JO];omega⟩
theorem Opn.argAgg{H:Type}{en:TypeId×Value->H}{w:World}{us:Array Value}{d:DataW H}{ps:List MemPlace}{k:Nat}{α:Type}{enc:α->List DV}{ok:α->Prop}{sz:α->Nat}(h:Opn P t k enc ok sz)
  (hx:DataW.Trod en P w 0 (fun _=>true) true t (.agg us) d ps):∃ a,ok a/\Rd w g0 All (.agg (List.map .d (enc a))) (.agg us)/\sz a<=JO d:=by
 obtain⟨fuel,hf⟩:=hx;obtain⟨a,ha,hl,hel,hr,hz⟩:=h.op hf;have hcs:(Value.agg us).cells.toList=us.toList:=rfl;rw[hcs] at hl hr;refine⟨a,ha,?_,hz⟩;have key:∀ (i:Nat) (y:DV) (u:Value),(enc a)[i]?=some y->us.toList[i]?=some u->DRd w All y u:=hr;have:=Rd.agg (w:=w) (g:=g0) (S:=All) ((enc a).map .d) us.toList (by simp[hel,hl]) (fun i p u hp hu=>by
  rw[List.getElem?_map] at hp
  cases hy:(enc a)[i]? with
  | none=>simp[hy] at hp
  | some y=>simp[hy] at hp;subst hp;exact .d (key i y u hy hu)) (fun u hu=>by
  obtain⟨i,hi,rfl⟩:=List.getElem_of_mem hu;have hi2:i < (enc a).length:=by omega
  exact(key i _ _ (List.getElem?_eq_getElem hi2) (List.getElem?_eq_getElem hi)).one)
 simpa using this
theorem Wy{H:Type}{en:TypeId×Value->H}(hl:laidOutB P=true){W W':World}(hb:Below W.heap.size W W'):∀ {ts:List TypeId} {vs:List Value} {ds:List (DataW H)} {ps:List MemPlace},
  (∀ t∈ts,P.readableRec t=true/\t < P.types.size)->DataW.TrodAll en P W 0 (fun _=>true) true ts vs ds ps->(∀ x∈ps,x.block < W.heap.size)->DataW.TrodAll en P W' 0 (fun b=>decide (b < W.heap.size)) true ts vs ds ps
 | [],[],[],ps,_,h,_=>h
 | t::ts,v::vs,d::ds,ps,hr,h,hlt=>by
  obtain⟨p,q,h1,h2,rfl⟩:=h;have hrt:=hr t (by simp);exact⟨p,q,Below.trod hl hrt.1 hrt.2 h1 hb (fun x hx=>hlt x (List.mem_append.2 (.inl hx))),Wy hl hb (fun t ht=>hr t (by simp[ht])) h2 (fun x hx=>hlt x (List.mem_append.2 (.inr hx))),rfl⟩
 | [],[],_::_,_,_,h,_=>h.elim
 | [],_::_,_,_,_,h,_=>h.elim
 | _::_,[],_,_,_,h,_=>h.elim
 | _::_,_::_,[],_,_,h,_=>h.elim
theorem jc{H:Type}{en:TypeId×Value->H}{w:World}{base:Nat}{sp:Nat->Bool}{hd:Bool}:∀ {ts:List TypeId} {vs:List Value} {ds:List (DataW H)} {ps:List MemPlace},DataW.TrodAll en P w base sp hd ts vs ds ps->ds.length=ts.length
 | [],[],[],_,_=>rfl
 | _::_,_::_,_::_,_,h=>by
  obtain⟨_,_,_,h2,_⟩:=h;simp[jc h2]
 | [],[],_::_,_,h=>h.elim
 | [],_::_,_,_,h=>h.elim
 | _::_,[],_,_,h=>h.elim
 | _::_,_::_,[],_,h=>h.elim
theorem uFa{H:Type}{en:TypeId×Value->H}{fn:Func}{s:ChangeSpec}{tb:TypeId}{W W':World}{args:Array Value}{ds gs:List (DataW H)}{before:List MemPlace}(hl:laidOutB P=true)
  (hW:DataW.Whole en P fn.params.toList s.vars false W args.toList ds gs before) (hv:s.vars=[]) (hs:∀ ds:List (DataW H),ds.length=fn.params.size->(s.fn H ds).results=[.lit (.bool true)]/\(s.fn H ds).args=ds/\(s.fn H ds).vars=[])
  (hres:fn.resultTypes=#[tb]) (htb:P.underlying tb=some .bool) (hr:∀ t∈fn.params.toList,P.readableRec t=true/\t < P.types.size) (hb:Below W.heap.size W W') :
  s.post en P fn false true false false W args (.bool true) W':=by
 have hW':=hW;obtain⟨p,q,hA,hV,hpq,hfz,hnd⟩:=hW;rw[hv] at hV;obtain⟨rfl,rfl⟩:=trodVars_none hV;simp only[List.append_nil] at hpq;subst hpq;have hlt:∀ x∈before,x.block < W.heap.size:=fun x hx=>by simpa using hW'.lt x hx
 have hlen:ds.length=fn.params.size:=by simpa using jc hA
 obtain⟨e1,e2,e3⟩:=hs (ds++[]) (by simpa using hlen);refine⟨ds,[],before,[],before,[],hW',?_,?_,?_,hb.frame _,fun h=>by cases h⟩
 ·rw[e1,hres];exact trodAll_mk1 (shut_bool htb true)
 ·rw[e2,List.append_nil];exact Wy hl hb hr hA hlt
 ·rw[e3,hv];rfl
end
end Go.Ep
namespace Go.Ep
set_option linter.unusedVariables false
def TMember.ok(x:TMember):Prop:=okK .u16 x.dev/\okK .u8 x.slot/\okK .u64 x.try_
def TMember.sz(x:TMember):Nat:=(1+(1+(1+0)))+1
def RN.ok(x:RN):Prop:=okK .u64 x.lo/\okK .u64 x.hi
def RN.sz(x:RN):Nat:=(1+(1+0))+1
def PT.ok(x:PT):Prop:=okK .u16 x.dev/\(x.runs.length<=9223372036854775807/\∀ a∈x.runs,RN.ok a)
def PT.sz(x:PT):Nat:=(1+((szL RN.sz x.runs+1)+0))+1
def TRow.ok(x:TRow):Prop:=okK .u16 x.who/\(x.have_.length<=9223372036854775807/\∀ a∈x.have_,PT.ok a)
def TRow.sz(x:TRow):Nat:=(1+((szL PT.sz x.have_+1)+0))+1
def DT.ok(x:DT):Prop:=okK .u16 x.dev/\okK .u64 x.n
def DT.sz(x:DT):Nat:=(1+(1+0))+1
def EV.ok(x:EV):Prop:=DT.ok x.dot/\okK .u8 x.kind/\okK .u64 x.cid/\okK .u8 x.field/\ByteArray.size x.text<=9223372036854775807/\(x.kills.length<=9223372036854775807/\∀ a∈x.kills,DT.ok a)
def EV.sz(x:EV):Nat:=(DT.sz x.dot+(1+(1+(1+((ByteArray.size x.text+1)+((szL DT.sz x.kills+1)+0))))))+1
def THubState.ok(x:THubState):Prop:=okK .u64 x.epoch/\okK .u16 x.last/\(x.members.length<=9223372036854775807/\∀ a∈x.members,TMember.ok a)/\(x.tries.length<=9223372036854775807/\∀ a∈x.tries,okK .u64 a)/\(x.rows.length<=9223372036854775807/\∀ a∈x.rows,TRow.ok a)/\(x.ctx.length<=9223372036854775807/\∀ a∈x.ctx,PT.ok a)/\(x.all.length<=9223372036854775807/\∀ a∈x.all,EV.ok a)
def THubState.sz(x:THubState):Nat:=(1+(1+((szL TMember.sz x.members+1)+((szL (fun _=>1) x.tries+1)+((szL TRow.sz x.rows+1)+((szL PT.sz x.ctx+1)+((szL EV.sz x.all+1)+0)))))))+1
end Go.Ep
namespace Go.Proofs
open Go.Ep
set_option maxRecDepth 100000
theorem opnTMember : Opn Tryz.prog 59 3 TMember.e TMember.ok TMember.sz:=(Opn.struct Tryz.underlying59 (by kernel_rfl) (OpnF.cons (Opn.int Tryz.underlying23 (by kernel_rfl)) rfl (OpnF.cons (Opn.int Tryz.underlying5 (by kernel_rfl)) rfl (OpnF.cons (Opn.int Tryz.underlying22 (by kernel_rfl)) rfl (OpnF.nil _))))).map (fun p=>⟨p.1,p.2.1,p.2.2.1⟩) (fun _ _=>rfl) (fun p h=>⟨h.1,h.2.1,h.2.2.1⟩) (fun _=>Nat.le_refl _)
theorem opnTRun : Opn Tryz.prog 124 2 RN.e RN.ok RN.sz:=(Opn.struct Tryz.underlying124 (by kernel_rfl) (OpnF.cons (Opn.int Tryz.underlying22 (by kernel_rfl)) rfl (OpnF.cons (Opn.int Tryz.underlying22 (by kernel_rfl)) rfl (OpnF.nil _)))).map (fun p=>⟨p.1,p.2.1⟩) (fun _ _=>rfl) (fun p h=>⟨h.1,h.2.1⟩) (fun _=>Nat.le_refl _)
theorem opnTPart : Opn Tryz.prog 99 2 PT.e PT.ok PT.sz:=(Opn.struct Tryz.underlying99 (by kernel_rfl) (OpnF.cons (Opn.int Tryz.underlying23 (by kernel_rfl)) rfl (OpnF.cons (opnTRun.slice Tryz.underlying97 (by kernel_rfl) (by decide)) rfl (OpnF.nil _)))).map (fun p=>⟨p.1,p.2.1⟩) (fun _ _=>rfl) (fun p h=>⟨h.1,h.2.1⟩) (fun _=>Nat.le_refl _)
theorem opnTRow : Opn Tryz.prog 51 2 TRow.e TRow.ok TRow.sz:=(Opn.struct Tryz.underlying51 (by kernel_rfl) (OpnF.cons (Opn.int Tryz.underlying23 (by kernel_rfl)) rfl (OpnF.cons (opnTPart.slice Tryz.underlying28 (by kernel_rfl) (by decide)) rfl (OpnF.nil _)))).map (fun p=>⟨p.1,p.2.1⟩) (fun _ _=>rfl) (fun p h=>⟨h.1,h.2.1⟩) (fun _=>Nat.le_refl _)
theorem opnTDot : Opn Tryz.prog 101 2 DT.e DT.ok DT.sz:=(Opn.struct Tryz.underlying101 (by kernel_rfl) (OpnF.cons (Opn.int Tryz.underlying23 (by kernel_rfl)) rfl (OpnF.cons (Opn.int Tryz.underlying22 (by kernel_rfl)) rfl (OpnF.nil _)))).map (fun p=>⟨p.1,p.2.1⟩) (fun _ _=>rfl) (fun p h=>⟨h.1,h.2.1⟩) (fun _=>Nat.le_refl _)
theorem opnTEvent : Opn Tryz.prog 104 7 EV.e EV.ok EV.sz:=(Opn.struct Tryz.underlying104 (by kernel_rfl) (OpnF.cons opnTDot rfl (OpnF.cons (Opn.int Tryz.underlying5 (by kernel_rfl)) rfl (OpnF.cons (Opn.int Tryz.underlying22 (by kernel_rfl)) rfl (OpnF.cons (Opn.int Tryz.underlying5 (by kernel_rfl)) rfl (OpnF.cons (Opn.str Tryz.underlying9 (by kernel_rfl)) rfl (OpnF.cons (opnTDot.slice Tryz.underlying102 (by kernel_rfl) (by decide)) rfl (OpnF.nil _)))))))).map (fun p=>⟨p.1,p.2.1,p.2.2.1,p.2.2.2.1,p.2.2.2.2.1,p.2.2.2.2.2.1⟩) (fun _ _=>rfl) (fun p h=>⟨h.1,h.2.1,h.2.2.1,h.2.2.2.1,h.2.2.2.2.1,h.2.2.2.2.2.1⟩) (fun _=>Nat.le_refl _)
theorem zOa : Opn Tryz.prog 31 7 THubState.e THubState.ok THubState.sz:=(Opn.struct Tryz.underlying31 (by kernel_rfl) (OpnF.cons (Opn.int Tryz.underlying22 (by kernel_rfl)) rfl (OpnF.cons (Opn.int Tryz.underlying23 (by kernel_rfl)) rfl (OpnF.cons (opnTMember.slice Tryz.underlying24 (by kernel_rfl) (by decide)) rfl (OpnF.cons ((Opn.int Tryz.underlying22 (by kernel_rfl)).slice Tryz.underlying25 (by kernel_rfl) (by decide)) rfl (OpnF.cons (opnTRow.slice Tryz.underlying26 (by kernel_rfl) (by decide)) rfl (OpnF.cons (opnTPart.slice Tryz.underlying28 (by kernel_rfl) (by decide)) rfl (OpnF.cons (opnTEvent.slice Tryz.underlying29 (by kernel_rfl) (by decide)) rfl (OpnF.nil _))))))))).map (fun p=>⟨p.1,p.2.1,p.2.2.1,p.2.2.2.1,p.2.2.2.2.1,p.2.2.2.2.2.1,p.2.2.2.2.2.2.1⟩) (fun _ _=>rfl) (fun p h=>⟨h.1,h.2.1,h.2.2.1,h.2.2.2.1,h.2.2.2.2.1,h.2.2.2.2.2.1,h.2.2.2.2.2.2.1⟩) (fun _=>Nat.le_refl _)
end Go.Proofs

/- Side texts. -/
import Derived.ProofKit
import Derived.Deep.Slices
import Derived.Test.YtnejkopjonigeaaGreatProg
import Derived.KernelRfl
import Derived.Test.YtnejkopjonigeaaGreatAHg2
import Derived.Test.YtnejkopjonigeaaGreatAHg4
import Derived.Test.YtnejkopjonigeaaGreatAHg11
import Derived.Test.YtnejkopjonigeaaGreatAHg12
import Derived.Test.YtnejkopjonigeaaGreatAHg13
set_option linter.unusedVariables false
set_option linter.unusedSimpArgs false
namespace Go.Ep.M.F
open Go
open E (OkE yy)
def Vk(l:List DT)(d:DT):Bool:=l.any fun x=>decide (x=d)
theorem uTa(l:List DT)(d:DT)(hl:l.length<=1000000000000):yCa l d=pure (Vk l d):=by
 unfold yCa xg wv;have:=loopF (body:=yx l d) l (fun i=>(i:Int)) (fun _ x=>decide (x=d)) (fun i _=>Ex.ret (i:Int)) (pure (Ex.brk ())) (fun i x hx hi=>by
  have hd:decide ((i:Int) < (l.length:Int))=true:=by simpa using hi
  unfold yx;simp only[hd,cond_true,zR hx,zA,D.vWa,yM (show i < 9223372036854775807 by omega),wx,eq_comm (a:=d) (b:=x),decide_eq_true_eq]) (by
  unfold yx;simp[zA])
 rw[show(0:Int)=((0:Nat):Int) from rfl,this];have hf:(l.zipIdx.find? fun y=>decide (y.1=d)).isSome=Vk l d:=by
  rw[List.isSome_find?];unfold Vk;rw[Bool.eq_iff_iff,List.any_eq_true,List.any_eq_true]
  constructor
  ·rintro⟨y,hy,h⟩;exact⟨y.1,List.fst_mem_of_mem_zipIdx hy,h⟩
  ·rintro⟨x,hx,h⟩;obtain⟨i,hi⟩:=List.getElem?_of_mem hx;exact⟨(x,i),by rw[List.mk_mem_zipIdx_iff_getElem?];exact hi,h⟩
 rw[<- hf]
 cases l.zipIdx.find? fun y=>decide (y.1=d) with
 | none=>simp only[zA,zB,ZH];rfl
 | some y=>simp only[zA,zB,qh];simp
def ZR(l:List EV)(d:DT):Bool:=l.any fun e=>Vk e.kills d
theorem Dead_eq(l:List EV)(d:DT)(hl:l.length<=1000000000000)(hk:∀ e∈l,e.kills.length<=1000000000000):ua l d=pure (ZR l d):=by
 unfold ua;have:=vq (body:=ZY l d) l (fun i=>(i:Int)) (fun _ x=>!Vk x.kills d) (Ex.brk ()) (Ex.ret true) (fun i x hx hi=>by
  have hd:decide ((i:Int) < (l.length:Int))=true:=by simpa using hi
  unfold ZY UJ;simp only[hd,cond_true,zR hx,zA,uTa x.kills d (hk x (List.mem_of_getElem? hx)),zB,yM (show i < 9223372036854775807 by omega)]
  cases Vk x.kills d <;> rfl) (by
  unfold ZY;simp)
 rw[show(0:Int)=((0:Nat):Int) from rfl,this,zA,E.UU l fun x=>!Vk x.kills d];have e:ZR l d=!(l.all fun x=>!Vk x.kills d):=by simp[ZR,List.all_eq_not_any_not]
 rw[e]
 cases l.all fun x=>!Vk x.kills d <;> rfl
theorem rDead_eq(l:List EV)(d:DT)(hl:l.length<=1000000000000)(hk:∀ e∈l,e.kills.length<=1000000000000):Uw l d=pure (ZR l d):=by
 unfold Uw;have:=vq (body:=Xi l d) l (fun i=>(i:Int)) (fun _ x=>!Vk x.kills d) (Ex.brk ()) (Ex.ret true) (fun i x hx hi=>by
  have hd:decide ((i:Int) < (l.length:Int))=true:=by simpa using hi
  unfold Xi;simp only[hd,cond_true,zR hx,zA,E.yra x.kills d (hk x (List.mem_of_getElem? hx)),zB,yM (show i < 9223372036854775807 by omega)];show cond (Vk x.kills d) _ _=_
  cases Vk x.kills d <;> rfl) (by
  unfold Xi;simp)
 rw[show(0:Int)=((0:Nat):Int) from rfl,this,zA,E.UU l fun x=>!Vk x.kills d];have e:ZR l d=!(l.all fun x=>!Vk x.kills d):=by simp[ZR,List.all_eq_not_any_not]
 rw[e]
 cases l.all fun x=>!Vk x.kills d <;> rfl
def JG(l:List DT)(c:List PT):List DT:=D.vE (l.filter fun d=>!C.ZW c d.dev d.n)
theorem Drop_eq(l : List DT)(c : List PT)(hl : l.length<=1000000000)(hc : C.Sm c) : VE l c=pure (JG l c) := by
  unfold VE jd;have := XP (body := ZZ l c false) l (fun i t => ((i : Int), t)) (fun t d => if C.ZW c d.dev d.n=true then t else t++[d]) (fun t => pure t) (fun i t => t.length<=i) (fun i x t hx hi hI => by
    have hd : decide ((i : Int) < (l.length : Int))=true := by simpa using hi
    refine ⟨?_, by split
                   · omega
                   · simp; omega⟩
    unfold ZZ;simp only[hd, cond_true, zR hx, zA, C.uTa c x hc, zB, yM (show i < 9223372036854775807 by omega)]
    by_cases c : C.ZW c x.dev x.n=true
    · rw[c, show(true==false)=false from rfl, cond_false, zA, if_pos rfl]
    · simp only[Bool.not_eq_true] at c;rw[c, show(false==false)=true from rfl, cond_true, zJ (by simp; omega), zA]; rfl) (fun t _ => by
    unfold ZZ;simp[zA]) [] (by simp)
  have key : ∀ (l t : List DT), l.foldl (fun t d => if C.ZW c d.dev d.n=true then t else t++[d]) t=t++l.filter fun d => !C.ZW c d.dev d.n := by
    intro l
    induction l with
    | nil => intro t; simp
    | cons x r ih =>
      intro t;rw[List.foldl_cons, ih]
      by_cases h : C.ZW c x.dev x.n=true
      · rw[if_pos h, List.filter_cons, if_neg (by simp[h])]
      · rw[if_neg h, List.filter_cons, if_pos (by simp[h]), List.append_assoc]; rfl
  rw[show(0 : Int)=((0 : Nat) : Int) from rfl, this, zA, key, List.nil_append, D.vXa _ (by have := List.length_filter_le (fun d : DT => !C.ZW c d.dev d.n) l; omega), zB, zA, zB, zA, JG]
theorem rDrop_eq(l : List DT)(c : List PT)(hl : l.length<=1000000000)(hc : C.Ok c) : Ju l c=pure (JG l c) := by
  unfold Ju;have := XP (body := Xj l c) l (fun i t => (t, (i : Int))) (fun t d => if C.ZW c d.dev d.n=true then t else D.zRa t d) (fun t => pure t) (fun i t => t.length<=i) (fun i x t hx hi hI => by
    have hd : decide ((i : Int) < (l.length : Int))=true := by simpa using hi
    refine ⟨?_, by split
                   · omega
                   · have := D.Qm t x; omega⟩
    unfold Xj;simp only[hd, cond_true, zR hx, zA, C.yra c x hc, zB, yM (show i < 9223372036854775807 by omega)]
    by_cases c : C.ZW c x.dev x.n=true
    · rw[c, Bool.not_true, cond_false, zA, if_pos rfl]
    · simp only[Bool.not_eq_true] at c;rw[c, Bool.not_false, cond_true, D.UT t x (by omega), zB, zA, zA]; rfl) (fun t _ => by
    unfold Xj;simp[zA]) [] (by simp)
  have key : ∀ (l t : List DT), l.foldl (fun t d => if C.ZW c d.dev d.n=true then t else D.zRa t d) t=(l.filter fun d => !C.ZW c d.dev d.n).foldl D.zRa t := by
    intro l
    induction l with
    | nil => intro t; rfl
    | cons x r ih =>
      intro t;rw[List.foldl_cons, ih]
      by_cases h : C.ZW c x.dev x.n=true
      · rw[if_pos h, List.filter_cons, if_neg (by simp[h])]
      · rw[if_neg h, List.filter_cons, if_pos (by simp[h])]; rfl
  rw[show(0 : Int)=((0 : Nat) : Int) from rfl, this, zA, key]; rfl
def yS(l:List EV):List DT:=l.flatMap fun e=>e.dot::e.kills
def vh(l:List EV):List DT:=D.vE (yS l)
theorem y3a(l:List EV)(k:Nat)(h:∀ e∈l,e.kills.length<=k):(yS l).length<=l.length*(k+1):=by
 induction l with
 | nil=>simp[yS]
 | cons e r ih=>
  have h1:=ih fun x hx=>h x (by simp[hx])
  have h2:=h e (by simp);have e1:(yS (e::r)).length=e.kills.length+1+(yS r).length:=by simp[yS];omega
  rw[e1,List.length_cons,Nat.add_mul];omega
theorem Qz{l:List EV}{i:Nat}{x:EV}(h:l[i]?=some x):yS (l.take (i+1))=yS (l.take i)++x.dot::x.kills:=by
 rw[List.take_add_one,h];simp[yS]
theorem wFa(l:List EV)(i:Nat):(yS (l.take i)).length<=(yS l).length:=by
 have:yS l=yS (l.take i)++yS (l.drop i):=by unfold yS;rw[<- List.flatMap_append,List.take_append_drop]
 rw[this,List.length_append];omega
theorem vda(l:List EV)(hl:l.length<=1000000000)(hs:(yS l).length<=1000000000):VF l=pure (vh l):=by
 unfold VF;have key:∀ (k i:Nat),i+k=l.length->loop (Za l) ((i:Int),yS (l.take i))=pure (yS l):=by
  intro k
  induction k with
  | zero=>
   intro i hi;refine zT ?_;unfold Za;have:decide ((i:Int) < (l.length:Int))=false:=by simp;omega
   simp only[this,cond_false];rw[List.take_of_length_le (by omega)]
  | succ k ih=>
   intro i hi;obtain⟨x,hx⟩:∃ x,l[i]?=some x:=⟨_,List.getElem?_eq_getElem (by omega)⟩
   have hd:decide ((i:Int) < (l.length:Int))=true:=by simp;omega
   have h1:=wFa l (i+1);rw[Qz hx,List.length_append,List.length_cons] at h1;rw[zi (s':=(((i+1:Nat):Int),yS (l.take (i+1)))) ?_]
   ·exact ih (i+1) (by omega)
   ·unfold Za;simp only[hd,cond_true,zR hx,zA,yM (show i < 9223372036854775807 by omega)];rw[zJ (by simp;omega),zJ (by simp;omega),Qz hx,List.append_assoc];rfl
 have:=key l.length 0 (by omega);rw[show yS (l.take 0)=[] from rfl] at this;rw[show(0:Int)=((0:Nat):Int) from rfl,this,zA,D.vXa _ (by omega),zB,zA,vh]
theorem rdots_in(l:List EV){i:Nat}{x:EV}(hx:l[i]?=some x)(hk:x.kills.length<=1000000000)(s:List DT)(hs:s.length<=1000000000):loop (YF l (i:Int)) (s,0)=pure (x.kills.foldl D.zRa s):=by
 have:=XP (body:=YF l (i:Int)) x.kills (fun k t=>(t,(k:Int))) D.zRa (fun t=>pure t) (fun k t=>t.length<=1000000000+k) (fun k d t hd hi hI=>by
  have hc:decide ((k:Int) < (x.kills.length:Int))=true:=by simpa using hi
  refine⟨?_,by have:=D.Qm t d;omega⟩;unfold YF;simp only[zR hx,zA,hc,cond_true,zR hd,D.UT t d (by omega),zB,yM (show k < 9223372036854775807 by omega)]) (fun t _=>by
  unfold YF;simp[zR hx,zA]) s (by omega)
 exact this
theorem y0a(l:List EV)(hl:l.length<=1000000)(hk:∀ e∈l,e.kills.length<=300):Jv l=pure (vh l):=by
 unfold Jv;have key:∀ (k i:Nat),i+k=l.length->loop (Xk l) (D.vE (yS (l.take i)),(i:Int))=pure (vh l):=by
  intro k
  induction k with
  | zero=>
   intro i hi;refine zT ?_;unfold Xk;have:decide ((i:Int) < (l.length:Int))=false:=by simp;omega
   simp only[this,cond_false];rw[List.take_of_length_le (by omega)];rfl
  | succ k ih=>
   intro i hi;obtain⟨x,hx⟩:∃ x,l[i]?=some x:=⟨_,List.getElem?_eq_getElem (by omega)⟩
   have hd:decide ((i:Int) < (l.length:Int))=true:=by simp;omega
   have h1:=wFa l i;have h2:=y3a l 300 hk;have h3:=D.qV (yS (l.take i));have h4:=D.Qm (D.vE (yS (l.take i))) x.dot;have h5:=hk x (List.mem_of_getElem? hx);rw[zi (s':=(D.vE (yS (l.take (i+1))),((i+1:Nat):Int))) ?_]
   ·exact ih (i+1) (by omega)
   ·unfold Xk;simp only[hd,cond_true,zR hx,zA,D.UT _ x.dot (show(D.vE (yS (l.take i))).length<=1000000000000 by omega),zB,rdots_in l hx (show x.kills.length<=1000000000 by omega) _ (show(D.zRa (D.vE (yS (l.take i))) x.dot).length<=1000000000 by omega),yM (show i < 9223372036854775807 by omega)];rw[Qz hx];unfold D.vE;rw[List.foldl_append];rfl
 have:=key l.length 0 (by omega);rw[show D.vE (yS (l.take 0))=[] from rfl] at this;rw[show(0:Int)=((0:Nat):Int) from rfl,this,zA]
def WH(l:List EV)(i:Nat)(x:EV):Bool:=decide (0 < i)&&match l[i - 1]? with | some y=>decide (0<=V.wVa y.dot x.dot) | none=>false
theorem Xma{β:Type}{l:List EV}{i:Nat}{x:EV}(hi:i < l.length)(hl:l.length<=1000000000)(f:DT->DT->M Int)(hf:∀ a b,f a b=pure (V.wVa a b))(K:Bool->M β) :
  (cond (decide (0 < (i:Int))) ((idx l (IntKind.i64.wrap ((i:Int) - 1))).bind fun y=>(det (f y.dot x.dot)).bind fun v=>K (decide (0<=v))) (K false))=K (WH l i x):=by
 unfold WH
 by_cases h:0 < i
 ·obtain⟨y,hy⟩:∃ y,l[i - 1]?=some y:=⟨_,List.getElem?_eq_getElem (by omega)⟩
  have e:IntKind.i64.wrap ((i:Int) - 1)=((i - 1:Nat):Int):=by rw[uV (by omega) (by omega)];omega
  have hd:decide (0 < (i:Int))=true:=by simp;omega
  rw[hd,cond_true,e,zR hy,zA,hf,zB,zA,decide_eq_true h,Bool.true_and,hy]
 ·have hd:decide (0 < (i:Int))=false:=by simp;omega
  rw[hd,cond_false,decide_eq_false h,Bool.false_and]
theorem nil_dec{α:Type}[DecidableEq α](l:List α):decide ((l.length:Int)=0)=decide (l=[]):=by
 cases l with
 | nil=>rfl
 | cons x r=>simp;omega
theorem vla(l:List EV):decide ((4096:Int) < (l.length:Int))=!decide (l.length<=4096):=by
 by_cases c:l.length<=4096
 ·rw[decide_eq_true c];simp;omega
 ·rw[decide_eq_false c];simp;omega
open E (OkE yy)
def bad2(l:List EV)(dev:Int)(c:List PT)(i:Nat)(e:EV):Bool:=!yy e||(!decide (e.dot.dev=dev)||(C.ZW c e.dot.dev e.dot.n||WH l i e))
end Go.Ep.M.F
namespace Go.Ep.M.G
open Go
open E (OkE yy Zn)
open F (Vk yS vh)
theorem uta : ∀ {l l':List EV},Zn l->Zn l'->(∀ d,d∈l↔d∈l')->l=l'
 | [],[],_,_,_=>rfl
 | [],y::r,_,_,h=>by have:=(h y).2 (by simp);simp at this
 | x::r,[],_,_,h=>by have:=(h x).1 (by simp);simp at this
 | x::r,y::t,h1,h2,h=>by
  have hx:=(h x).1 (by simp);have hy:=(h y).2 (by simp);have e:x=y:=by
   rcases List.mem_cons.1 hx with e | hx
   ·exact e
   ·rcases List.mem_cons.1 hy with e | hy
    ·exact e.symm
    ·have a1:=(List.pairwise_cons.1 h2).1 x hx;have a2:=(List.pairwise_cons.1 h1).1 y hy;rw[D.JB a1] at a2;cases a2
  subst e
  congr 1
  refine uta (List.pairwise_cons.1 h1).2 (List.pairwise_cons.1 h2).2 fun d=>?_
  have h3:=h d;simp only[List.mem_cons] at h3
  constructor
  ·intro hd;rcases h3.1 (.inr hd) with e | h4
   ·have:=(List.pairwise_cons.1 h1).1 d hd;rw[e,D.JW] at this;cases this
   ·exact h4
  ·intro hd;rcases h3.2 (.inr hd) with e | h4
   ·have:=(List.pairwise_cons.1 h2).1 d hd;rw[e,D.JW] at this;cases this
   ·exact h4
theorem wGa{l:List EV}(h:Zn l):(l.map (·.dot)).Nodup:=by
 unfold List.Nodup;rw[List.pairwise_map];exact h.imp fun {a b} h e=>by rw[e,D.JW] at h;cases h
theorem WA{l:List EV}(h:Zn l)(p:EV->Bool):Zn (l.filter p):=h.sublist List.filter_sublist
theorem srtE_of{s:List EV}(hn:(s.map (·.dot)).Nodup)(h:s.Pairwise fun x y=>UI y x=false):Zn s:=by
 unfold List.Nodup at hn;rw[List.pairwise_map] at hn;refine(hn.and h).imp fun {a b} ⟨h1,h2⟩=>?_
 cases h3:zr a.dot b.dot with
 | true=>rfl
 | false=>exact absurd (D.xza h3 h2) h1
theorem srt_wpE{l:List EV}{Q:List EV->Prop}(h:∀ s,s.Perm l->(s.Pairwise fun x y=>UI y x=false)->Q s):(srt UI l).wp Q:=by
 refine⟨⟨l.mergeSort (fun x y=>!zr y.dot x.dot),List.mergeSort_perm _ _,?_⟩,fun s ⟨h1,h2⟩=>h s h1 h2⟩;refine(List.pairwise_mergeSort (fun a b c h1 h2=>?_) (fun a b=>?_) l).imp fun {x y} h=>by show zr y.dot x.dot=false;simpa using h
 ·simp only[Bool.not_eq_true'] at h1 h2 ⊢
  cases h3:zr c.dot a.dot with
  | false=>rfl
  | true=>
   rw[D.JV] at h3;have h4:¬ (zr b.dot a.dot=true):=by simp[h1]
   have h5:¬ (zr c.dot b.dot=true):=by simp[h2]
   rw[D.JV] at h4 h5;omega
 ·cases h1:zr b.dot a.dot with
  | false=>rfl
  | true=>rw[D.JB h1];rfl
def ent(e:EV):DT×EV:=(e.dot,e)
theorem vGa{a b:EV}(h:ent a=ent b):a=b:=(Prod.mk.inj h).2
theorem QQ{l:List EV}{k:DT×EV}:k∈l.map ent↔k.2∈l/\k.1=k.2.dot:=by
 rw[List.mem_map]
 constructor
 ·rintro⟨e,h,rfl⟩;exact⟨h,rfl⟩
 ·rintro⟨h1,h2⟩;exact⟨k.2,h1,by unfold ent;rw[<- h2]⟩
def Holds(m:List (DT×EV))(l:List EV):Prop:=m.Perm (l.map ent)
theorem Holds.keys{m:List (DT×EV)}{l:List EV}(h:Holds m l)(hs:Zn l):(m.map (·.1)).Nodup:=by
 have h1:=h.map (·.1);rw[List.map_map] at h1;exact h1.nodup_iff.2 (wGa hs)
theorem Holds.mem{m:List (DT×EV)}{l:List EV}(h:Holds m l){k:DT×EV}:k∈m↔k.2∈l/\k.1=k.2.dot:=by rw[h.mem_iff,QQ]
theorem Holds.len{m:List (DT×EV)}{l:List EV}(h:Holds m l):m.length=l.length:=by rw[h.length_eq,List.length_map]
theorem QR{l:List EV}(h:Zn l):(l.map ent).Nodup:=by
 unfold List.Nodup;rw[List.pairwise_map];exact h.imp fun {a b} h e=>by rw[vGa e,D.JW] at h;cases h
theorem yca{m:List (DT×EV)}{l:List EV}(hn:(m.map (·.1)).Nodup)(hs:Zn l)(h:∀ k,k∈m↔k.2∈l/\k.1=k.2.dot):Holds m l:=by
 have hm:m.Nodup:=by
  unfold List.Nodup at hn ⊢;rw[List.pairwise_map] at hn;exact hn.imp fun {a b} h e=>h (by rw[e])
 exact(List.perm_ext_iff_of_nodup hm (QR hs)).2 fun k=>by rw[h,QQ]
theorem vka(e:EV)(h:e.kills.length<=1000000000000):vF e=pure e:=by
 unfold vF;rw[D.jG e.kills h,zB,zA]
theorem wHa{body:List Nat×List EV->M (Step (List Nat×List EV) (List EV))}(m:List (DT×EV))(hb:body=fun⟨seen,out⟩=>yk (∀ i∈seen,i < m.length)<|M.bind (nxt m.length seen) fun o=>match o with
  | none=>pure (.done out)
  | some j=>M.bind (idx m (Int.ofNat j)) fun kv=>M.bind (det (vF kv.2)) fun v=>yk ((out.length+List.length [v])*80<=140737488355328)<|pure (.next (seen++[j],out++[v])))
  (hl:m.length<=500000000000) (hk:∀ k∈m,k.2.kills.length<=1000000000000) (t0:List EV) (h0:t0.length<=500000000000) {Q:List EV->Prop} (hQ:∀ l:List (DT×EV),l.Perm m->Q (t0++l.map (·.2))):(loop body ([],t0)).wp Q:=by
 refine M.loopM (body:=body) m (fun L (t:List EV)=>(L,t)) (fun t e=>(vF e.2).det.bind fun v=>yk ((t.length+1)*80<=140737488355328) (pure (t++[v]))) (fun t=>pure t)
  (fun l t=>t=t0++l.map (·.2)) Q (fun L t hL=>?_) (fun l t y ht hlen hy=>?_) (fun l t hp ht=>?_) t0 (by simp)
 ·subst hb;show yk _ ((nxt _ _).bind _)=yk _ ((nxt _ _).bind _);refine congrArg (fun k=>yk _ ((nxt _ _).bind k)) (funext fun o=>?_)
  cases o with
  | none=>rfl
  | some i=>rfl
 ·rw[vka y.2 (hk y hy),zB,zA];subst ht;exact⟨_,zJ (by simp;omega) _,by simp⟩
 ·subst ht;exact hQ l hp
theorem list2_eq{nl1 nl2:Bool}{m1 m2:List (DT×EV)}{l l1 l2:List EV}(h1:Holds m1 l1)(h2:Holds m2 l2)(hp:(l1++l2).Perm l)(hs:Zn l)(hl:l.length<=200000000000)(hk:∀ e∈l,e.kills.length<=1000000000000):Yk nl1 m1 nl2 m2=pure l:=by
 have hll:=hp.length_eq;rw[List.length_append] at hll;have hk1:∀ k∈m1,k.2.kills.length<=1000000000000:=fun k h=>hk _ (hp.mem_iff.1 (List.mem_append_left _ (h1.mem.1 h).1))
 have hk2:∀ k∈m2,k.2.kills.length<=1000000000000:=fun k h=>hk _ (hp.mem_iff.1 (List.mem_append_right _ (h2.mem.1 h).1))
 unfold Yk;refine Zx (wHa (body:=Wa m1) m1 rfl (by rw[h1.len];omega) hk1 [] (by simp) fun q hq=>?_);have hq1:(q.map (·.2)).Perm l1:=by
  have:=(hq.trans h1).map (·.2);rw[List.map_map] at this;simpa[Function.comp_def,ent] using this
 refine wHa (body:=Wb m2) m2 rfl (by rw[h2.len];omega) hk2 _ (by rw[List.nil_append,hq1.length_eq];omega) fun q2 hq2=>?_
 have hq3:(q2.map (·.2)).Perm l2:=by
  have:=(hq2.trans h2).map (·.2);rw[List.map_map] at this;simpa[Function.comp_def,ent] using this
 show(yk _ _).wp _;rw[List.nil_append];have hpp:(q.map (·.2)++q2.map (·.2)).Perm l:=(hq1.append hq3).trans hp;rw[zJ (by rw[hpp.length_eq];omega)];refine srt_wpE fun s h3 h4=>?_
 show s=l;have h5:=h3.trans hpp;exact uta (srtE_of ((h5.map (·.dot)).nodup_iff.2 (wGa hs)) h4) hs fun d=>h5.mem_iff
open E (OkE yy Zn)
open F (Vk yS vh ZR)
section
variable{κ ν:Type}[DecidableEq κ]
theorem ju{m:List (κ×ν)}(hn:(m.map (·.1)).Nodup)(x:κ)(v:ν)(k:κ×ν):k∈AL.set m x v↔(k∈m/\k.1≠x)\/k=(x,v):=by
 induction m with
 | nil=>simp[AL.set]
 | cons y r ih=>
  obtain⟨q,u⟩:=y;rw[List.map_cons,List.nodup_cons] at hn;unfold AL.set
  split
  ·rename_i e
   subst e;rw[List.mem_cons,List.mem_cons]
   constructor
   ·rintro(h | h)
    ·exact .inr h
    ·exact .inl ⟨.inr h,fun e=>hn.1 (e▸List.mem_map.2 ⟨k,h,rfl⟩)⟩
   ·rintro(⟨h | h,h2⟩ | h)
    ·subst h;exact absurd rfl h2
    ·exact .inr h
    ·exact .inl h
  ·rename_i e
   rw[List.mem_cons,List.mem_cons,ih hn.2]
   constructor
   ·rintro(h | ⟨h,h2⟩ | h)
    ·subst h;exact .inl ⟨.inl rfl,e⟩
    ·exact .inl ⟨.inr h,h2⟩
    ·exact .inr h
   ·rintro(⟨h | h,h2⟩ | h)
    ·exact .inl h
    ·exact .inr (.inl ⟨h,h2⟩)
    ·exact .inr (.inr h)
end
def insE(l:List EV)(e:EV):List EV:=(l.filter fun x=>zr x.dot e.dot)++[e]++(l.filter fun x=>zr e.dot x.dot)
theorem insE_srt{l:List EV}(hs:Zn l)(e:EV):Zn (insE l e):=by
 unfold insE Zn;rw[List.pairwise_append,List.pairwise_append];refine⟨⟨WA hs _,by simp,fun a ha b hb=>?_⟩,WA hs _,fun a ha b hb=>?_⟩
 ·rw[List.mem_singleton.1 hb];exact(List.mem_filter.1 ha).2
 ·have h2:=(List.mem_filter.1 hb).2;rcases List.mem_append.1 ha with h | h
  ·exact D.Vf (List.mem_filter.1 h).2 h2
  ·rw[List.mem_singleton.1 h];exact h2
theorem insE_mem{l:List EV}{e:EV}(hn:∀ x∈l,x.dot≠e.dot){x:EV}:x∈insE l e↔x=e\/x∈l:=by
 unfold insE;rw[List.mem_append,List.mem_append,List.mem_filter,List.mem_filter,List.mem_singleton]
 constructor
 ·rintro((⟨h,_⟩ | h) | ⟨h,_⟩)
  ·exact .inr h
  ·exact .inl h
  ·exact .inr h
 ·rintro(h | h)
  ·exact .inl (.inr h)
  ·cases h1:zr x.dot e.dot with
   | true=>exact .inl (.inl ⟨h,rfl⟩)
   | false=>
    cases h2:zr e.dot x.dot with
    | true=>exact .inr ⟨h,rfl⟩
    | false=>exact absurd (D.xza h1 h2) (hn x h)
theorem Holds.add{m:List (DT×EV)}{l:List EV}(h:Holds m l)(hs:Zn l){e:EV}(hn:∀ x∈l,x.dot≠e.dot):Holds (AL.set m e.dot e) (insE l e):=
 yca (AL.nodup_set (h.keys hs) _ _) (insE_srt hs e) fun k=>by
  rw[ju (h.keys hs),h.mem,insE_mem hn]
  constructor
  ·rintro(⟨⟨h1,h2⟩,h3⟩ | h1)
   ·exact⟨.inr h1,h2⟩
   ·rw[h1];exact⟨.inl rfl,rfl⟩
  ·rintro⟨h1 | h1,h2⟩
   ·refine .inr ?_;obtain⟨k1,k2⟩:=k;simp only at h1 h2;rw[h2,h1]
   ·exact .inl ⟨⟨h1,h2⟩,by rw[h2];exact hn _ h1⟩
theorem wIa{e:EV}(h:yy e=true):e.kind=1\/e.kind=2:=by
 simp only[yy,E.Xba,Bool.and_eq_true,Bool.or_eq_true,decide_eq_true_eq] at h;rcases h.2.1 with h | h
 ·exact .inl h.1
 ·exact .inr h.1
theorem Zqa{e:EV}(h:yy e=true):e.kills.length<=256/\D.Srt e.kills/\∀ d∈e.kills,V.xA d=true/\d≠e.dot:=by
 simp only[yy,E.vga,Bool.and_eq_true,decide_eq_true_eq,List.all_eq_true,Bool.not_eq_true',decide_eq_false_iff_not] at h;exact⟨h.2.2.1,D.uma.1 h.2.2.2.1,fun d hd=>h.2.2.2.2 d hd⟩
open E (OkE yy Zn)
open F (Vk yS vh ZR)
def Vq(L:List EV):List EV:=L.filter fun e=>decide (e.kind=1)
def Vr(L:List EV):List EV:=L.filter fun e=>decide (e.kind=2)
theorem uua{L:List EV}{x:EV}:x∈Vq L↔x∈L/\x.kind=1:=by simp[Vq]
theorem uva{L:List EV}{x:EV}:x∈Vr L↔x∈L/\x.kind=2:=by simp[Vr]
structure Rep(n:Nat)(W c xc:List PT)(nl1:Bool)(m1:List (DT×EV))(nl2:Bool)(m2:List (DT×EV))(L:List EV):Prop where
 ctx:c=C.yj W
 xctx:∀ k n,C.ZW xc k n=C.ZW W k n
 xok:C.Ok xc
 live:Holds m1 (Vq L)
 tomb:Holds m2 (Vr L)
 n1:nl1=true->m1=[]
 n2:nl2=true->m2=[]
 srt:Zn L
 good:∀ e∈L,yy e=true/\OkE e
 dots:∀ d∈yS L,C.ZW W d.dev d.n=true
 alive:∀ e∈L,e.kind=1->ZR L e.dot=false
 wl:W.length<=n
 wt:C.xn W<=n
 ll:L.length<=n
theorem ok_normW{W:List PT}(h1:W.length<=400000000)(h2:C.xn W<=400000000):C.Ok (C.yj W):=
 ⟨fun p hp=>by have:=((C.XR W).nf p hp).1;omega,by have:=C.Wo W;omega,by have:=C.Wp W;omega⟩
section
variable{n:Nat}{W c xc:List PT}{nl1:Bool}{m1:List (DT×EV)}{nl2:Bool}{m2:List (DT×EV)}{L:List EV}
theorem Rep.mono(hR:Rep n W c xc nl1 m1 nl2 m2 L){k:Nat}(h:n<=k):Rep k W c xc nl1 m1 nl2 m2 L:=
 { hR with wl:=Nat.le_trans hR.wl h,wt:=Nat.le_trans hR.wt h,ll:=Nat.le_trans hR.ll h }
theorem Rep.okc(hR:Rep n W c xc nl1 m1 nl2 m2 L)(hn:n<=100000000):C.Ok c:=by
 rw[hR.ctx];exact ok_normW (by have:=hR.wl;omega) (by have:=hR.wt;omega)
theorem Rep.has(hR:Rep n W c xc nl1 m1 nl2 m2 L)(hn:n<=100000000)(d:DT):qw c d=pure (C.ZW W d.dev d.n):=by
 rw[C.uTa c d (hR.okc hn).sm,hR.ctx,C.xra]
theorem Rep.new : Rep 0 [] [] [] true [] true [] [] where
 ctx:=rfl
 xctx _ _:=rfl
 xok:=C.ok_nil
 live:=List.Perm.refl _
 tomb:=List.Perm.refl _
 n1 _:=rfl
 n2 _:=rfl
 srt:=List.Pairwise.nil
 good _ h:=by cases h
 dots _ h:=by cases h
 alive _ h:=by cases h
 wl:=Nat.le_refl _
 wt:=Nat.le_refl _
 ll:=Nat.le_refl _
theorem add_eq{e:EV}(hk:e.kills.length<=1000000000000){nl:Bool}{m:List (DT×EV)}(h:nl=true->m=[]):XC e nl m=pure (false,AL.set m e.dot e):=by
 unfold XC;have h1:(cond nl (M.pure ([]:List (DT×EV))) (M.pure m))=M.pure m:=by
  cases nl with
  | true=>rw[h rfl];rfl
  | false=>rfl
 rw[h1,zA,vka e hk,zB,zA]
end
open E (OkE yy Zn)
open F (Vk yS vh ZR)
section
variable{n:Nat}{W c xc:List PT}{nl1:Bool}{m1:List (DT×EV)}{nl2:Bool}{m2:List (DT×EV)}{L:List EV}
theorem Rep.kl(hR:Rep n W c xc nl1 m1 nl2 m2 L):∀ e∈L,e.kills.length<=256:=fun e he=>(Zqa (hR.good e he).1).1
theorem Zra(L:List EV)(h:∀ e∈L,e.kind=1\/e.kind=2):(Vq L++Vr L).Perm L:=by
 induction L with
 | nil=>exact List.Perm.refl _
 | cons x r ih=>
  have ih:=ih fun e he=>h e (by simp[he])
  rcases h x (by simp) with h1 | h1
  ·have e1:Vq (x::r)=x::Vq r:=by unfold Vq;rw[List.filter_cons,if_pos (by simp[h1])]
   have e2:Vr (x::r)=Vr r:=by unfold Vr;rw[List.filter_cons,if_neg (by simp[h1])]
   rw[e1,e2];exact ih.cons x
  ·have e1:Vq (x::r)=Vq r:=by unfold Vq;rw[List.filter_cons,if_neg (by simp[h1])]
   have e2:Vr (x::r)=x::Vr r:=by unfold Vr;rw[List.filter_cons,if_pos (by simp[h1])]
   rw[e1,e2];exact List.perm_middle.trans (ih.cons x)
theorem Rep.kinds(hR:Rep n W c xc nl1 m1 nl2 m2 L):∀ e∈L,e.kind=1\/e.kind=2:=fun e he=>wIa (hR.good e he).1
theorem Rep.All(hR:Rep n W c xc nl1 m1 nl2 m2 L)(hn:n<=100000000):uO c nl1 m1 nl2 m2=pure L:=by
 unfold uO;rw[list2_eq hR.live hR.tomb (Zra L hR.kinds) hR.srt (by have:=hR.ll;omega) (fun e he=>by have:=hR.kl e he;omega),zB,zA]
theorem Rep.Ctx(hR:Rep n W c xc nl1 m1 nl2 m2 L)(hn:n<=100000000):uN c nl1 m1 nl2 m2=pure (C.yj W):=by
 unfold uN;rw[C.jz c (hR.okc hn).sm,zB,zA,hR.ctx,C.zna (C.XR W)]
end
open E (OkE yy Zn)
open F (Vk yS vh ZR)
section
variable{n:Nat}{W c xc:List PT}{nl1:Bool}{m1:List (DT×EV)}{nl2:Bool}{m2:List (DT×EV)}{L:List EV}
end
open E (OkE yy Zn)
open F (Vk yS vh ZR)
section
variable{n:Nat}{W c xc:List PT}{nl1:Bool}{m1:List (DT×EV)}{nl2:Bool}{m2:List (DT×EV)}{L:List EV}
end
open E (OkE yy Zn)
open F (Vk yS vh ZR)
def exB : EV:=⟨⟨1,2⟩,2,281474976710657,0,⟨#[]⟩,[]⟩
theorem okB : OkE exB:=⟨⟨by decide,by decide,by decide,by decide⟩,by decide,by decide,by decide,by decide,(fun d hd=>nomatch hd),by decide⟩
open E (OkE yy Zn)
open F (Vk yS vh ZR WH JG)
def zQa(l:List EV)(i:Nat)(e:EV):Bool:=!yy e||(WH l i e||(decide (e.kind=1)&&ZR l e.dot))
def fromB(c:List PT)(l:List EV):Bool:=(l.zipIdx.all fun y=>!zQa l y.2 y.1)&&(decide (c=C.yj c)&&decide (JG (vh l) c=[]))
theorem wJa{l:List EV}{e:EV}(h:∀ x∈l,zr x.dot e.dot=true):insE l e=l++[e]:=by
 unfold insE;rw[List.filter_eq_self.2 h,List.filter_eq_nil_iff.2 fun x hx=>by rw[D.JB (h x hx)];simp];simp
theorem prev_srt{l:List EV}{i:Nat}{x:EV}(hx:l[i]?=some x)(hs:Zn (l.take i))(hp:WH l i x=false):Zn (l.take (i+1))/\∀ z∈l.take i,zr z.dot x.dot=true:=by
 have htk:l.take (i+1)=l.take i++[x]:=by rw[List.take_add_one,hx];rfl
 have hlt:i < l.length:=(List.getElem?_eq_some_iff.1 hx).1;have hall:∀ z∈l.take i,zr z.dot x.dot=true:=by
  intro z hz;obtain⟨j,hj⟩:=List.getElem?_of_mem hz;have hji:j < (l.take i).length:=(List.getElem?_eq_some_iff.1 hj).1;rw[List.length_take] at hji;obtain⟨y,hy⟩:∃ y,l[i - 1]?=some y:=⟨_,List.getElem?_eq_getElem (by omega)⟩
  unfold WH at hp;rw[decide_eq_true (show 0 < i by omega),Bool.true_and,hy] at hp;have hyx:zr y.dot x.dot=true:=V.qG.1 (by simpa using hp)
  by_cases e:j=i - 1
  ·have:(l.take i)[j]?=l[j]?:=by rw[List.getElem?_take,if_pos (by omega)]
   rw[this,e,hy] at hj
   cases hj;exact hyx
  ·have h2:(l.take i)[i - 1]?=some y:=by rw[List.getElem?_take,if_pos (by omega)];exact hy
   have h3:=List.pairwise_iff_getElem.1 hs j (i - 1) (by rw[List.length_take];omega) (by rw[List.length_take];omega) (by omega);rw[(List.getElem?_eq_some_iff.1 hj).2,(List.getElem?_eq_some_iff.1 h2).2] at h3;exact D.Vf h3 hyx
 refine⟨?_,hall⟩;rw[htk];unfold Zn;rw[List.pairwise_append];exact⟨hs,by simp,fun a ha b hb=>by rw[List.mem_singleton.1 hb];exact hall a ha⟩
theorem wKa(l:List EV)(x:EV):Vq (l++[x])=Vq l++(if x.kind=1 then [x] else []):=by
 unfold Vq;rw[List.filter_append,List.filter_cons];by_cases h:x.kind=1 <;> simp[h]
theorem wLa(l:List EV)(x:EV):Vr (l++[x])=Vr l++(if x.kind=2 then [x] else []):=by
 unfold Vr;rw[List.filter_append,List.filter_cons];by_cases h:x.kind=2 <;> simp[h]
theorem from_bad{l:List EV}(hl:l.length<=1000000)(hk:∀ e∈l,OkE e/\e.kills.length<=300){i:Nat}{x:EV}(hx:l[i]?=some x) :
  (M.bind (M.det (Zp x)) fun v84=>cond (!v84) (M.pure true) (cond (decide (0 < (i:Int)))
   (M.bind (M.idx l (IntKind.i64.wrap ((i:Int) - 1))) fun x88=>M.bind (M.det (Zy x88.dot x.dot)) fun v90=>cond (decide (0<=v90)) (M.pure true) (cond (decide (x.kind=1)) (M.bind (M.det (ua l x.dot)) fun v94=>M.pure v94) (M.pure false)))
   (cond (decide (x.kind=1)) (M.bind (M.det (ua l x.dot)) fun v97=>M.pure v97) (M.pure false))):M Bool)=pure (zQa l i x):=by
 have hm:=List.mem_of_getElem? hx;have hi:i < l.length:=(List.getElem?_eq_some_iff.1 hx).1;rw[E.JA (hk x hm).1,zB,zA,F.Dead_eq l x.dot (by omega) (fun e he=>by have:=(hk e he).2;omega),zB,zA];have hp:=F.Xma (x:=x) hi (by omega) Zy D.uea (fun b=>(cond b (M.pure true) (cond (decide (x.kind=1)) (M.pure (ZR l x.dot)) (M.pure false)):M Bool));simp only[cond_false] at hp;rw[hp];unfold zQa
 cases yy x <;> cases WH l i x <;> cases decide (x.kind=1) <;> rfl
theorem Xna{l:List EV}(hl:l.length<=1000000)(hk:∀ e∈l,OkE e/\e.kills.length<=300) :
  ∀ (k i:Nat) (nl2:Bool) (m2:List (DT×EV)) (nl1:Bool) (m1:List (DT×EV)),i+k=l.length->Zn (l.take i)->(∀ e∈l.take i,yy e=true)->Holds m1 (Vq (l.take i))->Holds m2 (Vr (l.take i))->(nl1=true->m1=[])->(nl2=true->m2=[]) ->
   if ((l.drop i).zipIdx i).all (fun y=>!zQa l y.2 y.1)=true then ∃ b q a p,loop (yd l) ((i:Int),nl2,m2,nl1,m1)=pure (Ex.brk (b,q,a,p))/\Zn l/\(∀ e∈l,yy e=true)/\Holds p (Vq l)/\Holds q (Vr l)/\(a=true->p=[])/\(b=true->q=[])
   else loop (yd l) ((i:Int),nl2,m2,nl1,m1)=pure (Ex.ret (.inl ())):=by
 intro k
 induction k with
 | zero=>
  intro i nl2 m2 nl1 m1 hi hs hg h1 h2 h3 h4;have e:i=l.length:=by omega
  subst e;rw[List.drop_length,if_pos (by simp)];rw[List.take_length] at hs hg h1 h2;refine⟨nl2,m2,nl1,m1,?_,hs,hg,h1,h2,h3,h4⟩;refine zT ?_;unfold yd;simp
 | succ k ih=>
  intro i nl2 m2 nl1 m1 hi hs hg h1 h2 h3 h4;obtain⟨x,hx⟩:∃ x,l[i]?=some x:=⟨_,List.getElem?_eq_getElem (by omega)⟩
  have hm:=List.mem_of_getElem? hx;have hdr:l.drop i=x::l.drop (i+1):=by
   rw[List.drop_eq_getElem_cons (by omega)]
   congr 1
   rw[List.getElem?_eq_getElem (by omega)] at hx;exact Option.some.inj hx
  have htk:l.take (i+1)=l.take i++[x]:=by rw[List.take_add_one,hx];rfl
  have hd:decide ((i:Int) < (l.length:Int))=true:=by simp;omega
  have hb:=from_bad hl hk hx;rw[hdr,List.zipIdx_cons,List.all_cons]
  cases hbad:zQa l i x with
  | true=>
   simp only[Bool.not_true,Bool.false_and,Bool.false_eq_true,if_false];refine zT ?_;unfold yd;simp only[hd,cond_true,zR hx,zA];rw[hb,zA,hbad]
   rfl
  | false=>
   simp only[Bool.not_false,Bool.true_and];have hgx:yy x=true:=by
    unfold zQa at hbad;simp only[Bool.or_eq_false_iff,Bool.not_eq_false'] at hbad;exact hbad.1
   have hpx:WH l i x=false:=by
    unfold zQa at hbad;simp only[Bool.or_eq_false_iff] at hbad;exact hbad.2.1
   obtain⟨hs',hall⟩:=prev_srt hx hs hpx;have hg':∀ e∈l.take (i+1),yy e=true:=fun e he=>by
    rw[htk] at he;rcases List.mem_append.1 he with h | h
    ·exact hg e h
    ·rw[List.mem_singleton.1 h];exact hgx
   have hxk:=(hk x hm).2;rcases wIa hgx with hkd | hkd
   ·have hb2:yd l ((i:Int),nl2,m2,nl1,m1)=pure (.next (((i+1:Nat):Int),nl2,m2,false,AL.set m1 x.dot x)):=by
     unfold yd;simp only[hd,cond_true,zR hx,zA];rw[hb,zA,hbad,decide_eq_true hkd];simp only[cond_false,cond_true,add_eq (show x.kills.length<=1000000000000 by omega) h3,zB,zA,ZH,yM (show i < 9223372036854775807 by omega)]
    rw[zi hb2];refine ih (i+1) nl2 m2 false _ (by omega) hs' hg' ?_ ?_ (fun h=>by cases h) h4
    ·rw[htk,wKa,if_pos hkd,<- wJa (fun z hz=>hall z (uua.1 hz).1)];exact h1.add (WA hs _) fun z hz e=>by have:=hall z (uua.1 hz).1;rw[e,D.JW] at this;cases this
    ·rw[htk,wLa,if_neg (by omega),List.append_nil];exact h2
   ·have hb2:yd l ((i:Int),nl2,m2,nl1,m1)=pure (.next (((i+1:Nat):Int),false,AL.set m2 x.dot x,nl1,m1)):=by
     unfold yd;simp only[hd,cond_true,zR hx,zA];rw[hb,zA,hbad,decide_eq_false (show ¬ x.kind=1 by omega)];simp only[cond_false,add_eq (show x.kills.length<=1000000000000 by omega) h4,zB,zA,ZH,yM (show i < 9223372036854775807 by omega)]
    rw[zi hb2];refine ih (i+1) false _ nl1 m1 (by omega) hs' hg' ?_ ?_ h3 (fun h=>by cases h)
    ·rw[htk,wKa,if_neg (by omega),List.append_nil];exact h1
    ·rw[htk,wLa,if_pos hkd,<- wJa (fun z hz=>hall z (uva.1 hz).1)];exact h2.add (WA hs _) fun z hz e=>by have:=hall z (uva.1 hz).1;rw[e,D.JW] at this;cases this
theorem drop_nil{l:List DT}{c:List PT}(h:JG l c=[]):∀ d∈l,C.ZW c d.dev d.n=true:=fun d hd=>by
 cases hc:C.ZW c d.dev d.n with
 | true=>rfl
 | false=>
  have:d∈JG l c:=D.jO.2 (List.mem_filter.2 ⟨hd,by simp[hc]⟩);rw[h] at this;cases this
theorem From_eq{c:List PT}{l:List EV}(hc:C.Ok c){n:Nat}(h1:c.length<=n)(h2:C.xn c<=n)(hl:l.length<=n)(hn:n<=1000000)(hk:∀ e∈l,OkE e/\e.kills.length<=300) :
  if fromB c l=true then ∃ a p b q,YA c l=pure (.inr (C.yj c,a,p,b,q))/\Rep n c (C.yj c) c a p b q l else YA c l=pure (.inl ()):=by
 have hlen:=F.y3a l 300 fun e he=>(hk e he).2
 have hdl:(vh l).length<=(yS l).length:=D.qV _;have key:=Xna (l:=l) (by omega) hk l.length 0 true [] true [] (by omega) (by simp[Zn]) (by simp) (by simp[Holds,Vq]) (by simp[Holds,Vr]) (fun _=>rfl) (fun _=>rfl);rw[List.drop_zero] at key;have h0:loop (yd l) (((0:Nat):Int),true,[],true,[])=loop (yd l) (0,true,[],true,[]):=rfl;rw[h0] at key;unfold fromB;unfold YA;rw[C.jz c hc.sm,zB,zA]
 cases ha:(l.zipIdx.all fun y=>!zQa l y.2 y.1) with
 | false=>
  rw[ha,if_neg (by simp)] at key;rw[Bool.false_and,if_neg (by simp),key,zA,qh]
 | true=>
  rw[ha,if_pos rfl] at key;obtain⟨b,q,a,p,e1,hs,hg,g1,g2,g3,g4⟩:=key;rw[e1,zA,ZH,Bool.true_and];simp only[];rw[C.JA c hc.sm,zB,zA,F.vda l (by omega) (by omega),zB,zA,F.Drop_eq (vh l) c (by omega) hc.sm,zB,zA];have hdec:decide (0 < ((JG (vh l) c).length:Int))=!decide (JG (vh l) c=[]):=by
   cases JG (vh l) c with
   | nil=>rfl
   | cons x r=>simp <;> omega
  rw[hdec]
  cases hcn:decide (c=C.yj c) with
  | false=>rw[Bool.false_and,if_neg (by simp)];rfl
  | true=>
   rw[Bool.true_and,Bool.not_true,cond_false,zA]
   cases hdn:decide (JG (vh l) c=[]) with
   | false=>rw[if_neg (by simp)];rfl
   | true=>
    rw[if_pos rfl];refine⟨a,p,b,q,rfl,⟨rfl,fun _ _=>rfl,hc,g1,g2,g3,g4,hs,fun e he=>⟨hg e he,(hk e he).1⟩,fun d hd=>drop_nil (of_decide_eq_true hdn) d (D.jO.2 hd),fun e he h1=>?_,h1,h2,hl⟩⟩;rw[List.all_eq_true] at ha;obtain⟨i,hi⟩:=List.getElem?_of_mem he;have:=ha (e,i) (by rw[List.mem_zipIdx_iff_getElem?];exact hi);simp only[Bool.not_eq_true',zQa,Bool.or_eq_false_iff,Bool.and_eq_false_iff] at this;rcases this.2.2 with h | h
    ·exact absurd h1 (of_decide_eq_false h)
    ·exact h
theorem rFrom_eq{c:List PT}{l:List EV}(hc:C.Ok c)(hl:l.length<=1000000)(hk:∀ e∈l,OkE e/\e.kills.length<=300):Jw c l=pure (fromB c l):=by
 unfold Jw fromB;have:=vq (body:=Xl l) l (fun i=>(i:Int)) (fun i x=>!zQa l i x) (Ex.brk ()) (Ex.ret false) (fun i x hx hi=>by
  have hd:decide ((i:Int) < (l.length:Int))=true:=by simpa using hi
  have hm:=List.mem_of_getElem? hx;unfold Xl;simp only[hd,cond_true,zR hx,zA,E.Vc (hk x hm).1,F.rDead_eq l x.dot (by omega) (fun e he=>by have:=(hk e he).2;omega),zB,yM (show i < 9223372036854775807 by omega)];have hp:=F.Xma (x:=x) hi (by omega) ZK V.Zs (fun b=>(cond b (M.pure true) (cond (decide (x.kind=1)) (M.pure (ZR l x.dot)) (M.pure false)):M Bool));simp only[cond_false] at hp;rw[hp];unfold zQa
  cases yy x <;> cases WH l i x <;> cases decide (x.kind=1) <;> cases ZR l x.dot <;> rfl) (by
  unfold Xl;simp)
 rw[show(0:Int)=((0:Nat):Int) from rfl,this,zA];have hlen:=F.y3a l 300 fun e he=>(hk e he).2
 have hdl:(vh l).length<=(yS l).length:=D.qV _
 cases (l.zipIdx.all fun y=>!zQa l y.2 y.1) with
 | false=>rfl
 | true=>
  rw[if_pos rfl,ZH,Bool.true_and];rw[C.Vc c hc,zB,zA,F.y0a l hl (fun e he=>(hk e he).2),zB,zA,F.rDrop_eq (vh l) c (by omega) hc,zB,zA];have hdec:=F.nil_dec (JG (vh l) c)
  cases decide (c=C.yj c) with
  | false=>rfl
  | true=>
   rw[cond_true,Bool.true_and];exact congrArg pure hdec
open E (OkE yy Zn)
open F (Vk yS vh ZR WH JG)
section
variable{n:Nat}{W c xc:List PT}{nl1:Bool}{m1:List (DT×EV)}{nl2:Bool}{m2:List (DT×EV)}{L:List EV}
end
open E (OkE yy Zn)
open F (Vk yS vh ZR)
section
variable{n:Nat}{W c xc:List PT}{nl1:Bool}{m1:List (DT×EV)}{nl2:Bool}{m2:List (DT×EV)}{L:List EV}
end
section
variable{n:Nat}{W c xc:List PT}{nl1:Bool}{m1:List (DT×EV)}{nl2:Bool}{m2:List (DT×EV)}{L:List EV}
end
open E (OkE yy Zn)
open F (Vk yS vh ZR)
section
variable{n:Nat}{W c xc:List PT}{nl1:Bool}{m1:List (DT×EV)}{nl2:Bool}{m2:List (DT×EV)}{L:List EV}
end
section
variable{n:Nat}{W c xc:List PT}{nl1:Bool}{m1:List (DT×EV)}{nl2:Bool}{m2:List (DT×EV)}{L:List EV}
end
open E (OkE yy Zn)
open F (Vk yS vh ZR)
section
variable{n:Nat}{W c xc:List PT}{nl1:Bool}{m1:List (DT×EV)}{nl2:Bool}{m2:List (DT×EV)}{L:List EV}
end
open E (OkE yy Zn XW)
open D (JX)
open F (Vk yS vh ZR)
theorem Xoa{e:EV}(h:yy e=true):e.text.size<=60:=by
 simp only[yy,E.Xba,E.wBa,E.uqa,Bool.and_eq_true,Bool.or_eq_true,decide_eq_true_eq] at h;rcases h.2.1 with h | h
 ·exact h.2.2.1
 ·rw[h.2.2];decide
section
variable{n:Nat}{W c xc:List PT}{nl1:Bool}{m1:List (DT×EV)}{nl2:Bool}{m2:List (DT×EV)}{L:List EV}
end
open E (OkE yy Zn XW Vj)
open D (JX uT Vy fin)
open F (Vk yS vh ZR)
open N (RS qP Sim OkB)
theorem WB(v:Int):1<=(N.xe v).length:=by unfold N.xe N.wWa;simp
theorem uwa : ∀ c:List PT,c.length+C.xn c<=(c.flatMap D.Zda).length
 | []=>by simp[C.xn]
 | p::r=>by
  have h1:=uwa r;have h2:=WB p.dev;have h3:p.runs.length<=(p.runs.flatMap D.zGa).length:=by
   generalize p.runs=l
   induction l with
   | nil=>simp
   | cons x l ih=>
    have:=WB x.lo;rw[List.flatMap_cons,List.length_append,List.length_cons,D.zGa,List.length_append];omega
  have h4:C.xn (p::r)=p.runs.length+C.xn r:=by simp[C.xn]
  rw[List.flatMap_cons,List.length_append,List.length_cons,D.Zda,List.length_append,List.length_append];omega
theorem uxa : ∀ l:List EV,l.length<=(l.flatMap E.zSa).length
 | []=>by simp
 | e::r=>by
  have h1:=uxa r;have h2:1<=(E.zSa e).length:=by
   unfold E.zSa;simp only[List.length_append,List.length_cons];omega
  rw[List.flatMap_cons,List.length_append,List.length_cons];omega
theorem wMa{s:RS}(hO:N.Ok s):(uT s).1.length+C.xn (uT s).1<=s.1.length/\(uT s).2.1.length<=s.1.length:=by
 obtain⟨h1,_,_,h4,h5⟩:=D.ZG hO
 by_cases c:(uT s).2.2=0
 ·have h6:=D.XWa hO c;have h7:=congrArg List.length h6;rw[List.length_append,JX,<- h5 c,D.wWa,List.length_append] at h7;have:=uwa (uT s).1;omega
 ·rw[h4 c,h1.nil c];simp[C.xn]
theorem Xpa{s:RS}(hO:N.Ok s)(m:Int):(Vj m s).1.length<=s.1.length:=by
 obtain⟨_,_,_,h4,h5⟩:=E.Qy hO m
 by_cases c:(Vj m s).2.2=0
 ·have h7:=congrArg List.length (h4 c).1;rw[List.length_append,XW,List.length_append] at h7;have:=uxa (Vj m s).1;omega
 ·rw[h5 c];simp
theorem good_kl9{e:EV}(h:yy e=true):e.kills.length<=256:=by
 simp only[yy,E.vga,Bool.and_eq_true,decide_eq_true_eq] at h;exact h.2.2.1
open E (OkE yy Zn XW Vj)
open D (JX uT Vy fin)
open F (Vk yS vh ZR WH)
open N (RS qP Sim OkB)
section
variable{n:Nat}{W c xc:List PT}{nl1:Bool}{m1:List (DT×EV)}{nl2:Bool}{m2:List (DT×EV)}{L:List EV}
end
open E (OkE yy Zn)
open F (Vk yS vh)
def hD(e:EV)(k n:Int):Bool:=C.ZW (C.dotsC (vh [e])) k n
structure Past(P:List EV)(W:List PT)(L:List EV):Prop where
 has:∀ k n,C.ZW W k n=true↔∃ e∈P,yy e=true/\hD e k n=true
 mem:∀ x,x∈L↔x∈P/\yy x=true/\∀ f∈P,yy f=true->x.dot∉f.kills
 srt:Zn L
open E (OkE yy Zn)
open F (Vk yS vh)
open E (OkE yy Zn)
open F (Vk yS vh)
structure InK(K:List DT)(n:Nat)(v:List EV):Prop where
 srt:Zn v
 len:v.length=n
 ok:∀ e∈v,OkE e
 kl:∀ e∈v,e.kills.length<=4000
 sub:∀ e∈v,∀ d∈e.kills,d∈K
open E (OkE yy Zn)
open F (Vk yS vh)
end Go.Ep.M.G
namespace Go.Ep.M.Y
open Go
open E (OkE XW)
open D (JX)
def OkC(c:List PT):Prop:=C.Ok c/\(∀ p∈c,p.dev<=65535)/\c.length<=2000/\C.xn c<=2000
structure OkS(s:THubState):Prop where
 epoch:0<=s.epoch/\s.epoch<=18446744073709551615
 last:0<=s.last/\s.last<=65535
 mem:∀ m∈s.members,(0<=m.dev/\m.dev<=65535)/\(0<=m.slot/\m.slot<=255)/\0<=m.try_/\m.try_<=18446744073709551615
 mlen:s.members.length<=400
 tries:∀ t∈s.tries,0<=t/\t<=18446744073709551615
 tlen:s.tries.length<=400
 rows:∀ r∈s.rows,OkC r.have_
 rlen:s.rows.length<=400
 ctx:OkC s.ctx
 all:∀ e∈s.all,OkE e/\e.kills.length<=300/\e.text.size<=200
 alen:s.all.length<=2000
def badR(s:THubState)(i:Nat)(x:TRow):Bool:=!decide (x.who=(s.members.getD i H.zM).dev)||!decide (x.have_=C.yj x.have_)
def rowsB(s:THubState):Bool:=decide (s.rows.length=s.members.length)&&!(s.rows.zipIdx.any fun y=>badR s y.2 y.1)
def UV(s:THubState):Bool:=H.fromB s.epoch s.last s.members s.tries&&(G.fromB s.ctx s.all&&rowsB s)
theorem vla(a b:Nat):(!decide ((a:Int)=(b:Int)))=!decide (a=b):=by
 by_cases h:a=b
 ·rw[decide_eq_true h,decide_eq_true (by omega)]
 ·rw[decide_eq_false h,decide_eq_false (by omega)]
theorem mem_at{s:THubState}(he:s.rows.length=s.members.length){i:Nat}(hi:i < s.rows.length):s.members[i]?=some (s.members.getD i H.zM):=by
 rw[List.getD_eq_getElem?_getD,List.getElem?_eq_getElem (by omega)];rfl
theorem cFrom_eq{s:THubState}(h:OkS s):(UV s=true->∃ z,uL s=pure (.inr z))/\(UV s=false->uL s=pure (.inl ())):=by
 have ml:=h.mlen;have rl:=h.rlen;unfold uL UV;rcases H.From_eq h.epoch.1 h.last.1 h.last.2 (show s.members.length<=900 by omega) (tr:=s.tries) (fun x hx=>⟨(h.mem x hx).1.1,(h.mem x hx).2.1.1⟩) with⟨a1,a2⟩ | ⟨a1,a2,m,a3,a4⟩
 ·rw[a1,a2,zB,zA,Bool.false_and];exact⟨fun h=>(by cases h),fun _=>rfl⟩
 ·rw[a1,a3,zB,zA,Bool.true_and];have hb:=G.From_eq (c:=s.ctx) (l:=s.all) h.ctx.1 (n:=2000) h.ctx.2.2.1 h.ctx.2.2.2 h.alen (by omega) (fun e he=>⟨(h.all e he).1,(h.all e he).2.1⟩)
  cases hf:G.fromB s.ctx s.all with
  | false=>
   rw[hf,if_neg (by simp)] at hb;simp only[M.sum,hb,zB,zA,Bool.false_and];exact⟨fun h=>(by cases h),fun _=>trivial⟩
  | true=>
   rw[hf,if_pos rfl] at hb;obtain⟨a,p,b,q,hb,_⟩:=hb;simp only[M.sum,hb,zB,zA,Bool.true_and,vla];unfold rowsB
   by_cases he:s.rows.length=s.members.length
   ·rw[decide_eq_true he,Bool.not_true,cond_false,Bool.true_and,show WU=pure (true,[]) from rfl,zB,zA];have key:=H.loopB (body:=ZJ s) s.rows (fun i (t:Bool×List ((Int×Int)×List RN))=>((i:Int),t.1,t.2)) (fun t=>t) (badR s) (.inl ())
     (fun i t=>∃ x,J.Rep (2000*i) i t.1 t.2 x) (fun i x t hx hi hI=>?_) (fun t _=>?_) (true,[]) ⟨[],J.rep_nil _ _⟩
    ·rcases key with⟨k1,k2⟩ | ⟨k1,t,k2,_⟩
     ·rw[k1];refine⟨fun h=>(by cases h),fun _=>?_⟩;show M.bind (loop _ (((0:Nat):Int),true,[])) _=_;rw[k2,zA];rfl
     ·rw[k1];refine⟨fun _=>?_,fun h=>(by cases h)⟩;show ∃ z,M.bind (loop _ (((0:Nat):Int),true,[])) _=_;rw[k2,zA];exact⟨_,rfl⟩
    ·obtain⟨x0,hI⟩:=hI;have hr:=h.rows x (List.mem_of_getElem? hx);have hbody:ZJ s ((i:Int),t.1,t.2)=cond (badR s i x) (pure (.done (.ret (.inl ())))) ((det (wd x.who t.1 t.2)).bind fun y59=>(det (we x.who x.have_ y59.2.1 y59.2.2)).bind fun y61=>pure (.next (((i+1:Nat):Int),y61.2.1,y61.2.2))):=by
      show cond (decide ((i:Int) < (s.rows.length:Int))) _ _=_;rw[decide_eq_true (by omega),cond_true,zR hx,zA,zR (mem_at he hi),zA,yM (by omega)];unfold badR;rw[C.JA _ hr.1.sm,zB,zA]
      cases decide (x.who=(s.members.getD i H.zM).dev) <;> cases decide (x.have_=C.yj x.have_) <;> rfl
     rw[hbody]
     constructor
     ·intro hp;rw[hp];rfl
     ·intro hp;rw[hp,cond_false];obtain⟨nl1,m1,j1,R1⟩:=hI.join x.who;rw[j1,zB,zA];have hS:i+1<=1000/\2000*i<=1000000:=by omega
      obtain⟨nl2,m2,j2,R2⟩:=R1.hear hS x.who (c:=x.have_) ⟨by have:=hr.2.2.1;omega,by have:=hr.2.2.2;omega⟩;rw[j2,zB,zA];exact⟨(nl2,m2),rfl,_,R2.up (by have:=hr.2.2.2;omega) (Nat.le_refl _)⟩
    ·show cond (decide ((s.rows.length:Int) < (s.rows.length:Int))) _ _=_;rw[decide_eq_false (by omega)];rfl
   ·rw[decide_eq_false he,Bool.not_false,cond_true,Bool.false_and];exact⟨fun h=>(by cases h),fun _=>rfl⟩
theorem Xqa{s:THubState}(h:OkS s):Zq s=pure (UV s):=by
 unfold Zq;obtain⟨h1,h2⟩:=cFrom_eq h;have ha:decide ((s.all.length:Int)<=4096)=true:=decide_eq_true (by have:=h.alen;omega)
 cases hf:UV s with
 | true=>
  obtain⟨z,hz⟩:=h1 hf;rw[hz,zB,zA,ha];rfl
 | false=>
  rw[h2 hf,zB,zA];rfl
theorem wNa{s:THubState}(h:OkS s):∃ c,VU s=pure (c,UV s):=by
 have ml:=h.mlen;have rl:=h.rlen;unfold VU UV;rw[H.rFrom_eq (by omega) (fun x hx=>(h.mem x hx).2.1.1),zB,zA]
 cases h1:H.fromB s.epoch s.last s.members s.tries with
 | false=>exact⟨_,rfl⟩
 | true=>
  have h16:s.tries.length=16:=by
   unfold H.fromB H.head0 at h1;rw[Bool.and_eq_true,Bool.not_eq_true',Bool.or_eq_false_iff,Bool.or_eq_false_iff,Bool.not_eq_false'] at h1;have:=of_decide_eq_true h1.1.2.2;omega
  rw[G.rFrom_eq h.ctx.1 (by have:=h.alen;omega) (fun e he=>⟨(h.all e he).1,(h.all e he).2.1⟩),zB,zA]
  cases h2:G.fromB s.ctx s.all with
  | false=>exact⟨_,rfl⟩
  | true=>
   rw[Bool.true_and,Bool.true_and,Bool.not_true,cond_false,cond_false,zA,vla];unfold rowsB
   by_cases he:s.rows.length=s.members.length
   ·rw[decide_eq_true he,Bool.not_true,cond_false,Bool.true_and];have hc:=H.copy_loop (body:=UL s) s.tries h16 (fun i A=>rfl);have key:=H.loopB (body:=UM s) s.rows (fun i (t:List R25Row)=>((i:Int),t)) (fun t=>t) (badR s) ((⟨⟨0,0,[],H.z16⟩,[],⟨[],[]⟩⟩:R33Center),false)
     (fun i t=>t.length=i) (fun i x t hx hi hI=>?_) (fun t _=>?_) [] rfl
    ·show ∃ c,M.bind (loop (UL s) (0,H.z16)) _=_;rw[hc,zA];rcases key with⟨k1,k2⟩ | ⟨k1,t,k2,_⟩
     ·rw[k1];refine⟨⟨⟨0,0,[],H.z16⟩,[],⟨[],[]⟩⟩,?_⟩;show M.bind (loop _ (((0:Nat):Int),[])) _=_;rw[k2,zA];rfl
     ·rw[k1];refine⟨⟨⟨s.epoch,s.last,s.members,AR.over H.z16 s.tries⟩,t,⟨s.ctx,s.all⟩⟩,?_⟩;show M.bind (loop _ (((0:Nat):Int),[])) _=_;rw[k2,zA];rfl
    ·have hr:=h.rows x (List.mem_of_getElem? hx);have hbody:UM s ((i:Int),t)=cond (badR s i x) (pure (.done (.ret ((⟨⟨0,0,[],H.z16⟩,[],⟨[],[]⟩⟩:R33Center),false)))) (pure (.next (((i+1:Nat):Int),t++[⟨x.who,x.have_⟩]))):=by
      show cond (decide ((i:Int) < (s.rows.length:Int))) _ _=_;rw[decide_eq_true (by omega),cond_true,zR hx,zA,zR (mem_at he hi),zA,yM (by omega),zJ (by rw[List.length_nil];omega)];unfold badR;simp only[zA];rw[C.Vc _ hr.1,zB,zA,zJ (by rw[List.length_append,List.length_nil,List.length_singleton];omega)]
      cases decide (x.who=(s.members.getD i H.zM).dev) <;> cases decide (x.have_=C.yj x.have_) <;> rfl
     rw[hbody]
     constructor
     ·intro hp;rw[hp];rfl
     ·intro hp;rw[hp,cond_false];exact⟨_,rfl,by rw[List.length_append,List.length_singleton,hI]⟩
    ·show cond (decide ((s.rows.length:Int) < (s.rows.length:Int))) _ _=_;rw[decide_eq_false (by omega)];rfl
   ·rw[decide_eq_false he,Bool.not_false,cond_true,Bool.false_and];exact⟨_,rfl⟩
def yI(m:TMember):List Int:=N.xe m.dev++([m.slot]++N.xe m.try_)
def zGa(r:TRow):List Int:=JX r.have_
def encH(s:THubState):List Int:=
 N.xe s.epoch++(N.xe s.last++(N.xe s.members.length++(s.members.flatMap yI++(s.tries.flatMap N.xe++(s.rows.flatMap zGa++(JX s.ctx++XW s.all))))))
theorem wOa{α:Type}(f:α->List Int):∀ (l:List α) (t:List Int),l.foldl (fun t x=>t++f x) t=t++l.flatMap f
 | [],t=>by simp
 | x::l,t=>by rw[List.foldl_cons,wOa f l,List.flatMap_cons,List.append_assoc]
theorem Zsa{ε σ:Type}{body:σ->M (Step σ (List Int))}(l:List ε)(mk:Nat->List Int->σ)(f:ε->List Int)(B:Nat)
  (h1:∀ (i:Nat) (x:ε) (t:List Int),l[i]?=some x->i < l.length->t.length<=100000000000->body (mk i t)=pure (.next (mk (i+1) (t++f x)))/\(f x).length<=B)
  (h2:∀ t,body (mk l.length t)=pure (.done t)) (t0:List Int) (h0:t0.length+l.length*B<=100000000000):loop body (mk 0 t0)=pure (t0++l.flatMap f):=by
 rw[<- wOa];refine XP l mk (fun t x=>t++f x) (fun t=>pure t) (fun i t=>t.length<=t0.length+i*B) (fun i x t hx hi hI=>?_) (fun t _=>?_) t0 (by simp)
 ·have hm:i*B<=l.length*B:=Nat.mul_le_mul_right _ (by omega);obtain⟨h3,h4⟩:=h1 i x t hx hi (by omega);exact⟨h3,by rw[List.length_append,Nat.succ_mul];omega⟩
 ·rw[h2 t,zA]
theorem Yf{m:TMember}(h:(0<=m.dev/\m.dev<=65535)/\(0<=m.slot/\m.slot<=255)/\0<=m.try_/\m.try_<=18446744073709551615):(yI m).length<=19:=by
 have h1:=N.zk (v:=m.dev) (by omega);have h2:=N.zk (v:=m.try_) (by omega);unfold yI;simp only[List.length_append,List.length_singleton];omega
theorem Xz{c:List PT}(h:OkC c):(JX c).length<=200000:=by
 have hn:=C.Wo c;have ht:=C.Wp c;have h1:=h.2.2.1;have h2:=h.2.2.2;have hl:=D.qX (D.qY h.2.1) (by omega) (by omega);unfold JX;omega
theorem put_c{c:List PT}(h:OkC c)(row:List Int)(hr:row.length<=100000000000):vG c row=pure (row++JX c):=
 D.XNa h.1 h.2.1 (by have:=h.2.2.1;have:=h.2.2.2;omega) row hr
theorem rput_c{c:List PT}(h:OkC c)(row:List Int)(hr:row.length<=100000000000):XF row c=pure (row++JX c):=
 D.Zea h.1 h.2.1 (by have:=h.2.2.1;have:=h.2.2.2;omega) row hr
theorem wb{α:Type}(l:List α)(f:α->List Int)(B:Nat)(h:∀ x∈l,(f x).length<=B):(l.flatMap f).length<=B*l.length:=D.wb l f B h
theorem Xda{s:THubState}(h:OkS s):Uq s=pure (if UV s=true then (encH s,0) else ([],1)):=by
 have ml:=h.mlen;have tl:=h.tlen;have rl:=h.rlen;have al:=h.alen;have he:=h.epoch;have hla:=h.last;unfold Uq;rw[Xqa h,zB,zA]
 cases hf:UV s with
 | false=>rfl
 | true=>
  have e1:=N.zk (v:=s.epoch) (by omega);have e2:=N.zk (v:=s.last) (by omega);have e3:=N.zk (v:=(s.members.length:Int)) (by omega);have e4:=wb s.members yI 19 fun m hm=>Yf (h.mem m hm)
  have e5:=wb s.tries N.xe 9 fun t ht=>N.zk (by have:=h.tries t ht;omega)
  have e6:=wb s.rows zGa 200000 fun r hr=>Xz (h.rows r hr)
  have e7:=Xz h.ctx;have e8:=E.wCa (l:=s.all) (fun e he=>(h.all e he).1) (fun e he=>(h.all e he).2);rw[Bool.not_true,cond_false,if_pos rfl,N.vY [] he.1 he.2 (by simp),zB,zA,uW (by omega) (by omega),N.vY _ hla.1 (by omega) (by simp only[List.length_append,List.length_nil];omega),zB,zA,
   uW (by omega) (by omega),N.vY _ (by omega) (by omega) (by simp only[List.length_append,List.length_nil];omega),zB,zA,List.nil_append]
  have k0:=Zsa (body:=WV s) s.members (fun i t=>((i:Int),t)) yI 19 (fun i x t hx hi ht=>?_) (fun t=>?_) ((N.xe s.epoch++N.xe s.last)++N.xe s.members.length) (by simp only[List.length_append];omega)
  ·have k1:=Zsa (body:=WW s) s.tries (fun i t=>((i:Int),t)) N.xe 9 (fun i x t hx hi ht=>?_) (fun t=>?_) (((N.xe s.epoch++N.xe s.last)++N.xe s.members.length)++s.members.flatMap yI) (by simp only[List.length_append];omega)
   ·have k2:=Zsa (body:=WX s) s.rows (fun i t=>((i:Int),t)) zGa 200000 (fun i x t hx hi ht=>?_) (fun t=>?_) ((((N.xe s.epoch++N.xe s.last)++N.xe s.members.length)++s.members.flatMap yI)++s.tries.flatMap N.xe) (by simp only[List.length_append];omega)
    ·show M.bind (loop (WV s) (((0:Nat):Int),_)) _=_;rw[k0,zA];show M.bind (loop (WW s) (((0:Nat):Int),_)) _=_;rw[k1,zA];show M.bind (loop (WX s) (((0:Nat):Int),_)) _=_;rw[k2,zA,put_c h.ctx _ (by simp only[List.length_append];omega),zB,zA,E.Xea (fun e he=>(h.all e he).1) (by omega) _ (by simp only[List.length_append];omega),zB,zA,
      N.Bytes_eq _ (by unfold XW;have:=N.zk (v:=(s.all.length:Int)) (by omega);simp only[List.length_append];omega),zB,zA]
     unfold encH;simp only[List.append_assoc]
    ·have hr:=h.rows x (List.mem_of_getElem? hx);refine⟨?_,Xz hr⟩;show cond (decide ((i:Int) < (s.rows.length:Int))) _ _=_;rw[decide_eq_true (by omega),cond_true,zR hx,zA,put_c hr _ ht,zB,zA,yM (by omega)]
     rfl
    ·show cond (decide ((s.rows.length:Int) < (s.rows.length:Int))) _ _=_;rw[decide_eq_false (by omega)];rfl
   ·have hr:=h.tries x (List.mem_of_getElem? hx);refine⟨?_,N.zk (by omega)⟩;show cond (decide ((i:Int) < (s.tries.length:Int))) _ _=_;rw[decide_eq_true (by omega),cond_true,zR hx,zA,N.vY _ hr.1 hr.2 (by omega),zB,zA,yM (by omega)]
   ·show cond (decide ((s.tries.length:Int) < (s.tries.length:Int))) _ _=_;rw[decide_eq_false (by omega)];rfl
  ·have hr:=h.mem x (List.mem_of_getElem? hx);have l1:=N.zk (v:=x.dev) (by omega);refine⟨?_,Yf hr⟩;show cond (decide ((i:Int) < (s.members.length:Int))) _ _=_;rw[decide_eq_true (by omega),cond_true,zR hx,zA,uW (by omega) (by omega),N.vY _ hr.1.1 (by omega) (by omega),zB,zA,N.yva _ _ (by rw[List.length_append];omega),zB,zA,
    N.vY _ hr.2.2.1 hr.2.2.2 (by simp only[List.length_append,List.length_singleton];omega),zB,zA,yM (by omega)]
   unfold yI;simp only[List.append_assoc]
  ·show cond (decide ((s.members.length:Int) < (s.members.length:Int))) _ _=_;rw[decide_eq_false (by omega)];rfl
theorem UT{s:THubState}(h:OkS s):YTa s=pure (if UV s=true then (encH s,0) else ([],1)):=by
 have ml:=h.mlen;have tl:=h.tlen;have rl:=h.rlen;have al:=h.alen;have he:=h.epoch;have hla:=h.last;unfold YTa;obtain⟨c,hc⟩:=wNa h;rw[hc,zB,zA]
 cases hf:UV s with
 | false=>rfl
 | true=>
  have e1:=N.zk (v:=s.epoch) (by omega);have e2:=N.zk (v:=s.last) (by omega);have e3:=N.zk (v:=(s.members.length:Int)) (by omega);have e4:=wb s.members yI 19 fun m hm=>Yf (h.mem m hm)
  have e5:=wb s.tries N.xe 9 fun t ht=>N.zk (by have:=h.tries t ht;omega)
  have e6:=wb s.rows zGa 200000 fun r hr=>Xz (h.rows r hr)
  have e7:=Xz h.ctx;have e8:=E.wCa (l:=s.all) (fun e he=>(h.all e he).1) (fun e he=>(h.all e he).2);rw[Bool.not_true,cond_false,zA,decide_eq_false (show ¬ ((4096:Int) < (s.all.length:Int)) by omega),cond_false,if_pos rfl,N.yn [] he.1 he.2 (by simp),zB,zA,uW (by omega) (by omega),N.yn _ hla.1 (by omega) (by simp only[List.length_append,List.length_nil];omega),zB,zA,
   uW (by omega) (by omega),N.yn _ (by omega) (by omega) (by simp only[List.length_append,List.length_nil];omega),zB,zA,List.nil_append]
  have k0:=Zsa (body:=ji s) s.members (fun i t=>(t,(i:Int))) yI 19 (fun i x t hx hi ht=>?_) (fun t=>?_) ((N.xe s.epoch++N.xe s.last)++N.xe s.members.length) (by simp only[List.length_append];omega)
  ·have k1:=Zsa (body:=jk s) s.tries (fun i t=>(t,(i:Int))) N.xe 9 (fun i x t hx hi ht=>?_) (fun t=>?_) (((N.xe s.epoch++N.xe s.last)++N.xe s.members.length)++s.members.flatMap yI) (by simp only[List.length_append];omega)
   ·have k2:=Zsa (body:=jl s) s.rows (fun i t=>(t,(i:Int))) zGa 200000 (fun i x t hx hi ht=>?_) (fun t=>?_) ((((N.xe s.epoch++N.xe s.last)++N.xe s.members.length)++s.members.flatMap yI)++s.tries.flatMap N.xe) (by simp only[List.length_append];omega)
    ·show M.bind (loop (ji s) (_,((0:Nat):Int))) _=_;rw[k0,zA];show M.bind (loop (jk s) (_,((0:Nat):Int))) _=_;rw[k1,zA];show M.bind (loop (jl s) (_,((0:Nat):Int))) _=_;rw[k2,zA,rput_c h.ctx _ (by simp only[List.length_append];omega),zB,zA,E.Zna (fun e he=>(h.all e he).1) (by omega) _ (by simp only[List.length_append];omega),zB,zA];unfold encH;simp only[List.append_assoc]
    ·have hr:=h.rows x (List.mem_of_getElem? hx);refine⟨?_,Xz hr⟩;show cond (decide ((i:Int) < (s.rows.length:Int))) _ _=_;rw[decide_eq_true (by omega),cond_true,zR hx,zA,rput_c hr _ ht,zB,zA,yM (by omega)]
     rfl
    ·show cond (decide ((s.rows.length:Int) < (s.rows.length:Int))) _ _=_;rw[decide_eq_false (by omega)];rfl
   ·have hr:=h.tries x (List.mem_of_getElem? hx);refine⟨?_,N.zk (by omega)⟩;show cond (decide ((i:Int) < (s.tries.length:Int))) _ _=_;rw[decide_eq_true (by omega),cond_true,zR hx,zA,N.yn _ hr.1 hr.2 (by omega),zB,zA,yM (by omega)]
   ·show cond (decide ((s.tries.length:Int) < (s.tries.length:Int))) _ _=_;rw[decide_eq_false (by omega)];rfl
  ·have hr:=h.mem x (List.mem_of_getElem? hx);have l1:=N.zk (v:=x.dev) (by omega);refine⟨?_,Yf hr⟩;show cond (decide ((i:Int) < (s.members.length:Int))) _ _=_;rw[decide_eq_true (by omega),cond_true,zR hx,zA,uW (by omega) (by omega),N.yn _ hr.1.1 (by omega) (by omega),zB,zA,zA,zJ (by rw[List.length_append,List.length_singleton];omega),zA,
    N.yn _ hr.2.2.1 hr.2.2.2 (by simp only[List.length_append,List.length_singleton];omega),zB,zA,yM (by omega)]
   unfold yI;simp only[List.append_assoc]
  ·show cond (decide ((s.members.length:Int) < (s.members.length:Int))) _ _=_;rw[decide_eq_false (by omega)];rfl
structure InS(s:THubState):Prop where
 epoch:0<=s.epoch/\s.epoch<=18446744073709551615
 last:0<=s.last/\s.last<=65535
 mem:∀ m∈s.members,(0<=m.dev/\m.dev<=65535)/\(0<=m.slot/\m.slot<=255)/\0<=m.try_/\m.try_<=18446744073709551615
 tries:∀ t∈s.tries,0<=t/\t<=18446744073709551615
 rows:∀ r∈s.rows,∀ p∈r.have_,0<=p.dev/\p.dev<=65535
 ctx:∀ p∈s.ctx,0<=p.dev/\p.dev<=65535
 all:∀ e∈s.all,e.kills.length<=300/\e.text.size<=200->OkE e
def s0 : THubState:=⟨1,0,[],AR.l H.z16,[],[],[]⟩
theorem ok_s0 : OkS s0:=
 ⟨by decide,by decide,fun m (h:m∈[])=>absurd h List.not_mem_nil,by decide,fun t ht=>by
  have:t∈List.replicate 16 (0:Int):=ht;rw[List.eq_of_mem_replicate this];decide,by decide,fun m (h:m∈[])=>absurd h List.not_mem_nil,by decide,
  ⟨C.ok_nil,fun m (h:m∈[])=>absurd h List.not_mem_nil,by decide,by decide⟩,fun m (h:m∈[])=>absurd h List.not_mem_nil,by decide⟩
theorem from_s0 : UV s0=true:=by decide
theorem encI0 : N.xe 0=[0]:=by show(N.XX 0:Int)::N.be 0 (N.XX 0)=_;rw[N.XS];rfl
theorem encI1 : N.xe 1=[1,1]:=by
 have l1:N.XX 1=1:=E.len_of (k:=0) (by decide) (by decide);show(N.XX 1:Int)::N.be 1 (N.XX 1)=_;rw[l1];rfl
theorem enc_s0 : encH s0=1::1::List.replicate 20 0:=by
 have e1:JX []=[0]:=by show N.xe 0++[]=_;rw[encI0];rfl
 have e2:XW []=[0]:=by show N.xe 0++[]=_;rw[encI0];rfl
 show N.xe 1++(N.xe 0++(N.xe 0++([]++((List.replicate 16 (0:Int)).flatMap N.xe++([]++(JX []++XW []))))))=_;rw[e1,e2,encI1,encI0];have e3:(List.replicate 16 (0:Int)).flatMap N.xe=List.replicate 16 0:=by
  simp only[List.replicate,List.flatMap_cons,List.flatMap_nil,encI0];rfl
 rw[e3];rfl
theorem equal_eq(a:List Int):WY a a=pure true:=by
 unfold WY;rw[decide_eq_true rfl]
theorem works34 : Wc=pure true:=by
 unfold Wc WZ;rw[show uy=pure (1,0,H.z16,false,[]) from rfl,zB,zA,show WU=pure (true,[]) from rfl,zB,zA,show je=pure ([],true,[],true,[]) from rfl,zB,zA,zB,zA];dsimp only;have hr:=H.rep_new (e:=1) (la:=0) (A:=H.z16) (by omega) (by omega) (by omega) (by omega);have q1:=H.Epoch_eq hr;have q2:=H.Last_eq hr;have q3:=H.Members_eq (e:=1) (la:=0) (A:=H.z16) (nl:=false) (m:=[]) (l:=[]) (by omega) (List.Perm.refl _) List.Pairwise.nil (by simp);have q4:=H.Tries_eq hr;have q5:=G.Rep.new.Ctx (by omega);have q6:=G.Rep.new.All (by omega);have hs:xw 1 0 H.z16 [] false [] true [] true [] true []=pure s0:=by
  unfold xw vo;unfold H.newR at q1 q2 q4;dsimp only at q1 q2 q4;rw[zB,zA,cond_false,q1,zB,zA,q2,zB,zA,q3,zB,zA,q4,zB,zA,q5,zB,zA,q6,zB,zA,zT (r:=[]) (by rfl),zA]
  rfl
 rw[hs,zB,zA,Xda ok_s0,if_pos from_s0,enc_s0,zB,zA];have i0:idx (1::1::List.replicate 20 (0:Int)) 0=pure 1:=zR (i:=0) rfl;have i1:idx (1::1::List.replicate 20 (0:Int)) 1=pure 1:=zR (i:=1) rfl;have hl:decide (((1::1::List.replicate 20 (0:Int)).length:Int)=22)=true:=rfl;dsimp only;rw[hl,i0,zA,i1,zA,zJ (by decide)];show M.bind (M.bind (det (WY (List.replicate 20 0) (List.replicate 20 0))) _) _=_;rw[equal_eq,zB]
 rfl
open E (OkE XW Vj)
open D (JX uT)
open N (RS zU yL wG qP Sim OkB)
theorem err0{s:RS}(hO:N.Ok s){a b:List Int}(h:s.1=a++b)(ha:1<=a.length):s.2=0:=Decidable.byContradiction fun hn=>by
 have:=hO.nil hn;rw[this] at h;have:=congrArg List.length h;rw[List.length_append] at this;simp at this;omega
theorem byte_inv{s:RS}(h:(wG s).2.2=0):s.1=[(wG s).1]++(wG s).2.1/\s.2=0:=by
 unfold wG at h ⊢
 by_cases h0:s.2=0
 ·rw[if_neg (by simpa using h0)] at h ⊢
  cases hs:s.1 with
  | nil=>rw[hs] at h;exact absurd h (N.wY (by decide))
  | cons x r=>exact⟨rfl,h0⟩
 ·rw[if_pos h0] at h;exact absurd h h0
theorem uya{s:RS}(hO:N.Ok s)(h:(uT s).2.2=0):s.1=JX (uT s).1++(uT s).2.1/\s.2=0:=by
 have e:=D.XWa hO h;refine⟨e,err0 hO e ?_⟩;have:=G.WB (C.yj (uT s).1).length;unfold JX D.wWa;rw[List.length_append];omega
theorem all_inv2{s:RS}(hO:N.Ok s){m:Int}(h:(Vj m s).2.2=0):s.1=XW (Vj m s).1++(Vj m s).2.1/\s.2=0:=by
 obtain⟨_,_,_,h4,_⟩:=E.Qy hO m;have e:=(h4 h).1;refine⟨e,err0 hO e ?_⟩;have:=G.WB (Vj m s).1.length;unfold XW;rw[List.length_append];omega
theorem byte_bad{s:RS}(h:s.2≠0):(wG s).2=s:=by unfold wG;rw[if_pos h]
theorem upto_bad{m:Int}(hm:0<=m){s:RS}(h:s.2≠0):(yL m s).2=s:=by
 unfold yL;rw[N.uca h,if_neg (by omega)]
theorem byte_le(s:RS):(wG s).2.1.length<=s.1.length:=by
 unfold wG
 split
 ·simp
 ·split
  ·exact D.Qp _ _
  ·rename_i x r h;rw[h];simp
def Xra(s:RS):TMember:=⟨(yL 65535 s).1,(wG (yL 65535 s).2).1,(zU (wG (yL 65535 s).2).2).1⟩
def wXa(s:RS):RS:=(zU (wG (yL 65535 s).2).2).2
def OkMem(m:TMember):Prop:=(0<=m.dev/\m.dev<=65535)/\(0<=m.slot/\m.slot<=255)/\0<=m.try_/\m.try_<=18446744073709551615
theorem Xsa{s:RS}(h:N.Ok s):N.Ok (wXa s)/\OkMem (Xra s)/\(wXa s).1.length<=s.1.length:=by
 obtain⟨h1,a1,a2⟩:=N.vt h (m:=65535) (by omega);obtain⟨h2,b1,b2⟩:=N.Qk h1;obtain⟨h3,c1,c2⟩:=N.yv h2;exact⟨h3,⟨⟨a1,a2⟩,⟨b1,b2⟩,c1,c2⟩,Nat.le_trans (D.jR _) (Nat.le_trans (byte_le _) (D.vba _ _))⟩
theorem mem_inv{s:RS}(hO:N.Ok s)(h:(wXa s).2=0):s.1=yI (Xra s)++(wXa s).1/\s.2=0:=by
 obtain⟨o1,_⟩:=N.vt hO (m:=65535) (by omega);obtain⟨o2,_⟩:=N.Qk o1;have e1:=D.uj o2 h;have e2:=byte_inv (err0 o2 e1 (G.WB _));have e3:=D.y1a hO e2.2;refine⟨?_,err0 hO e3 (G.WB _)⟩;rw[e3,e2.1,e1];unfold yI Xra wXa;simp only[List.append_assoc]
theorem mem_bad{s:RS}(h:s.2≠0):wXa s=s:=by
 unfold wXa;rw[upto_bad (by omega) h,byte_bad h,D.vca h]
theorem Xta{m:TMember}(h:OkMem m)(r:List Int):Xra (yI m++r,0)=m/\wXa (yI m++r,0)=(r,0):=by
 have e:yI m++r=N.xe m.dev++(m.slot::(N.xe m.try_++r)):=by unfold yI;simp
 have e1:=D.upto_enc (m:=65535) h.1.1 h.1.2 (by omega) (m.slot::(N.xe m.try_++r));have e2:wG (m.slot::(N.xe m.try_++r),0)=(m.slot,(N.xe m.try_++r,0)):=by unfold wG;simp
 have e3:=D.vea h.2.2.1 h.2.2.2 r;unfold Xra wXa;rw[e,e1];dsimp only;rw[e2];dsimp only;rw[e3];exact⟨rfl,rfl⟩
def JH{α:Type}(f:RS->α×RS):Nat->List α->RS->List α×RS
 | 0,out,s=>(out,s)
 | k+1,out,s=>JH f k (out++[(f s).1]) (f s).2
def memS(s:RS):TMember×RS:=(Xra s,wXa s)
structure Rd{α:Type}(f:RS->α×RS)(en:α->List Int)(pr:α->Prop):Prop where
 ok:∀ {s},N.Ok s->N.Ok (f s).2/\pr (f s).1/\(f s).2.1.length<=s.1.length
 inv:∀ {s},N.Ok s->(f s).2.2=0->s.1=en (f s).1++(f s).2.1/\s.2=0
 enc:∀ {x},pr x->∀ r,f (en x++r,0)=(x,(r,0))
section
variable{α:Type}{f:RS->α×RS}{en:α->List Int}{ok:α->Prop}(hf:Rd f en ok)
include hf
theorem Rd.many_ok : ∀ (k:Nat) (out:List α) {s:RS},N.Ok s->(∀ x∈out,ok x)->N.Ok (JH f k out s).2/\(∀ x∈(JH f k out s).1,ok x)/\(JH f k out s).1.length=out.length+k/\(JH f k out s).2.1.length<=s.1.length
 | 0,out,s,h,ho=>⟨h,ho,rfl,Nat.le_refl _⟩
 | k+1,out,s,h,ho=>by
  obtain⟨h1,h2,h3⟩:=hf.ok h;obtain⟨g1,g2,g3,g4⟩:=Rd.many_ok k (out++[(f s).1]) h1 (fun x hx=>by
   rcases List.mem_append.1 hx with hx | hx
   ·exact ho x hx
   ·rw[List.mem_singleton.1 hx];exact h2)
  exact⟨g1,g2,by show(JH f k _ _).1.length=_;rw[g3,List.length_append,List.length_singleton];omega,Nat.le_trans g4 h3⟩
theorem Rd.many_inv : ∀ (k:Nat) (out:List α) {s:RS},N.Ok s->(JH f k out s).2.2=0->∃ l,(JH f k out s).1=out++l/\s.1=l.flatMap en++(JH f k out s).2.1/\s.2=0
 | 0,out,s,h,h0=>⟨[],by show out=_;simp,by show s.1=[]++s.1;rfl,h0⟩
 | k+1,out,s,h,h0=>by
  obtain⟨h1,_,_⟩:=hf.ok h;obtain⟨l,g1,g2,g3⟩:=Rd.many_inv k (out++[(f s).1]) h1 h0;obtain⟨e1,e2⟩:=hf.inv h g3;refine⟨(f s).1::l,?_,?_,e2⟩
  ·show(JH f k _ _).1=_;rw[g1,List.append_assoc];rfl
  ·rw[e1,g2,List.flatMap_cons,List.append_assoc];rfl
end
theorem rd_mem : Rd memS yI OkMem:=⟨fun h=>Xsa h,fun h=>mem_inv h,fun h r=>Prod.ext (Xta h r).1 (Xta h r).2⟩
def OkU(x:Int):Prop:=0<=x/\x<=18446744073709551615
theorem rd_num : Rd zU N.xe OkU:=
 ⟨fun h=>⟨(N.yv h).1,(N.yv h).2,D.jR _⟩,fun h h0=>⟨D.uj h h0,err0 h (D.uj h h0) (G.WB _)⟩,fun h r=>D.vea h.1 h.2 r⟩
def rowL : List TMember->List TRow->RS->List TRow×RS
 | [],out,s=>(out,s)
 | m::l,out,s=>rowL l (out++[⟨m.dev,(uT s).1⟩]) (uT s).2
def OkX(c:List PT)(n:Nat):Prop:=(∀ p∈c,D.OkP p)/\c.length+C.xn c<=n
theorem vma{n:Nat}:∀ (l:List TMember) (out:List TRow) {s:RS},N.Ok s->s.1.length<=n->(∀ r∈out,OkX r.have_ n)->N.Ok (rowL l out s).2/\(∀ r∈(rowL l out s).1,OkX r.have_ n)/\(rowL l out s).1.length=out.length+l.length/\(rowL l out s).2.1.length<=s.1.length
 | [],out,s,h,_,ho=>⟨h,ho,rfl,Nat.le_refl _⟩
 | m::l,out,s,h,hn,ho=>by
  obtain⟨h1,h2,_⟩:=D.ZG h;obtain⟨h4,h5⟩:=G.wMa h;obtain⟨g1,g2,g3,g4⟩:=vma (n:=n) l (out++[⟨m.dev,(uT s).1⟩]) h1 (by omega) (fun x hx=>by
   rcases List.mem_append.1 hx with hx | hx
   ·exact ho x hx
   ·rw[List.mem_singleton.1 hx];exact⟨h2,by show(uT s).1.length+C.xn (uT s).1<=n;omega⟩)
  exact⟨g1,g2,by show(rowL l _ _).1.length=_;rw[g3,List.length_append,List.length_singleton,List.length_cons];omega,Nat.le_trans g4 h5⟩
theorem uza : ∀ (l:List TMember) (out:List TRow) {s:RS},N.Ok s->(rowL l out s).2.2=0->∃ q,(rowL l out s).1=out++q/\s.1=q.flatMap zGa++(rowL l out s).2.1/\s.2=0
 | [],out,s,h,h0=>⟨[],by show out=_;simp,by show s.1=[]++s.1;rfl,h0⟩
 | m::l,out,s,h,h0=>by
  obtain⟨h1,_⟩:=D.ZG h;obtain⟨q,g1,g2,g3⟩:=uza l (out++[⟨m.dev,(uT s).1⟩]) h1 (show(rowL l (out++[⟨m.dev,(uT s).1⟩]) (uT s).2).2.2=0 from h0);obtain⟨e1,e2⟩:=uya h g3;refine⟨⟨m.dev,(uT s).1⟩::q,?_,?_,e2⟩
  ·show(rowL l _ _).1=_;rw[g1,List.append_assoc];rfl
  ·rw[e1,g2,List.flatMap_cons,List.append_assoc];rfl
def WC(s:RS):List TMember×RS:=if 16 < (zU s).1 then ([],N.vg 3 (zU s).2) else JH memS (zU s).1.toNat [] (zU s).2
def p1(b:List Int):RS:=(zU (b,0)).2
def p2(b:List Int):RS:=(yL 65535 (p1 b)).2
def p3(b:List Int):RS:=(WC (p2 b)).2
def p4(b:List Int):RS:=(JH zU 16 [] (p3 b)).2
def p5(b:List Int):RS:=(rowL (WC (p2 b)).1 [] (p4 b)).2
def p6(b:List Int):RS:=(uT (p5 b)).2
def p7(b:List Int):RS:=(Vj 4096 (p6 b)).2
def stH(b:List Int):THubState:=
 ⟨(zU (b,0)).1,(yL 65535 (p1 b)).1,(WC (p2 b)).1,(JH zU 16 [] (p3 b)).1,(rowL (WC (p2 b)).1 [] (p4 b)).1,(uT (p5 b)).1,(Vj 4096 (p6 b)).1⟩
def zH : THubState:=⟨0,0,[],[],[],[],[]⟩
def getH(b:List Int):THubState×Int:=if (qP (p7 b)).1≠0 then (zH,(qP (p7 b)).1) else if UV (stH b)=true then (stH b,0) else (zH,4)
theorem vna{s:RS}(h:N.Ok s):N.Ok (WC s).2/\(∀ x∈(WC s).1,OkMem x)/\(WC s).1.length<=16/\(WC s).2.1.length<=s.1.length:=by
 obtain⟨h1,h2,h3⟩:=N.yv h;have hl:=D.jR s;unfold WC
 split
 ·exact⟨N.Xx h1 3,fun x hx=>absurd hx List.not_mem_nil,by simp,Nat.le_trans (D.Qp _ _) hl⟩
 ·obtain⟨g1,g2,g3,g4⟩:=rd_mem.many_ok (zU s).1.toNat [] h1 (fun x hx=>absurd hx List.not_mem_nil);exact⟨g1,g2,by rw[g3,List.length_nil];omega,Nat.le_trans g4 hl⟩
theorem okC_x{c:List PT}(h:OkX c 1500):OkC c:=⟨D.XTa h.1 (by have:=h.2;omega),fun p hp=>(h.1 p hp).d1,by have:=h.2;omega,by have:=h.2;omega⟩
structure Oks(b:List Int):Prop where
 o1:N.Ok (p1 b)
 o2:N.Ok (p2 b)
 o3:N.Ok (p3 b)
 o4:N.Ok (p4 b)
 o5:N.Ok (p5 b)
 o6:N.Ok (p6 b)
 o7:N.Ok (p7 b)
theorem oks{b:List Int}(hB:OkB b):Oks b:=by
 have o1:N.Ok (p1 b):=(N.yv hB.ok).1;have o2:N.Ok (p2 b):=(N.vt o1 (by omega)).1;have o3:N.Ok (p3 b):=(vna o2).1;have o4:N.Ok (p4 b):=(rd_num.many_ok 16 [] o3 (fun x hx=>absurd hx List.not_mem_nil)).1;have o5:N.Ok (p5 b):=(vma (n:=1000000000) (WC (p2 b)).1 [] o4 o4.len (fun x hx=>absurd hx List.not_mem_nil)).1;have o6:N.Ok (p6 b):=(D.ZG o5).1;exact⟨o1,o2,o3,o4,o5,o6,E.ok_all o6 4096⟩
theorem y4a{b:List Int}(hB:OkB b)(hl:b.length<=1500):OkS (stH b):=by
 have o:=oks hB;obtain⟨_,a1,a2⟩:=N.yv hB.ok;have l1:(p1 b).1.length<=b.length:=D.jR (b,0);obtain⟨_,a3,a4⟩:=N.vt o.o1 (m:=65535) (by omega);have l2:(p2 b).1.length<=(p1 b).1.length:=D.vba _ _;obtain⟨_,b2,b3,l3⟩:=vna o.o2;obtain⟨_,c2,c3,l4⟩:=rd_num.many_ok 16 [] o.o3 (fun x hx=>absurd hx List.not_mem_nil);have l3':(p3 b).1.length<=(p2 b).1.length:=l3;have l4':(p4 b).1.length<=(p3 b).1.length:=l4;obtain⟨_,d2,d3,l5⟩:=vma (n:=1500) (WC (p2 b)).1 [] o.o4 (by omega) (fun x hx=>absurd hx List.not_mem_nil);have l5':(p5 b).1.length<=(p4 b).1.length:=l5;obtain⟨_,e2,_⟩:=D.ZG o.o5;obtain⟨e3,l6⟩:=G.wMa o.o5;have l6':(p6 b).1.length<=(p5 b).1.length:=l6;obtain⟨_,f2,_,_,_⟩:=E.Qy o.o6 4096;have f3:=G.Xpa o.o6 4096;exact⟨⟨a1,a2⟩,⟨a3,a4⟩,b2,by show(WC (p2 b)).1.length<=400;omega,c2,by show(JH zU 16 [] (p3 b)).1.length<=400;rw[c3,List.length_nil];omega,fun r hr=>okC_x (d2 r hr),by show(rowL _ _ _).1.length<=400;rw[d3,List.length_nil];omega,
  okC_x ⟨e2,by show(uT (p5 b)).1.length+C.xn (uT (p5 b)).1<=1500;omega⟩,fun e he=>⟨(f2 e he).1,by have:=G.good_kl9 (f2 e he).2;omega,by have:=G.Xoa (f2 e he).2;omega⟩,by show(Vj 4096 (p6 b)).1.length<=2000;omega⟩
theorem mem_step{ρ:Type}{s:RS}(h:N.Ok s)(K:TMember->List Int->Int->M ρ) :
  ((det (yQ 65535 s.1 s.2)).bind fun y36=>(det (yR y36.2.1 y36.2.2)).bind fun y38=>(det (zc y38.2.1 y38.2.2)).bind fun y40=>K ⟨IntKind.u16.wrap y36.1,y38.1,y40.1⟩ y40.2.1 y40.2.2)=K (Xra s) (wXa s).1 (wXa s).2:=by
 obtain⟨h1,a1,a2⟩:=N.vt h (m:=65535) (by omega);obtain⟨h2,_⟩:=N.Qk h1;rw[N.yta h,zB,zA,N.yua h1,zB,zA,N.Yq h2,zB,zA,wU16 a1 a2]
 rfl
theorem u0a{y:Int×List Int×Int}(hy:0<=y.1/\y.1<=16):∀ (k i:Nat) (out:List TMember) {s:RS},(i:Int)+k=y.1->N.Ok s->out.length<=i->loop (Yl y) ((i:Int),out,s.1,s.2)=pure (JH memS k out s)
 | 0,i,out,s,hi,h,_=>zT (by
  show cond (decide ((i:Int) < y.1)) _ _=_;rw[decide_eq_false (by omega)];rfl)
 | k+1,i,out,s,hi,h,ho=>by
  have h1:=(Xsa h).1;rw[zi (s':=(((i+1:Nat):Int),out++[Xra s],(wXa s).1,(wXa s).2)) (by
   show cond (decide ((i:Int) < y.1)) _ _=_;rw[decide_eq_true (by omega),cond_true];refine(mem_step h fun m b e=>yk ((out.length+[m].length)*16<=140737488355328) (pure (Step.next (IntKind.u64.wrap ((i:Int)+1),out++[m],b,e)))).trans ?_;rw[zJ (by rw[List.length_singleton];omega),uW (by omega) (by omega)];rfl)]
  exact u0a hy k (i+1) (out++[Xra s]) (by omega) h1 (by rw[List.length_append,List.length_singleton];omega)
theorem Zta{s:RS}(h:N.Ok s):vU s.1 s.2=pure (WC s):=by
 obtain⟨h1,h2,h3⟩:=N.yv h;unfold vU WC;rw[N.Yq h,zB,zA]
 by_cases c:16 < (zU s).1
 ·rw[decide_eq_true c,cond_true,if_pos c];show M.bind (det (zX 3 (zU s).2.1 (zU s).2.2)) _=_;rw[N.YZ,zB,zA]
 ·rw[decide_eq_false c,cond_false,if_neg c];show M.bind (loop _ (((0:Nat):Int),[],(zU s).2.1,(zU s).2.2)) _=_;rw[u0a (y:=zU s) ⟨h2,by omega⟩ (zU s).1.toNat 0 [] (by omega) h1 (by simp),zA]
theorem u1a : ∀ (k i:Nat) (out:List Int) {s:RS},i+k=16->N.Ok s->out.length<=i->loop We ((i:Int),out,s.1,s.2)=pure (JH zU k out s)
 | 0,i,out,s,hi,h,_=>zT (by
  show cond (decide ((i:Int) < 16)) _ _=_;rw[decide_eq_false (by omega)];rfl)
 | k+1,i,out,s,hi,h,ho=>by
  have h1:=(N.yv h).1;rw[zi (s':=(((i+1:Nat):Int),out++[(zU s).1],(zU s).2.1,(zU s).2.2)) (by
   show cond (decide ((i:Int) < 16)) _ _=_;rw[decide_eq_true (by omega),cond_true,N.Yq h,zB,zA,zJ (by rw[List.length_singleton];omega),yM (by omega)])]
  exact u1a k (i+1) (out++[(zU s).1]) (by omega) h1 (by rw[List.length_append,List.length_singleton];omega)
theorem qM{y:List TMember×List Int×Int}(hy:y.1.length<=16):∀ (k i:Nat) (out:List TRow) {s:RS},i+k=y.1.length->N.Ok s->out.length<=i->loop (Wf y) ((i:Int),out,s.1,s.2)=pure (rowL (y.1.drop i) out s)
 | 0,i,out,s,hi,h,_=>by
  rw[List.drop_eq_nil_of_le (by omega)];exact zT (by
   show cond (decide ((i:Int) < (y.1.length:Int))) _ _=_;rw[decide_eq_false (by omega)];rfl)
 | k+1,i,out,s,hi,h,ho=>by
  have h1:=(D.ZG h).1;have hlt:i < y.1.length:=by omega
  rw[zi (s':=(((i+1:Nat):Int),out++[⟨y.1[i].dev,(uT s).1⟩],(uT s).2.1,(uT s).2.2)) (by
   show cond (decide ((i:Int) < (y.1.length:Int))) _ _=_;rw[decide_eq_true (by omega),cond_true,zR (List.getElem?_eq_getElem hlt),zA,D.Ctx_eq h,zB,zA,zJ (by rw[List.length_singleton];omega),yM (by omega)]),List.drop_eq_getElem_cons hlt]
  exact qM hy k (i+1) (out++[⟨y.1[i].dev,(uT s).1⟩]) (by omega) h1 (by rw[List.length_append,List.length_singleton];omega)
theorem Xga{b:List Int}(hB:OkB b)(ho:(qP (p7 b)).1=0->OkS (stH b)):Ux b=pure (getH b):=by
 have o:=oks hB;obtain⟨_,a3,a4⟩:=N.vt o.o1 (m:=65535) (by omega);have hm:=(vna o.o2).2.2.1;unfold Ux;rw[N.New_eq _ hB.len,zB,zA];show M.bind (det (zc ((b,0):RS).1 ((b,0):RS).2)) _=_;rw[N.Yq hB.ok,zB,zA];show M.bind (det (yQ 65535 (p1 b).1 (p1 b).2)) _=_;rw[N.yta o.o1,zB,zA];show M.bind (det (vU (p2 b).1 (p2 b).2)) _=_;rw[Zta o.o2,zB,zA];show M.bind (loop We (((0:Nat):Int),[],(p3 b).1,(p3 b).2)) _=_;rw[u1a 16 0 [] (by omega) o.o3 (by simp),zA];show M.bind (loop (Wf (WC (p2 b))) (((0:Nat):Int),[],(p4 b).1,(p4 b).2)) _=_;rw[qM (y:=WC (p2 b)) hm _ 0 [] (Nat.zero_add _) o.o4 (by simp),zA,List.drop_zero];show M.bind (det (uc (p5 b).1 (p5 b).2)) _=_;rw[D.Ctx_eq o.o5,zB,zA];show M.bind (det (vy 4096 (p6 b).1 (p6 b).2)) _=_;rw[E.Xka o.o6 (by omega),zB,zA];show M.bind (det (wi (p7 b).1 (p7 b).2)) _=_;rw[N.End_eq,zB,zA,wU16 a3 a4];unfold getH
 by_cases h:(qP (p7 b)).1=0
 ·rw[decide_eq_true h,if_neg (by simpa using h)];show M.bind (det (Zq (stH b))) _=_;rw[Xqa (ho h),zB,zA]
  cases UV (stH b) <;> rfl
 ·rw[decide_eq_false h,if_pos h];rfl
open E (OkE XW Vj)
open D (JX uT)
open N (RS zU yL wG qP Sim OkB)
theorem ctx_stay{s:RS}(h:s.2≠0):(uT s).2=s:=by
 unfold uT;rw[N.uca h];show(if true=true then D.fin _ _ (D.Vy _ s) else _).2=s;rw[if_pos rfl,D.Wr];exact D.vZa h
theorem zAa : ∀ (l:List TMember) (out:List TRow) {s:RS},s.2≠0->(rowL l out s).2=s
 | [],_,_,_=>rfl
 | m::l,out,s,h=>by
  show(rowL l _ (uT s).2).2=s;rw[ctx_stay h];exact zAa l _ h
theorem zBa{α:Type}{f:RS->α×RS}{s:RS}(hf:(f s).2=s):∀ (k:Nat) (out:List α),(JH f k out s).2=s
 | 0,_=>rfl
 | k+1,out=>by
  show(JH f k _ (f s).2).2=s;rw[hf];exact zBa hf k _
theorem wPa(y:Int×List Int×Int×Int)(i a:Int)(out:List TMember)(B:List Int){e:Int}(he:e≠0):loop (VY y) (i,out,B,a,e)=pure (out,B,a,e):=zT (by
 show M.bind (cond (decide (i < y.1)) (pure (decide (e=0))) (pure false)) _=_;rw[decide_eq_false he]
 cases decide (i < y.1) <;> rfl)
theorem wQa{B:List Int}(hB:OkB B){y:Int×List Int×Int×Int}(hy:0<=y.1/\y.1<=16):∀ (k i:Nat) (out:List TMember) {s:RS} (a:Int),(i:Int)+k=y.1->N.Ok s->Sim B a s->out.length<=i ->
  ∃ out' a',loop (VY y) ((i:Int),out,B,a,s.2)=pure (out',B,a',(JH memS k out s).2.2)/\Sim B a' (JH memS k out s).2/\((JH memS k out s).2.2=0->out'=(JH memS k out s).1)/\out'.length<=i+k
 | 0,i,out,s,a,hi,h,hs,ho=>by
  refine⟨out,a,zT ?_,hs,fun _=>rfl,by omega⟩;show M.bind (cond (decide ((i:Int) < y.1)) _ _) _=_;rw[decide_eq_false (by omega)];rfl
 | k+1,i,out,s,a,hi,h,hs,ho=>by
  by_cases h0:s.2=0
  ·obtain⟨o1,a1,a2⟩:=N.vt h (m:=65535) (by omega);obtain⟨b1,f1,s1⟩:=N.qQ hB hs 65535;obtain⟨b2,f2,s2⟩:=N.Ql hB s1;obtain⟨b3,f3,s3⟩:=N.uS hB s2;obtain⟨out',a',g1,g2,g3,g4⟩:=wQa hB hy k (i+1) (out++[Xra s]) (s:=wXa s) b3 (by omega) (Xsa h).1 s3 (by rw[List.length_append,List.length_singleton];omega);refine⟨out',a',?_,g2,g3,by omega⟩;rw[zi (s':=(((i+1:Nat):Int),out++[Xra s],B,b3,(wXa s).2)) ?_]
   ·exact g1
   ·show M.bind (cond (decide ((i:Int) < y.1)) (pure (decide (s.2=0))) _) _=_;rw[decide_eq_true (by omega),decide_eq_true h0,cond_true,zA,cond_true,f1,zB,zA,f2,zB,zA,f3,zB,zA,zJ (by rw[List.length_nil];omega),zJ (by rw[List.length_append,List.length_nil,List.length_singleton];omega),wU16 a1 a2,uW (by omega) (by omega)]
    rfl
  ·have e:(JH memS (k+1) out s).2=s:=zBa (mem_bad h0) _ _;rw[e];exact⟨out,a,wPa y _ _ _ _ h0,hs,fun h=>absurd h h0,by omega⟩
theorem wRa{B:List Int}(hB:OkB B):∀ (k i:Nat) (out:List Int) {s:RS} (a:Int),i+k=16->Sim B a s->out.length<=i ->
  ∃ a',loop jm ((i:Int),out,B,a,s.2)=pure ((JH zU k out s).1,B,a',(JH zU k out s).2.2)/\Sim B a' (JH zU k out s).2
 | 0,i,out,s,a,hi,hs,_=>⟨a,zT (by
  show cond (decide ((i:Int) < 16)) _ _=_;rw[decide_eq_false (by omega)];rfl),hs⟩
 | k+1,i,out,s,a,hi,hs,ho=>by
  obtain⟨b1,f1,s1⟩:=N.uS hB hs;obtain⟨a',g1,g2⟩:=wRa hB k (i+1) (out++[(zU s).1]) (s:=(zU s).2) b1 (by omega) s1 (by rw[List.length_append,List.length_singleton];omega);refine⟨a',?_,g2⟩;rw[zi (s':=(((i+1:Nat):Int),out++[(zU s).1],B,b1,(zU s).2.2)) ?_]
  ·exact g1
  ·show cond (decide ((i:Int) < 16)) _ _=_;rw[decide_eq_true (by omega),cond_true,zJ (by rw[List.length_nil];omega),f1,zB,zA,zJ (by rw[List.length_append,List.length_nil,List.length_singleton];omega),yM (by omega)]
   rfl
theorem wSa{B:List Int}(hB:OkB B){l:List TMember}(hl:l.length<=16):∀ (k i:Nat) (out:List TRow) {s:RS} (a:Int),i+k=l.length->N.Ok s->Sim B a s->out.length<=i ->
  ∃ a',loop (jo l) ((i:Int),out,B,a,s.2)=pure ((rowL (l.drop i) out s).1,B,a',(rowL (l.drop i) out s).2.2)/\Sim B a' (rowL (l.drop i) out s).2
 | 0,i,out,s,a,hi,h,hs,_=>by
  rw[List.drop_eq_nil_of_le (by omega)];exact⟨a,zT (by
   show cond (decide ((i:Int) < (l.length:Int))) _ _=_;rw[decide_eq_false (by omega)];rfl),hs⟩
 | k+1,i,out,s,a,hi,h,hs,ho=>by
  have hlt:i < l.length:=by omega
  obtain⟨b1,f1,s1⟩:=D.XUa hB h hs;obtain⟨a',g1,g2⟩:=wSa hB hl k (i+1) (out++[⟨l[i].dev,(uT s).1⟩]) (s:=(uT s).2) b1 (by omega) (D.ZG h).1 s1 (by rw[List.length_append,List.length_singleton];omega);rw[List.drop_eq_getElem_cons hlt];refine⟨a',?_,g2⟩;rw[zi (s':=(((i+1:Nat):Int),out++[⟨l[i].dev,(uT s).1⟩],B,b1,(uT s).2.2)) ?_]
  ·exact g1
  ·show cond (decide ((i:Int) < (l.length:Int))) _ _=_;rw[decide_eq_true (by omega),cond_true,zJ (by rw[List.length_nil];omega),zR (List.getElem?_eq_getElem hlt),zA,f1,zB,zA,zJ (by rw[List.length_append,List.length_nil,List.length_singleton];omega),yM (by omega)]
   rfl
theorem via{b:List Int}(hB:OkB b)(ho:(qP (p7 b)).1=0->OkS (stH b)):yHa b=pure (getH b):=by
 have o:=oks hB;obtain⟨_,a3,a4⟩:=N.vt o.o1 (m:=65535) (by omega);obtain⟨b1,f1,s1⟩:=N.uS hB (Sim.start b);obtain⟨b2,f2,s2⟩:=N.qQ hB (s:=p1 b) s1 65535;obtain⟨h1,h2,h3⟩:=N.yv o.o2;obtain⟨b3,f3,s3⟩:=N.uS hB (s:=p2 b) s2;have key:∃ (y6:Int×List Int×Int×Int) (x:Int×Int) (l:List TMember) (a':Int),zL b b2 (p2 b).2=pure y6/\(cond (decide (16 < y6.1)) ((det (zI 3 y6.2.1 y6.2.2.1 y6.2.2.2)).bind fun y12=>pure (y12.1,y12.2.1,y12.2.2)) (pure (y6.2.1,y6.2.2.1,y6.2.2.2)):M (List Int×Int×Int))=pure (b,x.1,x.2) /\
   loop (VY y6) (0,[],b,x.1,x.2)=pure (l,b,a',(p3 b).2)/\Sim b a' (p3 b)/\((p3 b).2=0->l=(WC (p2 b)).1)/\l.length<=16:=by
  refine⟨((zU (p2 b)).1,b,b3,(zU (p2 b)).2.2),?_⟩;unfold p3 WC
  by_cases c:16 < (zU (p2 b)).1
  ·have hF:zI 3 b b3 (zU (p2 b)).2.2=pure (b,b3,(N.vg 3 (zU (p2 b)).2).2):=N.uR b b3 (zU (p2 b)).2 (by decide);have hb:(N.vg 3 (zU (p2 b)).2).2≠0:=N.wY (by decide);refine⟨(b3,(N.vg 3 (zU (p2 b)).2).2),[],b3,f3,?_,?_,?_,?_,by simp⟩
   ·dsimp only;rw[decide_eq_true c,cond_true,hF,zB,zA]
   ·rw[if_pos c];exact wPa _ _ _ _ _ hb
   ·rw[if_pos c];exact s3.fail (by decide)
   ·rw[if_pos c];exact fun h=>absurd h hb
  ·obtain⟨out',a',g1,g2,g3,g4⟩:=wQa hB (y:=((zU (p2 b)).1,b,b3,(zU (p2 b)).2.2)) ⟨h2,by show(zU (p2 b)).1<=16;omega⟩ (zU (p2 b)).1.toNat 0 [] (s:=(zU (p2 b)).2) b3 (by show _=(zU (p2 b)).1;omega) h1 s3 (by simp);refine⟨(b3,(zU (p2 b)).2.2),out',a',f3,?_,?_,?_,?_,by omega⟩
   ·dsimp only;rw[decide_eq_false c,cond_false]
   ·rw[if_neg c];exact g1
   ·rw[if_neg c];exact g2
   ·rw[if_neg c];exact g3
 obtain⟨y6,x,l,b4,f4,f5,f6,s4,hl,hl16⟩:=key;obtain⟨b5,f7,s5⟩:=wRa hB 16 0 [] (s:=p3 b) b4 (by omega) s4 (by simp);obtain⟨b6,f8,s6⟩:=wSa hB hl16 l.length 0 [] (s:=p4 b) b5 (by omega) o.o4 s5 (by simp);rw[List.drop_zero] at f8 s6;have hR:(rowL l [] (p4 b)).2=p5 b:=by
  by_cases c:(p3 b).2=0
  ·rw[hl c];rfl
  ·have e4:p4 b=p3 b:=zBa (D.vca c) _ _;unfold p5;rw[zAa _ _ (e4▸c),zAa _ _ (e4▸c)]
 rw[hR] at f8 s6;obtain⟨b7,f9,s7⟩:=D.XUa hB o.o5 s6;obtain⟨b8,f10,s8⟩:=E.Zpa hB o.o6 (s:=p6 b) s7 (most:=4096) (by omega);obtain⟨b9,f11⟩:=N.rEndS_eq hB o.o7 (s:=p7 b) s8;unfold yHa;rw[show zL b 0 0=_ from f1,zB,zA];show M.bind (det (zj 65535 b b1 (p1 b).2)) _=_;rw[f2,zB,zA];show M.bind (det (zL b b2 (p2 b).2)) _=_;rw[f4,zB,zA,f5,zA];dsimp only;rw[f6,zA];show M.bind (loop jm (((0:Nat):Int),[],b,b4,(p3 b).2)) _=_;rw[f7,zA];show M.bind (loop (jo l) (((0:Nat):Int),[],b,b5,(p4 b).2)) _=_;rw[f8,zA];dsimp only;rw[f9,zB,zA];show M.bind (det (ZA 4096 b b7 (p6 b).2)) _=_;rw[f10,zB,zA];show M.bind (det (ye b b8 (p7 b).2)) _=_;rw[f11,zB,zA,wU16 a3 a4];dsimp only;unfold getH
 by_cases h:(qP (p7 b)).1=0
 ·obtain⟨e7,z7⟩:=D.end_ok h;have z6:=(all_inv2 o.o6 (show(Vj 4096 (p6 b)).2.2=0 from z7)).2;have z5:=(uya o.o5 (show(uT (p5 b)).2.2=0 from z6)).2;obtain⟨_,_,_,z4⟩:=uza _ _ o.o4 (show(rowL (WC (p2 b)).1 [] (p4 b)).2.2=0 from z5);obtain⟨_,_,_,z3⟩:=rd_num.many_inv 16 [] o.o3 (show(JH zU 16 [] (p3 b)).2.2=0 from z4);rw[if_neg (by simpa using h),hl z3];obtain⟨c,hc⟩:=wNa (ho h);simp only[h,decide_true,cond_true];show M.bind (M.bind (det (VU (stH b))) _) _=_;rw[hc,zB,zA]
  cases UV (stH b) with
  | true=>rfl
  | false=>
   have hF:zI 4 b b9 0=pure (b,b9,4):=N.uR b b9 ([],0) (by decide);simp only[Bool.not_false,cond_true,hF,zB,zA]
   rfl
 ·rw[if_pos h];simp only[decide_eq_false h,cond_false,zA,Bool.not_false,cond_true]
  rfl
theorem Same_eq{s:THubState}(h:OkS s):qC s s=pure true:=by
 have ml:=h.mlen;have tl:=h.tlen;have rl:=h.rlen;have al:=h.alen;unfold qC;rw[H.Same_eq s.members (by omega),C.Y6a _ _ h.ctx.1.sm,E.rAll_eq s.all s.all (by omega) (fun e he=>by have:=(h.all e he).2.1;omega)];have k0:=vq (body:=QD s s) s.tries (fun i=>(i:Int)) (fun _ _=>true) (Ex.brk ()) (Ex.ret false) (fun i x hx hi=>by
  show cond (decide ((i:Int) < (s.tries.length:Int))) _ _=_;rw[decide_eq_true (by omega),cond_true,zR hx,zA,zA,decide_eq_true rfl,yM (by omega)];rfl) (by
  show cond (decide ((s.tries.length:Int) < (s.tries.length:Int))) _ _=_;rw[decide_eq_false (by omega)];rfl)
 have k1:=vq (body:=QE s s) s.rows (fun i=>(i:Int)) (fun _ _=>true) (Ex.brk ()) (Ex.ret false) (fun i x hx hi=>by
  show cond (decide ((i:Int) < (s.rows.length:Int))) _ _=_;rw[decide_eq_true (by omega),cond_true,zR hx,zA,zA,decide_eq_true rfl,Bool.not_true,cond_false,zA,zA,C.Y6a _ _ (h.rows x (List.mem_of_getElem? hx)).1.sm,decide_eq_true rfl,zB,zA,yM (by omega)];rfl) (by
  show cond (decide ((s.rows.length:Int) < (s.rows.length:Int))) _ _=_;rw[decide_eq_false (by omega)];rfl)
 have e:∀ {α:Type} (l:List α),(l.zipIdx.all fun _=>true)=true:=fun l=>List.all_eq_true.2 fun _ _=>rfl
 rw[e,if_pos rfl] at k0 k1;simp only[decide_true,Bool.not_true,cond_false,zB,zA];show M.bind (loop _ ((0:Nat):Int)) _=_;rw[k0,zA,ZH];show M.bind (loop _ ((0:Nat):Int)) _=_;rw[k1,zA,ZH]
theorem u2a : OkS zH:=
 ⟨by decide,by decide,fun m (h:m∈[])=>absurd h List.not_mem_nil,by decide,fun m (h:m∈[])=>absurd h List.not_mem_nil,by decide,fun m (h:m∈[])=>absurd h List.not_mem_nil,by decide,
  ⟨C.ok_nil,fun m (h:m∈[])=>absurd h List.not_mem_nil,by decide,by decide⟩,fun m (h:m∈[])=>absurd h List.not_mem_nil,by decide⟩
theorem okS_get{b:List Int}(hB:OkB b)(hl:b.length<=1500):OkS (getH b).1:=by
 unfold getH
 split
 ·exact u2a
 ·split
  ·exact y4a hB hl
  ·exact u2a
theorem hcodeGets_eq(b:List Int)(hb:∀ x∈b,0<=x/\x<=255):Zh b=pure true:=by
 unfold Zh;rw[works34,zB,zA]
 by_cases hl:1500 < b.length
 ·rw[decide_eq_true (show(1500:Int) < (b.length:Int) by omega),cond_true]
 have hB:OkB b:=⟨hb,by omega⟩
 rw[decide_eq_false (show ¬ (1500:Int) < (b.length:Int) by omega),cond_false,Xga hB (fun _=>y4a hB (by omega)),zB,zA,via hB (fun _=>y4a hB (by omega)),zB,zA,Same_eq (okS_get hB (by omega)),zB,zA,cond_true,decide_eq_true rfl,cond_true,zA]
open E (OkE XW Vj yy)
open D (JX uT)
open N (RS zU yL wG qP Sim OkB)
structure Fit(s:THubState):Prop where
 ok:OkS s
 m16:s.members.length<=16
 t16:s.tries.length=16
 who:s.members.map (·.dev)=s.rows.map (·.who)
 rows:∀ r∈s.rows,r.have_=C.yj r.have_
 ctx:s.ctx=C.yj s.ctx
 srt:E.Zn s.all
 good:∀ e∈s.all,yy e=true
end Go.Ep.M.Y
namespace Go.Ep
open Go.RowKit Go.ChangeShapes Go.WideShapes
abbrev All : Nat->Prop:=fun _=>True
mutual
def wTa{H:Type}:DataW H->Nat
 | .lit (.string bytes)=>bytes.length+1
 | .lit _=>1
 | .nil=>1
 | .ptr d=>wTa d+1
 | .slice elems spare=>uk elems+uk spare+1
 | .agg parts=>uk parts+1
 | .iface _ d=>wTa d+1
 | .map entries=>zCa entries+1
 | .held _=>1
def uk{H:Type}:List (DataW H)->Nat
 | []=>0
 | d::r=>wTa d+uk r
def zCa{H:Type}:List (Lit×DataW H)->Nat
 | []=>0
 | x::r=>Xua x+zCa r
def Xua{H:Type}:Lit×DataW H->Nat
 | (.string bytes,d)=>bytes.length+wTa d+1
 | (_,d)=>wTa d+1
end
theorem u3a{H:Type}(d:DataW H):1<=wTa d:=by
 cases d with
 | lit l=>cases l <;> simp[wTa]
 | nil=>simp[wTa]
 | ptr d=>simp[wTa]
 | slice elems spare=>simp[wTa]
 | agg parts=>simp[wTa]
 | iface t d=>simp[wTa]
 | map entries=>simp[wTa]
 | held h=>simp[wTa]
theorem voa{H:Type}(l r:List (DataW H)):uk (l++r)=uk l+uk r:=by
 induction l with
 | nil=>simp[uk]
 | cons x l ih=>simp only[List.cons_append,uk,ih];omega
def szL{α:Type}(sz:α->Nat):List α->Nat
 | []=>0
 | a::r=>sz a+szL sz r
theorem szL_app{α:Type}(sz:α->Nat)(l r:List α):szL sz (l++r)=szL sz l+szL sz r:=by
 induction l with
 | nil=>simp[szL]
 | cons x l ih=>simp only[List.cons_append,szL,ih];omega
structure Opn(P:Program)(t:TypeId)(k:Nat){α:Type}(enc:α->List DV)(ok:α->Prop)(sz:α->Nat):Prop where
 cells:P.cellsOf t=k
 op:∀ {H:Type} {en:TypeId×Value->H} {w:World} {fuel:Nat} {cs:List Value} {x:DataW H×List MemPlace},DataW.trod en P w 0 (fun _=>true) true fuel t cs=some x ->
  ∃ a,ok a/\cs.length=k/\(enc a).length=k/\(∀ (j:Nat) (y:DV) (u:Value),(enc a)[j]?=some y->cs[j]?=some u->DRd w All y u)/\sz a<=wTa x.1
section
variable{P:Program}{t:TypeId}
theorem Opn.map{k:Nat}{α β:Type}{enc:α->List DV}{enc':β->List DV}{ok:α->Prop}{ok':β->Prop}{sz:α->Nat}{sz':β->Nat}(h:Opn P t k enc ok sz)(f:α->β)(he:∀ a,ok a->enc' (f a)=enc a)(ho:∀ a,ok a->ok' (f a))(hz:∀ a,sz' (f a)<=sz a):Opn P t k enc' ok' sz':=
 ⟨h.cells,fun hx=>let ⟨a,h1,h2,h3,h4,h5⟩:=h.op hx;⟨f a,ho a h1,h2,by rw[he a h1];exact h3,by rw[he a h1];exact h4,Nat.le_trans (hz a) h5⟩⟩
theorem vpa{w:World}{y:DV}{u:Value}(h:DRd w All y u):∀ (j:Nat) (y':DV) (u':Value),[y][j]?=some y'->[u][j]?=some u'->DRd w All y' u':=by
 intro j y' u' h1 h2
 cases j with
 | zero=>simp at h1 h2;subst h1;subst h2;exact h
 | succ j=>simp at h1
def okK(k:IntKind)(n:Int):Prop:=(Lit.int k n).wf=true
theorem Opn.int{k:IntKind}(hu:P.underlying t=some (.int k))(hc:P.cellsOf t=1):Opn P t 1 (eK k) (okK k) (fun _=>1):=by
 refine⟨hc,fun {H en w fuel cs x} h=>?_⟩
 cases fuel with
 | zero=>simp[DataW.trod] at h
 | succ fuel=>
  unfold DataW.trod at h;rw[hu] at h
  split at h <;> simp_all
  case h_2 n _=>
   obtain⟨⟨h1,h2⟩,_⟩:=h;subst h1;refine⟨n,h2,rfl,?_,u3a _⟩;intro j y u h1 h3;exact vpa (.v _ rfl) j y u h1 h3
theorem okU8{n:Int}(h:okK .u8 n):0<=n/\n < 256:=by
 simp[okK,Lit.wf,IntKind.min,IntKind.max,IntKind.signed,IntKind.bits] at h;omega
theorem Opn.slice{e:TypeId}{k:Nat}{α:Type}{enc:α->List DV}{ok:α->Prop}{sz:α->Nat}(h:Opn P e k enc ok sz)(hu:P.underlying t=some (.slice e))(hc:P.cellsOf t=1)(hk:0 < k) :
  Opn P t 1 (eL enc) (fun l=>l.length<=9223372036854775807/\∀ a∈l,ok a) (fun l=>szL sz l+1):=by
 refine⟨hc,fun {H en w fuel cs x} hx=>?_⟩;rcases Deep.open_slice hu hx with⟨rfl,_⟩ | ⟨a,len,cap,m,n,D,Pl,rfl,_,hl,hm,hmm,hxD,hel⟩
 ·exact⟨[],⟨Nat.zero_le _,by simp⟩,rfl,rfl,vpa (.nil none 0 (Nat.zero_le _) (fun _=>rfl)),u3a _⟩
 simp only[if_true] at hmm;subst hmm;rw[h.cells] at hel;have hcut:∀ n0,n0<=len->∃ l:List α,l.length=n0/\(∀ a∈l,ok a)/\szL sz l<=uk ((List.range n0).map D)/\∀ (i:Nat) (b:α),l[i]?=some b->(enc b).length=k/\∀ (j:Nat) (y:DV),(enc b)[j]?=some y->∃ u,w.cell? (a.add (i*k+j))=some u/\DRd w All y u:=by
  intro n0
  induction n0 with
  | zero=>intro _;exact⟨[],rfl,by simp,by simp[szL],by simp⟩
  | succ n0 ih=>
   intro hn;obtain⟨l,h1,h2,hz,h3⟩:=ih (by omega);obtain⟨cs',hc',ht'⟩:=hel n0 (by omega);obtain⟨b,hb1,hb2,hb3,hb4,hb5⟩:=h.op ht';obtain⟨_,_,hcell⟩:=World.cells?_some hc';refine⟨l++[b],by simp[h1],?_,by rw[szL_app,List.range_succ,List.map_append,voa];simp only[szL,List.map_cons,List.map_nil,uk];simp only at hb5;omega,?_⟩
   ·intro a ha;rcases List.mem_append.1 ha with ha | ha
    ·exact h2 a ha
    ·simp at ha;subst ha;exact hb1
   ·intro i b' hi;rw[List.getElem?_append] at hi
    split at hi
    ·exact h3 i b' hi
    ·rename_i hge
     have hi0:i=n0:=by
      have:i - l.length < 1:=by simpa using (List.getElem?_eq_some_iff.1 hi).1
      omega
     subst hi0;simp[h1] at hi;subst hi;refine⟨hb3,fun j y hy=>?_⟩;have hj:j < k:=by rw[<- hb3];exact(List.getElem?_eq_some_iff.1 hy).1
     have hcj:=hcell j hj;rw[Deep.add_add] at hcj;have hu':cs'[j]?=some (cs'[j]'(by omega)):=List.getElem?_eq_getElem (by omega);exact⟨_,by rw[hcj,hu'],hb4 j y _ hy hu'⟩
 obtain⟨l,h1,h2,hz,h3⟩:=hcut len (Nat.le_refl _);refine⟨l,⟨by unfold maxLen at hm;omega,h2⟩,rfl,rfl,vpa ?_,?_⟩
 rotate_left
 ·rw[hxD];simp only[wTa];omega
 by_cases h0:len=0
 ·have:l=[]:=List.eq_nil_of_length_eq_zero (by omega);subst this;subst h0;exact .nil _ _ hm (fun e=>by cases e)
 ·-- the first cell tells that the address is a plain one
  have hl0:0 < l.length:=by omega
  obtain⟨hk0,hc0⟩:=h3 0 _ (List.getElem?_eq_getElem hl0);obtain⟨u0,hu0,_⟩:=hc0 0 _ (List.getElem?_eq_getElem (by omega:0 < (enc l[0]).length));have hspot:a.spot=none:=by simpa[Addr.add] using World.cell?_spot hu0
  obtain⟨b,off,spot⟩:=a;simp only at hspot;subst hspot;have hb:b < w.heap.size:=by
   rw[Addr.add_lit] at hu0;unfold World.cell? at hu0
   cases hh:w.heap[b]? with
   | none=>simp[hh] at hu0
   | some o=>exact(Array.getElem?_eq_some_iff.1 hh).1
  have hlen:(l.map enc).length=len:=by simp[h1]
  rw[<- hlen];refine .sl _ b off m k (fun i j=>(w.cell? ⟨b,off+(i*k+j),none⟩).getD undef) (by omega) hm trivial hb ?_ ?_ ?_
  ·intro i cs hi;rw[List.getElem?_map] at hi
   cases hx:l[i]? with
   | none=>simp[hx] at hi
   | some y=>simp[hx] at hi;subst hi;exact(h3 i y hx).1
  ·intro i j hi hj;have hil:i < l.length:=by simpa using hi
   obtain⟨e1,e2⟩:=h3 i _ (List.getElem?_eq_getElem hil);obtain⟨u,hu,_⟩:=e2 j _ (List.getElem?_eq_getElem (by omega:j < (enc l[i]).length));rw[Addr.add_lit] at hu;simp[hu]
  ·intro i cs j x hi hx;rw[List.getElem?_map] at hi
   cases hy:l[i]? with
   | none=>simp[hy] at hi
   | some y=>
    simp[hy] at hi;subst hi;obtain⟨u,hu,hd⟩:=(h3 i y hy).2 j x hx;rw[Addr.add_lit] at hu;simpa[hu] using hd
structure OpnF(P:Program)(fs:List Field)(off k:Nat){α:Type}(enc:α->List DV)(ok:α->Prop)(sz:α->Nat):Prop where
 op:∀ {H:Type} {en:TypeId×Value->H} {w:World} {n:Nat} {cs:List Value} {xs:List (DataW H×List MemPlace)},xs.length=fs.length ->
  (∀ (i:Nat) (f:Field),fs[i]?=some f->DataW.trod en P w 0 (fun _=>true) true n f.type ((cs.drop f.offset).take (P.cellsOf f.type))=xs[i]?) ->
  ∃ a,ok a/\(enc a).length=k/\(∀ (j:Nat) (y:DV) (u:Value),(enc a)[j]?=some y->cs[off+j]?=some u->DRd w All y u)/\sz a<=uk (xs.map (·.1))
theorem OpnF.nil(off:Nat):OpnF P [] off 0 (fun _:Unit=>[]) (fun _=>True) (fun _=>0):=⟨fun _ _=>⟨(),trivial,rfl,by simp,Nat.zero_le _⟩⟩
theorem OpnF.cons{f:Field}{fs:List Field}{off k1 k2:Nat}{α β:Type}{e1:α->List DV}{o1:α->Prop}{e2:β->List DV}{o2:β->Prop}{z1:α->Nat}{z2:β->Nat}(h1:Opn P f.type k1 e1 o1 z1)(ho:f.offset=off)(h2:OpnF P fs (off+k1) k2 e2 o2 z2) :
  OpnF P (f::fs) off (k1+k2) (fun p:α×β=>e1 p.1++e2 p.2) (fun p=>o1 p.1/\o2 p.2) (fun p=>z1 p.1+z2 p.2):=by
 refine⟨fun {H en w n cs xs} hlen hx=>?_⟩
 cases xs with
 | nil=>simp at hlen
 | cons x xs=>
  have hx0:=hx 0 f rfl;simp only[List.getElem?_cons_zero] at hx0;obtain⟨a,ha1,ha2,ha3,ha4,ha5⟩:=h1.op hx0;obtain⟨b,hb1,hb2,hb3,hb4⟩:=h2.op (xs:=xs) (by simpa using hlen) (fun i f' hf=>by have:=hx (i+1) f' (by simpa using hf);simpa using this);refine⟨(a,b),⟨ha1,hb1⟩,by simp[ha3,hb2],?_,by simp only[List.map_cons,uk];omega⟩;intro j y u hy hu;simp only[List.getElem?_append] at hy
  by_cases hj:j < k1
  ·rw[if_pos (by omega)] at hy;refine ha4 j y u hy ?_;rw[List.getElem?_take,h1.cells,if_pos hj,List.getElem?_drop,ho];exact hu
  ·rw[if_neg (by omega),ha3] at hy;refine hb3 (j - k1) y u hy ?_;rw[<- hu]
   congr 1
   omega
theorem Opn.arg{H:Type}{en:TypeId×Value->H}{w:World}{v:Value}{d:DataW H}{ps:List MemPlace}{α:Type}{enc:α->DV}{ok:α->Prop}{sz:α->Nat}(h:Opn P t 1 (fun a=>[enc a]) ok sz)
  (hx:DataW.Trod en P w 0 (fun _=>true) true t v d ps) (h1:v.oneCell'=true):∃ a,ok a/\Rd w g0 All (.d (enc a)) v/\sz a<=wTa d:=by
 obtain⟨fuel,hf⟩:=hx;obtain⟨a,ha,_,_,hr,hz⟩:=h.op hf;have hcs:v.cells.toList=[v]:=by cases v <;> first | rfl | (simp[Value.oneCell'] at h1;done)
 exact⟨a,ha,.d (hr 0 _ v rfl (by rw[hcs];rfl)),hz⟩
theorem jW{H:Type}{en:TypeId×Value->H}(hl:laidOutB P=true){W W':World}(hb:Below W.heap.size W W'):∀ {ts:List TypeId} {vs:List Value} {ds:List (DataW H)} {ps:List MemPlace},
  (∀ t∈ts,P.readableRec t=true/\t < P.types.size)->DataW.TrodAll en P W 0 (fun _=>true) true ts vs ds ps->(∀ x∈ps,x.block < W.heap.size)->DataW.TrodAll en P W' 0 (fun b=>decide (b < W.heap.size)) true ts vs ds ps
 | [],[],[],ps,_,h,_=>h
 | t::ts,v::vs,d::ds,ps,hr,h,hlt=>by
  obtain⟨p,q,h1,h2,rfl⟩:=h;have hrt:=hr t (by simp);exact⟨p,q,Below.trod hl hrt.1 hrt.2 h1 hb (fun x hx=>hlt x (List.mem_append.2 (.inl hx))),jW hl hb (fun t ht=>hr t (by simp[ht])) h2 (fun x hx=>hlt x (List.mem_append.2 (.inr hx))),rfl⟩
 | [],[],_::_,_,_,h,_=>h.elim
 | [],_::_,_,_,_,h,_=>h.elim
 | _::_,[],_,_,_,h,_=>h.elim
 | _::_,_::_,[],_,_,h,_=>h.elim
theorem zDa{H:Type}{en:TypeId×Value->H}{w:World}{base:Nat}{sp:Nat->Bool}{hd:Bool}:∀ {ts:List TypeId} {vs:List Value} {ds:List (DataW H)} {ps:List MemPlace},DataW.TrodAll en P w base sp hd ts vs ds ps->ds.length=ts.length
 | [],[],[],_,_=>rfl
 | _::_,_::_,_::_,_,h=>by
  obtain⟨_,_,_,h2,_⟩:=h;simp[zDa h2]
 | [],[],_::_,_,h=>h.elim
 | [],_::_,_,_,h=>h.elim
 | _::_,[],_,_,h=>h.elim
 | _::_,_::_,[],_,h=>h.elim
theorem Xva{H:Type}{en:TypeId×Value->H}{fn:Func}{s:ChangeSpec}{tb:TypeId}{W W':World}{args:Array Value}{ds gs:List (DataW H)}{before:List MemPlace}(hl:laidOutB P=true)
  (hW:DataW.Whole en P fn.params.toList s.vars false W args.toList ds gs before) (hv:s.vars=[]) (hs:∀ ds:List (DataW H),ds.length=fn.params.size->(s.fn H ds).results=[.lit (.bool true)]/\(s.fn H ds).args=ds/\(s.fn H ds).vars=[])
  (hres:fn.resultTypes=#[tb]) (htb:P.underlying tb=some .bool) (hr:∀ t∈fn.params.toList,P.readableRec t=true/\t < P.types.size) (hb:Below W.heap.size W W') :
  s.post en P fn false true false false W args (.bool true) W':=by
 have hW':=hW;obtain⟨p,q,hA,hV,hpq,hfz,hnd⟩:=hW;rw[hv] at hV;obtain⟨rfl,rfl⟩:=trodVars_none hV;simp only[List.append_nil] at hpq;subst hpq;have hlt:∀ x∈before,x.block < W.heap.size:=fun x hx=>by simpa using hW'.lt x hx
 have hlen:ds.length=fn.params.size:=by simpa using zDa hA
 obtain⟨e1,e2,e3⟩:=hs (ds++[]) (by simpa using hlen);refine⟨ds,[],before,[],before,[],hW',?_,?_,?_,hb.frame _,fun h=>by cases h⟩
 ·rw[e1,hres];exact trodAll_mk1 (shut_bool htb true)
 ·rw[e2,List.append_nil];exact jW hl hb hr hA hlt
 ·rw[e3,hv];rfl
end
end Go.Ep
namespace Go.Ep
set_option linter.unusedVariables false
def TMember.ok(x:TMember):Prop:=okK .u16 x.dev/\okK .u8 x.slot/\okK .u64 x.try_
def TMember.sz(x:TMember):Nat:=(1+(1+(1+0)))+1
def RN.ok(x:RN):Prop:=okK .u64 x.lo/\okK .u64 x.hi
def RN.sz(x:RN):Nat:=(1+(1+0))+1
def PT.ok(x:PT):Prop:=okK .u16 x.dev/\(x.runs.length<=9223372036854775807/\∀ a∈x.runs,RN.ok a)
def PT.sz(x:PT):Nat:=(1+((szL RN.sz x.runs+1)+0))+1
def TRow.ok(x:TRow):Prop:=okK .u16 x.who/\(x.have_.length<=9223372036854775807/\∀ a∈x.have_,PT.ok a)
def TRow.sz(x:TRow):Nat:=(1+((szL PT.sz x.have_+1)+0))+1
def DT.ok(x:DT):Prop:=okK .u16 x.dev/\okK .u64 x.n
def DT.sz(x:DT):Nat:=(1+(1+0))+1
def EV.ok(x:EV):Prop:=DT.ok x.dot/\okK .u8 x.kind/\okK .u64 x.cid/\okK .u8 x.field/\ByteArray.size x.text<=9223372036854775807/\(x.kills.length<=9223372036854775807/\∀ a∈x.kills,DT.ok a)
def EV.sz(x:EV):Nat:=(DT.sz x.dot+(1+(1+(1+((ByteArray.size x.text+1)+((szL DT.sz x.kills+1)+0))))))+1
def THubState.ok(x:THubState):Prop:=okK .u64 x.epoch/\okK .u16 x.last/\(x.members.length<=9223372036854775807/\∀ a∈x.members,TMember.ok a)/\(x.tries.length<=9223372036854775807/\∀ a∈x.tries,okK .u64 a)/\(x.rows.length<=9223372036854775807/\∀ a∈x.rows,TRow.ok a)/\(x.ctx.length<=9223372036854775807/\∀ a∈x.ctx,PT.ok a)/\(x.all.length<=9223372036854775807/\∀ a∈x.all,EV.ok a)
def THubState.sz(x:THubState):Nat:=(1+(1+((szL TMember.sz x.members+1)+((szL (fun _=>1) x.tries+1)+((szL TRow.sz x.rows+1)+((szL PT.sz x.ctx+1)+((szL EV.sz x.all+1)+0)))))))+1
end Go.Ep
namespace Go.Proofs
open Go.Ep
set_option maxRecDepth 100000
end Go.Proofs

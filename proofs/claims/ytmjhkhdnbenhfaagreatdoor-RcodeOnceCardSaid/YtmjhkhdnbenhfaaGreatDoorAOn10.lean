/- Side texts. -/
import Derived.Test.YtmjhkhdnbenhfaaGreatDoorAOn3
import Derived.Test.YtmjhkhdnbenhfaaGreatDoorAOn9
set_option linter.unusedVariables false
set_option linter.unusedSimpArgs false
namespace Go.Ep.M.C
open Go
def ZF(c:List PT)(k:Int):List RN:=(c.filter fun p=>decide (p.dev=k)&&decide (0 < k)).flatMap (·.runs)
theorem rawC_nil(k:Int):ZF [] k=[]:=rfl
theorem Xv(p:PT)(c:List PT)(k:Int):ZF (p::c) k=(if p.dev=k/\0 < k then p.runs else [])++ZF c k:=by
 unfold ZF;rw[List.filter_cons]
 by_cases h:p.dev=k/\0 < k
 ·simp[h.1,h.2]
 ·rw[if_neg (by simpa using h),if_neg h];rfl
theorem rawC_app(a b:List PT)(k:Int):ZF (a++b) k=ZF a k++ZF b k:=by simp[ZF,List.filter_append]
theorem zOa{c:List PT}{k:Int}(h:¬ 0 < k):ZF c k=[]:=by simp[ZF,h]
def UK(c:List PT)(k n:Int):Bool:=R.yh (ZF c k) n
def xX(c:List PT):Nat:=(c.map fun p=>p.runs.length).sum
theorem zPa(a b:List PT):xX (a++b)=xX a+xX b:=by simp[xX]
theorem Zv(c:List PT)(k:Int):(ZF c k).length<=xX c:=by
 induction c with
 | nil=>simp[ZF]
 | cons p r ih=>
  rw[Xv,List.length_append];have:xX (p::r)=p.runs.length+xX r:=by simp[xX]
  split
  ·omega
  ·simp;omega
theorem jg(ks:List Int):(ks.map fun _=>0).sum=0:=by
 induction ks with
 | nil=>rfl
 | cons k r ih=>rw[List.map_cons,List.sum_cons,ih]
theorem rawC_sum(c:List PT)(ks:List Int)(h:ks.Nodup):(ks.map fun k=>(ZF c k).length).sum<=xX c:=by
 induction c with
 | nil=>simp only[rawC_nil,List.length_nil,jg];exact Nat.zero_le _
 | cons p r ih=>
  have e:xX (p::r)=p.runs.length+xX r:=by simp[xX]
  have h1:(ks.map fun k=>(ZF (p::r) k).length).sum=(ks.map fun k=>if p.dev=k/\0 < k then p.runs.length else 0).sum+(ks.map fun k=>(ZF r k).length).sum:=by
   clear h ih
   induction ks with
   | nil=>rfl
   | cons k ks ih2=>
    simp only[List.map_cons,List.sum_cons,Xv,List.length_append] at ih2 ⊢
    by_cases hc:p.dev=k/\0 < k
    ·rw[if_pos hc,if_pos hc];omega
    ·rw[if_neg hc,if_neg hc,List.length_nil];omega
  have h2:(ks.map fun k=>if p.dev=k/\0 < k then p.runs.length else 0).sum<=p.runs.length:=by
   clear ih h1 e
   induction ks with
   | nil=>simp
   | cons k ks ih2=>
    obtain⟨n1,n2⟩:=List.nodup_cons.1 h;simp only[List.map_cons,List.sum_cons]
    by_cases hk:p.dev=k
    ·have h0:(ks.map fun k=>if p.dev=k/\0 < k then p.runs.length else 0).sum=0:=by
      have:(ks.map fun k=>if p.dev=k/\0 < k then p.runs.length else 0)=ks.map fun _=>0:=by
       refine List.map_congr_left fun q hq=>?_
       rw[if_neg];rintro⟨e,_⟩;exact n1 (by rw[<- hk,e];exact hq)
      rw[this];exact jg ks
     rw[h0]
     split <;> omega
    ·rw[if_neg (fun h=>hk h.1)];have:=ih2 n2;omega
  omega
def OrdP(l:List PT):Prop:=l.Pairwise fun x y=>x.dev < y.dev
theorem jh : ∀ {l l':List PT},OrdP l->OrdP l'->(∀ d,d∈l↔d∈l')->l=l'
 | [],[],_,_,_=>rfl
 | [],y::r,_,_,h=>absurd ((h y).2 (by simp)) (by simp)
 | x::r,[],_,_,h=>absurd ((h x).1 (by simp)) (by simp)
 | x::r,y::q,h1,h2,h=>by
  obtain⟨a1,a2⟩:=List.pairwise_cons.1 h1;obtain⟨b1,b2⟩:=List.pairwise_cons.1 h2;have e:x=y:=by
   rcases List.mem_cons.1 ((h x).1 (by simp)) with e | hx
   ·exact e
   ·rcases List.mem_cons.1 ((h y).2 (by simp)) with e | hy
    ·exact e.symm
    ·have:=a1 y hy;have:=b1 x hx;omega
  subst e
  congr 1
  refine jh a2 b2 fun d=>⟨fun hd=>?_,fun hd=>?_⟩
  ·rcases List.mem_cons.1 ((h d).1 (List.mem_cons_of_mem _ hd)) with e | hx
   ·subst e;have:=a1 d hd;omega
   ·exact hx
  ·rcases List.mem_cons.1 ((h d).2 (List.mem_cons_of_mem _ hd)) with e | hx
   ·subst e;have:=b1 d hd;omega
   ·exact hx
def yu(f:Int->List RN)(ks:List Int):List PT:=ks.filterMap fun k=>if f k=[] then none else some ⟨k,f k⟩
theorem Zw{f:Int->List RN}{ks:List Int}{p:PT}:p∈yu f ks↔p.dev∈ks/\p.runs≠[]/\p.runs=f p.dev:=by
 unfold yu;rw[List.mem_filterMap]
 constructor
 ·rintro⟨k,hk,h⟩
  split at h
  ·cases h
  ·rename_i h0;cases h;exact⟨hk,h0,rfl⟩
 ·rintro⟨h1,h2,h3⟩;refine⟨p.dev,h1,?_⟩;rw[if_neg (by rw[<- h3];exact h2),<- h3]
theorem Zx{f:Int->List RN}{ks:List Int}(h:ks.Pairwise (· < ·)):OrdP (yu f ks):=by
 unfold OrdP yu;rw[List.pairwise_filterMap];refine h.imp fun {a b} hab x hx y hy=>?_
 split at hx
 ·cases hx
 ·split at hy
  ·cases hy
  ·cases hx;cases hy;exact hab
theorem QX(f:Int->List RN)(ks:List Int):(yu f ks).length<=ks.length:=List.length_filterMap_le _ _
theorem QY(f:Int->List RN)(ks:List Int):xX (yu f ks)=(ks.map fun k=>(f k).length).sum:=by
 induction ks with
 | nil=>rfl
 | cons k ks ih=>
  have:yu f (k::ks)=(if f k=[] then [] else [⟨k,f k⟩])++yu f ks:=by
   unfold yu
   by_cases h:f k=[] <;> simp[h]
  rw[this,zPa,ih]
  by_cases h:f k=[] <;> simp[h,xX]
theorem QZ{f:Int->List RN}{ks:List Int}(h:ks.Nodup)(k:Int):ZF (yu f ks) k=if k∈ks/\0 < k then f k else []:=by
 induction ks with
 | nil=>simp[yu,ZF]
 | cons q ks ih=>
  obtain⟨n1,n2⟩:=List.nodup_cons.1 h;have e:yu f (q::ks)=(if f q=[] then [] else [⟨q,f q⟩])++yu f ks:=by
   unfold yu
   by_cases h:f q=[] <;> simp[h]
  rw[e,rawC_app,ih n2]
  by_cases hq:q=k
  ·subst hq;rw[if_neg (fun(h:q∈ks/\0 < q)=>n1 h.1),List.append_nil]
   by_cases h0:f q=[]
   ·rw[if_pos h0,h0];simp[ZF]
   ·rw[if_neg h0]
    by_cases hp:0 < q
    ·rw[if_pos ⟨List.mem_cons_self,hp⟩];simp[ZF,hp]
    ·rw[if_neg (fun h=>hp h.2)];exact zOa hp
  ·have:ZF (if f q=[] then [] else [(⟨q,f q⟩:PT)]) k=[]:=by
    by_cases h0:f q=[] <;> simp[h0,ZF,hq]
   rw[this];have hm:(k∈q::ks)↔k∈ks:=by simp[Ne.symm hq]
   simp only[hm,List.nil_append]
def Jy(l:List Int)(p:PT):List Int:=if 0 < p.dev then V.yJa l p.dev else l
def Xw(c:List PT):List Int:=c.foldl Jy []
theorem Xs(c:List PT):∀ l:List Int,l.Pairwise (· < ·)->(c.foldl Jy l).Pairwise (· < ·)/\(∀ k,k∈c.foldl Jy l↔k∈l\/∃ p∈c,p.dev=k/\0 < k)/\(c.foldl Jy l).length<=l.length+c.length:=by
 induction c with
 | nil=>intro l h;simp[h]
 | cons p r ih=>
  intro l h;rw[List.foldl_cons]
  by_cases hp:0 < p.dev
  ·have e:Jy l p=V.yJa l p.dev:=by simp[Jy,hp]
   rw[e];obtain⟨h1,h2,h3⟩:=ih _ (V.Va h p.dev);refine⟨h1,fun k=>?_,by have:=V.zKa l p.dev;simp;omega⟩;rw[h2,V.jW]
   constructor
   ·rintro((rfl | h4) | ⟨x,h4,h5⟩)
    ·exact .inr ⟨p,by simp,rfl,hp⟩
    ·exact .inl h4
    ·exact .inr ⟨x,by simp[h4],h5⟩
   ·rintro(h4 | ⟨x,h4,h5,h6⟩)
    ·exact .inl (.inr h4)
    ·rcases List.mem_cons.1 h4 with rfl | h4
     ·exact .inl (.inl h5.symm)
     ·exact .inr ⟨x,h4,h5,h6⟩
  ·have e:Jy l p=l:=by simp[Jy,hp]
   rw[e];obtain⟨h1,h2,h3⟩:=ih _ h;refine⟨h1,fun k=>?_,by simp;omega⟩;rw[h2]
   constructor
   ·rintro(h4 | ⟨x,h4,h5⟩)
    ·exact .inl h4
    ·exact .inr ⟨x,by simp[h4],h5⟩
   ·rintro(h4 | ⟨x,h4,h5,h6⟩)
    ·exact .inl h4
    ·rcases List.mem_cons.1 h4 with rfl | h4
     ·rw[h5] at hp;exact absurd h6 hp
     ·exact .inr ⟨x,h4,h5,h6⟩
theorem Zy(c:List PT):(Xw c).Pairwise (· < ·):=(Xs c [] List.Pairwise.nil).1
theorem Jz{l:List Int}(h:l.Pairwise (· < ·)):l.Nodup:=h.imp fun {a b} h e=>by omega
theorem Uf(c:List PT):(Xw c).Nodup:=Jz (Zy c)
theorem vX{c:List PT}{k:Int}:k∈Xw c↔(∃ p∈c,p.dev=k)/\0 < k:=by
 have:=(Xs c [] List.Pairwise.nil).2.1 k;unfold Xw;rw[this];simp only[List.not_mem_nil,false_or]
 constructor
 ·rintro⟨p,h1,h2,h3⟩;exact⟨⟨p,h1,h2⟩,h3⟩
 ·rintro⟨⟨p,h1,h2⟩,h3⟩;exact⟨p,h1,h2,h3⟩
theorem len_devs(c:List PT):(Xw c).length<=c.length:=by simpa[Xw] using (Xs c [] List.Pairwise.nil).2.2
theorem zQa{c:List PT}{k:Int}(h:ZF c k≠[]):k∈Xw c:=by
 rw[vX];refine Classical.byContradiction fun hn=>h ?_
 unfold ZF;have:(c.filter fun p=>decide (p.dev=k)&&decide (0 < k))=[]:=by
  rw[List.filter_eq_nil_iff];intro p hp;simp only[Bool.and_eq_true,decide_eq_true_eq];rintro⟨h1,h2⟩;exact hn ⟨⟨p,hp,h1⟩,h2⟩
 rw[this];rfl
def opC(op:Bool->Bool->Bool)(a b:List PT):List PT:=yu (fun k=>R.Ud op (ZF a k) (ZF b k)) (Xw (a++b))
def yG(c:List PT):List PT:=yu (fun k=>R.nrm (ZF c k)) (Xw c)
theorem setR_nil{op:Bool->Bool->Bool}(h0:op false false=false):R.Ud op [] []=[]:=by
 have:=R.yt op h0 [] [];exact R.Ua this.1 trivial fun n=>by rw[this.2.1];exact h0
theorem nrm_nil : R.nrm []=[]:=setR_nil rfl
theorem xda(c:List PT)(k n:Int):UK (yG c) k n=UK c k n:=by
 unfold UK yG;rw[QZ (Uf _)]
 split
 ·rw[R.XQ]
 ·rename_i h
  have e:ZF c k=[]:=Classical.byContradiction fun h2=>h ⟨zQa h2,(vX.1 (zQa h2)).2⟩
  rw[e]
structure Canon(c:List PT):Prop where
 ord:OrdP c
 nf:∀ p∈c,0 < p.dev/\p.runs≠[]/\R.Nf p.runs
theorem Qa{f:Int->List RN}{c:List PT}(h:∀ k,R.Nf (f k)):Canon (yu f (Xw c)):=⟨Zx (Zy c),fun p hp=>by
 obtain⟨h1,h2,h3⟩:=Zw.1 hp;exact⟨(vX.1 h1).2,h2,by rw[h3];exact h _⟩⟩
theorem Yn(c:List PT):Canon (yG c):=Qa fun _=>R.Xu _
theorem ji : ∀ {c:List PT},OrdP c->∀ p∈c,0 < p.dev->ZF c p.dev=p.runs
 | [],_,p,hp,_=>by simp at hp
 | q::r,h,p,hp,h0=>by
  obtain⟨h1,h2⟩:=List.pairwise_cons.1 h;rw[Xv];rcases List.mem_cons.1 hp with rfl | hp
  ·rw[if_pos ⟨rfl,h0⟩];have:ZF r p.dev=[]:=by
    unfold ZF;have:(r.filter fun x=>decide (x.dev=p.dev)&&decide (0 < p.dev))=[]:=by
     rw[List.filter_eq_nil_iff];intro x hx;have:=h1 x hx;simp;omega
    rw[this];rfl
   rw[this,List.append_nil]
  ·have:=h1 p hp;rw[if_neg (by omega),ji h2 p hp h0];rfl
theorem Canon.eq_norm{c:List PT}(h:Canon c):c=yG c:=by
 refine jh h.ord (Yn c).ord fun p=>?_
 unfold yG;rw[Zw]
 constructor
 ·intro hp;obtain⟨h1,h2,h3⟩:=h.nf p hp;exact⟨vX.2 ⟨⟨p,hp,rfl⟩,h1⟩,h2,by rw[ji h.ord p hp h1,R.jd h3]⟩
 ·rintro⟨h1,h2,h3⟩;obtain⟨⟨q,hq,hd⟩,h0⟩:=vX.1 h1;obtain⟨g1,g2,g3⟩:=h.nf q hq;have e:ZF c p.dev=q.runs:=by rw[<- hd];exact ji h.ord q hq g1
  rw[e,R.jd g3] at h3;have:p=q:=by cases p;cases q;simp_all
  rw[this];exact hq
theorem yOa{c:List PT}(h:Canon c):yG c=c:=h.eq_norm.symm
theorem Xx(c:List PT):(yG c).length<=c.length:=Nat.le_trans (QX _ _) (len_devs c)
theorem sum_le{ks:List Int}{f g:Int->Nat}(h:∀ k,f k<=g k):(ks.map f).sum<=(ks.map g).sum:=by
 induction ks with
 | nil=>simp
 | cons k r ih=>have:=h k;simp;omega
theorem sum_two(ks:List Int)(f g:Int->Nat):(ks.map fun k=>2*(f k+g k)).sum=2*((ks.map f).sum+(ks.map g).sum):=by
 induction ks with
 | nil=>rfl
 | cons k r ih=>simp;omega
theorem Xy(c:List PT):xX (yG c)<=2*xX c:=by
 unfold yG;rw[QY];refine Nat.le_trans (sum_le (g:=fun k=>2*((ZF c k).length+0)) fun k=>by have:=R.XR (ZF c k);omega) ?_;rw[sum_two];have h1:=rawC_sum c (Xw c) (Uf _);have h2:=jg (Xw c);omega
theorem get_grow(l:List (Int×List RN)):∀ (m:List (Int×List RN)) (k:Int),AL.getZ (AL.grow m l) k []=AL.getZ m k []++(l.filter fun x=>decide (x.1=k)).flatMap (·.2):=by
 induction l with
 | nil=>intro m k;simp[AL.grow]
 | cons x r ih=>
  intro m k;show AL.getZ (AL.grow (AL.set m x.1 (AL.getZ m x.1 []++x.2)) r) k []=_;rw[ih,AL.getZ_set,List.filter_cons]
  by_cases h:x.1=k
  ·subst h;simp
  ·simp[h]
theorem yPa(l:List (Int×List RN)):∀ m:List (Int×List RN),(m.map (·.1)).Nodup->((AL.grow m l).map (·.1)).Nodup:=by
 induction l with
 | nil=>intro m h;exact h
 | cons x r ih=>intro m h;exact ih _ (AL.nodup_set h _ _)
theorem len_grow(l:List (Int×List RN)):∀ m:List (Int×List RN),(AL.grow m l).length<=m.length+l.length:=by
 induction l with
 | nil=>intro m;exact Nat.le_refl _
 | cons x r ih=>
  intro m;have h1:=ih (AL.set m x.1 (AL.getZ m x.1 []++x.2));have h2:=AL.len_set m x.1 (AL.getZ m x.1 []++x.2);show(AL.grow (AL.set m x.1 (AL.getZ m x.1 []++x.2)) r).length<=_;simp only[List.length_cons];omega
theorem key_grow(l:List (Int×List RN)):∀ (m:List (Int×List RN)) (k:Int),k∈(AL.grow m l).map (·.1)->k∈m.map (·.1)\/∃ x∈l,x.1=k:=by
 induction l with
 | nil=>intro m k h;exact .inl h
 | cons x r ih=>
  intro m k h;rcases ih _ k h with h | ⟨y,hy,e⟩
  ·rw[AL.keys_set] at h
   split at h
   ·exact .inl h
   ·rcases List.mem_append.1 h with h | h
    ·exact .inl h
    ·exact .inr ⟨x,by simp,(List.mem_singleton.1 h).symm⟩
  ·exact .inr ⟨y,by simp[hy],e⟩
def vq(c:List PT):List (Int×List RN):=AL.grow [] (c.filterMap zn)
theorem vY(c:List PT)(k:Int):AL.getZ (vq c) k []=ZF c k:=by
 unfold vq;rw[get_grow];show[]++_=_;rw[List.nil_append]
 induction c with
 | nil=>rfl
 | cons p r ih=>
  rw[Xv,<- ih,List.filterMap_cons]
  by_cases h0:0 < p.dev
  ·have e:zn p=some (p.dev,p.runs):=by simp[zn,h0]
   rw[e];simp only[List.filter_cons]
   by_cases h:p.dev=k
   ·subst h;simp[h0]
   ·simp[h]
  ·have e:zn p=none:=by simp[zn,h0]
   rw[e,if_neg (by rintro⟨h1,h2⟩;omega)];rfl
theorem uO(c:List PT):((vq c).map (·.1)).Nodup:=yPa _ _ (by simp)
theorem zRa(c:List PT):(vq c).length<=c.length:=by
 have h1:=len_grow (c.filterMap zn) [];have h2:=List.length_filterMap_le zn c;unfold vq;simp at h1;omega
theorem told_pos{c:List PT}{k:Int}(h:k∈(vq c).map (·.1)):0 < k/\k∈Xw c:=by
 rcases key_grow _ _ _ h with h | ⟨x,hx,rfl⟩
 ·simp at h
 ·rw[List.mem_filterMap] at hx;obtain⟨p,hp,hx⟩:=hx;unfold zn at hx
  split at hx
  ·rename_i h0;cases hx;exact⟨h0,vX.2 ⟨⟨p,hp,rfl⟩,h0⟩⟩
  ·cases hx
theorem Zs{c:List PT}{e:Int×List RN}(h:e∈vq c):e.2=ZF c e.1/\0 < e.1/\e.1∈Xw c:=by
 have h1:=AL.mem_get (uO c) (k:=e.1) (v:=e.2) h;have h2:=vY c e.1;unfold AL.getZ at h2;rw[h1] at h2;exact⟨h2,told_pos (List.mem_map.2 ⟨e,h,rfl⟩)⟩
theorem xea{c:List PT}{k:Int}(h:ZF c k≠[]):(k,ZF c k)∈vq c:=by
 have h2:=vY c k;unfold AL.getZ at h2
 cases hg:AL.get (vq c) k with
 | none=>rw[hg] at h2;exact absurd h2.symm h
 | some v=>rw[hg] at h2;simp only[Option.getD_some] at h2;subst h2;exact AL.get_mem hg
theorem tot_told(c:List PT):((c.filterMap zn).map fun x=>x.2.length).sum<=xX c:=by
 induction c with
 | nil=>simp
 | cons p r ih=>
  have e:xX (p::r)=p.runs.length+xX r:=by simp[xX]
  rw[List.filterMap_cons]
  by_cases h0:0 < p.dev
  ·have e2:zn p=some (p.dev,p.runs):=by simp[zn,h0]
   rw[e2];simp only[List.map_cons,List.sum_cons];omega
  ·have e2:zn p=none:=by simp[zn,h0]
   rw[e2];simp only;omega
def Sm(c:List PT):Prop:=c.length<=10000000000/\xX c<=10000000000
theorem jk(c:List PT)(h:Sm c):Zg c=pure (vq c):=by
 unfold Zg;rw[zM]
 ·rfl
 ·have:=tot_told c;refine⟨by have:=h.1;omega,?_⟩;have:=h.2;omega
theorem zSa(m:List (Int×List RN))(f:Int->List RN)(ks:List Int)(hl:m.length<=1000000000000)(hr:∀ e∈m,e.2.length<=1000000000000)(hn:(m.map (·.1)).Nodup)(hs:ks.Pairwise (· < ·))(h1:∀ e∈m,R.nrm e.2≠[]->e.1∈ks/\R.nrm e.2=f e.1)(h2:∀ k∈ks,f k≠[]->∃ r,(k,r)∈m/\R.nrm r=f k):uU m=pure (yu f ks):=by
 unfold uU;have hall:∀ Q:List PT->Prop,(∀ l:List (Int×List RN),l.Perm m->Q ((l.filter fun e=>decide (R.nrm e.2≠[])).map fun e=>(⟨e.1,R.nrm e.2⟩:PT)))->(loop (ux m) ([],([]:List PT))).wp Q:=by
  intro Q hQ;refine M.loopM (body:=ux m) m (fun L (t:List PT)=>(L,t)) (fun t e=>(xZ e.2).det.bind fun v=>if 0 < v.length then xr ((t.length+1)*32<=140737488355328) (pure (t++[(⟨e.1,v⟩:PT)])) else pure t) (fun t=>pure t)
   (fun l t=>t=((l.filter fun e=>decide (R.nrm e.2≠[])).map fun e=>(⟨e.1,R.nrm e.2⟩:PT))) Q (fun L t hL=>?_) (fun l t y ht hlen hy=>?_) (fun l t hp ht=>?_) [] rfl
  ·unfold ux;show xr _ ((nxt _ _).bind _)=xr _ ((nxt _ _).bind _);refine congrArg (fun k=>xr _ ((nxt _ _).bind k)) (funext fun o=>?_)
   cases o with
   | none=>rfl
   | some i=>
    refine congrArg (fun k=>(idx m (Int.ofNat i)).bind k) (funext fun y=>?_);rw[z8a];refine congrArg (fun k=>(xZ y.2).det.bind k) (funext fun v=>?_);rw[Zq]
    by_cases h:0 < v.length
    ·rw[if_pos (by omega),if_pos h];rfl
    ·rw[if_neg (by omega),if_neg h];rfl
  ·have hle:=List.length_filter_le (fun e:Int×List RN=>decide (R.nrm e.2≠[])) l;have htl:t.length<=l.length:=by rw[ht,List.length_map];exact hle
   rw[R.WU y.2 (hr y hy),zB,zA];refine⟨if R.nrm y.2=[] then t else t++[⟨y.1,R.nrm y.2⟩],?_,?_⟩
   ·by_cases h:R.nrm y.2=[]
    ·rw[if_neg (by rw[h];simp),if_pos h]
    ·rw[if_pos (by rw[List.length_pos_iff];exact h),if_neg h,zM (by omega)]
   ·subst ht;rw[List.filter_append,List.map_append]
    by_cases h:R.nrm y.2=[] <;> simp[h]
  ·subst ht;exact hQ l hp
 refine Zd (hall _ fun l hp=>?_);show(xr _ _).wp _;have hll:=hp.length_eq;have hle:=List.length_filter_le (fun e:Int×List RN=>decide (R.nrm e.2≠[])) l;have hmem:∀ d:PT,d∈((l.filter fun e=>decide (R.nrm e.2≠[])).map fun e=>(⟨e.1,R.nrm e.2⟩:PT))↔d∈yu f ks:=by
  intro d;rw[Zw,List.mem_map]
  constructor
  ·rintro⟨e,he,rfl⟩;rw[List.mem_filter,hp.mem_iff] at he;have h0:R.nrm e.2≠[]:=by simpa using he.2
   obtain⟨h3,h4⟩:=h1 e he.1 h0;exact⟨h3,h0,h4⟩
  ·rintro⟨h3,h4,h5⟩;obtain⟨r,h6,h7⟩:=h2 d.dev h3 (by rw[<- h5];exact h4);refine⟨(d.dev,r),?_,by show(⟨d.dev,R.nrm r⟩:PT)=d;rw[h7,<- h5]⟩;rw[List.mem_filter,hp.mem_iff];refine⟨h6,?_⟩;simp only[decide_eq_true_eq];rw[h7,<- h5];exact h4
 have hnd:((l.filter fun e=>decide (R.nrm e.2≠[])).map fun e=>(⟨e.1,R.nrm e.2⟩:PT)).Pairwise (fun x y=>x.dev≠y.dev):=by
  rw[List.pairwise_map];have:l.Pairwise (fun x y=>x.1≠y.1):=by
   have:=(hp.map (·.1)).nodup_iff.2 hn;exact List.pairwise_map.1 this
  exact(this.filter _)
 refine⟨by simp only[List.length_map];omega,⟨?_,fun l' ⟨hp',hs'⟩=>?_⟩⟩
 ·refine⟨yu f ks,?_,?_⟩
  ·refine(List.perm_ext_iff_of_nodup ?_ ?_).2 fun d=>(hmem d).symm
   ·exact(Zx hs).imp fun {a b} h e=>by subst e;omega
   ·exact hnd.imp fun {a b} h e=>by subst e;exact h rfl
  ·exact(Zx hs).imp fun {a b} h=>by simp[UU];omega
 ·show l'=_;refine jh ?_ (Zx hs) fun d=>by rw[hp'.mem_iff];exact hmem d
  have hnd':=(hp'.pairwise_iff (fun {a b} h=>Ne.symm h)).2 hnd;exact(hs'.and hnd').imp fun {a b} ⟨h3,h4⟩=>by simp[UU] at h3;omega
theorem yQa(c:List PT)(h:Sm c):uU (vq c)=pure (yG c):=by
 refine zSa _ _ _ (by have:=zRa c;have:=h.1;omega) (fun e he=>?_) (uO c) (Zy c) (fun e he h0=>?_) (fun k hk h0=>?_)
 ·rw[(Zs he).1];have:=Zv c e.1;have:=h.2;omega
 ·obtain⟨h1,h2,h3⟩:=Zs he;exact⟨h3,by rw[h1]⟩
 ·exact⟨_,xea (fun e=>h0 (by rw[e];exact nrm_nil)),rfl⟩
theorem jl(c:List PT)(h:Sm c):Zh c=pure (yG c):=by
 unfold Zh;rw[jk c h,zB,zA,yQa c h,zB,zA]
theorem Runs_eq(c:List PT)(k:Int)(h:Sm c):Wy c k=pure (R.nrm (ZF c k)):=by
 unfold Wy;rw[jk c h,zB,zA,vY,R.WU _ (by have:=Zv c k;have:=h.2;omega),zB,zA]
theorem qA(c:List PT)(d:DT)(h:Sm c):WN c d=pure (UK c d.dev d.n):=by
 unfold WN;rw[Zq]
 by_cases h0:0 < d.dev
 ·rw[if_pos h0,Runs_eq c _ h,zB,zA,R.YF _ _ (by have:=R.XR (ZF c d.dev);have:=Zv c d.dev;have:=h.2;omega),zB,zA,zA,R.XQ]
  rfl
 ·rw[if_neg h0,zA];show pure false=pure (R.yh (ZF c d.dev) d.n);rw[zOa h0];rfl
def dotsC(l:List DT):List PT:=(l.filter V.yv).map fun d=>⟨d.dev,[⟨d.n,d.n⟩]⟩
def Ju(h:Int×List RN->List RN)(m:List (Int×List RN))(L:List Nat):List (Int×List RN):=m.zipIdx.map fun y=>if y.2∈L then (y.1.1,h y.1) else y.1
theorem uF{h:Int×List RN->List RN}{m:List (Int×List RN)}{L:List Nat}{i:Nat}:(Ju h m L)[i]?=(m[i]?).map fun e=>if i∈L then (e.1,h e) else e:=by
 unfold Ju;rw[List.getElem?_map,List.getElem?_zipIdx]
 cases m[i]? <;> simp
theorem jY{h:Int×List RN->List RN}{m:List (Int×List RN)}{L:List Nat}:(Ju h m L).length=m.length:=by simp[Ju]
theorem set_at{m:List (Int×List RN)}(hn:(m.map (·.1)).Nodup){i:Nat}{e:Int×List RN}(hi:m[i]?=some e)(v:List RN):AL.set m e.1 v=m.set i (e.1,v):=by
 induction m generalizing i with
 | nil=>simp at hi
 | cons x r ih=>
  obtain⟨a,u⟩:=x;simp only[List.map_cons,List.nodup_cons] at hn
  cases i with
  | zero=>simp at hi;subst hi;simp[AL.set]
  | succ i=>
   simp at hi;have:a≠e.1:=fun q=>hn.1 (by rw[q];exact List.mem_map.2 ⟨e,List.mem_of_getElem? hi,rfl⟩)
   simp only[AL.set,this,if_false,List.set_cons_succ];rw[ih hn.2 hi]
theorem Vb{h:Int×List RN->List RN}{m:List (Int×List RN)}{L:List Nat}:(Ju h m L).map (·.1)=m.map (·.1):=by
 apply List.ext_getElem?;intro i;rw[List.getElem?_map,uF,List.getElem?_map]
 cases m[i]? with
 | none=>rfl
 | some e=>simp only[Option.map_some];split <;> rfl
theorem xfa{h:Int×List RN->List RN}{m:List (Int×List RN)}(hn:(m.map (·.1)).Nodup){L:List Nat}{i:Nat}{e:Int×List RN}(hi:m[i]?=some e)(hL:i∉L):AL.set (Ju h m L) e.1 (h e)=Ju h m (L++[i]):=by
 have h1:(Ju h m L)[i]?=some e:=by rw[uF,hi];simp[hL]
 rw[set_at (by rw[Vb];exact hn) h1];apply List.ext_getElem?;intro j;rw[List.getElem?_set,uF,uF]
 by_cases hj:i=j
 ·subst hj;have hlt:i < (Ju h m L).length:=by rw[jY];exact(List.getElem?_eq_some_iff.1 hi).1
  rw[if_pos rfl,if_pos hlt,hi];simp
 ·rw[if_neg hj]
  cases m[j]? with
  | none=>rfl
  | some x=>simp[Ne.symm hj]
theorem updM_all{h:Int×List RN->List RN}{m:List (Int×List RN)}{L:List Nat}(hL:∀ i,i < m.length->i∈L):Ju h m L=m.map fun e=>(e.1,h e):=by
 apply List.ext_getElem?;intro i;rw[uF,List.getElem?_map]
 cases hi:m[i]? with
 | none=>rfl
 | some e=>simp[hL i (List.getElem?_eq_some_iff.1 hi).1]
theorem has_key{m:List (Int×List RN)}{k:Int}(h:k∈m.map (·.1)):AL.has m k=true:=by
 unfold AL.has
 cases hg:AL.get m k with
 | none=>exact absurd h (AL.get_none.1 hg)
 | some v=>rfl
theorem xga(body:List (Int×List RN)->List Nat×List (Int×List RN)->M (Step (List Nat×List (Int×List RN)) (List (Int×List RN))))(do_:List RN->List RN->M (List RN))(F:List RN->List RN->List RN)(m y:List (Int×List RN))(hn:(m.map (·.1)).Nodup)
  (hb:∀ L v,body y (L,v)=xr (∀ i∈L,i < v.length) ((nxt v.length L).bind fun o=>match o with | none=>pure (.done v) | some j=>(idx v (Int.ofNat j)).bind fun kv=>(do_ kv.2 (AL.getZ y kv.1 [])).det.bind fun r=>xr (AL.has v kv.1=true) (pure (.next (L++[j],AL.set v kv.1 r)))))
  (hdo:∀ e∈m,do_ e.2 (AL.getZ y e.1 [])=pure (F e.2 (AL.getZ y e.1 []))):loop (body y) ([],m)=pure (m.map fun e=>(e.1,F e.2 (AL.getZ y e.1 []))):=by
 refine Zd ?_;have:=loopN (body:=body y) m.length (fun L (v:List (Int×List RN))=>(L,v)) (fun L v=>v=Ju (fun e=>F e.2 (AL.getZ y e.1 [])) m L) (fun r=>r=m.map fun e=>(e.1,F e.2 (AL.getZ y e.1 []))) (fun L v hv hL hlt=>by
  have hlen:v.length=m.length:=by rw[hv];exact jY
  refine⟨fun o=>match o with | none=>pure (.done v) | some j=>(idx v (Int.ofNat j)).bind fun kv=>(do_ kv.2 (AL.getZ y kv.1 [])).det.bind fun r=>xr (AL.has v kv.1=true) (pure (.next (L++[j],AL.set v kv.1 r))),?_,?_,?_⟩
  ·rw[hb,hlen]
  ·intro hall;show v=_;rw[hv];exact updM_all hall
  ·intro i hi hiL;have hm:=List.getElem?_eq_getElem hi;have hvi:v[i]?=some m[i]:=by rw[hv,uF,hm];simp[hiL]
   refine⟨AL.set v (m[i]).1 (F (m[i]).2 (AL.getZ y (m[i]).1 [])),?_,?_⟩
   ·show(idx v (Int.ofNat i)).bind _=_;rw[show(Int.ofNat i)=(i:Int) from rfl,zd hvi,zA,hdo _ (List.getElem_mem hi),zB,zA,zM];refine has_key ?_;rw[hv,Vb];exact List.mem_map.2 ⟨m[i],List.getElem_mem hi,rfl⟩
   ·rw[hv];exact xfa hn hm hiL) m (by
  apply List.ext_getElem?;intro i;rw[uF]
  cases m[i]? <;> simp)
 exact this
theorem zTa{op:Bool->Bool->Bool}(h0:op false false=false)(a b:List RN):R.nrm (R.Ud op a b)=R.Ud op a b:=R.jd (R.yt op h0 a b).1
theorem yRa{op:Bool->Bool->Bool}(h0:op false false=false)(hr:∀ x,op false x=false)(a b:List PT)(ha:Sm a)(hb:Sm b) :
  uU ((vq a).map fun e=>(e.1,R.Ud op e.2 (AL.getZ (vq b) e.1 [])))=pure (opC op a b):=by
 have hlenR:∀ x y:List RN,(R.Ud op x y).length<=2*(x.length+y.length):=fun x y=>(R.yt op h0 x y).2.2
 refine zSa _ _ _ (by have:=zRa a;have:=ha.1;simp;omega) (fun e he=>?_) (by rw[List.map_map];exact uO a) (Zy _) (fun e he hne=>?_) (fun k hk hne=>?_)
 ·obtain⟨x,hx,rfl⟩:=List.mem_map.1 he;have h1:=hlenR x.2 (AL.getZ (vq b) x.1 []);rw[(Zs hx).1,vY] at h1;have:=Zv a x.1;have:=Zv b x.1;have:=ha.2;have:=hb.2;show(R.Ud op x.2 (AL.getZ (vq b) x.1 [])).length<=_;rw[(Zs hx).1,vY];omega
 ·obtain⟨x,hx,rfl⟩:=List.mem_map.1 he;obtain⟨h1,h2,h3⟩:=Zs hx;refine⟨?_,?_⟩
  ·show x.1∈_;obtain⟨⟨p,hp,hd⟩,_⟩:=vX.1 h3;exact vX.2 ⟨⟨p,List.mem_append_left _ hp,hd⟩,h2⟩
  ·show R.nrm (R.Ud op x.2 (AL.getZ (vq b) x.1 []))=_;rw[zTa h0,vY,h1]
 ·have hra:ZF a k≠[]:=fun e=>hne (by
   rw[e];exact R.Ua (R.yt op h0 _ _).1 trivial fun n=>by rw[(R.yt op h0 _ _).2.1];show op (R.yh [] n) _=_;exact hr _)
  refine⟨R.Ud op (ZF a k) (AL.getZ (vq b) k []),List.mem_map.2 ⟨(k,ZF a k),xea hra,rfl⟩,?_⟩;rw[zTa h0,vY]
theorem Minus_eq(a b:List PT)(ha:Sm a)(hb:Sm b):Xc a b=pure (opC (fun x y=>x&&!y) a b):=by
 unfold Xc wV;rw[jk a ha,zB,zA,jk b hb,zB,zA,xga vH ZO (R.Ud (fun x y=>x&&!y)) (vq a) (vq b) (uO a) (fun L v=>rfl) (fun e he=>?_),zA,yRa rfl (fun _=>rfl) a b ha hb,zB,zA,zB,zA];rw[(Zs he).1,vY];have:=Zv a e.1;have:=Zv b e.1;have:=ha.2;have:=hb.2;exact R.minus_eq _ _ (by omega) (by omega)
theorem xha(a b:List PT)(ha:Sm a)(hb:Sm b):Yi a b=pure (decide (opC (fun x y=>x&&!y) a b=[])):=by
 unfold Yi;rw[Minus_eq a b ha hb,zB,zA];refine congrArg pure ?_
 cases opC (fun x y=>x&&!y) a b with
 | nil=>rfl
 | cons p r=>simp;omega
theorem partEq(x y:PT):(decide (x.dev=y.dev)&&decide (x.runs=y.runs))=decide (x=y):=by
 rw[Bool.eq_iff_iff]
 cases x;cases y
 simp
theorem eqP_eq(a b:List PT)(ha:a.length<=1000000000000)(hr:∀ p∈a,p.runs.length<=1000000000000):zX a b=pure (decide (a=b)):=by
 unfold zX
 by_cases hl:(a.length:Int)=b.length
 ·simp only[hl,decide_true,Bool.not_true,cond_false];have:=YV (body:=zV a b) a (fun i=>(i:Int)) (fun i x=>decide (b[i]?=some x)) (.brk ()) (.ret false) (fun i x hx hi=>by
   have hb:i < b.length:=by omega
   have hby:=List.getElem?_eq_getElem hb;unfold zV VU;have h1:decide ((i:Int) < (a.length:Int))=true:=by simpa using hi
   simp only[h1,cond_true,zd hx,zd hby,zA,R.seq_eq x.runs _ (hr x (List.mem_of_getElem? hx)),zB,xf,partEq,wv (show i < 9223372036854775807 by omega)];rw[hby]
   by_cases hxy:x=b[i] <;> simp[hxy,eq_comm,zA]) (by unfold zV;simp)
  rw[show(0:Int)=((0:Nat):Int) from rfl,this];have hiff:(a.zipIdx.all fun y=>decide (b[y.2]?=some y.1))=decide (a=b):=by
   rw[Bool.eq_iff_iff,List.all_eq_true,decide_eq_true_eq]
   constructor
   ·intro h;apply List.ext_getElem?;intro i
    by_cases hi:i < a.length
    ·have:=h (a[i],i) (by rw[List.mem_zipIdx_iff_getElem?];exact List.getElem?_eq_getElem hi);simp only[decide_eq_true_eq] at this;rw[this,List.getElem?_eq_getElem hi]
    ·rw[List.getElem?_eq_none (by omega),List.getElem?_eq_none (by omega)]
   ·rintro rfl y hy;rw[List.mem_zipIdx_iff_getElem?] at hy;simpa using hy
  rw[hiff]
  by_cases h:a=b <;> simp[h,exk,zA]
 ·have:¬ a=b:=fun e=>hl (by rw[e])
  simp[hl,this]
theorem eq_eq(a b:List PT)(ha:a.length<=1000000000000)(hr:∀ p∈a,p.runs.length<=1000000000000):zCa a b=pure (decide (a=b)):=by
 unfold zCa;rw[eqP_eq a b ha hr,zB,zA]
theorem xia{c:List PT}:∀ p∈c,p.runs.length<=xX c:=by
 induction c with
 | nil=>intro p hp;simp at hp
 | cons q r ih=>
  intro p hp;have e:xX (q::r)=q.runs.length+xX r:=by simp[xX]
  rcases List.mem_cons.1 hp with rfl | hp
  ·omega
  ·have:=ih p hp;omega
theorem xq(c:List PT)(h:Sm c):xU c=pure (decide (c=yG c)):=by
 unfold xU;rw[jl c h,zB,zA,eq_eq _ _ (by have:=h.1;omega) (fun p hp=>by have:=xia p hp;have:=h.2;omega),zB,zA]
structure Ok(c:List PT):Prop where
 dev:∀ p∈c,0<=p.dev
 len:c.length<=1000000000
 tot:xX c<=1000000000
theorem Ok.sm{c:List PT}(h:Ok c):Sm c:=⟨by have:=h.len;omega,by have:=h.tot;omega⟩
section
variable(a b:List PT)(ha:Ok a)(hb:Ok b)
include ha hb
end
theorem xv : Ok []:=⟨fun p h=>by simp at h,by simp,by simp[xX]⟩
end Go.Ep.M.C
namespace Go.Ep.M.N
open Go
theorem wU8_mod(n:Int):IntKind.u8.wrap n=n % 256:=by simp[IntKind.wrap,IntKind.bits,IntKind.signed]
def Yx(n:Nat):Nat:=if n=0 then 0 else Yx (n / 256)+1
theorem Xz : Yx 0=0:=by rw[Yx];rfl
theorem WA{n:Nat}(h:n≠0):Yx n=Yx (n / 256)+1:=by rw[Yx,if_neg h]
theorem Vg : ∀ (k n:Nat),n < 256 ^ k->Yx n<=k
 | 0,n,h=>by
  have:n=0:=by simpa using h
  rw[this,Xz];exact Nat.le_refl _
 | k+1,n,h=>by
  by_cases h0:n=0
  ·rw[h0,Xz];omega
  ·rw[WA h0];have:=Vg k (n / 256) (by rw[Nat.pow_succ] at h;omega);omega
theorem xja : ∀ (n:Nat),n < 256 ^ Yx n:=by
 intro n
 induction n using Nat.strongRecOn with
 | _ n ih=>
  by_cases h0:n=0
  ·rw[h0,Xz];decide
  ·rw[WA h0,Nat.pow_succ];have:=ih (n / 256) (by omega);omega
theorem Qb : ∀ (k n:Nat),256 ^ k<=n->k+1<=Yx n
 | 0,n,h=>by
  have:n≠0:=by intro h0;rw[h0] at h;simp at h
  rw[WA this];omega
 | k+1,n,h=>by
  have hp:0 < 256 ^ k:=Nat.pow_pos (by decide);rw[Nat.pow_succ] at h;have:n≠0:=by omega
  rw[WA this];have:=Qb k (n / 256) (by omega);omega
theorem zUa{n:Nat}(h:n < 18446744073709551616):Yx n<=8:=Vg 8 n (by simpa using h)
theorem fdiv256(n:Nat):Int.fdiv (n:Int) (2 ^ 8)=((n / 256:Nat):Int):=by
 rw[Int.fdiv_eq_ediv_of_nonneg _ (by decide)];have:(2 ^ 8:Int)=256:=rfl;rw[this];omega
theorem len_loop : ∀ (n k:Nat),k+Yx n<=1000->loop ZB ((n:Int),(k:Int))=pure (((k+Yx n:Nat)):Int):=by
 intro n
 induction n using Nat.strongRecOn with
 | _ n ih=>
  intro k hk
  by_cases h0:n=0
  ·subst h0;rw[Xz,Nat.add_zero];exact ze (by unfold ZB;simp)
  ·rw[WA h0] at hk ⊢;rw[zt (s':=(((n / 256:Nat):Int),((k+1:Nat):Int))) (by
    unfold ZB;have:decide ((0:Int) < (n:Int))=true:=by simp;omega
    simp only[this,cond_true,fdiv256,wv (show k < 9223372036854775807 by omega)]),ih (n / 256) (by omega) (k+1) (by omega)]
   congr 2;omega
theorem Len_eq{v:Int}(h0:0<=v)(h:v<=18446744073709551615):Xd v=pure (Yx v.toNat:Int):=by
 obtain⟨n,rfl⟩:=Int.eq_ofNat_of_zero_le h0;unfold Xd;have:=len_loop n 0 (by have:=zUa (n:=n) (by omega);omega);rw[show(0:Int)=((0:Nat):Int) from rfl,this,zA,Nat.zero_add,Int.toNat_natCast]
def YG(n i:Nat):Int:=((n / 256 ^ i % 256:Nat):Int)
theorem Byte_eq(n i:Nat)(hi:i<=7):Yl (n:Int) (i:Int)=pure (YG n i):=by
 have h8:i=0\/i=1\/i=2\/i=3\/i=4\/i=5\/i=6\/i=7:=by omega
 unfold Yl YG;rw[WJ (show(0:Int)<=(i:Int) by omega) (by omega),WJ (show(0:Int)<=8*(i:Int) by omega) (by omega)];have hd:decide ((7:Int) < (i:Int))=false:=by simp;omega
 simp only[hd,cond_false];rw[zM (by omega),wU8_mod,Int.fdiv_eq_ediv_of_nonneg _ (by exact Int.le_of_lt (Int.pow_pos (by decide)))]
 congr 1
 have e:(2:Int) ^ min (8*(i:Int)).toNat 64=((256 ^ i:Nat):Int):=by
  rcases h8 with rfl | rfl | rfl | rfl | rfl | rfl | rfl | rfl <;> rfl
 rw[e];exact(by rw[Int.natCast_emod,Int.natCast_ediv];rfl)
def be(n:Nat):Nat->List Int
 | 0=>[]
 | k+1=>YG n k::be n k
theorem xka(n:Nat):∀ k,(be n k).length=k
 | 0=>rfl
 | k+1=>by simp[be,xka n k]
def qB(n:Nat):List Int:=(Yx n:Int)::be n (Yx n)
def yi(v:Int):List Int:=qB v.toNat
theorem zc{v:Int}(h:v<=18446744073709551615):(yi v).length<=9:=by
 have:=zUa (n:=v.toNat) (by omega);simp[yi,qB,xka];omega
theorem zVa(n:Nat):∀ (k:Nat) (out:List Int),k<=8->out.length+k<=100000000000000->loop (uA (n:Int)) ((k:Int) - 1,out)=pure (out++be n k)
 | 0,out,_,_=>by
  rw[be,List.append_nil];exact ze (by unfold uA;simp)
 | k+1,out,hk,ho=>by
  have e:((k+1:Nat):Int) - 1=(k:Int):=by omega
  rw[e,zt (s':=((k:Int) - 1,out++[YG n k])) (by
   unfold uA;have h1:decide ((0:Int)<=(k:Int))=true:=by simp
   simp only[h1,cond_true,Byte_eq n k (by omega),zB,zA];rw[zM (by simp;omega),VC (by omega) (by omega)]),zVa n k _ (by omega) (by simp;omega),be,List.append_assoc]
  rfl
theorem xla(b:List Int){v:Int}(h0:0<=v)(h:v<=18446744073709551615)(hb:b.length<=10000000000000):Ym b v=pure (b++yi v):=by
 have h8:=zUa (n:=v.toNat) (by omega);unfold Ym;rw[Len_eq h0 h,zB,zA,VC (show -9223372036854775808<=(b.length:Int)+(Yx v.toNat:Int) by omega) (by omega),VC (by omega) (by omega),zM (by omega),zM (by simp;omega),zM (by simp;omega),wU8 (by omega) (by omega),VC (by omega) (by omega)];have:=zVa v.toNat (Yx v.toNat) (([]:List Int)++b++[(Yx v.toNat:Int)]) h8 (by simp;omega);rw[show((v.toNat:Nat):Int)=v by omega] at this;rw[this,zA];simp[yi,qB]
def By(l:List Int):Prop:=∀ x∈l,0<=x/\x<=255
theorem By.drop{l:List Int}(h:By l)(n:Nat):By (l.drop n):=fun x hx=>h x (List.mem_of_mem_drop hx)
theorem By.take{l:List Int}(h:By l)(n:Nat):By (l.take n):=fun x hx=>h x (List.mem_of_mem_take hx)
theorem By.app{a b:List Int}(ha:By a)(hb:By b):By (a++b):=fun x hx=>(List.mem_append.1 hx).elim (ha x) (hb x)
theorem By.nil : By []:=fun x hx=>by cases hx
def Vy(l:List Int):Int:=l.foldl (fun v x=>v*256+x) 0
theorem Vh : ∀ (l:List Int) (v k:Nat),By l->v < 256 ^ k->∃ n:Nat,l.foldl (fun v x=>v*256+x) (v:Int)=(n:Int)/\n < 256 ^ (k+l.length)/\v*256 ^ l.length<=n
 | [],v,k,_,hv=>⟨v,rfl,by simpa using hv,by simp⟩
 | x::r,v,k,hb,hv=>by
  have hx:=hb x (by simp);obtain⟨n,h1,h2,h3⟩:=Vh r (v*256+x.toNat) (k+1) (fun y hy=>hb y (by simp[hy])) (by rw[Nat.pow_succ];omega);refine⟨n,?_,by rw[show k+(x::r).length=k+1+r.length by simp;omega];exact h2,?_⟩
  ·rw[List.foldl_cons,<- h1]
   congr 1;omega
  ·refine Nat.le_trans ?_ h3;rw[List.length_cons,Nat.pow_succ];have:v*(256 ^ r.length*256)=v*256*256 ^ r.length:=by rw[Nat.mul_comm (256 ^ r.length),Nat.mul_assoc]
   rw[this];exact Nat.mul_le_mul_right _ (by omega)
theorem xma{l:List Int}(h:By l)(h8:l.length<=8):0<=Vy l/\Vy l<=18446744073709551615:=by
 obtain⟨n,h1,h2,_⟩:=Vh l 0 0 h (by decide);have h3:256 ^ (0+l.length)<=256 ^ 8:=Nat.pow_le_pow_right (by decide) (by omega);have h4:(256:Nat) ^ 8=18446744073709551616:=by decide
 rw[Vy,show(0:Int)=((0:Nat):Int) from rfl,h1];omega
theorem bor_eq{v:Nat}{x:Int}(hv:v < 72057594037927936)(hx:0<=x/\x<=255):bOr .u64 (IntKind.u64.wrap ((v:Int)*2 ^ 8)) (IntKind.u64.wrap x)=(v:Int)*256+x:=by
 obtain⟨y,rfl⟩:=Int.eq_ofNat_of_zero_le hx.1;have e:((v:Int)*2 ^ 8)=((2 ^ 8*v:Nat):Int):=by
  have:(2 ^ 8:Int)=256:=rfl;have:(2 ^ 8:Nat)=256:=rfl;omega
 have hb:2 ^ 8*v+y < 18446744073709551616:=by
  have:(2 ^ 8:Nat)=256:=rfl;omega
 rw[e,WJ (by omega) (by omega),WJ (by omega) (by omega)];unfold bOr;have bv:∀ q:Nat,q < 18446744073709551616->(BitVec.ofInt IntKind.u64.bits (q:Int)).toNat=q:=fun q hq=>by
  show(BitVec.ofInt 64 (q:Int)).toNat=q;rw[BitVec.toNat_ofInt];omega
 rw[BitVec.toNat_or,bv _ (by omega),bv _ (by omega),<- Nat.two_pow_add_eq_or_of_lt (show y < 2 ^ 8 by have:(2 ^ 8:Nat)=256:=rfl;omega) v,WJ (by omega) (by omega)];have:(2 ^ 8:Nat)=256:=rfl;omega
def rdN : List Int->Int×Nat×Int
 | []=>(0,0,2)
 | n::r=>if 8 < n\/(0 < n/\r.head?=some 0) then (0,0,4) else if (r.length:Int) < n then (0,0,2) else (Vy (r.take n.toNat),n.toNat+1,0)
theorem jm(n:Int)(r:List Int):rdN (n::r)=if 8 < n\/(0 < n/\r.head?=some 0) then (0,0,4) else if (r.length:Int) < n then (0,0,2) else (Vy (r.take n.toNat),n.toNat+1,0):=rfl
theorem Vi(b:List Int)(hb:By b):(rdN b=(0,0,2)\/rdN b=(0,0,4))\/∃ n r,b=n::r/\0<=n/\n<=8/\n<=(r.length:Int)/\¬ (0 < n/\r.head?=some 0)/\rdN b=(Vy (r.take n.toNat),n.toNat+1,0):=by
 cases b with
 | nil=>exact .inl (.inl rfl)
 | cons n r=>
  have hn:=hb n (by simp);rw[jm]
  by_cases h1:8 < n\/(0 < n/\r.head?=some 0)
  ·rw[if_pos h1];exact .inl (.inr rfl)
  ·rw[if_neg h1]
   by_cases h2:(r.length:Int) < n
   ·rw[if_pos h2];exact .inl (.inl rfl)
   ·rw[if_neg h2];exact .inr ⟨n,r,rfl,hn.1,by omega,by omega,fun h=>h1 (.inr h),rfl⟩
theorem qC(b:List Int)(hb:By b):0<=(rdN b).1/\(rdN b).1<=18446744073709551615/\(rdN b).2.1<=b.length/\((rdN b).2.2=0\/(rdN b).2.2=2\/(rdN b).2.2=4):=by
 rcases Vi b hb with(h | h) | ⟨n,r,rfl,h0,h8,hl,_,h⟩
 ·rw[h];simp
 ·rw[h];simp
 ·rw[h];have:=xma (l:=r.take n.toNat) (fun x hx=>hb x (by simp[List.mem_of_mem_take hx])) (by rw[List.length_take];omega);refine⟨this.1,this.2,?_,.inl rfl⟩;simp;omega
theorem zWa{r:List Int}(h:r≠[]):∃ y,r.head?=some y/\r[0]?=some y:=by
 cases r with
 | nil=>exact absurd rfl h
 | cons y t=>exact⟨y,rfl,rfl⟩
theorem Read_eq(b:List Int)(hb:By b)(hl:b.length<=1000000000000):Wz b 0=pure ((rdN b).1,((rdN b).2.1:Int),(rdN b).2.2):=by
 unfold Wz;have h0:decide ((b.length:Int) < 0)=false:=by simp
 rw[show decide ((0:Int) < 0)=false from rfl,cond_false,h0,zA,cond_false]
 cases b with
 | nil=>rfl
 | cons n r=>
  have hn:=hb n (by simp);have hr:By r:=fun x hx=>hb x (by simp[hx])
  have h1:decide ((0:Int)=((n::r).length:Int))=false:=by simp;omega
  have hrl:r.length<=1000000000000:=by simp at hl;omega
  have e1:List.drop (Int.toNat (IntKind.i64.wrap (0+1))) (List.take (Int.toNat ((n::r).length:Int)) (n::r))=r:=by
   rw[VC (by omega) (by omega),Int.toNat_natCast,List.take_length];rfl
  rw[h1,cond_false,Wh (y:=n) (by omega) rfl,zA,zM (by rw[VC (by omega) (by omega)];simp;omega),e1,VC (n:=n) (by omega) (by omega)];rw[jm];have hc:(cond (decide (8 < n)) (pure true) (cond (decide (0 < n)) (cond (decide ((0:Int) < (r.length:Int))) ((idx r 0).bind fun x14=>pure (decide (x14=0))) (pure false)) (pure false)):M Bool)=pure (decide (8 < n\/(0 < n/\r.head?=some 0))):=by
   by_cases c1:8 < n
   ·simp[c1]
   ·by_cases c2:0 < n
    ·by_cases c3:r=[]
     ·subst c3;simp[c1,c2]
     ·obtain⟨y,h5,h6⟩:=zWa c3;have c4:0 < r.length:=List.length_pos_iff.2 c3;simp[c1,c2,c4,Wh (l:=r) (i:=0) (y:=y) (by omega) h6,h5,zA]
    ·simp[c1,c2]
  rw[hc,zA]
  by_cases c1:8 < n\/(0 < n/\r.head?=some 0)
  ·rw[decide_eq_true c1,cond_true,if_pos c1];rfl
  ·rw[decide_eq_false c1,cond_false,if_neg c1]
   by_cases c2:(r.length:Int) < n
   ·rw[decide_eq_true c2,cond_true,if_pos c2];rfl
   ·rw[decide_eq_false c2,cond_false,if_neg c2,zM (by omega)];have e2:List.drop (Int.toNat 0) (List.take (Int.toNat (IntKind.i64.wrap n)) (List.drop (Int.toNat (IntKind.i64.wrap (0+1))) (List.take (Int.toNat ((n::r).length:Int)) (n::r))))=r.take n.toNat:=by
     rw[e1,VC (by omega) (by omega)];rfl
    have hlen:(r.take n.toNat).length=n.toNat:=by rw[List.length_take];omega
    have hloop:=QQ (body:=uY n 0 (n::r)) (r.take n.toNat) (fun i t=>(t,(i:Int))) (fun v x=>v*256+x) (fun t=>pure t) (fun i t=>∃ m:Nat,t=(m:Int)/\m < 256 ^ i) (fun i x t hx hi hI=>by
     obtain⟨m,rfl,hm⟩:=hI;have hxr:=(hr.take n.toNat) x (List.mem_of_getElem? hx);have hm7:m < 72057594037927936:=by
      have h3:256 ^ i<=256 ^ 7:=Nat.pow_le_pow_right (by decide) (by omega);have h4:(256:Nat) ^ 7=72057594037927936:=by decide
      omega
     refine⟨?_,m*256+x.toNat,by omega,by rw[Nat.pow_succ];omega⟩;unfold uY;have hd:decide ((i:Int) < ((r.take n.toNat).length:Int))=true:=by simpa using hi
     simp only[e2,hd,cond_true,zd hx,zA,bor_eq hm7 hxr,wv (show i < 9223372036854775807 by omega)]) (fun t _=>by
     unfold uY;have hd:decide (((r.take n.toNat).length:Int) < ((r.take n.toNat).length:Int))=false:=by simp
     simp only[e2,hd,cond_false,zA]) 0 ⟨0,rfl,by decide⟩
    have hloop':loop (uY n 0 (n::r)) (0,0)=pure (Vy (r.take n.toNat)):=hloop;rw[hloop',zA,VC (n:=0+1) (by omega) (by omega),VC (by omega) (by omega)];have:((0:Int)+1+n)=((n.toNat+1:Nat):Int):=by omega
    rw[this]
theorem be_val(n:Nat):∀ k,Vy (be n k)=((n % 256 ^ k:Nat):Int):=by
 intro k;have key:∀ (k v:Nat),(be n k).foldl (fun v x=>v*256+x) (v:Int)=((v*256 ^ k+n % 256 ^ k:Nat):Int):=by
  intro k
  induction k with
  | zero=>intro v;simp[be,Nat.mod_one]
  | succ k ih=>
   intro v;rw[be,List.foldl_cons,show(v:Int)*256+YG n k=((v*256+n / 256 ^ k % 256:Nat):Int) by unfold YG;omega,ih]
   congr 1
   have h1:n % 256 ^ (k+1)=256 ^ k*(n / 256 ^ k % 256)+n % 256 ^ k:=by
    rw[Nat.pow_succ,Nat.mod_mul];omega
   rw[h1,Nat.add_mul,Nat.pow_succ,Nat.mul_comm (256 ^ k) (n / 256 ^ k % 256),Nat.add_assoc]
   congr 1
   rw[Nat.mul_comm (256 ^ k) 256,Nat.mul_assoc]
 have:=key k 0;simpa[Vy] using this
theorem be_head{n:Nat}(h:Yx n≠0):(be n (Yx n)).head?≠some 0:=by
 obtain⟨k,hk⟩:∃ k,Yx n=k+1:=⟨Yx n - 1,by omega⟩
 rw[hk,be,List.head?_cons];intro e;have h1:YG n k=0:=by injection e
 unfold YG at h1;have h2:=xja n;rw[hk,Nat.pow_succ] at h2;have hp:0 < 256 ^ k:=Nat.pow_pos (by decide);have h4:n / 256 ^ k < 256:=(Nat.div_lt_iff_lt_mul hp).2 (by rw[Nat.mul_comm];exact h2);have h3:n / 256 ^ k=0:=by
  generalize n / 256 ^ k=q at h1 h4 ⊢
  omega
 have h5:n < 256 ^ k:=by
  rcases Nat.div_eq_zero_iff.1 h3 with h | h
  ·omega
  ·exact h
 have:=Vg k n h5;omega
theorem rdN_enc{v:Int}(h0:0<=v)(h:v<=18446744073709551615)(r:List Int):rdN (yi v++r)=(v,(yi v).length,0):=by
 have h8:=zUa (n:=v.toNat) (by omega);have hl:=xka v.toNat (Yx v.toNat);have hv:=be_val v.toNat (Yx v.toNat);rw[Nat.mod_eq_of_lt (xja _)] at hv;show rdN ((Yx v.toNat:Int)::(be v.toNat (Yx v.toNat)++r))=_;rw[jm,if_neg,if_neg (by rw[List.length_append];omega)]
 ·rw[Int.toNat_natCast,List.take_append_of_le_length (by omega),List.take_of_length_le (by omega),hv];simp[yi,qB,hl];omega
 ·intro hc;rcases hc with hc | ⟨hc1,hc2⟩
  ·omega
  ·have hne:Yx v.toNat≠0:=by omega
   refine be_head hne ?_;rw[List.head?_append] at hc2;obtain⟨y,h5,_⟩:=zWa (r:=be v.toNat (Yx v.toNat)) (by intro e;rw[e] at hl;simp at hl;omega);rw[h5] at hc2 ⊢;exact hc2
theorem be_of : ∀ (l:List Int),By l->∀ n:Nat,Vy l=(n:Int)->be n l.length=l:=by
 intro l;have key:∀ (m:Nat) (l:List Int),l.length=m->By l->∀ n:Nat,Vy l=(n:Int)->be n l.length=l:=by
  intro m
  induction m with
  | zero=>intro l hl _ n _;have:=List.eq_nil_of_length_eq_zero hl;subst this;rfl
  | succ m ih=>
   intro l hl hb n hn
   cases l with
   | nil=>simp at hl
   | cons x r=>
    have hx:=hb x (by simp);have hr:By r:=fun y hy=>hb y (by simp[hy])
    obtain⟨q,h1,h2,h3⟩:=Vh r 0 0 hr (by decide);obtain⟨q2,h4,h5,h6⟩:=Vh r x.toNat 1 hr (by omega);have hq:Vy r=(q:Int):=h1;have hq2:Vy (x::r)=(q2:Int):=by
     rw[Vy,List.foldl_cons,<- h4];congr 1;omega
    have hrl:r.length=m:=by simpa using hl
    have e:q2=n:=by omega
    subst e;have hlin:∀ (l:List Int) (v:Int),l.foldl (fun v x=>v*256+x) v=v*256 ^ l.length+Vy l:=by
     intro l
     induction l with
     | nil=>intro v;simp[Vy]
     | cons y t iht=>
      intro v;have e:Vy (y::t)=y*256 ^ t.length+Vy t:=by rw[Vy,List.foldl_cons,iht];simp
      rw[List.foldl_cons,iht,e,List.length_cons,Int.pow_succ,Int.add_mul,Int.mul_assoc,Int.mul_comm 256,Int.add_assoc]
    have hsum:(q2:Int)=x*256 ^ r.length+(q:Int):=by
     rw[<- hq,<- hlin r x,<- hq2,Vy,List.foldl_cons];congr 1;omega
    have hqlt:q < 256 ^ r.length:=by simpa using h2
    have hnat:q2=x.toNat*256 ^ r.length+q:=by
     have:((q2:Nat):Int)=((x.toNat*256 ^ r.length+q:Nat):Int):=by
      rw[hsum,Int.natCast_add,Int.natCast_mul,Int.natCast_pow,Int.toNat_of_nonneg hx.1];rfl
     exact Int.ofNat.inj this
    have hp:0 < 256 ^ r.length:=Nat.pow_pos (by decide);have hdiv:q2 / 256 ^ r.length=x.toNat:=by
     rw[hnat,Nat.mul_comm,Nat.mul_add_div hp,Nat.div_eq_of_lt hqlt,Nat.add_zero]
    rw[List.length_cons,be];have hb1:YG q2 r.length=x:=by unfold YG;rw[hdiv];omega
    rw[hb1]
    congr 1
    have hbe:∀ k,k<=r.length->be q2 k=be q k:=by
     intro k hk
     induction k with
     | zero=>rfl
     | succ k ihk=>
      rw[be,be,ihk (by omega)]
      congr 1
      show((q2 / 256 ^ k % 256:Nat):Int)=((q / 256 ^ k % 256:Nat):Int)
      congr 1
      have hs:256 ^ r.length=256 ^ k*(256*256 ^ (r.length - k - 1)):=by
       rw[<- Nat.pow_succ',<- Nat.pow_add];congr 1;omega
      have hpk:0 < 256 ^ k:=Nat.pow_pos (by decide);rw[hnat,hs,Nat.mul_left_comm,Nat.mul_add_div hpk];rw[Nat.mul_left_comm,Nat.mul_add_mod]
    rw[hbe _ (Nat.le_refl _)];exact ih r hrl hr q hq
 exact key l.length l rfl
theorem rdN_one{b:List Int}(hb:By b)(h:(rdN b).2.2=0):b=yi (rdN b).1++b.drop (rdN b).2.1:=by
 rcases Vi b hb with(h1 | h1) | ⟨n,r,rfl,h0,h8,hl,hh,h1⟩
 ·rw[h1] at h;simp at h
 ·rw[h1] at h;simp at h
 ·rw[h1];have hr:By r:=fun x hx=>hb x (by simp[hx])
  have hbt:=hr.take n.toNat;have hlt:(r.take n.toNat).length=n.toNat:=by rw[List.length_take];omega
  obtain⟨q,h2,h3,h4⟩:=Vh (r.take n.toNat) 0 0 hbt (by decide);have hq:Vy (r.take n.toNat)=(q:Int):=h2;have hbe:=be_of _ hbt q hq;rw[hlt] at hbe;have hlen:Yx q=n.toNat:=by
   apply Nat.le_antisymm
   ·exact Vg _ _ (by simpa[hlt] using h3)
   ·rcases Nat.eq_zero_or_pos n.toNat with hz | hz
    ·omega
    ·obtain⟨k,hk⟩:∃ k,n.toNat=k+1:=⟨n.toNat - 1,by omega⟩
     rw[hk];refine Qb k q ?_;rw[hk,be] at hbe;have hne:YG q k≠0:=by
      intro e;rw[e] at hbe;refine hh ⟨by omega,?_⟩;have:=congrArg List.head? hbe;rw[List.head?_cons,List.head?_take,if_neg (by omega)] at this;exact this.symm
     unfold YG at hne;have hp:0 < 256 ^ k:=Nat.pow_pos (by decide);rcases Nat.lt_or_ge q (256 ^ k) with hlt2 | hge
     ·rw[Nat.div_eq_of_lt hlt2] at hne;simp at hne
     ·exact hge
  show n::r=yi (Vy (r.take n.toNat))++(n::r).drop (n.toNat+1);rw[hq,yi,Int.toNat_natCast,qB,hlen,hbe,List.drop_succ_cons,List.cons_append,List.take_append_drop]
  congr 1;omega
abbrev RS:=List Int×Int
structure Ok(s:RS):Prop where
 by_:By s.1
 len:s.1.length<=1000000000
 nil:s.2≠0->s.1=[]
def vG(e:Int)(s:RS):RS:=if s.2=0/\e≠0 then ([],e) else s
def zO(s:RS):Int×RS:=if s.2≠0 then (0,s) else if (rdN s.1).2.2≠0 then (0,vG (rdN s.1).2.2 s) else ((rdN s.1).1,(s.1.drop (rdN s.1).2.1,0))
def zm(m:Int)(s:RS):Int×RS:=if m < (zO s).1 then (0,vG 4 (zO s).2) else zO s
def zj(s:RS):Int×RS:=if s.2≠0 then (0,s) else match s.1 with | []=>(0,vG 2 s) | x::r=>(x,(r,0))
def up(m:Int)(s:RS):ByteArray×RS:=
 if (zO s).2.2≠0 then (⟨#[]⟩,(zO s).2) else if max m 0 < (zO s).1 then (⟨#[]⟩,vG 3 (zO s).2) else if ((zO s).2.1.length:Int) < (zO s).1 then (⟨#[]⟩,vG 2 (zO s).2)
 else (JW ((zO s).2.1.take (zO s).1.toNat),((zO s).2.1.drop (zO s).1.toNat,0))
def YH(s:RS):Int×RS:=let t:=if 0 < s.1.length then vG 4 s else s;(t.2,t)
theorem YY{s:RS}(h:Ok s)(e:Int):Ok (vG e s):=by
 unfold vG
 by_cases c:s.2=0/\e≠0
 ·rw[if_pos c];exact⟨By.nil,by simp,fun _=>rfl⟩
 ·rw[if_neg c];exact h
theorem wI{s:RS}{e:Int}(h:e≠0):(vG e s).2≠0:=by
 unfold vG
 by_cases c:s.2=0
 ·rw[if_pos ⟨c,h⟩];exact h
 ·rw[if_neg (fun q=>c q.1)];exact c
theorem num_of{s:RS}(h:s.2≠0):zO s=(0,s):=if_pos h
theorem yx{s:RS}(h:Ok s):Ok (zO s).2/\0<=(zO s).1/\(zO s).1<=18446744073709551615:=by
 unfold zO;have hr:=qC s.1 h.by_
 by_cases c:s.2≠0
 ·rw[if_pos c];exact⟨h,by simp,by simp⟩
 ·rw[if_neg c]
  by_cases c2:(rdN s.1).2.2≠0
  ·rw[if_pos c2];exact⟨YY h _,by simp,by simp⟩
  ·rw[if_neg c2];exact⟨⟨h.by_.drop _,by simp;have:=h.len;omega,fun h=>absurd rfl h⟩,hr.1,hr.2.1⟩
theorem ZI{s:RS}(h:Ok s){m:Int}(hm:0<=m):Ok (zm m s).2/\0<=(zm m s).1/\(zm m s).1<=m:=by
 unfold zm;obtain⟨h1,h2,h3⟩:=yx h
 by_cases c:m < (zO s).1
 ·rw[if_pos c];exact⟨YY h1 _,by simp,hm⟩
 ·rw[if_neg c];exact⟨h1,h2,by omega⟩
theorem WV{s:RS}(h:Ok s):Ok (zj s).2/\0<=(zj s).1/\(zj s).1<=255:=by
 unfold zj
 by_cases c:s.2≠0
 ·rw[if_pos c];exact⟨h,by simp,by simp⟩
 ·rw[if_neg c]
  cases hs:s.1 with
  | nil=>exact⟨YY h _,by simp,by simp⟩
  | cons x r=>
   have hb:=h.by_;have hl:=h.len;rw[hs] at hb hl;exact⟨⟨fun y hy=>hb y (by simp[hy]),by simp at hl ⊢;omega,fun h=>absurd rfl h⟩,(hb x (by simp)).1,(hb x (by simp)).2⟩
theorem ok_text{s:RS}(h:Ok s)(m:Int):Ok (up m s).2:=by
 unfold up;obtain⟨h1,h2,h3⟩:=yx h
 split
 ·exact h1
 ·split
  ·exact YY h1 _
  ·split
   ·exact YY h1 _
   ·exact⟨h1.by_.drop _,by simp;have:=h1.len;omega,fun h=>absurd rfl h⟩
theorem New_eq(b:List Int)(h:b.length<=1000000000):ZR b=pure (b,0):=by
 unfold ZR;rw[zM (by omega)]
theorem XC(b:List Int)(e:Int):zQ b e=pure (e,b,e):=rfl
theorem uh(e:Int)(s:RS):zF e s.1 s.2=pure (vG e s):=by
 unfold zF vG
 by_cases c:s.2=0 <;> by_cases c2:e=0 <;> simp[c,c2,zA] <;> rw[<- c]
theorem Qc(b:List Int)(n:Nat)(e:Int)(h:n<=b.length):ya (n:Int) b e=pure (b.take n,b.drop n,e):=by
 unfold ya;rw[zM (by omega),zM (by omega)];simp
theorem vv{s:RS}(h:Ok s):zG s.1 s.2=pure (zO s):=by
 unfold zG zO;rw[XC,zB,zA]
 by_cases c:s.2=0
 ·have hr:=qC s.1 h.by_;simp only[c,decide_true,Bool.not_true,cond_false,Read_eq s.1 h.by_ (by have:=h.len;omega),zB,zA,ne_eq,not_true_eq_false,if_false]
  by_cases c2:(rdN s.1).2.2=0
  ·simp only[c2,decide_true,Bool.not_true,cond_false,Qc s.1 (rdN s.1).2.1 0 hr.2.2.1,zB,zA,not_true_eq_false,if_false]
  ·have:=uh (rdN s.1).2.2 s;rw[c] at this;simp only[c2,decide_false,Bool.not_false,cond_true,this,zB,zA,not_false_eq_true,if_true]
 ·simp[c]
theorem jo{s:RS}(h:Ok s)(m:Int):zq m s.1 s.2=pure (zm m s):=by
 unfold zq zm;rw[vv h,zB,zA]
 by_cases c:m < (zO s).1
 ·rw[decide_eq_true c,cond_true,if_pos c,uh 4 (zO s).2,zB,zA]
 ·rw[decide_eq_false c,cond_false,if_neg c]
theorem Qd(s:RS):yN s.1 s.2=pure ((s.1.length:Int),s):=by
 unfold yN vl;rw[zB,zA]
theorem Yo{s:RS}(h:Ok s):zU s.1 s.2=pure (zj s):=by
 unfold zU zj;rw[XC,zB,zA]
 by_cases c:s.2=0
 ·obtain⟨b,e⟩:=s;simp only at c;subst c;have hL:=Qd (b,0);simp only at hL
  cases b with
  | nil=>
   have:=uh 2 ([],0);simp only at this;simp[hL,zB,zA,this]
  | cons x r=>
   have ht:=Qc (x::r) 1 0 (by simp);simp only[show((1:Nat):Int)=1 from rfl] at ht;have hd:decide (((x::r).length:Int)=0)=false:=by simp;omega
   simp only[decide_true,Bool.not_true,cond_false,hL,zB,zA,hd,ht];rw[Wh (l:=List.take 1 (x::r)) (i:=0) (y:=x) (by omega) rfl,zA];simp
 ·simp[c]
theorem Qe{s:RS}(h:Ok s){m:Int}(hm:m<=9223372036854775807):yf m s.1 s.2=pure (up m s):=by
 unfold yf up;obtain⟨h1,h2,h3⟩:=yx h;rw[vv h,zB,zA,XC,zB,zA]
 by_cases c:(zO s).2.2=0
 ·simp only[c,decide_true,Bool.not_true,cond_false,ne_eq,not_true_eq_false,if_false];rw[WJ (n:=max m 0) (by omega) (by omega)]
  by_cases c2:max m 0 < (zO s).1
  ·have hF:=uh 3 (zO s).2;rw[c] at hF;rw[decide_eq_true c2,cond_true,if_pos c2,hF,zB,zA]
  ·have hL:=Qd (zO s).2;rw[c] at hL;rw[decide_eq_false c2,cond_false,if_neg c2,hL,zB,zA];have hlen:=h1.len;rw[WJ (n:=((zO s).2.1.length:Int)) (by omega) (by omega)]
   by_cases c3:((zO s).2.1.length:Int) < (zO s).1
   ·have hF:=uh 2 (zO s).2;rw[decide_eq_true c3,cond_true,if_pos c3,hF,zB,zA]
   ·rw[decide_eq_false c3,cond_false,if_neg c3,VC (by omega) (by omega)];have ht:=Qc (zO s).2.1 (zO s).1.toNat (zO s).2.2 (by omega);rw[Int.toNat_of_nonneg h2] at ht;rw[ht,zB,zA,c]
 ·simp[c]
theorem xna(s:RS):yU s.1 s.2=pure (YH s):=by
 unfold yU YH;rw[Qd,zB,zA]
 by_cases c:0 < s.1.length
 ·have:decide ((0:Int) < (s.1.length:Int))=true:=by simpa using c
  simp only[this,cond_true,uh,zB,zA,if_pos c,XC]
 ·have:decide ((0:Int) < (s.1.length:Int))=false:=by simpa using c
  simp only[this,cond_false,zA,if_neg c,XC,zB]
theorem xoa(b row:List Int)(h:row.length+b.length<=100000000000000):yS b row=pure (row++b):=by
 unfold yS;rw[zM (by omega)]
theorem vS{v:Int}(row:List Int)(h0:0<=v)(h:v<=18446744073709551615)(hr:row.length<=10000000000000):zN v row=pure (row++yi v):=by
 unfold zN;have:=zc h;rw[xla [] h0 h (by simp),zB,zA,List.nil_append,xoa _ _ (by omega),zB,zA]
theorem vF(row:List Int)(h:row.length<=100000000000000):yY row=pure (row,row):=by
 unfold yY;rw[zM (by omega)]
theorem Yp(c:Int)(row:List Int)(hr:row.length<=10000000000000):zl c row=pure (row++[c]):=by
 unfold zl;rw[xoa _ _ (by simp;omega),zB,zA]
structure Sim(B:List Int)(a:Int)(s:RS):Prop where
 lo:0<=a
 hi:a<=B.length
 eq:s.2=0->s.1=B.drop a.toNat
structure OkB(B:List Int):Prop where
 by_:By B
 len:B.length<=1000000000
theorem OkB.ok{B:List Int}(h:OkB B):Ok (B,0):=⟨h.by_,h.len,fun h=>absurd rfl h⟩
theorem Sim.bad{B:List Int}{a:Int}{s t:RS}(h:Sim B a s)(ht:t.2≠0):Sim B a t:=⟨h.lo,h.hi,fun h2=>absurd h2 ht⟩
variable{B:List Int}{a:Int}{s:RS}
end Go.Ep.M.N
namespace Go.Ep.M.D
open Go
theorem Ug{a b:DT}:zx a b=true↔a.dev < b.dev\/(a.dev=b.dev/\a.n < b.n):=by simp[zx]
theorem Uh(a:DT):zx a a=false:=by
 cases h:zx a a with
 | false=>rfl
 | true=>rw[Ug] at h;omega
theorem Yq{a b c:DT}(h1:zx a b=true)(h2:zx b c=true):zx a c=true:=by rw[Ug] at *;omega
theorem jp{a b:DT}(h:zx a b=true):zx b a=false:=by
 cases h2:zx b a with
 | false=>rfl
 | true=>rw[Ug] at h h2;omega
theorem zXa{a b:DT}(h1:zx a b=false)(h2:zx b a=false):a=b:=by
 have h3:¬ (zx a b=true):=by simp[h1]
 have h4:¬ (zx b a=true):=by simp[h2]
 rw[Ug] at h3 h4
 cases a;cases b
 simp only[DT.mk.injEq] at *
 omega
abbrev Srt(l:List DT):Prop:=l.Pairwise fun x y=>zx x y=true
theorem Qf : ∀ {l l':List DT},Srt l->Srt l'->(∀ d,d∈l↔d∈l')->l=l'
 | [],[],_,_,_=>rfl
 | [],y::r,_,_,h=>by have:=(h y).2 (by simp);simp at this
 | x::r,[],_,_,h=>by have:=(h x).1 (by simp);simp at this
 | x::r,y::t,h1,h2,h=>by
  have hx:=(h x).1 (by simp);have hy:=(h y).2 (by simp);have e:x=y:=by
   rcases List.mem_cons.1 hx with e | hx
   ·exact e
   ·rcases List.mem_cons.1 hy with e | hy
    ·exact e.symm
    ·have a1:=(List.pairwise_cons.1 h2).1 x hx;have a2:=(List.pairwise_cons.1 h1).1 y hy;rw[jp a1] at a2;cases a2
  subst e
  congr 1
  refine Qf (List.pairwise_cons.1 h1).2 (List.pairwise_cons.1 h2).2 fun d=>?_
  have h3:=h d;simp only[List.mem_cons] at h3
  constructor
  ·intro hd;rcases h3.1 (.inr hd) with e | h4
   ·have:=(List.pairwise_cons.1 h1).1 d hd;rw[e,Uh] at this;cases this
   ·exact h4
  ·intro hd;rcases h3.2 (.inr hd) with e | h4
   ·have:=(List.pairwise_cons.1 h2).1 d hd;rw[e,Uh] at this;cases this
   ·exact h4
def xpa(s:List DT)(d:DT):List DT:=(s.filter fun x=>zx x d)++[d]++(s.filter fun x=>zx d x)
theorem ins_mem{s:List DT}{d x:DT}:x∈xpa s d↔x=d\/x∈s:=by
 simp only[xpa,List.mem_append,List.mem_filter,List.mem_singleton]
 constructor
 ·rintro((h | h) | h)
  ·exact .inr h.1
  ·exact .inl h
  ·exact .inr h.1
 ·rintro(h | h)
  ·exact .inl (.inr h)
  ·cases h1:zx x d with
   | true=>exact .inl (.inl ⟨h,rfl⟩)
   | false=>
    cases h2:zx d x with
    | true=>exact .inr ⟨h,rfl⟩
    | false=>exact .inl (.inr (zXa h1 h2))
theorem ins_srt{s:List DT}(h:Srt s)(d:DT):Srt (xpa s d):=by
 unfold Srt xpa;rw[List.pairwise_append,List.pairwise_append];refine⟨⟨h.filter _,by simp,fun a ha b hb=>?_⟩,h.filter _,fun a ha b hb=>?_⟩
 ·rw[List.mem_singleton.1 hb];exact(List.mem_filter.1 ha).2
 ·have hb:=(List.mem_filter.1 hb).2;rcases List.mem_append.1 ha with ha | ha
  ·exact Yq (List.mem_filter.1 ha).2 hb
  ·rw[List.mem_singleton.1 ha];exact hb
theorem ins_len(s:List DT)(d:DT):(xpa s d).length<=s.length+1:=by
 unfold xpa;have h:∀ l:List DT,(l.filter fun x=>zx x d).length+(l.filter fun x=>zx d x).length<=l.length:=by
  intro l
  induction l with
  | nil=>simp
  | cons x r ih=>
   cases h1:zx x d with
   | true=>simp[h1,jp h1];omega
   | false=>
    cases h2:zx d x with
    | true=>simp[h1,h2];omega
    | false=>simp[h1,h2];omega
 have:=h s;simp;omega
def uG(l:List DT):List DT:=l.foldl xpa []
theorem VD : ∀ (l s:List DT),Srt s->Srt (l.foldl xpa s)/\(∀ d,d∈l.foldl xpa s↔d∈s\/d∈l)/\(l.foldl xpa s).length<=s.length+l.length
 | [],s,h=>⟨h,by simp,by simp⟩
 | x::r,s,h=>by
  obtain⟨h1,h2,h3⟩:=VD r (xpa s x) (ins_srt h x);refine⟨h1,fun d=>?_,?_⟩
  ·rw[List.foldl_cons,h2 d,ins_mem,List.mem_cons]
   constructor
   ·rintro((h | h) | h)
    ·exact .inr (.inl h)
    ·exact .inl h
    ·exact .inr (.inr h)
   ·rintro(h | h | h)
    ·exact .inl (.inr h)
    ·exact .inl (.inl h)
    ·exact .inr h
  ·have:=ins_len s x;rw[List.foldl_cons,List.length_cons];omega
theorem zYa(l:List DT):Srt (uG l):=(VD l [] List.Pairwise.nil).1
theorem WB{l:List DT}{d:DT}:d∈uG l↔d∈l:=by simpa[uG] using (VD l [] List.Pairwise.nil).2.1 d
theorem jq(l:List DT):(uG l).length<=l.length:=by simpa[uG] using (VD l [] List.Pairwise.nil).2.2
theorem xqa{l:List DT}(h:Srt l):uG l=l:=Qf (zYa l) h fun _=>WB
def ddS(out:List DT)(x:DT):List DT:=if out.getLast?=some x then out else out++[x]
def dd(l:List DT):List DT:=l.foldl ddS []
theorem Vj(l:List DT)(x:DT):dd (l++[x])=ddS (dd l) x:=by simp[dd]
theorem Qg(l:List DT):(dd l).getLast?=l.getLast?:=by
 rcases R.yr l with rfl | ⟨r,y,rfl⟩
 ·rfl
 ·rw[Vj];unfold ddS
  by_cases c:(dd r).getLast?=some y
  ·rw[if_pos c,c];simp
  ·rw[if_neg c];simp
theorem dd_mem{l:List DT}{d:DT}:d∈dd l↔d∈l:=by
 have:∀ (l s:List DT),d∈l.foldl ddS s↔d∈s\/d∈l:=by
  intro l
  induction l with
  | nil=>intro s;simp
  | cons x r ih=>
   intro s;rw[List.foldl_cons,ih];have h2:d∈ddS s x↔d∈s\/d=x:=by
    unfold ddS
    split
    ·rename_i h
     exact⟨.inl,fun h3=>h3.elim id fun e=>by rw[e];exact List.mem_of_getLast? h⟩
    ·simp
   rw[h2,List.mem_cons];exact or_assoc
 simpa[dd] using this l []
theorem dd_srt{l:List DT}(h:l.Pairwise fun x y=>zx y x=false):Srt (dd l):=by
 have:∀ (n:Nat) (l:List DT),l.length=n->(l.Pairwise fun x y=>zx y x=false)->Srt (dd l):=by
  intro n
  induction n with
  | zero=>intro l hl _;have:=List.eq_nil_of_length_eq_zero hl;subst this;exact List.Pairwise.nil
  | succ n ih=>
   intro l hl h;rcases R.yr l with rfl | ⟨r,y,rfl⟩
   ·simp at hl
   ·rw[List.pairwise_append] at h;have hr:=ih r (by simpa using hl) h.1;rw[Vj];unfold ddS
    split
    ·exact hr
    ·rename_i hne
     unfold Srt;rw[List.pairwise_append];refine⟨hr,by simp,fun a ha b hb=>?_⟩;rw[List.mem_singleton.1 hb];have ha':=dd_mem.1 ha;have h1:=h.2.2 a ha' y (by simp)
     cases h2:zx a y with
     | true=>rfl
     | false=>
      exfalso;have e:=zXa h2 h1;subst e;rw[Qg] at hne;rcases R.yr r with rfl | ⟨q,z,rfl⟩
      ·simp at ha'
      ·have hz:zx a z=false:=h.2.2 z (by simp) a (by simp);rcases List.mem_append.1 ha' with h5 | h5
       ·have h6:zx z a=false:=by
         have:=(List.pairwise_append.1 h.1).2.2 a h5 z (by simp);exact this
        have:=zXa hz h6;subst this;simp at hne
       ·rw[List.mem_singleton.1 h5] at hne;simp at hne
 exact this l.length l rfl h
theorem jr(l:List DT)(h:l.length<=1000000000000):yF l=pure l:=by
 unfold yF;refine Zd ⟨⟨false,fun h=>by cases h⟩,fun b hb=>?_⟩
 cases b with
 | true=>show([]:List DT)=l;exact(hb rfl).symm
 | false=>
  show _/\([]++l=l)
  exact⟨by simp;omega,List.nil_append l⟩
theorem ySa(x y:DT):(decide (x.dev=y.dev)&&decide (x.n=y.n))=decide (x=y):=by
 cases x;cases y;simp[Bool.decide_and]
theorem YZ{l:List DT}{m:Nat}{x:DT}(h:l[m]?=some x):l.take (m+1)=l.take m++[x]:=by
 rw[List.take_add_one,h];rfl
theorem qD{l:List DT}{m:Nat}{x:DT}(h:l[m]?=some x):(l.take (m+1)).getLast?=some x:=by rw[YZ h];simp
theorem WW(s:List DT)(k:Nat)(hk:k < s.length)(hl:s.length<=1000000000000):∀ (d k2 kk:Nat) (v:List DT),k+k2+d=s.length->1<=k2->v.length=s.length->kk+1<=k+k2->v.take kk=dd (s.take (k+k2))->v.drop (k+k2 - 1)=s.drop (k+k2 - 1) ->
  ∃ (kk':Nat) (v':List DT),loop (zg s (k:Int)) ((kk:Int),(k2:Int),v)=pure ((kk':Int),v')/\v'.length=s.length/\kk'<=s.length/\v'.take kk'=dd s
 | 0,k2,kk,v,hd,h1,hv,hkk,ht,_=>by
  refine⟨kk,v,ze ?_,hv,by omega,by rw[ht,show k+k2=s.length by omega,List.take_length]⟩;unfold zg;have:decide ((k2:Int) < (((s.length - (k:Int).toNat:Nat)):Int))=false:=by simp;omega
  simp only[this,cond_false]
 | d+1,k2,kk,v,hd,h1,hv,hkk,ht,hdr=>by
  have hvg:∀ j,k+k2 - 1<=j->v[j]?=s[j]?:=fun j hj=>by
   have:=congrArg (fun l=>l[j - (k+k2 - 1)]?) hdr;simp only[List.getElem?_drop] at this;rw[show k+k2 - 1+(j - (k+k2 - 1))=j by omega] at this;exact this
  obtain⟨x,hx⟩:∃ x,s[k+k2]?=some x:=⟨_,List.getElem?_eq_getElem (by omega)⟩
  obtain⟨y,hy⟩:∃ y,s[k+k2 - 1]?=some y:=⟨_,List.getElem?_eq_getElem (by omega)⟩
  have hlast:(dd (s.take (k+k2))).getLast?=some y:=by
   rw[Qg];have:=qD hy
   rwa [show k+k2 - 1+1=k+k2 by omega] at this
  have hdd:dd (s.take (k+k2+1))=if y=x then dd (s.take (k+k2)) else dd (s.take (k+k2))++[x]:=by
   rw[YZ hx,Vj];unfold ddS;rw[hlast]
   by_cases c:y=x
   ·rw[if_pos c,if_pos (by rw[c])]
   ·rw[if_neg c,if_neg (by intro e;exact c (Option.some.inj e))]
  have hb:zg s (k:Int) ((kk:Int),(k2:Int),v)=pure (.next (if y=x then ((kk:Int),((k2+1:Nat):Int),v) else (((kk+1:Nat):Int),((k2+1:Nat):Int),v.set kk x))):=by
   unfold zg;have hc:decide ((k2:Int) < (((s.length - (k:Int).toNat:Nat)):Int))=true:=by simp;omega
   have e1:IntKind.i64.wrap ((k2:Int) - 1)=((k2 - 1:Nat):Int):=by rw[VC (by omega) (by omega)];omega
   have i1:idx v ((((k:Int).toNat+(k2:Int).toNat:Nat)):Int)=pure x:=zd (by rw[Int.toNat_natCast,Int.toNat_natCast,hvg _ (by omega)];exact hx);have i2:idx v ((((k:Int).toNat+(((k2 - 1:Nat):Int)).toNat:Nat)):Int)=pure y:=zd (by rw[Int.toNat_natCast,Int.toNat_natCast,hvg _ (by omega),show k+(k2 - 1)=k+k2 - 1 by omega];exact hy);obtain⟨z,hz⟩:∃ z,v[kk]?=some z:=⟨_,List.getElem?_eq_getElem (by omega)⟩
   have i3:idx v (kk:Int)=pure z:=zd hz;simp only[hc,cond_true,e1];rw[zM (by simp;omega),i1,zA,zM (by simp;omega),i2,zA];simp only[ySa]
   by_cases c:y=x
   ·have c1:decide (x=y)=true:=decide_eq_true c.symm;simp only[c1,Bool.not_true,cond_false,zA,wv (show k2 < 9223372036854775807 by omega),if_pos c]
   ·have c1:decide (x=y)=false:=decide_eq_false (fun e=>c e.symm);simp only[c1,Bool.not_false,cond_true,if_neg c];rw[zM (by simp;omega),i3];simp only[zA,wv (show k2 < 9223372036854775807 by omega),wv (show kk < 9223372036854775807 by omega),Int.toNat_natCast]
  by_cases c:y=x
  ·rw[if_pos c] at hb hdd;rw[zt hb];refine WW s k hk hl d (k2+1) kk v (by omega) (by omega) hv (by omega) (by rw[ht,<- hdd];rfl) ?_;have:=congrArg (List.drop 1) hdr;rw[List.drop_drop,List.drop_drop,show k+k2 - 1+1=k+(k2+1) - 1 by omega] at this;exact this
  ·rw[if_neg c] at hb hdd;rw[zt hb];refine WW s k hk hl d (k2+1) (kk+1) (v.set kk x) (by omega) (by omega) (by simpa using hv) (by omega) ?_ ?_
   ·have h5:(v.set kk x)[kk]?=some x:=by rw[List.getElem?_set];simp;omega
    rw[YZ h5,List.take_set,List.set_eq_of_length_le (by rw[List.length_take];omega),ht,<- hdd];rfl
   ·rw[List.drop_set,if_pos (by omega)];have:=congrArg (List.drop 1) hdr;rw[List.drop_drop,List.drop_drop,show k+k2 - 1+1=k+(k2+1) - 1 by omega] at this;exact this
theorem yTa(s:List DT)(hl:s.length<=1000000000000):zo s=pure (dd s):=by
 unfold zo
 by_cases h2:s.length < 2
 ·have:decide ((s.length:Int) < 2)=true:=by simp;omega
  rw[this,cond_true]
  match s,h2 with
  | [],_=>rfl
  | [x],_=>rfl
 ·have:decide ((s.length:Int) < 2)=false:=by simp;omega
  rw[this,cond_false];have key:∀ d k,k+d=s.length->1<=k->dd (s.take k)=s.take k->(loop (zh s) (k:Int)).bind (exk fun _=>pure s)=pure (dd s):=by
   intro d
   induction d with
   | zero=>
    intro k hk h1 hd;rw[ze (r:=.brk ()) (by
     unfold zh;have:decide ((k:Int) < (s.length:Int))=false:=by simp;omega
     simp only[this,cond_false])]
    rw[show k=s.length by omega,List.take_length] at hd;show pure s=pure (dd s);rw[hd]
   | succ d ih=>
    intro k hk h1 hd;obtain⟨x,hx⟩:∃ x,s[k]?=some x:=⟨_,List.getElem?_eq_getElem (by omega)⟩
    obtain⟨y,hy⟩:∃ y,s[k - 1]?=some y:=⟨_,List.getElem?_eq_getElem (by omega)⟩
    have hlast:(dd (s.take k)).getLast?=some y:=by
     rw[Qg];have:=qD hy
     rwa [show k - 1+1=k by omega] at this
    have hc:decide ((k:Int) < (s.length:Int))=true:=by simp;omega
    have i1:idx s (k:Int)=pure x:=zd hx;have i2:idx s (IntKind.i64.wrap ((k:Int) - 1))=pure y:=by
     rw[VC (by omega) (by omega)];exact Wh (by omega) (by rw[show((k:Int) - 1).toNat=k - 1 by omega];exact hy)
    by_cases c:x=y
    ·subst c;obtain⟨kk,v,h5,h6,h7,h8⟩:=WW s k (by omega) hl d 1 k s (by omega) (by omega) rfl (by omega) (by
      rw[YZ hx,Vj,ddS,if_pos hlast,hd]) (by rw[show k+1 - 1=k by omega])
     rw[ze (r:=.ret (dd s)) (by
      unfold zh;simp only[hc,cond_true,i1,i2,zA,ySa,decide_true];rw[zM (by omega),show(1:Int)=((1:Nat):Int) from rfl,h5,zA];simp only[];rw[zM (by omega),zM (by simp;omega),zM (by
       simp only[List.length_append,List.length_take,List.length_replicate,List.length_drop,Int.toNat_natCast];omega),zA,VO]
      congr 3
      rw[Int.toNat_natCast,List.append_assoc,List.take_append_of_le_length (by rw[List.length_take];omega),List.take_take,Nat.min_self,h8])]
     rfl
    ·have c1:decide (x=y)=false:=decide_eq_false c;rw[zt (s':=((k+1:Nat):Int)) (by
      unfold zh;simp only[hc,cond_true,i1,i2,zA,ySa,c1,cond_false,Ze,wv (show k < 9223372036854775807 by omega)])]
     refine ih (k+1) (by omega) (by omega) ?_;rw[YZ hx,Vj,ddS,if_neg (by rw[hlast];intro e;exact c (Option.some.inj e).symm),hd]
  have:=key (s.length - 1) 1 (by omega) (by omega) (by
   obtain⟨x,r,rfl⟩:∃ x r,s=x::r:=by
    cases s with
    | nil=>simp at h2
    | cons x r=>exact⟨x,r,rfl⟩
   rfl)
  exact this
theorem xWa{l:List DT}{Q:List DT->Prop}(h:∀ s,s.Perm l->(s.Pairwise fun x y=>zx y x=false)->Q s):(srt zx l).wp Q:=by
 refine⟨⟨l.mergeSort (fun x y=>!zx y x),List.mergeSort_perm _ _,?_⟩,fun s ⟨h1,h2⟩=>h s h1 h2⟩;refine(List.pairwise_mergeSort (fun a b c h1 h2=>?_) (fun a b=>?_) l).imp fun {x y} h=>by simpa using h
 ·simp only[Bool.not_eq_true'] at h1 h2 ⊢
  cases h3:zx c a with
  | false=>rfl
  | true=>
   rw[Ug] at h3;have h4:¬ (zx b a=true):=by simp[h1]
   have h5:¬ (zx c b=true):=by simp[h2]
   rw[Ug] at h4 h5;omega
 ·cases h1:zx b a with
  | false=>rfl
  | true=>rw[jp h1];rfl
theorem Qh(l:List DT)(h:l.length<=1000000000000):Yj l=pure (uG l):=by
 unfold Yj;rw[jr l h,zB,zA,zM (by omega)];refine Zd (xWa fun s hs hp=>?_);show(bind (det (zo s)) fun y8=>pure y8).wp _;rw[yTa s (by rw[hs.length_eq];exact h),zB,zA];exact Qf (dd_srt hp) (zYa l) fun d=>by rw[dd_mem,WB];exact hs.mem_iff
theorem cmp16_eq(x y:Int):xS x y=pure (R.xXa x y):=by
 unfold xS xy R.xXa;simp only[decide_true,Bool.not_true,zB,zA,cond_false,Zq]
 split
 ·rfl
 ·split <;> rfl
theorem Vk(a b:DT):xn a b=pure (V.ypa a b):=by
 unfold xn;rw[cmp16_eq,zB,zA,R.xYa,zB,zA];unfold V.ypa R.xXa
 cases a with | mk d n=>cases b with | mk e m=>
 simp only[DT.mk.injEq,zx]
 by_cases h1:d < e
 ·have:¬ d=e:=by omega
  simp[h1,this]
 ·by_cases h2:e < d
  ·have:¬ d=e:=by omega
   simp[h1,h2,this]
  ·have h3:d=e:=by omega
   subst h3
   by_cases h4:n < m
   ·have:¬ n=m:=by omega
    simp[h4,this]
   ·by_cases h5:m < n
    ·have:¬ n=m:=by omega
     simp[h4,h5,this]
    ·have:n=m:=by omega
     simp[this]
theorem jt{σ ρ ε:Type}{body:σ->M (Step σ ρ)}(l:List ε)(f:ε->List Int)(row:List Int)(N:Nat)(mk:Nat->List Int->σ)(g:List Int->M ρ)(hN:row.length+(l.flatMap f).length<=N)
  (h1:∀ (i:Nat) (x:ε) (out:List Int),l[i]?=some x->i < l.length->out.length+(f x).length<=N->body (mk i out)=pure (.next (mk (i+1) (out++f x))))
  (h2:∀ out,body (mk l.length out)=(g out).bind fun r=>pure (.done r)):loop body (mk 0 row)=g (row++l.flatMap f):=by
 have key:∀ (k i:Nat) (out:List Int),i+k=l.length->out.length+((l.drop i).flatMap f).length<=N->loop body (mk i out)=g (out++(l.drop i).flatMap f):=by
  intro k
  induction k with
  | zero=>
   intro i out hi _;have:i=l.length:=by omega
   subst this;rw[VP,h2,List.drop_length];simp only[List.flatMap_nil,List.append_nil]
   rfl
  | succ k ih=>
   intro i out hi hl;have hlt:i < l.length:=by omega
   rw[List.drop_eq_getElem_cons hlt,List.flatMap_cons,List.length_append] at hl;rw[zt (h1 i l[i] out (List.getElem?_eq_getElem hlt) hlt (by omega)),ih (i+1) _ (by omega) (by rw[List.length_append];omega),List.drop_eq_getElem_cons hlt,List.flatMap_cons,List.append_assoc]
 simpa using key l.length 0 row (by omega) (by simpa using hN)
theorem WC{ε:Type}(l:List ε)(f:ε->List Int)(k:Nat)(h:∀ x∈l,(f x).length<=k):(l.flatMap f).length<=k*l.length:=by
 induction l with
 | nil=>simp
 | cons x r ih=>
  have h1:=h x (by simp);have h2:=ih fun y hy=>h y (by simp[hy])
  rw[List.flatMap_cons,List.length_append,List.length_cons,Nat.mul_add];omega
structure OkD(d:DT):Prop where
 d0:0<=d.dev
 d1:d.dev<=65535
 n0:0<=d.n
 n1:d.n<=18446744073709551615
def encD(d:DT):List Int:=N.yi d.dev++N.yi d.n
theorem VE{d:DT}(h:OkD d):(encD d).length<=18:=by
 have h1:=N.zc (v:=d.dev) (by have:=h.d1;omega);have h2:=N.zc (v:=d.n) h.n1;rw[encD,List.length_append];omega
theorem qG{d:DT}(h:OkD d)(row:List Int)(hr:row.length<=1000000000000):xt d row=pure (row++encD d):=by
 have h1:=N.zc (v:=d.dev) (by have:=h.d1;omega);unfold xt;rw[WJ h.d0 (by have:=h.d1;omega),N.vS row h.d0 (by have:=h.d1;omega) (by omega),zB,zA,N.vS _ h.n0 h.n1 (by rw[List.length_append];omega),zB,zA,encD,List.append_assoc]
def uq(l:List DT):List DT:=l.filter V.yv
def ur(l:List DT):List Int:=N.yi (uG (uq l)).length++(uG (uq l)).flatMap encD
theorem xra(l : List DT)(hl : l.length<=1000000000000) : loop (ye l) (0, [])=pure (uq l) := by
  have := QQ (body := ye l) l (fun i t => ((i : Int), t)) (fun t d => if V.yv d=true then t++[d] else t) (fun t => pure t) (fun i t => t.length<=i) (fun i x t hx hi hI => by
    have hd : decide ((i : Int) < (l.length : Int))=true := by simpa using hi
    refine ⟨?_, by split
                   · simp; omega
                   · omega⟩
    unfold ye;simp only[hd, cond_true, zd hx, zA, V.ug, zB, wv (show i < 9223372036854775807 by omega)]
    by_cases c : V.yv x=true
    · rw[c, cond_true, zM (by simp; omega), zA, if_pos rfl]
    · simp only[Bool.not_eq_true] at c;rw[c, cond_false, zA]; rfl) (fun t _ => by
    unfold ye;simp[zA]) [] (by simp)
  rw[show(0 : Int)=((0 : Nat) : Int) from rfl, this]
  congr 1
  have key : ∀ (l t : List DT), l.foldl (fun t d => if V.yv d=true then t++[d] else t) t=t++uq l := by
    intro l
    induction l with
    | nil => intro t; simp[uq]
    | cons x r ih =>
      intro t;rw[List.foldl_cons, ih];unfold uq
      by_cases c : V.yv x=true
      · rw[if_pos c, List.filter_cons_of_pos c, List.append_assoc]; rfl
      · rw[if_neg c, List.filter_cons_of_neg c]
  simpa using key l []
theorem good_mem{l:List DT}{d:DT}:d∈uG (uq l)↔d∈l/\V.yv d=true:=by rw[WB,uq,List.mem_filter]
theorem ju(l:List DT):(uG (uq l)).length<=l.length:=Nat.le_trans (jq _) (List.length_filter_le _ _)
theorem jv{l:List DT}(h:∀ d∈l,OkD d):∀ d∈uG (uq l),OkD d:=fun d hd=>h d (good_mem.1 hd).1
theorem xsa{l:List DT}(h:∀ d∈l,OkD d)(hl:l.length<=1000000000000):(ur l).length<=9+18*l.length:=by
 have h1:=N.zc (v:=((uG (uq l)).length:Int)) (by have:=ju l;omega);have h2:=WC (uG (uq l)) encD 18 fun x hx=>VE (jv h x hx)
 have h3:=ju l;rw[ur,List.length_append];omega
theorem yUa{l:List DT}(h:∀ d∈l,OkD d)(hl:l.length<=1000000000)(row:List Int)(hr:row.length<=100000000000):vC l row=pure (row++ur l):=by
 have h3:=ju l;have h1:=N.zc (v:=((uG (uq l)).length:Int)) (by omega);have h2:=WC (uG (uq l)) encD 18 fun x hx=>VE (jv h x hx)
 unfold vC;rw[xra l (by omega),zA,Qh _ (by have:=List.length_filter_le V.yv l;unfold uq;omega),zB,zA,WJ (by omega) (by omega),N.vS row (by omega) (by omega) (by omega),zB,zA];have:=jt (body:=xW (uG (uq l))) (uG (uq l)) encD (row++N.yi ((uG (uq l)).length:Int)) 1000000000000 (fun i out=>((i:Int),out)) (fun t=>pure t) (by rw[List.length_append];omega) (fun i x out hx hi ho=>by
  have hd:decide ((i:Int) < ((uG (uq l)).length:Int))=true:=by simpa using hi
  unfold xW;simp only[hd,cond_true,zd hx,zA,qG (jv h x (List.mem_of_getElem? hx)) out (by omega),zB,wv (show i < 9223372036854775807 by omega)]) (fun out=>by
  unfold xW;simp[zA])
 rw[show(0:Int)=((0:Nat):Int) from rfl,this,ur,List.append_assoc]
def UL(x:RN):List Int:=N.yi x.lo++N.yi x.hi
def jw(p:PT):List Int:=N.yi p.dev++(N.yi p.runs.length++p.runs.flatMap UL)
def qB(c:List PT):List Int:=N.yi c.length++c.flatMap jw
def ut(c:List PT):List Int:=qB (C.yG c)
structure OkP(p:PT):Prop where
 d0:0<=p.dev
 d1:p.dev<=65535
 r:∀ x∈p.runs,(0<=x.lo/\x.lo<=18446744073709551615)/\0<=x.hi/\x.hi<=18446744073709551615
theorem zZa{x:RN}(h:(0<=x.lo/\x.lo<=18446744073709551615)/\0<=x.hi/\x.hi<=18446744073709551615):(UL x).length<=18:=by
 have h1:=N.zc h.1.2;have h2:=N.zc h.2.2;rw[UL,List.length_append];omega
theorem encP_len{p:PT}(h:OkP p)(hl:p.runs.length<=1000000000000):(jw p).length<=18+18*p.runs.length:=by
 have h1:=N.zc (v:=p.dev) (by have:=h.d1;omega);have h2:=N.zc (v:=(p.runs.length:Int)) (by omega);have h3:=WC p.runs UL 18 fun x hx=>zZa (h.r x hx)
 rw[jw,List.length_append,List.length_append];omega
theorem qH(c:List PT)(h:∀ p∈c,OkP p)(hl:C.xX c<=1000000000000):(c.flatMap jw).length<=18*c.length+18*C.xX c:=by
 induction c with
 | nil=>simp
 | cons p r ih=>
  have e:C.xX (p::r)=p.runs.length+C.xX r:=by simp[C.xX]
  have h1:=encP_len (h p (by simp)) (by omega);have h2:=ih (fun q hq=>h q (by simp[hq])) (by omega);rw[List.flatMap_cons,List.length_append,List.length_cons,e];omega
theorem zaa{c:List PT}(h:∀ p∈c,OkP p)(hc:c.length<=1000000000000)(hl:C.xX c<=1000000000000):(qB c).length<=9+18*c.length+18*C.xX c:=by
 have h1:=N.zc (v:=(c.length:Int)) (by omega);have h2:=qH c h hl;rw[qB,List.length_append];omega
theorem jx{c:List PT}(h:∀ p∈c,p.dev<=65535):∀ p∈C.yG c,OkP p:=fun p hp=>by
 have h1:=(C.Yn c).nf p hp;refine⟨by omega,?_,fun x hx=>?_⟩
 ·have h2:=(C.Zw.1 hp).1;obtain⟨q,hq,e⟩:=(C.vX.1 h2).1;rw[<- e];exact h q hq
 ·have:=R.zi.1 (h1.2.2.may x hx);omega
theorem xta{c:List PT}(ho:C.Ok c)(h:∀ p∈c,p.dev<=65535)(hs:c.length<=100000000/\C.xX c<=100000000)(row:List Int)(hr:row.length<=100000000000):yE c row=pure (row++ut c):=by
 have hn:=C.Xx c;have ht:=C.Xy c;have hp:=jx h;have hl:=zaa hp (by omega) (by omega);have h9:=N.zc (v:=((C.yG c).length:Int)) (by omega);have hf:=qH (C.yG c) hp (by omega);unfold yE;rw[C.jl c ho.sm,zB,zA,WJ (by omega) (by omega),N.vS row (by omega) (by omega) (by omega),zB,zA];have:=jt (body:=xi (C.yG c)) (C.yG c) jw (row++N.yi ((C.yG c).length:Int)) 1000000000000 (fun i out=>((i:Int),out)) (fun t=>pure t) (by rw[List.length_append];omega) (fun i p out hx hi hout=>by
  have hd:decide ((i:Int) < ((C.yG c).length:Int))=true:=by simpa using hi
  have hm:=List.mem_of_getElem? hx;have hpp:=hp p hm;have hrl:p.runs.length<=1000000000:=by have:=C.xia p hm;omega
  have e1:=N.zc (v:=p.dev) (by have:=hpp.d1;omega);have e2:=N.zc (v:=(p.runs.length:Int)) (by omega);have e3:=WC p.runs UL 18 fun x hx=>zZa (hpp.r x hx)
  unfold xi;simp only[hd,cond_true,zd hx,zA];rw[WJ hpp.d0 (by have:=hpp.d1;omega),N.vS out hpp.d0 (by have:=hpp.d1;omega) (by omega),zB,zA,WJ (by omega) (by omega),N.vS _ (by omega) (by omega) (by rw[List.length_append];omega),zB,zA];have:=jt (body:=xh p) p.runs UL (out++N.yi p.dev++N.yi (p.runs.length:Int)) 2000000000000 (fun i out=>((i:Int),out)) (fun t=>pure t) (by rw[List.length_append,List.length_append];omega) (fun j x out2 hx2 hj hout2=>by
   have hd2:decide ((j:Int) < (p.runs.length:Int))=true:=by simpa using hj
   have hxr:=hpp.r x (List.mem_of_getElem? hx2);have e4:=N.zc hxr.1.2;unfold xh;simp only[hd2,cond_true,zd hx2,zA];rw[N.vS out2 hxr.1.1 hxr.1.2 (by omega),zB,zA,N.vS _ hxr.2.1 hxr.2.2 (by rw[List.length_append];omega),zB,zA,wv (show j < 9223372036854775807 by omega),UL,List.append_assoc]) (fun out=>by
   unfold xh;simp[zA])
  rw[show(0:Int)=((0:Nat):Int) from rfl,this,zA,wv (show i < 9223372036854775807 by omega),jw];simp only[List.append_assoc]) (fun out=>by
  unfold xi;simp[zA])
 rw[show(0:Int)=((0:Nat):Int) from rfl,this,ut,qB,List.append_assoc]
open N (RS Ok zO zm vG YH OkB Sim)
def Wp(c:Bool)(s:RS):RS:=if c=true then vG 4 s else s
def fin{α:Type}(z x:α)(t:RS):α×RS:=if t.2≠0 then (z,t) else (x,t)
theorem Ya(e:Int)(s:RS):(vG e s).1.length<=s.1.length:=by unfold vG;split <;> simp
theorem WX{s:RS}(h:Ok s)(c:Bool):Ok (Wp c s):=by unfold Wp;split;exact N.YY h _;exact h
theorem jy(c:Bool)(s:RS):(Wp c s).1.length<=s.1.length:=by unfold Wp;split;exact Ya _ _;exact Nat.le_refl _
theorem XS{c:Bool}{s:RS}(h:(Wp c s).2=0):c=false/\s.2=0/\Wp c s=s:=by
 unfold Wp at h ⊢
 cases c with
 | true=>exact absurd h (N.wI (by decide))
 | false=>exact⟨rfl,h,rfl⟩
theorem xua{s:RS}:(Wp true s).2≠0:=N.wI (by decide)
theorem uP{s:RS}:Wp false s=s:=rfl
theorem XD{α:Type}(z x:α)(t:RS):(fin z x t).2=t:=by unfold fin;split <;> rfl
theorem Wl{α:Type}{z x:α}{t:RS}(h:t.2=0):fin z x t=(x,t):=if_neg (by simp[h])
theorem WY{α:Type}{z x:α}{t:RS}(h:t.2≠0):fin z x t=(z,t):=if_pos h
theorem Qi(c:Bool)(s:RS):((cond c ((det (zF 4 s.1 s.2)).bind fun y=>pure (y.1,y.2)) (pure (s.1,s.2))):M RS)=pure (Wp c s):=by
 cases c with
 | true=>rw[cond_true,N.uh,zB,zA];rfl
 | false=>rfl
theorem jz(c:Bool)(s:RS):((cond (!c) ((det (zF 4 s.1 s.2)).bind fun y=>pure (y.1,y.2)) (pure (s.1,s.2))):M RS)=pure (Wp (!c) s):=Qi (!c) s
theorem Qj{α:Type}(z x:α)(t:RS):((det (zQ t.1 t.2)).bind fun y=>(cond (!decide (y.1=0)) (pure (z,y.2.1,y.2.2)) (pure (x,y.2.1,y.2.2)):M (α×List Int×Int)))=pure (fin z x t):=by
 rw[N.XC,zB,zA]
 by_cases h:t.2=0
 ·rw[Wl h,decide_eq_true h];rfl
 ·rw[WY h,decide_eq_false h];rfl
theorem WD(s:RS):(zO s).2.1.length<=s.1.length:=by
 unfold zO
 split
 ·exact Nat.le_refl _
 ·split
  ·exact Ya _ _
  ·simp
theorem qI{s:RS}(hO:Ok s)(h0:s.2=0)(h:(zO s).2.2=0):(zO s).2.1.length+1<=s.1.length:=by
 unfold zO at h ⊢;rw[if_neg (by simp[h0])] at h ⊢
 by_cases c:(N.rdN s.1).2.2=0
 ·rw[if_neg (by simp[c])];rcases N.Vi s.1 hO.by_ with(h1 | h1) | ⟨n,r,h1,h2,h3,h4,_,h5⟩
  ·rw[h1] at c;simp at c
  ·rw[h1] at c;simp at c
  ·rw[h5,h1];simp
 ·rw[if_pos c] at h;exact absurd h (N.wI c)
theorem va{s:RS}(h:(zO s).2.2≠0):(zO s).1=0:=by
 unfold zO at h ⊢
 by_cases c:s.2≠0
 ·rw[if_pos c]
 ·rw[if_neg c] at h ⊢
  by_cases c2:(N.rdN s.1).2.2≠0
  ·rw[if_pos c2]
  ·rw[if_neg c2] at h;exact absurd rfl h
theorem xva(m:Int)(s:RS):(zm m s).2.1.length<=s.1.length:=by
 have h1:=WD s;have h2:=Ya 4 (zO s).2;unfold zm
 by_cases c:m < (zO s).1
 ·rw[if_pos c];exact Nat.le_trans h2 h1
 ·rw[if_neg c];exact h1
theorem num_bad{s:RS}(h:s.2≠0):(zO s).2=s:=by rw[N.num_of h]
theorem XE{s:RS}(h:(zO s).2.2=0):s.2=0:=Classical.byContradiction fun c=>by rw[num_bad c] at h;exact c h
theorem JA{m:Int}{s:RS}(h:(zm m s).2.2=0):(zO s).2.2=0/\zm m s=zO s:=by
 unfold zm at h ⊢
 by_cases c:m < (zO s).1
 ·rw[if_pos c] at h;exact absurd h (N.wI (by decide))
 ·rw[if_neg c] at h ⊢;exact⟨h,rfl⟩
def dotR(s:RS):DT:=⟨(zm 65535 s).1,(zO (zm 65535 s).2).1⟩
def dotT(s:RS):RS:=Wp (!V.yv (dotR s)) (zO (zm 65535 s).2).2
def Zz(s:RS):DT×RS:=fin ⟨0,0⟩ (dotR s) (dotT s)
theorem qJ{s:RS}(h:Ok s):Ok (Zz s).2/\OkD (Zz s).1/\OkD (dotR s):=by
 obtain⟨h1,h2,h3⟩:=N.ZI h (m:=65535) (by decide);obtain⟨h4,h5,h6⟩:=N.yx h1;have ht:Ok (dotT s):=WX h4 _;have hr:OkD (dotR s):=⟨h2,h3,h5,h6⟩
 unfold Zz
 by_cases c:(dotT s).2=0
 ·rw[Wl c];exact⟨ht,hr,hr⟩
 ·rw[WY c];exact⟨ht,⟨Int.le_refl _,by simp,Int.le_refl _,by simp⟩,hr⟩
theorem zba{s:RS}(h:(Zz s).2.2=0):V.yv (Zz s).1=true/\(zm 65535 s).2.2=0/\(zO (zm 65535 s).2).2.2=0/\Zz s=(dotR s,(zO (zm 65535 s).2).2):=by
 unfold Zz at h ⊢;rw[XD] at h;rw[Wl h];obtain⟨h1,h2,h3⟩:=XS h;refine⟨by simpa using h1,XE h2,h2,?_⟩;show(dotR s,dotT s)=_;rw[show dotT s=(zO (zm 65535 s).2).2 from h3]
theorem dot_le(s:RS):(Zz s).2.1.length<=s.1.length:=by
 unfold Zz;rw[XD];exact Nat.le_trans (jy _ _) (Nat.le_trans (WD _) (xva _ _))
theorem dot_lt{s:RS}(hO:Ok s)(h0:s.2=0)(h:(Zz s).2.2=0):(Zz s).2.1.length+1<=s.1.length:=by
 obtain⟨_,h1,h2,h3⟩:=zba h;obtain⟨h4,h5⟩:=JA h1;rw[h3];have h6:=WD (zm 65535 s).2;rw[h5] at h6 ⊢;have h7:=qI hO h0 h4;exact Nat.le_trans (Nat.add_le_add_right h6 1) h7
theorem Dot_eq{s:RS}(h:Ok s):vL s.1 s.2=pure (Zz s):=by
 obtain⟨h1,h2,h3⟩:=N.ZI h (m:=65535) (by decide);unfold vL Zz;rw[N.jo h,zB,zA,N.vv h1,zB,zA,wU16 h2 h3,V.ug,zB,zA];have e:=jz (V.yv (dotR s)) (zO (zm 65535 s).2).2;unfold dotR at e;rw[e,zA];exact Qj _ _ _
variable{B:List Int}{a:Int}{s:RS}
def Wm(out:List DT)(x:DT):Bool:=match out.getLast? with | some y=>decide (0<=V.ypa y x) | none=>false
def ZJ(out:List DT)(s:RS):RS:=Wp (Wm out (Zz s).1) (Zz s).2
def yC : Nat->List DT->RS->List DT×RS
 | 0,out,s=>(out,s)
 | k+1,out,s=>if (ZJ out s).2≠0 then ([],ZJ out s) else yC k (out++[(Zz s).1]) (ZJ out s)
def wb(most:Int)(s:RS):List DT×RS:=if max most 0 < (zO s).1 then ([],vG 3 (zO s).2) else yC (zO s).1.toNat [] (zO s).2
theorem Yb{k:Nat}{out:List DT}{s:RS}(h:(ZJ out s).2≠0):yC (k+1) out s=([],ZJ out s):=if_pos h
theorem uQ{k:Nat}{out:List DT}{s:RS}(h:(ZJ out s).2=0):yC (k+1) out s=yC k (out++[(Zz s).1]) (ZJ out s):=if_neg (by simp[h])
theorem VF{s:RS}(h:Ok s)(out:List DT):Ok (ZJ out s):=WX (qJ h).1 _
theorem zca : ∀ (k:Nat) (out:List DT) (s:RS),Ok s->Ok (yC k out s).2
 | 0,_,_,h=>h
 | k+1,out,s,h=>by
  by_cases c:(ZJ out s).2=0
  ·rw[uQ c];exact zca k _ _ (VF h out)
  ·rw[Yb c];exact VF h out
theorem ok_dots{s:RS}(h:Ok s)(most:Int):Ok (wb most s).2:=by
 have h1:=N.yx h;unfold wb
 split
 ·exact N.YY h1.1 _
 ·exact zca _ _ _ h1.1
theorem last_idx{out:List DT}(h:out.length<=1000000000000)(x:DT)(cmp:DT->DT->M Int)(hc:∀ y,cmp y x=pure (V.ypa y x)) :
  ((cond (decide (0<=IntKind.i64.wrap ((out.length:Int) - 1))) ((idx out (IntKind.i64.wrap ((out.length:Int) - 1))).bind fun x61=>(det (cmp x61 x)).bind fun v63=>pure (decide (0<=v63))) (pure false)):M Bool)=pure (Wm out x):=by
 unfold Wm;rcases R.yr out with rfl | ⟨r,y,rfl⟩
 ·rfl
 ·have hl:((r++[y]).length:Int) - 1=(r.length:Int):=by simp
  rw[hl,VC (by omega) (by simp at h;omega)];have:decide ((0:Int)<=(r.length:Int))=true:=by simp
  rw[this,cond_true,zd (y:=y) (by simp),zA,hc,zB,zA];simp
theorem zda{out:List DT}{s:RS}(h:(ZJ out s).2=0):Wm out (Zz s).1=false/\(Zz s).2.2=0/\ZJ out s=(Zz s).2:=XS h
theorem qK{y4:Int×List Int×Int}(hn:0<=y4.1/\y4.1<=18446744073709551615):∀ (k i:Nat) (out:List DT) (s:RS),(i:Int)+k=y4.1->Ok s->s.2=0->out.length+s.1.length<=1000000000 ->
  (loop (yp y4) ((i:Int),out,s.1,s.2)).bind (exk fun⟨out9,v10,v11⟩=>pure (out9,v10,v11))=pure (yC k out s)
 | 0,i,out,s,hi,_,_,_=>by
  rw[ze (r:=.brk (out,s.1,s.2)) (by
   unfold yp;have:decide ((i:Int) < y4.1)=false:=by simp;omega
   simp only[this,cond_false])]
  rfl
 | k+1,i,out,s,hi,hO,h0,hl=>by
  have hd:=qJ hO;have hc:decide ((i:Int) < y4.1)=true:=by simp;omega
  have hlast:=last_idx (out:=out) (by omega) (Zz s).1 xn (fun y=>Vk y _);have hw:IntKind.u64.wrap ((i:Int)+1)=((i+1:Nat):Int):=by rw[WJ (by omega) (by omega)];omega
  have hb:yp y4 ((i:Int),out,s.1,s.2)=(det (zQ (ZJ out s).1 (ZJ out s).2)).bind fun y70=>cond (!decide (y70.1=0)) (pure (.done (.ret ([],y70.2.1,y70.2.2)))) (xr ((out.length+[(Zz s).1].length)*16<=140737488355328) (pure (.next (IntKind.u64.wrap ((i:Int)+1),out++[(Zz s).1],y70.2.1,y70.2.2)))):=by
   unfold yp;have e:=Qi (Wm out (Zz s).1) (Zz s).2;simp only[hc,cond_true,Dot_eq hO,zB,zA];rw[hlast,zA,e,zA]
   rfl
  rw[N.XC,zB,zA] at hb
  by_cases c:(ZJ out s).2=0
  ·obtain⟨_,c2,c3⟩:=zda c;have hlt:=dot_lt hO h0 c2;rw[decide_eq_true c,Bool.not_true,cond_false,zM (by simp;omega),hw] at hb;rw[zt hb,uQ c];exact qK hn k (i+1) _ (ZJ out s) (by omega) (VF hO out) c (by rw[c3];simp;omega)
  ·rw[decide_eq_false c,Bool.not_false,cond_true] at hb;rw[ze hb,Yb c]
   rfl
theorem JB{s:RS}(hO:Ok s){most:Int}(hm:most<=9223372036854775807):ve most s.1 s.2=pure (wb most s):=by
 obtain⟨h1,h2,h3⟩:=N.yx hO;unfold ve wb;rw[N.vv hO,zB,zA,WJ (n:=max most 0) (by omega) (by omega)]
 by_cases c:max most 0 < (zO s).1
 ·rw[decide_eq_true c,cond_true,if_pos c,N.uh 3 (zO s).2,zB,zA]
 ·rw[decide_eq_false c,cond_false,if_neg c]
  by_cases c2:(zO s).2.2=0
  ·exact qK (y4:=zO s) ⟨h2,h3⟩ (zO s).1.toNat 0 [] (zO s).2 (by omega) h1 c2 (by simp;have:=h1.len;omega)
  ·have hz:=va c2;rw[hz,ze (r:=.brk ([],(zO s).2.1,(zO s).2.2)) (by
    unfold yp;simp only[hz,show decide ((0:Int) < 0)=false from rfl,cond_false])]
   rfl
open N (RS Ok zO zm vG YH OkB Sim)
def vi : Nat->List RN->RS->List RN×RS
 | 0,out,s=>(out,s)
 | k+1,out,s=>
  if (zO (zO s).2).2.2≠0 then (out++[⟨(zO s).1,(zO (zO s).2).1⟩],(zO (zO s).2).2) else vi k (out++[⟨(zO s).1,(zO (zO s).2).1⟩]) (zO (zO s).2).2
def xI(s:RS):PT×RS:=(⟨(zm 65535 s).1,(vi (zO (zm 65535 s).2).1.toNat [] (zO (zm 65535 s).2).2).1⟩,(vi (zO (zm 65535 s).2).1.toNat [] (zO (zm 65535 s).2).2).2)
theorem Vl{k:Nat}{out:List RN}{s:RS}(h:(zO (zO s).2).2.2≠0):vi (k+1) out s=(out++[⟨(zO s).1,(zO (zO s).2).1⟩],(zO (zO s).2).2):=if_pos h
theorem Yr{k:Nat}{out:List RN}{s:RS}(h:(zO (zO s).2).2.2=0):vi (k+1) out s=vi k (out++[⟨(zO s).1,(zO (zO s).2).1⟩]) (zO (zO s).2).2:=if_neg (by simp[h])
theorem two_lt{s:RS}(hO:Ok s)(h0:s.2=0)(h:(zO (zO s).2).2.2=0):(zO (zO s).2).2.1.length+2<=s.1.length:=by
 have h1:=XE h;have h2:=qI hO h0 h1;have h3:=qI (N.yx hO).1 h1 h;omega
theorem two_le(s:RS):(zO (zO s).2).2.1.length<=s.1.length:=Nat.le_trans (WD _) (WD _)
def xwa(x:RN):Prop:=(0<=x.lo/\x.lo<=18446744073709551615)/\0<=x.hi/\x.hi<=18446744073709551615
theorem xxa{s:RS}(h:Ok s):Ok (zO (zO s).2).2/\xwa ⟨(zO s).1,(zO (zO s).2).1⟩:=by
 obtain⟨h1,h2,h3⟩:=N.yx h;obtain⟨h4,h5,h6⟩:=N.yx h1;exact⟨h4,⟨h2,h3⟩,h5,h6⟩
theorem Vm : ∀ (k:Nat) (out:List RN) (s:RS),Ok s->s.2=0->(∀ x∈out,xwa x)->Ok (vi k out s).2/\(∀ x∈(vi k out s).1,xwa x)/\(vi k out s).1.length+(vi k out s).2.1.length<=out.length+s.1.length+1 /\
  ((vi k out s).2.2=0->(vi k out s).1.length+(vi k out s).2.1.length<=out.length+s.1.length/\(vi k out s).1.length=out.length+k)
 | 0,out,s,h,_,ho=>⟨h,ho,by show out.length+s.1.length<=_;omega,fun _=>⟨Nat.le_refl _,rfl⟩⟩
 | k+1,out,s,h,h0,ho=>by
  obtain⟨h1,h2⟩:=xxa h;have ho':∀ x∈out++[⟨(zO s).1,(zO (zO s).2).1⟩],xwa x:=fun x hx=>by
   rcases List.mem_append.1 hx with h | h
   ·exact ho x h
   ·rw[List.mem_singleton.1 h];exact h2
  by_cases c:(zO (zO s).2).2.2=0
  ·rw[Yr c];obtain⟨q1,q2,q3,q4⟩:=Vm k _ _ h1 c ho';have hlt:=two_lt h h0 c;simp only[List.length_append,List.length_singleton] at q3 q4;refine⟨q1,q2,by omega,fun hz=>?_⟩;have:=q4 hz;omega
  ·rw[Vl c];have:=two_le s;exact⟨h1,ho',by simp;omega,fun hz=>absurd hz c⟩
theorem qL{y5:Int×List Int×Int}(hn:0<=y5.1/\y5.1<=18446744073709551615):∀ (k i:Nat) (out:List RN) (s:RS),(i:Int)+k=y5.1->Ok s->s.2=0->out.length+s.1.length<=1000000000 ->
  loop (yq y5) ((i:Int),out,s.1,s.2)=pure (vi k out s)
 | 0,i,out,s,hi,_,_,_=>by
  exact ze (by
   unfold yq;have:decide ((i:Int) < y5.1)=false:=by simp;omega
   simp only[this,cond_false]
   rfl)
 | k+1,i,out,s,hi,hO,h0,hl=>by
  obtain⟨h1,h2,h3⟩:=N.yx hO;have hc:decide ((i:Int) < y5.1)=true:=by simp;omega
  have hw:IntKind.u64.wrap ((i:Int)+1)=((i+1:Nat):Int):=by rw[WJ (by omega) (by omega)];omega
  have hb:yq y5 ((i:Int),out,s.1,s.2)=cond (!decide ((zO (zO s).2).2.2=0)) (pure (.done (out++[⟨(zO s).1,(zO (zO s).2).1⟩],(zO (zO s).2).2))) (pure (.next (((i+1:Nat):Int),out++[⟨(zO s).1,(zO (zO s).2).1⟩],(zO (zO s).2).2.1,(zO (zO s).2).2.2))):=by
   unfold yq;simp only[hc,cond_true,N.vv hO,N.vv h1,zB,zA,N.XC];rw[zM (by simp;omega),hw]
  by_cases c:(zO (zO s).2).2.2=0
  ·have hlt:=two_lt hO h0 c;rw[decide_eq_true c,Bool.not_true,cond_false] at hb;rw[zt hb,Yr c];exact qL hn k (i+1) _ (zO (zO s).2).2 (by omega) (xxa hO).1 c (by simp;omega)
  ·rw[decide_eq_false c,Bool.not_false,cond_true] at hb;rw[ze hb,Vl c]
theorem part_eq{s:RS}(hO:Ok s):ZC s.1 s.2=pure (xI s):=by
 obtain⟨h1,h2,h3⟩:=N.ZI hO (m:=65535) (by decide);obtain⟨h4,h5,h6⟩:=N.yx h1;unfold ZC xI;rw[N.jo hO,zB,zA,N.vv h1,zB,zA,wU16 h2 h3]
 by_cases c:(zO (zm 65535 s).2).2.2=0
 ·have:=qL (y5:=zO (zm 65535 s).2) ⟨h5,h6⟩ (zO (zm 65535 s).2).1.toNat 0 [] (zO (zm 65535 s).2).2 (by omega) h4 c (by simp;have:=h4.len;omega);rw[show((0:Nat):Int)=0 from rfl] at this;rw[this,zA]
 ·have hz:=va c;rw[hz,ze (r:=([],(zO (zm 65535 s).2).2)) (by
   unfold yq;simp only[hz,show decide ((0:Int) < 0)=false from rfl,cond_false]),zA]
  rfl
theorem WZ{s:RS}(hO:Ok s)(h0:s.2=0):Ok (xI s).2/\OkP (xI s).1/\((xI s).1.runs.length<=1000000001)/\((xI s).2.2=0->(xI s).1.runs.length+(xI s).2.1.length+2<=s.1.length):=by
 obtain⟨h1,h2,h3⟩:=N.ZI hO (m:=65535) (by decide);obtain⟨h4,h5,h6⟩:=N.yx h1;have hl:=h4.len;unfold xI
 by_cases c:(zO (zm 65535 s).2).2.2=0
 ·obtain⟨q1,q2,q3,q4⟩:=Vm (zO (zm 65535 s).2).1.toNat [] _ h4 c (by simp);refine⟨q1,⟨h2,h3,q2⟩,by simp at q3 ⊢;omega,fun hz=>?_⟩;have hq:=q4 hz;obtain⟨e1,e2⟩:=JA (XE c);have h7:=qI hO h0 e1;have h8:=qI h1 (XE c) c;rw[e2] at h8 hq ⊢;simp only[List.length_nil,Nat.zero_add] at hq ⊢;omega
 ·rw[va c];refine⟨h4,⟨h2,h3,by intro x hx;cases hx⟩,by simp[vi],fun hz=>absurd hz c⟩
def XT : Nat->List PT->RS->Bool×List PT×RS
 | 0,out,s=>(true,out,s)
 | k+1,out,s=>if (xI s).2.2≠0 then (false,[],(xI s).2) else XT k (out++[(xI s).1]) (xI s).2
def xB(s:RS):List PT×RS:=
 let r:=XT (zO s).1.toNat [] (zO s).2
 if r.1=true then fin [] r.2.1 (Wp (!decide (r.2.1=C.yG r.2.1)) r.2.2) else ([],r.2.2)
theorem VG{k:Nat}{out:List PT}{s:RS}(h:(xI s).2.2≠0):XT (k+1) out s=(false,[],(xI s).2):=if_pos h
theorem Yc{k:Nat}{out:List PT}{s:RS}(h:(xI s).2.2=0):XT (k+1) out s=XT k (out++[(xI s).1]) (xI s).2:=if_neg (by simp[h])
theorem tot_snoc(c:List PT)(p:PT):C.xX (c++[p])=C.xX c+p.runs.length:=by rw[C.zPa];simp[C.xX]
theorem Ys : ∀ (k:Nat) (out:List PT) (s:RS),Ok s->s.2=0->(∀ p∈out,OkP p)->out.length+C.xX out+s.1.length<=1000000000->Ok (XT k out s).2.2/\(∀ p∈(XT k out s).2.1,OkP p)/\(XT k out s).2.1.length+C.xX (XT k out s).2.1<=1000000000 /\
  ((XT k out s).1=true↔(XT k out s).2.2.2=0)/\((XT k out s).1=true->(XT k out s).2.1.length=out.length+k/\(XT k out s).2.2.1.length<=s.1.length)
 | 0,out,s,h,h0,ho,hl=>⟨h,ho,by show out.length+C.xX out<=_;omega,⟨fun _=>h0,fun _=>rfl⟩,fun _=>⟨rfl,Nat.le_refl _⟩⟩
 | k+1,out,s,h,h0,ho,hl=>by
  obtain⟨h1,h2,h3,h4⟩:=WZ h h0
  by_cases c:(xI s).2.2=0
  ·rw[Yc c];have:=h4 c;obtain⟨q1,q2,q3,q4,q5⟩:=Ys k (out++[(xI s).1]) (xI s).2 h1 c (fun p hp=>by
    rcases List.mem_append.1 hp with h | h
    ·exact ho p h
    ·rw[List.mem_singleton.1 h];exact h2) (by rw[tot_snoc];simp;omega)
   refine⟨q1,q2,q3,q4,fun hz=>?_⟩;have:=q5 hz;simp at this;omega
  ·rw[VG c];exact⟨h1,by simp,by simp[C.xX],⟨fun h=>(by cases h),fun h=>absurd h c⟩,fun h=>(by cases h)⟩
theorem zea : ∀ (k:Nat) (out:List PT) (s:RS),(XT k out s).1=false->(XT k out s).2.1=[]
 | 0,out,s,h=>by cases h
 | k+1,out,s,h=>by
  by_cases c:(xI s).2.2=0
  ·rw[Yc c] at h ⊢;exact zea k _ _ h
  ·rw[VG c]
theorem zfa{y3:Int×List Int×Int}(hn:0<=y3.1/\y3.1<=18446744073709551615):∀ (k i:Nat) (out:List PT) (s:RS),(i:Int)+k=y3.1->Ok s->s.2=0->out.length+s.1.length<=1000000000 ->
  loop (xK y3) ((i:Int),out,s.1,s.2)=pure (if (XT k out s).1=true then .brk (XT k out s).2 else .ret (XT k out s).2)
 | 0,i,out,s,hi,_,_,_=>by
  exact ze (by
   unfold xK;have:decide ((i:Int) < y3.1)=false:=by simp;omega
   simp only[this,cond_false]
   rfl)
 | k+1,i,out,s,hi,hO,h0,hl=>by
  obtain⟨h1,h2,h3,h4⟩:=WZ hO h0;have hc:decide ((i:Int) < y3.1)=true:=by simp;omega
  have hw:IntKind.u64.wrap ((i:Int)+1)=((i+1:Nat):Int):=by rw[WJ (by omega) (by omega)];omega
  have hb:xK y3 ((i:Int),out,s.1,s.2)=cond (!decide ((xI s).2.2=0)) (pure (.done (.ret ([],(xI s).2)))) (pure (.next (((i+1:Nat):Int),out++[(xI s).1],(xI s).2.1,(xI s).2.2))):=by
   unfold xK;simp only[hc,cond_true,part_eq hO,zB,zA,N.XC];rw[zM (by simp;omega),hw]
  by_cases c:(xI s).2.2=0
  ·have hlt:=h4 c;rw[decide_eq_true c,Bool.not_true,cond_false] at hb;rw[zt hb,Yc c];exact zfa hn k (i+1) _ (xI s).2 (by omega) h1 c (by simp;omega)
  ·rw[decide_eq_false c,Bool.not_false,cond_true] at hb;rw[ze hb,VG c]
   rfl
theorem zga{c:List PT}(h:∀ p∈c,OkP p)(hl:c.length+C.xX c<=1000000000):C.Ok c:=⟨fun p hp=>(h p hp).d0,by omega,by omega⟩
theorem Vn{s:RS}(hO:Ok s):yz s.1 s.2=pure (xB s):=by
 obtain⟨h1,h2,h3⟩:=N.yx hO;unfold yz xB;rw[N.vv hO,zB,zA];have good:∀ (c:List PT) (t:RS),C.Ok c->((det (xU c)).bind fun v37=>cond (!v37) ((det (zF 4 t.1 t.2)).bind fun y40=>pure (([]:List PT),y40.1,y40.2)) (pure (c,t.1,t.2)))=pure (if decide (c=C.yG c)=true then (c,t) else ([],vG 4 t)):=fun c t hc=>by
  rw[C.xq c hc.sm,zB,zA]
  cases decide (c=C.yG c) with
  | true=>rfl
  | false=>rw[Bool.not_false,cond_true,N.uh,zB,zA];rfl
 by_cases c2:(zO s).2.2=0
 ·have:=zfa (y3:=zO s) ⟨h2,h3⟩ (zO s).1.toNat 0 [] (zO s).2 (by omega) h1 c2 (by simp;have:=h1.len;omega);rw[show((0:Nat):Int)=0 from rfl] at this;rw[this,zA];obtain⟨q1,q2,q3,q4,_⟩:=Ys (zO s).1.toNat [] (zO s).2 h1 c2 (by simp) (by simp[C.xX];have:=h1.len;omega);have qn:=zea (zO s).1.toNat [] (zO s).2
  generalize XT (zO s).1.toNat [] (zO s).2=r at *
  obtain⟨b,c,t⟩:=r;simp only[] at *
  cases b with
  | false=>rw[qn rfl];rfl
  | true=>
   have hz:=q4.1 rfl;show((det (xU c)).bind _)=_;rw[good c t (zga q2 q3),if_pos rfl]
   cases hg:decide (c=C.yG c) with
   | true=>rw[if_pos rfl,Bool.not_true,uP,Wl hz]
   | false=>rw[if_neg (by simp),Bool.not_false,WY xua];rfl
 ·have hz:=va c2;rw[hz,ze (r:=.brk ([],(zO s).2)) (by
   unfold xK;simp only[hz,show decide ((0:Int) < 0)=false from rfl,cond_false]),zA]
  show((det (xU [])).bind _)=pure (if true=true then fin [] [] (Wp (!decide (([]:List PT)=C.yG [])) (zO s).2) else ([],(zO s).2));rw[good [] (zO s).2 C.xv,if_pos rfl];have e:C.yG []=[]:=rfl;rw[e];simp only[decide_true,if_true,Bool.not_true,uP];rw[WY c2]
theorem yj{s:RS}(hO:Ok s):Ok (xB s).2/\(∀ p∈(xB s).1,OkP p)/\(xB s).1.length+C.xX (xB s).1<=1000000000/\((xB s).2.2≠0->(xB s).1=[])/\((xB s).2.2=0->(xB s).1=C.yG (xB s).1):=by
 obtain⟨h1,h2,h3⟩:=N.yx hO;unfold xB
 by_cases c2:(zO s).2.2=0
 ·obtain⟨q1,q2,q3,q4,_⟩:=Ys (zO s).1.toNat [] (zO s).2 h1 c2 (by simp) (by simp[C.xX];have:=h1.len;omega)
  generalize XT (zO s).1.toNat [] (zO s).2=r at *
  obtain⟨b,c,t⟩:=r;simp only[] at *
  cases b with
  | false=>exact⟨q1,by simp,by simp[C.xX],fun _=>rfl,fun _=>rfl⟩
  | true=>
   rw[if_pos rfl,XD];refine⟨WX q1 _,?_⟩
   by_cases hb:(Wp (!decide (c=C.yG c)) t).2=0
   ·rw[Wl hb];have:=(XS hb).1;exact⟨q2,q3,fun h=>absurd hb h,fun _=>by simpa using this⟩
   ·rw[WY hb];exact⟨by simp,by simp[C.xX],fun _=>rfl,fun h=>absurd h hb⟩
 ·rw[va c2];show Ok (if true=true then fin [] [] (Wp (!decide (([]:List PT)=C.yG [])) (zO s).2) else ([],(zO s).2)).2/\_;have e:C.yG []=[]:=rfl;simp only[XT,Int.toNat_zero,e,decide_true,Bool.not_true,uP,if_true,WY c2];exact⟨h1,by simp,by simp[C.xX],fun _=>trivial,fun _=>trivial⟩
variable{B:List Int}{a:Int}{s:RS}
open N (RS Ok zO zm vG YH OkB Sim)
def UM : List DT->Bool
 | []=>true
 | x::r=>(match r with | []=>true | y::_=>zx x y)&&UM r
theorem JC : ∀ {l:List DT},UM l=true↔Srt l
 | []=>⟨fun _=>List.Pairwise.nil,fun _=>rfl⟩
 | [x]=>⟨fun _=>by simp[Srt],fun _=>rfl⟩
 | x::y::r=>by
  show(zx x y&&UM (y::r))=true↔_;rw[Bool.and_eq_true,JC (l:=y::r)];unfold Srt;rw[List.pairwise_cons (a:=x)]
  constructor
  ·rintro⟨h1,h2⟩;refine⟨fun z hz=>?_,h2⟩;rcases List.mem_cons.1 hz with rfl | hz
   ·exact h1
   ·exact Yq h1 ((List.pairwise_cons.1 h2).1 z hz)
  ·rintro⟨h1,h2⟩;exact⟨h1 y (by simp),h2⟩
theorem qM(x y:DT):decide (0<=V.ypa x y)=!zx x y:=by
 by_cases h:zx x y=true
 ·have:=V.jZ.2 h;rw[h];simp;omega
 ·have h2:¬ V.ypa x y < 0:=fun e=>h (V.jZ.1 e)
  simp only[Bool.not_eq_true] at h;rw[h];simp;omega
theorem ui{v:Int}(h0:0<=v)(h:v<=18446744073709551615)(r:List Int):zO (N.yi v++r,0)=(v,(r,0)):=by
 have e:=N.rdN_enc h0 h r;unfold zO;simp only[e,ne_eq,not_true_eq_false,if_false,List.drop_left]
theorem JD{v m:Int}(h0:0<=v)(h:v<=m)(hm:m<=18446744073709551615)(r:List Int):zm m (N.yi v++r,0)=(v,(r,0)):=by
 unfold zm;rw[ui h0 (by omega) r];exact if_neg (by simp;omega)
theorem xya{d:DT}(h:OkD d)(hg:V.yv d=true)(r:List Int):Zz (encD d++r,0)=(d,(r,0)):=by
 have e1:=JD h.d0 h.d1 (by decide) (N.yi d.n++r);have e2:=ui h.n0 h.n1 r;have e:encD d++r=N.yi d.dev++(N.yi d.n++r):=by rw[encD,List.append_assoc]
 have hR:dotR (encD d++r,0)=d:=by unfold dotR;rw[e,e1];simp only[e2]
 unfold Zz dotT;rw[hR,hg,e,e1];simp only[e2,Bool.not_true,uP]
 rfl
theorem yVa{out:List DT}{x:DT}(h:∀ y∈out,zx y x=true):Wm out x=false:=by
 unfold Wm
 cases hl:out.getLast? with
 | none=>rfl
 | some y=>
  have:=h y (List.mem_of_getLast? hl);simp only[qM,this,Bool.not_true]
theorem qO : ∀ (l out:List DT) (r:List Int),Srt (out++l)->(∀ d∈l,OkD d/\V.yv d=true)->yC l.length out (l.flatMap encD++r,0)=(out++l,(r,0))
 | [],out,r,_,_=>by simp[yC]
 | x::t,out,r,hs,h=>by
  have hx:=h x (by simp);have e:Zz ((x::t).flatMap encD++r,0)=(x,(t.flatMap encD++r,0)):=by
   rw[List.flatMap_cons,List.append_assoc];exact xya hx.1 hx.2 _
  have hT:ZJ out ((x::t).flatMap encD++r,0)=(t.flatMap encD++r,0):=by
   unfold ZJ;rw[e];simp only[];rw[yVa fun y hy=>(List.pairwise_append.1 hs).2.2 y hy x (by simp)]
   rfl
  rw[List.length_cons,uQ (by rw[hT]),hT,e];simp only[];rw[qO t (out++[x]) r (by rw[List.append_assoc];exact hs) (fun d hd=>h d (by simp[hd])),List.append_assoc]
  rfl
theorem Vo{l:List DT}(hs:Srt l)(h:∀ d∈l,V.yv d=true):uG (uq l)=l:=by
 have e:uq l=l:=List.filter_eq_self.2 h;rw[e];exact xqa hs
theorem dots_enc{l:List DT}(hs:Srt l)(h:∀ d∈l,OkD d/\V.yv d=true){most:Int}(hm:(l.length:Int)<=most)(hl:l.length<=1000000000000)(r:List Int):wb most (ur l++r,0)=(l,(r,0)):=by
 have e1:=Vo hs fun d hd=>(h d hd).2
 have e2:ur l++r=N.yi (l.length:Int)++(l.flatMap encD++r):=by rw[ur,e1,List.append_assoc]
 unfold wb;rw[e2,ui (by omega) (by omega)];simp only[];rw[if_neg (by omega),Int.toNat_natCast,qO l [] r (by simpa using hs) h]
 rfl
theorem qP : ∀ (l out:List RN) (r:List Int),(∀ x∈l,xwa x)->vi l.length out (l.flatMap UL++r,0)=(out++l,(r,0))
 | [],out,r,_=>by simp[vi]
 | x::t,out,r,h=>by
  have hx:=h x (by simp);have e1:zO ((x::t).flatMap UL++r,0)=(x.lo,(N.yi x.hi++(t.flatMap UL++r),0)):=by
   rw[List.flatMap_cons,UL,List.append_assoc,List.append_assoc];exact ui hx.1.1 hx.1.2 _
  have e2:zO (N.yi x.hi++(t.flatMap UL++r),0)=(x.hi,(t.flatMap UL++r,0)):=ui hx.2.1 hx.2.2 _;rw[List.length_cons,Yr (by rw[e1];simp only[e2]),e1];simp only[e2];rw[qP t _ r fun y hy=>h y (by simp[hy]),List.append_assoc]
  rfl
theorem part_enc{p:PT}(h:OkP p)(hl:p.runs.length<=1000000000000)(r:List Int):xI (jw p++r,0)=(p,(r,0)):=by
 have e:jw p++r=N.yi p.dev++(N.yi (p.runs.length:Int)++(p.runs.flatMap UL++r)):=by rw[jw,List.append_assoc,List.append_assoc]
 have e1:=JD h.d0 h.d1 (by decide) (N.yi (p.runs.length:Int)++(p.runs.flatMap UL++r));have e2:=ui (v:=(p.runs.length:Int)) (by omega) (by omega) (p.runs.flatMap UL++r);unfold xI;rw[e,e1];simp only[e2,Int.toNat_natCast];rw[qP p.runs [] r h.r]
 rfl
theorem zha : ∀ (c out:List PT) (r:List Int),(∀ p∈c,OkP p/\p.runs.length<=1000000000000)->XT c.length out (c.flatMap jw++r,0)=(true,out++c,(r,0))
 | [],out,r,_=>by simp[XT]
 | p::t,out,r,h=>by
  have hp:=h p (by simp);have e:xI ((p::t).flatMap jw++r,0)=(p,(t.flatMap jw++r,0)):=by
   rw[List.flatMap_cons,List.append_assoc];exact part_enc hp.1 hp.2 _
  rw[List.length_cons,Yc (by rw[e]),e];simp only[];rw[zha t _ r fun q hq=>h q (by simp[hq]),List.append_assoc]
  rfl
theorem ctx_encN{c:List PT}(hc:c=C.yG c)(h:∀ p∈c,OkP p)(hl:c.length<=1000000000000/\C.xX c<=1000000000000)(r:List Int):xB (qB c++r,0)=(c,(r,0)):=by
 have e:qB c++r=N.yi (c.length:Int)++(c.flatMap jw++r):=by rw[qB,List.append_assoc]
 have e1:=ui (v:=(c.length:Int)) (by omega) (by omega) (c.flatMap jw++r);have e2:=zha c [] r fun p hp=>⟨h p hp,by have:=C.xia p hp;omega⟩
 unfold xB;rw[e,e1];simp only[Int.toNat_natCast];simp only[e2,List.nil_append,if_true];have hdc:decide (c=C.yG c)=true:=decide_eq_true hc;rw[hdc]
 rfl
theorem xza(c:List PT):C.yG c=C.yG (C.yG c):=(C.yOa (C.Yn c)).symm
theorem Qk{c:List PT}(h:∀ p∈c,p.dev<=65535)(hl:c.length<=100000000/\C.xX c<=100000000)(r:List Int):xB (ut c++r,0)=(C.yG c,(r,0)):=
 ctx_encN (xza c) (jx h) ⟨by have:=C.Xx c;omega,by have:=C.Xy c;omega⟩ r
open N (RS Ok zO zm vG YH OkB Sim)
theorem vr{s:RS}(hO:Ok s)(h:(zO s).2.2=0):s.1=N.yi (zO s).1++(zO s).2.1:=by
 have h0:=XE h;unfold zO at h ⊢;rw[if_neg (by simp[h0])] at h ⊢
 by_cases c:(N.rdN s.1).2.2=0
 ·rw[if_neg (by simp[c])];exact N.rdN_one hO.by_ c
 ·rw[if_pos c] at h;exact absurd h (N.wI c)
theorem VH{s:RS}(hO:Ok s){m:Int}(h:(zm m s).2.2=0):s.1=N.yi (zm m s).1++(zm m s).2.1:=by
 obtain⟨h1,h2⟩:=JA h;rw[h2];exact vr hO h1
theorem x0a{s:RS}(hO:Ok s)(h:(Zz s).2.2=0):s.1=encD (Zz s).1++(Zz s).2.1:=by
 obtain⟨_,h1,h2,h3⟩:=zba h;have e1:=VH hO h1;have e2:=vr (N.ZI hO (m:=65535) (by decide)).1 h2;rw[h3];show s.1=(N.yi (zm 65535 s).1++N.yi (zO (zm 65535 s).2).1)++_;rw[List.append_assoc,<- e2];exact e1
theorem qQ : ∀ (k:Nat) (out:List DT) (s:RS),Ok s->s.2=0->Srt out->(∀ d∈out,V.yv d=true)->(yC k out s).2.2=0->∃ l,(yC k out s).1=out++l/\l.length=k/\s.1=l.flatMap encD++(yC k out s).2.1/\Srt (out++l)/\(∀ d∈out++l,V.yv d=true)/\∀ d∈l,OkD d
 | 0,out,s,_,_,hs,hg,_=>⟨[],by simp[yC],rfl,by simp[yC],by simpa using hs,by simpa using hg,by simp⟩
 | k+1,out,s,hO,h0,hs,hg,h=>by
  by_cases c:(ZJ out s).2=0
  ·obtain⟨c1,c2,c3⟩:=zda c;rw[uQ c] at h ⊢;have hgd:=(zba c2).1;have hs2:Srt (out++[(Zz s).1]):=by
    unfold Srt;rw[List.pairwise_append];refine⟨hs,by simp,fun a ha b hb=>?_⟩;rw[List.mem_singleton.1 hb];rcases R.yr out with rfl | ⟨q,y,rfl⟩
    ·simp at ha
    ·have hy:zx y (Zz s).1=true:=by
      unfold Wm at c1;simp only[List.getLast?_append,List.getLast?_singleton,Option.some_or,qM] at c1;simpa using c1
     rcases List.mem_append.1 ha with h5 | h5
     ·exact Yq ((List.pairwise_append.1 hs).2.2 a h5 y (by simp)) hy
     ·rw[List.mem_singleton.1 h5];exact hy
   obtain⟨l,e1,e2,e3,e4,e5,e6⟩:=qQ k _ _ (VF hO out) c hs2 (fun d hd=>by
    rcases List.mem_append.1 hd with h5 | h5
    ·exact hg d h5
    ·rw[List.mem_singleton.1 h5];exact hgd) h
   refine⟨(Zz s).1::l,by rw[e1];simp,by simp[e2],?_,by simpa using e4,by simpa using e5,fun d hd=>?_⟩
   ·rw[List.flatMap_cons,List.append_assoc,<- e3,c3];exact x0a hO c2
   ·rcases List.mem_cons.1 hd with rfl | h5
    ·exact(qJ hO).2.1
    ·exact e6 d h5
  ·rw[Yb c] at h;exact absurd h c
theorem zia{s:RS}(hO:Ok s){most:Int}(h:(wb most s).2.2=0):s.1=ur (wb most s).1++(wb most s).2.1/\Srt (wb most s).1/\(∀ d∈(wb most s).1,V.yv d=true/\OkD d)/\((wb most s).1.length:Int)<=max most 0:=by
 obtain⟨h1,h2,h3⟩:=N.yx hO;unfold wb at h ⊢
 by_cases c:max most 0 < (zO s).1
 ·rw[if_pos c] at h;exact absurd h (N.wI (by decide))
 ·rw[if_neg c] at h ⊢;have c2:(zO s).2.2=0:=Classical.byContradiction fun c2=>by
   rw[va c2] at h;exact c2 h
  obtain⟨l,e1,e2,e3,e4,e5,e6⟩:=qQ _ [] _ h1 c2 List.Pairwise.nil (by simp) h;rw[List.nil_append] at e1 e4 e5;rw[e1];refine⟨?_,e4,fun d hd=>⟨e5 d hd,e6 d hd⟩,by omega⟩;rw[ur,Vo e4 e5,List.append_assoc,<- e3,e2,Int.toNat_of_nonneg h2];exact vr hO c2
theorem dots_bad{s:RS}{most:Int}(h:(wb most s).2.2≠0):(wb most s).1=[]:=by
 have hL:∀ (k:Nat) (out:List DT) (s:RS),s.2=0\/out=[]->(yC k out s).2.2≠0->(yC k out s).1=[]:=by
  intro k
  induction k with
  | zero=>
   intro out s h1 h2;rcases h1 with h1 | h1
   ·exact absurd h1 h2
   ·exact h1
  | succ k ih=>
   intro out s _ h2
   by_cases c:(ZJ out s).2=0
   ·rw[uQ c] at h2 ⊢;exact ih _ _ (.inl c) h2
   ·rw[Yb c]
 unfold wb at h ⊢
 split at h
 ·rename_i c;rw[if_pos c]
 ·rename_i c;rw[if_neg c];exact hL _ _ _ (.inr rfl) h
theorem qR : ∀ (k:Nat) (out:List RN) (s:RS),Ok s->(vi k out s).2.2=0->∃ l,(vi k out s).1=out++l/\l.length=k/\s.1=l.flatMap UL++(vi k out s).2.1
 | 0,out,s,_,_=>⟨[],by simp[vi],rfl,by simp[vi]⟩
 | k+1,out,s,hO,h=>by
  by_cases c:(zO (zO s).2).2.2=0
  ·rw[Yr c] at h ⊢;obtain⟨l,e1,e2,e3⟩:=qR k _ _ (xxa hO).1 h;refine⟨⟨(zO s).1,(zO (zO s).2).1⟩::l,by rw[e1];simp,by simp[e2],?_⟩;rw[List.flatMap_cons,List.append_assoc,<- e3,UL,List.append_assoc,<- vr (N.yx hO).1 c];exact vr hO (XE c)
  ·rw[Vl c] at h;exact absurd h c
theorem part_inv{s:RS}(hO:Ok s)(h:(xI s).2.2=0):s.1=jw (xI s).1++(xI s).2.1:=by
 obtain⟨h1,h2,h3⟩:=N.ZI hO (m:=65535) (by decide);obtain⟨h4,h5,h6⟩:=N.yx h1;unfold xI at h ⊢;have c:(zO (zm 65535 s).2).2.2=0:=Classical.byContradiction fun c=>by rw[va c] at h;exact c h
 obtain⟨l,e1,e2,e3⟩:=qR _ [] _ h4 h;rw[List.nil_append] at e1;show s.1=(N.yi (zm 65535 s).1++(N.yi ((vi (zO (zm 65535 s).2).1.toNat [] (zO (zm 65535 s).2).2).1.length:Int)++(vi (zO (zm 65535 s).2).1.toNat [] (zO (zm 65535 s).2).2).1.flatMap UL))++(vi (zO (zm 65535 s).2).1.toNat [] (zO (zm 65535 s).2).2).2.1;rw[e1,List.append_assoc,List.append_assoc,<- e3,e2,Int.toNat_of_nonneg h5,<- vr h1 c];exact VH hO (XE c)
theorem zja : ∀ (k:Nat) (out:List PT) (s:RS),Ok s->s.2=0->(XT k out s).1=true->∃ l,(XT k out s).2.1=out++l/\l.length=k/\s.1=l.flatMap jw++(XT k out s).2.2.1
 | 0,out,s,_,_,_=>⟨[],by simp[XT],rfl,by simp[XT]⟩
 | k+1,out,s,hO,h0,h=>by
  by_cases c:(xI s).2.2=0
  ·rw[Yc c] at h ⊢;obtain⟨l,e1,e2,e3⟩:=zja k _ _ (WZ hO h0).1 c h;refine⟨(xI s).1::l,by rw[e1];simp,by simp[e2],?_⟩;rw[List.flatMap_cons,List.append_assoc,<- e3];exact part_inv hO c
  ·rw[VG c] at h;cases h
theorem x1a{s:RS}(hO:Ok s)(h:(xB s).2.2=0):s.1=ut (xB s).1++(xB s).2.1:=by
 have hn:=(yj hO).2.2.2.2 h;obtain⟨h1,h2,h3⟩:=N.yx hO;rw[ut,<- hn];unfold xB at h ⊢;have c:(zO s).2.2=0:=Classical.byContradiction fun c=>by
  have hz:=va c;have e:C.yG []=[]:=rfl;simp only[hz,XT,Int.toNat_zero,e,decide_true,Bool.not_true,uP,if_true,XD] at h;exact c h
 have hi:=zja (zO s).1.toNat [] (zO s).2 h1 c;obtain⟨q1,q2,q3,q4,_⟩:=Ys (zO s).1.toNat [] (zO s).2 h1 c (by simp) (by simp[C.xX];have:=h1.len;omega)
 generalize XT (zO s).1.toNat [] (zO s).2=r at *
 obtain⟨b,x,t⟩:=r;simp only[] at *
 cases b with
 | false=>
  have hz:t.2=0:=h;have:=q4.2 hz;cases this
 | true=>
  rw[if_pos rfl] at h ⊢;rw[XD] at h;rw[Wl h,(XS h).2.2];obtain⟨l,e1,e2,e3⟩:=hi rfl;rw[List.nil_append] at e1;subst e1;show s.1=(N.yi (x.length:Int)++x.flatMap jw)++t.1;rw[List.append_assoc,<- e3,e2,Int.toNat_of_nonneg h2];exact vr hO c
theorem qV{s:RS}(h:(YH s).1=0):s.1=[]/\s.2=0:=by
 unfold YH at h
 by_cases c:0 < s.1.length
 ·simp only[if_pos c] at h;exact absurd h (N.wI (by decide))
 ·simp only[if_neg c] at h;exact⟨List.eq_nil_of_length_eq_zero (by omega),h⟩
end Go.Ep.M.D

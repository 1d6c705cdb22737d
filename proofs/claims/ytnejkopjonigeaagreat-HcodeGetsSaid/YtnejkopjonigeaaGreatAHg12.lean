/- Side texts. -/
import Derived.Test.YtnejkopjonigeaaGreatAHg6
import Derived.Test.YtnejkopjonigeaaGreatAHg10
import Derived.Test.YtnejkopjonigeaaGreatAHg11
set_option linter.unusedVariables false
set_option linter.unusedSimpArgs false
namespace Go.Ep.M.C
open Go
def xb(c:List PT)(k:Int):List RN:=(c.filter fun p=>decide (p.dev=k)&&decide (0 < k)).flatMap (·.runs)
theorem yla(k:Int):xb [] k=[]:=rfl
theorem YW(p:PT)(c:List PT)(k:Int):xb (p::c) k=(if p.dev=k/\0 < k then p.runs else [])++xb c k:=by
 unfold xb;rw[List.filter_cons]
 by_cases h:p.dev=k/\0 < k
 ·simp[h.1,h.2]
 ·rw[if_neg (by simpa using h),if_neg h];rfl
theorem jN(a b:List PT)(k:Int):xb (a++b) k=xb a k++xb b k:=by simp[xb,List.filter_append]
theorem yma{c:List PT}{k:Int}(h:¬ 0 < k):xb c k=[]:=by simp[xb,h]
def ZW(c:List PT)(k n:Int):Bool:=R.wA (xb c k) n
theorem hasC_app(a b:List PT)(k n:Int):ZW (a++b) k n=(ZW a k n||ZW b k n):=by simp[ZW,jN,R.Yo]
def xn(c:List PT):Nat:=(c.map fun p=>p.runs.length).sum
theorem qI(a b:List PT):xn (a++b)=xn a+xn b:=by simp[xn]
theorem Xv(c:List PT)(k:Int):(xb c k).length<=xn c:=by
 induction c with
 | nil=>simp[xb]
 | cons p r ih=>
  rw[YW,List.length_append];have:xn (p::r)=p.runs.length+xn r:=by simp[xn]
  split
  ·omega
  ·simp;omega
theorem yna(ks:List Int):(ks.map fun _=>0).sum=0:=by
 induction ks with
 | nil=>rfl
 | cons k r ih=>rw[List.map_cons,List.sum_cons,ih]
theorem yoa(c:List PT)(ks:List Int)(h:ks.Nodup):(ks.map fun k=>(xb c k).length).sum<=xn c:=by
 induction c with
 | nil=>simp only[yla,List.length_nil,yna];exact Nat.zero_le _
 | cons p r ih=>
  have e:xn (p::r)=p.runs.length+xn r:=by simp[xn]
  have h1:(ks.map fun k=>(xb (p::r) k).length).sum=(ks.map fun k=>if p.dev=k/\0 < k then p.runs.length else 0).sum+(ks.map fun k=>(xb r k).length).sum:=by
   clear h ih
   induction ks with
   | nil=>rfl
   | cons k ks ih2=>
    simp only[List.map_cons,List.sum_cons,YW,List.length_append] at ih2 ⊢
    by_cases hc:p.dev=k/\0 < k
    ·rw[if_pos hc,if_pos hc];omega
    ·rw[if_neg hc,if_neg hc,List.length_nil];omega
  have h2:(ks.map fun k=>if p.dev=k/\0 < k then p.runs.length else 0).sum<=p.runs.length:=by
   clear ih h1 e
   induction ks with
   | nil=>simp
   | cons k ks ih2=>
    obtain⟨n1,n2⟩:=List.nodup_cons.1 h;simp only[List.map_cons,List.sum_cons]
    by_cases hk:p.dev=k
    ·have h0:(ks.map fun k=>if p.dev=k/\0 < k then p.runs.length else 0).sum=0:=by
      have:(ks.map fun k=>if p.dev=k/\0 < k then p.runs.length else 0)=ks.map fun _=>0:=by
       refine List.map_congr_left fun q hq=>?_
       rw[if_neg];rintro⟨e,_⟩;exact n1 (by rw[<- hk,e];exact hq)
      rw[this];exact yna ks
     rw[h0]
     split <;> omega
    ·rw[if_neg (fun h=>hk h.1)];have:=ih2 n2;omega
  omega
def OrdP(l:List PT):Prop:=l.Pairwise fun x y=>x.dev < y.dev
theorem qJ : ∀ {l l':List PT},OrdP l->OrdP l'->(∀ d,d∈l↔d∈l')->l=l'
 | [],[],_,_,_=>rfl
 | [],y::r,_,_,h=>absurd ((h y).2 (by simp)) (by simp)
 | x::r,[],_,_,h=>absurd ((h x).1 (by simp)) (by simp)
 | x::r,y::q,h1,h2,h=>by
  obtain⟨a1,a2⟩:=List.pairwise_cons.1 h1;obtain⟨b1,b2⟩:=List.pairwise_cons.1 h2;have e:x=y:=by
   rcases List.mem_cons.1 ((h x).1 (by simp)) with e | hx
   ·exact e
   ·rcases List.mem_cons.1 ((h y).2 (by simp)) with e | hy
    ·exact e.symm
    ·have:=a1 y hy;have:=b1 x hx;omega
  subst e
  congr 1
  refine qJ a2 b2 fun d=>⟨fun hd=>?_,fun hd=>?_⟩
  ·rcases List.mem_cons.1 ((h d).1 (List.mem_cons_of_mem _ hd)) with e | hx
   ·subst e;have:=a1 d hd;omega
   ·exact hx
  ·rcases List.mem_cons.1 ((h d).2 (List.mem_cons_of_mem _ hd)) with e | hx
   ·subst e;have:=b1 d hd;omega
   ·exact hx
def xB(f:Int->List RN)(ks:List Int):List PT:=ks.filterMap fun k=>if f k=[] then none else some ⟨k,f k⟩
theorem uf{f:Int->List RN}{ks:List Int}{p:PT}:p∈xB f ks↔p.dev∈ks/\p.runs≠[]/\p.runs=f p.dev:=by
 unfold xB;rw[List.mem_filterMap]
 constructor
 ·rintro⟨k,hk,h⟩
  split at h
  ·cases h
  ·rename_i h0;cases h;exact⟨hk,h0,rfl⟩
 ·rintro⟨h1,h2,h3⟩;refine⟨p.dev,h1,?_⟩;rw[if_neg (by rw[<- h3];exact h2),<- h3]
theorem ug{f:Int->List RN}{ks:List Int}(h:ks.Pairwise (· < ·)):OrdP (xB f ks):=by
 unfold OrdP xB;rw[List.pairwise_filterMap];refine h.imp fun {a b} hab x hx y hy=>?_
 split at hx
 ·cases hx
 ·split at hy
  ·cases hy
  ·cases hx;cases hy;exact hab
theorem QY{f g:Int->List RN}{ks ls:List Int}(h1:ks.Pairwise (· < ·))(h2:ls.Pairwise (· < ·))(hf:∀ k,f k=g k)(h:∀ k,f k≠[]->(k∈ks↔k∈ls)):xB f ks=xB g ls:=by
 refine qJ (ug h1) (ug h2) fun p=>?_
 rw[uf,uf]
 constructor
 ·rintro⟨a,b,c⟩;exact⟨(h _ (by rw[<- c];exact b)).1 a,b,by rw[c,hf]⟩
 ·rintro⟨a,b,c⟩;exact⟨(h _ (by rw[hf,<- c];exact b)).2 a,b,by rw[c,hf]⟩
theorem vMa(f:Int->List RN)(ks:List Int):(xB f ks).length<=ks.length:=List.length_filterMap_le _ _
theorem QZ(f:Int->List RN)(ks:List Int):xn (xB f ks)=(ks.map fun k=>(f k).length).sum:=by
 induction ks with
 | nil=>rfl
 | cons k ks ih=>
  have:xB f (k::ks)=(if f k=[] then [] else [⟨k,f k⟩])++xB f ks:=by
   unfold xB
   by_cases h:f k=[] <;> simp[h]
  rw[this,qI,ih]
  by_cases h:f k=[] <;> simp[h,xn]
theorem Qa{f:Int->List RN}{ks:List Int}(h:ks.Nodup)(k:Int):xb (xB f ks) k=if k∈ks/\0 < k then f k else []:=by
 induction ks with
 | nil=>simp[xB,xb]
 | cons q ks ih=>
  obtain⟨n1,n2⟩:=List.nodup_cons.1 h;have e:xB f (q::ks)=(if f q=[] then [] else [⟨q,f q⟩])++xB f ks:=by
   unfold xB
   by_cases h:f q=[] <;> simp[h]
  rw[e,jN,ih n2]
  by_cases hq:q=k
  ·subst hq;rw[if_neg (fun(h:q∈ks/\0 < q)=>n1 h.1),List.append_nil]
   by_cases h0:f q=[]
   ·rw[if_pos h0,h0];simp[xb]
   ·rw[if_neg h0]
    by_cases hp:0 < q
    ·rw[if_pos ⟨List.mem_cons_self,hp⟩];simp[xb,hp]
    ·rw[if_neg (fun h=>hp h.2)];exact yma hp
  ·have:xb (if f q=[] then [] else [(⟨q,f q⟩:PT)]) k=[]:=by
    by_cases h0:f q=[] <;> simp[h0,xb,hq]
   rw[this];have hm:(k∈q::ks)↔k∈ks:=by simp[Ne.symm hq]
   simp only[hm,List.nil_append]
def xpa(l:List Int)(p:PT):List Int:=if 0 < p.dev then V.zFa l p.dev else l
def Vp(c:List PT):List Int:=c.foldl xpa []
theorem jI(c:List PT):∀ l:List Int,l.Pairwise (· < ·)->(c.foldl xpa l).Pairwise (· < ·)/\(∀ k,k∈c.foldl xpa l↔k∈l\/∃ p∈c,p.dev=k/\0 < k)/\(c.foldl xpa l).length<=l.length+c.length:=by
 induction c with
 | nil=>intro l h;simp[h]
 | cons p r ih=>
  intro l h;rw[List.foldl_cons]
  by_cases hp:0 < p.dev
  ·have e:xpa l p=V.zFa l p.dev:=by simp[xpa,hp]
   rw[e];obtain⟨h1,h2,h3⟩:=ih _ (V.YT h p.dev);refine⟨h1,fun k=>?_,by have:=V.jH l p.dev;simp;omega⟩;rw[h2,V.qE]
   constructor
   ·rintro((rfl | h4) | ⟨x,h4,h5⟩)
    ·exact .inr ⟨p,by simp,rfl,hp⟩
    ·exact .inl h4
    ·exact .inr ⟨x,by simp[h4],h5⟩
   ·rintro(h4 | ⟨x,h4,h5,h6⟩)
    ·exact .inl (.inr h4)
    ·rcases List.mem_cons.1 h4 with rfl | h4
     ·exact .inl (.inl h5.symm)
     ·exact .inr ⟨x,h4,h5,h6⟩
  ·have e:xpa l p=l:=by simp[xpa,hp]
   rw[e];obtain⟨h1,h2,h3⟩:=ih _ h;refine⟨h1,fun k=>?_,by simp;omega⟩;rw[h2]
   constructor
   ·rintro(h4 | ⟨x,h4,h5⟩)
    ·exact .inl h4
    ·exact .inr ⟨x,by simp[h4],h5⟩
   ·rintro(h4 | ⟨x,h4,h5,h6⟩)
    ·exact .inl h4
    ·rcases List.mem_cons.1 h4 with rfl | h4
     ·rw[h5] at hp;exact absurd h6 hp
     ·exact .inr ⟨x,h4,h5,h6⟩
theorem uh(c:List PT):(Vp c).Pairwise (· < ·):=(jI c [] List.Pairwise.nil).1
theorem xqa{l:List Int}(h:l.Pairwise (· < ·)):l.Nodup:=h.imp fun {a b} h e=>by omega
theorem XQ(c:List PT):(Vp c).Nodup:=xqa (uh c)
theorem uQ{c:List PT}{k:Int}:k∈Vp c↔(∃ p∈c,p.dev=k)/\0 < k:=by
 have:=(jI c [] List.Pairwise.nil).2.1 k;unfold Vp;rw[this];simp only[List.not_mem_nil,false_or]
 constructor
 ·rintro⟨p,h1,h2,h3⟩;exact⟨⟨p,h1,h2⟩,h3⟩
 ·rintro⟨⟨p,h1,h2⟩,h3⟩;exact⟨p,h1,h2,h3⟩
theorem len_devs(c:List PT):(Vp c).length<=c.length:=by simpa[Vp] using (jI c [] List.Pairwise.nil).2.2
theorem Zm{c:List PT}{k:Int}(h:xb c k≠[]):k∈Vp c:=by
 rw[uQ];refine Classical.byContradiction fun hn=>h ?_
 unfold xb;have:(c.filter fun p=>decide (p.dev=k)&&decide (0 < k))=[]:=by
  rw[List.filter_eq_nil_iff];intro p hp;simp only[Bool.and_eq_true,decide_eq_true_eq];rintro⟨h1,h2⟩;exact hn ⟨⟨p,hp,h1⟩,h2⟩
 rw[this];rfl
def opC(op:Bool->Bool->Bool)(a b:List PT):List PT:=xB (fun k=>R.Vb op (xb a k) (xb b k)) (Vp (a++b))
def yj(c:List PT):List PT:=xB (fun k=>R.nrm (xb c k)) (Vp c)
theorem uRa{op:Bool->Bool->Bool}(h0:op false false=false):R.Vb op [] []=[]:=by
 have:=R.xJ op h0 [] [];exact R.zka this.1 trivial fun n=>by rw[this.2.1];exact h0
theorem Qb : R.nrm []=[]:=uRa rfl
theorem Y3a{op:Bool->Bool->Bool}(h0:op false false=false)(a b:List PT)(k n:Int):ZW (opC op a b) k n=op (ZW a k n) (ZW b k n):=by
 unfold ZW opC;rw[Qa (XQ _)]
 split
 ·rw[(R.xJ op h0 _ _).2.1]
 ·rename_i h
  have e:xb a k=[]/\xb b k=[]:=by
   have h1:xb (a++b) k=[]:=Classical.byContradiction fun h2=>h ⟨Zm h2,(uQ.1 (Zm h2)).2⟩
   rw[jN] at h1;simpa using h1
  rw[e.1,e.2];show R.wA [] n=_;simp[R.wA,h0]
theorem xra(c:List PT)(k n:Int):ZW (yj c) k n=ZW c k n:=by
 unfold ZW yj;rw[Qa (XQ _)]
 split
 ·rw[R.YV]
 ·rename_i h
  have e:xb c k=[]:=Classical.byContradiction fun h2=>h ⟨Zm h2,(uQ.1 (Zm h2)).2⟩
  rw[e]
structure Canon(c:List PT):Prop where
 ord:OrdP c
 nf:∀ p∈c,0 < p.dev/\p.runs≠[]/\R.Nf p.runs
theorem Qc{f:Int->List RN}{c:List PT}(h:∀ k,R.Nf (f k)):Canon (xB f (Vp c)):=⟨ug (uh c),fun p hp=>by
 obtain⟨h1,h2,h3⟩:=uf.1 hp;exact⟨(uQ.1 h1).2,h2,by rw[h3];exact h _⟩⟩
theorem uSa{op:Bool->Bool->Bool}(h0:op false false=false)(a b:List PT):Canon (opC op a b):=Qc fun _=>(R.xJ op h0 _ _).1
theorem XR(c:List PT):Canon (yj c):=Qc fun _=>R.QU _
theorem qK : ∀ {c:List PT},OrdP c->∀ p∈c,0 < p.dev->xb c p.dev=p.runs
 | [],_,p,hp,_=>by simp at hp
 | q::r,h,p,hp,h0=>by
  obtain⟨h1,h2⟩:=List.pairwise_cons.1 h;rw[YW];rcases List.mem_cons.1 hp with rfl | hp
  ·rw[if_pos ⟨rfl,h0⟩];have:xb r p.dev=[]:=by
    unfold xb;have:(r.filter fun x=>decide (x.dev=p.dev)&&decide (0 < p.dev))=[]:=by
     rw[List.filter_eq_nil_iff];intro x hx;have:=h1 x hx;simp;omega
    rw[this];rfl
   rw[this,List.append_nil]
  ·have:=h1 p hp;rw[if_neg (by omega),qK h2 p hp h0];rfl
theorem Canon.eq_norm{c:List PT}(h:Canon c):c=yj c:=by
 refine qJ h.ord (XR c).ord fun p=>?_
 unfold yj;rw[uf]
 constructor
 ·intro hp;obtain⟨h1,h2,h3⟩:=h.nf p hp;exact⟨uQ.2 ⟨⟨p,hp,rfl⟩,h1⟩,h2,by rw[qK h.ord p hp h1,R.uOa h3]⟩
 ·rintro⟨h1,h2,h3⟩;obtain⟨⟨q,hq,hd⟩,h0⟩:=uQ.1 h1;obtain⟨g1,g2,g3⟩:=h.nf q hq;have e:xb c p.dev=q.runs:=by rw[<- hd];exact qK h.ord q hq g1
  rw[e,R.uOa g3] at h3;have:p=q:=by cases p;cases q;simp_all
  rw[this];exact hq
theorem xsa{a b:List PT}(h:∀ k n,ZW a k n=ZW b k n):yj a=yj b:=by
 have hf:∀ k,R.nrm (xb a k)=R.nrm (xb b k):=fun k=>R.zka (R.QU _) (R.QU _) fun n=>by rw[R.YV,R.YV];exact h k n
 refine QY (uh a) (uh b) hf fun k hk=>?_
 have ha:xb a k≠[]:=fun e=>hk (by rw[e];exact Qb)
 have hb:xb b k≠[]:=fun e=>hk (by rw[hf,e];exact Qb)
 exact⟨fun _=>Zm hb,fun _=>Zm ha⟩
theorem Canon.ext{a b:List PT}(ha:Canon a)(hb:Canon b)(h:∀ k n,ZW a k n=ZW b k n):a=b:=by rw[ha.eq_norm,hb.eq_norm];exact xsa h
theorem zna{c:List PT}(h:Canon c):yj c=c:=h.eq_norm.symm
theorem Y4a(a b:List PT):yj (a++b)=opC (·||·) a b:=(XR _).ext (uSa rfl a b) fun k n=>by rw[xra,hasC_app,Y3a rfl]
theorem xta : Canon []:=⟨List.Pairwise.nil,fun p h=>by simp at h⟩
theorem Wo(c:List PT):(yj c).length<=c.length:=Nat.le_trans (vMa _ _) (len_devs c)
theorem sum_le{ks:List Int}{f g:Int->Nat}(h:∀ k,f k<=g k):(ks.map f).sum<=(ks.map g).sum:=by
 induction ks with
 | nil=>simp
 | cons k r ih=>have:=h k;simp;omega
theorem sum_two(ks:List Int)(f g:Int->Nat):(ks.map fun k=>2*(f k+g k)).sum=2*((ks.map f).sum+(ks.map g).sum):=by
 induction ks with
 | nil=>rfl
 | cons k r ih=>simp;omega
theorem Wp(c:List PT):xn (yj c)<=2*xn c:=by
 unfold yj;rw[QZ];refine Nat.le_trans (sum_le (g:=fun k=>2*((xb c k).length+0)) fun k=>by have:=R.US (xb c k);omega) ?_;rw[sum_two];have h1:=yoa c (Vp c) (XQ _);have h2:=yna (Vp c);omega
theorem get_grow(l:List (Int×List RN)):∀ (m:List (Int×List RN)) (k:Int),AL.getZ (AL.grow m l) k []=AL.getZ m k []++(l.filter fun x=>decide (x.1=k)).flatMap (·.2):=by
 induction l with
 | nil=>intro m k;simp[AL.grow]
 | cons x r ih=>
  intro m k;show AL.getZ (AL.grow (AL.set m x.1 (AL.getZ m x.1 []++x.2)) r) k []=_;rw[ih,AL.getZ_set,List.filter_cons]
  by_cases h:x.1=k
  ·subst h;simp
  ·simp[h]
theorem ZXa(l:List (Int×List RN)):∀ m:List (Int×List RN),(m.map (·.1)).Nodup->((AL.grow m l).map (·.1)).Nodup:=by
 induction l with
 | nil=>intro m h;exact h
 | cons x r ih=>intro m h;exact ih _ (AL.nodup_set h _ _)
theorem len_grow(l:List (Int×List RN)):∀ m:List (Int×List RN),(AL.grow m l).length<=m.length+l.length:=by
 induction l with
 | nil=>intro m;exact Nat.le_refl _
 | cons x r ih=>
  intro m;have h1:=ih (AL.set m x.1 (AL.getZ m x.1 []++x.2));have h2:=AL.len_set m x.1 (AL.getZ m x.1 []++x.2);show(AL.grow (AL.set m x.1 (AL.getZ m x.1 []++x.2)) r).length<=_;simp only[List.length_cons];omega
theorem key_grow(l:List (Int×List RN)):∀ (m:List (Int×List RN)) (k:Int),k∈(AL.grow m l).map (·.1)->k∈m.map (·.1)\/∃ x∈l,x.1=k:=by
 induction l with
 | nil=>intro m k h;exact .inl h
 | cons x r ih=>
  intro m k h;rcases ih _ k h with h | ⟨y,hy,e⟩
  ·rw[AL.keys_set] at h
   split at h
   ·exact .inl h
   ·rcases List.mem_append.1 h with h | h
    ·exact .inl h
    ·exact .inr ⟨x,by simp,(List.mem_singleton.1 h).symm⟩
  ·exact .inr ⟨y,by simp[hy],e⟩
def Wm(c:List PT):List (Int×List RN):=AL.grow [] (c.filterMap yU)
theorem jJ(c:List PT)(k:Int):AL.getZ (Wm c) k []=xb c k:=by
 unfold Wm;rw[get_grow];show[]++_=_;rw[List.nil_append]
 induction c with
 | nil=>rfl
 | cons p r ih=>
  rw[YW,<- ih,List.filterMap_cons]
  by_cases h0:0 < p.dev
  ·have e:yU p=some (p.dev,p.runs):=by simp[yU,h0]
   rw[e];simp only[List.filter_cons]
   by_cases h:p.dev=k
   ·subst h;simp[h0]
   ·simp[h]
  ·have e:yU p=none:=by simp[yU,h0]
   rw[e,if_neg (by rintro⟨h1,h2⟩;omega)];rfl
theorem Va(c:List PT):((Wm c).map (·.1)).Nodup:=ZXa _ _ (by simp)
theorem told_len(c:List PT):(Wm c).length<=c.length:=by
 have h1:=len_grow (c.filterMap yU) [];have h2:=List.length_filterMap_le yU c;unfold Wm;simp at h1;omega
theorem told_pos{c:List PT}{k:Int}(h:k∈(Wm c).map (·.1)):0 < k/\k∈Vp c:=by
 rcases key_grow _ _ _ h with h | ⟨x,hx,rfl⟩
 ·simp at h
 ·rw[List.mem_filterMap] at hx;obtain⟨p,hp,hx⟩:=hx;unfold yU at hx
  split at hx
  ·rename_i h0;cases hx;exact⟨h0,uQ.2 ⟨⟨p,hp,rfl⟩,h0⟩⟩
  ·cases hx
theorem yfa{c:List PT}{e:Int×List RN}(h:e∈Wm c):e.2=xb c e.1/\0 < e.1/\e.1∈Vp c:=by
 have h1:=AL.mem_get (Va c) (k:=e.1) (v:=e.2) h;have h2:=jJ c e.1;unfold AL.getZ at h2;rw[h1] at h2;exact⟨h2,told_pos (List.mem_map.2 ⟨e,h,rfl⟩)⟩
theorem told_at{c:List PT}{k:Int}(h:xb c k≠[]):(k,xb c k)∈Wm c:=by
 have h2:=jJ c k;unfold AL.getZ at h2
 cases hg:AL.get (Wm c) k with
 | none=>rw[hg] at h2;exact absurd h2.symm h
 | some v=>rw[hg] at h2;simp only[Option.getD_some] at h2;subst h2;exact AL.get_mem hg
theorem tot_told(c:List PT):((c.filterMap yU).map fun x=>x.2.length).sum<=xn c:=by
 induction c with
 | nil=>simp
 | cons p r ih=>
  have e:xn (p::r)=p.runs.length+xn r:=by simp[xn]
  rw[List.filterMap_cons]
  by_cases h0:0 < p.dev
  ·have e2:yU p=some (p.dev,p.runs):=by simp[yU,h0]
   rw[e2];simp only[List.map_cons,List.sum_cons];omega
  ·have e2:yU p=none:=by simp[yU,h0]
   rw[e2];simp only;omega
def Sm(c:List PT):Prop:=c.length<=10000000000/\xn c<=10000000000
theorem Y5a(c:List PT)(h:Sm c):Un c=pure (Wm c):=by
 unfold Un;rw[zJ]
 ·rfl
 ·have:=tot_told c;refine⟨by have:=h.1;omega,?_⟩;have:=h.2;omega
theorem order_eq(m:List (Int×List RN))(f:Int->List RN)(ks:List Int)(hl:m.length<=1000000000000)(hr:∀ e∈m,e.2.length<=1000000000000)(hn:(m.map (·.1)).Nodup)(hs:ks.Pairwise (· < ·))(h1:∀ e∈m,R.nrm e.2≠[]->e.1∈ks/\R.nrm e.2=f e.1)(h2:∀ k∈ks,f k≠[]->∃ r,(k,r)∈m/\R.nrm r=f k):WS m=pure (xB f ks):=by
 unfold WS;have hall:∀ Q:List PT->Prop,(∀ l:List (Int×List RN),l.Perm m->Q ((l.filter fun e=>decide (R.nrm e.2≠[])).map fun e=>(⟨e.1,R.nrm e.2⟩:PT)))->(loop (Yh m) ([],([]:List PT))).wp Q:=by
  intro Q hQ;refine M.loopM (body:=Yh m) m (fun L (t:List PT)=>(L,t)) (fun t e=>(ux e.2).det.bind fun v=>if 0 < v.length then yk ((t.length+1)*32<=140737488355328) (pure (t++[(⟨e.1,v⟩:PT)])) else pure t) (fun t=>pure t)
   (fun l t=>t=((l.filter fun e=>decide (R.nrm e.2≠[])).map fun e=>(⟨e.1,R.nrm e.2⟩:PT))) Q (fun L t hL=>?_) (fun l t y ht hlen hy=>?_) (fun l t hp ht=>?_) [] rfl
  ·unfold Yh;show yk _ ((nxt _ _).bind _)=yk _ ((nxt _ _).bind _);refine congrArg (fun k=>yk _ ((nxt _ _).bind k)) (funext fun o=>?_)
   cases o with
   | none=>rfl
   | some i=>
    refine congrArg (fun k=>(idx m (Int.ofNat i)).bind k) (funext fun y=>?_);rw[zYa];refine congrArg (fun k=>(ux y.2).det.bind k) (funext fun v=>?_);rw[wx]
    by_cases h:0 < v.length
    ·rw[if_pos (by omega),if_pos h];rfl
    ·rw[if_neg (by omega),if_neg h];rfl
  ·have hle:=List.length_filter_le (fun e:Int×List RN=>decide (R.nrm e.2≠[])) l;have htl:t.length<=l.length:=by rw[ht,List.length_map];exact hle
   rw[R.vLa y.2 (hr y hy),zB,zA];refine⟨if R.nrm y.2=[] then t else t++[⟨y.1,R.nrm y.2⟩],?_,?_⟩
   ·by_cases h:R.nrm y.2=[]
    ·rw[if_neg (by rw[h];simp),if_pos h]
    ·rw[if_pos (by rw[List.length_pos_iff];exact h),if_neg h,zJ (by omega)]
   ·subst ht;rw[List.filter_append,List.map_append]
    by_cases h:R.nrm y.2=[] <;> simp[h]
  ·subst ht;exact hQ l hp
 refine Zx (hall _ fun l hp=>?_);show(yk _ _).wp _;have hll:=hp.length_eq;have hle:=List.length_filter_le (fun e:Int×List RN=>decide (R.nrm e.2≠[])) l;have hmem:∀ d:PT,d∈((l.filter fun e=>decide (R.nrm e.2≠[])).map fun e=>(⟨e.1,R.nrm e.2⟩:PT))↔d∈xB f ks:=by
  intro d;rw[uf,List.mem_map]
  constructor
  ·rintro⟨e,he,rfl⟩;rw[List.mem_filter,hp.mem_iff] at he;have h0:R.nrm e.2≠[]:=by simpa using he.2
   obtain⟨h3,h4⟩:=h1 e he.1 h0;exact⟨h3,h0,h4⟩
  ·rintro⟨h3,h4,h5⟩;obtain⟨r,h6,h7⟩:=h2 d.dev h3 (by rw[<- h5];exact h4);refine⟨(d.dev,r),?_,by show(⟨d.dev,R.nrm r⟩:PT)=d;rw[h7,<- h5]⟩;rw[List.mem_filter,hp.mem_iff];refine⟨h6,?_⟩;simp only[decide_eq_true_eq];rw[h7,<- h5];exact h4
 have hnd:((l.filter fun e=>decide (R.nrm e.2≠[])).map fun e=>(⟨e.1,R.nrm e.2⟩:PT)).Pairwise (fun x y=>x.dev≠y.dev):=by
  rw[List.pairwise_map];have:l.Pairwise (fun x y=>x.1≠y.1):=by
   have:=(hp.map (·.1)).nodup_iff.2 hn;exact List.pairwise_map.1 this
  exact(this.filter _)
 refine⟨by simp only[List.length_map];omega,⟨?_,fun l' ⟨hp',hs'⟩=>?_⟩⟩
 ·refine⟨xB f ks,?_,?_⟩
  ·refine(List.perm_ext_iff_of_nodup ?_ ?_).2 fun d=>(hmem d).symm
   ·exact(ug hs).imp fun {a b} h e=>by subst e;omega
   ·exact hnd.imp fun {a b} h e=>by subst e;exact h rfl
  ·exact(ug hs).imp fun {a b} h=>by simp[zea];omega
 ·show l'=_;refine qJ ?_ (ug hs) fun d=>by rw[hp'.mem_iff];exact hmem d
  have hnd':=(hp'.pairwise_iff (fun {a b} h=>Ne.symm h)).2 hnd;exact(hs'.and hnd').imp fun {a b} ⟨h3,h4⟩=>by simp[zea] at h3;omega
theorem ZYa(c:List PT)(h:Sm c):WS (Wm c)=pure (yj c):=by
 refine order_eq _ _ _ (by have:=told_len c;have:=h.1;omega) (fun e he=>?_) (Va c) (uh c) (fun e he h0=>?_) (fun k hk h0=>?_)
 ·rw[(yfa he).1];have:=Xv c e.1;have:=h.2;omega
 ·obtain⟨h1,h2,h3⟩:=yfa he;exact⟨h3,by rw[h1]⟩
 ·exact⟨_,told_at (fun e=>h0 (by rw[e];exact Qb)),rfl⟩
theorem jz(c:List PT)(h:Sm c):un c=pure (yj c):=by
 unfold un;rw[Y5a c h,zB,zA,ZYa c h,zB,zA]
theorem Runs_eq(c:List PT)(k:Int)(h:Sm c):Jm c k=pure (R.nrm (xb c k)):=by
 unfold Jm;rw[Y5a c h,zB,zA,jJ,R.vLa _ (by have:=Xv c k;have:=h.2;omega),zB,zA]
theorem uTa(c:List PT)(d:DT)(h:Sm c):qw c d=pure (ZW c d.dev d.n):=by
 unfold qw;rw[wx]
 by_cases h0:0 < d.dev
 ·rw[if_pos h0,Runs_eq c _ h,zB,zA,R.has_eq _ _ (by have:=R.US (xb c d.dev);have:=Xv c d.dev;have:=h.2;omega),zB,zA,zA,R.YV]
  rfl
 ·rw[if_neg h0,zA];show pure false=pure (R.wA (xb c d.dev) d.n);rw[yma h0];rfl
def dotsC(l:List DT):List PT:=(l.filter V.xA).map fun d=>⟨d.dev,[⟨d.n,d.n⟩]⟩
theorem growC_eq(n:Int)(h0:0<=n)(h:n<=1000000000000):xF n=pure []:=by
 unfold xF;have e:IntKind.i64.wrap (n - IntKind.i64.wrap (0 - 0))=n:=by
  rw[uV (n:=0 - 0) (by omega) (by omega),uV (by omega) (by omega)];omega
 simp only[e,wx];rw[if_neg (by omega)]
 split
 ·rw[zJ ⟨by omega,by omega⟩,zJ ⟨by omega,by omega,by omega⟩];simp[zA]
 ·simp[zA]
theorem ZZa(a b:List PT)(h:a.length+b.length<=1000000000000):xf [a,b]=pure (a++b):=by
 unfold xf;have e1:yA [a,b] (0,0)=pure (.next ((a.length:Int),1)):=by
  unfold yA;have:IntKind.i64.wrap (0+(a.length:Int))=a.length:=by rw[uV (by omega) (by omega)];omega
  simp only[wx,Yz (l:=[a,b]) (i:=0) (y:=a) (by omega) rfl,zA,this];rw[if_pos (by simp),if_neg (by omega),uV (by omega) (by omega)];rfl
 have e2:yA [a,b] ((a.length:Int),1)=pure (.next ((a.length:Int)+b.length,2)):=by
  unfold yA;have:IntKind.i64.wrap ((a.length:Int)+b.length)=a.length+b.length:=by rw[uV (by omega) (by omega)]
  simp only[wx,Yz (l:=[a,b]) (i:=1) (y:=b) (by omega) rfl,zA,this];rw[if_pos (by simp),if_neg (by omega),uV (by omega) (by omega)];rfl
 have e3:yA [a,b] ((a.length:Int)+b.length,2)=pure (.done ((a.length:Int)+b.length)):=by
  unfold yA;simp
 have f1:yB [a,b] (0,[])=pure (.next (1,a)):=by
  unfold yB;simp only[wx,Yz (l:=[a,b]) (i:=0) (y:=a) (by omega) rfl,zA];rw[if_pos (by simp),zJ (by simp;omega),uV (by omega) (by omega)];rfl
 have f2:yB [a,b] (1,a)=pure (.next (2,a++b)):=by
  unfold yB;simp only[wx,Yz (l:=[a,b]) (i:=1) (y:=b) (by omega) rfl,zA];rw[if_pos (by simp),zJ (by omega),uV (by omega) (by omega)];rfl
 have f3:yB [a,b] (2,a++b)=pure (.done (a++b)):=by
  unfold yB;simp
 rw[zi e1,zi e2,zT e3,zA,growC_eq _ (by omega) (by omega),zB,zA,zi f1,zi f2,zT f3,zA]
theorem sm_app{a b:List PT}(ha:a.length+b.length<=10000000000)(hb:xn a+xn b<=10000000000):Sm (a++b):=⟨by rw[List.length_append];exact ha,by rw[qI];exact hb⟩
theorem Join_eq(a b:List PT)(h:Sm (a++b)):Jo a b=pure (opC (·||·) a b):=by
 unfold Jo;rw[ZZa a b (by have:=h.1;rw[List.length_append] at this;omega),zB,zA,jz _ h,zB,zA,Y4a]
theorem partEq(x y:PT):(decide (x.dev=y.dev)&&decide (x.runs=y.runs))=decide (x=y):=by
 rw[Bool.eq_iff_iff]
 cases x;cases y
 simp
theorem eqP_eq(a b:List PT)(ha:a.length<=1000000000000)(hr:∀ p∈a,p.runs.length<=1000000000000):zt a b=pure (decide (a=b)):=by
 unfold zt
 by_cases hl:(a.length:Int)=b.length
 ·simp only[hl,decide_true,Bool.not_true,cond_false];have:=vq (body:=zn a b) a (fun i=>(i:Int)) (fun i x=>decide (b[i]?=some x)) (.brk ()) (.ret false) (fun i x hx hi=>by
   have hb:i < b.length:=by omega
   have hby:=List.getElem?_eq_getElem hb;unfold zn qv;have h1:decide ((i:Int) < (a.length:Int))=true:=by simpa using hi
   simp only[h1,cond_true,zR hx,zR hby,zA,R.seq_eq x.runs _ (hr x (List.mem_of_getElem? hx)),zB,yP,partEq,yM (show i < 9223372036854775807 by omega)];rw[hby]
   by_cases hxy:x=b[i] <;> simp[hxy,eq_comm,zA]) (by unfold zn;simp)
  rw[show(0:Int)=((0:Nat):Int) from rfl,this];have hiff:(a.zipIdx.all fun y=>decide (b[y.2]?=some y.1))=decide (a=b):=by
   rw[Bool.eq_iff_iff,List.all_eq_true,decide_eq_true_eq]
   constructor
   ·intro h;apply List.ext_getElem?;intro i
    by_cases hi:i < a.length
    ·have:=h (a[i],i) (by rw[List.mem_zipIdx_iff_getElem?];exact List.getElem?_eq_getElem hi);simp only[decide_eq_true_eq] at this;rw[this,List.getElem?_eq_getElem hi]
    ·rw[List.getElem?_eq_none (by omega),List.getElem?_eq_none (by omega)]
   ·rintro rfl y hy;rw[List.mem_zipIdx_iff_getElem?] at hy;simpa using hy
  rw[hiff]
  by_cases h:a=b <;> simp[h,exk,zA]
 ·have:¬ a=b:=fun e=>hl (by rw[e])
  simp[hl,this]
theorem eq_eq(a b:List PT)(ha:a.length<=1000000000000)(hr:∀ p∈a,p.runs.length<=1000000000000):v8a a b=pure (decide (a=b)):=by
 unfold v8a;rw[eqP_eq a b ha hr,zB,zA]
theorem xua{c:List PT}:∀ p∈c,p.runs.length<=xn c:=by
 induction c with
 | nil=>intro p hp;simp at hp
 | cons q r ih=>
  intro p hp;have e:xn (q::r)=q.runs.length+xn r:=by simp[xn]
  rcases List.mem_cons.1 hp with rfl | hp
  ·omega
  ·have:=ih p hp;omega
theorem JA(c:List PT)(h:Sm c):ZX c=pure (decide (c=yj c)):=by
 unfold ZX;rw[jz c h,zB,zA,eq_eq _ _ (by have:=h.1;omega) (fun p hp=>by have:=xua p hp;have:=h.2;omega),zB,zA]
theorem rEq_eq(a b:List PT)(ha:a.length<=1000000000000)(hr:∀ p∈a,p.runs.length<=1000000000000):qy a b=pure (decide (a=b)):=by
 unfold qy
 by_cases hl:(a.length:Int)=b.length
 ·simp only[hl,decide_true,Bool.not_true,cond_false];have:=vq (body:=Ur a b) a (fun i=>(i:Int)) (fun i x=>decide (b[i]?=some x)) (.brk ()) (.ret false) (fun i x hx hi=>by
   have hb:i < b.length:=by omega
   have hby:=List.getElem?_eq_getElem hb;unfold Ur;have h1:decide ((i:Int) < (a.length:Int))=true:=by simpa using hi
   simp only[h1,cond_true,zR hx,zR hby,zA,R.req_eq x.runs _ (hr x (List.mem_of_getElem? hx)),zB,yM (show i < 9223372036854775807 by omega)];rw[hby];have he:=partEq x b[i]
   by_cases hd:x.dev=(b[i]).dev
   ·by_cases hq:x.runs=(b[i]).runs
    ·simp only[hd,hq,decide_true,Bool.and_self,eq_comm (a:=true),decide_eq_true_eq] at he;simp[hd,hq,he,zA]
    ·have hne:¬ x=b[i]:=fun e=>hq (by rw[e])
     have hne2:¬ b[i]=x:=fun e=>hne e.symm
     simp[hd,hq,hne2,zA]
   ·have hne2:¬ b[i]=x:=fun e=>hd (by rw[e])
    simp[hd,hne2,zA]) (by unfold Ur;simp)
  rw[show(0:Int)=((0:Nat):Int) from rfl,this];have hiff:(a.zipIdx.all fun y=>decide (b[y.2]?=some y.1))=decide (a=b):=by
   rw[Bool.eq_iff_iff,List.all_eq_true,decide_eq_true_eq]
   constructor
   ·intro h;apply List.ext_getElem?;intro i
    by_cases hi:i < a.length
    ·have:=h (a[i],i) (by rw[List.mem_zipIdx_iff_getElem?];exact List.getElem?_eq_getElem hi);simp only[decide_eq_true_eq] at this;rw[this,List.getElem?_eq_getElem hi]
    ·rw[List.getElem?_eq_none (by omega),List.getElem?_eq_none (by omega)]
   ·rintro rfl y hy;rw[List.mem_zipIdx_iff_getElem?] at hy;simpa using hy
  rw[hiff]
  by_cases h:a=b <;> simp[h,exk,zA]
 ·have:¬ a=b:=fun e=>hl (by rw[e])
  simp[hl,this]
theorem Y6a(a b:List PT)(h:Sm a):qy a b=pure (decide (a=b)):=rEq_eq a b (by have:=h.1;omega) fun p hp=>by have:=xua p hp;have:=h.2;omega
theorem uUa(u v:List RN):R.Vb (·||·) (R.nrm u) v=R.nrm (u++v):=R.zka (R.xJ _ rfl _ _).1 (R.QU _) fun n=>by rw[(R.xJ _ rfl _ _).2.1,R.YV,R.YV,R.Yo]
theorem ypa(c:List PT)(k:Int)(hk:0<=k)(h:c.length<=1000000000)(ht:xn c<=1000000000):VN c k=pure (R.nrm (xb c k)):=by
 unfold VN;have hpre:∀ i,(xb (c.take i) k).length<=1000000000:=fun i=>by
  have h1:=Xv (c.take i) k;have h2:xn (c.take i)<=xn c:=by
   conv=>rhs;rw[<- List.take_append_drop i c]
   rw[qI];omega
  omega
 have:=XP (body:=Xh c k) c (fun i (t:List RN)=>(t,(i:Int))) (fun t p=>if p.dev=k/\0 < k then R.Vb (·||·) t p.runs else t) (fun t=>pure t) (fun i t=>t=R.nrm (xb (c.take i) k)) (fun i x t hx hi ht2=>by
  have h1:decide ((i:Int) < (c.length:Int))=true:=by simpa using hi
  have hxl:x.runs.length<=1000000000:=by have:=xua x (List.mem_of_getElem? hx);omega
  have htl:t.length<=2000000000:=by have:=R.US (xb (c.take i) k);have:=hpre i;rw[ht2];omega
  unfold Xh;simp only[h1,cond_true,zR hx,zA,yM (show i < 9223372036854775807 by omega),wx];have hnext:(if x.dev=k/\0 < k then R.Vb (·||·) t x.runs else t)=R.nrm (xb (c.take (i+1)) k):=by
   rw[List.take_add_one,hx,jN,Option.toList,YW,yla,List.append_nil,ht2]
   split
   ·exact uUa _ _
   ·rw[List.append_nil]
  refine⟨?_,hnext⟩
  by_cases hd:x.dev=k
  ·by_cases h0:k=0
   ·have:¬ (x.dev=k/\0 < k):=by omega
    rw[if_neg this,if_pos hd];simp[h0,zA]
   ·rw[if_pos (show x.dev=k/\0 < k from ⟨hd,by omega⟩),if_pos hd];simp only[h0,decide_false,Bool.not_false,zA,cond_true];rw[R.uPa _ _ (by omega),zB,zA,zA]
  ·rw[if_neg (fun(q:x.dev=k/\0 < k)=>hd q.1),if_neg hd]
   rfl) (fun t _=>by unfold Xh;simp[zA]) [] (by rw[List.take_zero,yla,Qb])
 rw[show(([]:List RN),(0:Int))=([],((0:Nat):Int)) from rfl,this];have key:∀ (l:List PT) (u:List RN),l.foldl (fun t p=>if p.dev=k/\0 < k then R.Vb (·||·) t p.runs else t) (R.nrm u)=R.nrm (u++xb l k):=by
  intro l
  induction l with
  | nil=>intro u;simp[xb]
  | cons p r ih=>
   intro u;rw[List.foldl_cons,YW]
   by_cases hp:p.dev=k/\0 < k
   ·rw[if_pos hp,if_pos hp,uUa,ih,List.append_assoc]
   ·rw[if_neg hp,if_neg hp,ih,List.nil_append]
 have h2:=key c [];rw[Qb,List.nil_append] at h2;rw[h2];rfl
def vNa(c:List PT):List Int:=c.foldl (fun l p=>V.zFa l p.dev) []
theorem yqa(c:List PT):∀ l:List Int,l.Pairwise (· < ·)->(c.foldl (fun l p=>V.zFa l p.dev) l).Pairwise (· < ·)/\(∀ k,k∈c.foldl (fun l p=>V.zFa l p.dev) l↔k∈l\/∃ p∈c,p.dev=k)/\(c.foldl (fun l p=>V.zFa l p.dev) l).length<=l.length+c.length:=by
 induction c with
 | nil=>intro l h;simp[h]
 | cons p r ih=>
  intro l h;rw[List.foldl_cons];obtain⟨h1,h2,h3⟩:=ih _ (V.YT h p.dev);refine⟨h1,fun k=>?_,by have:=V.jH l p.dev;simp;omega⟩;rw[h2,V.qE]
  constructor
  ·rintro((rfl | h4) | ⟨x,h4,h5⟩)
   ·exact .inr ⟨p,by simp,rfl⟩
   ·exact .inl h4
   ·exact .inr ⟨x,by simp[h4],h5⟩
  ·rintro(h4 | ⟨x,h4,h5⟩)
   ·exact .inl (.inr h4)
   ·rcases List.mem_cons.1 h4 with rfl | h4
    ·exact .inl (.inl h5.symm)
    ·exact .inr ⟨x,h4,h5⟩
theorem Qd(c:List PT):(vNa c).Pairwise (· < ·):=(yqa c [] List.Pairwise.nil).1
theorem uVa{c:List PT}{k:Int}:k∈vNa c↔∃ p∈c,p.dev=k:=by
 have:=(yqa c [] List.Pairwise.nil).2.1 k;unfold vNa;rw[this];simp
theorem uWa(c:List PT):(vNa c).length<=c.length:=by simpa[vNa] using (yqa c [] List.Pairwise.nil).2.2
theorem jM(l:List Int):(V.Vo l).length=l.length:=by simp[V.Vo]
theorem rdevs_eq(a b:List PT)(h:a.length+b.length<=10000000000):Jq a b=pure (V.Vo (vNa (a++b))):=by
 unfold Jq;have h1:=XP (body:=Xg a) a (fun i (l:List Int)=>(V.Vo l,(i:Int))) (fun l p=>V.zFa l p.dev) (fun l=>pure (V.Vo l)) (fun i l=>l.Pairwise (· < ·)/\l.length<=i) (fun i x l hx hi ⟨hs,hl⟩=>by
  have h1:decide ((i:Int) < (a.length:Int))=true:=by simpa using hi
  unfold Xg;simp only[h1,cond_true,zR hx,zA,yM (show i < 9223372036854775807 by omega)];rw[V.jv _ _ (by rw[jM];omega),zB,zA,V.uJa hs];exact⟨rfl,V.YT hs _,by have:=V.jH l x.dev;omega⟩) (fun l _=>by unfold Xg;simp[zA]) [] ⟨List.Pairwise.nil,by simp⟩
 have h2:=XP (body:=YC b) b (fun i (l:List Int)=>(V.Vo l,(i:Int))) (fun l p=>V.zFa l p.dev) (fun l=>pure (V.Vo l)) (fun i l=>l.Pairwise (· < ·)/\l.length<=a.length+i) (fun i x l hx hi ⟨hs,hl⟩=>by
  have h1:decide ((i:Int) < (b.length:Int))=true:=by simpa using hi
  unfold YC;simp only[h1,cond_true,zR hx,zA,yM (show i < 9223372036854775807 by omega)];rw[V.jv _ _ (by rw[jM];omega),zB,zA,V.uJa hs];exact⟨rfl,V.YT hs _,by have:=V.jH l x.dev;omega⟩) (fun l _=>by unfold YC;simp[zA]) (vNa a) ⟨Qd a,by have:=uWa a;omega⟩
 rw[show(([]:List DT),(0:Int))=(V.Vo [],((0:Nat):Int)) from rfl,h1,zA];show(loop (YC b) (V.Vo (vNa a),((0:Nat):Int))).bind _=_;rw[h2,zA];unfold vNa;rw[List.foldl_append]
theorem QV(op:Bool->Bool->Bool)(how:Int)(hop:∀ x y,op x y=if how=2 then (x&&!y) else if how=1 then (x&&y) else (x||y))(h0:op false false=false)(a b:List PT)(oa:∀ p∈a,0<=p.dev)(ob:∀ p∈b,0<=p.dev)(ha:a.length<=1000000000)(hb:b.length<=1000000000)(ta:xn a<=1000000000)(tb:xn b<=1000000000):yDa a b how=pure (opC op a b):=by
 unfold yDa;rw[rdevs_eq a b (by omega),zB,zA];have hlenA:∀ k,(R.nrm (xb a k)).length<=2000000000:=fun k=>by have:=R.US (xb a k);have:=Xv a k;omega
 have hlenB:∀ k,(R.nrm (xb b k)).length<=2000000000:=fun k=>by have:=R.US (xb b k);have:=Xv b k;omega
 have hop':∀ k,R.Vb op (R.nrm (xb a k)) (R.nrm (xb b k))=R.Vb op (xb a k) (xb b k):=fun k=>R.zka (R.xJ op h0 _ _).1 (R.xJ op h0 _ _).1 fun n=>by rw[(R.xJ op h0 _ _).2.1,(R.xJ op h0 _ _).2.1,R.YV,R.YV]
 have hkey:∀ k∈vNa (a++b),0<=k:=fun k hk=>by
  obtain⟨p,hp,rfl⟩:=uVa.1 hk;rcases List.mem_append.1 hp with hp | hp
  ·exact oa p hp
  ·exact ob p hp
 have hnd:(vNa (a++b)).length<=2000000000:=by have:=uWa (a++b);rw[List.length_append] at this;omega
 have hgo:=XP (body:=VO (V.Vo (vNa (a++b))) a b how) (vNa (a++b)) (fun i (t:List PT)=>((i:Int),t)) (fun t k=>if R.Vb op (xb a k) (xb b k)=[] then t else t++[⟨k,R.Vb op (xb a k) (xb b k)⟩]) (fun t=>pure t) (fun i t=>t.length<=i) (fun i k t hk hi hl=>by
  have h1:decide ((i:Int) < ((V.Vo (vNa (a++b))).length:Int))=true:=by rw[jM];simpa using hi
  have hx:(V.Vo (vNa (a++b)))[i]?=some ⟨k,1⟩:=by simp[V.Vo,hk]
  have hk0:0<=k:=hkey k (List.mem_of_getElem? hk);unfold VO;simp only[h1,cond_true,zR hx,zA,ypa a k hk0 ha ta,ypa b k hk0 hb tb,zB,yM (show i < 9223372036854775807 by omega)];have hl1:=hlenA k;have hl2:=hlenB k;rw[R.uPa _ _ (by omega),zB,zA,R.rmeet_eq _ _ (by omega),zB,zA,R.Yxa _ _ (by omega),zB,zA];have hz:(cond (decide (how=1)) (pure (R.Vb (·&&·) (R.nrm (xb a k)) (R.nrm (xb b k)))) (pure (R.Vb (·||·) (R.nrm (xb a k)) (R.nrm (xb b k)))):M (List RN)).bind (fun z=>cond (decide (how=2)) (pure (R.Vb (fun x y=>x&&!y) (R.nrm (xb a k)) (R.nrm (xb b k)))) (pure z))=pure (R.Vb op (xb a k) (xb b k)):=by
   rw[<- hop' k]
   by_cases h2:how=2
   ·subst h2;have:op=fun x y=>x&&!y:=by funext x y;rw[hop];simp
    rw[this];rfl
   ·by_cases h1:how=1
    ·subst h1;have:op=fun x y=>x&&y:=by funext x y;rw[hop];simp
     rw[this];rfl
    ·have:op=fun x y=>x||y:=by funext x y;rw[hop];simp[h1,h2]
     rw[this];simp[h1,h2,zA]
  rw[<- zYa,hz,zA];have hsl:=(R.xJ op h0 (xb a k) (xb b k)).2.2
  by_cases hz0:R.Vb op (xb a k) (xb b k)=[]
  ·rw[if_pos hz0];simp only[hz0,List.length_nil];exact⟨rfl,by omega⟩
  ·rw[if_neg hz0];have:decide (0 < ((R.Vb op (xb a k) (xb b k)).length:Int))=true:=by
    have:=List.length_pos_iff.2 hz0;simp;omega
   rw[this,cond_true,zJ (by simp;omega)];exact⟨rfl,by simp;omega⟩) (fun t _=>by unfold VO;rw[jM];simp[zA]) [] (by simp)
 rw[show((0:Int),([]:List PT))=(((0:Nat):Int),[]) from rfl,hgo,zA];have key:∀ (ks:List Int) (t:List PT),ks.foldl (fun t k=>if R.Vb op (xb a k) (xb b k)=[] then t else t++[⟨k,R.Vb op (xb a k) (xb b k)⟩]) t=t++xB (fun k=>R.Vb op (xb a k) (xb b k)) ks:=by
  intro ks
  induction ks with
  | nil=>intro t;simp[xB]
  | cons k ks ih=>
   intro t;rw[List.foldl_cons,ih]
   by_cases h:R.Vb op (xb a k) (xb b k)=[]
   ·rw[if_pos h];simp[xB,h]
   ·rw[if_neg h];simp[xB,h]
 rw[key,List.nil_append];refine congrArg pure (QY (Qd _) (uh _) (fun _=>rfl) fun k hk=>?_);have hr:xb (a++b) k≠[]:=fun e=>hk (by
  rw[jN] at e;have:=List.append_eq_nil_iff.1 e;rw[this.1,this.2];exact uRa h0)
 exact⟨fun _=>Zm hr,fun _=>uVa.2 (uQ.1 (Zm hr)).1⟩
structure Ok(c:List PT):Prop where
 dev:∀ p∈c,0<=p.dev
 len:c.length<=1000000000
 tot:xn c<=1000000000
theorem Ok.sm{c:List PT}(h:Ok c):Sm c:=⟨by have:=h.len;omega,by have:=h.tot;omega⟩
section
variable(a b:List PT)(ha:Ok a)(hb:Ok b)
include ha hb
end
theorem ok_nil : Ok []:=⟨fun p h=>by simp at h,by simp,by simp[xn]⟩
theorem opC_nil(c:List PT):opC (·||·) c []=yj c:=by rw[<- Y4a,List.append_nil]
theorem uXa(c:List PT)(h:Ok c):Uu c=pure (yj c):=by
 unfold Uu;rw[QV (·||·) 0 (fun x y=>by simp) rfl c [] h.dev ok_nil.dev h.len ok_nil.len h.tot ok_nil.tot,zB,zA,opC_nil]
theorem Vc(c:List PT)(h:Ok c):VP c=pure (decide (c=yj c)):=by
 unfold VP;rw[uXa c h,zB,zA,Y6a _ _ h.sm,zB,zA]
theorem has_pos{c:List PT}{k n:Int}(h:ZW c k n=true):0 < k/\1<=n/\n<=281474976710655:=by
 refine⟨Classical.byContradiction fun h0=>?_,R.ZUa h⟩;unfold ZW at h;rw[yma h0] at h
 cases h
theorem yra(c:List PT)(d:DT)(h:Ok c):yEa c d=pure (ZW c d.dev d.n):=by
 unfold yEa;rw[V.ue,zB,zA]
 by_cases hg:V.xA d=true
 ·have h1:=V.YR.1 hg;rw[hg,cond_true,ypa c d.dev (by omega) h.len h.tot,zB,zA,R.vKa _ _ (by have:=R.US (xb c d.dev);have:=Xv c d.dev;have:=h.tot;omega),zB,zA,zA,R.YV]
  rfl
 ·have hg':V.xA d=false:=by simpa using hg
  rw[hg',cond_false,zA]
  cases hh:ZW c d.dev d.n with
  | false=>rfl
  | true=>obtain⟨h1,h2,h3⟩:=has_pos hh;exact absurd (V.YR.2 ⟨by omega,h2,h3⟩) hg
end Go.Ep.M.C
namespace Go.Ep.M.J
open Go
section
variable{κ ν:Type}[DecidableEq κ]
theorem Qe{m:List (κ×ν)}(hn:(m.map (·.1)).Nodup){k:κ}{v:ν}:(k,v)∈m↔AL.get m k=some v:=⟨AL.mem_get hn,AL.get_mem⟩
theorem ju{m:List (κ×ν)}(hn:(m.map (·.1)).Nodup){k q:κ}{v u:ν}:(q,u)∈AL.set m k v↔(q=k/\u=v)\/(q≠k/\(q,u)∈m):=by
 rw[Qe (AL.nodup_set hn k v),AL.get_set,Qe hn]
 by_cases h:k=q
 ·subst h;simp[eq_comm]
 ·have h':q≠k:=fun e=>h e.symm
  simp[h,h']
end
theorem xva : ∀ {l:List RN},R.Nf l->∀ x∈l,R.wA l x.lo=true/\R.wA l (x.lo - 1)=false
 | [],_,x,hx=>by cases hx
 | y::r,h,x,hx=>by
  obtain⟨h1,h2,h3⟩:=h;have hy:=R.yN.1 h1;rcases List.mem_cons.1 hx with rfl | hx
  ·refine⟨R.jw ⟨h1,h2,h3⟩,Bool.eq_false_iff.2 fun hc=>?_⟩;have:=R.qH ⟨h1,h2,h3⟩ hc;omega
  ·obtain⟨g1,g2⟩:=xva h3 x hx;have:=h2 x hx;refine⟨by rw[R.YU,g1,Bool.or_true],?_⟩;rw[R.YU,g2,Bool.or_false];refine Bool.eq_false_iff.2 fun hc=>?_
   have:=(R.ZQ.1 hc).2;omega
theorem uYa : ∀ {l:List RN},R.Nf l->(l.map (·.lo)).Nodup
 | [],_=>List.nodup_nil
 | y::r,h=>by
  obtain⟨h1,h2,h3⟩:=h;have hy:=R.yN.1 h1;rw[List.map_cons,List.nodup_cons];refine⟨fun hc=>?_,uYa h3⟩;obtain⟨z,hz,e⟩:=List.mem_map.1 hc;have:=h2 z hz;omega
theorem xwa{a:List RN}{n:Int}(h1:R.wA a n=true)(h2:R.wA a (n - 1)=false):n∈a.map (·.lo):=by
 obtain⟨x,hx,g1,g2,g3⟩:=R.vP.1 h1
 by_cases h:x.lo=n
 ·exact List.mem_map.2 ⟨x,hx,h⟩
 ·have:R.wA a (n - 1)=true:=R.vP.2 ⟨x,hx,g1,by omega,by omega⟩;rw[h2] at this;cases this
def Mon(op:Bool->Bool->Bool):Prop:=op false false=false/\∀ p q p' q',op p q=true->op p' q'=false->(p=true/\p'=false)\/(q=true/\q'=false)
theorem mon_or : Mon (·||·):=⟨rfl,by decide⟩
theorem len_setR{op:Bool->Bool->Bool}(h:Mon op)(a b:List RN):(R.Vb op a b).length<=a.length+b.length:=by
 obtain⟨h1,h2,_⟩:=R.xJ op h.1 a b;have:=List.Nodup.length_le_of_subset (uYa h1) (l₂:=a.map (·.lo)++b.map (·.lo)) (fun n hn=>by
  obtain⟨x,hx,rfl⟩:=List.mem_map.1 hn;obtain⟨g1,g2⟩:=xva h1 x hx;rw[h2] at g1 g2;rcases h.2 _ _ _ _ g1 g2 with⟨e1,e2⟩ | ⟨e1,e2⟩
  ·exact List.mem_append_left _ (xwa e1 e2)
  ·exact List.mem_append_right _ (xwa e1 e2))
 simpa using this
theorem sum_add(ks:List Int)(f g:Int->Nat):(ks.map fun k=>f k+g k).sum=(ks.map f).sum+(ks.map g).sum:=by
 induction ks with
 | nil=>rfl
 | cons k r ih=>simp only[List.map_cons,List.sum_cons,ih];omega
theorem tot_op{op:Bool->Bool->Bool}(h:Mon op)(a b:List PT):C.xn (C.opC op a b)<=C.xn a+C.xn b:=by
 unfold C.opC;rw[C.QZ];refine Nat.le_trans (C.sum_le fun k=>len_setR h (C.xb a k) (C.xb b k)) ?_;rw[sum_add];have h1:=C.yoa a (C.Vp (a++b)) (C.XQ _);have h2:=C.yoa b (C.Vp (a++b)) (C.XQ _);omega
theorem Wq : ∀ {c:List PT},(∀ p∈c,p.runs≠[])->c.length<=C.xn c
 | [],_=>Nat.zero_le _
 | p::r,h=>by
  have h1:=Wq (c:=r) fun q hq=>h q (List.mem_cons_of_mem _ hq)
  have h2:=h p List.mem_cons_self;have h3:0 < p.runs.length:=by cases hp:p.runs with | nil=>exact absurd hp h2 | cons _ _=>simp
  have h4:C.xn (p::r)=p.runs.length+C.xn r:=by simp[C.xn]
  rw[List.length_cons];omega
theorem Y7a{c d:List PT}(h:c.Perm d)(k:Int):(C.xb c k).Perm (C.xb d k):=(h.filter _).flatMap_right _
theorem Y8a{c d:List PT}(h:c.Perm d)(k n:Int):C.ZW c k n=C.ZW d k n:=R.xla (Y7a h k) n
theorem Y9a{c d:List PT}(h:c.Perm d):C.xn c=C.xn d:=(h.map _).sum_nat
theorem XAa(l:List RN)(c:List PT)(k n:Int):C.ZW (⟨0,l⟩::c) k n=C.ZW c k n:=by
 unfold C.ZW;rw[C.YW,if_neg (fun h=>by have h1:(0:Int)=k:=h.1;omega)];rfl
theorem part_has{c:List PT}(h:C.Canon c){p:PT}(hp:p∈c):∃ n,C.ZW c p.dev n=true:=by
 obtain⟨h1,h2,h3⟩:=h.nf p hp
 cases hr:p.runs with
 | nil=>exact absurd hr h2
 | cons x r=>
  rw[hr] at h3;exact⟨x.lo,by unfold C.ZW;rw[C.qK h.ord p hp h1,hr];exact R.jw h3⟩
theorem has_dev{c:List PT}{k n:Int}(h:C.ZW c k n=true):∃ p∈c,p.dev=k:=by
 have h1:C.xb c k≠[]:=fun e=>by unfold C.ZW at h;rw[e] at h;cases h
 exact(C.uQ.1 (C.Zm h1)).1
def isW(x:List R25Row)(w:Int):Bool:=x.any fun r=>decide (r.who=w)
def JZ(x:List R25Row)(w:Int):List PT:=match x.find? fun r=>decide (r.who=w) with | some r=>r.c | none=>[]
abbrev Srt(x:List R25Row):Prop:=x.Pairwise fun a b=>a.who < b.who
theorem Xw{x:List R25Row}{w:Int}:isW x w=true↔∃ r∈x,r.who=w:=by simp[isW]
theorem vOa{x:List R25Row}(h:Srt x){r s:R25Row}(hr:r∈x)(hs:s∈x)(e:r.who=s.who):r=s:=by
 induction x with
 | nil=>cases hr
 | cons y z ih=>
  obtain⟨h1,h2⟩:=List.pairwise_cons.1 h;rcases List.mem_cons.1 hr with e1 | hr <;> rcases List.mem_cons.1 hs with e2 | hs
  ·rw[e1,e2]
  ·have:=h1 s hs;rw[<- e,e1] at this;omega
  ·have:=h1 r hr;rw[e,e2] at this;omega
  ·exact ih h2 hr hs
theorem qL{x:List R25Row}(h:Srt x){r:R25Row}(hr:r∈x):JZ x r.who=r.c:=by
 unfold JZ
 cases hf:x.find? fun s=>decide (s.who=r.who) with
 | none=>exact absurd (by simp) (List.find?_eq_none.1 hf r hr)
 | some s=>
  have h1:=List.find?_some hf;rw[vOa h (List.mem_of_find?_eq_some hf) hr (of_decide_eq_true h1)]
theorem xxa{x:List R25Row}{w:Int}(h:isW x w=false):JZ x w=[]:=by
 unfold JZ
 cases hf:x.find? fun s=>decide (s.who=w) with
 | none=>rfl
 | some s=>
  have h1:=List.find?_some hf;rw[Xw.2 ⟨s,List.mem_of_find?_eq_some hf,of_decide_eq_true h1⟩] at h;cases h
abbrev Mx:=List ((Int×Int)×List RN)
structure Rep(B n:Nat)(nl:Bool)(m:Mx)(x:List R25Row):Prop where
 nd:(m.map (·.1)).Nodup
 mem:∀ w k l,((w,k),l)∈m↔∃ r∈x,r.who=w/\((k=0/\l=[])\/(⟨k,l⟩:PT)∈r.c)
 srt:Srt x
 can:∀ r∈x,C.Canon r.c
 tot:∀ r∈x,C.xn r.c<=B
 len:x.length<=n
 nil:nl=true->m=[]
theorem rep_nil(B n:Nat):Rep B n true [] []:=⟨List.nodup_nil,fun w k l=>by simp,List.Pairwise.nil,fun r h=>by simp at h,fun r h=>by simp at h,Nat.zero_le _,fun _=>rfl⟩
section
variable{B n:Nat}{nl:Bool}{m:Mx}{x:List R25Row}(hR:Rep B n nl m x)
include hR
theorem Rep.up{B' n':Nat}(h1:B<=B')(h2:n<=n'):Rep B' n' nl m x:={ hR with tot:=fun r hr=>Nat.le_trans (hR.tot r hr) h1,len:=Nat.le_trans hR.len h2 }
theorem Rep.is(w:Int):vT w nl m=pure (isW x w):=by
 unfold vT;refine congrArg pure ?_;rw[Bool.eq_iff_iff,Xw];unfold AL.has
 constructor
 ·intro h;obtain⟨l,hl⟩:=Option.isSome_iff_exists.1 h;obtain⟨r,hr,e,_⟩:=(hR.mem w 0 l).1 (AL.get_mem hl);exact⟨r,hr,e⟩
 ·rintro⟨r,hr,e⟩;rw[AL.mem_get hR.nd ((hR.mem w 0 []).2 ⟨r,hr,e,.inl ⟨rfl,rfl⟩⟩)];rfl
theorem Rep.put(w k:Int)(l:List RN):xL w k l nl m=pure (false,AL.set m (w,k) l):=by
 unfold xL
 cases h:nl with
 | false=>rfl
 | true=>rw[hR.nil h];rfl
end
def Zva(w:Int)(e:(Int×Int)×List RN):Option PT:=if e.1.1=w then some ⟨e.1.2,e.2⟩ else none
theorem qM(w:Int)(m:Mx)(hl:m.length<=1000000000000){Q:List PT->Prop}(hQ:∀ c,c.Perm (m.filterMap (Zva w))->Q c):(loop (YB m w) ([],([]:List PT))).wp Q:=by
 refine M.loopM m (fun L (t:List PT)=>(L,t)) (fun t e=>cond (decide (e.1.1=w)) (yk ((t.length+1)*32<=140737488355328) (pure (t++[⟨e.1.2,e.2⟩]))) (pure t)) (fun t=>pure t)
  (fun l t=>t=l.filterMap (Zva w)) Q (fun L t hL=>?_) (fun l t y ht hlen hy=>?_) (fun l t hp ht=>?_) [] rfl
 ·show yk _ ((nxt _ _).bind _)=yk _ ((nxt _ _).bind _);refine congrArg (fun k=>yk _ ((nxt _ _).bind k)) (funext fun o=>?_)
  cases o with
  | none=>rfl
  | some i=>
   refine congrArg (fun k=>(idx m (Int.ofNat i)).bind k) (funext fun y=>?_);show cond _ _ _=M.bind (cond _ _ _) _;rw[Z5a];rfl
 ·by_cases h:y.1.1=w
  ·refine⟨t++[⟨y.1.2,y.2⟩],?_,?_⟩
   ·have hb:t.length<=l.length:=by rw[ht];exact List.length_filterMap_le _ _
    rw[decide_eq_true h,cond_true,zJ (by omega)]
   ·rw[ht,List.filterMap_append];simp[Zva,h]
  ·refine⟨t,by rw[decide_eq_false h,cond_false],?_⟩;rw[ht,List.filterMap_append];simp[Zva,h]
 ·refine hQ t ?_;rw[ht];exact hp.filterMap _
section
variable{B n:Nat}{nl:Bool}{m:Mx}{x:List R25Row}(hR:Rep B n nl m x)
include hR
theorem Rep.rowL(w:Int):(m.filterMap (Zva w)).Perm (if isW x w then ⟨0,[]⟩::JZ x w else []):=by
 have hnd:(m.filterMap (Zva w)).Nodup:=by
  have h1:m.Pairwise fun a b=>a.1≠b.1:=by
   have:=hR.nd;rw[List.Nodup,List.pairwise_map] at this;exact this
  refine List.Pairwise.filterMap (Zva w) (fun a b hab p hp q hq=>?_) h1;unfold Zva at hp hq
  split at hp
  ·split at hq
   ·rename_i e1 e2
    cases hp;cases hq
    intro e
    injection e with e3 e4
    exact hab (Prod.ext (e1.trans e2.symm) e3)
   ·cases hq
  ·cases hp
 have hmem:∀ p:PT,p∈m.filterMap (Zva w)↔((w,p.dev),p.runs)∈m:=fun p=>by
  rw[List.mem_filterMap]
  constructor
  ·rintro⟨e,he,h⟩;unfold Zva at h
   split at h
   ·rename_i hw
    cases h
    rw[<- hw];exact he
   ·cases h
  ·intro h;exact⟨_,h,by simp[Zva]⟩
 by_cases hw:isW x w=true
 ·rw[if_pos hw];obtain⟨r,hr,rfl⟩:=Xw.1 hw;have hc:=hR.can r hr;rw[qL hR.srt hr];refine(List.perm_ext_iff_of_nodup hnd ?_).2 fun p=>?_
  ·rw[List.nodup_cons];refine⟨fun h=>?_,hc.ord.imp fun {a b} h e=>by rw[e] at h;omega⟩;have:=(hc.nf _ h).1;simp at this
  ·rw[hmem,hR.mem,List.mem_cons]
   constructor
   ·rintro⟨s,hs,e,h⟩;rw[vOa hR.srt hs hr e] at h;rcases h with⟨h1,h2⟩ | h
    ·left;cases p;simp at h1 h2;simp[h1,h2]
    ·right;exact h
   ·rintro(rfl | h)
    ·exact⟨r,hr,rfl,.inl ⟨rfl,rfl⟩⟩
    ·exact⟨r,hr,rfl,.inr h⟩
 ·rw[if_neg hw];have:m.filterMap (Zva w)=[]:=by
   refine List.eq_nil_iff_forall_not_mem.2 fun p hp=>?_
   obtain⟨r,hr,e,_⟩:=(hR.mem _ _ _).1 ((hmem p).1 hp);exact hw (Xw.2 ⟨r,hr,e⟩)
  rw[this]
theorem Rep.getC(w:Int):C.Canon (JZ x w)/\C.xn (JZ x w)<=B:=by
 by_cases hw:isW x w=true
 ·obtain⟨r,hr,rfl⟩:=Xw.1 hw;rw[qL hR.srt hr];exact⟨hR.can r hr,hR.tot r hr⟩
 ·rw[xxa (by simpa using hw)];exact⟨C.xta,Nat.zero_le _⟩
theorem Rep.row(hB:B<=100000000)(hm:m.length<=1000000000000)(w:Int):xj w nl m=pure (JZ x w):=by
 refine Zx ?_;unfold xj;refine qM w m hm fun c hc=>?_
 have h1:=hc.trans (hR.rowL w);obtain⟨g1,g2⟩:=hR.getC w;have gl:=Wq fun p hp=>(g1.nf p hp).2.1
 have hsm:C.Sm c:=by
  by_cases hw:isW x w=true
  ·rw[if_pos hw] at h1;refine⟨by have:=h1.length_eq;rw[List.length_cons] at this;omega,?_⟩;rw[Y9a h1];simp only[C.xn,List.map_cons,List.length_nil,List.sum_cons,Nat.zero_add] at g2 ⊢;omega
  ·rw[if_neg hw] at h1;rw[h1.eq_nil];exact⟨by simp,by simp[C.xn]⟩
 have hn:C.yj c=JZ x w:=by
  have h2:C.yj c=C.yj (JZ x w):=C.xsa fun k q=>by
   rw[Y8a h1]
   by_cases hw:isW x w=true
   ·rw[if_pos hw,XAa]
   ·rw[if_neg hw,xxa (by simpa using hw)]
  rw[h2,C.zna g1]
 show((det (un c)).bind _).wp _;rw[C.jz c hsm,zB,zA,hn]
 rfl
end
section
variable{B n:Nat}{nl:Bool}{m:Mx}{x:List R25Row}(hR:Rep B n nl m x)
include hR
theorem Rep.mlen : m.length<=n*(B+1):=by
 have h1:m.Nodup:=by
  have:=hR.nd;rw[List.Nodup,List.pairwise_map] at this;exact this.imp fun h e=>h (congrArg _ e)
 have h2:=List.Nodup.length_le_of_subset h1 (l₂:=x.flatMap fun r=>((r.who,0),[])::r.c.map fun p=>((r.who,p.dev),p.runs)) (fun e he=>by
  obtain⟨⟨w,k⟩,l⟩:=e;obtain⟨r,hr,e1,h⟩:=(hR.mem w k l).1 he;rw[List.mem_flatMap];refine⟨r,hr,?_⟩;subst e1;rcases h with⟨rfl,rfl⟩ | h
  ·exact List.mem_cons_self
  ·exact List.mem_cons_of_mem _ (List.mem_map.2 ⟨_,h,rfl⟩))
 have h3:∀ z:List R25Row,(∀ r∈z,r.c.length<=B)->(z.flatMap fun r=>(((r.who,0),[]):(Int×Int)×List RN)::r.c.map fun p=>((r.who,p.dev),p.runs)).length<=z.length*(B+1):=by
  intro z
  induction z with
  | nil=>intro _;simp
  | cons r z ih=>
   intro hz;have h4:=ih fun s hs=>hz s (List.mem_cons_of_mem _ hs)
   have h5:=hz r List.mem_cons_self;rw[List.flatMap_cons,List.length_append,List.length_cons,List.length_map,List.length_cons,Nat.succ_mul];omega
 have h4:=h3 x fun r hr=>by have:=Wq fun p hp=>((hR.can r hr).nf p hp).2.1;have:=hR.tot r hr;omega
 exact Nat.le_trans h2 (Nat.le_trans h4 (Nat.mul_le_mul_right _ hR.len))
theorem Rep.Row(hS:n<=1000/\B<=100000000)(w:Int):xj w nl m=pure (JZ x w):=by
 refine hR.row hS.2 (Nat.le_trans hR.mlen ?_) w
 calc n*(B+1)<=1000*(B+1):=Nat.mul_le_mul_right _ hS.1
  _<=1000000000000:=by omega
end
def insW(x:List R25Row)(w:Int):List R25Row:=x.filter (fun r=>decide (r.who < w))++⟨w,[]⟩::x.filter (fun r=>decide (w < r.who))
def joinR(x:List R25Row)(w:Int):List R25Row:=if w=0\/isW x w=true then x else insW x w
theorem Vd{x:List R25Row}{w:Int}(h:isW x w=false){r:R25Row}:r∈insW x w↔r∈x\/r=⟨w,[]⟩:=by
 unfold insW;rw[List.mem_append,List.mem_cons,List.mem_filter,List.mem_filter,decide_eq_true_eq,decide_eq_true_eq]
 constructor
 ·rintro(⟨h1,_⟩ | h1 | ⟨h1,_⟩)
  ·exact .inl h1
  ·exact .inr h1
  ·exact .inl h1
 ·rintro(h1 | h1)
  ·have:r.who≠w:=fun e=>by rw[Xw.2 ⟨r,h1,e⟩] at h;cases h
   by_cases h2:r.who < w
   ·exact .inl ⟨h1,h2⟩
   ·exact .inr (.inr ⟨h1,by omega⟩)
  ·exact .inr (.inl h1)
theorem uZa{x:List R25Row}(h:Srt x)(w:Int):Srt (insW x w):=by
 unfold insW;refine List.pairwise_append.2 ⟨h.sublist List.filter_sublist,List.pairwise_cons.2 ⟨fun r hr=>?_,h.sublist List.filter_sublist⟩,fun a ha b hb=>?_⟩
 ·exact of_decide_eq_true (List.mem_filter.1 hr).2
 ·have h1:=of_decide_eq_true (List.mem_filter.1 ha).2;rcases List.mem_cons.1 hb with rfl | hb
  ·exact h1
  ·have h2:=of_decide_eq_true (List.mem_filter.1 hb).2;omega
theorem len_insW{x:List R25Row}(h:Srt x){w:Int}(hw:isW x w=false):(insW x w).length<=x.length+1:=by
 have hn:(insW x w).Nodup:=(uZa h w).imp fun {a b} h e=>by rw[e] at h;omega
 have:=List.Nodup.length_le_of_subset hn (l₂:=⟨w,[]⟩::x) (fun r hr=>by
  rcases(Vd hw).1 hr with h1 | h1
  ·exact List.mem_cons_of_mem _ h1
  ·rw[h1];exact List.mem_cons_self)
 simpa using this
section
variable{B n:Nat}{nl:Bool}{m:Mx}{x:List R25Row}(hR:Rep B n nl m x)
include hR
theorem Rep.ins{w:Int}(hw:isW x w=false):Rep B (n+1) false (AL.set m (w,0) []) (insW x w) where
 nd:=AL.nodup_set hR.nd _ _
 srt:=uZa hR.srt w
 can r hr:=by
  rcases(Vd hw).1 hr with h | h
  ·exact hR.can r h
  ·rw[h];exact C.xta
 tot r hr:=by
  rcases(Vd hw).1 hr with h | h
  ·exact hR.tot r h
  ·rw[h];exact Nat.zero_le _
 len:=by have:=len_insW hR.srt hw;have:=hR.len;omega
 nil h:=by cases h
 mem w' k l:=by
  rw[ju hR.nd,hR.mem]
  constructor
  ·rintro(⟨h1,h2⟩ | ⟨h1,r,hr,h2⟩)
   ·cases h1
    exact⟨⟨w,[]⟩,(Vd hw).2 (.inr rfl),rfl,.inl ⟨rfl,h2⟩⟩
   ·exact⟨r,(Vd hw).2 (.inl hr),h2⟩
  ·rintro⟨r,hr,e,h⟩;rcases(Vd hw).1 hr with h1 | h1
   ·refine .inr ⟨fun h2=>?_,r,h1,e,h⟩
    cases h2
    rw[Xw.2 ⟨r,h1,e⟩] at hw;cases hw
   ·rw[h1] at e h;rcases h with⟨h2,h3⟩ | h2
    ·subst e;exact .inl ⟨by rw[h2],h3⟩
    ·cases h2
theorem Rep.join(w:Int):∃ nl' m',wd w nl m=pure (!(decide (w=0)||isW x w),nl',m')/\Rep B (n+1) nl' m' (joinR x w):=by
 unfold wd joinR;rw[hR.is w,zB,zA]
 by_cases h0:w=0
 ·exact⟨nl,m,by rw[decide_eq_true h0];rfl,by rw[if_pos (.inl h0)];exact hR.up (Nat.le_refl _) (by omega)⟩
 ·rw[decide_eq_false h0,cond_false,zA]
  cases hw:isW x w
  ·exact⟨false,AL.set m (w,0) [],by rw[cond_false,hR.put,zB,zA];rfl,by rw[if_neg (by simp[h0])];exact hR.ins hw⟩
  ·exact⟨nl,m,rfl,by rw[if_pos (.inr rfl)];exact hR.up (Nat.le_refl _) (by omega)⟩
end
section
variable{B n:Nat}{nl:Bool}{m:Mx}{x:List R25Row}(hR:Rep B n nl m x)
include hR
end
def vPa(x:List R25Row)(w:Int)(c:List PT):List R25Row:=x.map fun r=>if r.who=w then ⟨r.who,C.opC (·||·) r.c c⟩ else r
theorem hearR_no{x:List R25Row}{w:Int}{c:List PT}(h:isW x w=false):vPa x w c=x:=by
 unfold vPa;have:∀ r∈x,(if r.who=w then ⟨r.who,C.opC (·||·) r.c c⟩ else r)=r:=fun r hr=>by
  rw[if_neg fun e=>by rw[Xw.2 ⟨r,hr,e⟩] at h;cases h]
 exact(List.map_congr_left this).trans (List.map_id _)
theorem uaa(w:Int):∀ (a:List PT) (m:Mx),C.OrdP a->(m.map (·.1)).Nodup->((a.foldl (fun m p=>AL.set m (w,p.dev) p.runs) m).map (·.1)).Nodup/\∀ w' k l,((w',k),l)∈a.foldl (fun m p=>AL.set m (w,p.dev) p.runs) m↔(w'=w/\(⟨k,l⟩:PT)∈a)\/(¬ (w'=w/\∃ p∈a,p.dev=k)/\((w',k),l)∈m)
 | [],m,_,hn=>⟨hn,fun w' k l=>by simp⟩
 | p::r,m,ho,hn=>by
  obtain⟨o1,o2⟩:=List.pairwise_cons.1 ho;obtain⟨h1,h2⟩:=uaa w r (AL.set m (w,p.dev) p.runs) o2 (AL.nodup_set hn _ _);refine⟨h1,fun w' k l=>?_⟩;rw[List.foldl_cons,h2,ju hn]
  constructor
  ·rintro(⟨e,h⟩ | ⟨g1,⟨e1,e2⟩ | ⟨e1,e2⟩⟩)
   ·exact .inl ⟨e,List.mem_cons_of_mem _ h⟩
   ·cases e1
    exact .inl ⟨rfl,by rw[e2];exact List.mem_cons_self⟩
   ·refine .inr ⟨?_,e2⟩;rintro⟨g3,q,hq,g4⟩;rcases List.mem_cons.1 hq with rfl | hq
    ·exact e1 (by rw[g3,g4])
    ·exact g1 ⟨g3,q,hq,g4⟩
  ·rintro(⟨e,h⟩ | ⟨g1,g2⟩)
   ·rcases List.mem_cons.1 h with h | h
    ·refine .inr ⟨?_,.inl ⟨by rw[e,<- h],by rw[<- h]⟩⟩;rintro⟨_,q,hq,g4⟩;have:=o1 q hq;rw[<- h] at this;simp only at this;omega
    ·exact .inl ⟨e,h⟩
   ·refine .inr ⟨?_,.inr ⟨?_,g2⟩⟩
    ·rintro⟨e1,q,hq,e2⟩;exact g1 ⟨e1,q,List.mem_cons_of_mem _ hq,e2⟩
    ·intro e;cases e;exact g1 ⟨rfl,p,List.mem_cons_self,rfl⟩
section
variable{B n:Nat}{nl:Bool}{m:Mx}{x:List R25Row}(hR:Rep B n nl m x)
include hR
theorem Rep.hear(hS:n<=1000/\B<=1000000)(w:Int){c:List PT}(hc:c.length<=1000000/\C.xn c<=1000000):∃ nl' m',we w c nl m=pure (if isW x w then 0 else 6,nl',m')/\Rep (B+C.xn c) n nl' m' (vPa x w c):=by
 unfold we;rw[hR.is w,zB,zA]
 cases hw:isW x w
 ·exact⟨nl,m,rfl,by rw[hearR_no hw];exact hR.up (by omega) (Nat.le_refl _)⟩
 obtain⟨g1,g2⟩:=hR.getC w;have gl:=Wq fun p hp=>(g1.nf p hp).2.1
 have hj:=C.uSa (op:=(·||·)) rfl (JZ x w) c;have ht:=tot_op mon_or (JZ x w) c;have hl:=Wq fun p hp=>(hj.nf p hp).2.1
 rw[Bool.not_true,cond_false,hR.Row ⟨hS.1,by omega⟩,zB,zA,C.Join_eq _ _ (C.sm_app (by omega) (by omega)),zB,zA];have:=M.XP (body:=ZT (C.opC (·||·) (JZ x w) c) w) (C.opC (·||·) (JZ x w) c) (fun i (t:Bool×Mx)=>((i:Int),t.1,t.2)) (fun t p=>(false,AL.set t.2 (w,p.dev) p.runs)) (fun t=>pure (t.1,t.2)) (fun _ t=>t.1=true->t.2=[]) (fun i p t hp hi hI=>by
  refine⟨?_,fun h=>by cases h⟩;show cond (decide ((i:Int) < ((C.opC (·||·) (JZ x w) c).length:Int))) _ _=_;rw[decide_eq_true (by omega),cond_true,zR hp,zA];have hput:xL w p.dev p.runs t.1 t.2=pure (false,AL.set t.2 (w,p.dev) p.runs):=by
   unfold xL
   cases h:t.1 with
   | false=>rfl
   | true=>rw[hI h];rfl
  rw[hput,zB,zA,yM (by omega)]) (fun t _=>by
  show cond (decide (((C.opC (·||·) (JZ x w) c).length:Int) < ((C.opC (·||·) (JZ x w) c).length:Int))) _ _=_;rw[decide_eq_false (by omega)];rfl) (nl,m) hR.nil
 rw[show((0:Int),nl,m)=(((0:Nat):Int),nl,m) from rfl,this,zA];have hf:∀ (a:List PT) (t:Bool×Mx),(t.1=true->t.2=[])->(a.foldl (fun t p=>(false,AL.set t.2 (w,p.dev) p.runs)) t).2=a.foldl (fun m p=>AL.set m (w,p.dev) p.runs) t.2/\((a.foldl (fun t p=>(false,AL.set t.2 (w,p.dev) p.runs)) t).1=true->(a.foldl (fun t p=>(false,AL.set t.2 (w,p.dev) p.runs)) t).2=[]):=by
  intro a
  induction a with
  | nil=>intro t ht;exact⟨rfl,ht⟩
  | cons p r ih=>intro t _;exact ih (false,AL.set t.2 (w,p.dev) p.runs) fun h=>by cases h
 obtain⟨f1,f2⟩:=hf (C.opC (·||·) (JZ x w) c) (nl,m) hR.nil;refine⟨_,_,rfl,?_⟩;obtain⟨d1,d2⟩:=uaa w (C.opC (·||·) (JZ x w) c) m hj.ord hR.nd;obtain⟨r0,hr0,e0⟩:=Xw.1 hw;have hg:JZ x w=r0.c:=by rw[<- e0];exact qL hR.srt hr0
 have hdev:∀ p∈r0.c,∃ q∈C.opC (·||·) (JZ x w) c,q.dev=p.dev:=fun p hp=>by
  obtain⟨q,hq⟩:=part_has (hR.can r0 hr0) hp;exact has_dev (k:=p.dev) (n:=q) (by rw[C.Y3a rfl,hg,hq];rfl)
 have hmem:∀ r',r'∈vPa x w c↔(r'∈x/\r'.who≠w)\/r'=⟨w,C.opC (·||·) (JZ x w) c⟩:=fun r'=>by
  unfold vPa;rw[List.mem_map]
  constructor
  ·rintro⟨r,hr,rfl⟩
   by_cases e:r.who=w
   ·rw[if_pos e,<- e,qL hR.srt hr];exact .inr rfl
   ·rw[if_neg e];exact .inl ⟨hr,e⟩
  ·rintro(⟨h1,h2⟩ | rfl)
   ·exact⟨r',h1,if_neg h2⟩
   ·exact⟨r0,hr0,by rw[if_pos e0,hg,e0]⟩
 refine⟨by rw[f1];exact d1,fun w' k l=>?_,?_,fun r hr=>?_,fun r hr=>?_,by unfold vPa;rw[List.length_map];exact hR.len,fun h=>f2 h⟩
 ·show((w',k),l)∈((C.opC (·||·) (JZ x w) c).foldl (fun t p=>(false,AL.set t.2 (w,p.dev) p.runs)) (nl,m)).2↔_;rw[f1,d2,hR.mem]
  constructor
  ·rintro(⟨e,h⟩ | ⟨g3,r,hr,e,h⟩)
   ·exact⟨_,(hmem _).2 (.inr rfl),e.symm,.inr h⟩
   ·by_cases e2:w'=w
    ·have:r=r0:=vOa hR.srt hr hr0 (by rw[e,e2,e0]);subst this;rcases h with⟨h1,h2⟩ | h
     ·exact⟨_,(hmem _).2 (.inr rfl),e2.symm,.inl ⟨h1,h2⟩⟩
     ·obtain⟨q,hq,hqd⟩:=hdev _ h;exact absurd ⟨e2,q,hq,hqd⟩ g3
    ·exact⟨r,(hmem _).2 (.inl ⟨hr,fun e3=>e2 (e.symm.trans e3)⟩),e,h⟩
  ·rintro⟨r,hr,e,h⟩;rcases(hmem r).1 hr with⟨h1,h2⟩ | h1
   ·exact .inr ⟨fun e2=>h2 (e.trans e2.1),r,h1,e,h⟩
   ·rw[h1] at e h;rcases h with⟨h2,h3⟩ | h
    ·refine .inr ⟨?_,r0,hr0,by rw[e0];exact e,.inl ⟨h2,h3⟩⟩;rintro⟨_,q,hq,e2⟩;have:=(hj.nf q hq).1;omega
    ·exact .inl ⟨e.symm,h⟩
 ·unfold vPa Srt;rw[List.pairwise_map];exact hR.srt.imp fun {a b} h=>by
   have e1:∀ r:R25Row,(if r.who=w then ⟨r.who,C.opC (·||·) r.c c⟩ else r:R25Row).who=r.who:=fun r=>by split <;> rfl
   rw[e1,e1];exact h
 ·rcases(hmem r).1 hr with⟨h1,_⟩ | h1
  ·exact hR.can r h1
  ·rw[h1];exact hj
 ·rcases(hmem r).1 hr with⟨h1,_⟩ | h1
  ·have:=hR.tot r h1;omega
  ·rw[h1];show C.xn (C.opC (·||·) (JZ x w) c)<=_;omega
end
end Go.Ep.M.J
namespace Go.Ep.M.N
open Go
theorem XBa(n:Int):IntKind.u8.wrap n=n % 256:=by simp[IntKind.wrap,IntKind.bits,IntKind.signed]
def XX(n:Nat):Nat:=if n=0 then 0 else XX (n / 256)+1
theorem XS : XX 0=0:=by rw[XX];rfl
theorem Ve{n:Nat}(h:n≠0):XX n=XX (n / 256)+1:=by rw[XX,if_neg h]
theorem Qf : ∀ (k n:Nat),n < 256 ^ k->XX n<=k
 | 0,n,h=>by
  have:n=0:=by simpa using h
  rw[this,XS];exact Nat.le_refl _
 | k+1,n,h=>by
  by_cases h0:n=0
  ·rw[h0,XS];omega
  ·rw[Ve h0];have:=Qf k (n / 256) (by rw[Nat.pow_succ] at h;omega);omega
theorem XCa : ∀ (n:Nat),n < 256 ^ XX n:=by
 intro n
 induction n using Nat.strongRecOn with
 | _ n ih=>
  by_cases h0:n=0
  ·rw[h0,XS];decide
  ·rw[Ve h0,Nat.pow_succ];have:=ih (n / 256) (by omega);omega
theorem vQa : ∀ (k n:Nat),256 ^ k<=n->k+1<=XX n
 | 0,n,h=>by
  have:n≠0:=by intro h0;rw[h0] at h;simp at h
  rw[Ve this];omega
 | k+1,n,h=>by
  have hp:0 < 256 ^ k:=Nat.pow_pos (by decide);rw[Nat.pow_succ] at h;have:n≠0:=by omega
  rw[Ve this];have:=vQa k (n / 256) (by omega);omega
theorem zoa{n:Nat}(h:n < 18446744073709551616):XX n<=8:=Qf 8 n (by simpa using h)
theorem fdiv256(n:Nat):Int.fdiv (n:Int) (2 ^ 8)=((n / 256:Nat):Int):=by
 rw[Int.fdiv_eq_ediv_of_nonneg _ (by decide)];have:(2 ^ 8:Int)=256:=rfl;rw[this];omega
theorem XDa(n:Nat):Int.tdiv (n:Int) 256=((n / 256:Nat):Int):=by
 rw[Int.tdiv_eq_ediv_of_nonneg (by omega)];omega
theorem len_loop : ∀ (n k:Nat),k+XX n<=1000->loop Yj ((n:Int),(k:Int))=pure (((k+XX n:Nat)):Int):=by
 intro n
 induction n using Nat.strongRecOn with
 | _ n ih=>
  intro k hk
  by_cases h0:n=0
  ·subst h0;rw[XS,Nat.add_zero];exact zT (by unfold Yj;simp)
  ·rw[Ve h0] at hk ⊢;rw[zi (s':=(((n / 256:Nat):Int),((k+1:Nat):Int))) (by
    unfold Yj;have:decide ((0:Int) < (n:Int))=true:=by simp;omega
    simp only[this,cond_true,fdiv256,yM (show k < 9223372036854775807 by omega)]),ih (n / 256) (by omega) (k+1) (by omega)]
   congr 2;omega
theorem Len_eq{v:Int}(h0:0<=v)(h:v<=18446744073709551615):Uo v=pure (XX v.toNat:Int):=by
 obtain⟨n,rfl⟩:=Int.eq_ofNat_of_zero_le h0;unfold Uo;have:=len_loop n 0 (by have:=zoa (n:=n) (by omega);omega);rw[show(0:Int)=((0:Nat):Int) from rfl,this,zA,Nat.zero_add,Int.toNat_natCast]
theorem XEa : ∀ (n k:Nat),n < 18446744073709551616->k+XX n<=1000->loop VV ((n:Int),(k:Int))=pure (((k+XX n:Nat)):Int):=by
 intro n
 induction n using Nat.strongRecOn with
 | _ n ih=>
  intro k hn hk
  by_cases h0:n=0
  ·subst h0;rw[XS,Nat.add_zero];exact zT (by unfold VV;simp)
  ·rw[Ve h0] at hk ⊢;rw[zi (s':=(((n / 256:Nat):Int),((k+1:Nat):Int))) (by
    unfold VV;have:decide ((0:Int) < (n:Int))=true:=by simp;omega
    simp only[this,cond_true,XDa,yM (show k < 9223372036854775807 by omega),uW (show(0:Int)<=((n / 256:Nat):Int) by omega) (by omega)]),ih (n / 256) (by omega) (k+1) (by omega) (by omega)]
   congr 2;omega
theorem rLen_eq{v:Int}(h0:0<=v)(h:v<=18446744073709551615):wpa v=pure (XX v.toNat:Int):=by
 obtain⟨n,rfl⟩:=Int.eq_ofNat_of_zero_le h0;unfold wpa;have:=XEa n 0 (by omega) (by have:=zoa (n:=n) (by omega);omega);rw[show(0:Int)=((0:Nat):Int) from rfl,this,zA,Nat.zero_add,Int.toNat_natCast]
def YX(n i:Nat):Int:=((n / 256 ^ i % 256:Nat):Int)
theorem Byte_eq(n i:Nat)(hi:i<=7):VG (n:Int) (i:Int)=pure (YX n i):=by
 have h8:i=0\/i=1\/i=2\/i=3\/i=4\/i=5\/i=6\/i=7:=by omega
 unfold VG YX;rw[uW (show(0:Int)<=(i:Int) by omega) (by omega),uW (show(0:Int)<=8*(i:Int) by omega) (by omega)];have hd:decide ((7:Int) < (i:Int))=false:=by simp;omega
 simp only[hd,cond_false];rw[zJ (by omega),XBa,Int.fdiv_eq_ediv_of_nonneg _ (by exact Int.le_of_lt (Int.pow_pos (by decide)))]
 congr 1
 have e:(2:Int) ^ min (8*(i:Int)).toNat 64=((256 ^ i:Nat):Int):=by
  rcases h8 with rfl | rfl | rfl | rfl | rfl | rfl | rfl | rfl <;> rfl
 rw[e];exact(by rw[Int.natCast_emod,Int.natCast_ediv];rfl)
theorem Zaa(m:Nat):∀ (j:Nat) (n:Nat),j<=m->m<=7->n < 18446744073709551616->loop (ub (m:Int)) ((n:Int),(j:Int))=pure ((n / 256 ^ (m - j):Nat):Int):=by
 have key:∀ (d j n:Nat),j+d=m->m<=7->n < 18446744073709551616->loop (ub (m:Int)) ((n:Int),(j:Int))=pure ((n / 256 ^ d:Nat):Int):=by
  intro d
  induction d with
  | zero=>
   intro j n hj hm hn;have:j=m:=by omega
   subst this;rw[zT (r:=(n:Int)) (by unfold ub;simp)];simp
  | succ d ih=>
   intro j n hj hm hn;rw[zi (s':=(((n / 256:Nat):Int),((j+1:Nat):Int))) (by
    unfold ub;have:decide ((j:Int) < (m:Int))=true:=by simp;omega
    simp only[this,cond_true,XDa,yM (show j < 9223372036854775807 by omega),uW (show(0:Int)<=((n / 256:Nat):Int) by omega) (by omega)]),ih (j+1) (n / 256) (by omega) hm (by omega)]
   rw[Nat.pow_succ,Nat.mul_comm,Nat.div_div_eq_div_mul]
 intro j n hj hm hn;exact key (m - j) j n (by omega) hm hn
theorem rByte_eq(n i:Nat)(hi:i<=7)(hn:n < 18446744073709551616):yFa (n:Int) (i:Int)=pure (YX n i):=by
 unfold yFa YX;have h1:decide ((i:Int) < 0)=false:=by simp
 have h2:decide ((7:Int) < (i:Int))=false:=by simp;omega
 have h3:loop (ub (i:Int)) ((n:Int),0)=pure ((n / 256 ^ (i - 0):Nat):Int):=Zaa i 0 n (by omega) hi hn;rw[h1,h2,cond_false,zA,cond_false,h3,zA,Nat.sub_zero,Int.tmod_eq_emod_of_nonneg (Int.natCast_nonneg _),XBa]
 congr 1
 generalize n / 256 ^ i=q
 omega
def be(n:Nat):Nat->List Int
 | 0=>[]
 | k+1=>YX n k::be n k
theorem XFa(n:Nat):∀ k,(be n k).length=k
 | 0=>rfl
 | k+1=>by simp[be,XFa n k]
def wWa(n:Nat):List Int:=(XX n:Int)::be n (XX n)
def xe(v:Int):List Int:=wWa v.toNat
theorem zk{v:Int}(h:v<=18446744073709551615):(xe v).length<=9:=by
 have:=zoa (n:=v.toNat) (by omega);simp[xe,wWa,XFa];omega
theorem uba(n:Nat):∀ (k:Nat) (out:List Int),k<=8->out.length+k<=100000000000000->loop (Zb (n:Int)) ((k:Int) - 1,out)=pure (out++be n k)
 | 0,out,_,_=>by
  rw[be,List.append_nil];exact zT (by unfold Zb;simp)
 | k+1,out,hk,ho=>by
  have e:((k+1:Nat):Int) - 1=(k:Int):=by omega
  rw[e,zi (s':=((k:Int) - 1,out++[YX n k])) (by
   unfold Zb;have h1:decide ((0:Int)<=(k:Int))=true:=by simp
   simp only[h1,cond_true,Byte_eq n k (by omega),zB,zA];rw[zJ (by simp;omega),uV (by omega) (by omega)]),uba n k _ (by omega) (by simp;omega),be,List.append_assoc]
  rfl
theorem XGa(b:List Int){v:Int}(h0:0<=v)(h:v<=18446744073709551615)(hb:b.length<=10000000000000):VH b v=pure (b++xe v):=by
 have h8:=zoa (n:=v.toNat) (by omega);unfold VH;rw[Len_eq h0 h,zB,zA,uV (show -9223372036854775808<=(b.length:Int)+(XX v.toNat:Int) by omega) (by omega),uV (by omega) (by omega),zJ (by omega),zJ (by simp;omega),zJ (by simp;omega),wU8 (by omega) (by omega),uV (by omega) (by omega)];have:=uba v.toNat (XX v.toNat) (([]:List Int)++b++[(XX v.toNat:Int)]) h8 (by simp;omega);rw[show((v.toNat:Nat):Int)=v by omega] at this;rw[this,zA];simp[xe,wWa]
theorem xya(n:Nat)(hn:n < 18446744073709551616):∀ (k:Nat) (out:List Int),k<=8->out.length+k<=100000000000000->loop (Zd (n:Int)) ((k:Int) - 1,out)=pure (out++be n k)
 | 0,out,_,_=>by
  rw[be,List.append_nil];exact zT (by unfold Zd;simp)
 | k+1,out,hk,ho=>by
  have e:((k+1:Nat):Int) - 1=(k:Int):=by omega
  rw[e,zi (s':=((k:Int) - 1,out++[YX n k])) (by
   unfold Zd;have h1:decide ((0:Int)<=(k:Int))=true:=by simp
   simp only[h1,cond_true,rByte_eq n k (by omega) hn,zB,zA];rw[zJ (by simp;omega),uV (by omega) (by omega)]),xya n hn k _ (by omega) (by simp;omega),be,List.append_assoc]
  rfl
theorem yn(b:List Int){v:Int}(h0:0<=v)(h:v<=18446744073709551615)(hb:b.length<=10000000000000):yX b v=pure (b++xe v):=by
 have h8:=zoa (n:=v.toNat) (by omega);unfold yX;rw[rLen_eq h0 h,zJ (by simp;omega),zB,zA,zJ (by simp;omega),wU8 (by omega) (by omega),uV (by omega) (by omega)];have:=xya v.toNat (by omega) (XX v.toNat) (([]:List Int)++b++[(XX v.toNat:Int)]) h8 (by simp;omega);rw[show((v.toNat:Nat):Int)=v by omega] at this;rw[this,zA];simp[xe,wWa]
def By(l:List Int):Prop:=∀ x∈l,0<=x/\x<=255
theorem By.drop{l:List Int}(h:By l)(n:Nat):By (l.drop n):=fun x hx=>h x (List.mem_of_mem_drop hx)
theorem By.take{l:List Int}(h:By l)(n:Nat):By (l.take n):=fun x hx=>h x (List.mem_of_mem_take hx)
theorem By.app{a b:List Int}(ha:By a)(hb:By b):By (a++b):=fun x hx=>(List.mem_append.1 hx).elim (ha x) (hb x)
theorem By.nil : By []:=fun x hx=>by cases hx
def Qg(l:List Int):Int:=l.foldl (fun v x=>v*256+x) 0
theorem Qh : ∀ (l:List Int) (v k:Nat),By l->v < 256 ^ k->∃ n:Nat,l.foldl (fun v x=>v*256+x) (v:Int)=(n:Int)/\n < 256 ^ (k+l.length)/\v*256 ^ l.length<=n
 | [],v,k,_,hv=>⟨v,rfl,by simpa using hv,by simp⟩
 | x::r,v,k,hb,hv=>by
  have hx:=hb x (by simp);obtain⟨n,h1,h2,h3⟩:=Qh r (v*256+x.toNat) (k+1) (fun y hy=>hb y (by simp[hy])) (by rw[Nat.pow_succ];omega);refine⟨n,?_,by rw[show k+(x::r).length=k+1+r.length by simp;omega];exact h2,?_⟩
  ·rw[List.foldl_cons,<- h1]
   congr 1;omega
  ·refine Nat.le_trans ?_ h3;rw[List.length_cons,Nat.pow_succ];have:v*(256 ^ r.length*256)=v*256*256 ^ r.length:=by rw[Nat.mul_comm (256 ^ r.length),Nat.mul_assoc]
   rw[this];exact Nat.mul_le_mul_right _ (by omega)
theorem XHa{l:List Int}(h:By l)(h8:l.length<=8):0<=Qg l/\Qg l<=18446744073709551615:=by
 obtain⟨n,h1,h2,_⟩:=Qh l 0 0 h (by decide);have h3:256 ^ (0+l.length)<=256 ^ 8:=Nat.pow_le_pow_right (by decide) (by omega);have h4:(256:Nat) ^ 8=18446744073709551616:=by decide
 rw[Qg,show(0:Int)=((0:Nat):Int) from rfl,h1];omega
theorem bor_eq{v:Nat}{x:Int}(hv:v < 72057594037927936)(hx:0<=x/\x<=255):bOr .u64 (IntKind.u64.wrap ((v:Int)*2 ^ 8)) (IntKind.u64.wrap x)=(v:Int)*256+x:=by
 obtain⟨y,rfl⟩:=Int.eq_ofNat_of_zero_le hx.1;have e:((v:Int)*2 ^ 8)=((2 ^ 8*v:Nat):Int):=by
  have:(2 ^ 8:Int)=256:=rfl;have:(2 ^ 8:Nat)=256:=rfl;omega
 have hb:2 ^ 8*v+y < 18446744073709551616:=by
  have:(2 ^ 8:Nat)=256:=rfl;omega
 rw[e,uW (by omega) (by omega),uW (by omega) (by omega)];unfold bOr;have bv:∀ q:Nat,q < 18446744073709551616->(BitVec.ofInt IntKind.u64.bits (q:Int)).toNat=q:=fun q hq=>by
  show(BitVec.ofInt 64 (q:Int)).toNat=q;rw[BitVec.toNat_ofInt];omega
 rw[BitVec.toNat_or,bv _ (by omega),bv _ (by omega),<- Nat.two_pow_add_eq_or_of_lt (show y < 2 ^ 8 by have:(2 ^ 8:Nat)=256:=rfl;omega) v,uW (by omega) (by omega)];have:(2 ^ 8:Nat)=256:=rfl;omega
def rdN : List Int->Int×Nat×Int
 | []=>(0,0,2)
 | n::r=>if 8 < n\/(0 < n/\r.head?=some 0) then (0,0,4) else if (r.length:Int) < n then (0,0,2) else (Qg (r.take n.toNat),n.toNat+1,0)
theorem qO(n:Int)(r:List Int):rdN (n::r)=if 8 < n\/(0 < n/\r.head?=some 0) then (0,0,4) else if (r.length:Int) < n then (0,0,2) else (Qg (r.take n.toNat),n.toNat+1,0):=rfl
theorem Qi(b:List Int)(hb:By b):(rdN b=(0,0,2)\/rdN b=(0,0,4))\/∃ n r,b=n::r/\0<=n/\n<=8/\n<=(r.length:Int)/\¬ (0 < n/\r.head?=some 0)/\rdN b=(Qg (r.take n.toNat),n.toNat+1,0):=by
 cases b with
 | nil=>exact .inl (.inl rfl)
 | cons n r=>
  have hn:=hb n (by simp);rw[qO]
  by_cases h1:8 < n\/(0 < n/\r.head?=some 0)
  ·rw[if_pos h1];exact .inl (.inr rfl)
  ·rw[if_neg h1]
   by_cases h2:(r.length:Int) < n
   ·rw[if_pos h2];exact .inl (.inl rfl)
   ·rw[if_neg h2];exact .inr ⟨n,r,rfl,hn.1,by omega,by omega,fun h=>h1 (.inr h),rfl⟩
theorem Qj(b:List Int)(hb:By b):0<=(rdN b).1/\(rdN b).1<=18446744073709551615/\(rdN b).2.1<=b.length/\((rdN b).2.2=0\/(rdN b).2.2=2\/(rdN b).2.2=4):=by
 rcases Qi b hb with(h | h) | ⟨n,r,rfl,h0,h8,hl,_,h⟩
 ·rw[h];simp
 ·rw[h];simp
 ·rw[h];have:=XHa (l:=r.take n.toNat) (fun x hx=>hb x (by simp[List.mem_of_mem_take hx])) (by rw[List.length_take];omega);refine⟨this.1,this.2,?_,.inl rfl⟩;simp;omega
theorem ysa{r:List Int}(h:r≠[]):∃ y,r.head?=some y/\r[0]?=some y:=by
 cases r with
 | nil=>exact absurd rfl h
 | cons y t=>exact⟨y,rfl,rfl⟩
theorem Read_eq(b:List Int)(hb:By b)(hl:b.length<=1000000000000):Jx b 0=pure ((rdN b).1,((rdN b).2.1:Int),(rdN b).2.2):=by
 unfold Jx;have h0:decide ((b.length:Int) < 0)=false:=by simp
 rw[show decide ((0:Int) < 0)=false from rfl,cond_false,h0,zA,cond_false]
 cases b with
 | nil=>rfl
 | cons n r=>
  have hn:=hb n (by simp);have hr:By r:=fun x hx=>hb x (by simp[hx])
  have h1:decide ((0:Int)=((n::r).length:Int))=false:=by simp;omega
  have hrl:r.length<=1000000000000:=by simp at hl;omega
  have e1:List.drop (Int.toNat (IntKind.i64.wrap (0+1))) (List.take (Int.toNat ((n::r).length:Int)) (n::r))=r:=by
   rw[uV (by omega) (by omega),Int.toNat_natCast,List.take_length];rfl
  rw[h1,cond_false,Yz (y:=n) (by omega) rfl,zA,zJ (by rw[uV (by omega) (by omega)];simp;omega),e1,uV (n:=n) (by omega) (by omega)];rw[qO];have hc:(cond (decide (8 < n)) (pure true) (cond (decide (0 < n)) (cond (decide ((0:Int) < (r.length:Int))) ((idx r 0).bind fun x14=>pure (decide (x14=0))) (pure false)) (pure false)):M Bool)=pure (decide (8 < n\/(0 < n/\r.head?=some 0))):=by
   by_cases c1:8 < n
   ·simp[c1]
   ·by_cases c2:0 < n
    ·by_cases c3:r=[]
     ·subst c3;simp[c1,c2]
     ·obtain⟨y,h5,h6⟩:=ysa c3;have c4:0 < r.length:=List.length_pos_iff.2 c3;simp[c1,c2,c4,Yz (l:=r) (i:=0) (y:=y) (by omega) h6,h5,zA]
    ·simp[c1,c2]
  rw[hc,zA]
  by_cases c1:8 < n\/(0 < n/\r.head?=some 0)
  ·rw[decide_eq_true c1,cond_true,if_pos c1];rfl
  ·rw[decide_eq_false c1,cond_false,if_neg c1]
   by_cases c2:(r.length:Int) < n
   ·rw[decide_eq_true c2,cond_true,if_pos c2];rfl
   ·rw[decide_eq_false c2,cond_false,if_neg c2,zJ (by omega)];have e2:List.drop (Int.toNat 0) (List.take (Int.toNat (IntKind.i64.wrap n)) (List.drop (Int.toNat (IntKind.i64.wrap (0+1))) (List.take (Int.toNat ((n::r).length:Int)) (n::r))))=r.take n.toNat:=by
     rw[e1,uV (by omega) (by omega)];rfl
    have hlen:(r.take n.toNat).length=n.toNat:=by rw[List.length_take];omega
    have hloop:=XP (body:=YG n 0 (n::r)) (r.take n.toNat) (fun i t=>(t,(i:Int))) (fun v x=>v*256+x) (fun t=>pure t) (fun i t=>∃ m:Nat,t=(m:Int)/\m < 256 ^ i) (fun i x t hx hi hI=>by
     obtain⟨m,rfl,hm⟩:=hI;have hxr:=(hr.take n.toNat) x (List.mem_of_getElem? hx);have hm7:m < 72057594037927936:=by
      have h3:256 ^ i<=256 ^ 7:=Nat.pow_le_pow_right (by decide) (by omega);have h4:(256:Nat) ^ 7=72057594037927936:=by decide
      omega
     refine⟨?_,m*256+x.toNat,by omega,by rw[Nat.pow_succ];omega⟩;unfold YG;have hd:decide ((i:Int) < ((r.take n.toNat).length:Int))=true:=by simpa using hi
     simp only[e2,hd,cond_true,zR hx,zA,bor_eq hm7 hxr,yM (show i < 9223372036854775807 by omega)]) (fun t _=>by
     unfold YG;have hd:decide (((r.take n.toNat).length:Int) < ((r.take n.toNat).length:Int))=false:=by simp
     simp only[e2,hd,cond_false,zA]) 0 ⟨0,rfl,by decide⟩
    have hloop':loop (YG n 0 (n::r)) (0,0)=pure (Qg (r.take n.toNat)):=hloop;rw[hloop',zA,uV (n:=0+1) (by omega) (by omega),uV (by omega) (by omega)];have:((0:Int)+1+n)=((n.toNat+1:Nat):Int):=by omega
    rw[this]
theorem rRead_eq(B:List Int)(at_:Nat)(hB:By B)(hl:B.length<=1000000000000)(ha:at_<=B.length) :
  Jy B (at_:Int)=pure ((rdN (B.drop at_)).1,(if (rdN (B.drop at_)).2.2=0 then ((at_+(rdN (B.drop at_)).2.1:Nat):Int) else 0),(rdN (B.drop at_)).2.2):=by
 unfold Jy;have h0:decide ((at_:Int) < 0)=false:=by simp
 have h0':decide ((B.length:Int) < (at_:Int))=false:=by simp;omega
 rw[h0,cond_false,h0',zA,cond_false]
 by_cases hend:at_=B.length
 ·have hd:B.drop at_=[]:=by rw[hend,List.drop_length]
  have h1:decide ((at_:Int)=(B.length:Int))=true:=by simp[hend]
  rw[h1,cond_true,hd];rfl
 ·have h1:decide ((at_:Int)=(B.length:Int))=false:=by simp;omega
  have hlt:at_ < B.length:=by omega
  obtain⟨n,r,hd⟩:∃ n r,B.drop at_=n::r:=by
   rw[List.drop_eq_getElem_cons hlt];exact⟨_,_,rfl⟩
  have hnB:B[at_]?=some n:=by
   have:=congrArg List.head? hd;rw[List.head?_drop] at this;exact this
  have hrB:∀ j,B[at_+1+j]?=r[j]?:=fun j=>by
   have:=congrArg (fun l=>l[j+1]?) hd;simp only[List.getElem?_drop,List.getElem?_cons_succ] at this;rw[<- this];congr 1;omega
  have hlenr:r.length+1+at_=B.length:=by
   have:=congrArg List.length hd;simp at this;omega
  have hb:By (n::r):=hd▸hB.drop at_;have hn:=hb n (by simp);have hr:By r:=fun x hx=>hb x (by simp[hx])
  rw[h1,cond_false,zR hnB,zA,uV (n:=n) (by omega) (by omega),hd];rw[qO];have hleft:IntKind.i64.wrap (IntKind.i64.wrap ((B.length:Int) - (at_:Int)) - 1)=(r.length:Int):=by
   rw[uV (n:=(B.length:Int) - (at_:Int)) (by omega) (by omega),uV (by omega) (by omega)];omega
  have hc:(cond (decide (8 < n)) (pure true) (cond (decide (0 < n)) (cond (decide ((0:Int) < (IntKind.i64.wrap (IntKind.i64.wrap ((B.length:Int) - (at_:Int)) - 1)))) ((idx B (IntKind.i64.wrap ((at_:Int)+1))).bind fun x14=>pure (decide (x14=0))) (pure false)) (pure false)):M Bool)=pure (decide (8 < n\/(0 < n/\r.head?=some 0))):=by
   rw[hleft]
   by_cases c1:8 < n
   ·simp[c1]
   ·by_cases c2:0 < n
    ·by_cases c3:r=[]
     ·subst c3;simp[c1,c2]
     ·obtain⟨y,h5,h6⟩:=ysa c3;have c4:0 < r.length:=List.length_pos_iff.2 c3;have h7:idx B (IntKind.i64.wrap ((at_:Int)+1))=pure y:=by
       rw[uV (by omega) (by omega)];exact zR (i:=at_+1) (by rw[<- h6,<- hrB 0])
      simp[c1,c2,c4,h7,h5,zA]
    ·simp[c1,c2]
  rw[hc,zA]
  by_cases c1:8 < n\/(0 < n/\r.head?=some 0)
  ·rw[decide_eq_true c1,cond_true,if_pos c1];rfl
  ·rw[decide_eq_false c1,cond_false,if_neg c1,hleft]
   by_cases c2:(r.length:Int) < n
   ·rw[decide_eq_true c2,cond_true,if_pos c2];rfl
   ·rw[decide_eq_false c2,cond_false,if_neg c2];have hlen:(r.take n.toNat).length=n.toNat:=by rw[List.length_take];omega
    have hloop:=XP (body:=YH n B (at_:Int)) (r.take n.toNat) (fun i t=>(t,((i+1:Nat):Int))) (fun v x=>v*256+x) (fun t=>pure t) (fun i t=>∃ m:Nat,t=(m:Int)/\m < 256 ^ i) (fun i x t hx hi hI=>by
     obtain⟨m,rfl,hm⟩:=hI;have hxr:=(hr.take n.toNat) x (List.mem_of_getElem? hx);have hm7:m < 72057594037927936:=by
      have h3:256 ^ i<=256 ^ 7:=Nat.pow_le_pow_right (by decide) (by omega);have h4:(256:Nat) ^ 7=72057594037927936:=by decide
      omega
     refine⟨?_,m*256+x.toNat,by omega,by rw[Nat.pow_succ];omega⟩;unfold YH;have hd2:decide (((i+1:Nat):Int)<=n)=true:=by simp;omega
     have hx2:B[at_+(i+1)]?=some x:=by
      rw[List.getElem?_take] at hx
      split at hx
      ·rw[<- hx,<- hrB i];congr 1;omega
      ·cases hx
     have hix:idx B (IntKind.i64.wrap ((at_:Int)+((i+1:Nat):Int)))=pure x:=by
      rw[uV (by omega) (by omega)];exact zR (i:=at_+(i+1)) hx2
     simp only[uV (n:=n) (by omega) (by omega),hd2,cond_true,hix,zA,uW (n:=(m:Int)*256) (by omega) (by omega),uW (n:=x) (by omega) (by omega),uW (n:=(m:Int)*256+x) (by omega) (by omega),yM (show i+1 < 9223372036854775807 by omega)]) (fun t _=>by
     unfold YH;have hd2:decide (((((r.take n.toNat).length+1:Nat)):Int)<=n)=false:=by rw[hlen];simp;omega
     simp only[uV (n:=n) (by omega) (by omega),hd2,cond_false,zA]) 0 ⟨0,rfl,by decide⟩
    have hloop':loop (YH n B (at_:Int)) (0,1)=pure (Qg (r.take n.toNat)):=hloop;rw[hloop',zA,uV (n:=(at_:Int)+1) (by omega) (by omega),uV (by omega) (by omega)];have:((at_:Int)+1+n)=((at_+(n.toNat+1):Nat):Int):=by omega
    rw[this];rfl
theorem be_val(n:Nat):∀ k,Qg (be n k)=((n % 256 ^ k:Nat):Int):=by
 intro k;have key:∀ (k v:Nat),(be n k).foldl (fun v x=>v*256+x) (v:Int)=((v*256 ^ k+n % 256 ^ k:Nat):Int):=by
  intro k
  induction k with
  | zero=>intro v;simp[be,Nat.mod_one]
  | succ k ih=>
   intro v;rw[be,List.foldl_cons,show(v:Int)*256+YX n k=((v*256+n / 256 ^ k % 256:Nat):Int) by unfold YX;omega,ih]
   congr 1
   have h1:n % 256 ^ (k+1)=256 ^ k*(n / 256 ^ k % 256)+n % 256 ^ k:=by
    rw[Nat.pow_succ,Nat.mod_mul];omega
   rw[h1,Nat.add_mul,Nat.pow_succ,Nat.mul_comm (256 ^ k) (n / 256 ^ k % 256),Nat.add_assoc]
   congr 1
   rw[Nat.mul_comm (256 ^ k) 256,Nat.mul_assoc]
 have:=key k 0;simpa[Qg] using this
theorem be_head{n:Nat}(h:XX n≠0):(be n (XX n)).head?≠some 0:=by
 obtain⟨k,hk⟩:∃ k,XX n=k+1:=⟨XX n - 1,by omega⟩
 rw[hk,be,List.head?_cons];intro e;have h1:YX n k=0:=by injection e
 unfold YX at h1;have h2:=XCa n;rw[hk,Nat.pow_succ] at h2;have hp:0 < 256 ^ k:=Nat.pow_pos (by decide);have h4:n / 256 ^ k < 256:=(Nat.div_lt_iff_lt_mul hp).2 (by rw[Nat.mul_comm];exact h2);have h3:n / 256 ^ k=0:=by
  generalize n / 256 ^ k=q at h1 h4 ⊢
  omega
 have h5:n < 256 ^ k:=by
  rcases Nat.div_eq_zero_iff.1 h3 with h | h
  ·omega
  ·exact h
 have:=Qf k n h5;omega
theorem rdN_enc{v:Int}(h0:0<=v)(h:v<=18446744073709551615)(r:List Int):rdN (xe v++r)=(v,(xe v).length,0):=by
 have h8:=zoa (n:=v.toNat) (by omega);have hl:=XFa v.toNat (XX v.toNat);have hv:=be_val v.toNat (XX v.toNat);rw[Nat.mod_eq_of_lt (XCa _)] at hv;show rdN ((XX v.toNat:Int)::(be v.toNat (XX v.toNat)++r))=_;rw[qO,if_neg,if_neg (by rw[List.length_append];omega)]
 ·rw[Int.toNat_natCast,List.take_append_of_le_length (by omega),List.take_of_length_le (by omega),hv];simp[xe,wWa,hl];omega
 ·intro hc;rcases hc with hc | ⟨hc1,hc2⟩
  ·omega
  ·have hne:XX v.toNat≠0:=by omega
   refine be_head hne ?_;rw[List.head?_append] at hc2;obtain⟨y,h5,_⟩:=ysa (r:=be v.toNat (XX v.toNat)) (by intro e;rw[e] at hl;simp at hl;omega);rw[h5] at hc2 ⊢;exact hc2
theorem be_of : ∀ (l:List Int),By l->∀ n:Nat,Qg l=(n:Int)->be n l.length=l:=by
 intro l;have key:∀ (m:Nat) (l:List Int),l.length=m->By l->∀ n:Nat,Qg l=(n:Int)->be n l.length=l:=by
  intro m
  induction m with
  | zero=>intro l hl _ n _;have:=List.eq_nil_of_length_eq_zero hl;subst this;rfl
  | succ m ih=>
   intro l hl hb n hn
   cases l with
   | nil=>simp at hl
   | cons x r=>
    have hx:=hb x (by simp);have hr:By r:=fun y hy=>hb y (by simp[hy])
    obtain⟨q,h1,h2,h3⟩:=Qh r 0 0 hr (by decide);obtain⟨q2,h4,h5,h6⟩:=Qh r x.toNat 1 hr (by omega);have hq:Qg r=(q:Int):=h1;have hq2:Qg (x::r)=(q2:Int):=by
     rw[Qg,List.foldl_cons,<- h4];congr 1;omega
    have hrl:r.length=m:=by simpa using hl
    have e:q2=n:=by omega
    subst e;have hlin:∀ (l:List Int) (v:Int),l.foldl (fun v x=>v*256+x) v=v*256 ^ l.length+Qg l:=by
     intro l
     induction l with
     | nil=>intro v;simp[Qg]
     | cons y t iht=>
      intro v;have e:Qg (y::t)=y*256 ^ t.length+Qg t:=by rw[Qg,List.foldl_cons,iht];simp
      rw[List.foldl_cons,iht,e,List.length_cons,Int.pow_succ,Int.add_mul,Int.mul_assoc,Int.mul_comm 256,Int.add_assoc]
    have hsum:(q2:Int)=x*256 ^ r.length+(q:Int):=by
     rw[<- hq,<- hlin r x,<- hq2,Qg,List.foldl_cons];congr 1;omega
    have hqlt:q < 256 ^ r.length:=by simpa using h2
    have hnat:q2=x.toNat*256 ^ r.length+q:=by
     have:((q2:Nat):Int)=((x.toNat*256 ^ r.length+q:Nat):Int):=by
      rw[hsum,Int.natCast_add,Int.natCast_mul,Int.natCast_pow,Int.toNat_of_nonneg hx.1];rfl
     exact Int.ofNat.inj this
    have hp:0 < 256 ^ r.length:=Nat.pow_pos (by decide);have hdiv:q2 / 256 ^ r.length=x.toNat:=by
     rw[hnat,Nat.mul_comm,Nat.mul_add_div hp,Nat.div_eq_of_lt hqlt,Nat.add_zero]
    rw[List.length_cons,be];have hb1:YX q2 r.length=x:=by unfold YX;rw[hdiv];omega
    rw[hb1]
    congr 1
    have hbe:∀ k,k<=r.length->be q2 k=be q k:=by
     intro k hk
     induction k with
     | zero=>rfl
     | succ k ihk=>
      rw[be,be,ihk (by omega)]
      congr 1
      show((q2 / 256 ^ k % 256:Nat):Int)=((q / 256 ^ k % 256:Nat):Int)
      congr 1
      have hs:256 ^ r.length=256 ^ k*(256*256 ^ (r.length - k - 1)):=by
       rw[<- Nat.pow_succ',<- Nat.pow_add];congr 1;omega
      have hpk:0 < 256 ^ k:=Nat.pow_pos (by decide);rw[hnat,hs,Nat.mul_left_comm,Nat.mul_add_div hpk];rw[Nat.mul_left_comm,Nat.mul_add_mod]
    rw[hbe _ (Nat.le_refl _)];exact ih r hrl hr q hq
 exact key l.length l rfl
theorem rdN_one{b:List Int}(hb:By b)(h:(rdN b).2.2=0):b=xe (rdN b).1++b.drop (rdN b).2.1:=by
 rcases Qi b hb with(h1 | h1) | ⟨n,r,rfl,h0,h8,hl,hh,h1⟩
 ·rw[h1] at h;simp at h
 ·rw[h1] at h;simp at h
 ·rw[h1];have hr:By r:=fun x hx=>hb x (by simp[hx])
  have hbt:=hr.take n.toNat;have hlt:(r.take n.toNat).length=n.toNat:=by rw[List.length_take];omega
  obtain⟨q,h2,h3,h4⟩:=Qh (r.take n.toNat) 0 0 hbt (by decide);have hq:Qg (r.take n.toNat)=(q:Int):=h2;have hbe:=be_of _ hbt q hq;rw[hlt] at hbe;have hlen:XX q=n.toNat:=by
   apply Nat.le_antisymm
   ·exact Qf _ _ (by simpa[hlt] using h3)
   ·rcases Nat.eq_zero_or_pos n.toNat with hz | hz
    ·omega
    ·obtain⟨k,hk⟩:∃ k,n.toNat=k+1:=⟨n.toNat - 1,by omega⟩
     rw[hk];refine vQa k q ?_;rw[hk,be] at hbe;have hne:YX q k≠0:=by
      intro e;rw[e] at hbe;refine hh ⟨by omega,?_⟩;have:=congrArg List.head? hbe;rw[List.head?_cons,List.head?_take,if_neg (by omega)] at this;exact this.symm
     unfold YX at hne;have hp:0 < 256 ^ k:=Nat.pow_pos (by decide);rcases Nat.lt_or_ge q (256 ^ k) with hlt2 | hge
     ·rw[Nat.div_eq_of_lt hlt2] at hne;simp at hne
     ·exact hge
  show n::r=xe (Qg (r.take n.toNat))++(n::r).drop (n.toNat+1);rw[hq,xe,Int.toNat_natCast,wWa,hlen,hbe,List.drop_succ_cons,List.cons_append,List.take_append_drop]
  congr 1;omega
abbrev RS:=List Int×Int
structure Ok(s:RS):Prop where
 by_:By s.1
 len:s.1.length<=1000000000
 nil:s.2≠0->s.1=[]
def vg(e:Int)(s:RS):RS:=if s.2=0/\e≠0 then ([],e) else s
def zU(s:RS):Int×RS:=if s.2≠0 then (0,s) else if (rdN s.1).2.2≠0 then (0,vg (rdN s.1).2.2 s) else ((rdN s.1).1,(s.1.drop (rdN s.1).2.1,0))
def yL(m:Int)(s:RS):Int×RS:=if m < (zU s).1 then (0,vg 4 (zU s).2) else zU s
def wG(s:RS):Int×RS:=if s.2≠0 then (0,s) else match s.1 with | []=>(0,vg 2 s) | x::r=>(x,(r,0))
def YY(m:Int)(s:RS):ByteArray×RS:=
 if (zU s).2.2≠0 then (⟨#[]⟩,(zU s).2) else if max m 0 < (zU s).1 then (⟨#[]⟩,vg 3 (zU s).2) else if ((zU s).2.1.length:Int) < (zU s).1 then (⟨#[]⟩,vg 2 (zU s).2)
 else (wha ((zU s).2.1.take (zU s).1.toNat),((zU s).2.1.drop (zU s).1.toNat,0))
def qP(s:RS):Int×RS:=let t:=if 0 < s.1.length then vg 4 s else s;(t.2,t)
theorem Xx{s:RS}(h:Ok s)(e:Int):Ok (vg e s):=by
 unfold vg
 by_cases c:s.2=0/\e≠0
 ·rw[if_pos c];exact⟨By.nil,by simp,fun _=>rfl⟩
 ·rw[if_neg c];exact h
theorem wY{s:RS}{e:Int}(h:e≠0):(vg e s).2≠0:=by
 unfold vg
 by_cases c:s.2=0
 ·rw[if_pos ⟨c,h⟩];exact h
 ·rw[if_neg (fun q=>c q.1)];exact c
theorem fail_of{s:RS}(e:Int)(h:s.2≠0):vg e s=s:=if_neg fun q=>h q.1
theorem uca{s:RS}(h:s.2≠0):zU s=(0,s):=if_pos h
theorem yv{s:RS}(h:Ok s):Ok (zU s).2/\0<=(zU s).1/\(zU s).1<=18446744073709551615:=by
 unfold zU;have hr:=Qj s.1 h.by_
 by_cases c:s.2≠0
 ·rw[if_pos c];exact⟨h,by simp,by simp⟩
 ·rw[if_neg c]
  by_cases c2:(rdN s.1).2.2≠0
  ·rw[if_pos c2];exact⟨Xx h _,by simp,by simp⟩
  ·rw[if_neg c2];exact⟨⟨h.by_.drop _,by simp;have:=h.len;omega,fun h=>absurd rfl h⟩,hr.1,hr.2.1⟩
theorem vt{s:RS}(h:Ok s){m:Int}(hm:0<=m):Ok (yL m s).2/\0<=(yL m s).1/\(yL m s).1<=m:=by
 unfold yL;obtain⟨h1,h2,h3⟩:=yv h
 by_cases c:m < (zU s).1
 ·rw[if_pos c];exact⟨Xx h1 _,by simp,hm⟩
 ·rw[if_neg c];exact⟨h1,h2,by omega⟩
theorem Qk{s:RS}(h:Ok s):Ok (wG s).2/\0<=(wG s).1/\(wG s).1<=255:=by
 unfold wG
 by_cases c:s.2≠0
 ·rw[if_pos c];exact⟨h,by simp,by simp⟩
 ·rw[if_neg c]
  cases hs:s.1 with
  | nil=>exact⟨Xx h _,by simp,by simp⟩
  | cons x r=>
   have hb:=h.by_;have hl:=h.len;rw[hs] at hb hl;exact⟨⟨fun y hy=>hb y (by simp[hy]),by simp at hl ⊢;omega,fun h=>absurd rfl h⟩,(hb x (by simp)).1,(hb x (by simp)).2⟩
theorem ok_text{s:RS}(h:Ok s)(m:Int):Ok (YY m s).2:=by
 unfold YY;obtain⟨h1,h2,h3⟩:=yv h
 split
 ·exact h1
 ·split
  ·exact Xx h1 _
  ·split
   ·exact Xx h1 _
   ·exact⟨h1.by_.drop _,by simp;have:=h1.len;omega,fun h=>absurd rfl h⟩
theorem New_eq(b:List Int)(h:b.length<=1000000000):VX b=pure (b,0):=by
 unfold VX;rw[zJ (by omega)]
theorem Vx(b:List Int)(e:Int):zm b e=pure (e,b,e):=rfl
theorem YZ(e:Int)(s:RS):zX e s.1 s.2=pure (vg e s):=by
 unfold zX vg
 by_cases c:s.2=0 <;> by_cases c2:e=0 <;> simp[c,c2,zA] <;> rw[<- c]
theorem vRa(b:List Int)(n:Nat)(e:Int)(h:n<=b.length):xl (n:Int) b e=pure (b.take n,b.drop n,e):=by
 unfold xl;rw[zJ (by omega),zJ (by omega)];simp
theorem Yq{s:RS}(h:Ok s):zc s.1 s.2=pure (zU s):=by
 unfold zc zU;rw[Vx,zB,zA]
 by_cases c:s.2=0
 ·have hr:=Qj s.1 h.by_;simp only[c,decide_true,Bool.not_true,cond_false,Read_eq s.1 h.by_ (by have:=h.len;omega),zB,zA,ne_eq,not_true_eq_false,if_false]
  by_cases c2:(rdN s.1).2.2=0
  ·simp only[c2,decide_true,Bool.not_true,cond_false,vRa s.1 (rdN s.1).2.1 0 hr.2.2.1,zB,zA,not_true_eq_false,if_false]
  ·have:=YZ (rdN s.1).2.2 s;rw[c] at this;simp only[c2,decide_false,Bool.not_false,cond_true,this,zB,zA,not_false_eq_true,if_true]
 ·simp[c]
theorem yta{s:RS}(h:Ok s)(m:Int):yQ m s.1 s.2=pure (yL m s):=by
 unfold yQ yL;rw[Yq h,zB,zA]
 by_cases c:m < (zU s).1
 ·rw[decide_eq_true c,cond_true,if_pos c,YZ 4 (zU s).2,zB,zA]
 ·rw[decide_eq_false c,cond_false,if_neg c]
theorem vSa(s:RS):xI s.1 s.2=pure ((s.1.length:Int),s):=by
 unfold xI ZL;rw[zB,zA]
theorem yua{s:RS}(h:Ok s):yR s.1 s.2=pure (wG s):=by
 unfold yR wG;rw[Vx,zB,zA]
 by_cases c:s.2=0
 ·obtain⟨b,e⟩:=s;simp only at c;subst c;have hL:=vSa (b,0);simp only at hL
  cases b with
  | nil=>
   have:=YZ 2 ([],0);simp only at this;simp[hL,zB,zA,this]
  | cons x r=>
   have ht:=vRa (x::r) 1 0 (by simp);simp only[show((1:Nat):Int)=1 from rfl] at ht;have hd:decide (((x::r).length:Int)=0)=false:=by simp;omega
   simp only[decide_true,Bool.not_true,cond_false,hL,zB,zA,hd,ht];rw[Yz (l:=List.take 1 (x::r)) (i:=0) (y:=x) (by omega) rfl,zA];simp
 ·simp[c]
theorem vTa{s:RS}(h:Ok s){m:Int}(hm:m<=9223372036854775807):xx m s.1 s.2=pure (YY m s):=by
 unfold xx YY;obtain⟨h1,h2,h3⟩:=yv h;rw[Yq h,zB,zA,Vx,zB,zA]
 by_cases c:(zU s).2.2=0
 ·simp only[c,decide_true,Bool.not_true,cond_false,ne_eq,not_true_eq_false,if_false];rw[uW (n:=max m 0) (by omega) (by omega)]
  by_cases c2:max m 0 < (zU s).1
  ·have hF:=YZ 3 (zU s).2;rw[c] at hF;rw[decide_eq_true c2,cond_true,if_pos c2,hF,zB,zA]
  ·have hL:=vSa (zU s).2;rw[c] at hL;rw[decide_eq_false c2,cond_false,if_neg c2,hL,zB,zA];have hlen:=h1.len;rw[uW (n:=((zU s).2.1.length:Int)) (by omega) (by omega)]
   by_cases c3:((zU s).2.1.length:Int) < (zU s).1
   ·have hF:=YZ 2 (zU s).2;rw[decide_eq_true c3,cond_true,if_pos c3,hF,zB,zA]
   ·rw[decide_eq_false c3,cond_false,if_neg c3,uV (by omega) (by omega)];have ht:=vRa (zU s).2.1 (zU s).1.toNat (zU s).2.2 (by omega);rw[Int.toNat_of_nonneg h2] at ht;rw[ht,zB,zA,c]
 ·simp[c]
theorem End_eq(s:RS):wi s.1 s.2=pure (qP s):=by
 unfold wi qP;rw[vSa,zB,zA]
 by_cases c:0 < s.1.length
 ·have:decide ((0:Int) < (s.1.length:Int))=true:=by simpa using c
  simp only[this,cond_true,YZ,zB,zA,if_pos c,Vx]
 ·have:decide ((0:Int) < (s.1.length:Int))=false:=by simpa using c
  simp only[this,cond_false,zA,if_neg c,Vx,zB]
theorem XIa(b row:List Int)(h:row.length+b.length<=100000000000000):xY b row=pure (row++b):=by
 unfold xY;rw[zJ (by omega)]
theorem vY{v:Int}(row:List Int)(h0:0<=v)(h:v<=18446744073709551615)(hr:row.length<=10000000000000):zb v row=pure (row++xe v):=by
 unfold zb;have:=zk h;rw[XGa [] h0 h (by simp),zB,zA,List.nil_append,XIa _ _ (by omega),zB,zA]
theorem Bytes_eq(row:List Int)(h:row.length<=100000000000000):ww row=pure (row,row):=by
 unfold ww;rw[zJ (by omega)]
theorem yva(c:Int)(row:List Int)(hr:row.length<=10000000000000):xH c row=pure (row++[c]):=by
 unfold xH;rw[XIa _ _ (by simp;omega),zB,zA]
structure Sim(B:List Int)(a:Int)(s:RS):Prop where
 lo:0<=a
 hi:a<=B.length
 eq:s.2=0->s.1=B.drop a.toNat
structure OkB(B:List Int):Prop where
 by_:By B
 len:B.length<=1000000000
theorem Sim.start(B:List Int):Sim B 0 (B,0):=⟨Int.le_refl _,by omega,fun _=>rfl⟩
theorem OkB.ok{B:List Int}(h:OkB B):Ok (B,0):=⟨h.by_,h.len,fun h=>absurd rfl h⟩
theorem Sim.fail{B:List Int}{a:Int}{s:RS}(h:Sim B a s){e:Int}(he:e≠0):Sim B a (vg e s):=⟨h.lo,h.hi,fun h2=>absurd h2 (wY he)⟩
theorem Sim.bad{B:List Int}{a:Int}{s t:RS}(h:Sim B a s)(ht:t.2≠0):Sim B a t:=⟨h.lo,h.hi,fun h2=>absurd h2 ht⟩
variable{B:List Int}{a:Int}{s:RS}
theorem uR(B:List Int)(a:Int)(s:RS){e:Int}(he:e≠0):zI e B a s.2=pure (B,a,(vg e s).2):=by
 unfold zI vg
 by_cases c:s.2=0 <;> simp[c,he]
theorem uS(hB:OkB B)(h:Sim B a s):∃ a',zL B a s.2=pure ((zU s).1,B,a',(zU s).2.2)/\Sim B a' (zU s).2:=by
 obtain⟨m,rfl⟩:=Int.eq_ofNat_of_zero_le h.lo;have hm:m<=B.length:=by have:=h.hi;omega
 unfold zL zU
 by_cases c:s.2=0
 ·have hd:=h.eq c;rw[Int.toNat_natCast] at hd;have hr:=Qj s.1 (by rw[hd];exact hB.by_.drop _);rw[hd] at hr ⊢;simp only[c,decide_true,Bool.not_true,cond_false,rRead_eq B m hB.by_ (by have:=hB.len;omega) hm,zB,zA,ne_eq,not_true_eq_false,if_false]
  by_cases c2:(rdN (B.drop m)).2.2=0
  ·simp only[c2,decide_true,Bool.not_true,cond_false,if_true,not_true_eq_false,if_false];refine⟨_,rfl,by omega,?_,fun _=>?_⟩
   ·have:=hr.2.2.1;rw[List.length_drop] at this;omega
   ·rw[List.drop_drop];congr 1
  ·have:=uR B (m:Int) s c2;rw[c] at this;simp only[c2,decide_false,Bool.not_false,cond_true,if_false,this,zB,zA,not_false_eq_true,if_true];exact⟨_,rfl,h.fail c2⟩
 ·have:decide (s.2=0)=false:=by simp[c]
  simp only[this,Bool.not_false,cond_true,ne_eq,c,not_false_eq_true,if_true];exact⟨_,rfl,h⟩
theorem qQ(hB:OkB B)(h:Sim B a s)(m:Int):∃ a',zj m B a s.2=pure ((yL m s).1,B,a',(yL m s).2.2)/\Sim B a' (yL m s).2:=by
 obtain⟨a1,h1,h2⟩:=uS hB h;unfold zj yL;rw[h1,zB,zA]
 by_cases c:m < (zU s).1
 ·rw[decide_eq_true c,cond_true,if_pos c,uR B a1 (zU s).2 (by decide),zB,zA];exact⟨_,rfl,h2.fail (by decide)⟩
 ·rw[decide_eq_false c,cond_false,if_neg c];exact⟨_,rfl,h2⟩
theorem Ql(hB:OkB B)(h:Sim B a s):∃ a',zq B a s.2=pure ((wG s).1,B,a',(wG s).2.2)/\Sim B a' (wG s).2:=by
 obtain⟨m,rfl⟩:=Int.eq_ofNat_of_zero_le h.lo;have hm:m<=B.length:=by have:=h.hi;omega
 have hlen:=hB.len;unfold zq wG
 by_cases c:s.2=0
 ·have hd:=h.eq c;rw[Int.toNat_natCast] at hd;simp only[c,decide_true,Bool.not_true,cond_false,ne_eq,not_true_eq_false,if_false]
  by_cases hend:B.length<=m
  ·have:decide ((B.length:Int)<=(m:Int))=true:=by simpa using hend
   have hnil:s.1=[]:=by rw[hd];exact List.drop_eq_nil_of_le hend
   have hF:=uR B (m:Int) s (e:=2) (by decide);rw[c] at hF;simp only[this,cond_true,hF,zB,zA,hnil];exact⟨_,rfl,h.fail (by decide)⟩
  ·have:decide ((B.length:Int)<=(m:Int))=false:=by simp;omega
   have hlt:m < B.length:=by omega
   have hs:s.1=B[m]::B.drop (m+1):=by rw[hd];exact List.drop_eq_getElem_cons hlt
   have hi:idx B (IntKind.i64.wrap (IntKind.i64.wrap ((m:Int)+1) - 1))=pure B[m]:=by
    rw[uV (n:=(m:Int)+1) (by omega) (by omega),uV (by omega) (by omega)];exact Yz (by omega) (by rw[show((m:Int)+1 - 1).toNat=m by omega];exact List.getElem?_eq_getElem hlt)
   simp only[this,cond_false,hi,zA,hs];refine⟨_,rfl,?_,?_,fun _=>?_⟩
   ·rw[uV (by omega) (by omega)];omega
   ·rw[uV (by omega) (by omega)];omega
   ·rw[uV (by omega) (by omega)];show B.drop (m+1)=_
    congr 1
 ·have:decide (s.2=0)=false:=by simp[c]
  simp only[this,Bool.not_false,cond_true,ne_eq,c,not_false_eq_true,if_true];exact⟨_,rfl,h⟩
theorem XJa(hB:OkB B)(hO:Ok s)(h:Sim B a s){q:Int}(hq:q<=9223372036854775807):∃ a',yZ q B a s.2=pure ((YY q s).1,B,a',(YY q s).2.2)/\Sim B a' (YY q s).2:=by
 obtain⟨a1,h1,h2⟩:=uS hB h;obtain⟨k1,k2,k3⟩:=yv hO;have hlen:=hB.len;unfold yZ YY;rw[h1,zB,zA];have hmost:(cond (decide (q < 0)) (pure 0) (pure q):M Int)=pure (max q 0):=by
  by_cases c:q < 0
  ·rw[decide_eq_true c,cond_true];congr 1;omega
  ·rw[decide_eq_false c,cond_false];congr 1;omega
 rw[hmost,zA,uW (n:=max q 0) (by omega) (by omega)]
 generalize hns:zU s=ns at *
 obtain⟨n,b,e⟩:=ns;simp only at *
 by_cases c:e=0
 ·subst c
  by_cases c2:max q 0 < n
  ·have hF:=uR B a1 (b,0) (e:=3) (by decide);simp only at hF;simp only[decide_eq_true c2,cond_true,hF,zB,zA];have hb:(vg 3 (b,0)).2=3:=rfl;simp only[hb,show decide ((3:Int)=0)=false from rfl,cond_false,zA,Bool.not_false,cond_true,ne_eq,not_true_eq_false,if_false,if_pos c2];exact⟨_,rfl,h2.fail (by decide)⟩
  ·simp only[decide_eq_false c2,cond_false,zA,decide_true,cond_true,ne_eq,not_true_eq_false,if_false,if_neg c2];have hbl:(b.length:Int)=B.length - a1:=by
    have h3:=h2.eq rfl;simp only at h3;rw[h3,List.length_drop];have:=h2.lo;have:=h2.hi;omega
   have h4:=h2.lo;have h5:=h2.hi;rw[uV (n:=(B.length:Int) - a1) (by omega) (by omega),uW (n:=(B.length:Int) - a1) (by omega) (by omega),<- hbl]
   by_cases c3:(b.length:Int) < n
   ·have hF:=uR B a1 (b,0) (e:=2) (by decide);simp only at hF;have hb:(vg 2 (b,0)).2=2:=rfl;simp only[decide_eq_true c3,cond_true,hF,zB,zA,hb,show decide ((2:Int)=0)=false from rfl,Bool.not_false,if_pos c3];exact⟨_,rfl,h2.fail (by decide)⟩
   ·have hn:IntKind.i64.wrap n=n:=uV (by omega) (by omega);simp only[decide_eq_false c3,cond_false,zA,decide_true,Bool.not_true,if_neg c3,hn];rw[uV (n:=a1+n) (by omega) (by omega),zJ (by omega)];have h3:=h2.eq rfl;simp only at h3;refine⟨_,by congr 2;rw[h3];congr 1;rw[List.drop_take];congr 1;omega,?_,?_,fun _=>?_⟩
    ·omega
    ·omega
    ·show b.drop n.toNat=_;rw[h3,List.drop_drop];congr 1;omega
 ·have hd:decide (e=0)=false:=by simp[c]
  have hx:max q 0 < n\/¬ max q 0 < n:=by omega
  have hz:n=0:=by
   unfold zU at hns
   by_cases c4:s.2=0
   ·rw[if_neg (by simp[c4])] at hns
    by_cases c5:(rdN s.1).2.2=0
    ·rw[if_neg (by simp[c5])] at hns;have:=congrArg (fun x=>x.2.2) hns;simp only at this;exact absurd this.symm c
    ·rw[if_pos c5] at hns;exact(congrArg (fun x=>x.1) hns).symm
   ·rw[if_pos c4] at hns;exact(congrArg (fun x=>x.1) hns).symm
  subst hz;have hd2:decide (max q 0 < 0)=false:=by simp;omega
  rw[if_pos (show e≠0 from c)];simp only[hd2,cond_false,zA,hd,Bool.not_false,cond_true];exact⟨_,rfl,h2⟩
theorem rEndS_eq(hB:OkB B)(hO:Ok s)(h:Sim B a s):∃ a',ye B a s.2=pure ((qP s).1,B,a',(qP s).1):=by
 have hlen:=hB.len;unfold ye xh qP
 by_cases c:s.2=0
 ·have h3:=h.eq c;have h4:=h.lo;have h5:=h.hi;have hbl:(s.1.length:Int)=B.length - a:=by rw[h3,List.length_drop];omega
  have e1:IntKind.i64.wrap ((B.length:Int) - a)=(s.1.length:Int):=by rw[uV (by omega) (by omega)];omega
  simp only[c,decide_true,Bool.not_true,cond_false,e1,zB,zA]
  by_cases c2:0 < s.1.length
  ·have:decide ((0:Int) < (s.1.length:Int))=true:=by simpa using c2
   have hF:=uR B a s (e:=4) (by decide);rw[c] at hF;simp only[this,cond_true,hF,zB,zA,if_pos c2];exact⟨_,rfl⟩
  ·have:decide ((0:Int) < (s.1.length:Int))=false:=by simpa using c2
   simp only[this,cond_false,zA,if_neg c2,c];exact⟨_,rfl⟩
 ·have hn:=hO.nil c;have:decide (s.2=0)=false:=by simp[c]
  simp only[this,Bool.not_false,cond_true,zB,zA,show decide ((0:Int) < 0)=false from rfl,cond_false,hn,List.length_nil,show ¬ (0 < 0) by omega,if_false];exact⟨_,rfl⟩
end Go.Ep.M.N

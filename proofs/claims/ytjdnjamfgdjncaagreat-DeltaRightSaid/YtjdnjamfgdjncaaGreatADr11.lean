/- Side texts. -/
import Derived.Test.YtjdnjamfgdjncaaGreatADr10
set_option linter.unusedVariables false
set_option linter.unusedSimpArgs false
namespace Go.Ep.M.C
open Go
def yn(c:List PT)(k:Int):List RN:=(c.filter fun p=>decide (p.dev=k)&&decide (0 < k)).flatMap (·.runs)
theorem UL(k:Int):yn [] k=[]:=rfl
theorem ZD(p:PT)(c:List PT)(k:Int):yn (p::c) k=(if p.dev=k/\0 < k then p.runs else [])++yn c k:=by
 unfold yn;rw[List.filter_cons]
 by_cases h:p.dev=k/\0 < k
 ·simp[h.1,h.2]
 ·rw[if_neg (by simpa using h),if_neg h];rfl
theorem VA(a b:List PT)(k:Int):yn (a++b) k=yn a k++yn b k:=by simp[yn,List.filter_append]
theorem qf{c:List PT}{k:Int}(h:¬ 0 < k):yn c k=[]:=by simp[yn,h]
def yb(c:List PT)(k n:Int):Bool:=R.yY (yn c k) n
theorem vl(a b:List PT)(k n:Int):yb (a++b) k n=(yb a k n||yb b k n):=by simp[yb,VA,R.uY]
theorem hasC_nil(k n:Int):yb [] k n=false:=rfl
def uB(c:List PT):Nat:=(c.map fun p=>p.runs.length).sum
theorem Xh(a b:List PT):uB (a++b)=uB a+uB b:=by simp[uB]
theorem xm(c:List PT)(k:Int):(yn c k).length<=uB c:=by
 induction c with
 | nil=>simp[yn]
 | cons p r ih=>
  rw[ZD,List.length_append];have:uB (p::r)=p.runs.length+uB r:=by simp[uB]
  split
  ·omega
  ·simp;omega
theorem qg(ks:List Int):(ks.map fun _=>0).sum=0:=by
 induction ks with
 | nil=>rfl
 | cons k r ih=>rw[List.map_cons,List.sum_cons,ih]
theorem qh(c:List PT)(ks:List Int)(h:ks.Nodup):(ks.map fun k=>(yn c k).length).sum<=uB c:=by
 induction c with
 | nil=>simp only[UL,List.length_nil,qg];exact Nat.zero_le _
 | cons p r ih=>
  have e:uB (p::r)=p.runs.length+uB r:=by simp[uB]
  have h1:(ks.map fun k=>(yn (p::r) k).length).sum=(ks.map fun k=>if p.dev=k/\0 < k then p.runs.length else 0).sum+(ks.map fun k=>(yn r k).length).sum:=by
   clear h ih
   induction ks with
   | nil=>rfl
   | cons k ks ih2=>
    simp only[List.map_cons,List.sum_cons,ZD,List.length_append] at ih2 ⊢
    by_cases hc:p.dev=k/\0 < k
    ·rw[if_pos hc,if_pos hc];omega
    ·rw[if_neg hc,if_neg hc,List.length_nil];omega
  have h2:(ks.map fun k=>if p.dev=k/\0 < k then p.runs.length else 0).sum<=p.runs.length:=by
   clear ih h1 e
   induction ks with
   | nil=>simp
   | cons k ks ih2=>
    obtain⟨n1,n2⟩:=List.nodup_cons.1 h;simp only[List.map_cons,List.sum_cons]
    by_cases hk:p.dev=k
    ·have h0:(ks.map fun k=>if p.dev=k/\0 < k then p.runs.length else 0).sum=0:=by
      have:(ks.map fun k=>if p.dev=k/\0 < k then p.runs.length else 0)=ks.map fun _=>0:=by
       refine List.map_congr_left fun q hq=>?_
       rw[if_neg];rintro⟨e,_⟩;exact n1 (by rw[<- hk,e];exact hq)
      rw[this];exact qg ks
     rw[h0]
     split <;> omega
    ·rw[if_neg (fun h=>hk h.1)];have:=ih2 n2;omega
  omega
def OrdP(l:List PT):Prop:=l.Pairwise fun x y=>x.dev < y.dev
theorem UM : ∀ {l l':List PT},OrdP l->OrdP l'->(∀ d,d∈l↔d∈l')->l=l'
 | [],[],_,_,_=>rfl
 | [],y::r,_,_,h=>absurd ((h y).2 (by simp)) (by simp)
 | x::r,[],_,_,h=>absurd ((h x).1 (by simp)) (by simp)
 | x::r,y::q,h1,h2,h=>by
  obtain⟨a1,a2⟩:=List.pairwise_cons.1 h1;obtain⟨b1,b2⟩:=List.pairwise_cons.1 h2;have e:x=y:=by
   rcases List.mem_cons.1 ((h x).1 (by simp)) with e | hx
   ·exact e
   ·rcases List.mem_cons.1 ((h y).2 (by simp)) with e | hy
    ·exact e.symm
    ·have:=a1 y hy;have:=b1 x hx;omega
  subst e
  congr 1
  refine UM a2 b2 fun d=>⟨fun hd=>?_,fun hd=>?_⟩
  ·rcases List.mem_cons.1 ((h d).1 (List.mem_cons_of_mem _ hd)) with e | hx
   ·subst e;have:=a1 d hd;omega
   ·exact hx
  ·rcases List.mem_cons.1 ((h d).2 (List.mem_cons_of_mem _ hd)) with e | hx
   ·subst e;have:=b1 d hd;omega
   ·exact hx
def ya(f:Int->List RN)(ks:List Int):List PT:=ks.filterMap fun k=>if f k=[] then none else some ⟨k,f k⟩
theorem ZE{f:Int->List RN}{ks:List Int}{p:PT}:p∈ya f ks↔p.dev∈ks/\p.runs≠[]/\p.runs=f p.dev:=by
 unfold ya;rw[List.mem_filterMap]
 constructor
 ·rintro⟨k,hk,h⟩
  split at h
  ·cases h
  ·rename_i h0;cases h;exact⟨hk,h0,rfl⟩
 ·rintro⟨h1,h2,h3⟩;refine⟨p.dev,h1,?_⟩;rw[if_neg (by rw[<- h3];exact h2),<- h3]
theorem vi{f:Int->List RN}{ks:List Int}(h:ks.Pairwise (· < ·)):OrdP (ya f ks):=by
 unfold OrdP ya;rw[List.pairwise_filterMap];refine h.imp fun {a b} hab x hx y hy=>?_
 split at hx
 ·cases hx
 ·split at hy
  ·cases hy
  ·cases hx;cases hy;exact hab
theorem jE{f g:Int->List RN}{ks ls:List Int}(h1:ks.Pairwise (· < ·))(h2:ls.Pairwise (· < ·))(hf:∀ k,f k=g k)(h:∀ k,f k≠[]->(k∈ks↔k∈ls)):ya f ks=ya g ls:=by
 refine UM (vi h1) (vi h2) fun p=>?_
 rw[ZE,ZE]
 constructor
 ·rintro⟨a,b,c⟩;exact⟨(h _ (by rw[<- c];exact b)).1 a,b,by rw[c,hf]⟩
 ·rintro⟨a,b,c⟩;exact⟨(h _ (by rw[hf,<- c];exact b)).2 a,b,by rw[c,hf]⟩
theorem jF(f:Int->List RN)(ks:List Int):(ya f ks).length<=ks.length:=List.length_filterMap_le _ _
theorem jG(f:Int->List RN)(ks:List Int):uB (ya f ks)=(ks.map fun k=>(f k).length).sum:=by
 induction ks with
 | nil=>rfl
 | cons k ks ih=>
  have:ya f (k::ks)=(if f k=[] then [] else [⟨k,f k⟩])++ya f ks:=by
   unfold ya
   by_cases h:f k=[] <;> simp[h]
  rw[this,Xh,ih]
  by_cases h:f k=[] <;> simp[h,uB]
theorem jH{f:Int->List RN}{ks:List Int}(h:ks.Nodup)(k:Int):yn (ya f ks) k=if k∈ks/\0 < k then f k else []:=by
 induction ks with
 | nil=>simp[ya,yn]
 | cons q ks ih=>
  obtain⟨n1,n2⟩:=List.nodup_cons.1 h;have e:ya f (q::ks)=(if f q=[] then [] else [⟨q,f q⟩])++ya f ks:=by
   unfold ya
   by_cases h:f q=[] <;> simp[h]
  rw[e,VA,ih n2]
  by_cases hq:q=k
  ·subst hq;rw[if_neg (fun(h:q∈ks/\0 < q)=>n1 h.1),List.append_nil]
   by_cases h0:f q=[]
   ·rw[if_pos h0,h0];simp[yn]
   ·rw[if_neg h0]
    by_cases hp:0 < q
    ·rw[if_pos ⟨List.mem_cons_self,hp⟩];simp[yn,hp]
    ·rw[if_neg (fun h=>hp h.2)];exact qf hp
  ·have:yn (if f q=[] then [] else [(⟨q,f q⟩:PT)]) k=[]:=by
    by_cases h0:f q=[] <;> simp[h0,yn,hq]
   rw[this];have hm:(k∈q::ks)↔k∈ks:=by simp[Ne.symm hq]
   simp only[hm,List.nil_append]
def Qt(l:List Int)(p:PT):List Int:=if 0 < p.dev then V.jf l p.dev else l
def Xu(c:List PT):List Int:=c.foldl Qt []
theorem Wu(c:List PT):∀ l:List Int,l.Pairwise (· < ·)->(c.foldl Qt l).Pairwise (· < ·)/\(∀ k,k∈c.foldl Qt l↔k∈l\/∃ p∈c,p.dev=k/\0 < k)/\(c.foldl Qt l).length<=l.length+c.length:=by
 induction c with
 | nil=>intro l h;simp[h]
 | cons p r ih=>
  intro l h;rw[List.foldl_cons]
  by_cases hp:0 < p.dev
  ·have e:Qt l p=V.jf l p.dev:=by simp[Qt,hp]
   rw[e];obtain⟨h1,h2,h3⟩:=ih _ (V.ZB h p.dev);refine⟨h1,fun k=>?_,by have:=V.Ws l p.dev;simp;omega⟩;rw[h2,V.UK]
   constructor
   ·rintro((rfl | h4) | ⟨x,h4,h5⟩)
    ·exact .inr ⟨p,by simp,rfl,hp⟩
    ·exact .inl h4
    ·exact .inr ⟨x,by simp[h4],h5⟩
   ·rintro(h4 | ⟨x,h4,h5,h6⟩)
    ·exact .inl (.inr h4)
    ·rcases List.mem_cons.1 h4 with rfl | h4
     ·exact .inl (.inl h5.symm)
     ·exact .inr ⟨x,h4,h5,h6⟩
  ·have e:Qt l p=l:=by simp[Qt,hp]
   rw[e];obtain⟨h1,h2,h3⟩:=ih _ h;refine⟨h1,fun k=>?_,by simp;omega⟩;rw[h2]
   constructor
   ·rintro(h4 | ⟨x,h4,h5⟩)
    ·exact .inl h4
    ·exact .inr ⟨x,by simp[h4],h5⟩
   ·rintro(h4 | ⟨x,h4,h5,h6⟩)
    ·exact .inl h4
    ·rcases List.mem_cons.1 h4 with rfl | h4
     ·rw[h5] at hp;exact absurd h6 hp
     ·exact .inr ⟨x,h4,h5,h6⟩
theorem wY(c:List PT):(Xu c).Pairwise (· < ·):=(Wu c [] List.Pairwise.nil).1
theorem Qu{l:List Int}(h:l.Pairwise (· < ·)):l.Nodup:=h.imp fun {a b} h e=>by omega
theorem Zu(c:List PT):(Xu c).Nodup:=Qu (wY c)
theorem vL{c:List PT}{k:Int}:k∈Xu c↔(∃ p∈c,p.dev=k)/\0 < k:=by
 have:=(Wu c [] List.Pairwise.nil).2.1 k;unfold Xu;rw[this];simp only[List.not_mem_nil,false_or]
 constructor
 ·rintro⟨p,h1,h2,h3⟩;exact⟨⟨p,h1,h2⟩,h3⟩
 ·rintro⟨⟨p,h1,h2⟩,h3⟩;exact⟨p,h1,h2,h3⟩
theorem yca(c:List PT):(Xu c).length<=c.length:=by simpa[Xu] using (Wu c [] List.Pairwise.nil).2.2
theorem ZW{c:List PT}{k:Int}(h:yn c k≠[]):k∈Xu c:=by
 rw[vL];refine Classical.byContradiction fun hn=>h ?_
 unfold yn;have:(c.filter fun p=>decide (p.dev=k)&&decide (0 < k))=[]:=by
  rw[List.filter_eq_nil_iff];intro p hp;simp only[Bool.and_eq_true,decide_eq_true_eq];rintro⟨h1,h2⟩;exact hn ⟨⟨p,hp,h1⟩,h2⟩
 rw[this];rfl
def opC(op:Bool->Bool->Bool)(a b:List PT):List PT:=ya (fun k=>R.ZV op (yn a k) (yn b k)) (Xu (a++b))
def zU(c:List PT):List PT:=ya (fun k=>R.nrm (yn c k)) (Xu c)
theorem yda{op:Bool->Bool->Bool}(h0:op false false=false):R.ZV op [] []=[]:=by
 have:=R.zq op h0 [] [];exact R.Wx this.1 trivial fun n=>by rw[this.2.1];exact h0
theorem jI : R.nrm []=[]:=yda rfl
theorem xx{op:Bool->Bool->Bool}(h0:op false false=false)(a b:List PT)(k n:Int):yb (opC op a b) k n=op (yb a k n) (yb b k n):=by
 unfold yb opC;rw[jH (Zu _)]
 split
 ·rw[(R.zq op h0 _ _).2.1]
 ·rename_i h
  have e:yn a k=[]/\yn b k=[]:=by
   have h1:yn (a++b) k=[]:=Classical.byContradiction fun h2=>h ⟨ZW h2,(vL.1 (ZW h2)).2⟩
   rw[VA] at h1;simpa using h1
  rw[e.1,e.2];show R.yY [] n=_;simp[R.yY,h0]
theorem zu(c:List PT)(k n:Int):yb (zU c) k n=yb c k n:=by
 unfold yb zU;rw[jH (Zu _)]
 split
 ·rw[R.vO]
 ·rename_i h
  have e:yn c k=[]:=Classical.byContradiction fun h2=>h ⟨ZW h2,(vL.1 (ZW h2)).2⟩
  rw[e]
structure Canon(c:List PT):Prop where
 ord:OrdP c
 nf:∀ p∈c,0 < p.dev/\p.runs≠[]/\R.Nf p.runs
theorem jJ{f:Int->List RN}{c:List PT}(h:∀ k,R.Nf (f k)):Canon (ya f (Xu c)):=⟨vi (wY c),fun p hp=>by
 obtain⟨h1,h2,h3⟩:=ZE.1 hp;exact⟨(vL.1 h1).2,h2,by rw[h3];exact h _⟩⟩
theorem xn{op:Bool->Bool->Bool}(h0:op false false=false)(a b:List PT):Canon (opC op a b):=jJ fun _=>(R.zq op h0 _ _).1
theorem yo(c:List PT):Canon (zU c):=jJ fun _=>R.Yd _
theorem qi : ∀ {c:List PT},OrdP c->∀ p∈c,0 < p.dev->yn c p.dev=p.runs
 | [],_,p,hp,_=>by simp at hp
 | q::r,h,p,hp,h0=>by
  obtain⟨h1,h2⟩:=List.pairwise_cons.1 h;rw[ZD];rcases List.mem_cons.1 hp with rfl | hp
  ·rw[if_pos ⟨rfl,h0⟩];have:yn r p.dev=[]:=by
    unfold yn;have:(r.filter fun x=>decide (x.dev=p.dev)&&decide (0 < p.dev))=[]:=by
     rw[List.filter_eq_nil_iff];intro x hx;have:=h1 x hx;simp;omega
    rw[this];rfl
   rw[this,List.append_nil]
  ·have:=h1 p hp;rw[if_neg (by omega),qi h2 p hp h0];rfl
theorem Canon.eq_norm{c:List PT}(h:Canon c):c=zU c:=by
 refine UM h.ord (yo c).ord fun p=>?_
 unfold zU;rw[ZE]
 constructor
 ·intro hp;obtain⟨h1,h2,h3⟩:=h.nf p hp;exact⟨vL.2 ⟨⟨p,hp,rfl⟩,h1⟩,h2,by rw[qi h.ord p hp h1,R.qc h3]⟩
 ·rintro⟨h1,h2,h3⟩;obtain⟨⟨q,hq,hd⟩,h0⟩:=vL.1 h1;obtain⟨g1,g2,g3⟩:=h.nf q hq;have e:yn c p.dev=q.runs:=by rw[<- hd];exact qi h.ord q hq g1
  rw[e,R.qc g3] at h3;have:p=q:=by cases p;cases q;simp_all
  rw[this];exact hq
theorem Qv{a b:List PT}(h:∀ k n,yb a k n=yb b k n):zU a=zU b:=by
 have hf:∀ k,R.nrm (yn a k)=R.nrm (yn b k):=fun k=>R.Wx (R.Yd _) (R.Yd _) fun n=>by rw[R.vO,R.vO];exact h k n
 refine jE (wY a) (wY b) hf fun k hk=>?_
 have ha:yn a k≠[]:=fun e=>hk (by rw[e];exact jI)
 have hb:yn b k≠[]:=fun e=>hk (by rw[hf,e];exact jI)
 exact⟨fun _=>ZW hb,fun _=>ZW ha⟩
theorem Canon.ext{a b:List PT}(ha:Canon a)(hb:Canon b)(h:∀ k n,yb a k n=yb b k n):a=b:=by rw[ha.eq_norm,hb.eq_norm];exact Qv h
theorem ug{c:List PT}(h:Canon c):zU c=c:=h.eq_norm.symm
theorem norm_or(a b:List PT):zU (a++b)=opC (·||·) a b:=(yo _).ext (xn rfl a b) fun k n=>by rw[zu,vl,xx rfl]
theorem jK : Canon []:=⟨List.Pairwise.nil,fun p h=>by simp at h⟩
theorem xJa{c:List PT}(h:Canon c)(h2:∀ k n,yb c k n=false):c=[]:=h.ext jK fun k n=>by rw[h2];rfl
theorem XE(c:List PT):decide (c=zU c)=true↔Canon c:=by
 rw[decide_eq_true_iff];exact⟨fun h=>by rw[h];exact yo c,fun h=>h.eq_norm⟩
theorem vP(c:List PT):(zU c).length<=c.length:=Nat.le_trans (jF _ _) (yca c)
theorem wma(op:Bool->Bool->Bool)(a b:List PT):(opC op a b).length<=a.length+b.length:=Nat.le_trans (jF _ _) (by have:=yca (a++b);simpa using this)
theorem sum_le{ks:List Int}{f g:Int->Nat}(h:∀ k,f k<=g k):(ks.map f).sum<=(ks.map g).sum:=by
 induction ks with
 | nil=>simp
 | cons k r ih=>have:=h k;simp;omega
theorem wna(ks:List Int)(f g:Int->Nat):(ks.map fun k=>2*(f k+g k)).sum=2*((ks.map f).sum+(ks.map g).sum):=by
 induction ks with
 | nil=>rfl
 | cons k r ih=>simp;omega
theorem woa{op:Bool->Bool->Bool}(h0:op false false=false)(a b:List PT):uB (opC op a b)<=2*(uB a+uB b):=by
 unfold opC;rw[jG];refine Nat.le_trans (sum_le fun k=>(R.zq op h0 (yn a k) (yn b k)).2.2) ?_;rw[wna];have h1:=qh a (Xu (a++b)) (Zu _);have h2:=qh b (Xu (a++b)) (Zu _);omega
theorem vQ(c:List PT):uB (zU c)<=2*uB c:=by
 unfold zU;rw[jG];refine Nat.le_trans (sum_le (g:=fun k=>2*((yn c k).length+0)) fun k=>by have:=R.ZC (yn c k);omega) ?_;rw[wna];have h1:=qh c (Xu c) (Zu _);have h2:=qg (Xu c);omega
theorem get_grow(l:List (Int×List RN)):∀ (m:List (Int×List RN)) (k:Int),AL.getZ (AL.grow m l) k []=AL.getZ m k []++(l.filter fun x=>decide (x.1=k)).flatMap (·.2):=by
 induction l with
 | nil=>intro m k;simp[AL.grow]
 | cons x r ih=>
  intro m k;show AL.getZ (AL.grow (AL.set m x.1 (AL.getZ m x.1 []++x.2)) r) k []=_;rw[ih,AL.getZ_set,List.filter_cons]
  by_cases h:x.1=k
  ·subst h;simp
  ·simp[h]
theorem xKa(l:List (Int×List RN)):∀ m:List (Int×List RN),(m.map (·.1)).Nodup->((AL.grow m l).map (·.1)).Nodup:=by
 induction l with
 | nil=>intro m h;exact h
 | cons x r ih=>intro m h;exact ih _ (AL.nodup_set h _ _)
theorem len_grow(l:List (Int×List RN)):∀ m:List (Int×List RN),(AL.grow m l).length<=m.length+l.length:=by
 induction l with
 | nil=>intro m;exact Nat.le_refl _
 | cons x r ih=>
  intro m;have h1:=ih (AL.set m x.1 (AL.getZ m x.1 []++x.2));have h2:=AL.len_set m x.1 (AL.getZ m x.1 []++x.2);show(AL.grow (AL.set m x.1 (AL.getZ m x.1 []++x.2)) r).length<=_;simp only[List.length_cons];omega
theorem key_grow(l:List (Int×List RN)):∀ (m:List (Int×List RN)) (k:Int),k∈(AL.grow m l).map (·.1)->k∈m.map (·.1)\/∃ x∈l,x.1=k:=by
 induction l with
 | nil=>intro m k h;exact .inl h
 | cons x r ih=>
  intro m k h;rcases ih _ k h with h | ⟨y,hy,e⟩
  ·rw[AL.keys_set] at h
   split at h
   ·exact .inl h
   ·rcases List.mem_append.1 h with h | h
    ·exact .inl h
    ·exact .inr ⟨x,by simp,(List.mem_singleton.1 h).symm⟩
  ·exact .inr ⟨y,by simp[hy],e⟩
def vX(c:List PT):List (Int×List RN):=AL.grow [] (c.filterMap zk)
theorem vM(c:List PT)(k:Int):AL.getZ (vX c) k []=yn c k:=by
 unfold vX;rw[get_grow];show[]++_=_;rw[List.nil_append]
 induction c with
 | nil=>rfl
 | cons p r ih=>
  rw[ZD,<- ih,List.filterMap_cons]
  by_cases h0:0 < p.dev
  ·have e:zk p=some (p.dev,p.runs):=by simp[zk,h0]
   rw[e];simp only[List.filter_cons]
   by_cases h:p.dev=k
   ·subst h;simp[h0]
   ·simp[h]
  ·have e:zk p=none:=by simp[zk,h0]
   rw[e,if_neg (by rintro⟨h1,h2⟩;omega)];rfl
theorem vh(c:List PT):((vX c).map (·.1)).Nodup:=xKa _ _ (by simp)
theorem yea(c:List PT):(vX c).length<=c.length:=by
 have h1:=len_grow (c.filterMap zk) [];have h2:=List.length_filterMap_le zk c;unfold vX;simp at h1;omega
theorem told_pos{c:List PT}{k:Int}(h:k∈(vX c).map (·.1)):0 < k/\k∈Xu c:=by
 rcases key_grow _ _ _ h with h | ⟨x,hx,rfl⟩
 ·simp at h
 ·rw[List.mem_filterMap] at hx;obtain⟨p,hp,hx⟩:=hx;unfold zk at hx
  split at hx
  ·rename_i h0;cases hx;exact⟨h0,vL.2 ⟨⟨p,hp,rfl⟩,h0⟩⟩
  ·cases hx
theorem ZU{c:List PT}{e:Int×List RN}(h:e∈vX c):e.2=yn c e.1/\0 < e.1/\e.1∈Xu c:=by
 have h1:=AL.mem_get (vh c) (k:=e.1) (v:=e.2) h;have h2:=vM c e.1;unfold AL.getZ at h2;rw[h1] at h2;exact⟨h2,told_pos (List.mem_map.2 ⟨e,h,rfl⟩)⟩
theorem wpa{c:List PT}{k:Int}(h:yn c k≠[]):(k,yn c k)∈vX c:=by
 have h2:=vM c k;unfold AL.getZ at h2
 cases hg:AL.get (vX c) k with
 | none=>rw[hg] at h2;exact absurd h2.symm h
 | some v=>rw[hg] at h2;simp only[Option.getD_some] at h2;subst h2;exact AL.get_mem hg
theorem yfa(c:List PT):((c.filterMap zk).map fun x=>x.2.length).sum<=uB c:=by
 induction c with
 | nil=>simp
 | cons p r ih=>
  have e:uB (p::r)=p.runs.length+uB r:=by simp[uB]
  rw[List.filterMap_cons]
  by_cases h0:0 < p.dev
  ·have e2:zk p=some (p.dev,p.runs):=by simp[zk,h0]
   rw[e2];simp only[List.map_cons,List.sum_cons];omega
  ·have e2:zk p=none:=by simp[zk,h0]
   rw[e2];simp only;omega
def Sm(c:List PT):Prop:=c.length<=10000000000/\uB c<=10000000000
theorem VX(c:List PT)(h:Sm c):uP c=pure (vX c):=by
 unfold uP;rw[zC]
 ·rfl
 ·have:=yfa c;refine⟨by have:=h.1;omega,?_⟩;have:=h.2;omega
theorem yga(m:List (Int×List RN))(f:Int->List RN)(ks:List Int)(hl:m.length<=1000000000000)(hr:∀ e∈m,e.2.length<=1000000000000)(hn:(m.map (·.1)).Nodup)(hs:ks.Pairwise (· < ·))(h1:∀ e∈m,R.nrm e.2≠[]->e.1∈ks/\R.nrm e.2=f e.1)(h2:∀ k∈ks,f k≠[]->∃ r,(k,r)∈m/\R.nrm r=f k):ww m=pure (ya f ks):=by
 unfold ww;have hall:∀ Q:List PT->Prop,(∀ l:List (Int×List RN),l.Perm m->Q ((l.filter fun e=>decide (R.nrm e.2≠[])).map fun e=>(⟨e.1,R.nrm e.2⟩:PT)))->(loop (ZN m) ([],([]:List PT))).wp Q:=by
  intro Q hQ;refine M.loopM (body:=ZN m) m (fun L (t:List PT)=>(L,t)) (fun t e=>(xZ e.2).det.bind fun v=>if 0 < v.length then yR ((t.length+1)*32<=140737488355328) (pure (t++[(⟨e.1,v⟩:PT)])) else pure t) (fun t=>pure t)
   (fun l t=>t=((l.filter fun e=>decide (R.nrm e.2≠[])).map fun e=>(⟨e.1,R.nrm e.2⟩:PT))) Q (fun L t hL=>?_) (fun l t y ht hlen hy=>?_) (fun l t hp ht=>?_) [] rfl
  ·unfold ZN;show yR _ ((nxt _ _).bind _)=yR _ ((nxt _ _).bind _);refine congrArg (fun k=>yR _ ((nxt _ _).bind k)) (funext fun o=>?_)
   cases o with
   | none=>rfl
   | some i=>
    refine congrArg (fun k=>(idx m (Int.ofNat i)).bind k) (funext fun y=>?_);rw[JC];refine congrArg (fun k=>(xZ y.2).det.bind k) (funext fun v=>?_);rw[yr]
    by_cases h:0 < v.length
    ·rw[if_pos (by omega),if_pos h];rfl
    ·rw[if_neg (by omega),if_neg h];rfl
  ·have hle:=List.length_filter_le (fun e:Int×List RN=>decide (R.nrm e.2≠[])) l;have htl:t.length<=l.length:=by rw[ht,List.length_map];exact hle
   rw[R.VW y.2 (hr y hy),zB,zA];refine⟨if R.nrm y.2=[] then t else t++[⟨y.1,R.nrm y.2⟩],?_,?_⟩
   ·by_cases h:R.nrm y.2=[]
    ·rw[if_neg (by rw[h];simp),if_pos h]
    ·rw[if_pos (by rw[List.length_pos_iff];exact h),if_neg h,zC (by omega)]
   ·subst ht;rw[List.filter_append,List.map_append]
    by_cases h:R.nrm y.2=[] <;> simp[h]
  ·subst ht;exact hQ l hp
 refine uk (hall _ fun l hp=>?_);show(yR _ _).wp _;have hll:=hp.length_eq;have hle:=List.length_filter_le (fun e:Int×List RN=>decide (R.nrm e.2≠[])) l;have hmem:∀ d:PT,d∈((l.filter fun e=>decide (R.nrm e.2≠[])).map fun e=>(⟨e.1,R.nrm e.2⟩:PT))↔d∈ya f ks:=by
  intro d;rw[ZE,List.mem_map]
  constructor
  ·rintro⟨e,he,rfl⟩;rw[List.mem_filter,hp.mem_iff] at he;have h0:R.nrm e.2≠[]:=by simpa using he.2
   obtain⟨h3,h4⟩:=h1 e he.1 h0;exact⟨h3,h0,h4⟩
  ·rintro⟨h3,h4,h5⟩;obtain⟨r,h6,h7⟩:=h2 d.dev h3 (by rw[<- h5];exact h4);refine⟨(d.dev,r),?_,by show(⟨d.dev,R.nrm r⟩:PT)=d;rw[h7,<- h5]⟩;rw[List.mem_filter,hp.mem_iff];refine⟨h6,?_⟩;simp only[decide_eq_true_eq];rw[h7,<- h5];exact h4
 have hnd:((l.filter fun e=>decide (R.nrm e.2≠[])).map fun e=>(⟨e.1,R.nrm e.2⟩:PT)).Pairwise (fun x y=>x.dev≠y.dev):=by
  rw[List.pairwise_map];have:l.Pairwise (fun x y=>x.1≠y.1):=by
   have:=(hp.map (·.1)).nodup_iff.2 hn;exact List.pairwise_map.1 this
  exact(this.filter _)
 refine⟨by simp only[List.length_map];omega,⟨?_,fun l' ⟨hp',hs'⟩=>?_⟩⟩
 ·refine⟨ya f ks,?_,?_⟩
  ·refine(List.perm_ext_iff_of_nodup ?_ ?_).2 fun d=>(hmem d).symm
   ·exact(vi hs).imp fun {a b} h e=>by subst e;omega
   ·exact hnd.imp fun {a b} h e=>by subst e;exact h rfl
  ·exact(vi hs).imp fun {a b} h=>by simp[JG];omega
 ·show l'=_;refine UM ?_ (vi hs) fun d=>by rw[hp'.mem_iff];exact hmem d
  have hnd':=(hp'.pairwise_iff (fun {a b} h=>Ne.symm h)).2 hnd;exact(hs'.and hnd').imp fun {a b} ⟨h3,h4⟩=>by simp[JG] at h3;omega
theorem JS(c:List PT)(h:Sm c):ww (vX c)=pure (zU c):=by
 refine yga _ _ _ (by have:=yea c;have:=h.1;omega) (fun e he=>?_) (vh c) (wY c) (fun e he h0=>?_) (fun k hk h0=>?_)
 ·rw[(ZU he).1];have:=xm c e.1;have:=h.2;omega
 ·obtain⟨h1,h2,h3⟩:=ZU he;exact⟨h3,by rw[h1]⟩
 ·exact⟨_,wpa (fun e=>h0 (by rw[e];exact jI)),rfl⟩
theorem jL(c:List PT)(h:Sm c):ZO c=pure (zU c):=by
 unfold ZO;rw[VX c h,zB,zA,JS c h,zB,zA]
theorem Runs_eq(c:List PT)(k:Int)(h:Sm c):Vz c k=pure (R.nrm (yn c k)):=by
 unfold Vz;rw[VX c h,zB,zA,vM,R.VW _ (by have:=xm c k;have:=h.2;omega),zB,zA]
theorem Vo(c:List PT)(d:DT)(h:Sm c):uF c d=pure (yb c d.dev d.n):=by
 unfold uF;rw[yr]
 by_cases h0:0 < d.dev
 ·rw[if_pos h0,Runs_eq c _ h,zB,zA,R.has_eq _ _ (by have:=R.ZC (yn c d.dev);have:=xm c d.dev;have:=h.2;omega),zB,zA,zA,R.vO]
  rfl
 ·rw[if_neg h0,zA];show pure false=pure (R.yY (yn c d.dev) d.n);rw[qf h0];rfl
def yF(l:List DT):List PT:=(l.filter V.yD).map fun d=>⟨d.dev,[⟨d.n,d.n⟩]⟩
theorem goodB(d:DT):Zk d=V.yD d:=by
 rw[Bool.eq_iff_iff,V.xH];simp[Zk];omega
theorem ofF(d:DT):wx d=if V.yD d=true then some (d.dev,[⟨d.n,d.n⟩]) else none:=by unfold wx;rw[goodB]
theorem wqa(l:List DT):l.filterMap wx=(yF l).filterMap zk:=by
 induction l with
 | nil=>rfl
 | cons d r ih=>
  unfold yF at ih ⊢;rw[List.filterMap_cons,List.filter_cons,ofF]
  by_cases h:V.yD d=true
  ·rw[if_pos h,if_pos h,List.map_cons,List.filterMap_cons];have:zk ⟨d.dev,[⟨d.n,d.n⟩]⟩=some (d.dev,[⟨d.n,d.n⟩]):=by
    have:=V.xH.1 h;unfold zk;rw[if_pos (by show 0 < d.dev;omega)]
   rw[this,<- ih]
  ·rw[if_neg h,if_neg h,<- ih]
theorem vR(l:List DT):(yF l).length<=l.length:=by rw[yF,List.length_map];exact List.length_filter_le _ _
theorem Xi(l:List DT):uB (yF l)<=l.length:=by
 have:uB (yF l)=(yF l).length:=by
  unfold yF
  generalize l.filter V.yD=q
  induction q with
  | nil=>rfl
  | cons x r ih=>simp[uB] at ih ⊢;omega
 have:=vR l;omega
theorem sm_dots{l:List DT}(h:l.length<=10000000000):Sm (yF l):=⟨by have:=vR l;omega,by have:=Xi l;omega⟩
theorem qj(l:List DT)(k n:Int):yb (yF l) k n=true↔∃ d∈l,V.yD d=true/\d.dev=k/\d.n=n:=by
 induction l with
 | nil=>simp[yb,yF,yn,R.yY]
 | cons d r ih=>
  have e:yF (d::r)=(if V.yD d=true then [⟨d.dev,[⟨d.n,d.n⟩]⟩] else [])++yF r:=by
   unfold yF;rw[List.filter_cons]
   by_cases h:V.yD d=true <;> simp[h]
  rw[e,vl,Bool.or_eq_true,ih];have h1:yb (if V.yD d=true then [⟨d.dev,[⟨d.n,d.n⟩]⟩] else []) k n=true↔V.yD d=true/\d.dev=k/\d.n=n:=by
   by_cases h:V.yD d=true
   ·have hg:=V.xH.1 h;rw[if_pos h];unfold yb;rw[ZD,UL,List.append_nil]
    by_cases hk:d.dev=k/\0 < k
    ·rw[if_pos hk,R.vN,R.yw];show(1<=d.n/\d.n<=d.n/\d.n<=281474976710655)/\d.n<=n/\n<=d.n↔_
     constructor
     ·intro h2;exact⟨h,hk.1,by omega⟩
     ·rintro⟨_,_,h3⟩;omega
    ·rw[if_neg hk]
     constructor
     ·intro h2;cases h2
     ·rintro⟨_,h2,_⟩;exact absurd ⟨h2,by omega⟩ hk
   ·rw[if_neg h]
    constructor
    ·intro h2;cases h2
    ·rintro⟨h2,_⟩;exact absurd h2 h
  rw[h1]
  constructor
  ·rintro(h2 | ⟨x,h2,h3⟩)
   ·exact⟨d,by simp,h2⟩
   ·exact⟨x,by simp[h2],h3⟩
  ·rintro⟨x,h2,h3⟩;rcases List.mem_cons.1 h2 with rfl | h2
   ·exact .inl h3
   ·exact .inr ⟨x,h2,h3⟩
theorem Of_eq(l:List DT)(h:l.length<=10000000000):yHa l=pure (zU (yF l)):=by
 unfold yHa;rw[wqa,zC]
 ·have:=JS (yF l) (sm_dots h);unfold vX at this;rw[this,zB,zA]
 ·have h1:=yfa (yF l);have h2:=Xi l;exact⟨by omega,by omega⟩
theorem growC_eq(n:Int)(h0:0<=n)(h:n<=1000000000000):yd n=pure []:=by
 unfold yd;have e:IntKind.i64.wrap (n - IntKind.i64.wrap (0 - 0))=n:=by
  rw[Wp (n:=0 - 0) (by omega) (by omega),Wp (by omega) (by omega)];omega
 simp only[e,yr];rw[if_neg (by omega)]
 split
 ·rw[zC ⟨by omega,by omega⟩,zC ⟨by omega,by omega,by omega⟩];simp[zA]
 ·simp[zA]
theorem xLa(a b:List PT)(h:a.length+b.length<=1000000000000):yq [a,b]=pure (a++b):=by
 unfold yq;have e1:zf [a,b] (0,0)=pure (.next ((a.length:Int),1)):=by
  unfold zf;have:IntKind.i64.wrap (0+(a.length:Int))=a.length:=by rw[Wp (by omega) (by omega)];omega
  simp only[yr,Xy (l:=[a,b]) (i:=0) (y:=a) (by omega) rfl,zA,this];rw[if_pos (by simp),if_neg (by omega),Wp (by omega) (by omega)];rfl
 have e2:zf [a,b] ((a.length:Int),1)=pure (.next ((a.length:Int)+b.length,2)):=by
  unfold zf;have:IntKind.i64.wrap ((a.length:Int)+b.length)=a.length+b.length:=by rw[Wp (by omega) (by omega)]
  simp only[yr,Xy (l:=[a,b]) (i:=1) (y:=b) (by omega) rfl,zA,this];rw[if_pos (by simp),if_neg (by omega),Wp (by omega) (by omega)];rfl
 have e3:zf [a,b] ((a.length:Int)+b.length,2)=pure (.done ((a.length:Int)+b.length)):=by
  unfold zf;simp
 have f1:zg [a,b] (0,[])=pure (.next (1,a)):=by
  unfold zg;simp only[yr,Xy (l:=[a,b]) (i:=0) (y:=a) (by omega) rfl,zA];rw[if_pos (by simp),zC (by simp;omega),Wp (by omega) (by omega)];rfl
 have f2:zg [a,b] (1,a)=pure (.next (2,a++b)):=by
  unfold zg;simp only[yr,Xy (l:=[a,b]) (i:=1) (y:=b) (by omega) rfl,zA];rw[if_pos (by simp),zC (by omega),Wp (by omega) (by omega)];rfl
 have f3:zg [a,b] (2,a++b)=pure (.done (a++b)):=by
  unfold zg;simp
 rw[yS e1,yS e2,yL e3,zA,growC_eq _ (by omega) (by omega),zB,zA,yS f1,yS f2,yL f3,zA]
theorem sm_app{a b:List PT}(ha:a.length+b.length<=10000000000)(hb:uB a+uB b<=10000000000):Sm (a++b):=⟨by rw[List.length_append];exact ha,by rw[Xh];exact hb⟩
theorem wra(a b:List PT)(h:Sm (a++b)):WW a b=pure (opC (·||·) a b):=by
 unfold WW;rw[xLa a b (by have:=h.1;rw[List.length_append] at this;omega),zB,zA,jL _ h,zB,zA,norm_or]
theorem Add_eq(c:List PT)(l:List DT)(hl:l.length<=1000000000)(h1:c.length<=1000000000)(h2:uB c<=1000000000):Ue c l=pure (opC (·||·) c (yF l)):=by
 unfold Ue;have h3:=vR l;have h4:=Xi l;have h5:=vP (yF l);have h6:=vQ (yF l);rw[Of_eq l (by omega),zB,zA,wra _ _ (sm_app (by omega) (by omega)),zB,zA];refine congrArg pure ((xn rfl _ _).ext (xn rfl _ _) fun k n=>?_);rw[xx rfl,xx rfl,zu]
def Qn(h:Int×List RN->List RN)(m:List (Int×List RN))(L:List Nat):List (Int×List RN):=m.zipIdx.map fun y=>if y.2∈L then (y.1.1,h y.1) else y.1
theorem uX{h:Int×List RN->List RN}{m:List (Int×List RN)}{L:List Nat}{i:Nat}:(Qn h m L)[i]?=(m[i]?).map fun e=>if i∈L then (e.1,h e) else e:=by
 unfold Qn;rw[List.getElem?_map,List.getElem?_zipIdx]
 cases m[i]? <;> simp
theorem qV{h:Int×List RN->List RN}{m:List (Int×List RN)}{L:List Nat}:(Qn h m L).length=m.length:=by simp[Qn]
theorem set_at{m:List (Int×List RN)}(hn:(m.map (·.1)).Nodup){i:Nat}{e:Int×List RN}(hi:m[i]?=some e)(v:List RN):AL.set m e.1 v=m.set i (e.1,v):=by
 induction m generalizing i with
 | nil=>simp at hi
 | cons x r ih=>
  obtain⟨a,u⟩:=x;simp only[List.map_cons,List.nodup_cons] at hn
  cases i with
  | zero=>simp at hi;subst hi;simp[AL.set]
  | succ i=>
   simp at hi;have:a≠e.1:=fun q=>hn.1 (by rw[q];exact List.mem_map.2 ⟨e,List.mem_of_getElem? hi,rfl⟩)
   simp only[AL.set,this,if_false,List.set_cons_succ];rw[ih hn.2 hi]
theorem Uy{h:Int×List RN->List RN}{m:List (Int×List RN)}{L:List Nat}:(Qn h m L).map (·.1)=m.map (·.1):=by
 apply List.ext_getElem?;intro i;rw[List.getElem?_map,uX,List.getElem?_map]
 cases m[i]? with
 | none=>rfl
 | some e=>simp only[Option.map_some];split <;> rfl
theorem wsa{h:Int×List RN->List RN}{m:List (Int×List RN)}(hn:(m.map (·.1)).Nodup){L:List Nat}{i:Nat}{e:Int×List RN}(hi:m[i]?=some e)(hL:i∉L):AL.set (Qn h m L) e.1 (h e)=Qn h m (L++[i]):=by
 have h1:(Qn h m L)[i]?=some e:=by rw[uX,hi];simp[hL]
 rw[set_at (by rw[Uy];exact hn) h1];apply List.ext_getElem?;intro j;rw[List.getElem?_set,uX,uX]
 by_cases hj:i=j
 ·subst hj;have hlt:i < (Qn h m L).length:=by rw[qV];exact(List.getElem?_eq_some_iff.1 hi).1
  rw[if_pos rfl,if_pos hlt,hi];simp
 ·rw[if_neg hj]
  cases m[j]? with
  | none=>rfl
  | some x=>simp[Ne.symm hj]
theorem updM_all{h:Int×List RN->List RN}{m:List (Int×List RN)}{L:List Nat}(hL:∀ i,i < m.length->i∈L):Qn h m L=m.map fun e=>(e.1,h e):=by
 apply List.ext_getElem?;intro i;rw[uX,List.getElem?_map]
 cases hi:m[i]? with
 | none=>rfl
 | some e=>simp[hL i (List.getElem?_eq_some_iff.1 hi).1]
theorem has_key{m:List (Int×List RN)}{k:Int}(h:k∈m.map (·.1)):AL.has m k=true:=by
 unfold AL.has
 cases hg:AL.get m k with
 | none=>exact absurd h (AL.get_none.1 hg)
 | some v=>rfl
theorem Qw(body:List (Int×List RN)->List Nat×List (Int×List RN)->M (Step (List Nat×List (Int×List RN)) (List (Int×List RN))))(do_:List RN->List RN->M (List RN))(F:List RN->List RN->List RN)(m y:List (Int×List RN))(hn:(m.map (·.1)).Nodup)
  (hb:∀ L v,body y (L,v)=yR (∀ i∈L,i < v.length) ((nxt v.length L).bind fun o=>match o with | none=>pure (.done v) | some j=>(idx v (Int.ofNat j)).bind fun kv=>(do_ kv.2 (AL.getZ y kv.1 [])).det.bind fun r=>yR (AL.has v kv.1=true) (pure (.next (L++[j],AL.set v kv.1 r)))))
  (hdo:∀ e∈m,do_ e.2 (AL.getZ y e.1 [])=pure (F e.2 (AL.getZ y e.1 []))):loop (body y) ([],m)=pure (m.map fun e=>(e.1,F e.2 (AL.getZ y e.1 []))):=by
 refine uk ?_;have:=loopN (body:=body y) m.length (fun L (v:List (Int×List RN))=>(L,v)) (fun L v=>v=Qn (fun e=>F e.2 (AL.getZ y e.1 [])) m L) (fun r=>r=m.map fun e=>(e.1,F e.2 (AL.getZ y e.1 []))) (fun L v hv hL hlt=>by
  have hlen:v.length=m.length:=by rw[hv];exact qV
  refine⟨fun o=>match o with | none=>pure (.done v) | some j=>(idx v (Int.ofNat j)).bind fun kv=>(do_ kv.2 (AL.getZ y kv.1 [])).det.bind fun r=>yR (AL.has v kv.1=true) (pure (.next (L++[j],AL.set v kv.1 r))),?_,?_,?_⟩
  ·rw[hb,hlen]
  ·intro hall;show v=_;rw[hv];exact updM_all hall
  ·intro i hi hiL;have hm:=List.getElem?_eq_getElem hi;have hvi:v[i]?=some m[i]:=by rw[hv,uX,hm];simp[hiL]
   refine⟨AL.set v (m[i]).1 (F (m[i]).2 (AL.getZ y (m[i]).1 [])),?_,?_⟩
   ·show(idx v (Int.ofNat i)).bind _=_;rw[show(Int.ofNat i)=(i:Int) from rfl,zJ hvi,zA,hdo _ (List.getElem_mem hi),zB,zA,zC];refine has_key ?_;rw[hv,Uy];exact List.mem_map.2 ⟨m[i],List.getElem_mem hi,rfl⟩
   ·rw[hv];exact wsa hn hm hiL) m (by
  apply List.ext_getElem?;intro i;rw[uX]
  cases m[i]? <;> simp)
 exact this
theorem yha{op:Bool->Bool->Bool}(h0:op false false=false)(a b:List RN):R.nrm (R.ZV op a b)=R.ZV op a b:=R.qc (R.zq op h0 a b).1
theorem JT{op:Bool->Bool->Bool}(h0:op false false=false)(hr:∀ x,op false x=false)(a b:List PT)(ha:Sm a)(hb:Sm b) :
  ww ((vX a).map fun e=>(e.1,R.ZV op e.2 (AL.getZ (vX b) e.1 [])))=pure (opC op a b):=by
 have hlenR:∀ x y:List RN,(R.ZV op x y).length<=2*(x.length+y.length):=fun x y=>(R.zq op h0 x y).2.2
 refine yga _ _ _ (by have:=yea a;have:=ha.1;simp;omega) (fun e he=>?_) (by rw[List.map_map];exact vh a) (wY _) (fun e he hne=>?_) (fun k hk hne=>?_)
 ·obtain⟨x,hx,rfl⟩:=List.mem_map.1 he;have h1:=hlenR x.2 (AL.getZ (vX b) x.1 []);rw[(ZU hx).1,vM] at h1;have:=xm a x.1;have:=xm b x.1;have:=ha.2;have:=hb.2;show(R.ZV op x.2 (AL.getZ (vX b) x.1 [])).length<=_;rw[(ZU hx).1,vM];omega
 ·obtain⟨x,hx,rfl⟩:=List.mem_map.1 he;obtain⟨h1,h2,h3⟩:=ZU hx;refine⟨?_,?_⟩
  ·show x.1∈_;obtain⟨⟨p,hp,hd⟩,_⟩:=vL.1 h3;exact vL.2 ⟨⟨p,List.mem_append_left _ hp,hd⟩,h2⟩
  ·show R.nrm (R.ZV op x.2 (AL.getZ (vX b) x.1 []))=_;rw[yha h0,vM,h1]
 ·have hra:yn a k≠[]:=fun e=>hne (by
   rw[e];exact R.Wx (R.zq op h0 _ _).1 trivial fun n=>by rw[(R.zq op h0 _ _).2.1];show op (R.yY [] n) _=_;exact hr _)
  refine⟨R.ZV op (yn a k) (AL.getZ (vX b) k []),List.mem_map.2 ⟨(k,yn a k),wpa hra,rfl⟩,?_⟩;rw[yha h0,vM]
theorem Meet_eq(a b:List PT)(ha:Sm a)(hb:Sm b):UA a b=pure (opC (·&&·) a b):=by
 unfold UA vB;rw[VX a ha,zB,zA,VX b hb,zB,zA,Qw vu Zl (R.ZV (·&&·)) (vX a) (vX b) (vh a) (fun L v=>rfl) (fun e he=>?_),zA,JT rfl (fun _=>rfl) a b ha hb,zB,zA,zB,zA];rw[(ZU he).1,vM];have:=xm a e.1;have:=xm b e.1;have:=ha.2;have:=hb.2;exact R.yba _ _ (by omega) (by omega)
theorem Minus_eq(a b:List PT)(ha:Sm a)(hb:Sm b):WZ a b=pure (opC (fun x y=>x&&!y) a b):=by
 unfold WZ wV;rw[VX a ha,zB,zA,VX b hb,zB,zA,Qw vZ Zm (R.ZV (fun x y=>x&&!y)) (vX a) (vX b) (vh a) (fun L v=>rfl) (fun e he=>?_),zA,JT rfl (fun _=>rfl) a b ha hb,zB,zA,zB,zA];rw[(ZU he).1,vM];have:=xm a e.1;have:=xm b e.1;have:=ha.2;have:=hb.2;exact R.minus_eq _ _ (by omega) (by omega)
theorem Qy(a b:List PT)(ha:Sm a)(hb:Sm b):Zn a b=pure (decide (opC (fun x y=>x&&!y) a b=[])):=by
 unfold Zn;rw[Minus_eq a b ha hb,zB,zA];refine congrArg pure ?_
 cases opC (fun x y=>x&&!y) a b with
 | nil=>rfl
 | cons p r=>simp;omega
theorem partEq(x y:PT):(decide (x.dev=y.dev)&&decide (x.runs=y.runs))=decide (x=y):=by
 rw[Bool.eq_iff_iff]
 cases x;cases y
 simp
theorem eqP_eq(a b:List PT)(ha:a.length<=1000000000000)(hr:∀ p∈a,p.runs.length<=1000000000000):za a b=pure (decide (a=b)):=by
 unfold za
 by_cases hl:(a.length:Int)=b.length
 ·simp only[hl,decide_true,Bool.not_true,cond_false];have:=uJ (body:=zV a b) a (fun i=>(i:Int)) (fun i x=>decide (b[i]?=some x)) (.brk ()) (.ret false) (fun i x hx hi=>by
   have hb:i < b.length:=by omega
   have hby:=List.getElem?_eq_getElem hb;unfold zV Uf;have h1:decide ((i:Int) < (a.length:Int))=true:=by simpa using hi
   simp only[h1,cond_true,zJ hx,zJ hby,zA,R.seq_eq x.runs _ (hr x (List.mem_of_getElem? hx)),zB,zd,partEq,yH (show i < 9223372036854775807 by omega)];rw[hby]
   by_cases hxy:x=b[i] <;> simp[hxy,eq_comm,zA]) (by unfold zV;simp)
  rw[show(0:Int)=((0:Nat):Int) from rfl,this];have hiff:(a.zipIdx.all fun y=>decide (b[y.2]?=some y.1))=decide (a=b):=by
   rw[Bool.eq_iff_iff,List.all_eq_true,decide_eq_true_eq]
   constructor
   ·intro h;apply List.ext_getElem?;intro i
    by_cases hi:i < a.length
    ·have:=h (a[i],i) (by rw[List.mem_zipIdx_iff_getElem?];exact List.getElem?_eq_getElem hi);simp only[decide_eq_true_eq] at this;rw[this,List.getElem?_eq_getElem hi]
    ·rw[List.getElem?_eq_none (by omega),List.getElem?_eq_none (by omega)]
   ·rintro rfl y hy;rw[List.mem_zipIdx_iff_getElem?] at hy;simpa using hy
  rw[hiff]
  by_cases h:a=b <;> simp[h,exk,zA]
 ·have:¬ a=b:=fun e=>hl (by rw[e])
  simp[hl,this]
theorem eq_eq(a b:List PT)(ha:a.length<=1000000000000)(hr:∀ p∈a,p.runs.length<=1000000000000):QW a b=pure (decide (a=b)):=by
 unfold QW;rw[eqP_eq a b ha hr,zB,zA]
theorem wta{c:List PT}:∀ p∈c,p.runs.length<=uB c:=by
 induction c with
 | nil=>intro p hp;simp at hp
 | cons q r ih=>
  intro p hp;have e:uB (q::r)=q.runs.length+uB r:=by simp[uB]
  rcases List.mem_cons.1 hp with rfl | hp
  ·omega
  ·have:=ih p hp;omega
theorem Same_eq(a b:List PT)(ha:Sm a)(hb:Sm b):UB a b=pure (decide (zU a=zU b)):=by
 unfold UB;have h1:=vP a;have h2:=vQ a;have h3:=ha.1;have h4:=ha.2;rw[jL a ha,zB,zA,jL b hb,zB,zA,eq_eq _ _ (by omega) (fun p hp=>by have:=wta p hp;omega),zB,zA]
theorem YZ(c:List PT)(h:Sm c):Wa c=pure (decide (c=zU c)):=by
 unfold Wa;rw[jL c h,zB,zA,eq_eq _ _ (by have:=h.1;omega) (fun p hp=>by have:=wta p hp;have:=h.2;omega),zB,zA]
theorem yia(u v:List RN):R.ZV (·||·) (R.nrm u) v=R.nrm (u++v):=R.Wx (R.zq _ rfl _ _).1 (R.Yd _) fun n=>by rw[(R.zq _ rfl _ _).2.1,R.vO,R.vO,R.uY]
theorem ql(c:List PT)(k:Int)(hk:0<=k)(h:c.length<=1000000000)(ht:uB c<=1000000000):Xb c k=pure (R.nrm (yn c k)):=by
 unfold Xb;have hpre:∀ i,(yn (c.take i) k).length<=1000000000:=fun i=>by
  have h1:=xm (c.take i) k;have h2:uB (c.take i)<=uB c:=by
   conv=>rhs;rw[<- List.take_append_drop i c]
   rw[Xh];omega
  omega
 have:=Zd (body:=YL c k) c (fun i (t:List RN)=>(t,(i:Int))) (fun t p=>if p.dev=k/\0 < k then R.ZV (·||·) t p.runs else t) (fun t=>pure t) (fun i t=>t=R.nrm (yn (c.take i) k)) (fun i x t hx hi ht2=>by
  have h1:decide ((i:Int) < (c.length:Int))=true:=by simpa using hi
  have hxl:x.runs.length<=1000000000:=by have:=wta x (List.mem_of_getElem? hx);omega
  have htl:t.length<=2000000000:=by have:=R.ZC (yn (c.take i) k);have:=hpre i;rw[ht2];omega
  unfold YL;simp only[h1,cond_true,zJ hx,zA,yH (show i < 9223372036854775807 by omega),yr];have hnext:(if x.dev=k/\0 < k then R.ZV (·||·) t x.runs else t)=R.nrm (yn (c.take (i+1)) k):=by
   rw[List.take_add_one,hx,VA,Option.toList,ZD,UL,List.append_nil,ht2]
   split
   ·exact yia _ _
   ·rw[List.append_nil]
  refine⟨?_,hnext⟩
  by_cases hd:x.dev=k
  ·by_cases h0:k=0
   ·have:¬ (x.dev=k/\0 < k):=by omega
    rw[if_neg this,if_pos hd];simp[h0,zA]
   ·rw[if_pos (show x.dev=k/\0 < k from ⟨hd,by omega⟩),if_pos hd];simp only[h0,decide_false,Bool.not_false,zA,cond_true];rw[R.yZa _ _ (by omega),zB,zA,zA]
  ·rw[if_neg (fun(q:x.dev=k/\0 < k)=>hd q.1),if_neg hd]
   rfl) (fun t _=>by unfold YL;simp[zA]) [] (by rw[List.take_zero,UL,jI])
 rw[show(([]:List RN),(0:Int))=([],((0:Nat):Int)) from rfl,this];have key:∀ (l:List PT) (u:List RN),l.foldl (fun t p=>if p.dev=k/\0 < k then R.ZV (·||·) t p.runs else t) (R.nrm u)=R.nrm (u++yn l k):=by
  intro l
  induction l with
  | nil=>intro u;simp[yn]
  | cons p r ih=>
   intro u;rw[List.foldl_cons,ZD]
   by_cases hp:p.dev=k/\0 < k
   ·rw[if_pos hp,if_pos hp,yia,ih,List.append_assoc]
   ·rw[if_neg hp,if_neg hp,ih,List.nil_append]
 have h2:=key c [];rw[jI,List.nil_append] at h2;rw[h2];rfl
def zsa(c:List PT):List Int:=c.foldl (fun l p=>V.jf l p.dev) []
theorem qn(c:List PT):∀ l:List Int,l.Pairwise (· < ·)->(c.foldl (fun l p=>V.jf l p.dev) l).Pairwise (· < ·)/\(∀ k,k∈c.foldl (fun l p=>V.jf l p.dev) l↔k∈l\/∃ p∈c,p.dev=k)/\(c.foldl (fun l p=>V.jf l p.dev) l).length<=l.length+c.length:=by
 induction c with
 | nil=>intro l h;simp[h]
 | cons p r ih=>
  intro l h;rw[List.foldl_cons];obtain⟨h1,h2,h3⟩:=ih _ (V.ZB h p.dev);refine⟨h1,fun k=>?_,by have:=V.Ws l p.dev;simp;omega⟩;rw[h2,V.UK]
  constructor
  ·rintro((rfl | h4) | ⟨x,h4,h5⟩)
   ·exact .inr ⟨p,by simp,rfl⟩
   ·exact .inl h4
   ·exact .inr ⟨x,by simp[h4],h5⟩
  ·rintro(h4 | ⟨x,h4,h5⟩)
   ·exact .inl (.inr h4)
   ·rcases List.mem_cons.1 h4 with rfl | h4
    ·exact .inl (.inl h5.symm)
    ·exact .inr ⟨x,h4,h5⟩
theorem jM(c:List PT):(zsa c).Pairwise (· < ·):=(qn c [] List.Pairwise.nil).1
theorem yja{c:List PT}{k:Int}:k∈zsa c↔∃ p∈c,p.dev=k:=by
 have:=(qn c [] List.Pairwise.nil).2.1 k;unfold zsa;rw[this];simp
theorem yka(c:List PT):(zsa c).length<=c.length:=by simpa[zsa] using (qn c [] List.Pairwise.nil).2.2
theorem Wz(l:List Int):(V.Xt l).length=l.length:=by simp[V.Xt]
theorem rdevs_eq(a b:List PT)(h:a.length+b.length<=10000000000):UD a b=pure (V.Xt (zsa (a++b))):=by
 unfold UD;have h1:=Zd (body:=YK a) a (fun i (l:List Int)=>(V.Xt l,(i:Int))) (fun l p=>V.jf l p.dev) (fun l=>pure (V.Xt l)) (fun i l=>l.Pairwise (· < ·)/\l.length<=i) (fun i x l hx hi ⟨hs,hl⟩=>by
  have h1:decide ((i:Int) < (a.length:Int))=true:=by simpa using hi
  unfold YK;simp only[h1,cond_true,zJ hx,zA,yH (show i < 9223372036854775807 by omega)];rw[V.VS _ _ (by rw[Wz];omega),zB,zA,V.yWa hs];exact⟨rfl,V.ZB hs _,by have:=V.Ws l x.dev;omega⟩) (fun l _=>by unfold YK;simp[zA]) [] ⟨List.Pairwise.nil,by simp⟩
 have h2:=Zd (body:=um b) b (fun i (l:List Int)=>(V.Xt l,(i:Int))) (fun l p=>V.jf l p.dev) (fun l=>pure (V.Xt l)) (fun i l=>l.Pairwise (· < ·)/\l.length<=a.length+i) (fun i x l hx hi ⟨hs,hl⟩=>by
  have h1:decide ((i:Int) < (b.length:Int))=true:=by simpa using hi
  unfold um;simp only[h1,cond_true,zJ hx,zA,yH (show i < 9223372036854775807 by omega)];rw[V.VS _ _ (by rw[Wz];omega),zB,zA,V.yWa hs];exact⟨rfl,V.ZB hs _,by have:=V.Ws l x.dev;omega⟩) (fun l _=>by unfold um;simp[zA]) (zsa a) ⟨jM a,by have:=yka a;omega⟩
 rw[show(([]:List DT),(0:Int))=(V.Xt [],((0:Nat):Int)) from rfl,h1,zA];show(loop (um b) (V.Xt (zsa a),((0:Nat):Int))).bind _=_;rw[h2,zA];unfold zsa;rw[List.foldl_append]
theorem VV(op:Bool->Bool->Bool)(how:Int)(hop:∀ x y,op x y=if how=2 then (x&&!y) else if how=1 then (x&&y) else (x||y))(h0:op false false=false)(a b:List PT)(oa:∀ p∈a,0<=p.dev)(ob:∀ p∈b,0<=p.dev)(ha:a.length<=1000000000)(hb:b.length<=1000000000)(ta:uB a<=1000000000)(tb:uB b<=1000000000):Ui a b how=pure (opC op a b):=by
 unfold Ui;rw[rdevs_eq a b (by omega),zB,zA];have hlenA:∀ k,(R.nrm (yn a k)).length<=2000000000:=fun k=>by have:=R.ZC (yn a k);have:=xm a k;omega
 have hlenB:∀ k,(R.nrm (yn b k)).length<=2000000000:=fun k=>by have:=R.ZC (yn b k);have:=xm b k;omega
 have hop':∀ k,R.ZV op (R.nrm (yn a k)) (R.nrm (yn b k))=R.ZV op (yn a k) (yn b k):=fun k=>R.Wx (R.zq op h0 _ _).1 (R.zq op h0 _ _).1 fun n=>by rw[(R.zq op h0 _ _).2.1,(R.zq op h0 _ _).2.1,R.vO,R.vO]
 have hkey:∀ k∈zsa (a++b),0<=k:=fun k hk=>by
  obtain⟨p,hp,rfl⟩:=yja.1 hk;rcases List.mem_append.1 hp with hp | hp
  ·exact oa p hp
  ·exact ob p hp
 have hnd:(zsa (a++b)).length<=2000000000:=by have:=yka (a++b);rw[List.length_append] at this;omega
 have hgo:=Zd (body:=Xc (V.Xt (zsa (a++b))) a b how) (zsa (a++b)) (fun i (t:List PT)=>((i:Int),t)) (fun t k=>if R.ZV op (yn a k) (yn b k)=[] then t else t++[⟨k,R.ZV op (yn a k) (yn b k)⟩]) (fun t=>pure t) (fun i t=>t.length<=i) (fun i k t hk hi hl=>by
  have h1:decide ((i:Int) < ((V.Xt (zsa (a++b))).length:Int))=true:=by rw[Wz];simpa using hi
  have hx:(V.Xt (zsa (a++b)))[i]?=some ⟨k,1⟩:=by simp[V.Xt,hk]
  have hk0:0<=k:=hkey k (List.mem_of_getElem? hk);unfold Xc;simp only[h1,cond_true,zJ hx,zA,ql a k hk0 ha ta,ql b k hk0 hb tb,zB,yH (show i < 9223372036854775807 by omega)];have hl1:=hlenA k;have hl2:=hlenB k;rw[R.yZa _ _ (by omega),zB,zA,R.rmeet_eq _ _ (by omega),zB,zA,R.wea _ _ (by omega),zB,zA];have hz:(cond (decide (how=1)) (pure (R.ZV (·&&·) (R.nrm (yn a k)) (R.nrm (yn b k)))) (pure (R.ZV (·||·) (R.nrm (yn a k)) (R.nrm (yn b k)))):M (List RN)).bind (fun z=>cond (decide (how=2)) (pure (R.ZV (fun x y=>x&&!y) (R.nrm (yn a k)) (R.nrm (yn b k)))) (pure z))=pure (R.ZV op (yn a k) (yn b k)):=by
   rw[<- hop' k]
   by_cases h2:how=2
   ·subst h2;have:op=fun x y=>x&&!y:=by funext x y;rw[hop];simp
    rw[this];rfl
   ·by_cases h1:how=1
    ·subst h1;have:op=fun x y=>x&&y:=by funext x y;rw[hop];simp
     rw[this];rfl
    ·have:op=fun x y=>x||y:=by funext x y;rw[hop];simp[h1,h2]
     rw[this];simp[h1,h2,zA]
  rw[<- JC,hz,zA];have hsl:=(R.zq op h0 (yn a k) (yn b k)).2.2
  by_cases hz0:R.ZV op (yn a k) (yn b k)=[]
  ·rw[if_pos hz0];simp only[hz0,List.length_nil];exact⟨rfl,by omega⟩
  ·rw[if_neg hz0];have:decide (0 < ((R.ZV op (yn a k) (yn b k)).length:Int))=true:=by
    have:=List.length_pos_iff.2 hz0;simp;omega
   rw[this,cond_true,zC (by simp;omega)];exact⟨rfl,by simp;omega⟩) (fun t _=>by unfold Xc;rw[Wz];simp[zA]) [] (by simp)
 rw[show((0:Int),([]:List PT))=(((0:Nat):Int),[]) from rfl,hgo,zA];have key:∀ (ks:List Int) (t:List PT),ks.foldl (fun t k=>if R.ZV op (yn a k) (yn b k)=[] then t else t++[⟨k,R.ZV op (yn a k) (yn b k)⟩]) t=t++ya (fun k=>R.ZV op (yn a k) (yn b k)) ks:=by
  intro ks
  induction ks with
  | nil=>intro t;simp[ya]
  | cons k ks ih=>
   intro t;rw[List.foldl_cons,ih]
   by_cases h:R.ZV op (yn a k) (yn b k)=[]
   ·rw[if_pos h];simp[ya,h]
   ·rw[if_neg h];simp[ya,h]
 rw[key,List.nil_append];refine congrArg pure (jE (jM _) (wY _) (fun _=>rfl) fun k hk=>?_);have hr:yn (a++b) k≠[]:=fun e=>hk (by
  rw[VA] at e;have:=List.append_eq_nil_iff.1 e;rw[this.1,this.2];exact yda h0)
 exact⟨fun _=>ZW hr,fun _=>yja.2 (vL.1 (ZW hr)).1⟩
structure Ok(c:List PT):Prop where
 dev:∀ p∈c,0<=p.dev
 len:c.length<=1000000000
 tot:uB c<=1000000000
theorem Ok.sm{c:List PT}(h:Ok c):Sm c:=⟨by have:=h.len;omega,by have:=h.tot;omega⟩
section
variable(a b:List PT)(ha:Ok a)(hb:Ok b)
include ha hb
theorem qp : Xe a b=pure (opC (·||·) a b):=by
 unfold Xe;rw[VV (·||·) 0 (fun x y=>by simp) rfl a b ha.dev hb.dev ha.len hb.len ha.tot hb.tot,zB,zA]
theorem yla : vE a b=pure (opC (·&&·) a b):=by
 unfold vE;rw[VV (·&&·) 1 (fun x y=>by simp) rfl a b ha.dev hb.dev ha.len hb.len ha.tot hb.tot,zB,zA]
end
theorem ok_nil : Ok []:=⟨fun p h=>by simp at h,by simp,by simp[uB]⟩
theorem wua{c:List PT}{k n:Int}(h:yb c k n=true):0 < k/\1<=n/\n<=281474976710655:=by
 refine⟨Classical.byContradiction fun h0=>?_,R.JP h⟩;unfold yb at h;rw[qf h0] at h
 cases h
theorem VY(c:List PT)(d:DT)(h:Ok c):XD c d=pure (yb c d.dev d.n):=by
 unfold XD;rw[V.ZA,zB,zA]
 by_cases hg:V.yD d=true
 ·have h1:=V.xH.1 hg;rw[hg,cond_true,ql c d.dev (by omega) h.len h.tot,zB,zA,R.zra _ _ (by have:=R.ZC (yn c d.dev);have:=xm c d.dev;have:=h.tot;omega),zB,zA,zA,R.vO]
  rfl
 ·have hg':V.yD d=false:=by simpa using hg
  rw[hg',cond_false,zA]
  cases hh:yb c d.dev d.n with
  | false=>rfl
  | true=>obtain⟨h1,h2,h3⟩:=wua hh;exact absurd (V.xH.2 ⟨by omega,h2,h3⟩) hg
theorem JU(l:List DT)(d:DT):yF (l++[d])=yF l++if V.yD d=true then [⟨d.dev,[⟨d.n,d.n⟩]⟩] else []:=by
 unfold yF;rw[List.filter_append,List.map_append]
 congr 1
 by_cases h:V.yD d=true <;> simp[h]
theorem qq(a b:List PT):opC (·||·) (zU a) b=zU (a++b):=(xn rfl _ _).ext (yo _) fun k n=>by rw[xx rfl,zu,zu,vl]
theorem qr{l:List DT}(h:l.length<=400000000):Ok (zU (yF l)):=⟨fun p hp=>by have:=((yo (yF l)).nf p hp).1;omega,by have:=vP (yF l);have:=vR l;omega,by have:=vQ (yF l);have:=Xi l;omega⟩
theorem rOf_eq(l:List DT)(h:l.length<=400000000):wWa l=pure (zU (yF l)):=by
 unfold wWa;have:=Zd (body:=Wq l) l (fun i (t:List PT)=>(t,(i:Int))) (fun t d=>if V.yD d=true then opC (·||·) t [⟨d.dev,[⟨d.n,d.n⟩]⟩] else t) (fun t=>pure t) (fun i t=>t=zU (yF (l.take i))) (fun i x t hx hi ht=>by
  have h1:decide ((i:Int) < (l.length:Int))=true:=by simpa using hi
  have hok:Ok t:=by rw[ht];exact qr (by rw[List.length_take];omega)
  have hnext:(if V.yD x=true then opC (·||·) t [⟨x.dev,[⟨x.n,x.n⟩]⟩] else t)=zU (yF (l.take (i+1))):=by
   rw[List.take_add_one,hx,Option.toList,JU,ht]
   split
   ·exact qq _ _
   ·rw[List.append_nil]
  refine⟨?_,hnext⟩;unfold Wq;simp only[h1,cond_true,zJ hx,zA,V.ZA,zB,yH (show i < 9223372036854775807 by omega)]
  by_cases hg:V.yD x=true
  ·have h2:=V.xH.1 hg;rw[if_pos hg,hg,cond_true,qp t _ hok ⟨fun p hp=>by rw[List.mem_singleton] at hp;subst hp;show 0<=x.dev;omega,by simp,by simp[uB]⟩,zB,zA,zA]
  ·have hg':V.yD x=false:=by simpa using hg
   rw[if_neg hg,hg',cond_false,zA]) (fun t _=>by unfold Wq;simp[zA]) [] (by rw[List.take_zero];exact(ug jK).symm)
 rw[show(([]:List PT),(0:Int))=([],((0:Nat):Int)) from rfl,this,zA];have key:∀ (q pre:List DT),q.foldl (fun t d=>if V.yD d=true then opC (·||·) t [⟨d.dev,[⟨d.n,d.n⟩]⟩] else t) (zU (yF pre))=zU (yF (pre++q)):=by
  intro q
  induction q with
  | nil=>intro pre;rw[List.append_nil];rfl
  | cons d r ih=>
   intro pre;rw[List.foldl_cons];have:(if V.yD d=true then opC (·||·) (zU (yF pre)) [⟨d.dev,[⟨d.n,d.n⟩]⟩] else zU (yF pre))=zU (yF (pre++[d])):=by
    rw[JU]
    split
    ·exact qq _ _
    ·rw[List.append_nil]
   rw[this,ih,List.append_assoc];rfl
 have h2:=key l [];rw[show zU (yF [])=[] from ug jK,List.nil_append] at h2;rw[h2]
theorem zta{a b:List PT}{op:Bool->Bool->Bool}(h0:op false false=false)(ha:a.length<=100000000/\uB a<=100000000)(hb:b.length<=100000000/\uB b<=100000000):Ok (opC op a b):=⟨fun p hp=>by have:=((xn h0 a b).nf p hp).1;omega,by have:=wma op a b;omega,by have:=woa h0 a b;omega⟩
theorem JV{a b:List PT}(h:∀ k n,yb a k n=true->yb b k n=true):opC (fun x y=>x&&!y) a b=[]:=xJa (xn rfl _ _) fun k n=>by
 rw[xx rfl]
 cases ha:yb a k n with
 | false=>rfl
 | true=>rw[h k n ha];rfl
end Go.Ep.M.C
namespace Go.Ep.M.N
open Go
def wva(n:Nat):Nat:=if n=0 then 0 else wva (n / 256)+1
theorem Qz : wva 0=0:=by rw[wva];rfl
theorem qu{n:Nat}(h:n≠0):wva n=wva (n / 256)+1:=by rw[wva,if_neg h]
theorem wwa : ∀ (k n:Nat),n < 256 ^ k->wva n<=k
 | 0,n,h=>by
  have:n=0:=by simpa using h
  rw[this,Qz];exact Nat.le_refl _
 | k+1,n,h=>by
  by_cases h0:n=0
  ·rw[h0,Qz];omega
  ·rw[qu h0];have:=wwa k (n / 256) (by rw[Nat.pow_succ] at h;omega);omega
theorem wxa : ∀ (k n:Nat),256 ^ k<=n->k+1<=wva n
 | 0,n,h=>by
  have:n≠0:=by intro h0;rw[h0] at h;simp at h
  rw[qu this];omega
 | k+1,n,h=>by
  have hp:0 < 256 ^ k:=Nat.pow_pos (by decide);rw[Nat.pow_succ] at h;have:n≠0:=by omega
  rw[qu this];have:=wxa k (n / 256) (by omega);omega
def zAa(n i:Nat):Int:=((n / 256 ^ i % 256:Nat):Int)
def be(n:Nat):Nat->List Int
 | 0=>[]
 | k+1=>zAa n k::be n k
def encN(n:Nat):List Int:=(wva n:Int)::be n (wva n)
def jq(v:Int):List Int:=encN v.toNat
def By(l:List Int):Prop:=∀ x∈l,0<=x/\x<=255
theorem By.drop{l:List Int}(h:By l)(n:Nat):By (l.drop n):=fun x hx=>h x (List.mem_of_mem_drop hx)
theorem By.take{l:List Int}(h:By l)(n:Nat):By (l.take n):=fun x hx=>h x (List.mem_of_mem_take hx)
theorem By.app{a b:List Int}(ha:By a)(hb:By b):By (a++b):=fun x hx=>(List.mem_append.1 hx).elim (ha x) (hb x)
theorem By.nil : By []:=fun x hx=>by cases hx
def qv(l:List Int):Int:=l.foldl (fun v x=>v*256+x) 0
theorem jN : ∀ (l:List Int) (v k:Nat),By l->v < 256 ^ k->∃ n:Nat,l.foldl (fun v x=>v*256+x) (v:Int)=(n:Int)/\n < 256 ^ (k+l.length)/\v*256 ^ l.length<=n
 | [],v,k,_,hv=>⟨v,rfl,by simpa using hv,by simp⟩
 | x::r,v,k,hb,hv=>by
  have hx:=hb x (by simp);obtain⟨n,h1,h2,h3⟩:=jN r (v*256+x.toNat) (k+1) (fun y hy=>hb y (by simp[hy])) (by rw[Nat.pow_succ];omega);refine⟨n,?_,by rw[show k+(x::r).length=k+1+r.length by simp;omega];exact h2,?_⟩
  ·rw[List.foldl_cons,<- h1]
   congr 1;omega
  ·refine Nat.le_trans ?_ h3;rw[List.length_cons,Nat.pow_succ];have:v*(256 ^ r.length*256)=v*256*256 ^ r.length:=by rw[Nat.mul_comm (256 ^ r.length),Nat.mul_assoc]
   rw[this];exact Nat.mul_le_mul_right _ (by omega)
theorem wya{l:List Int}(h:By l)(h8:l.length<=8):0<=qv l/\qv l<=18446744073709551615:=by
 obtain⟨n,h1,h2,_⟩:=jN l 0 0 h (by decide);have h3:256 ^ (0+l.length)<=256 ^ 8:=Nat.pow_le_pow_right (by decide) (by omega);have h4:(256:Nat) ^ 8=18446744073709551616:=by decide
 rw[qv,show(0:Int)=((0:Nat):Int) from rfl,h1];omega
def rdN : List Int->Int×Nat×Int
 | []=>(0,0,2)
 | n::r=>if 8 < n\/(0 < n/\r.head?=some 0) then (0,0,4) else if (r.length:Int) < n then (0,0,2) else (qv (r.take n.toNat),n.toNat+1,0)
theorem rdN_cons(n:Int)(r:List Int):rdN (n::r)=if 8 < n\/(0 < n/\r.head?=some 0) then (0,0,4) else if (r.length:Int) < n then (0,0,2) else (qv (r.take n.toNat),n.toNat+1,0):=rfl
theorem zBa(b:List Int)(hb:By b):(rdN b=(0,0,2)\/rdN b=(0,0,4))\/∃ n r,b=n::r/\0<=n/\n<=8/\n<=(r.length:Int)/\¬ (0 < n/\r.head?=some 0)/\rdN b=(qv (r.take n.toNat),n.toNat+1,0):=by
 cases b with
 | nil=>exact .inl (.inl rfl)
 | cons n r=>
  have hn:=hb n (by simp);rw[rdN_cons]
  by_cases h1:8 < n\/(0 < n/\r.head?=some 0)
  ·rw[if_pos h1];exact .inl (.inr rfl)
  ·rw[if_neg h1]
   by_cases h2:(r.length:Int) < n
   ·rw[if_pos h2];exact .inl (.inl rfl)
   ·rw[if_neg h2];exact .inr ⟨n,r,rfl,hn.1,by omega,by omega,fun h=>h1 (.inr h),rfl⟩
theorem wza(b:List Int)(hb:By b):0<=(rdN b).1/\(rdN b).1<=18446744073709551615/\(rdN b).2.1<=b.length/\((rdN b).2.2=0\/(rdN b).2.2=2\/(rdN b).2.2=4):=by
 rcases zBa b hb with(h | h) | ⟨n,r,rfl,h0,h8,hl,_,h⟩
 ·rw[h];simp
 ·rw[h];simp
 ·rw[h];have:=wya (l:=r.take n.toNat) (fun x hx=>hb x (by simp[List.mem_of_mem_take hx])) (by rw[List.length_take];omega);refine⟨this.1,this.2,?_,.inl rfl⟩;simp;omega
theorem be_of : ∀ (l:List Int),By l->∀ n:Nat,qv l=(n:Int)->be n l.length=l:=by
 intro l;have key:∀ (m:Nat) (l:List Int),l.length=m->By l->∀ n:Nat,qv l=(n:Int)->be n l.length=l:=by
  intro m
  induction m with
  | zero=>intro l hl _ n _;have:=List.eq_nil_of_length_eq_zero hl;subst this;rfl
  | succ m ih=>
   intro l hl hb n hn
   cases l with
   | nil=>simp at hl
   | cons x r=>
    have hx:=hb x (by simp);have hr:By r:=fun y hy=>hb y (by simp[hy])
    obtain⟨q,h1,h2,h3⟩:=jN r 0 0 hr (by decide);obtain⟨q2,h4,h5,h6⟩:=jN r x.toNat 1 hr (by omega);have hq:qv r=(q:Int):=h1;have hq2:qv (x::r)=(q2:Int):=by
     rw[qv,List.foldl_cons,<- h4];congr 1;omega
    have hrl:r.length=m:=by simpa using hl
    have e:q2=n:=by omega
    subst e;have hlin:∀ (l:List Int) (v:Int),l.foldl (fun v x=>v*256+x) v=v*256 ^ l.length+qv l:=by
     intro l
     induction l with
     | nil=>intro v;simp[qv]
     | cons y t iht=>
      intro v;have e:qv (y::t)=y*256 ^ t.length+qv t:=by rw[qv,List.foldl_cons,iht];simp
      rw[List.foldl_cons,iht,e,List.length_cons,Int.pow_succ,Int.add_mul,Int.mul_assoc,Int.mul_comm 256,Int.add_assoc]
    have hsum:(q2:Int)=x*256 ^ r.length+(q:Int):=by
     rw[<- hq,<- hlin r x,<- hq2,qv,List.foldl_cons];congr 1;omega
    have hqlt:q < 256 ^ r.length:=by simpa using h2
    have hnat:q2=x.toNat*256 ^ r.length+q:=by
     have:((q2:Nat):Int)=((x.toNat*256 ^ r.length+q:Nat):Int):=by
      rw[hsum,Int.natCast_add,Int.natCast_mul,Int.natCast_pow,Int.toNat_of_nonneg hx.1];rfl
     exact Int.ofNat.inj this
    have hp:0 < 256 ^ r.length:=Nat.pow_pos (by decide);have hdiv:q2 / 256 ^ r.length=x.toNat:=by
     rw[hnat,Nat.mul_comm,Nat.mul_add_div hp,Nat.div_eq_of_lt hqlt,Nat.add_zero]
    rw[List.length_cons,be];have hb1:zAa q2 r.length=x:=by unfold zAa;rw[hdiv];omega
    rw[hb1]
    congr 1
    have hbe:∀ k,k<=r.length->be q2 k=be q k:=by
     intro k hk
     induction k with
     | zero=>rfl
     | succ k ihk=>
      rw[be,be,ihk (by omega)]
      congr 1
      show((q2 / 256 ^ k % 256:Nat):Int)=((q / 256 ^ k % 256:Nat):Int)
      congr 1
      have hs:256 ^ r.length=256 ^ k*(256*256 ^ (r.length - k - 1)):=by
       rw[<- Nat.pow_succ',<- Nat.pow_add];congr 1;omega
      have hpk:0 < 256 ^ k:=Nat.pow_pos (by decide);rw[hnat,hs,Nat.mul_left_comm,Nat.mul_add_div hpk];rw[Nat.mul_left_comm,Nat.mul_add_mod]
    rw[hbe _ (Nat.le_refl _)];exact ih r hrl hr q hq
 exact key l.length l rfl
theorem rdN_one{b:List Int}(hb:By b)(h:(rdN b).2.2=0):b=jq (rdN b).1++b.drop (rdN b).2.1:=by
 rcases zBa b hb with(h1 | h1) | ⟨n,r,rfl,h0,h8,hl,hh,h1⟩
 ·rw[h1] at h;simp at h
 ·rw[h1] at h;simp at h
 ·rw[h1];have hr:By r:=fun x hx=>hb x (by simp[hx])
  have hbt:=hr.take n.toNat;have hlt:(r.take n.toNat).length=n.toNat:=by rw[List.length_take];omega
  obtain⟨q,h2,h3,h4⟩:=jN (r.take n.toNat) 0 0 hbt (by decide);have hq:qv (r.take n.toNat)=(q:Int):=h2;have hbe:=be_of _ hbt q hq;rw[hlt] at hbe;have hlen:wva q=n.toNat:=by
   apply Nat.le_antisymm
   ·exact wwa _ _ (by simpa[hlt] using h3)
   ·rcases Nat.eq_zero_or_pos n.toNat with hz | hz
    ·omega
    ·obtain⟨k,hk⟩:∃ k,n.toNat=k+1:=⟨n.toNat - 1,by omega⟩
     rw[hk];refine wxa k q ?_;rw[hk,be] at hbe;have hne:zAa q k≠0:=by
      intro e;rw[e] at hbe;refine hh ⟨by omega,?_⟩;have:=congrArg List.head? hbe;rw[List.head?_cons,List.head?_take,if_neg (by omega)] at this;exact this.symm
     unfold zAa at hne;have hp:0 < 256 ^ k:=Nat.pow_pos (by decide);rcases Nat.lt_or_ge q (256 ^ k) with hlt2 | hge
     ·rw[Nat.div_eq_of_lt hlt2] at hne;simp at hne
     ·exact hge
  show n::r=jq (qv (r.take n.toNat))++(n::r).drop (n.toNat+1);rw[hq,jq,Int.toNat_natCast,encN,hlen,hbe,List.drop_succ_cons,List.cons_append,List.take_append_drop]
  congr 1;omega
abbrev RS:=List Int×Int
structure Ok(s:RS):Prop where
 by_:By s.1
 len:s.1.length<=1000000000
 nil:s.2≠0->s.1=[]
def XF(e:Int)(s:RS):RS:=if s.2=0/\e≠0 then ([],e) else s
def wb(s:RS):Int×RS:=if s.2≠0 then (0,s) else if (rdN s.1).2.2≠0 then (0,XF (rdN s.1).2.2 s) else ((rdN s.1).1,(s.1.drop (rdN s.1).2.1,0))
def uK(m:Int)(s:RS):Int×RS:=if m < (wb s).1 then (0,XF 4 (wb s).2) else wb s
def Yh(s:RS):Int×RS:=if s.2≠0 then (0,s) else match s.1 with | []=>(0,XF 2 s) | x::r=>(x,(r,0))
def WP(m:Int)(s:RS):ByteArray×RS:=
 if (wb s).2.2≠0 then (⟨#[]⟩,(wb s).2) else if max m 0 < (wb s).1 then (⟨#[]⟩,XF 3 (wb s).2) else if ((wb s).2.1.length:Int) < (wb s).1 then (⟨#[]⟩,XF 2 (wb s).2)
 else (strL ((wb s).2.1.take (wb s).1.toNat),((wb s).2.1.drop (wb s).1.toNat,0))
theorem WQ{s:RS}(h:Ok s)(e:Int):Ok (XF e s):=by
 unfold XF
 by_cases c:s.2=0/\e≠0
 ·rw[if_pos c];exact⟨By.nil,by simp,fun _=>rfl⟩
 ·rw[if_neg c];exact h
theorem Ya{s:RS}{e:Int}(h:e≠0):(XF e s).2≠0:=by
 unfold XF
 by_cases c:s.2=0
 ·rw[if_pos ⟨c,h⟩];exact h
 ·rw[if_neg (fun q=>c q.1)];exact c
theorem num_of{s:RS}(h:s.2≠0):wb s=(0,s):=if_pos h
theorem Vp{s:RS}(h:Ok s):Ok (wb s).2/\0<=(wb s).1/\(wb s).1<=18446744073709551615:=by
 unfold wb;have hr:=wza s.1 h.by_
 by_cases c:s.2≠0
 ·rw[if_pos c];exact⟨h,by simp,by simp⟩
 ·rw[if_neg c]
  by_cases c2:(rdN s.1).2.2≠0
  ·rw[if_pos c2];exact⟨WQ h _,by simp,by simp⟩
  ·rw[if_neg c2];exact⟨⟨h.by_.drop _,by simp;have:=h.len;omega,fun h=>absurd rfl h⟩,hr.1,hr.2.1⟩
theorem w0a{s:RS}(h:Ok s){m:Int}(hm:0<=m):Ok (uK m s).2/\0<=(uK m s).1/\(uK m s).1<=m:=by
 unfold uK;obtain⟨h1,h2,h3⟩:=Vp h
 by_cases c:m < (wb s).1
 ·rw[if_pos c];exact⟨WQ h1 _,by simp,hm⟩
 ·rw[if_neg c];exact⟨h1,h2,by omega⟩
theorem w1a{s:RS}(h:Ok s):Ok (Yh s).2/\0<=(Yh s).1/\(Yh s).1<=255:=by
 unfold Yh
 by_cases c:s.2≠0
 ·rw[if_pos c];exact⟨h,by simp,by simp⟩
 ·rw[if_neg c]
  cases hs:s.1 with
  | nil=>exact⟨WQ h _,by simp,by simp⟩
  | cons x r=>
   have hb:=h.by_;have hl:=h.len;rw[hs] at hb hl;exact⟨⟨fun y hy=>hb y (by simp[hy]),by simp at hl ⊢;omega,fun h=>absurd rfl h⟩,(hb x (by simp)).1,(hb x (by simp)).2⟩
theorem ok_text{s:RS}(h:Ok s)(m:Int):Ok (WP m s).2:=by
 unfold WP;obtain⟨h1,h2,h3⟩:=Vp h
 split
 ·exact h1
 ·split
  ·exact WQ h1 _
  ·split
   ·exact WQ h1 _
   ·exact⟨h1.by_.drop _,by simp;have:=h1.len;omega,fun h=>absurd rfl h⟩
structure Sim(B:List Int)(a:Int)(s:RS):Prop where
 lo:0<=a
 hi:a<=B.length
 eq:s.2=0->s.1=B.drop a.toNat
structure OkB(B:List Int):Prop where
 by_:By B
 len:B.length<=1000000000
variable{B:List Int}{a:Int}{s:RS}
end Go.Ep.M.N
namespace Go.Ep.M.D
open Go
theorem Vq{a b:DT}:zR a b=true↔a.dev < b.dev\/(a.dev=b.dev/\a.n < b.n):=by simp[zR]
theorem WA(a:DT):zR a a=false:=by
 cases h:zR a a with
 | false=>rfl
 | true=>rw[Vq] at h;omega
theorem Xj{a b c:DT}(h1:zR a b=true)(h2:zR b c=true):zR a c=true:=by rw[Vq] at *;omega
theorem XG{a b:DT}(h:zR a b=true):zR b a=false:=by
 cases h2:zR b a with
 | false=>rfl
 | true=>rw[Vq] at h h2;omega
theorem JW{a b:DT}(h1:zR a b=false)(h2:zR b a=false):a=b:=by
 have h3:¬ (zR a b=true):=by simp[h1]
 have h4:¬ (zR b a=true):=by simp[h2]
 rw[Vq] at h3 h4
 cases a;cases b
 simp only[DT.mk.injEq] at *
 omega
abbrev Srt(l:List DT):Prop:=l.Pairwise fun x y=>zR x y=true
theorem zua : ∀ {l l':List DT},Srt l->Srt l'->(∀ d,d∈l↔d∈l')->l=l'
 | [],[],_,_,_=>rfl
 | [],y::r,_,_,h=>by have:=(h y).2 (by simp);simp at this
 | x::r,[],_,_,h=>by have:=(h x).1 (by simp);simp at this
 | x::r,y::t,h1,h2,h=>by
  have hx:=(h x).1 (by simp);have hy:=(h y).2 (by simp);have e:x=y:=by
   rcases List.mem_cons.1 hx with e | hx
   ·exact e
   ·rcases List.mem_cons.1 hy with e | hy
    ·exact e.symm
    ·have a1:=(List.pairwise_cons.1 h2).1 x hx;have a2:=(List.pairwise_cons.1 h1).1 y hy;rw[XG a1] at a2;cases a2
  subst e
  congr 1
  refine zua (List.pairwise_cons.1 h1).2 (List.pairwise_cons.1 h2).2 fun d=>?_
  have h3:=h d;simp only[List.mem_cons] at h3
  constructor
  ·intro hd;rcases h3.1 (.inr hd) with e | h4
   ·have:=(List.pairwise_cons.1 h1).1 d hd;rw[e,WA] at this;cases this
   ·exact h4
  ·intro hd;rcases h3.2 (.inr hd) with e | h4
   ·have:=(List.pairwise_cons.1 h2).1 d hd;rw[e,WA] at this;cases this
   ·exact h4
def zva(s:List DT)(d:DT):List DT:=(s.filter fun x=>zR x d)++[d]++(s.filter fun x=>zR d x)
theorem ins_mem{s:List DT}{d x:DT}:x∈zva s d↔x=d\/x∈s:=by
 simp only[zva,List.mem_append,List.mem_filter,List.mem_singleton]
 constructor
 ·rintro((h | h) | h)
  ·exact .inr h.1
  ·exact .inl h
  ·exact .inr h.1
 ·rintro(h | h)
  ·exact .inl (.inr h)
  ·cases h1:zR x d with
   | true=>exact .inl (.inl ⟨h,rfl⟩)
   | false=>
    cases h2:zR d x with
    | true=>exact .inr ⟨h,rfl⟩
    | false=>exact .inl (.inr (JW h1 h2))
theorem ins_srt{s:List DT}(h:Srt s)(d:DT):Srt (zva s d):=by
 unfold Srt zva;rw[List.pairwise_append,List.pairwise_append];refine⟨⟨h.filter _,by simp,fun a ha b hb=>?_⟩,h.filter _,fun a ha b hb=>?_⟩
 ·rw[List.mem_singleton.1 hb];exact(List.mem_filter.1 ha).2
 ·have hb:=(List.mem_filter.1 hb).2;rcases List.mem_append.1 ha with ha | ha
  ·exact Xj (List.mem_filter.1 ha).2 hb
  ·rw[List.mem_singleton.1 ha];exact hb
theorem zwa(s:List DT)(d:DT):(zva s d).length<=s.length+1:=by
 unfold zva;have h:∀ l:List DT,(l.filter fun x=>zR x d).length+(l.filter fun x=>zR d x).length<=l.length:=by
  intro l
  induction l with
  | nil=>simp
  | cons x r ih=>
   cases h1:zR x d with
   | true=>simp[h1,XG h1];omega
   | false=>
    cases h2:zR d x with
    | true=>simp[h1,h2];omega
    | false=>simp[h1,h2];omega
 have:=h s;simp;omega
def Ze(l:List DT):List DT:=l.foldl zva []
theorem UN : ∀ (l s:List DT),Srt s->Srt (l.foldl zva s)/\(∀ d,d∈l.foldl zva s↔d∈s\/d∈l)/\(l.foldl zva s).length<=s.length+l.length
 | [],s,h=>⟨h,by simp,by simp⟩
 | x::r,s,h=>by
  obtain⟨h1,h2,h3⟩:=UN r (zva s x) (ins_srt h x);refine⟨h1,fun d=>?_,?_⟩
  ·rw[List.foldl_cons,h2 d,ins_mem,List.mem_cons]
   constructor
   ·rintro((h | h) | h)
    ·exact .inr (.inl h)
    ·exact .inl h
    ·exact .inr (.inr h)
   ·rintro(h | h | h)
    ·exact .inl (.inr h)
    ·exact .inl (.inl h)
    ·exact .inr h
  ·have:=zwa s x;rw[List.foldl_cons,List.length_cons];omega
theorem UO(l:List DT):Srt (Ze l):=(UN l [] List.Pairwise.nil).1
theorem ZX{l:List DT}{d:DT}:d∈Ze l↔d∈l:=by simpa[Ze] using (UN l [] List.Pairwise.nil).2.1 d
theorem qw(l:List DT):(Ze l).length<=l.length:=by simpa[Ze] using (UN l [] List.Pairwise.nil).2.2
theorem w2a{l:List DT}(h:Srt l):Ze l=l:=zua (UO l) h fun _=>ZX
theorem w3a(s:List DT)(d:DT)(h:s.length<=1000000000000):Ys s d=pure (zva s d):=V.VS s d h
def ddS(out:List DT)(x:DT):List DT:=if out.getLast?=some x then out else out++[x]
def dd(l:List DT):List DT:=l.foldl ddS []
theorem jO(l:List DT)(x:DT):dd (l++[x])=ddS (dd l) x:=by simp[dd]
theorem zxa(l:List DT):(dd l).getLast?=l.getLast?:=by
 rcases R.xl l with rfl | ⟨r,y,rfl⟩
 ·rfl
 ·rw[jO];unfold ddS
  by_cases c:(dd r).getLast?=some y
  ·rw[if_pos c,c];simp
  ·rw[if_neg c];simp
theorem dd_mem{l:List DT}{d:DT}:d∈dd l↔d∈l:=by
 have:∀ (l s:List DT),d∈l.foldl ddS s↔d∈s\/d∈l:=by
  intro l
  induction l with
  | nil=>intro s;simp
  | cons x r ih=>
   intro s;rw[List.foldl_cons,ih];have h2:d∈ddS s x↔d∈s\/d=x:=by
    unfold ddS
    split
    ·rename_i h
     exact⟨.inl,fun h3=>h3.elim id fun e=>by rw[e];exact List.mem_of_getLast? h⟩
    ·simp
   rw[h2,List.mem_cons];exact or_assoc
 simpa[dd] using this l []
theorem dd_srt{l:List DT}(h:l.Pairwise fun x y=>zR y x=false):Srt (dd l):=by
 have:∀ (n:Nat) (l:List DT),l.length=n->(l.Pairwise fun x y=>zR y x=false)->Srt (dd l):=by
  intro n
  induction n with
  | zero=>intro l hl _;have:=List.eq_nil_of_length_eq_zero hl;subst this;exact List.Pairwise.nil
  | succ n ih=>
   intro l hl h;rcases R.xl l with rfl | ⟨r,y,rfl⟩
   ·simp at hl
   ·rw[List.pairwise_append] at h;have hr:=ih r (by simpa using hl) h.1;rw[jO];unfold ddS
    split
    ·exact hr
    ·rename_i hne
     unfold Srt;rw[List.pairwise_append];refine⟨hr,by simp,fun a ha b hb=>?_⟩;rw[List.mem_singleton.1 hb];have ha':=dd_mem.1 ha;have h1:=h.2.2 a ha' y (by simp)
     cases h2:zR a y with
     | true=>rfl
     | false=>
      exfalso;have e:=JW h2 h1;subst e;rw[zxa] at hne;rcases R.xl r with rfl | ⟨q,z,rfl⟩
      ·simp at ha'
      ·have hz:zR a z=false:=h.2.2 z (by simp) a (by simp);rcases List.mem_append.1 ha' with h5 | h5
       ·have h6:zR z a=false:=by
         have:=(List.pairwise_append.1 h.1).2.2 a h5 z (by simp);exact this
        have:=JW hz h6;subst this;simp at hne
       ·rw[List.mem_singleton.1 h5] at hne;simp at hne
 exact this l.length l rfl h
theorem qx(l:List DT)(h:l.length<=1000000000000):yM l=pure l:=by
 unfold yM;refine uk ⟨⟨false,fun h=>by cases h⟩,fun b hb=>?_⟩
 cases b with
 | true=>show([]:List DT)=l;exact(hb rfl).symm
 | false=>
  show _/\([]++l=l)
  exact⟨by simp;omega,List.nil_append l⟩
theorem zCa(x y:DT):(decide (x.dev=y.dev)&&decide (x.n=y.n))=decide (x=y):=by
 cases x;cases y;simp[Bool.decide_and]
theorem XH{l:List DT}{m:Nat}{x:DT}(h:l[m]?=some x):l.take (m+1)=l.take m++[x]:=by
 rw[List.take_add_one,h];rfl
theorem zDa{l:List DT}{m:Nat}{x:DT}(h:l[m]?=some x):(l.take (m+1)).getLast?=some x:=by rw[XH h];simp
theorem VZ(s:List DT)(k:Nat)(hk:k < s.length)(hl:s.length<=1000000000000):∀ (d k2 kk:Nat) (v:List DT),k+k2+d=s.length->1<=k2->v.length=s.length->kk+1<=k+k2->v.take kk=dd (s.take (k+k2))->v.drop (k+k2 - 1)=s.drop (k+k2 - 1) ->
  ∃ (kk':Nat) (v':List DT),loop (zl s (k:Int)) ((kk:Int),(k2:Int),v)=pure ((kk':Int),v')/\v'.length=s.length/\kk'<=s.length/\v'.take kk'=dd s
 | 0,k2,kk,v,hd,h1,hv,hkk,ht,_=>by
  refine⟨kk,v,yL ?_,hv,by omega,by rw[ht,show k+k2=s.length by omega,List.take_length]⟩;unfold zl;have:decide ((k2:Int) < (((s.length - (k:Int).toNat:Nat)):Int))=false:=by simp;omega
  simp only[this,cond_false]
 | d+1,k2,kk,v,hd,h1,hv,hkk,ht,hdr=>by
  have hvg:∀ j,k+k2 - 1<=j->v[j]?=s[j]?:=fun j hj=>by
   have:=congrArg (fun l=>l[j - (k+k2 - 1)]?) hdr;simp only[List.getElem?_drop] at this;rw[show k+k2 - 1+(j - (k+k2 - 1))=j by omega] at this;exact this
  obtain⟨x,hx⟩:∃ x,s[k+k2]?=some x:=⟨_,List.getElem?_eq_getElem (by omega)⟩
  obtain⟨y,hy⟩:∃ y,s[k+k2 - 1]?=some y:=⟨_,List.getElem?_eq_getElem (by omega)⟩
  have hlast:(dd (s.take (k+k2))).getLast?=some y:=by
   rw[zxa];have:=zDa hy
   rwa [show k+k2 - 1+1=k+k2 by omega] at this
  have hdd:dd (s.take (k+k2+1))=if y=x then dd (s.take (k+k2)) else dd (s.take (k+k2))++[x]:=by
   rw[XH hx,jO];unfold ddS;rw[hlast]
   by_cases c:y=x
   ·rw[if_pos c,if_pos (by rw[c])]
   ·rw[if_neg c,if_neg (by intro e;exact c (Option.some.inj e))]
  have hb:zl s (k:Int) ((kk:Int),(k2:Int),v)=pure (.next (if y=x then ((kk:Int),((k2+1:Nat):Int),v) else (((kk+1:Nat):Int),((k2+1:Nat):Int),v.set kk x))):=by
   unfold zl;have hc:decide ((k2:Int) < (((s.length - (k:Int).toNat:Nat)):Int))=true:=by simp;omega
   have e1:IntKind.i64.wrap ((k2:Int) - 1)=((k2 - 1:Nat):Int):=by rw[Wp (by omega) (by omega)];omega
   have i1:idx v ((((k:Int).toNat+(k2:Int).toNat:Nat)):Int)=pure x:=zJ (by rw[Int.toNat_natCast,Int.toNat_natCast,hvg _ (by omega)];exact hx);have i2:idx v ((((k:Int).toNat+(((k2 - 1:Nat):Int)).toNat:Nat)):Int)=pure y:=zJ (by rw[Int.toNat_natCast,Int.toNat_natCast,hvg _ (by omega),show k+(k2 - 1)=k+k2 - 1 by omega];exact hy);obtain⟨z,hz⟩:∃ z,v[kk]?=some z:=⟨_,List.getElem?_eq_getElem (by omega)⟩
   have i3:idx v (kk:Int)=pure z:=zJ hz;simp only[hc,cond_true,e1];rw[zC (by simp;omega),i1,zA,zC (by simp;omega),i2,zA];simp only[zCa]
   by_cases c:y=x
   ·have c1:decide (x=y)=true:=decide_eq_true c.symm;simp only[c1,Bool.not_true,cond_false,zA,yH (show k2 < 9223372036854775807 by omega),if_pos c]
   ·have c1:decide (x=y)=false:=decide_eq_false (fun e=>c e.symm);simp only[c1,Bool.not_false,cond_true,if_neg c];rw[zC (by simp;omega),i3];simp only[zA,yH (show k2 < 9223372036854775807 by omega),yH (show kk < 9223372036854775807 by omega),Int.toNat_natCast]
  by_cases c:y=x
  ·rw[if_pos c] at hb hdd;rw[yS hb];refine VZ s k hk hl d (k2+1) kk v (by omega) (by omega) hv (by omega) (by rw[ht,<- hdd];rfl) ?_;have:=congrArg (List.drop 1) hdr;rw[List.drop_drop,List.drop_drop,show k+k2 - 1+1=k+(k2+1) - 1 by omega] at this;exact this
  ·rw[if_neg c] at hb hdd;rw[yS hb];refine VZ s k hk hl d (k2+1) (kk+1) (v.set kk x) (by omega) (by omega) (by simpa using hv) (by omega) ?_ ?_
   ·have h5:(v.set kk x)[kk]?=some x:=by rw[List.getElem?_set];simp;omega
    rw[XH h5,List.take_set,List.set_eq_of_length_le (by rw[List.length_take];omega),ht,<- hdd];rfl
   ·rw[List.drop_set,if_pos (by omega)];have:=congrArg (List.drop 1) hdr;rw[List.drop_drop,List.drop_drop,show k+k2 - 1+1=k+(k2+1) - 1 by omega] at this;exact this
theorem xMa(s:List DT)(hl:s.length<=1000000000000):zx s=pure (dd s):=by
 unfold zx
 by_cases h2:s.length < 2
 ·have:decide ((s.length:Int) < 2)=true:=by simp;omega
  rw[this,cond_true]
  match s,h2 with
  | [],_=>rfl
  | [x],_=>rfl
 ·have:decide ((s.length:Int) < 2)=false:=by simp;omega
  rw[this,cond_false];have key:∀ d k,k+d=s.length->1<=k->dd (s.take k)=s.take k->(loop (zm s) (k:Int)).bind (exk fun _=>pure s)=pure (dd s):=by
   intro d
   induction d with
   | zero=>
    intro k hk h1 hd;rw[yL (r:=.brk ()) (by
     unfold zm;have:decide ((k:Int) < (s.length:Int))=false:=by simp;omega
     simp only[this,cond_false])]
    rw[show k=s.length by omega,List.take_length] at hd;show pure s=pure (dd s);rw[hd]
   | succ d ih=>
    intro k hk h1 hd;obtain⟨x,hx⟩:∃ x,s[k]?=some x:=⟨_,List.getElem?_eq_getElem (by omega)⟩
    obtain⟨y,hy⟩:∃ y,s[k - 1]?=some y:=⟨_,List.getElem?_eq_getElem (by omega)⟩
    have hlast:(dd (s.take k)).getLast?=some y:=by
     rw[zxa];have:=zDa hy
     rwa [show k - 1+1=k by omega] at this
    have hc:decide ((k:Int) < (s.length:Int))=true:=by simp;omega
    have i1:idx s (k:Int)=pure x:=zJ hx;have i2:idx s (IntKind.i64.wrap ((k:Int) - 1))=pure y:=by
     rw[Wp (by omega) (by omega)];exact Xy (by omega) (by rw[show((k:Int) - 1).toNat=k - 1 by omega];exact hy)
    by_cases c:x=y
    ·subst c;obtain⟨kk,v,h5,h6,h7,h8⟩:=VZ s k (by omega) hl d 1 k s (by omega) (by omega) rfl (by omega) (by
      rw[XH hx,jO,ddS,if_pos hlast,hd]) (by rw[show k+1 - 1=k by omega])
     rw[yL (r:=.ret (dd s)) (by
      unfold zm;simp only[hc,cond_true,i1,i2,zA,zCa,decide_true];rw[zC (by omega),show(1:Int)=((1:Nat):Int) from rfl,h5,zA];simp only[];rw[zC (by omega),zC (by simp;omega),zC (by
       simp only[List.length_append,List.length_take,List.length_replicate,List.length_drop,Int.toNat_natCast];omega),zA,Jl]
      congr 3
      rw[Int.toNat_natCast,List.append_assoc,List.take_append_of_le_length (by rw[List.length_take];omega),List.take_take,Nat.min_self,h8])]
     rfl
    ·have c1:decide (x=y)=false:=decide_eq_false c;rw[yS (s':=((k+1:Nat):Int)) (by
      unfold zm;simp only[hc,cond_true,i1,i2,zA,zCa,c1,cond_false,Za,yH (show k < 9223372036854775807 by omega)])]
     refine ih (k+1) (by omega) (by omega) ?_;rw[XH hx,jO,ddS,if_neg (by rw[hlast];intro e;exact c (Option.some.inj e).symm),hd]
  have:=key (s.length - 1) 1 (by omega) (by omega) (by
   obtain⟨x,r,rfl⟩:∃ x r,s=x::r:=by
    cases s with
    | nil=>simp at h2
    | cons x r=>exact⟨x,r,rfl⟩
   rfl)
  exact this
theorem wfa{l:List DT}{Q:List DT->Prop}(h:∀ s,s.Perm l->(s.Pairwise fun x y=>zR y x=false)->Q s):(srt zR l).wp Q:=by
 refine⟨⟨l.mergeSort (fun x y=>!zR y x),List.mergeSort_perm _ _,?_⟩,fun s ⟨h1,h2⟩=>h s h1 h2⟩;refine(List.pairwise_mergeSort (fun a b c h1 h2=>?_) (fun a b=>?_) l).imp fun {x y} h=>by simpa using h
 ·simp only[Bool.not_eq_true'] at h1 h2 ⊢
  cases h3:zR c a with
  | false=>rfl
  | true=>
   rw[Vq] at h3;have h4:¬ (zR b a=true):=by simp[h1]
   have h5:¬ (zR c b=true):=by simp[h2]
   rw[Vq] at h4 h5;omega
 ·cases h1:zR b a with
  | false=>rfl
  | true=>rw[XG h1];rfl
theorem w4a(l:List DT)(h:l.length<=1000000000000):WX l=pure (Ze l):=by
 unfold WX;rw[qx l h,zB,zA,zC (by omega)];refine uk (wfa fun s hs hp=>?_);show(bind (det (zx s)) fun y8=>pure y8).wp _;rw[xMa s (by rw[hs.length_eq];exact h),zB,zA];exact zua (dd_srt hp) (UO l) fun d=>by rw[dd_mem,ZX];exact hs.mem_iff
theorem cmp16_eq(x y:Int):xX x y=pure (R.wga x y):=by
 unfold xX wH R.wga;simp only[decide_true,Bool.not_true,zB,zA,cond_false,yr]
 split
 ·rfl
 ·split <;> rfl
theorem w5a(a b:DT):WG a b=pure (V.Qo a b):=by
 unfold WG;rw[cmp16_eq,zB,zA,R.wha,zB,zA];unfold V.Qo R.wga
 cases a with | mk d n=>cases b with | mk e m=>
 simp only[DT.mk.injEq,zR]
 by_cases h1:d < e
 ·have:¬ d=e:=by omega
  simp[h1,this]
 ·by_cases h2:e < d
  ·have:¬ d=e:=by omega
   simp[h1,h2,this]
  ·have h3:d=e:=by omega
   subst h3
   by_cases h4:n < m
   ·have:¬ n=m:=by omega
    simp[h4,this]
   ·by_cases h5:m < n
    ·have:¬ n=m:=by omega
     simp[h4,h5,this]
    ·have:n=m:=by omega
     simp[this]
structure OkD(d:DT):Prop where
 d0:0<=d.dev
 d1:d.dev<=65535
 n0:0<=d.n
 n1:d.n<=18446744073709551615
def encD(d:DT):List Int:=N.jq d.dev++N.jq d.n
def w6a(l:List DT):List DT:=l.filter V.yD
def xNa(l:List DT):List Int:=N.jq (Ze (w6a l)).length++(Ze (w6a l)).flatMap encD
def encR(x:RN):List Int:=N.jq x.lo++N.jq x.hi
def encP(p:PT):List Int:=N.jq p.dev++(N.jq p.runs.length++p.runs.flatMap encR)
def encN(c:List PT):List Int:=N.jq c.length++c.flatMap encP
structure OkP(p:PT):Prop where
 d0:0<=p.dev
 d1:p.dev<=65535
 r:∀ x∈p.runs,(0<=x.lo/\x.lo<=18446744073709551615)/\0<=x.hi/\x.hi<=18446744073709551615
open N (RS Ok wb uK XF OkB Sim)
def bad4(c:Bool)(s:RS):RS:=if c=true then XF 4 s else s
def fin{α:Type}(z x:α)(t:RS):α×RS:=if t.2≠0 then (z,t) else (x,t)
theorem w7a{s:RS}(h:Ok s)(c:Bool):Ok (bad4 c s):=by unfold bad4;split;exact N.WQ h _;exact h
theorem zya{c:Bool}{s:RS}(h:(bad4 c s).2=0):c=false/\s.2=0/\bad4 c s=s:=by
 unfold bad4 at h ⊢
 cases c with
 | true=>exact absurd h (N.Ya (by decide))
 | false=>exact⟨rfl,h,rfl⟩
theorem fin_st{α:Type}(z x:α)(t:RS):(fin z x t).2=t:=by unfold fin;split <;> rfl
theorem w8a{α:Type}{z x:α}{t:RS}(h:t.2=0):fin z x t=(x,t):=if_neg (by simp[h])
theorem fin_bad{α:Type}{z x:α}{t:RS}(h:t.2≠0):fin z x t=(z,t):=if_pos h
theorem num_zero{s:RS}(h:(wb s).2.2≠0):(wb s).1=0:=by
 unfold wb at h ⊢
 by_cases c:s.2≠0
 ·rw[if_pos c]
 ·rw[if_neg c] at h ⊢
  by_cases c2:(N.rdN s.1).2.2≠0
  ·rw[if_pos c2]
  ·rw[if_neg c2] at h;exact absurd rfl h
theorem num_bad{s:RS}(h:s.2≠0):(wb s).2=s:=by rw[N.num_of h]
theorem zEa{s:RS}(h:(wb s).2.2=0):s.2=0:=Classical.byContradiction fun c=>by rw[num_bad c] at h;exact c h
theorem w9a{m:Int}{s:RS}(h:(uK m s).2.2=0):(wb s).2.2=0/\uK m s=wb s:=by
 unfold uK at h ⊢
 by_cases c:m < (wb s).1
 ·rw[if_pos c] at h;exact absurd h (N.Ya (by decide))
 ·rw[if_neg c] at h ⊢;exact⟨h,rfl⟩
def dotR(s:RS):DT:=⟨(uK 65535 s).1,(wb (uK 65535 s).2).1⟩
def dotT(s:RS):RS:=bad4 (!V.yD (dotR s)) (wb (uK 65535 s).2).2
def UP(s:RS):DT×RS:=fin ⟨0,0⟩ (dotR s) (dotT s)
theorem yma{s:RS}(h:Ok s):Ok (UP s).2/\OkD (UP s).1/\OkD (dotR s):=by
 obtain⟨h1,h2,h3⟩:=N.w0a h (m:=65535) (by decide);obtain⟨h4,h5,h6⟩:=N.Vp h1;have ht:Ok (dotT s):=w7a h4 _;have hr:OkD (dotR s):=⟨h2,h3,h5,h6⟩
 unfold UP
 by_cases c:(dotT s).2=0
 ·rw[w8a c];exact⟨ht,hr,hr⟩
 ·rw[fin_bad c];exact⟨ht,⟨Int.le_refl _,by simp,Int.le_refl _,by simp⟩,hr⟩
theorem vAa{s:RS}(h:(UP s).2.2=0):V.yD (UP s).1=true/\(uK 65535 s).2.2=0/\(wb (uK 65535 s).2).2.2=0/\UP s=(dotR s,(wb (uK 65535 s).2).2):=by
 unfold UP at h ⊢;rw[fin_st] at h;rw[w8a h];obtain⟨h1,h2,h3⟩:=zya h;refine⟨by simpa using h1,zEa h2,h2,?_⟩;show(dotR s,dotT s)=_;rw[show dotT s=(wb (uK 65535 s).2).2 from h3]
variable{B:List Int}{a:Int}{s:RS}
def vBa(out:List DT)(x:DT):Bool:=match out.getLast? with | some y=>decide (0<=V.Qo y x) | none=>false
def Va(out:List DT)(s:RS):RS:=bad4 (vBa out (UP s).1) (UP s).2
def zw : Nat->List DT->RS->List DT×RS
 | 0,out,s=>(out,s)
 | k+1,out,s=>if (Va out s).2≠0 then ([],Va out s) else zw k (out++[(UP s).1]) (Va out s)
def uZ(most:Int)(s:RS):List DT×RS:=if max most 0 < (wb s).1 then ([],XF 3 (wb s).2) else zw (wb s).1.toNat [] (wb s).2
theorem jP{k:Nat}{out:List DT}{s:RS}(h:(Va out s).2≠0):zw (k+1) out s=([],Va out s):=if_pos h
theorem Vb{k:Nat}{out:List DT}{s:RS}(h:(Va out s).2=0):zw (k+1) out s=zw k (out++[(UP s).1]) (Va out s):=if_neg (by simp[h])
theorem qy{s:RS}(h:Ok s)(out:List DT):Ok (Va out s):=w7a (yma h).1 _
theorem yna : ∀ (k:Nat) (out:List DT) (s:RS),Ok s->Ok (zw k out s).2
 | 0,_,_,h=>h
 | k+1,out,s,h=>by
  by_cases c:(Va out s).2=0
  ·rw[Vb c];exact yna k _ _ (qy h out)
  ·rw[jP c];exact qy h out
theorem qr{s:RS}(h:Ok s)(most:Int):Ok (uZ most s).2:=by
 have h1:=N.Vp h;unfold uZ
 split
 ·exact N.WQ h1.1 _
 ·exact yna _ _ _ h1.1
theorem dotsT_ok{out:List DT}{s:RS}(h:(Va out s).2=0):vBa out (UP s).1=false/\(UP s).2.2=0/\Va out s=(UP s).2:=zya h
open N (RS Ok wb uK XF OkB Sim)
variable{B:List Int}{a:Int}{s:RS}
open N (RS Ok wb uK XF OkB Sim)
def Yb : List DT->Bool
 | []=>true
 | x::r=>(match r with | []=>true | y::_=>zR x y)&&Yb r
theorem qz : ∀ {l:List DT},Yb l=true↔Srt l
 | []=>⟨fun _=>List.Pairwise.nil,fun _=>rfl⟩
 | [x]=>⟨fun _=>by simp[Srt],fun _=>rfl⟩
 | x::y::r=>by
  show(zR x y&&Yb (y::r))=true↔_;rw[Bool.and_eq_true,qz (l:=y::r)];unfold Srt;rw[List.pairwise_cons (a:=x)]
  constructor
  ·rintro⟨h1,h2⟩;refine⟨fun z hz=>?_,h2⟩;rcases List.mem_cons.1 hz with rfl | hz
   ·exact h1
   ·exact Xj h1 ((List.pairwise_cons.1 h2).1 z hz)
  ·rintro⟨h1,h2⟩;exact⟨h1 y (by simp),h2⟩
theorem vCa(x y:DT):decide (0<=V.Qo x y)=!zR x y:=by
 by_cases h:zR x y=true
 ·have:=V.Xg.2 h;rw[h];simp;omega
 ·have h2:¬ V.Qo x y < 0:=fun e=>h (V.Xg.1 e)
  simp only[Bool.not_eq_true] at h;rw[h];simp;omega
theorem xOa(l:List DT)(hl:l.length<=1000000000000):VP l=pure (Yb l):=by
 unfold VP;have key:∀ (k i:Nat) (x:DT) (r:List DT),i+k=l.length->l.drop i=r->i≠0->l[i - 1]?=some x->loop (xj l) (i:Int)=pure (if Yb (x::r)=true then .brk () else .ret false):=by
  intro k
  induction k with
  | zero=>
   intro i x r hi hr h1 hx;have:r=[]:=by rw[<- hr];exact List.drop_eq_nil_of_le (by omega)
   subst this;exact yL (by
    unfold xj;have:decide ((i:Int) < (l.length:Int))=false:=by simp;omega
    simp only[this,cond_false];rfl)
  | succ k ih=>
   intro i x r hi hr h1 hx;have hlt:i < l.length:=by omega
   have hr2:r=l[i]::l.drop (i+1):=by rw[<- hr];exact List.drop_eq_getElem_cons hlt
   have hy:=List.getElem?_eq_getElem hlt;have hi1:idx l (IntKind.i64.wrap ((i:Int) - 1))=pure x:=by
    rw[Wp (by omega) (by omega)];exact Xy (by omega) (by rw[show((i:Int) - 1).toNat=i - 1 by omega];exact hx)
   have hb:xj l (i:Int)=cond (!zR x l[i]) (pure (.done (.ret false))) (pure (.next ((i+1:Nat):Int))):=by
    unfold xj;have:decide ((i:Int) < (l.length:Int))=true:=by simp;omega
    simp only[this,cond_true,hi1,zJ hy,zA,V.Xf,zB,vCa,yH (show i < 9223372036854775807 by omega)]
   rw[hr2];show _=(pure (if (zR x l[i]&&Yb (l[i]::l.drop (i+1)))=true then Ex.brk () else Ex.ret false):M (Ex Unit Bool))
   cases c:zR x l[i] with
   | true=>
    rw[c] at hb;rw[yS hb,Bool.true_and];exact ih (i+1) l[i] _ (by omega) rfl (by omega) hy
   | false=>
    rw[c] at hb;rw[yL hb];rfl
 cases l with
 | nil=>
  rw[yL (r:=.brk ()) (by unfold xj;rfl)];rfl
 | cons x r=>
  have:=key r.length 1 x r (by simp;omega) rfl (by decide) rfl;rw[show((1:Nat):Int)=1 from rfl] at this;rw[this,zA]
  cases Yb (x::r) <;> rfl
theorem zFa{l:List DT}(hs:Srt l)(h:∀ d∈l,V.yD d=true):Ze (w6a l)=l:=by
 have e:w6a l=l:=List.filter_eq_self.2 h;rw[e];exact w2a hs
open N (RS Ok wb uK XF OkB Sim)
theorem jQ{s:RS}(hO:Ok s)(h:(wb s).2.2=0):s.1=N.jq (wb s).1++(wb s).2.1:=by
 have h0:=zEa h;unfold wb at h ⊢;rw[if_neg (by simp[h0])] at h ⊢
 by_cases c:(N.rdN s.1).2.2=0
 ·rw[if_neg (by simp[c])];exact N.rdN_one hO.by_ c
 ·rw[if_pos c] at h;exact absurd h (N.Ya c)
theorem upto_inv{s:RS}(hO:Ok s){m:Int}(h:(uK m s).2.2=0):s.1=N.jq (uK m s).1++(uK m s).2.1:=by
 obtain⟨h1,h2⟩:=w9a h;rw[h2];exact jQ hO h1
theorem vDa{s:RS}(hO:Ok s)(h:(UP s).2.2=0):s.1=encD (UP s).1++(UP s).2.1:=by
 obtain⟨_,h1,h2,h3⟩:=vAa h;have e1:=upto_inv hO h1;have e2:=jQ (N.w0a hO (m:=65535) (by decide)).1 h2;rw[h3];show s.1=(N.jq (uK 65535 s).1++N.jq (wb (uK 65535 s).2).1)++_;rw[List.append_assoc,<- e2];exact e1
theorem zGa : ∀ (k:Nat) (out:List DT) (s:RS),Ok s->s.2=0->Srt out->(∀ d∈out,V.yD d=true)->(zw k out s).2.2=0->∃ l,(zw k out s).1=out++l/\l.length=k/\s.1=l.flatMap encD++(zw k out s).2.1/\Srt (out++l)/\(∀ d∈out++l,V.yD d=true)/\∀ d∈l,OkD d
 | 0,out,s,_,_,hs,hg,_=>⟨[],by simp[zw],rfl,by simp[zw],by simpa using hs,by simpa using hg,by simp⟩
 | k+1,out,s,hO,h0,hs,hg,h=>by
  by_cases c:(Va out s).2=0
  ·obtain⟨c1,c2,c3⟩:=dotsT_ok c;rw[Vb c] at h ⊢;have hgd:=(vAa c2).1;have hs2:Srt (out++[(UP s).1]):=by
    unfold Srt;rw[List.pairwise_append];refine⟨hs,by simp,fun a ha b hb=>?_⟩;rw[List.mem_singleton.1 hb];rcases R.xl out with rfl | ⟨q,y,rfl⟩
    ·simp at ha
    ·have hy:zR y (UP s).1=true:=by
      unfold vBa at c1;simp only[List.getLast?_append,List.getLast?_singleton,Option.some_or,vCa] at c1;simpa using c1
     rcases List.mem_append.1 ha with h5 | h5
     ·exact Xj ((List.pairwise_append.1 hs).2.2 a h5 y (by simp)) hy
     ·rw[List.mem_singleton.1 h5];exact hy
   obtain⟨l,e1,e2,e3,e4,e5,e6⟩:=zGa k _ _ (qy hO out) c hs2 (fun d hd=>by
    rcases List.mem_append.1 hd with h5 | h5
    ·exact hg d h5
    ·rw[List.mem_singleton.1 h5];exact hgd) h
   refine⟨(UP s).1::l,by rw[e1];simp,by simp[e2],?_,by simpa using e4,by simpa using e5,fun d hd=>?_⟩
   ·rw[List.flatMap_cons,List.append_assoc,<- e3,c3];exact vDa hO c2
   ·rcases List.mem_cons.1 hd with rfl | h5
    ·exact(yma hO).2.1
    ·exact e6 d h5
  ·rw[jP c] at h;exact absurd h c
theorem yoa{s:RS}(hO:Ok s){most:Int}(h:(uZ most s).2.2=0):s.1=xNa (uZ most s).1++(uZ most s).2.1/\Srt (uZ most s).1/\(∀ d∈(uZ most s).1,V.yD d=true/\OkD d)/\((uZ most s).1.length:Int)<=max most 0:=by
 obtain⟨h1,h2,h3⟩:=N.Vp hO;unfold uZ at h ⊢
 by_cases c:max most 0 < (wb s).1
 ·rw[if_pos c] at h;exact absurd h (N.Ya (by decide))
 ·rw[if_neg c] at h ⊢;have c2:(wb s).2.2=0:=Classical.byContradiction fun c2=>by
   rw[num_zero c2] at h;exact c2 h
  obtain⟨l,e1,e2,e3,e4,e5,e6⟩:=zGa _ [] _ h1 c2 List.Pairwise.nil (by simp) h;rw[List.nil_append] at e1 e4 e5;rw[e1];refine⟨?_,e4,fun d hd=>⟨e5 d hd,e6 d hd⟩,by omega⟩;rw[xNa,zFa e4 e5,List.append_assoc,<- e3,e2,Int.toNat_of_nonneg h2];exact jQ hO c2
theorem dots_bad{s:RS}{most:Int}(h:(uZ most s).2.2≠0):(uZ most s).1=[]:=by
 have hL:∀ (k:Nat) (out:List DT) (s:RS),s.2=0\/out=[]->(zw k out s).2.2≠0->(zw k out s).1=[]:=by
  intro k
  induction k with
  | zero=>
   intro out s h1 h2;rcases h1 with h1 | h1
   ·exact absurd h1 h2
   ·exact h1
  | succ k ih=>
   intro out s _ h2
   by_cases c:(Va out s).2=0
   ·rw[Vb c] at h2 ⊢;exact ih _ _ (.inl c) h2
   ·rw[jP c]
 unfold uZ at h ⊢
 split at h
 ·rename_i c;rw[if_pos c]
 ·rename_i c;rw[if_neg c];exact hL _ _ _ (.inr rfl) h
end Go.Ep.M.D
namespace Go.Ep.M.E
open Go
theorem Zv(s:ByteArray):(wd s).length=s.size:=by simp[wd]
theorem zHa(l:List Int):(strL l).data.toList=l.map fun n=>UInt8.ofNat n.toNat:=by
 have key:∀ (l:List Int) (r:ByteArray),(l.foldl (fun r n=>r.push (UInt8.ofNat n.toNat)) r).data.toList=r.data.toList++l.map fun n=>UInt8.ofNat n.toNat:=by
  intro l
  induction l with
  | nil=>intro r;simp
  | cons x t ih=>intro r;rw[List.foldl_cons,ih];simp
 have:=key l ByteArray.empty;simpa[strL] using this
theorem xPa{l:List Int}(h:N.By l):wd (strL l)=l:=by
 rw[wd,zHa,List.map_map];apply List.ext_getElem?;intro i;rw[List.getElem?_map]
 cases hx:l[i]? with
 | none=>rfl
 | some x=>
  have:=h x (List.mem_of_getElem? hx);simp only[Option.map_some,Function.comp_apply,UInt8.toNat_ofNat']
  congr 1;omega
theorem jR(l:List Int):(strL l).size=l.length:=by
 have:=congrArg List.length (zHa l);simpa using this
def cidD(v:Int):DT:=⟨v / 281474976710656,v % 281474976710656⟩
theorem band48{v:Int}(h0:0<=v)(h:v<=18446744073709551615):xua .u64 v 281474976710655=v % 281474976710656:=by
 obtain⟨n,rfl⟩:=Int.eq_ofNat_of_zero_le h0;unfold xua;have bv:∀ q:Nat,q < 18446744073709551616->(BitVec.ofInt IntKind.u64.bits (q:Int)).toNat=q:=fun q hq=>by
  show(BitVec.ofInt 64 (q:Int)).toNat=q;rw[BitVec.toNat_ofInt];omega
 have e:(281474976710655:Int)=((281474976710655:Nat):Int):=rfl;rw[e,BitVec.toNat_and,bv n (by omega),bv _ (by decide)];have h2:n &&& 281474976710655=n % 281474976710656:=Nat.and_two_pow_sub_one_eq_mod n 48;rw[h2,qK (by omega) (by omega)];omega
theorem Split_eq{v:Int}(h0:0<=v)(h:v<=18446744073709551615):YH v=pure ((cidD v).dev,(cidD v).n):=by
 unfold YH cidD;have e:(2 ^ 48:Int)=281474976710656:=rfl;rw[band48 h0 h,Int.fdiv_eq_ediv_of_nonneg _ (by decide),e,wU16 (by omega) (by omega)]
theorem vEa{v:Int}(h0:0<=v)(h:v<=18446744073709551615):Uw v=pure ((cidD v).dev,(cidD v).n):=by
 unfold Uw cidD;rw[Int.tdiv_eq_ediv_of_nonneg h0,Int.tmod_eq_emod_of_nonneg h0,qK (by omega) (by omega),wU16 (by omega) (by omega)]
def jS(v:Int):Bool:=V.yD (cidD v)
theorem vFa{v:Int}(h0:0<=v)(h:v<=18446744073709551615):XO v=pure (if jS v=true then cidD v else ⟨0,0⟩,jS v):=by
 unfold XO;rw[Split_eq h0 h,zB,zA,V.WO,zB,zA];show cond (!jS v) _ _=_
 cases jS v <;> rfl
theorem xQa{v:Int}(h0:0<=v)(h:v<=18446744073709551615):VO v=pure (if jS v=true then cidD v else ⟨0,0⟩,jS v):=by
 unfold VO;rw[vEa h0 h,zB,zA,V.ZA,zB,zA];show cond (!jS v) _ _=_
 cases jS v <;> rfl
def zIa(f:Int):Bool:=decide (1<=f)&&decide (f<=5)
theorem Field_eq(f:Int):XP f=pure (zIa f):=by unfold XP zIa;rw[zd];rfl
theorem vGa(f:Int):qM f=pure (zIa f):=by unfold qM zIa;rw[zd];rfl
def okB(x:Int):Bool:=decide (32<=x)&&decide (x<=126)
def QA(s:ByteArray):Bool:=decide (s.size<=60)&&(wd s).all okB
theorem Vc{α:Type}(l:List α)(p:α->Bool):(l.zipIdx.all fun y=>p y.1)=l.all p:=by
 rw[Bool.eq_iff_iff,List.all_eq_true,List.all_eq_true]
 constructor
 ·intro h x hx;obtain⟨i,hi⟩:=List.getElem?_of_mem hx;exact h (x,i) (by rw[List.mk_mem_zipIdx_iff_getElem?];exact hi)
 ·intro h y hy;exact h y.1 (List.fst_mem_of_mem_zipIdx hy)
theorem okB_eq(x:Int)(f:M Bool)(hf:f=pure (decide (126 < x))):(cond (decide (x < 32)) (pure true) f:M Bool)=pure (!okB x):=by
 rw[hf];unfold okB
 by_cases h1:x < 32
 ·have:¬ 32<=x:=by omega
  simp[h1,this]
 ·have:32<=x:=by omega
  by_cases h2:126 < x
  ·have:¬ x<=126:=by omega
   simp[h1,h2,this]
  ·have:x<=126:=by omega
   simp[h1,h2, *]
theorem vHa(s:ByteArray)(hs:s.size<=1000000000000):loop (wq s) 0=pure (if (wd s).all okB=true then Ex.brk () else Ex.ret false):=by
 have:=uJ (body:=wq s) (wd s) (fun i=>(i:Int)) (fun _ x=>okB x) (Ex.brk ()) (Ex.ret false) (fun i x hx hi=>by
  have hd:decide ((i:Int) < (s.size:Int))=true:=by rw[<- Zv];simpa using hi
  have hi2:i < s.size:=by rw[<- Zv];exact hi
  unfold wq;simp only[hd,cond_true,zJ hx,zA,okB_eq x _ rfl,yH (show i < 9223372036854775807 by omega)]
  cases okB x <;> rfl) (by
  unfold wq;simp[Zv])
 rw[show(0:Int)=((0:Nat):Int) from rfl,this,Vc]
theorem xRa(s:ByteArray)(hs:s.size<=1000000000000):loop (ux s) 0=pure (if (wd s).all okB=true then Ex.brk () else Ex.ret false):=by
 have:=uJ (body:=ux s) (wd s) (fun i=>(i:Int)) (fun _ x=>okB x) (Ex.brk ()) (Ex.ret false) (fun i x hx hi=>by
  have hd:decide ((i:Int) < (s.size:Int))=true:=by rw[<- Zv];simpa using hi
  have hi2:i < s.size:=by rw[<- Zv];exact hi
  unfold ux;simp only[hd,cond_true,zJ hx,zA,okB_eq x _ rfl,yH (show i < 9223372036854775807 by omega)]
  cases okB x <;> rfl) (by
  unfold ux;simp[Zv])
 rw[show(0:Int)=((0:Nat):Int) from rfl,this,Vc]
theorem Text_eq(s:ByteArray)(hs:s.size<=1000000000000):XQ s=pure (QA s):=by
 unfold XQ QA;rw[vHa s hs]
 by_cases h:s.size<=60
 ·have:decide ((60:Int) < (s.size:Int))=false:=by simp;omega
  rw[this,cond_false,zA,decide_eq_true h,Bool.true_and]
  cases (wd s).all okB <;> rfl
 ·have:decide ((60:Int) < (s.size:Int))=true:=by simp;omega
  rw[this,cond_true,decide_eq_false h,Bool.false_and]
theorem rText_eq(s:ByteArray)(hs:s.size<=1000000000000):qO s=pure (QA s):=by
 unfold qO QA;rw[xRa s hs,zA]
 cases (wd s).all okB with
 | false=>rw[Bool.and_false];rfl
 | true=>
  rw[if_pos rfl,Za,Bool.and_true]
  congr 1
  by_cases h:s.size<=60
  ·rw[decide_eq_true h];simp;omega
  ·rw[decide_eq_false h];simp;omega
structure OkE(e:EV):Prop where
 dot:D.OkD e.dot
 kind:0<=e.kind/\e.kind<=255
 cid:0<=e.cid/\e.cid<=18446744073709551615
 field:0<=e.field/\e.field<=255
 text:e.text.size<=1000000000
 kills:∀ d∈e.kills,D.OkD d
 klen:e.kills.length<=1000000000
def zJa(s:ByteArray):Bool:=decide (s=⟨#[]⟩)
def vIa(e:EV):Bool:=(decide (e.kind=1)&&(zIa e.field&&QA e.text))||(decide (e.kind=2)&&(decide (e.field=0)&&zJa e.text))
def xSa(e:EV):Bool:=decide (e.kills.length<=256)&&(D.Yb e.kills&&e.kills.all fun d=>V.yD d&&!decide (d=e.dot))
def yJ(e:EV):Bool:=(jS e.cid&&V.yD e.dot)&&(vIa e&&xSa e)
theorem vJa(l:List DT)(hl:l.length<=1000000000000):XR l=pure (D.Yb l):=by
 unfold XR;have key:∀ (k i:Nat) (x:DT) (r:List DT),i+k=l.length->l.drop i=r->i≠0->l[i - 1]?=some x->loop (xC l) (i:Int)=pure (if D.Yb (x::r)=true then Ex.brk () else Ex.ret false):=by
  intro k
  induction k with
  | zero=>
   intro i x r hi hr h1 hx;have:r=[]:=by rw[<- hr];exact List.drop_eq_nil_of_le (by omega)
   subst this;exact yL (by
    unfold xC;have:decide ((i:Int) < (l.length:Int))=false:=by simp;omega
    simp only[this,cond_false];rfl)
  | succ k ih=>
   intro i x r hi hr h1 hx;have hlt:i < l.length:=by omega
   have hr2:r=l[i]::l.drop (i+1):=by rw[<- hr];exact List.drop_eq_getElem_cons hlt
   have hy:=List.getElem?_eq_getElem hlt;have hi1:idx l (IntKind.i64.wrap ((i:Int) - 1))=pure x:=by
    rw[Wp (by omega) (by omega)];exact Xy (by omega) (by rw[show((i:Int) - 1).toNat=i - 1 by omega];exact hx)
   have hb:xC l (i:Int)=cond (!zR x l[i]) (pure (.done (.ret false))) (pure (.next ((i+1:Nat):Int))):=by
    unfold xC;have h2:decide ((i:Int) < (l.length:Int))=true:=by simp;omega
    have h3:decide ((0:Int) < (i:Int))=true:=by simp;omega
    simp only[h2,h3,cond_true,hi1,zJ hy,zA,D.w5a,zB,D.vCa,yH (show i < 9223372036854775807 by omega)]
   rw[hr2];show _=(pure (if (zR x l[i]&&D.Yb (l[i]::l.drop (i+1)))=true then Ex.brk () else Ex.ret false):M (Ex Unit Bool))
   cases c:zR x l[i] with
   | true=>
    rw[c] at hb;rw[yS hb,Bool.true_and];exact ih (i+1) l[i] _ (by omega) rfl (by omega) hy
   | false=>
    rw[c] at hb;rw[yL hb];rfl
 cases l with
 | nil=>
  rw[yL (r:=Ex.brk ()) (by unfold xC;rfl)];rfl
 | cons x r=>
  have h0:xC (x::r) 0=pure (.next 1):=by
   unfold xC;have h2:decide ((0:Int) < ((x::r).length:Int))=true:=decide_eq_true (by rw[List.length_cons];omega);simp only[h2,cond_true,show decide ((0:Int) < 0)=false from rfl,cond_false,zA];rw[Wp (by omega) (by omega)]
   rfl
  have:=key r.length 1 x r (by simp;omega) rfl (by decide) rfl;rw[show((1:Nat):Int)=1 from rfl] at this;rw[yS h0,this,zA]
  cases D.Yb (x::r) <;> rfl
theorem xTa(e:EV)(hl:e.kills.length<=1000000000000):loop (wv e) 0=pure (if (e.kills.all fun d=>V.yD d&&!decide (d=e.dot))=true then Ex.brk () else Ex.ret false):=by
 have:=uJ (body:=wv e) e.kills (fun i=>(i:Int)) (fun _ d=>V.yD d&&!decide (d=e.dot)) (Ex.brk ()) (Ex.ret false) (fun i x hx hi=>by
  have hd:decide ((i:Int) < (e.kills.length:Int))=true:=by simpa using hi
  unfold wv;simp only[hd,cond_true,zJ hx,zA,V.WO,zB,D.zCa,yH (show i < 9223372036854775807 by omega)]
  cases V.yD x <;> cases decide (x=e.dot) <;> rfl) (by
  unfold wv;simp)
 rw[show(0:Int)=((0:Nat):Int) from rfl,this,Vc e.kills fun d=>V.yD d&&!decide (d=e.dot)]
theorem YZ{e:EV}(h:OkE e):ue e=pure (yJ e):=by
 have hk:=h.klen;have ht:=h.text;unfold ue yJ;rw[vFa h.cid.1 h.cid.2,zB,zA,V.WO,zB,zA,xTa e (by omega),vJa e.kills (by omega),Field_eq,Text_eq e.text (by omega)];simp only[]
 cases jS e.cid with
 | false=>rfl
 | true=>
  cases V.yD e.dot with
  | false=>rfl
  | true=>
   have hl:decide ((256:Int) < (e.kills.length:Int))=!decide (e.kills.length<=256):=by
    by_cases c:e.kills.length<=256
    ·rw[decide_eq_true c];simp;omega
    ·rw[decide_eq_false c];simp;omega
   have tail:(cond (decide ((256:Int) < (e.kills.length:Int))) (pure true) ((det (pure (D.Yb e.kills))).bind fun v23=>pure (!v23))).bind (fun v21=>cond v21 (pure false) ((pure (if (e.kills.all fun d=>V.yD d&&!decide (d=e.dot))=true then Ex.brk () else Ex.ret false)).bind (exk fun _=>pure true)))=pure (xSa e):=by
    unfold xSa;rw[hl,zB,zA]
    cases decide (e.kills.length<=256) with
    | false=>rfl
    | true=>
     cases D.Yb e.kills with
     | false=>rfl
     | true=>cases e.kills.all fun d=>V.yD d&&!decide (d=e.dot) <;> rfl
   simp only[Bool.not_true,cond_false,zA,zB,Bool.true_and] at tail ⊢;unfold vIa zJa
   by_cases k1:e.kind=1
   ·have k2:decide (e.kind=2)=false:=by rw[k1];rfl
    rw[decide_eq_true k1,cond_true,k2,Bool.true_and,Bool.false_and,Bool.or_false]
    cases zIa e.field with
    | false=>rfl
    | true=>
     cases QA e.text with
     | false=>rfl
     | true=>exact tail
   ·rw[decide_eq_false k1,cond_false,Bool.false_and,Bool.false_or]
    by_cases k2:e.kind=2
    ·rw[decide_eq_true k2,cond_true,Bool.true_and]
     cases decide (e.field=0) with
     | false=>rfl
     | true=>
      cases decide (e.text=(⟨#[]⟩:ByteArray)) with
      | false=>rfl
      | true=>exact tail
    ·rw[decide_eq_false k2];rfl
theorem VY(l:List DT)(d:DT)(hl:l.length<=1000000000000):Uv l d=pure (l.any fun x=>decide (x=d)):=by
 unfold Uv;have:=uJ (body:=Xd l d) l (fun i=>(i:Int)) (fun _ x=>!decide (x=d)) (Ex.brk ()) (Ex.ret true) (fun i x hx hi=>by
  have hd:decide ((i:Int) < (l.length:Int))=true:=by simpa using hi
  unfold Xd;simp only[hd,cond_true,zJ hx,zA,D.zCa,yH (show i < 9223372036854775807 by omega)]
  cases decide (x=d) <;> rfl) (by
  unfold Xd;simp)
 rw[show(0:Int)=((0:Nat):Int) from rfl,this,zA,Vc l fun x=>!decide (x=d)];have e:(l.any fun x=>decide (x=d))=!(l.all fun x=>!decide (x=d)):=by simp[List.all_eq_not_any_not]
 rw[e]
 cases l.all fun x=>!decide (x=d) <;> rfl
theorem xUa(e:EV)(hl:e.kills.length<=1000000000000):loop (uy e) 0=pure (if e.kills.all V.yD=true then Ex.brk () else Ex.ret false):=by
 have:=uJ (body:=uy e) e.kills (fun i=>(i:Int)) (fun _ d=>V.yD d) (Ex.brk ()) (Ex.ret false) (fun i x hx hi=>by
  have hd:decide ((i:Int) < (e.kills.length:Int))=true:=by simpa using hi
  unfold uy;simp only[hd,cond_true,zJ hx,zA,V.ZA,zB,yH (show i < 9223372036854775807 by omega)]
  cases V.yD x <;> rfl) (by
  unfold uy;simp)
 rw[show(0:Int)=((0:Nat):Int) from rfl,this,Vc e.kills V.yD]
theorem UQ{e:EV}(h:OkE e):UI e=pure (yJ e):=by
 have hk:=h.klen;have ht:=h.text;unfold UI yJ;rw[xQa h.cid.1 h.cid.2,zB,zA,V.ZA,zB,zA,xUa e (by omega),D.xOa e.kills (by omega),vGa,rText_eq e.text (by omega),VY e.kills e.dot (by omega)];simp only[]
 cases jS e.cid with
 | false=>rfl
 | true=>
  cases V.yD e.dot with
  | false=>rfl
  | true=>
   have hl:decide ((e.kills.length:Int)<=256)=decide (e.kills.length<=256):=by
    by_cases c:e.kills.length<=256
    ·rw[decide_eq_true c];simp;omega
    ·rw[decide_eq_false c];simp;omega
   have hall:(e.kills.all fun d=>V.yD d&&!decide (d=e.dot))=(e.kills.all V.yD&&!(e.kills.any fun x=>decide (x=e.dot))):=by
    rw[Bool.eq_iff_iff,Bool.and_eq_true,List.all_eq_true,List.all_eq_true,Bool.not_eq_true',List.any_eq_false]
    constructor
    ·intro h;exact⟨fun x hx=>by have:=h x hx;rw[Bool.and_eq_true] at this;exact this.1,fun x hx=>by have:=h x hx;rw[Bool.and_eq_true] at this;simpa using this.2⟩
    ·rintro⟨h1,h2⟩ x hx;rw[Bool.and_eq_true];exact⟨h1 x hx,by simpa using h2 x hx⟩
   have tail:((pure (if e.kills.all V.yD=true then Ex.brk () else Ex.ret false):M (Ex Unit Bool)).bind (exk fun _=>(cond (decide ((e.kills.length:Int)<=256)) ((det (pure (D.Yb e.kills))).bind fun v46=>cond v46 ((det (pure (e.kills.any fun x=>decide (x=e.dot)))).bind fun v49=>pure (!v49)) (pure false)) (pure false)).bind fun v44=>pure v44))=pure (xSa e):=by
    unfold xSa;rw[hl,hall];simp only[zB,zA]
    cases e.kills.all V.yD with
    | false=>cases decide (e.kills.length<=256) <;> cases D.Yb e.kills <;> rfl
    | true=>cases decide (e.kills.length<=256) <;> cases D.Yb e.kills <;> cases e.kills.any fun x=>decide (x=e.dot) <;> rfl
   simp only[Bool.not_true,cond_false,zA,zB,Bool.true_and] at tail ⊢;unfold vIa zJa
   by_cases k1:e.kind=1
   ·have k2:decide (e.kind=2)=false:=by rw[k1];rfl
    rw[decide_eq_true k1,k2];simp only[Bool.not_true,cond_false,cond_true,zA,Bool.true_and,Bool.false_and,Bool.or_false]
    cases zIa e.field with
    | false=>rfl
    | true=>
     cases QA e.text with
     | false=>rfl
     | true=>exact tail
   ·rw[decide_eq_false k1];simp only[Bool.not_false,cond_true,zA,Bool.false_and,Bool.false_or]
    by_cases k2:e.kind=2
    ·rw[decide_eq_true k2];simp only[Bool.not_true,cond_false,cond_true,Bool.true_and]
     cases decide (e.field=0) with
     | false=>rfl
     | true=>
      cases decide (e.text=(⟨#[]⟩:ByteArray)) with
      | false=>rfl
      | true=>exact tail
    ·rw[decide_eq_false k2];rfl
def encT(s:ByteArray):List Int:=N.jq s.size++wd s
def encE(e:EV):List Int:=D.encD e.dot++([e.kind]++(N.jq e.cid++([e.field]++(encT e.text++D.xNa e.kills))))
open N (RS Ok wb uK Yh WP XF OkB Sim)
open D (bad4 fin)
def s1(s:RS):RS:=(D.UP s).2
def s2(s:RS):RS:=(Yh (s1 s)).2
def s3(s:RS):RS:=(wb (s2 s)).2
def s4(s:RS):RS:=(Yh (s3 s)).2
def s5(s:RS):RS:=(WP 60 (s4 s)).2
def s6(s:RS):RS:=(D.uZ 256 (s5 s)).2
def getE(s:RS):EV:=⟨(D.UP s).1,(Yh (s1 s)).1,(wb (s2 s)).1,(Yh (s3 s)).1,(WP 60 (s4 s)).1,(D.uZ 256 (s5 s)).1⟩
def noE : EV:=⟨⟨0,0⟩,0,0,0,⟨#[]⟩,[]⟩
def getT(s:RS):RS:=bad4 (!yJ (getE s)) (s6 s)
def vW(s:RS):EV×RS:=fin noE (getE s) (getT s)
theorem vKa{s:RS}(h:Ok s)(m:Int):(WP m s).1.size<=1000000000:=by
 have h1:=(N.Vp h).1.len;unfold WP
 split
 ·exact(by decide:(0:Nat)<=1000000000)
 ·split
  ·exact(by decide:(0:Nat)<=1000000000)
  ·split
   ·exact(by decide:(0:Nat)<=1000000000)
   ·rw[jR,List.length_take];omega
theorem dots_okD{s:RS}(h:Ok s)(most:Int):(∀ d∈(D.uZ most s).1,D.OkD d)/\(D.uZ most s).1.length<=1000000000:=by
 by_cases c:(D.uZ most s).2.2=0
 ·obtain⟨e1,e2,e3,e4⟩:=D.yoa h c;have hl:=congrArg List.length e1;have hs:=h.len;have h9:(D.Ze (D.w6a (D.uZ most s).1))=(D.uZ most s).1:=D.zFa e2 fun d hd=>(e3 d hd).1
  have h8:∀ l:List DT,l.length<=(l.flatMap D.encD).length:=by
   intro l
   induction l with
   | nil=>simp
   | cons x t ih=>
    have:1<=(D.encD x).length:=by rw[D.encD,List.length_append,N.jq,N.encN,List.length_cons];omega
    rw[List.flatMap_cons,List.length_append,List.length_cons];omega
  have h7:=h8 (D.uZ most s).1;refine⟨fun d hd=>(e3 d hd).2,?_⟩;rw[List.length_append,D.xNa,h9,List.length_append] at hl;omega
 ·rw[D.dots_bad c];simp
theorem ok_get{s:RS}(h:Ok s):Ok (s1 s)/\Ok (s2 s)/\Ok (s3 s)/\Ok (s4 s)/\Ok (s5 s)/\Ok (s6 s)/\OkE (getE s):=by
 have o1:Ok (s1 s):=(D.yma h).1;have o2:=N.w1a o1;have o3:=N.Vp (s:=s2 s) o2.1;have o4:=N.w1a (s:=s3 s) o3.1;have o5:=N.ok_text (s:=s4 s) o4.1 60;have o6:=D.qr (s:=s5 s) o5 256;obtain⟨k1,k2⟩:=dots_okD (s:=s5 s) o5 256;exact⟨o1,o2.1,o3.1,o4.1,o5,o6,(D.yma h).2.1,o2.2,o3.2,o4.2,vKa (s:=s4 s) o4.1 60,k1,k2⟩
variable{B:List Int}{a:Int}{s:RS}
theorem vLa{s:RS}(h:(Yh s).2.2=0):s.2=0/\s.1=(Yh s).1::(Yh s).2.1:=by
 unfold Yh at h ⊢
 by_cases c:s.2≠0
 ·rw[if_pos c] at h;exact absurd h c
 ·rw[if_neg c] at h ⊢
  cases hs:s.1 with
  | nil=>rw[hs] at h;exact absurd h (N.Ya (by decide))
  | cons x r=>exact⟨Classical.byContradiction c,rfl⟩
theorem text_ok{m:Int}{s:RS}(hO:Ok s)(h:(WP m s).2.2=0):(wb s).2.2=0/\s.1=encT (WP m s).1++(WP m s).2.1/\((WP m s).1.size:Int)<=max m 0:=by
 obtain⟨k1,k2,k3⟩:=N.Vp hO;unfold WP at h ⊢
 by_cases c:(wb s).2.2≠0
 ·rw[if_pos c] at h;exact absurd h c
 ·rw[if_neg c] at h ⊢
  by_cases c2:max m 0 < (wb s).1
  ·rw[if_pos c2] at h;exact absurd h (N.Ya (by decide))
  ·rw[if_neg c2] at h ⊢
   by_cases c3:((wb s).2.1.length:Int) < (wb s).1
   ·rw[if_pos c3] at h;exact absurd h (N.Ya (by decide))
   ·rw[if_neg c3];have hz:(wb s).2.2=0:=Classical.byContradiction c;refine⟨hz,?_,?_⟩
    ·show s.1=(N.jq ((strL _).size:Int)++wd (strL _))++_;rw[jR,xPa (k1.by_.take _),List.length_take,show((min (wb s).1.toNat (wb s).2.1.length:Nat):Int)=(wb s).1 by omega,List.append_assoc,List.take_append_drop];exact D.jQ hO hz
    ·show((strL _).size:Int)<=_;rw[jR,List.length_take];omega
theorem get_inv{s:RS}(hO:Ok s)(h:(vW s).2.2=0):s.2=0/\yJ (vW s).1=true/\OkE (vW s).1/\s.1=encE (vW s).1++(vW s).2.1:=by
 obtain⟨o1,o2,o3,o4,o5,o6,oe⟩:=ok_get hO;unfold vW at h ⊢;rw[D.fin_st] at h;rw[D.w8a h];obtain⟨g1,g2,g3⟩:=D.zya (c:=!yJ (getE s)) (s:=s6 s) h;have i6:=D.yoa o5 g2;have z5:(s5 s).2=0:=Classical.byContradiction fun c=>by
  have:(D.uZ 256 (s5 s)).2.2≠0:=by
   have hn:=N.num_of c;unfold D.uZ;rw[hn];rw[if_neg (by show ¬ max 256 0 < (0:Int);omega)];exact c
  exact this g2
 obtain⟨z5',i5,_⟩:=text_ok (m:=60) o4 z5;have z4:=D.zEa z5';obtain⟨z3,i4⟩:=vLa (s:=s3 s) z4;have i3:=D.jQ o2 z3;have z2:=D.zEa z3;obtain⟨z1,i2⟩:=vLa (s:=s1 s) z2;have i1:=D.vDa hO z1;have z0:s.2=0:=D.zEa (D.w9a (D.vAa z1).2.1).1;refine⟨z0,by simpa using g1,oe,?_⟩;show s.1=encE (getE s)++(getT s).1;rw[show getT s=s6 s from g3];show s.1=(D.encD (D.UP s).1++([(Yh (s1 s)).1]++(N.jq (wb (s2 s)).1++([(Yh (s3 s)).1]++(encT (WP 60 (s4 s)).1++D.xNa (D.uZ 256 (s5 s)).1)))))++(s6 s).1;simp only[List.append_assoc];have j6:(s5 s).1=D.xNa (D.uZ 256 (s5 s)).1++(s6 s).1:=i6.1;have j5:(s4 s).1=encT (WP 60 (s4 s)).1++(s5 s).1:=i5;have j4:(s3 s).1=[(Yh (s3 s)).1]++(s4 s).1:=i4;have j3:(s2 s).1=N.jq (wb (s2 s)).1++(s3 s).1:=i3;have j2:(s1 s).1=[(Yh (s1 s)).1]++(s2 s).1:=i2;have j1:s.1=D.encD (D.UP s).1++(s1 s).1:=i1;rw[<- j6,<- j5,<- j4,<- j3,<- j2];exact j1
theorem uM{s:RS}(hO:Ok s)(h:(vW s).2.2=0):(vW s).2.1.length+1<=s.1.length:=by
 have:=(get_inv hO h).2.2.2;have hl:=congrArg List.length this;have:1<=(encE (vW s).1).length:=by simp only[encE,List.length_append,List.length_singleton];omega
 rw[List.length_append] at hl;omega
open N (RS Ok wb uK Yh WP XF OkB Sim)
open D (bad4 fin)
variable{B:List Int}{a:Int}{s:RS}
abbrev wn(l:List EV):Prop:=l.Pairwise fun x y=>zR x.dot y.dot=true
theorem QB(e:EV)(h:e.kills.length<=1000000000000):yy e=pure e:=by
 unfold yy;rw[D.qx _ h,zB,zA]
def e4 : EV:=⟨⟨0,0⟩,0,0,0,⟨#[101]⟩,[]⟩
end Go.Ep.M.E
namespace Go.Ep.M.F
open Go
open E (OkE yJ)
def uC(l:List DT)(d:DT):Bool:=l.any fun x=>decide (x=d)
theorem Vo(l:List DT)(d:DT)(hl:l.length<=1000000000000):Jq l d=pure (uC l d):=by
 unfold Jq yu xS;have:=loopF (body:=yQ l d) l (fun i=>(i:Int)) (fun _ x=>decide (x=d)) (fun i _=>Ex.ret (i:Int)) (pure (Ex.brk ())) (fun i x hx hi=>by
  have hd:decide ((i:Int) < (l.length:Int))=true:=by simpa using hi
  unfold yQ;simp only[hd,cond_true,zJ hx,zA,D.zCa,yH (show i < 9223372036854775807 by omega),yr,eq_comm (a:=d) (b:=x),decide_eq_true_eq]) (by
  unfold yQ;simp[zA])
 rw[show(0:Int)=((0:Nat):Int) from rfl,this];have hf:(l.zipIdx.find? fun y=>decide (y.1=d)).isSome=uC l d:=by
  rw[List.isSome_find?];unfold uC;rw[Bool.eq_iff_iff,List.any_eq_true,List.any_eq_true]
  constructor
  ·rintro⟨y,hy,h⟩;exact⟨y.1,List.fst_mem_of_mem_zipIdx hy,h⟩
  ·rintro⟨x,hx,h⟩;obtain⟨i,hi⟩:=List.getElem?_of_mem hx;exact⟨(x,i),by rw[List.mk_mem_zipIdx_iff_getElem?];exact hi,h⟩
 rw[<- hf]
 cases l.zipIdx.find? fun y=>decide (y.1=d) with
 | none=>simp only[zA,zB,Za];rfl
 | some y=>simp only[zA,zB,Jl];simp
def vS(l:List EV)(d:DT):Bool:=l.any fun e=>uC e.kills d
theorem Dead_eq(l:List EV)(d:DT)(hl:l.length<=1000000000000)(hk:∀ e∈l,e.kills.length<=1000000000000):XS l d=pure (vS l d):=by
 unfold XS;have:=uJ (body:=uR l d) l (fun i=>(i:Int)) (fun _ x=>!uC x.kills d) (Ex.brk ()) (Ex.ret true) (fun i x hx hi=>by
  have hd:decide ((i:Int) < (l.length:Int))=true:=by simpa using hi
  unfold uR WH;simp only[hd,cond_true,zJ hx,zA,Vo x.kills d (hk x (List.mem_of_getElem? hx)),zB,yH (show i < 9223372036854775807 by omega)]
  cases uC x.kills d <;> rfl) (by
  unfold uR;simp)
 rw[show(0:Int)=((0:Nat):Int) from rfl,this,zA,E.Vc l fun x=>!uC x.kills d];have e:vS l d=!(l.all fun x=>!uC x.kills d):=by simp[vS,List.all_eq_not_any_not]
 rw[e]
 cases l.all fun x=>!uC x.kills d <;> rfl
def zKa(l:List DT)(c:List PT):List DT:=D.Ze (l.filter fun d=>!C.yb c d.dev d.n)
theorem Drop_eq(l : List DT)(c : List PT)(hl : l.length<=1000000000)(hc : C.Sm c) : XT l c=pure (zKa l c) := by
  unfold XT VI;have := Zd (body := uS l c false) l (fun i t => ((i : Int), t)) (fun t d => if C.yb c d.dev d.n=true then t else t++[d]) (fun t => pure t) (fun i t => t.length<=i) (fun i x t hx hi hI => by
    have hd : decide ((i : Int) < (l.length : Int))=true := by simpa using hi
    refine ⟨?_, by split
                   · omega
                   · simp; omega⟩
    unfold uS;simp only[hd, cond_true, zJ hx, zA, C.Vo c x hc, zB, yH (show i < 9223372036854775807 by omega)]
    by_cases c : C.yb c x.dev x.n=true
    · rw[c, show(true==false)=false from rfl, cond_false, zA, if_pos rfl]
    · simp only[Bool.not_eq_true] at c;rw[c, show(false==false)=true from rfl, cond_true, zC (by simp; omega), zA]; rfl) (fun t _ => by
    unfold uS;simp[zA]) [] (by simp)
  have key : ∀ (l t : List DT), l.foldl (fun t d => if C.yb c d.dev d.n=true then t else t++[d]) t=t++l.filter fun d => !C.yb c d.dev d.n := by
    intro l
    induction l with
    | nil => intro t; simp
    | cons x r ih =>
      intro t;rw[List.foldl_cons, ih]
      by_cases h : C.yb c x.dev x.n=true
      · rw[if_pos h, List.filter_cons, if_neg (by simp[h])]
      · rw[if_neg h, List.filter_cons, if_pos (by simp[h]), List.append_assoc]; rfl
  rw[show(0 : Int)=((0 : Nat) : Int) from rfl, this, zA, key, List.nil_append, D.w4a _ (by have := List.length_filter_le (fun d : DT => !C.yb c d.dev d.n) l; omega), zB, zA, zB, zA, zKa]
def zw(l:List EV):List DT:=l.flatMap fun e=>e.dot::e.kills
def yE(l:List EV):List DT:=D.Ze (zw l)
theorem vR(l:List EV)(k:Nat)(h:∀ e∈l,e.kills.length<=k):(zw l).length<=l.length*(k+1):=by
 induction l with
 | nil=>simp[zw]
 | cons e r ih=>
  have h1:=ih fun x hx=>h x (by simp[hx])
  have h2:=h e (by simp);have e1:(zw (e::r)).length=e.kills.length+1+(zw r).length:=by simp[zw];omega
  rw[e1,List.length_cons,Nat.add_mul];omega
theorem jT{l:List EV}{i:Nat}{x:EV}(h:l[i]?=some x):zw (l.take (i+1))=zw (l.take i)++x.dot::x.kills:=by
 rw[List.take_add_one,h];simp[zw]
theorem zLa(l:List EV)(i:Nat):(zw (l.take i)).length<=(zw l).length:=by
 have:zw l=zw (l.take i)++zw (l.drop i):=by unfold zw;rw[<- List.flatMap_append,List.take_append_drop]
 rw[this,List.length_append];omega
theorem jU(l:List EV)(hl:l.length<=1000000000)(hs:(zw l).length<=1000000000):vc l=pure (yE l):=by
 unfold vc;have key:∀ (k i:Nat),i+k=l.length->loop (uQ l) ((i:Int),zw (l.take i))=pure (zw l):=by
  intro k
  induction k with
  | zero=>
   intro i hi;refine yL ?_;unfold uQ;have:decide ((i:Int) < (l.length:Int))=false:=by simp;omega
   simp only[this,cond_false];rw[List.take_of_length_le (by omega)]
  | succ k ih=>
   intro i hi;obtain⟨x,hx⟩:∃ x,l[i]?=some x:=⟨_,List.getElem?_eq_getElem (by omega)⟩
   have hd:decide ((i:Int) < (l.length:Int))=true:=by simp;omega
   have h1:=zLa l (i+1);rw[jT hx,List.length_append,List.length_cons] at h1;rw[yS (s':=(((i+1:Nat):Int),zw (l.take (i+1)))) ?_]
   ·exact ih (i+1) (by omega)
   ·unfold uQ;simp only[hd,cond_true,zJ hx,zA,yH (show i < 9223372036854775807 by omega)];rw[zC (by simp;omega),zC (by simp;omega),jT hx,List.append_assoc];rfl
 have:=key l.length 0 (by omega);rw[show zw (l.take 0)=[] from rfl] at this;rw[show(0:Int)=((0:Nat):Int) from rfl,this,zA,D.w4a _ (by omega),zB,zA,yE]
theorem rdots_in(l:List EV){i:Nat}{x:EV}(hx:l[i]?=some x)(hk:x.kills.length<=1000000000)(s:List DT)(hs:s.length<=1000000000):loop (uz l (i:Int)) (s,0)=pure (x.kills.foldl D.zva s):=by
 have:=Zd (body:=uz l (i:Int)) x.kills (fun k t=>(t,(k:Int))) D.zva (fun t=>pure t) (fun k t=>t.length<=1000000000+k) (fun k d t hd hi hI=>by
  have hc:decide ((k:Int) < (x.kills.length:Int))=true:=by simpa using hi
  refine⟨?_,by have:=D.zwa t d;omega⟩;unfold uz;simp only[zJ hx,zA,hc,cond_true,zJ hd,D.w3a t d (by omega),zB,yH (show k < 9223372036854775807 by omega)]) (fun t _=>by
  unfold uz;simp[zJ hx,zA]) s (by omega)
 exact this
theorem QC(l:List EV)(hl:l.length<=1000000)(hk:∀ e∈l,e.kills.length<=300):Wr l=pure (yE l):=by
 unfold Wr;have key:∀ (k i:Nat),i+k=l.length->loop (YS l) (D.Ze (zw (l.take i)),(i:Int))=pure (yE l):=by
  intro k
  induction k with
  | zero=>
   intro i hi;refine yL ?_;unfold YS;have:decide ((i:Int) < (l.length:Int))=false:=by simp;omega
   simp only[this,cond_false];rw[List.take_of_length_le (by omega)];rfl
  | succ k ih=>
   intro i hi;obtain⟨x,hx⟩:∃ x,l[i]?=some x:=⟨_,List.getElem?_eq_getElem (by omega)⟩
   have hd:decide ((i:Int) < (l.length:Int))=true:=by simp;omega
   have h1:=zLa l i;have h2:=vR l 300 hk;have h3:=D.qw (zw (l.take i));have h4:=D.zwa (D.Ze (zw (l.take i))) x.dot;have h5:=hk x (List.mem_of_getElem? hx);rw[yS (s':=(D.Ze (zw (l.take (i+1))),((i+1:Nat):Int))) ?_]
   ·exact ih (i+1) (by omega)
   ·unfold YS;simp only[hd,cond_true,zJ hx,zA,D.w3a _ x.dot (show(D.Ze (zw (l.take i))).length<=1000000000000 by omega),zB,rdots_in l hx (show x.kills.length<=1000000000 by omega) _ (show(D.zva (D.Ze (zw (l.take i))) x.dot).length<=1000000000 by omega),yH (show i < 9223372036854775807 by omega)];rw[jT hx];unfold D.Ze;rw[List.foldl_append];rfl
 have:=key l.length 0 (by omega);rw[show D.Ze (zw (l.take 0))=[] from rfl] at this;rw[show(0:Int)=((0:Nat):Int) from rfl,this,zA]
def Ye(l:List EV)(i:Nat)(x:EV):Bool:=decide (0 < i)&&match l[i - 1]? with | some y=>decide (0<=V.Qo y.dot x.dot) | none=>false
theorem vMa{β:Type}{l:List EV}{i:Nat}{x:EV}(hi:i < l.length)(hl:l.length<=1000000000)(f:DT->DT->M Int)(hf:∀ a b,f a b=pure (V.Qo a b))(K:Bool->M β) :
  (cond (decide (0 < (i:Int))) ((idx l (IntKind.i64.wrap ((i:Int) - 1))).bind fun y=>(det (f y.dot x.dot)).bind fun v=>K (decide (0<=v))) (K false))=K (Ye l i x):=by
 unfold Ye
 by_cases h:0 < i
 ·obtain⟨y,hy⟩:∃ y,l[i - 1]?=some y:=⟨_,List.getElem?_eq_getElem (by omega)⟩
  have e:IntKind.i64.wrap ((i:Int) - 1)=((i - 1:Nat):Int):=by rw[Wp (by omega) (by omega)];omega
  have hd:decide (0 < (i:Int))=true:=by simp;omega
  rw[hd,cond_true,e,zJ hy,zA,hf,zB,zA,decide_eq_true h,Bool.true_and,hy]
 ·have hd:decide (0 < (i:Int))=false:=by simp;omega
  rw[hd,cond_false,decide_eq_false h,Bool.false_and]
def bad1(d:DL)(i:Nat)(e:EV):Bool:=!yJ e||(Ye d.events i e||(C.yb d.from_ e.dot.dev e.dot.n||(decide (e.kind=1)&&vS d.events e.dot)))
def ZY(d:DL):Bool:=decide (d.from_=C.zU d.from_)&&(decide (d.to_=C.zU d.to_)&&(decide (C.opC (fun x y=>x&&!y) d.from_ d.to_=[])&&(decide (d.events.length<=4096)&&((d.events.zipIdx.all fun y=>!bad1 d y.2 y.1)&&decide (zKa (yE d.events) d.to_=[])))))
structure OkD(d:DL):Prop where
 from_:C.Ok d.from_
 to_:C.Ok d.to_
 evs:∀ e∈d.events,OkE e
 len:d.events.length<=1000000
 kills:∀ e∈d.events,e.kills.length<=300
theorem nil_dec{α:Type}[DecidableEq α](l:List α):decide ((l.length:Int)=0)=decide (l=[]):=by
 cases l with
 | nil=>rfl
 | cons x r=>simp;omega
theorem xVa{d:DL}(h:OkD d):loop (vA d) 0=pure (if (d.events.zipIdx.all fun y=>!bad1 d y.2 y.1)=true then Ex.brk () else Ex.ret false):=by
 have hl:=h.len;have:=uJ (body:=vA d) d.events (fun i=>(i:Int)) (fun i x=>!bad1 d i x) (Ex.brk ()) (Ex.ret false) (fun i x hx hi=>by
  have hd:decide ((i:Int) < (d.events.length:Int))=true:=by simpa using hi
  have hm:=List.mem_of_getElem? hx;have hp:=fun(K:Bool->M (Step Int (Ex Unit Bool)))=>vMa (x:=x) hi (by omega) WG D.w5a K
  unfold vA;simp only[hd,cond_true,zJ hx,zA,E.YZ (h.evs x hm),C.Vo d.from_ x.dot h.from_.sm,Dead_eq d.events x.dot (by omega) (fun e he=>by have:=h.kills e he;omega),zB,yH (show i < 9223372036854775807 by omega)];have hp:=vMa (x:=x) hi (by omega) WG D.w5a (fun b=>(pure b:M Bool));rw[hp];unfold bad1;simp only[zA]
  cases yJ x with
  | false=>rfl
  | true=>
   cases C.yb d.from_ x.dot.dev x.dot.n with
   | true=>cases Ye d.events i x <;> rfl
   | false=>
    cases Ye d.events i x with
    | true=>rfl
    | false=>
     cases decide (x.kind=1) with
     | false=>rfl
     | true=>cases vS d.events x.dot <;> rfl) (by
  unfold vA;simp)
 rw[show(0:Int)=((0:Nat):Int) from rfl,this]
theorem len_dec(l:List EV):decide ((4096:Int) < (l.length:Int))=!decide (l.length<=4096):=by
 by_cases c:l.length<=4096
 ·rw[decide_eq_true c];simp;omega
 ·rw[decide_eq_false c];simp;omega
theorem dlen{d:DL}(h:OkD d):(zw d.events).length<=1000000000:=by have:=vR d.events 300 h.kills;have:=h.len;omega
theorem QD{d:DL}(h:OkD d):XU d=pure (ZY d):=by
 have h1:=h.len;have h2:=dlen h;have h3:(yE d.events).length<=1000000000:=Nat.le_trans (D.qw _) h2;unfold XU ZY;rw[xVa h];simp only[C.YZ _ h.from_.sm,C.YZ _ h.to_.sm,C.Qy _ _ h.from_.sm h.to_.sm,jU d.events (by omega) h2,Drop_eq _ _ h3 h.to_.sm,zB,zA,len_dec,nil_dec]
 cases decide (d.from_=C.zU d.from_) with
 | false=>rfl
 | true=>
  cases decide (d.to_=C.zU d.to_) with
  | false=>rfl
  | true=>
   cases decide (C.opC (fun x y=>x&&!y) d.from_ d.to_=[]) with
   | false=>rfl
   | true=>
    cases decide (d.events.length<=4096) with
    | false=>rfl
    | true=>cases d.events.zipIdx.all fun y=>!bad1 d y.2 y.1 <;> rfl
open E (OkE yJ)
set_option maxHeartbeats 4000000 in
theorem eSame_eq(a b:EV)(h:a.kills.length<=1000000000000):XV a b=pure (decide (a=b)):=by
 unfold XV;rw[D.zCa,V.zoa a.kills b.kills h,zB,zA];have e:decide (a=b)=(decide (a.dot=b.dot)&&(decide (a.kind=b.kind)&&(decide (a.cid=b.cid)&&(decide (a.field=b.field)&&(decide (a.text=b.text)&&decide (a.kills=b.kills)))))):=by
  cases a;cases b;simp only[EV.mk.injEq,Bool.decide_and]
 rw[e]
 cases decide (a.dot=b.dot) <;> cases decide (a.kind=b.kind) <;> cases decide (a.cid=b.cid) <;> cases decide (a.field=b.field) <;> cases decide (a.text=b.text) <;> rfl
theorem eAll_eq(a b:List EV)(ha:a.length<=1000000000000)(hk:∀ e∈a,e.kills.length<=1000000000000):Wb a b=pure (decide (a=b)):=by
 unfold Wb zW
 by_cases hlen:a.length=b.length
 ·have h1:decide ((a.length:Int)=(b.length:Int))=true:=by simp[hlen]
  rw[h1,Bool.not_true,cond_false];have:=uJ (body:=zK a b) a (fun i=>(i:Int)) (fun i x=>decide (b[i]?=some x)) (Ex.brk ()) (Ex.ret false) (fun i x hx hi=>by
   have hd:decide ((i:Int) < (a.length:Int))=true:=by simpa using hi
   obtain⟨y,hy⟩:∃ y,b[i]?=some y:=⟨_,List.getElem?_eq_getElem (by omega)⟩
   unfold zK;simp only[hd,cond_true,zJ hx,zJ hy,zA,eSame_eq x y (hk x (List.mem_of_getElem? hx)),zB,yH (show i < 9223372036854775807 by omega),hy]
   by_cases c:x=y
   ·subst c;simp
   ·have:¬ some y=some x:=fun e=>c (Option.some.inj e).symm
    simp[c,this]) (by
   unfold zK;simp)
  rw[show(0:Int)=((0:Nat):Int) from rfl,this,zA];have e:(a.zipIdx.all fun y=>decide (b[y.2]?=some y.1))=decide (a=b):=by
   rw[Bool.eq_iff_iff,List.all_eq_true,decide_eq_true_eq]
   constructor
   ·intro h;apply List.ext_getElem?;intro i
    by_cases hi:i < a.length
    ·have:=h (a[i],i) (by rw[List.mem_zipIdx_iff_getElem?];exact List.getElem?_eq_getElem hi);simp only[decide_eq_true_eq] at this;rw[this,List.getElem?_eq_getElem hi]
    ·rw[List.getElem?_eq_none (by omega),List.getElem?_eq_none (by omega)]
   ·rintro rfl y hy;rw[List.mem_zipIdx_iff_getElem?] at hy;simpa using hy
  rw[e]
  cases decide (a=b) <;> simp[zB,exk,zA]
 ·have h1:decide ((a.length:Int)=(b.length:Int))=false:=by simp;omega
  have h2:decide (a=b)=false:=decide_eq_false fun e=>hlen (by rw[e])
  rw[h1,Bool.not_false,cond_true,zB,zA,h2]
end Go.Ep.M.F

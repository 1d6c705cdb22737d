/- Side texts. -/
import Derived.Test.YtmjhkhdnbenhfaaGreatDoorABk3
import Derived.Test.YtmjhkhdnbenhfaaGreatDoorABk10
set_option linter.unusedVariables false
set_option linter.unusedSimpArgs false
namespace Go.Ep.M.C
open Go
def yk(c:List PT)(k:Int):List RN:=(c.filter fun p=>decide (p.dev=k)&&decide (0 < k)).flatMap (·.runs)
theorem zHa(k:Int):yk [] k=[]:=rfl
theorem YT(p:PT)(c:List PT)(k:Int):yk (p::c) k=(if p.dev=k/\0 < k then p.runs else [])++yk c k:=by
 unfold yk;rw[List.filter_cons]
 by_cases h:p.dev=k/\0 < k
 ·simp[h.1,h.2]
 ·rw[if_neg (by simpa using h),if_neg h];rfl
theorem Vn(a b:List PT)(k:Int):yk (a++b) k=yk a k++yk b k:=by simp[yk,List.filter_append]
theorem zIa{c:List PT}{k:Int}(h:¬ 0 < k):yk c k=[]:=by simp[yk,h]
def Zv(c:List PT)(k n:Int):Bool:=R.yT (yk c k) n
theorem hasC_app(a b:List PT)(k n:Int):Zv (a++b) k n=(Zv a k n||Zv b k n):=by simp[Zv,Vn,R.uj]
def yw(c:List PT):Nat:=(c.map fun p=>p.runs.length).sum
theorem zJa(a b:List PT):yw (a++b)=yw a+yw b:=by simp[yw]
theorem vX(c:List PT)(k:Int):(yk c k).length<=yw c:=by
 induction c with
 | nil=>simp[yk]
 | cons p r ih=>
  rw[YT,List.length_append];have:yw (p::r)=p.runs.length+yw r:=by simp[yw]
  split
  ·omega
  ·simp;omega
theorem zKa(ks:List Int):(ks.map fun _=>0).sum=0:=by
 induction ks with
 | nil=>rfl
 | cons k r ih=>rw[List.map_cons,List.sum_cons,ih]
theorem rawC_sum(c:List PT)(ks:List Int)(h:ks.Nodup):(ks.map fun k=>(yk c k).length).sum<=yw c:=by
 induction c with
 | nil=>simp only[zHa,List.length_nil,zKa];exact Nat.zero_le _
 | cons p r ih=>
  have e:yw (p::r)=p.runs.length+yw r:=by simp[yw]
  have h1:(ks.map fun k=>(yk (p::r) k).length).sum=(ks.map fun k=>if p.dev=k/\0 < k then p.runs.length else 0).sum+(ks.map fun k=>(yk r k).length).sum:=by
   clear h ih
   induction ks with
   | nil=>rfl
   | cons k ks ih2=>
    simp only[List.map_cons,List.sum_cons,YT,List.length_append] at ih2 ⊢
    by_cases hc:p.dev=k/\0 < k
    ·rw[if_pos hc,if_pos hc];omega
    ·rw[if_neg hc,if_neg hc,List.length_nil];omega
  have h2:(ks.map fun k=>if p.dev=k/\0 < k then p.runs.length else 0).sum<=p.runs.length:=by
   clear ih h1 e
   induction ks with
   | nil=>simp
   | cons k ks ih2=>
    obtain⟨n1,n2⟩:=List.nodup_cons.1 h;simp only[List.map_cons,List.sum_cons]
    by_cases hk:p.dev=k
    ·have h0:(ks.map fun k=>if p.dev=k/\0 < k then p.runs.length else 0).sum=0:=by
      have:(ks.map fun k=>if p.dev=k/\0 < k then p.runs.length else 0)=ks.map fun _=>0:=by
       refine List.map_congr_left fun q hq=>?_
       rw[if_neg];rintro⟨e,_⟩;exact n1 (by rw[<- hk,e];exact hq)
      rw[this];exact zKa ks
     rw[h0]
     split <;> omega
    ·rw[if_neg (fun h=>hk h.1)];have:=ih2 n2;omega
  omega
def OrdP(l:List PT):Prop:=l.Pairwise fun x y=>x.dev < y.dev
theorem jU : ∀ {l l':List PT},OrdP l->OrdP l'->(∀ d,d∈l↔d∈l')->l=l'
 | [],[],_,_,_=>rfl
 | [],y::r,_,_,h=>absurd ((h y).2 (by simp)) (by simp)
 | x::r,[],_,_,h=>absurd ((h x).1 (by simp)) (by simp)
 | x::r,y::q,h1,h2,h=>by
  obtain⟨a1,a2⟩:=List.pairwise_cons.1 h1;obtain⟨b1,b2⟩:=List.pairwise_cons.1 h2;have e:x=y:=by
   rcases List.mem_cons.1 ((h x).1 (by simp)) with e | hx
   ·exact e
   ·rcases List.mem_cons.1 ((h y).2 (by simp)) with e | hy
    ·exact e.symm
    ·have:=a1 y hy;have:=b1 x hx;omega
  subst e
  congr 1
  refine jU a2 b2 fun d=>⟨fun hd=>?_,fun hd=>?_⟩
  ·rcases List.mem_cons.1 ((h d).1 (List.mem_cons_of_mem _ hd)) with e | hx
   ·subst e;have:=a1 d hd;omega
   ·exact hx
  ·rcases List.mem_cons.1 ((h d).2 (List.mem_cons_of_mem _ hd)) with e | hx
   ·subst e;have:=b1 d hd;omega
   ·exact hx
def yU(f:Int->List RN)(ks:List Int):List PT:=ks.filterMap fun k=>if f k=[] then none else some ⟨k,f k⟩
theorem vn{f:Int->List RN}{ks:List Int}{p:PT}:p∈yU f ks↔p.dev∈ks/\p.runs≠[]/\p.runs=f p.dev:=by
 unfold yU;rw[List.mem_filterMap]
 constructor
 ·rintro⟨k,hk,h⟩
  split at h
  ·cases h
  ·rename_i h0;cases h;exact⟨hk,h0,rfl⟩
 ·rintro⟨h1,h2,h3⟩;refine⟨p.dev,h1,?_⟩;rw[if_neg (by rw[<- h3];exact h2),<- h3]
theorem vo{f:Int->List RN}{ks:List Int}(h:ks.Pairwise (· < ·)):OrdP (yU f ks):=by
 unfold OrdP yU;rw[List.pairwise_filterMap];refine h.imp fun {a b} hab x hx y hy=>?_
 split at hx
 ·cases hx
 ·split at hy
  ·cases hy
  ·cases hx;cases hy;exact hab
theorem JT{f g:Int->List RN}{ks ls:List Int}(h1:ks.Pairwise (· < ·))(h2:ls.Pairwise (· < ·))(hf:∀ k,f k=g k)(h:∀ k,f k≠[]->(k∈ks↔k∈ls)):yU f ks=yU g ls:=by
 refine jU (vo h1) (vo h2) fun p=>?_
 rw[vn,vn]
 constructor
 ·rintro⟨a,b,c⟩;exact⟨(h _ (by rw[<- c];exact b)).1 a,b,by rw[c,hf]⟩
 ·rintro⟨a,b,c⟩;exact⟨(h _ (by rw[hf,<- c];exact b)).2 a,b,by rw[c,hf]⟩
theorem xla(f:Int->List RN)(ks:List Int):(yU f ks).length<=ks.length:=List.length_filterMap_le _ _
theorem xma(f:Int->List RN)(ks:List Int):yw (yU f ks)=(ks.map fun k=>(f k).length).sum:=by
 induction ks with
 | nil=>rfl
 | cons k ks ih=>
  have:yU f (k::ks)=(if f k=[] then [] else [⟨k,f k⟩])++yU f ks:=by
   unfold yU
   by_cases h:f k=[] <;> simp[h]
  rw[this,zJa,ih]
  by_cases h:f k=[] <;> simp[h,yw]
theorem JU{f:Int->List RN}{ks:List Int}(h:ks.Nodup)(k:Int):yk (yU f ks) k=if k∈ks/\0 < k then f k else []:=by
 induction ks with
 | nil=>simp[yU,yk]
 | cons q ks ih=>
  obtain⟨n1,n2⟩:=List.nodup_cons.1 h;have e:yU f (q::ks)=(if f q=[] then [] else [⟨q,f q⟩])++yU f ks:=by
   unfold yU
   by_cases h:f q=[] <;> simp[h]
  rw[e,Vn,ih n2]
  by_cases hq:q=k
  ·subst hq;rw[if_neg (fun(h:q∈ks/\0 < q)=>n1 h.1),List.append_nil]
   by_cases h0:f q=[]
   ·rw[if_pos h0,h0];simp[yk]
   ·rw[if_neg h0]
    by_cases hp:0 < q
    ·rw[if_pos ⟨List.mem_cons_self,hp⟩];simp[yk,hp]
    ·rw[if_neg (fun h=>hp h.2)];exact zIa hp
  ·have:yk (if f q=[] then [] else [(⟨q,f q⟩:PT)]) k=[]:=by
    by_cases h0:f q=[] <;> simp[h0,yk,hq]
   rw[this];have hm:(k∈q::ks)↔k∈ks:=by simp[Ne.symm hq]
   simp only[hm,List.nil_append]
def yYa(l:List Int)(p:PT):List Int:=if 0 < p.dev then V.Jy l p.dev else l
def Vo(c:List PT):List Int:=c.foldl yYa []
theorem Vi(c:List PT):∀ l:List Int,l.Pairwise (· < ·)->(c.foldl yYa l).Pairwise (· < ·)/\(∀ k,k∈c.foldl yYa l↔k∈l\/∃ p∈c,p.dev=k/\0 < k)/\(c.foldl yYa l).length<=l.length+c.length:=by
 induction c with
 | nil=>intro l h;simp[h]
 | cons p r ih=>
  intro l h;rw[List.foldl_cons]
  by_cases hp:0 < p.dev
  ·have e:yYa l p=V.Jy l p.dev:=by simp[yYa,hp]
   rw[e];obtain⟨h1,h2,h3⟩:=ih _ (V.ZX h p.dev);refine⟨h1,fun k=>?_,by have:=V.Vh l p.dev;simp;omega⟩;rw[h2,V.jS]
   constructor
   ·rintro((rfl | h4) | ⟨x,h4,h5⟩)
    ·exact .inr ⟨p,by simp,rfl,hp⟩
    ·exact .inl h4
    ·exact .inr ⟨x,by simp[h4],h5⟩
   ·rintro(h4 | ⟨x,h4,h5,h6⟩)
    ·exact .inl (.inr h4)
    ·rcases List.mem_cons.1 h4 with rfl | h4
     ·exact .inl (.inl h5.symm)
     ·exact .inr ⟨x,h4,h5,h6⟩
  ·have e:yYa l p=l:=by simp[yYa,hp]
   rw[e];obtain⟨h1,h2,h3⟩:=ih _ h;refine⟨h1,fun k=>?_,by simp;omega⟩;rw[h2]
   constructor
   ·rintro(h4 | ⟨x,h4,h5⟩)
    ·exact .inl h4
    ·exact .inr ⟨x,by simp[h4],h5⟩
   ·rintro(h4 | ⟨x,h4,h5,h6⟩)
    ·exact .inl h4
    ·rcases List.mem_cons.1 h4 with rfl | h4
     ·rw[h5] at hp;exact absurd h6 hp
     ·exact .inr ⟨x,h4,h5,h6⟩
theorem vF(c:List PT):(Vo c).Pairwise (· < ·):=(Vi c [] List.Pairwise.nil).1
theorem yZa{l:List Int}(h:l.Pairwise (· < ·)):l.Nodup:=h.imp fun {a b} h e=>by omega
theorem UZ(c:List PT):(Vo c).Nodup:=yZa (vF c)
theorem ww{c:List PT}{k:Int}:k∈Vo c↔(∃ p∈c,p.dev=k)/\0 < k:=by
 have:=(Vi c [] List.Pairwise.nil).2.1 k;unfold Vo;rw[this];simp only[List.not_mem_nil,false_or]
 constructor
 ·rintro⟨p,h1,h2,h3⟩;exact⟨⟨p,h1,h2⟩,h3⟩
 ·rintro⟨⟨p,h1,h2⟩,h3⟩;exact⟨p,h1,h2,h3⟩
theorem len_devs(c:List PT):(Vo c).length<=c.length:=by simpa[Vo] using (Vi c [] List.Pairwise.nil).2.2
theorem Zw{c:List PT}{k:Int}(h:yk c k≠[]):k∈Vo c:=by
 rw[ww];refine Classical.byContradiction fun hn=>h ?_
 unfold yk;have:(c.filter fun p=>decide (p.dev=k)&&decide (0 < k))=[]:=by
  rw[List.filter_eq_nil_iff];intro p hp;simp only[Bool.and_eq_true,decide_eq_true_eq];rintro⟨h1,h2⟩;exact hn ⟨⟨p,hp,h1⟩,h2⟩
 rw[this];rfl
def opC(op:Bool->Bool->Bool)(a b:List PT):List PT:=yU (fun k=>R.Zz op (yk a k) (yk b k)) (Vo (a++b))
def zh(c:List PT):List PT:=yU (fun k=>R.nrm (yk c k)) (Vo c)
theorem wYa{op:Bool->Bool->Bool}(h0:op false false=false):R.Zz op [] []=[]:=by
 have:=R.zo op h0 [] [];exact R.Vj this.1 trivial fun n=>by rw[this.2.1];exact h0
theorem JV : R.nrm []=[]:=wYa rfl
theorem has_opC{op:Bool->Bool->Bool}(h0:op false false=false)(a b:List PT)(k n:Int):Zv (opC op a b) k n=op (Zv a k n) (Zv b k n):=by
 unfold Zv opC;rw[JU (UZ _)]
 split
 ·rw[(R.zo op h0 _ _).2.1]
 ·rename_i h
  have e:yk a k=[]/\yk b k=[]:=by
   have h1:yk (a++b) k=[]:=Classical.byContradiction fun h2=>h ⟨Zw h2,(ww.1 (Zw h2)).2⟩
   rw[Vn] at h1;simpa using h1
  rw[e.1,e.2];show R.yT [] n=_;simp[R.yT,h0]
theorem yaa(c:List PT)(k n:Int):Zv (zh c) k n=Zv c k n:=by
 unfold Zv zh;rw[JU (UZ _)]
 split
 ·rw[R.vW]
 ·rename_i h
  have e:yk c k=[]:=Classical.byContradiction fun h2=>h ⟨Zw h2,(ww.1 (Zw h2)).2⟩
  rw[e]
structure Canon(c:List PT):Prop where
 ord:OrdP c
 nf:∀ p∈c,0 < p.dev/\p.runs≠[]/\R.Nf p.runs
theorem JW{f:Int->List RN}{c:List PT}(h:∀ k,R.Nf (f k)):Canon (yU f (Vo c)):=⟨vo (vF c),fun p hp=>by
 obtain⟨h1,h2,h3⟩:=vn.1 hp;exact⟨(ww.1 h1).2,h2,by rw[h3];exact h _⟩⟩
theorem canon_op{op:Bool->Bool->Bool}(h0:op false false=false)(a b:List PT):Canon (opC op a b):=JW fun _=>(R.zo op h0 _ _).1
theorem YU(c:List PT):Canon (zh c):=JW fun _=>R.XO _
theorem zLa : ∀ {c:List PT},OrdP c->∀ p∈c,0 < p.dev->yk c p.dev=p.runs
 | [],_,p,hp,_=>by simp at hp
 | q::r,h,p,hp,h0=>by
  obtain⟨h1,h2⟩:=List.pairwise_cons.1 h;rw[YT];rcases List.mem_cons.1 hp with rfl | hp
  ·rw[if_pos ⟨rfl,h0⟩];have:yk r p.dev=[]:=by
    unfold yk;have:(r.filter fun x=>decide (x.dev=p.dev)&&decide (0 < p.dev))=[]:=by
     rw[List.filter_eq_nil_iff];intro x hx;have:=h1 x hx;simp;omega
    rw[this];rfl
   rw[this,List.append_nil]
  ·have:=h1 p hp;rw[if_neg (by omega),zLa h2 p hp h0];rfl
theorem Canon.eq_norm{c:List PT}(h:Canon c):c=zh c:=by
 refine jU h.ord (YU c).ord fun p=>?_
 unfold zh;rw[vn]
 constructor
 ·intro hp;obtain⟨h1,h2,h3⟩:=h.nf p hp;exact⟨ww.2 ⟨⟨p,hp,rfl⟩,h1⟩,h2,by rw[zLa h.ord p hp h1,R.zEa h3]⟩
 ·rintro⟨h1,h2,h3⟩;obtain⟨⟨q,hq,hd⟩,h0⟩:=ww.1 h1;obtain⟨g1,g2,g3⟩:=h.nf q hq;have e:yk c p.dev=q.runs:=by rw[<- hd];exact zLa h.ord q hq g1
  rw[e,R.zEa g3] at h3;have:p=q:=by cases p;cases q;simp_all
  rw[this];exact hq
theorem usa{a b:List PT}(h:∀ k n,Zv a k n=Zv b k n):zh a=zh b:=by
 have hf:∀ k,R.nrm (yk a k)=R.nrm (yk b k):=fun k=>R.Vj (R.XO _) (R.XO _) fun n=>by rw[R.vW,R.vW];exact h k n
 refine JT (vF a) (vF b) hf fun k hk=>?_
 have ha:yk a k≠[]:=fun e=>hk (by rw[e];exact JV)
 have hb:yk b k≠[]:=fun e=>hk (by rw[hf,e];exact JV)
 exact⟨fun _=>Zw hb,fun _=>Zw ha⟩
theorem Canon.ext{a b:List PT}(ha:Canon a)(hb:Canon b)(h:∀ k n,Zv a k n=Zv b k n):a=b:=by rw[ha.eq_norm,hb.eq_norm];exact usa h
theorem vVa{c:List PT}(h:Canon c):zh c=c:=h.eq_norm.symm
theorem norm_or(a b:List PT):zh (a++b)=opC (·||·) a b:=(YU _).ext (canon_op rfl a b) fun k n=>by rw[yaa,hasC_app,has_opC rfl]
theorem ZZ(c:List PT):(zh c).length<=c.length:=Nat.le_trans (xla _ _) (len_devs c)
theorem sum_le{ks:List Int}{f g:Int->Nat}(h:∀ k,f k<=g k):(ks.map f).sum<=(ks.map g).sum:=by
 induction ks with
 | nil=>simp
 | cons k r ih=>have:=h k;simp;omega
theorem sum_two(ks:List Int)(f g:Int->Nat):(ks.map fun k=>2*(f k+g k)).sum=2*((ks.map f).sum+(ks.map g).sum):=by
 induction ks with
 | nil=>rfl
 | cons k r ih=>simp;omega
theorem Za(c:List PT):yw (zh c)<=2*yw c:=by
 unfold zh;rw[xma];refine Nat.le_trans (sum_le (g:=fun k=>2*((yk c k).length+0)) fun k=>by have:=R.ZY (yk c k);omega) ?_;rw[sum_two];have h1:=rawC_sum c (Vo c) (UZ _);have h2:=zKa (Vo c);omega
theorem get_grow(l:List (Int×List RN)):∀ (m:List (Int×List RN)) (k:Int),AL.getZ (AL.grow m l) k []=AL.getZ m k []++(l.filter fun x=>decide (x.1=k)).flatMap (·.2):=by
 induction l with
 | nil=>intro m k;simp[AL.grow]
 | cons x r ih=>
  intro m k;show AL.getZ (AL.grow (AL.set m x.1 (AL.getZ m x.1 []++x.2)) r) k []=_;rw[ih,AL.getZ_set,List.filter_cons]
  by_cases h:x.1=k
  ·subst h;simp
  ·simp[h]
theorem vWa(l:List (Int×List RN)):∀ m:List (Int×List RN),(m.map (·.1)).Nodup->((AL.grow m l).map (·.1)).Nodup:=by
 induction l with
 | nil=>intro m h;exact h
 | cons x r ih=>intro m h;exact ih _ (AL.nodup_set h _ _)
theorem len_grow(l:List (Int×List RN)):∀ m:List (Int×List RN),(AL.grow m l).length<=m.length+l.length:=by
 induction l with
 | nil=>intro m;exact Nat.le_refl _
 | cons x r ih=>
  intro m;have h1:=ih (AL.set m x.1 (AL.getZ m x.1 []++x.2));have h2:=AL.len_set m x.1 (AL.getZ m x.1 []++x.2);show(AL.grow (AL.set m x.1 (AL.getZ m x.1 []++x.2)) r).length<=_;simp only[List.length_cons];omega
theorem key_grow(l:List (Int×List RN)):∀ (m:List (Int×List RN)) (k:Int),k∈(AL.grow m l).map (·.1)->k∈m.map (·.1)\/∃ x∈l,x.1=k:=by
 induction l with
 | nil=>intro m k h;exact .inl h
 | cons x r ih=>
  intro m k h;rcases ih _ k h with h | ⟨y,hy,e⟩
  ·rw[AL.keys_set] at h
   split at h
   ·exact .inl h
   ·rcases List.mem_append.1 h with h | h
    ·exact .inl h
    ·exact .inr ⟨x,by simp,(List.mem_singleton.1 h).symm⟩
  ·exact .inr ⟨y,by simp[hy],e⟩
def uS(c:List PT):List (Int×List RN):=AL.grow [] (c.filterMap zr)
theorem vw(c:List PT)(k:Int):AL.getZ (uS c) k []=yk c k:=by
 unfold uS;rw[get_grow];show[]++_=_;rw[List.nil_append]
 induction c with
 | nil=>rfl
 | cons p r ih=>
  rw[YT,<- ih,List.filterMap_cons]
  by_cases h0:0 < p.dev
  ·have e:zr p=some (p.dev,p.runs):=by simp[zr,h0]
   rw[e];simp only[List.filter_cons]
   by_cases h:p.dev=k
   ·subst h;simp[h0]
   ·simp[h]
  ·have e:zr p=none:=by simp[zr,h0]
   rw[e,if_neg (by rintro⟨h1,h2⟩;omega)];rfl
theorem uv(c:List PT):((uS c).map (·.1)).Nodup:=vWa _ _ (by simp)
theorem wZa(c:List PT):(uS c).length<=c.length:=by
 have h1:=len_grow (c.filterMap zr) [];have h2:=List.length_filterMap_le zr c;unfold uS;simp at h1;omega
theorem told_pos{c:List PT}{k:Int}(h:k∈(uS c).map (·.1)):0 < k/\k∈Vo c:=by
 rcases key_grow _ _ _ h with h | ⟨x,hx,rfl⟩
 ·simp at h
 ·rw[List.mem_filterMap] at hx;obtain⟨p,hp,hx⟩:=hx;unfold zr at hx
  split at hx
  ·rename_i h0;cases hx;exact⟨h0,ww.2 ⟨⟨p,hp,rfl⟩,h0⟩⟩
  ·cases hx
theorem XE{c:List PT}{e:Int×List RN}(h:e∈uS c):e.2=yk c e.1/\0 < e.1/\e.1∈Vo c:=by
 have h1:=AL.mem_get (uv c) (k:=e.1) (v:=e.2) h;have h2:=vw c e.1;unfold AL.getZ at h2;rw[h1] at h2;exact⟨h2,told_pos (List.mem_map.2 ⟨e,h,rfl⟩)⟩
theorem uta{c:List PT}{k:Int}(h:yk c k≠[]):(k,yk c k)∈uS c:=by
 have h2:=vw c k;unfold AL.getZ at h2
 cases hg:AL.get (uS c) k with
 | none=>rw[hg] at h2;exact absurd h2.symm h
 | some v=>rw[hg] at h2;simp only[Option.getD_some] at h2;subst h2;exact AL.get_mem hg
theorem tot_told(c:List PT):((c.filterMap zr).map fun x=>x.2.length).sum<=yw c:=by
 induction c with
 | nil=>simp
 | cons p r ih=>
  have e:yw (p::r)=p.runs.length+yw r:=by simp[yw]
  rw[List.filterMap_cons]
  by_cases h0:0 < p.dev
  ·have e2:zr p=some (p.dev,p.runs):=by simp[zr,h0]
   rw[e2];simp only[List.map_cons,List.sum_cons];omega
  ·have e2:zr p=none:=by simp[zr,h0]
   rw[e2];simp only;omega
def Sm(c:List PT):Prop:=c.length<=10000000000/\yw c<=10000000000
theorem zMa(c:List PT)(h:Sm c):Yd c=pure (uS c):=by
 unfold Yd;rw[zH]
 ·rfl
 ·have:=tot_told c;refine⟨by have:=h.1;omega,?_⟩;have:=h.2;omega
theorem waa(m:List (Int×List RN))(f:Int->List RN)(ks:List Int)(hl:m.length<=1000000000000)(hr:∀ e∈m,e.2.length<=1000000000000)(hn:(m.map (·.1)).Nodup)(hs:ks.Pairwise (· < ·))(h1:∀ e∈m,R.nrm e.2≠[]->e.1∈ks/\R.nrm e.2=f e.1)(h2:∀ k∈ks,f k≠[]->∃ r,(k,r)∈m/\R.nrm r=f k):ZD m=pure (yU f ks):=by
 unfold ZD;have hall:∀ Q:List PT->Prop,(∀ l:List (Int×List RN),l.Perm m->Q ((l.filter fun e=>decide (R.nrm e.2≠[])).map fun e=>(⟨e.1,R.nrm e.2⟩:PT)))->(loop (Zo m) ([],([]:List PT))).wp Q:=by
  intro Q hQ;refine M.loopM (body:=Zo m) m (fun L (t:List PT)=>(L,t)) (fun t e=>(xr e.2).det.bind fun v=>if 0 < v.length then xg ((t.length+1)*32<=140737488355328) (pure (t++[(⟨e.1,v⟩:PT)])) else pure t) (fun t=>pure t)
   (fun l t=>t=((l.filter fun e=>decide (R.nrm e.2≠[])).map fun e=>(⟨e.1,R.nrm e.2⟩:PT))) Q (fun L t hL=>?_) (fun l t y ht hlen hy=>?_) (fun l t hp ht=>?_) [] rfl
  ·unfold Zo;show xg _ ((nxt _ _).bind _)=xg _ ((nxt _ _).bind _);refine congrArg (fun k=>xg _ ((nxt _ _).bind k)) (funext fun o=>?_)
   cases o with
   | none=>rfl
   | some i=>
    refine congrArg (fun k=>(idx m (Int.ofNat i)).bind k) (funext fun y=>?_);rw[qa];refine congrArg (fun k=>(xr y.2).det.bind k) (funext fun v=>?_);rw[wq]
    by_cases h:0 < v.length
    ·rw[if_pos (by omega),if_pos h];rfl
    ·rw[if_neg (by omega),if_neg h];rfl
  ·have hle:=List.length_filter_le (fun e:Int×List RN=>decide (R.nrm e.2≠[])) l;have htl:t.length<=l.length:=by rw[ht,List.length_map];exact hle
   rw[R.UY y.2 (hr y hy),zB,zA];refine⟨if R.nrm y.2=[] then t else t++[⟨y.1,R.nrm y.2⟩],?_,?_⟩
   ·by_cases h:R.nrm y.2=[]
    ·rw[if_neg (by rw[h];simp),if_pos h]
    ·rw[if_pos (by rw[List.length_pos_iff];exact h),if_neg h,zH (by omega)]
   ·subst ht;rw[List.filter_append,List.map_append]
    by_cases h:R.nrm y.2=[] <;> simp[h]
  ·subst ht;exact hQ l hp
 refine Ya (hall _ fun l hp=>?_);show(xg _ _).wp _;have hll:=hp.length_eq;have hle:=List.length_filter_le (fun e:Int×List RN=>decide (R.nrm e.2≠[])) l;have hmem:∀ d:PT,d∈((l.filter fun e=>decide (R.nrm e.2≠[])).map fun e=>(⟨e.1,R.nrm e.2⟩:PT))↔d∈yU f ks:=by
  intro d;rw[vn,List.mem_map]
  constructor
  ·rintro⟨e,he,rfl⟩;rw[List.mem_filter,hp.mem_iff] at he;have h0:R.nrm e.2≠[]:=by simpa using he.2
   obtain⟨h3,h4⟩:=h1 e he.1 h0;exact⟨h3,h0,h4⟩
  ·rintro⟨h3,h4,h5⟩;obtain⟨r,h6,h7⟩:=h2 d.dev h3 (by rw[<- h5];exact h4);refine⟨(d.dev,r),?_,by show(⟨d.dev,R.nrm r⟩:PT)=d;rw[h7,<- h5]⟩;rw[List.mem_filter,hp.mem_iff];refine⟨h6,?_⟩;simp only[decide_eq_true_eq];rw[h7,<- h5];exact h4
 have hnd:((l.filter fun e=>decide (R.nrm e.2≠[])).map fun e=>(⟨e.1,R.nrm e.2⟩:PT)).Pairwise (fun x y=>x.dev≠y.dev):=by
  rw[List.pairwise_map];have:l.Pairwise (fun x y=>x.1≠y.1):=by
   have:=(hp.map (·.1)).nodup_iff.2 hn;exact List.pairwise_map.1 this
  exact(this.filter _)
 refine⟨by simp only[List.length_map];omega,⟨?_,fun l' ⟨hp',hs'⟩=>?_⟩⟩
 ·refine⟨yU f ks,?_,?_⟩
  ·refine(List.perm_ext_iff_of_nodup ?_ ?_).2 fun d=>(hmem d).symm
   ·exact(vo hs).imp fun {a b} h e=>by subst e;omega
   ·exact hnd.imp fun {a b} h e=>by subst e;exact h rfl
  ·exact(vo hs).imp fun {a b} h=>by simp[qc];omega
 ·show l'=_;refine jU ?_ (vo hs) fun d=>by rw[hp'.mem_iff];exact hmem d
  have hnd':=(hp'.pairwise_iff (fun {a b} h=>Ne.symm h)).2 hnd;exact(hs'.and hnd').imp fun {a b} ⟨h3,h4⟩=>by simp[qc] at h3;omega
theorem vXa(c:List PT)(h:Sm c):ZD (uS c)=pure (zh c):=by
 refine waa _ _ _ (by have:=wZa c;have:=h.1;omega) (fun e he=>?_) (uv c) (vF c) (fun e he h0=>?_) (fun k hk h0=>?_)
 ·rw[(XE he).1];have:=vX c e.1;have:=h.2;omega
 ·obtain⟨h1,h2,h3⟩:=XE he;exact⟨h3,by rw[h1]⟩
 ·exact⟨_,uta (fun e=>h0 (by rw[e];exact JV)),rfl⟩
theorem zNa(c:List PT)(h:Sm c):Ye c=pure (zh c):=by
 unfold Ye;rw[zMa c h,zB,zA,vXa c h,zB,zA]
theorem Runs_eq(c:List PT)(k:Int)(h:Sm c):jD c k=pure (R.nrm (yk c k)):=by
 unfold jD;rw[zMa c h,zB,zA,vw,R.UY _ (by have:=vX c k;have:=h.2;omega),zB,zA]
theorem yba(c:List PT)(d:DT)(h:Sm c):UH c d=pure (Zv c d.dev d.n):=by
 unfold UH;rw[wq]
 by_cases h0:0 < d.dev
 ·rw[if_pos h0,Runs_eq c _ h,zB,zA,R.XP _ _ (by have:=R.ZY (yk c d.dev);have:=vX c d.dev;have:=h.2;omega),zB,zA,zA,R.vW]
  rfl
 ·rw[if_neg h0,zA];show pure false=pure (R.yT (yk c d.dev) d.n);rw[zIa h0];rfl
def dotsC(l:List DT):List PT:=(l.filter V.yW).map fun d=>⟨d.dev,[⟨d.n,d.n⟩]⟩
def yTa(h:Int×List RN->List RN)(m:List (Int×List RN))(L:List Nat):List (Int×List RN):=m.zipIdx.map fun y=>if y.2∈L then (y.1.1,h y.1) else y.1
theorem ui{h:Int×List RN->List RN}{m:List (Int×List RN)}{L:List Nat}{i:Nat}:(yTa h m L)[i]?=(m[i]?).map fun e=>if i∈L then (e.1,h e) else e:=by
 unfold yTa;rw[List.getElem?_map,List.getElem?_zipIdx]
 cases m[i]? <;> simp
theorem Qw{h:Int×List RN->List RN}{m:List (Int×List RN)}{L:List Nat}:(yTa h m L).length=m.length:=by simp[yTa]
theorem set_at{m:List (Int×List RN)}(hn:(m.map (·.1)).Nodup){i:Nat}{e:Int×List RN}(hi:m[i]?=some e)(v:List RN):AL.set m e.1 v=m.set i (e.1,v):=by
 induction m generalizing i with
 | nil=>simp at hi
 | cons x r ih=>
  obtain⟨a,u⟩:=x;simp only[List.map_cons,List.nodup_cons] at hn
  cases i with
  | zero=>simp at hi;subst hi;simp[AL.set]
  | succ i=>
   simp at hi;have:a≠e.1:=fun q=>hn.1 (by rw[q];exact List.mem_map.2 ⟨e,List.mem_of_getElem? hi,rfl⟩)
   simp only[AL.set,this,if_false,List.set_cons_succ];rw[ih hn.2 hi]
theorem JN{h:Int×List RN->List RN}{m:List (Int×List RN)}{L:List Nat}:(yTa h m L).map (·.1)=m.map (·.1):=by
 apply List.ext_getElem?;intro i;rw[List.getElem?_map,ui,List.getElem?_map]
 cases m[i]? with
 | none=>rfl
 | some e=>simp only[Option.map_some];split <;> rfl
theorem uua{h:Int×List RN->List RN}{m:List (Int×List RN)}(hn:(m.map (·.1)).Nodup){L:List Nat}{i:Nat}{e:Int×List RN}(hi:m[i]?=some e)(hL:i∉L):AL.set (yTa h m L) e.1 (h e)=yTa h m (L++[i]):=by
 have h1:(yTa h m L)[i]?=some e:=by rw[ui,hi];simp[hL]
 rw[set_at (by rw[JN];exact hn) h1];apply List.ext_getElem?;intro j;rw[List.getElem?_set,ui,ui]
 by_cases hj:i=j
 ·subst hj;have hlt:i < (yTa h m L).length:=by rw[Qw];exact(List.getElem?_eq_some_iff.1 hi).1
  rw[if_pos rfl,if_pos hlt,hi];simp
 ·rw[if_neg hj]
  cases m[j]? with
  | none=>rfl
  | some x=>simp[Ne.symm hj]
theorem updM_all{h:Int×List RN->List RN}{m:List (Int×List RN)}{L:List Nat}(hL:∀ i,i < m.length->i∈L):yTa h m L=m.map fun e=>(e.1,h e):=by
 apply List.ext_getElem?;intro i;rw[ui,List.getElem?_map]
 cases hi:m[i]? with
 | none=>rfl
 | some e=>simp[hL i (List.getElem?_eq_some_iff.1 hi).1]
theorem has_key{m:List (Int×List RN)}{k:Int}(h:k∈m.map (·.1)):AL.has m k=true:=by
 unfold AL.has
 cases hg:AL.get m k with
 | none=>exact absurd h (AL.get_none.1 hg)
 | some v=>rfl
theorem uva(body:List (Int×List RN)->List Nat×List (Int×List RN)->M (Step (List Nat×List (Int×List RN)) (List (Int×List RN))))(do_:List RN->List RN->M (List RN))(F:List RN->List RN->List RN)(m y:List (Int×List RN))(hn:(m.map (·.1)).Nodup)
  (hb:∀ L v,body y (L,v)=xg (∀ i∈L,i < v.length) ((nxt v.length L).bind fun o=>match o with | none=>pure (.done v) | some j=>(idx v (Int.ofNat j)).bind fun kv=>(do_ kv.2 (AL.getZ y kv.1 [])).det.bind fun r=>xg (AL.has v kv.1=true) (pure (.next (L++[j],AL.set v kv.1 r)))))
  (hdo:∀ e∈m,do_ e.2 (AL.getZ y e.1 [])=pure (F e.2 (AL.getZ y e.1 []))):loop (body y) ([],m)=pure (m.map fun e=>(e.1,F e.2 (AL.getZ y e.1 []))):=by
 refine Ya ?_;have:=loopN (body:=body y) m.length (fun L (v:List (Int×List RN))=>(L,v)) (fun L v=>v=yTa (fun e=>F e.2 (AL.getZ y e.1 [])) m L) (fun r=>r=m.map fun e=>(e.1,F e.2 (AL.getZ y e.1 []))) (fun L v hv hL hlt=>by
  have hlen:v.length=m.length:=by rw[hv];exact Qw
  refine⟨fun o=>match o with | none=>pure (.done v) | some j=>(idx v (Int.ofNat j)).bind fun kv=>(do_ kv.2 (AL.getZ y kv.1 [])).det.bind fun r=>xg (AL.has v kv.1=true) (pure (.next (L++[j],AL.set v kv.1 r))),?_,?_,?_⟩
  ·rw[hb,hlen]
  ·intro hall;show v=_;rw[hv];exact updM_all hall
  ·intro i hi hiL;have hm:=List.getElem?_eq_getElem hi;have hvi:v[i]?=some m[i]:=by rw[hv,ui,hm];simp[hiL]
   refine⟨AL.set v (m[i]).1 (F (m[i]).2 (AL.getZ y (m[i]).1 [])),?_,?_⟩
   ·show(idx v (Int.ofNat i)).bind _=_;rw[show(Int.ofNat i)=(i:Int) from rfl,zJ hvi,zA,hdo _ (List.getElem_mem hi),zB,zA,zH];refine has_key ?_;rw[hv,JN];exact List.mem_map.2 ⟨m[i],List.getElem_mem hi,rfl⟩
   ·rw[hv];exact uua hn hm hiL) m (by
  apply List.ext_getElem?;intro i;rw[ui]
  cases m[i]? <;> simp)
 exact this
theorem wba{op:Bool->Bool->Bool}(h0:op false false=false)(a b:List RN):R.nrm (R.Zz op a b)=R.Zz op a b:=R.zEa (R.zo op h0 a b).1
theorem vYa{op:Bool->Bool->Bool}(h0:op false false=false)(hr:∀ x,op false x=false)(a b:List PT)(ha:Sm a)(hb:Sm b) :
  ZD ((uS a).map fun e=>(e.1,R.Zz op e.2 (AL.getZ (uS b) e.1 [])))=pure (opC op a b):=by
 have hlenR:∀ x y:List RN,(R.Zz op x y).length<=2*(x.length+y.length):=fun x y=>(R.zo op h0 x y).2.2
 refine waa _ _ _ (by have:=wZa a;have:=ha.1;simp;omega) (fun e he=>?_) (by rw[List.map_map];exact uv a) (vF _) (fun e he hne=>?_) (fun k hk hne=>?_)
 ·obtain⟨x,hx,rfl⟩:=List.mem_map.1 he;have h1:=hlenR x.2 (AL.getZ (uS b) x.1 []);rw[(XE hx).1,vw] at h1;have:=vX a x.1;have:=vX b x.1;have:=ha.2;have:=hb.2;show(R.Zz op x.2 (AL.getZ (uS b) x.1 [])).length<=_;rw[(XE hx).1,vw];omega
 ·obtain⟨x,hx,rfl⟩:=List.mem_map.1 he;obtain⟨h1,h2,h3⟩:=XE hx;refine⟨?_,?_⟩
  ·show x.1∈_;obtain⟨⟨p,hp,hd⟩,_⟩:=ww.1 h3;exact ww.2 ⟨⟨p,List.mem_append_left _ hp,hd⟩,h2⟩
  ·show R.nrm (R.Zz op x.2 (AL.getZ (uS b) x.1 []))=_;rw[wba h0,vw,h1]
 ·have hra:yk a k≠[]:=fun e=>hne (by
   rw[e];exact R.Vj (R.zo op h0 _ _).1 trivial fun n=>by rw[(R.zo op h0 _ _).2.1];show op (R.yT [] n) _=_;exact hr _)
  refine⟨R.Zz op (yk a k) (AL.getZ (uS b) k []),List.mem_map.2 ⟨(k,yk a k),uta hra,rfl⟩,?_⟩;rw[wba h0,vw]
theorem Minus_eq(a b:List PT)(ha:Sm a)(hb:Sm b):VJ a b=pure (opC (fun x y=>x&&!y) a b):=by
 unfold VJ vC;rw[zMa a ha,zB,zA,zMa b hb,zB,zA,uva vb YI (R.Zz (fun x y=>x&&!y)) (uS a) (uS b) (uv a) (fun L v=>rfl) (fun e he=>?_),zA,vYa rfl (fun _=>rfl) a b ha hb,zB,zA,zB,zA];rw[(XE he).1,vw];have:=vX a e.1;have:=vX b e.1;have:=ha.2;have:=hb.2;exact R.minus_eq _ _ (by omega) (by omega)
theorem uwa(a b:List PT)(ha:Sm a)(hb:Sm b):Xs a b=pure (decide (opC (fun x y=>x&&!y) a b=[])):=by
 unfold Xs;rw[Minus_eq a b ha hb,zB,zA];refine congrArg pure ?_
 cases opC (fun x y=>x&&!y) a b with
 | nil=>rfl
 | cons p r=>simp;omega
theorem partEq(x y:PT):(decide (x.dev=y.dev)&&decide (x.runs=y.runs))=decide (x=y):=by
 rw[Bool.eq_iff_iff]
 cases x;cases y
 simp
theorem eqP_eq(a b:List PT)(ha:a.length<=1000000000000)(hr:∀ p∈a,p.runs.length<=1000000000000):zZ a b=pure (decide (a=b)):=by
 unfold zZ
 by_cases hl:(a.length:Int)=b.length
 ·simp only[hl,decide_true,Bool.not_true,cond_false];have:=xJ (body:=zW a b) a (fun i=>(i:Int)) (fun i x=>decide (b[i]?=some x)) (.brk ()) (.ret false) (fun i x hx hi=>by
   have hb:i < b.length:=by omega
   have hby:=List.getElem?_eq_getElem hb;unfold zW jw;have h1:decide ((i:Int) < (a.length:Int))=true:=by simpa using hi
   simp only[h1,cond_true,zJ hx,zJ hby,zA,R.seq_eq x.runs _ (hr x (List.mem_of_getElem? hx)),zB,zx,partEq,yR (show i < 9223372036854775807 by omega)];rw[hby]
   by_cases hxy:x=b[i] <;> simp[hxy,eq_comm,zA]) (by unfold zW;simp)
  rw[show(0:Int)=((0:Nat):Int) from rfl,this];have hiff:(a.zipIdx.all fun y=>decide (b[y.2]?=some y.1))=decide (a=b):=by
   rw[Bool.eq_iff_iff,List.all_eq_true,decide_eq_true_eq]
   constructor
   ·intro h;apply List.ext_getElem?;intro i
    by_cases hi:i < a.length
    ·have:=h (a[i],i) (by rw[List.mem_zipIdx_iff_getElem?];exact List.getElem?_eq_getElem hi);simp only[decide_eq_true_eq] at this;rw[this,List.getElem?_eq_getElem hi]
    ·rw[List.getElem?_eq_none (by omega),List.getElem?_eq_none (by omega)]
   ·rintro rfl y hy;rw[List.mem_zipIdx_iff_getElem?] at hy;simpa using hy
  rw[hiff]
  by_cases h:a=b <;> simp[h,exk,zA]
 ·have:¬ a=b:=fun e=>hl (by rw[e])
  simp[hl,this]
theorem eq_eq(a b:List PT)(ha:a.length<=1000000000000)(hr:∀ p∈a,p.runs.length<=1000000000000):wKa a b=pure (decide (a=b)):=by
 unfold wKa;rw[eqP_eq a b ha hr,zB,zA]
theorem qw{c:List PT}:∀ p∈c,p.runs.length<=yw c:=by
 induction c with
 | nil=>intro p hp;simp at hp
 | cons q r ih=>
  intro p hp;have e:yw (q::r)=q.runs.length+yw r:=by simp[yw]
  rcases List.mem_cons.1 hp with rfl | hp
  ·omega
  ·have:=ih p hp;omega
theorem wY(c:List PT)(h:Sm c):xl c=pure (decide (c=zh c)):=by
 unfold xl;rw[zNa c h,zB,zA,eq_eq _ _ (by have:=h.1;omega) (fun p hp=>by have:=qw p hp;have:=h.2;omega),zB,zA]
theorem rEq_eq(a b:List PT)(ha:a.length<=1000000000000)(hr:∀ p∈a,p.runs.length<=1000000000000):Wb a b=pure (decide (a=b)):=by
 unfold Wb
 by_cases hl:(a.length:Int)=b.length
 ·simp only[hl,decide_true,Bool.not_true,cond_false];have:=xJ (body:=VN a b) a (fun i=>(i:Int)) (fun i x=>decide (b[i]?=some x)) (.brk ()) (.ret false) (fun i x hx hi=>by
   have hb:i < b.length:=by omega
   have hby:=List.getElem?_eq_getElem hb;unfold VN;have h1:decide ((i:Int) < (a.length:Int))=true:=by simpa using hi
   simp only[h1,cond_true,zJ hx,zJ hby,zA,R.req_eq x.runs _ (hr x (List.mem_of_getElem? hx)),zB,yR (show i < 9223372036854775807 by omega)];rw[hby];have he:=partEq x b[i]
   by_cases hd:x.dev=(b[i]).dev
   ·by_cases hq:x.runs=(b[i]).runs
    ·simp only[hd,hq,decide_true,Bool.and_self,eq_comm (a:=true),decide_eq_true_eq] at he;simp[hd,hq,he,zA]
    ·have hne:¬ x=b[i]:=fun e=>hq (by rw[e])
     have hne2:¬ b[i]=x:=fun e=>hne e.symm
     simp[hd,hq,hne2,zA]
   ·have hne2:¬ b[i]=x:=fun e=>hd (by rw[e])
    simp[hd,hne2,zA]) (by unfold VN;simp)
  rw[show(0:Int)=((0:Nat):Int) from rfl,this];have hiff:(a.zipIdx.all fun y=>decide (b[y.2]?=some y.1))=decide (a=b):=by
   rw[Bool.eq_iff_iff,List.all_eq_true,decide_eq_true_eq]
   constructor
   ·intro h;apply List.ext_getElem?;intro i
    by_cases hi:i < a.length
    ·have:=h (a[i],i) (by rw[List.mem_zipIdx_iff_getElem?];exact List.getElem?_eq_getElem hi);simp only[decide_eq_true_eq] at this;rw[this,List.getElem?_eq_getElem hi]
    ·rw[List.getElem?_eq_none (by omega),List.getElem?_eq_none (by omega)]
   ·rintro rfl y hy;rw[List.mem_zipIdx_iff_getElem?] at hy;simpa using hy
  rw[hiff]
  by_cases h:a=b <;> simp[h,exk,zA]
 ·have:¬ a=b:=fun e=>hl (by rw[e])
  simp[hl,this]
theorem qx(a b:List PT)(h:Sm a):Wb a b=pure (decide (a=b)):=rEq_eq a b (by have:=h.1;omega) fun p hp=>by have:=qw p hp;have:=h.2;omega
theorem wca(u v:List RN):R.Zz (·||·) (R.nrm u) v=R.nrm (u++v):=R.Vj (R.zo _ rfl _ _).1 (R.XO _) fun n=>by rw[(R.zo _ rfl _ _).2.1,R.vW,R.vW,R.uj]
theorem zOa(c:List PT)(k:Int)(hk:0<=k)(h:c.length<=1000000000)(ht:yw c<=1000000000):WE c k=pure (R.nrm (yk c k)):=by
 unfold WE;have hpre:∀ i,(yk (c.take i) k).length<=1000000000:=fun i=>by
  have h1:=vX (c.take i) k;have h2:yw (c.take i)<=yw c:=by
   conv=>rhs;rw[<- List.take_append_drop i c]
   rw[zJa];omega
  omega
 have:=XS (body:=Yj c k) c (fun i (t:List RN)=>(t,(i:Int))) (fun t p=>if p.dev=k/\0 < k then R.Zz (·||·) t p.runs else t) (fun t=>pure t) (fun i t=>t=R.nrm (yk (c.take i) k)) (fun i x t hx hi ht2=>by
  have h1:decide ((i:Int) < (c.length:Int))=true:=by simpa using hi
  have hxl:x.runs.length<=1000000000:=by have:=qw x (List.mem_of_getElem? hx);omega
  have htl:t.length<=2000000000:=by have:=R.ZY (yk (c.take i) k);have:=hpre i;rw[ht2];omega
  unfold Yj;simp only[h1,cond_true,zJ hx,zA,yR (show i < 9223372036854775807 by omega),wq];have hnext:(if x.dev=k/\0 < k then R.Zz (·||·) t x.runs else t)=R.nrm (yk (c.take (i+1)) k):=by
   rw[List.take_add_one,hx,Vn,Option.toList,YT,zHa,List.append_nil,ht2]
   split
   ·exact wca _ _
   ·rw[List.append_nil]
  refine⟨?_,hnext⟩
  by_cases hd:x.dev=k
  ·by_cases h0:k=0
   ·have:¬ (x.dev=k/\0 < k):=by omega
    rw[if_neg this,if_pos hd];simp[h0,zA]
   ·rw[if_pos (show x.dev=k/\0 < k from ⟨hd,by omega⟩),if_pos hd];simp only[h0,decide_false,Bool.not_false,zA,cond_true];rw[R.wWa _ _ (by omega),zB,zA,zA]
  ·rw[if_neg (fun(q:x.dev=k/\0 < k)=>hd q.1),if_neg hd]
   rfl) (fun t _=>by unfold Yj;simp[zA]) [] (by rw[List.take_zero,zHa,JV])
 rw[show(([]:List RN),(0:Int))=([],((0:Nat):Int)) from rfl,this];have key:∀ (l:List PT) (u:List RN),l.foldl (fun t p=>if p.dev=k/\0 < k then R.Zz (·||·) t p.runs else t) (R.nrm u)=R.nrm (u++yk l k):=by
  intro l
  induction l with
  | nil=>intro u;simp[yk]
  | cons p r ih=>
   intro u;rw[List.foldl_cons,YT]
   by_cases hp:p.dev=k/\0 < k
   ·rw[if_pos hp,if_pos hp,wca,ih,List.append_assoc]
   ·rw[if_neg hp,if_neg hp,ih,List.nil_append]
 have h2:=key c [];rw[JV,List.nil_append] at h2;rw[h2];rfl
def xna(c:List PT):List Int:=c.foldl (fun l p=>V.Jy l p.dev) []
theorem zPa(c:List PT):∀ l:List Int,l.Pairwise (· < ·)->(c.foldl (fun l p=>V.Jy l p.dev) l).Pairwise (· < ·)/\(∀ k,k∈c.foldl (fun l p=>V.Jy l p.dev) l↔k∈l\/∃ p∈c,p.dev=k)/\(c.foldl (fun l p=>V.Jy l p.dev) l).length<=l.length+c.length:=by
 induction c with
 | nil=>intro l h;simp[h]
 | cons p r ih=>
  intro l h;rw[List.foldl_cons];obtain⟨h1,h2,h3⟩:=ih _ (V.ZX h p.dev);refine⟨h1,fun k=>?_,by have:=V.Vh l p.dev;simp;omega⟩;rw[h2,V.jS]
  constructor
  ·rintro((rfl | h4) | ⟨x,h4,h5⟩)
   ·exact .inr ⟨p,by simp,rfl⟩
   ·exact .inl h4
   ·exact .inr ⟨x,by simp[h4],h5⟩
  ·rintro(h4 | ⟨x,h4,h5⟩)
   ·exact .inl (.inr h4)
   ·rcases List.mem_cons.1 h4 with rfl | h4
    ·exact .inl (.inl h5.symm)
    ·exact .inr ⟨x,h4,h5⟩
theorem JX(c:List PT):(xna c).Pairwise (· < ·):=(zPa c [] List.Pairwise.nil).1
theorem wda{c:List PT}{k:Int}:k∈xna c↔∃ p∈c,p.dev=k:=by
 have:=(zPa c [] List.Pairwise.nil).2.1 k;unfold xna;rw[this];simp
theorem wea(c:List PT):(xna c).length<=c.length:=by simpa[xna] using (zPa c [] List.Pairwise.nil).2.2
theorem Vm(l:List Int):(V.WZ l).length=l.length:=by simp[V.WZ]
theorem rdevs_eq(a b:List PT)(h:a.length+b.length<=10000000000):jG a b=pure (V.WZ (xna (a++b))):=by
 unfold jG;have h1:=XS (body:=Yl a) a (fun i (l:List Int)=>(V.WZ l,(i:Int))) (fun l p=>V.Jy l p.dev) (fun l=>pure (V.WZ l)) (fun i l=>l.Pairwise (· < ·)/\l.length<=i) (fun i x l hx hi ⟨hs,hl⟩=>by
  have h1:decide ((i:Int) < (a.length:Int))=true:=by simpa using hi
  unfold Yl;simp only[h1,cond_true,zJ hx,zA,yR (show i < 9223372036854775807 by omega)];rw[V.UU _ _ (by rw[Vm];omega),zB,zA,V.wTa hs];exact⟨rfl,V.ZX hs _,by have:=V.Vh l x.dev;omega⟩) (fun l _=>by unfold Yl;simp[zA]) [] ⟨List.Pairwise.nil,by simp⟩
 have h2:=XS (body:=ZI b) b (fun i (l:List Int)=>(V.WZ l,(i:Int))) (fun l p=>V.Jy l p.dev) (fun l=>pure (V.WZ l)) (fun i l=>l.Pairwise (· < ·)/\l.length<=a.length+i) (fun i x l hx hi ⟨hs,hl⟩=>by
  have h1:decide ((i:Int) < (b.length:Int))=true:=by simpa using hi
  unfold ZI;simp only[h1,cond_true,zJ hx,zA,yR (show i < 9223372036854775807 by omega)];rw[V.UU _ _ (by rw[Vm];omega),zB,zA,V.wTa hs];exact⟨rfl,V.ZX hs _,by have:=V.Vh l x.dev;omega⟩) (fun l _=>by unfold ZI;simp[zA]) (xna a) ⟨JX a,by have:=wea a;omega⟩
 rw[show(([]:List DT),(0:Int))=(V.WZ [],((0:Nat):Int)) from rfl,h1,zA];show(loop (ZI b) (V.WZ (xna a),((0:Nat):Int))).bind _=_;rw[h2,zA];unfold xna;rw[List.foldl_append]
theorem UX(op:Bool->Bool->Bool)(how:Int)(hop:∀ x y,op x y=if how=2 then (x&&!y) else if how=1 then (x&&y) else (x||y))(h0:op false false=false)(a b:List PT)(oa:∀ p∈a,0<=p.dev)(ob:∀ p∈b,0<=p.dev)(ha:a.length<=1000000000)(hb:b.length<=1000000000)(ta:yw a<=1000000000)(tb:yw b<=1000000000):JA a b how=pure (opC op a b):=by
 unfold JA;rw[rdevs_eq a b (by omega),zB,zA];have hlenA:∀ k,(R.nrm (yk a k)).length<=2000000000:=fun k=>by have:=R.ZY (yk a k);have:=vX a k;omega
 have hlenB:∀ k,(R.nrm (yk b k)).length<=2000000000:=fun k=>by have:=R.ZY (yk b k);have:=vX b k;omega
 have hop':∀ k,R.Zz op (R.nrm (yk a k)) (R.nrm (yk b k))=R.Zz op (yk a k) (yk b k):=fun k=>R.Vj (R.zo op h0 _ _).1 (R.zo op h0 _ _).1 fun n=>by rw[(R.zo op h0 _ _).2.1,(R.zo op h0 _ _).2.1,R.vW,R.vW]
 have hkey:∀ k∈xna (a++b),0<=k:=fun k hk=>by
  obtain⟨p,hp,rfl⟩:=wda.1 hk;rcases List.mem_append.1 hp with hp | hp
  ·exact oa p hp
  ·exact ob p hp
 have hnd:(xna (a++b)).length<=2000000000:=by have:=wea (a++b);rw[List.length_append] at this;omega
 have hgo:=XS (body:=WG (V.WZ (xna (a++b))) a b how) (xna (a++b)) (fun i (t:List PT)=>((i:Int),t)) (fun t k=>if R.Zz op (yk a k) (yk b k)=[] then t else t++[⟨k,R.Zz op (yk a k) (yk b k)⟩]) (fun t=>pure t) (fun i t=>t.length<=i) (fun i k t hk hi hl=>by
  have h1:decide ((i:Int) < ((V.WZ (xna (a++b))).length:Int))=true:=by rw[Vm];simpa using hi
  have hx:(V.WZ (xna (a++b)))[i]?=some ⟨k,1⟩:=by simp[V.WZ,hk]
  have hk0:0<=k:=hkey k (List.mem_of_getElem? hk);unfold WG;simp only[h1,cond_true,zJ hx,zA,zOa a k hk0 ha ta,zOa b k hk0 hb tb,zB,yR (show i < 9223372036854775807 by omega)];have hl1:=hlenA k;have hl2:=hlenB k;rw[R.wWa _ _ (by omega),zB,zA,R.rmeet_eq _ _ (by omega),zB,zA,R.uka _ _ (by omega),zB,zA];have hz:(cond (decide (how=1)) (pure (R.Zz (·&&·) (R.nrm (yk a k)) (R.nrm (yk b k)))) (pure (R.Zz (·||·) (R.nrm (yk a k)) (R.nrm (yk b k)))):M (List RN)).bind (fun z=>cond (decide (how=2)) (pure (R.Zz (fun x y=>x&&!y) (R.nrm (yk a k)) (R.nrm (yk b k)))) (pure z))=pure (R.Zz op (yk a k) (yk b k)):=by
   rw[<- hop' k]
   by_cases h2:how=2
   ·subst h2;have:op=fun x y=>x&&!y:=by funext x y;rw[hop];simp
    rw[this];rfl
   ·by_cases h1:how=1
    ·subst h1;have:op=fun x y=>x&&y:=by funext x y;rw[hop];simp
     rw[this];rfl
    ·have:op=fun x y=>x||y:=by funext x y;rw[hop];simp[h1,h2]
     rw[this];simp[h1,h2,zA]
  rw[<- qa,hz,zA];have hsl:=(R.zo op h0 (yk a k) (yk b k)).2.2
  by_cases hz0:R.Zz op (yk a k) (yk b k)=[]
  ·rw[if_pos hz0];simp only[hz0,List.length_nil];exact⟨rfl,by omega⟩
  ·rw[if_neg hz0];have:decide (0 < ((R.Zz op (yk a k) (yk b k)).length:Int))=true:=by
    have:=List.length_pos_iff.2 hz0;simp;omega
   rw[this,cond_true,zH (by simp;omega)];exact⟨rfl,by simp;omega⟩) (fun t _=>by unfold WG;rw[Vm];simp[zA]) [] (by simp)
 rw[show((0:Int),([]:List PT))=(((0:Nat):Int),[]) from rfl,hgo,zA];have key:∀ (ks:List Int) (t:List PT),ks.foldl (fun t k=>if R.Zz op (yk a k) (yk b k)=[] then t else t++[⟨k,R.Zz op (yk a k) (yk b k)⟩]) t=t++yU (fun k=>R.Zz op (yk a k) (yk b k)) ks:=by
  intro ks
  induction ks with
  | nil=>intro t;simp[yU]
  | cons k ks ih=>
   intro t;rw[List.foldl_cons,ih]
   by_cases h:R.Zz op (yk a k) (yk b k)=[]
   ·rw[if_pos h];simp[yU,h]
   ·rw[if_neg h];simp[yU,h]
 rw[key,List.nil_append];refine congrArg pure (JT (JX _) (vF _) (fun _=>rfl) fun k hk=>?_);have hr:yk (a++b) k≠[]:=fun e=>hk (by
  rw[Vn] at e;have:=List.append_eq_nil_iff.1 e;rw[this.1,this.2];exact wYa h0)
 exact⟨fun _=>Zw hr,fun _=>wda.2 (ww.1 (Zw hr)).1⟩
structure Ok(c:List PT):Prop where
 dev:∀ p∈c,0<=p.dev
 len:c.length<=1000000000
 tot:yw c<=1000000000
theorem Ok.sm{c:List PT}(h:Ok c):Sm c:=⟨by have:=h.len;omega,by have:=h.tot;omega⟩
section
variable(a b:List PT)(ha:Ok a)(hb:Ok b)
include ha hb
theorem uxa : VQ a b=pure (opC (fun x y=>x&&!y) a b):=by
 unfold VQ;rw[UX (fun x y=>x&&!y) 2 (fun x y=>by simp) rfl a b ha.dev hb.dev ha.len hb.len ha.tot hb.tot,zB,zA]
theorem vZa : WH a b=pure (decide (opC (fun x y=>x&&!y) a b=[])):=by
 unfold WH;rw[uxa a b ha hb,zB,zA];refine congrArg pure ?_
 cases opC (fun x y=>x&&!y) a b with
 | nil=>rfl
 | cons p r=>simp;omega
end
theorem ok_nil : Ok []:=⟨fun p h=>by simp at h,by simp,by simp[yw]⟩
theorem opC_nil(c:List PT):opC (·||·) c []=zh c:=by rw[<- norm_or,List.append_nil]
theorem Vp(c:List PT)(h:Ok c):Zt c=pure (zh c):=by
 unfold Zt;rw[UX (·||·) 0 (fun x y=>by simp) rfl c [] h.dev ok_nil.dev h.len ok_nil.len h.tot ok_nil.tot,zB,zA,opC_nil]
theorem sm_norm{c:List PT}(h:Ok c):Sm (zh c):=⟨by have:=ZZ c;have:=h.len;omega,by have:=Za c;have:=h.tot;omega⟩
theorem WK(a b:List PT)(ha:Ok a)(hb:Ok b):VT a b=pure (decide (zh a=zh b)):=by
 unfold VT;rw[Vp a ha,zB,zA,Vp b hb,zB,zA,qx _ _ (sm_norm ha),zB,zA]
theorem wI(c:List PT)(h:Ok c):xB c=pure (decide (c=zh c)):=by
 unfold xB;rw[Vp c h,zB,zA,qx _ _ h.sm,zB,zA]
theorem has_pos{c:List PT}{k n:Int}(h:Zv c k n=true):0 < k/\1<=n/\n<=281474976710655:=by
 refine⟨Classical.byContradiction fun h0=>?_,R.qr h⟩;unfold Zv at h;rw[zIa h0] at h
 cases h
theorem JY(c:List PT)(d:DT)(h:Ok c):UL c d=pure (Zv c d.dev d.n):=by
 unfold UL;rw[V.XC,zB,zA]
 by_cases hg:V.yW d=true
 ·have h1:=V.ZV.1 hg;rw[hg,cond_true,zOa c d.dev (by omega) h.len h.tot,zB,zA,R.xka _ _ (by have:=R.ZY (yk c d.dev);have:=vX c d.dev;have:=h.tot;omega),zB,zA,zA,R.vW]
  rfl
 ·have hg':V.yW d=false:=by simpa using hg
  rw[hg',cond_false,zA]
  cases hh:Zv c d.dev d.n with
  | false=>rfl
  | true=>obtain⟨h1,h2,h3⟩:=has_pos hh;exact absurd (V.ZV.2 ⟨by omega,h2,h3⟩) hg
theorem YA(c:List PT):Yb c=pure (decide (c.length<=30)&&c.all fun p=>decide (p.runs.length<=30)):=by
 unfold Yb
 by_cases h0:30 < c.length
 ·have:decide ((30:Int) < (c.length:Int))=true:=by simp;omega
  rw[this,cond_true];have:decide (c.length<=30)=false:=by simp;omega
  rw[this];rfl
 ·have h1:decide ((30:Int) < (c.length:Int))=false:=by simp;omega
  rw[h1,cond_false];have:=xJ (body:=Xm c) c (fun i=>(i:Int)) (fun i x=>decide (x.runs.length<=30)) (.brk ()) (.ret false) (fun i x hx hi=>by
   have h2:decide ((i:Int) < (c.length:Int))=true:=by simpa using hi
   unfold Xm;simp only[h2,cond_true,zJ hx,zA,wq,yR (show i < 9223372036854775807 by omega),decide_eq_true_eq]
   by_cases h3:x.runs.length<=30
   ·rw[if_neg (by omega),if_pos h3]
   ·rw[if_pos (by omega),if_neg h3]) (by unfold Xm;simp)
  rw[show(0:Int)=((0:Nat):Int) from rfl,this];have hiff:(c.zipIdx.all fun y=>decide (y.1.runs.length<=30))=c.all fun p=>decide (p.runs.length<=30):=by
   rw[Bool.eq_iff_iff,List.all_eq_true,List.all_eq_true]
   constructor
   ·intro h p hp;obtain⟨i,hi⟩:=List.mem_iff_getElem?.1 hp;exact h (p,i) (List.mem_zipIdx_iff_getElem?.2 hi)
   ·intro h y hy;exact h _ (List.mem_of_getElem? (List.mem_zipIdx_iff_getElem?.1 hy))
  rw[hiff];have h4:decide (c.length<=30)=true:=by simp;omega
  rw[h4,Bool.true_and]
  cases c.all fun p=>decide (p.runs.length<=30) <;> rfl
theorem uya{c:List PT}(h:(decide (c.length<=30)&&c.all fun p=>decide (p.runs.length<=30))=true):c.length<=30/\yw c<=900:=by
 rw[Bool.and_eq_true,decide_eq_true_eq,List.all_eq_true] at h;refine⟨h.1,?_⟩;have:∀ l:List PT,(∀ p∈l,decide (p.runs.length<=30)=true)->yw l<=l.length*30:=by
  intro l
  induction l with
  | nil=>intro _;simp[yw]
  | cons p r ih=>
   intro hl;have e:yw (p::r)=p.runs.length+yw r:=by simp[yw]
   have h1:=ih fun q hq=>hl q (by simp[hq])
   have h2:=hl p (by simp);simp only[decide_eq_true_eq] at h2;simp only[List.length_cons];omega
 have:=this c h.2;omega
theorem ok_few{c:List PT}(o:∀ p∈c,0<=p.dev)(h:c.length<=30/\yw c<=900):Ok c:=⟨o,by omega,by omega⟩
end Go.Ep.M.C
namespace Go.Ep.M.N
open Go
theorem wU8_mod(n:Int):IntKind.u8.wrap n=n % 256:=by simp[IntKind.wrap,IntKind.bits,IntKind.signed]
def Wa(n:Nat):Nat:=if n=0 then 0 else Wa (n / 256)+1
theorem Vq : Wa 0=0:=by rw[Wa];rfl
theorem Vr{n:Nat}(h:n≠0):Wa n=Wa (n / 256)+1:=by rw[Wa,if_neg h]
theorem JZ : ∀ (k n:Nat),n < 256 ^ k->Wa n<=k
 | 0,n,h=>by
  have:n=0:=by simpa using h
  rw[this,Vq];exact Nat.le_refl _
 | k+1,n,h=>by
  by_cases h0:n=0
  ·rw[h0,Vq];omega
  ·rw[Vr h0];have:=JZ k (n / 256) (by rw[Nat.pow_succ] at h;omega);omega
theorem uza : ∀ (n:Nat),n < 256 ^ Wa n:=by
 intro n
 induction n using Nat.strongRecOn with
 | _ n ih=>
  by_cases h0:n=0
  ·rw[h0,Vq];decide
  ·rw[Vr h0,Nat.pow_succ];have:=ih (n / 256) (by omega);omega
theorem xoa : ∀ (k n:Nat),256 ^ k<=n->k+1<=Wa n
 | 0,n,h=>by
  have:n≠0:=by intro h0;rw[h0] at h;simp at h
  rw[Vr this];omega
 | k+1,n,h=>by
  have hp:0 < 256 ^ k:=Nat.pow_pos (by decide);rw[Nat.pow_succ] at h;have:n≠0:=by omega
  rw[Vr this];have:=xoa k (n / 256) (by omega);omega
theorem yca{n:Nat}(h:n < 18446744073709551616):Wa n<=8:=JZ 8 n (by simpa using h)
theorem fdiv256(n:Nat):Int.fdiv (n:Int) (2 ^ 8)=((n / 256:Nat):Int):=by
 rw[Int.fdiv_eq_ediv_of_nonneg _ (by decide)];have:(2 ^ 8:Int)=256:=rfl;rw[this];omega
theorem len_loop : ∀ (n k:Nat),k+Wa n<=1000->loop Zs ((n:Int),(k:Int))=pure (((k+Wa n:Nat)):Int):=by
 intro n
 induction n using Nat.strongRecOn with
 | _ n ih=>
  intro k hk
  by_cases h0:n=0
  ·subst h0;rw[Vq,Nat.add_zero];exact ze (by unfold Zs;simp)
  ·rw[Vr h0] at hk ⊢;rw[zq (s':=(((n / 256:Nat):Int),((k+1:Nat):Int))) (by
    unfold Zs;have:decide ((0:Int) < (n:Int))=true:=by simp;omega
    simp only[this,cond_true,fdiv256,yR (show k < 9223372036854775807 by omega)]),ih (n / 256) (by omega) (k+1) (by omega)]
   congr 2;omega
theorem Len_eq{v:Int}(h0:0<=v)(h:v<=18446744073709551615):VK v=pure (Wa v.toNat:Int):=by
 obtain⟨n,rfl⟩:=Int.eq_ofNat_of_zero_le h0;unfold VK;have:=len_loop n 0 (by have:=yca (n:=n) (by omega);omega);rw[show(0:Int)=((0:Nat):Int) from rfl,this,zA,Nat.zero_add,Int.toNat_natCast]
def Zb(n i:Nat):Int:=((n / 256 ^ i % 256:Nat):Int)
theorem yda(n i:Nat):0<=Zb n i/\Zb n i<=255:=by unfold Zb;omega
theorem Byte_eq(n i:Nat)(hi:i<=7):Xv (n:Int) (i:Int)=pure (Zb n i):=by
 have h8:i=0\/i=1\/i=2\/i=3\/i=4\/i=5\/i=6\/i=7:=by omega
 unfold Xv Zb;rw[WY (show(0:Int)<=(i:Int) by omega) (by omega),WY (show(0:Int)<=8*(i:Int) by omega) (by omega)];have hd:decide ((7:Int) < (i:Int))=false:=by simp;omega
 simp only[hd,cond_false];rw[zH (by omega),wU8_mod,Int.fdiv_eq_ediv_of_nonneg _ (by exact Int.le_of_lt (Int.pow_pos (by decide)))]
 congr 1
 have e:(2:Int) ^ min (8*(i:Int)).toNat 64=((256 ^ i:Nat):Int):=by
  rcases h8 with rfl | rfl | rfl | rfl | rfl | rfl | rfl | rfl <;> rfl
 rw[e];exact(by rw[Int.natCast_emod,Int.natCast_ediv];rfl)
def be(n:Nat):Nat->List Int
 | 0=>[]
 | k+1=>Zb n k::be n k
theorem u0a(n:Nat):∀ k,(be n k).length=k
 | 0=>rfl
 | k+1=>by simp[be,u0a n k]
def yea(n:Nat):List Int:=(Wa n:Int)::be n (Wa n)
def yh(v:Int):List Int:=yea v.toNat
theorem zX{v:Int}(h:v<=18446744073709551615):(yh v).length<=9:=by
 have:=yca (n:=v.toNat) (by omega);simp[yh,yea,u0a];omega
theorem wfa(n:Nat):∀ (k:Nat) (out:List Int),k<=8->out.length+k<=100000000000000->loop (ub (n:Int)) ((k:Int) - 1,out)=pure (out++be n k)
 | 0,out,_,_=>by
  rw[be,List.append_nil];exact ze (by unfold ub;simp)
 | k+1,out,hk,ho=>by
  have e:((k+1:Nat):Int) - 1=(k:Int):=by omega
  rw[e,zq (s':=((k:Int) - 1,out++[Zb n k])) (by
   unfold ub;have h1:decide ((0:Int)<=(k:Int))=true:=by simp
   simp only[h1,cond_true,Byte_eq n k (by omega),zB,zA];rw[zH (by simp;omega),UC (by omega) (by omega)]),wfa n k _ (by omega) (by simp;omega),be,List.append_assoc]
  rfl
theorem u1a(b:List Int){v:Int}(h0:0<=v)(h:v<=18446744073709551615)(hb:b.length<=10000000000000):Xw b v=pure (b++yh v):=by
 have h8:=yca (n:=v.toNat) (by omega);unfold Xw;rw[Len_eq h0 h,zB,zA,UC (show -9223372036854775808<=(b.length:Int)+(Wa v.toNat:Int) by omega) (by omega),UC (by omega) (by omega),zH (by omega),zH (by simp;omega),zH (by simp;omega),wU8 (by omega) (by omega),UC (by omega) (by omega)];have:=wfa v.toNat (Wa v.toNat) (([]:List Int)++b++[(Wa v.toNat:Int)]) h8 (by simp;omega);rw[show((v.toNat:Nat):Int)=v by omega] at this;rw[this,zA];simp[yh,yea]
def By(l:List Int):Prop:=∀ x∈l,0<=x/\x<=255
theorem By.drop{l:List Int}(h:By l)(n:Nat):By (l.drop n):=fun x hx=>h x (List.mem_of_mem_drop hx)
theorem By.take{l:List Int}(h:By l)(n:Nat):By (l.take n):=fun x hx=>h x (List.mem_of_mem_take hx)
theorem By.app{a b:List Int}(ha:By a)(hb:By b):By (a++b):=fun x hx=>(List.mem_append.1 hx).elim (ha x) (hb x)
theorem By.nil : By []:=fun x hx=>by cases hx
theorem by_be(n:Nat):∀ k,By (be n k)
 | 0=>By.nil
 | k+1=>fun x hx=>by
  rcases List.mem_cons.1 hx with rfl | h
  ·exact yda n k
  ·exact by_be n k x h
theorem we{v:Int}(h:v<=18446744073709551615):By (yh v):=fun x hx=>by
 have:=yca (n:=v.toNat) (by omega);rcases List.mem_cons.1 hx with rfl | h
 ·omega
 ·exact by_be _ _ x h
def Jz(l:List Int):Int:=l.foldl (fun v x=>v*256+x) 0
theorem Ja : ∀ (l:List Int) (v k:Nat),By l->v < 256 ^ k->∃ n:Nat,l.foldl (fun v x=>v*256+x) (v:Int)=(n:Int)/\n < 256 ^ (k+l.length)/\v*256 ^ l.length<=n
 | [],v,k,_,hv=>⟨v,rfl,by simpa using hv,by simp⟩
 | x::r,v,k,hb,hv=>by
  have hx:=hb x (by simp);obtain⟨n,h1,h2,h3⟩:=Ja r (v*256+x.toNat) (k+1) (fun y hy=>hb y (by simp[hy])) (by rw[Nat.pow_succ];omega);refine⟨n,?_,by rw[show k+(x::r).length=k+1+r.length by simp;omega];exact h2,?_⟩
  ·rw[List.foldl_cons,<- h1]
   congr 1;omega
  ·refine Nat.le_trans ?_ h3;rw[List.length_cons,Nat.pow_succ];have:v*(256 ^ r.length*256)=v*256*256 ^ r.length:=by rw[Nat.mul_comm (256 ^ r.length),Nat.mul_assoc]
   rw[this];exact Nat.mul_le_mul_right _ (by omega)
theorem u2a{l:List Int}(h:By l)(h8:l.length<=8):0<=Jz l/\Jz l<=18446744073709551615:=by
 obtain⟨n,h1,h2,_⟩:=Ja l 0 0 h (by decide);have h3:256 ^ (0+l.length)<=256 ^ 8:=Nat.pow_le_pow_right (by decide) (by omega);have h4:(256:Nat) ^ 8=18446744073709551616:=by decide
 rw[Jz,show(0:Int)=((0:Nat):Int) from rfl,h1];omega
theorem bor_eq{v:Nat}{x:Int}(hv:v < 72057594037927936)(hx:0<=x/\x<=255):bOr .u64 (IntKind.u64.wrap ((v:Int)*2 ^ 8)) (IntKind.u64.wrap x)=(v:Int)*256+x:=by
 obtain⟨y,rfl⟩:=Int.eq_ofNat_of_zero_le hx.1;have e:((v:Int)*2 ^ 8)=((2 ^ 8*v:Nat):Int):=by
  have:(2 ^ 8:Int)=256:=rfl;have:(2 ^ 8:Nat)=256:=rfl;omega
 have hb:2 ^ 8*v+y < 18446744073709551616:=by
  have:(2 ^ 8:Nat)=256:=rfl;omega
 rw[e,WY (by omega) (by omega),WY (by omega) (by omega)];unfold bOr;have bv:∀ q:Nat,q < 18446744073709551616->(BitVec.ofInt IntKind.u64.bits (q:Int)).toNat=q:=fun q hq=>by
  show(BitVec.ofInt 64 (q:Int)).toNat=q;rw[BitVec.toNat_ofInt];omega
 rw[BitVec.toNat_or,bv _ (by omega),bv _ (by omega),<- Nat.two_pow_add_eq_or_of_lt (show y < 2 ^ 8 by have:(2 ^ 8:Nat)=256:=rfl;omega) v,WY (by omega) (by omega)];have:(2 ^ 8:Nat)=256:=rfl;omega
def rdN : List Int->Int×Nat×Int
 | []=>(0,0,2)
 | n::r=>if 8 < n\/(0 < n/\r.head?=some 0) then (0,0,4) else if (r.length:Int) < n then (0,0,2) else (Jz (r.take n.toNat),n.toNat+1,0)
theorem zQa(n:Int)(r:List Int):rdN (n::r)=if 8 < n\/(0 < n/\r.head?=some 0) then (0,0,4) else if (r.length:Int) < n then (0,0,2) else (Jz (r.take n.toNat),n.toNat+1,0):=rfl
theorem Jb(b:List Int)(hb:By b):(rdN b=(0,0,2)\/rdN b=(0,0,4))\/∃ n r,b=n::r/\0<=n/\n<=8/\n<=(r.length:Int)/\¬ (0 < n/\r.head?=some 0)/\rdN b=(Jz (r.take n.toNat),n.toNat+1,0):=by
 cases b with
 | nil=>exact .inl (.inl rfl)
 | cons n r=>
  have hn:=hb n (by simp);rw[zQa]
  by_cases h1:8 < n\/(0 < n/\r.head?=some 0)
  ·rw[if_pos h1];exact .inl (.inr rfl)
  ·rw[if_neg h1]
   by_cases h2:(r.length:Int) < n
   ·rw[if_pos h2];exact .inl (.inl rfl)
   ·rw[if_neg h2];exact .inr ⟨n,r,rfl,hn.1,by omega,by omega,fun h=>h1 (.inr h),rfl⟩
theorem yfa(b:List Int)(hb:By b):0<=(rdN b).1/\(rdN b).1<=18446744073709551615/\(rdN b).2.1<=b.length/\((rdN b).2.2=0\/(rdN b).2.2=2\/(rdN b).2.2=4):=by
 rcases Jb b hb with(h | h) | ⟨n,r,rfl,h0,h8,hl,_,h⟩
 ·rw[h];simp
 ·rw[h];simp
 ·rw[h];have:=u2a (l:=r.take n.toNat) (fun x hx=>hb x (by simp[List.mem_of_mem_take hx])) (by rw[List.length_take];omega);refine⟨this.1,this.2,?_,.inl rfl⟩;simp;omega
theorem wga{r:List Int}(h:r≠[]):∃ y,r.head?=some y/\r[0]?=some y:=by
 cases r with
 | nil=>exact absurd rfl h
 | cons y t=>exact⟨y,rfl,rfl⟩
theorem Read_eq(b:List Int)(hb:By b)(hl:b.length<=1000000000000):jK b 0=pure ((rdN b).1,((rdN b).2.1:Int),(rdN b).2.2):=by
 unfold jK;have h0:decide ((b.length:Int) < 0)=false:=by simp
 rw[show decide ((0:Int) < 0)=false from rfl,cond_false,h0,zA,cond_false]
 cases b with
 | nil=>rfl
 | cons n r=>
  have hn:=hb n (by simp);have hr:By r:=fun x hx=>hb x (by simp[hx])
  have h1:decide ((0:Int)=((n::r).length:Int))=false:=by simp;omega
  have hrl:r.length<=1000000000000:=by simp at hl;omega
  have e1:List.drop (Int.toNat (IntKind.i64.wrap (0+1))) (List.take (Int.toNat ((n::r).length:Int)) (n::r))=r:=by
   rw[UC (by omega) (by omega),Int.toNat_natCast,List.take_length];rfl
  rw[h1,cond_false,VF (y:=n) (by omega) rfl,zA,zH (by rw[UC (by omega) (by omega)];simp;omega),e1,UC (n:=n) (by omega) (by omega)];rw[zQa];have hc:(cond (decide (8 < n)) (pure true) (cond (decide (0 < n)) (cond (decide ((0:Int) < (r.length:Int))) ((idx r 0).bind fun x14=>pure (decide (x14=0))) (pure false)) (pure false)):M Bool)=pure (decide (8 < n\/(0 < n/\r.head?=some 0))):=by
   by_cases c1:8 < n
   ·simp[c1]
   ·by_cases c2:0 < n
    ·by_cases c3:r=[]
     ·subst c3;simp[c1,c2]
     ·obtain⟨y,h5,h6⟩:=wga c3;have c4:0 < r.length:=List.length_pos_iff.2 c3;simp[c1,c2,c4,VF (l:=r) (i:=0) (y:=y) (by omega) h6,h5,zA]
    ·simp[c1,c2]
  rw[hc,zA]
  by_cases c1:8 < n\/(0 < n/\r.head?=some 0)
  ·rw[decide_eq_true c1,cond_true,if_pos c1];rfl
  ·rw[decide_eq_false c1,cond_false,if_neg c1]
   by_cases c2:(r.length:Int) < n
   ·rw[decide_eq_true c2,cond_true,if_pos c2];rfl
   ·rw[decide_eq_false c2,cond_false,if_neg c2,zH (by omega)];have e2:List.drop (Int.toNat 0) (List.take (Int.toNat (IntKind.i64.wrap n)) (List.drop (Int.toNat (IntKind.i64.wrap (0+1))) (List.take (Int.toNat ((n::r).length:Int)) (n::r))))=r.take n.toNat:=by
     rw[e1,UC (by omega) (by omega)];rfl
    have hlen:(r.take n.toNat).length=n.toNat:=by rw[List.length_take];omega
    have hloop:=XS (body:=ZL n 0 (n::r)) (r.take n.toNat) (fun i t=>(t,(i:Int))) (fun v x=>v*256+x) (fun t=>pure t) (fun i t=>∃ m:Nat,t=(m:Int)/\m < 256 ^ i) (fun i x t hx hi hI=>by
     obtain⟨m,rfl,hm⟩:=hI;have hxr:=(hr.take n.toNat) x (List.mem_of_getElem? hx);have hm7:m < 72057594037927936:=by
      have h3:256 ^ i<=256 ^ 7:=Nat.pow_le_pow_right (by decide) (by omega);have h4:(256:Nat) ^ 7=72057594037927936:=by decide
      omega
     refine⟨?_,m*256+x.toNat,by omega,by rw[Nat.pow_succ];omega⟩;unfold ZL;have hd:decide ((i:Int) < ((r.take n.toNat).length:Int))=true:=by simpa using hi
     simp only[e2,hd,cond_true,zJ hx,zA,bor_eq hm7 hxr,yR (show i < 9223372036854775807 by omega)]) (fun t _=>by
     unfold ZL;have hd:decide (((r.take n.toNat).length:Int) < ((r.take n.toNat).length:Int))=false:=by simp
     simp only[e2,hd,cond_false,zA]) 0 ⟨0,rfl,by decide⟩
    have hloop':loop (ZL n 0 (n::r)) (0,0)=pure (Jz (r.take n.toNat)):=hloop;rw[hloop',zA,UC (n:=0+1) (by omega) (by omega),UC (by omega) (by omega)];have:((0:Int)+1+n)=((n.toNat+1:Nat):Int):=by omega
    rw[this]
theorem be_val(n:Nat):∀ k,Jz (be n k)=((n % 256 ^ k:Nat):Int):=by
 intro k;have key:∀ (k v:Nat),(be n k).foldl (fun v x=>v*256+x) (v:Int)=((v*256 ^ k+n % 256 ^ k:Nat):Int):=by
  intro k
  induction k with
  | zero=>intro v;simp[be,Nat.mod_one]
  | succ k ih=>
   intro v;rw[be,List.foldl_cons,show(v:Int)*256+Zb n k=((v*256+n / 256 ^ k % 256:Nat):Int) by unfold Zb;omega,ih]
   congr 1
   have h1:n % 256 ^ (k+1)=256 ^ k*(n / 256 ^ k % 256)+n % 256 ^ k:=by
    rw[Nat.pow_succ,Nat.mod_mul];omega
   rw[h1,Nat.add_mul,Nat.pow_succ,Nat.mul_comm (256 ^ k) (n / 256 ^ k % 256),Nat.add_assoc]
   congr 1
   rw[Nat.mul_comm (256 ^ k) 256,Nat.mul_assoc]
 have:=key k 0;simpa[Jz] using this
theorem be_head{n:Nat}(h:Wa n≠0):(be n (Wa n)).head?≠some 0:=by
 obtain⟨k,hk⟩:∃ k,Wa n=k+1:=⟨Wa n - 1,by omega⟩
 rw[hk,be,List.head?_cons];intro e;have h1:Zb n k=0:=by injection e
 unfold Zb at h1;have h2:=uza n;rw[hk,Nat.pow_succ] at h2;have hp:0 < 256 ^ k:=Nat.pow_pos (by decide);have h4:n / 256 ^ k < 256:=(Nat.div_lt_iff_lt_mul hp).2 (by rw[Nat.mul_comm];exact h2);have h3:n / 256 ^ k=0:=by
  generalize n / 256 ^ k=q at h1 h4 ⊢
  omega
 have h5:n < 256 ^ k:=by
  rcases Nat.div_eq_zero_iff.1 h3 with h | h
  ·omega
  ·exact h
 have:=JZ k n h5;omega
theorem rdN_enc{v:Int}(h0:0<=v)(h:v<=18446744073709551615)(r:List Int):rdN (yh v++r)=(v,(yh v).length,0):=by
 have h8:=yca (n:=v.toNat) (by omega);have hl:=u0a v.toNat (Wa v.toNat);have hv:=be_val v.toNat (Wa v.toNat);rw[Nat.mod_eq_of_lt (uza _)] at hv;show rdN ((Wa v.toNat:Int)::(be v.toNat (Wa v.toNat)++r))=_;rw[zQa,if_neg,if_neg (by rw[List.length_append];omega)]
 ·rw[Int.toNat_natCast,List.take_append_of_le_length (by omega),List.take_of_length_le (by omega),hv];simp[yh,yea,hl];omega
 ·intro hc;rcases hc with hc | ⟨hc1,hc2⟩
  ·omega
  ·have hne:Wa v.toNat≠0:=by omega
   refine be_head hne ?_;rw[List.head?_append] at hc2;obtain⟨y,h5,_⟩:=wga (r:=be v.toNat (Wa v.toNat)) (by intro e;rw[e] at hl;simp at hl;omega);rw[h5] at hc2 ⊢;exact hc2
theorem be_of : ∀ (l:List Int),By l->∀ n:Nat,Jz l=(n:Int)->be n l.length=l:=by
 intro l;have key:∀ (m:Nat) (l:List Int),l.length=m->By l->∀ n:Nat,Jz l=(n:Int)->be n l.length=l:=by
  intro m
  induction m with
  | zero=>intro l hl _ n _;have:=List.eq_nil_of_length_eq_zero hl;subst this;rfl
  | succ m ih=>
   intro l hl hb n hn
   cases l with
   | nil=>simp at hl
   | cons x r=>
    have hx:=hb x (by simp);have hr:By r:=fun y hy=>hb y (by simp[hy])
    obtain⟨q,h1,h2,h3⟩:=Ja r 0 0 hr (by decide);obtain⟨q2,h4,h5,h6⟩:=Ja r x.toNat 1 hr (by omega);have hq:Jz r=(q:Int):=h1;have hq2:Jz (x::r)=(q2:Int):=by
     rw[Jz,List.foldl_cons,<- h4];congr 1;omega
    have hrl:r.length=m:=by simpa using hl
    have e:q2=n:=by omega
    subst e;have hlin:∀ (l:List Int) (v:Int),l.foldl (fun v x=>v*256+x) v=v*256 ^ l.length+Jz l:=by
     intro l
     induction l with
     | nil=>intro v;simp[Jz]
     | cons y t iht=>
      intro v;have e:Jz (y::t)=y*256 ^ t.length+Jz t:=by rw[Jz,List.foldl_cons,iht];simp
      rw[List.foldl_cons,iht,e,List.length_cons,Int.pow_succ,Int.add_mul,Int.mul_assoc,Int.mul_comm 256,Int.add_assoc]
    have hsum:(q2:Int)=x*256 ^ r.length+(q:Int):=by
     rw[<- hq,<- hlin r x,<- hq2,Jz,List.foldl_cons];congr 1;omega
    have hqlt:q < 256 ^ r.length:=by simpa using h2
    have hnat:q2=x.toNat*256 ^ r.length+q:=by
     have:((q2:Nat):Int)=((x.toNat*256 ^ r.length+q:Nat):Int):=by
      rw[hsum,Int.natCast_add,Int.natCast_mul,Int.natCast_pow,Int.toNat_of_nonneg hx.1];rfl
     exact Int.ofNat.inj this
    have hp:0 < 256 ^ r.length:=Nat.pow_pos (by decide);have hdiv:q2 / 256 ^ r.length=x.toNat:=by
     rw[hnat,Nat.mul_comm,Nat.mul_add_div hp,Nat.div_eq_of_lt hqlt,Nat.add_zero]
    rw[List.length_cons,be];have hb1:Zb q2 r.length=x:=by unfold Zb;rw[hdiv];omega
    rw[hb1]
    congr 1
    have hbe:∀ k,k<=r.length->be q2 k=be q k:=by
     intro k hk
     induction k with
     | zero=>rfl
     | succ k ihk=>
      rw[be,be,ihk (by omega)]
      congr 1
      show((q2 / 256 ^ k % 256:Nat):Int)=((q / 256 ^ k % 256:Nat):Int)
      congr 1
      have hs:256 ^ r.length=256 ^ k*(256*256 ^ (r.length - k - 1)):=by
       rw[<- Nat.pow_succ',<- Nat.pow_add];congr 1;omega
      have hpk:0 < 256 ^ k:=Nat.pow_pos (by decide);rw[hnat,hs,Nat.mul_left_comm,Nat.mul_add_div hpk];rw[Nat.mul_left_comm,Nat.mul_add_mod]
    rw[hbe _ (Nat.le_refl _)];exact ih r hrl hr q hq
 exact key l.length l rfl
theorem rdN_one{b:List Int}(hb:By b)(h:(rdN b).2.2=0):b=yh (rdN b).1++b.drop (rdN b).2.1:=by
 rcases Jb b hb with(h1 | h1) | ⟨n,r,rfl,h0,h8,hl,hh,h1⟩
 ·rw[h1] at h;simp at h
 ·rw[h1] at h;simp at h
 ·rw[h1];have hr:By r:=fun x hx=>hb x (by simp[hx])
  have hbt:=hr.take n.toNat;have hlt:(r.take n.toNat).length=n.toNat:=by rw[List.length_take];omega
  obtain⟨q,h2,h3,h4⟩:=Ja (r.take n.toNat) 0 0 hbt (by decide);have hq:Jz (r.take n.toNat)=(q:Int):=h2;have hbe:=be_of _ hbt q hq;rw[hlt] at hbe;have hlen:Wa q=n.toNat:=by
   apply Nat.le_antisymm
   ·exact JZ _ _ (by simpa[hlt] using h3)
   ·rcases Nat.eq_zero_or_pos n.toNat with hz | hz
    ·omega
    ·obtain⟨k,hk⟩:∃ k,n.toNat=k+1:=⟨n.toNat - 1,by omega⟩
     rw[hk];refine xoa k q ?_;rw[hk,be] at hbe;have hne:Zb q k≠0:=by
      intro e;rw[e] at hbe;refine hh ⟨by omega,?_⟩;have:=congrArg List.head? hbe;rw[List.head?_cons,List.head?_take,if_neg (by omega)] at this;exact this.symm
     unfold Zb at hne;have hp:0 < 256 ^ k:=Nat.pow_pos (by decide);rcases Nat.lt_or_ge q (256 ^ k) with hlt2 | hge
     ·rw[Nat.div_eq_of_lt hlt2] at hne;simp at hne
     ·exact hge
  show n::r=yh (Jz (r.take n.toNat))++(n::r).drop (n.toNat+1);rw[hq,yh,Int.toNat_natCast,yea,hlen,hbe,List.drop_succ_cons,List.cons_append,List.take_append_drop]
  congr 1;omega
abbrev RS:=List Int×Int
structure Ok(s:RS):Prop where
 by_:By s.1
 len:s.1.length<=1000000000
 nil:s.2≠0->s.1=[]
def vp(e:Int)(s:RS):RS:=if s.2=0/\e≠0 then ([],e) else s
def zQ(s:RS):Int×RS:=if s.2≠0 then (0,s) else if (rdN s.1).2.2≠0 then (0,vp (rdN s.1).2.2 s) else ((rdN s.1).1,(s.1.drop (rdN s.1).2.1,0))
def zp(m:Int)(s:RS):Int×RS:=if m < (zQ s).1 then (0,vp 4 (zQ s).2) else zQ s
def yA(s:RS):Int×RS:=if s.2≠0 then (0,s) else match s.1 with | []=>(0,vp 2 s) | x::r=>(x,(r,0))
def Zk(m:Int)(s:RS):ByteArray×RS:=
 if (zQ s).2.2≠0 then (⟨#[]⟩,(zQ s).2) else if max m 0 < (zQ s).1 then (⟨#[]⟩,vp 3 (zQ s).2) else if ((zQ s).2.1.length:Int) < (zQ s).1 then (⟨#[]⟩,vp 2 (zQ s).2)
 else (z4a ((zQ s).2.1.take (zQ s).1.toNat),((zQ s).2.1.drop (zQ s).1.toNat,0))
def WL(s:RS):Int×RS:=let t:=if 0 < s.1.length then vp 4 s else s;(t.2,t)
theorem Xd{s:RS}(h:Ok s)(e:Int):Ok (vp e s):=by
 unfold vp
 by_cases c:s.2=0/\e≠0
 ·rw[if_pos c];exact⟨By.nil,by simp,fun _=>rfl⟩
 ·rw[if_neg c];exact h
theorem vA{s:RS}{e:Int}(h:e≠0):(vp e s).2≠0:=by
 unfold vp
 by_cases c:s.2=0
 ·rw[if_pos ⟨c,h⟩];exact h
 ·rw[if_neg (fun q=>c q.1)];exact c
theorem num_of{s:RS}(h:s.2≠0):zQ s=(0,s):=if_pos h
theorem xL{s:RS}(h:Ok s):Ok (zQ s).2/\0<=(zQ s).1/\(zQ s).1<=18446744073709551615:=by
 unfold zQ;have hr:=yfa s.1 h.by_
 by_cases c:s.2≠0
 ·rw[if_pos c];exact⟨h,by simp,by simp⟩
 ·rw[if_neg c]
  by_cases c2:(rdN s.1).2.2≠0
  ·rw[if_pos c2];exact⟨Xd h _,by simp,by simp⟩
  ·rw[if_neg c2];exact⟨⟨h.by_.drop _,by simp;have:=h.len;omega,fun h=>absurd rfl h⟩,hr.1,hr.2.1⟩
theorem YB{s:RS}(h:Ok s){m:Int}(hm:0<=m):Ok (zp m s).2/\0<=(zp m s).1/\(zp m s).1<=m:=by
 unfold zp;obtain⟨h1,h2,h3⟩:=xL h
 by_cases c:m < (zQ s).1
 ·rw[if_pos c];exact⟨Xd h1 _,by simp,hm⟩
 ·rw[if_neg c];exact⟨h1,h2,by omega⟩
theorem Jc{s:RS}(h:Ok s):Ok (yA s).2/\0<=(yA s).1/\(yA s).1<=255:=by
 unfold yA
 by_cases c:s.2≠0
 ·rw[if_pos c];exact⟨h,by simp,by simp⟩
 ·rw[if_neg c]
  cases hs:s.1 with
  | nil=>exact⟨Xd h _,by simp,by simp⟩
  | cons x r=>
   have hb:=h.by_;have hl:=h.len;rw[hs] at hb hl;exact⟨⟨fun y hy=>hb y (by simp[hy]),by simp at hl ⊢;omega,fun h=>absurd rfl h⟩,(hb x (by simp)).1,(hb x (by simp)).2⟩
theorem ok_text{s:RS}(h:Ok s)(m:Int):Ok (Zk m s).2:=by
 unfold Zk;obtain⟨h1,h2,h3⟩:=xL h
 split
 ·exact h1
 ·split
  ·exact Xd h1 _
  ·split
   ·exact Xd h1 _
   ·exact⟨h1.by_.drop _,by simp;have:=h1.len;omega,fun h=>absurd rfl h⟩
theorem New_eq(b:List Int)(h:b.length<=1000000000):YM b=pure (b,0):=by
 unfold YM;rw[zH (by omega)]
theorem Wh(b:List Int)(e:Int):zT b e=pure (e,b,e):=rfl
theorem Zc(e:Int)(s:RS):zI e s.1 s.2=pure (vp e s):=by
 unfold zI vp
 by_cases c:s.2=0 <;> by_cases c2:e=0 <;> simp[c,c2,zA] <;> rw[<- c]
theorem xpa(b:List Int)(n:Nat)(e:Int)(h:n<=b.length):ym (n:Int) b e=pure (b.take n,b.drop n,e):=by
 unfold ym;rw[zH (by omega),zH (by omega)];simp
theorem uW{s:RS}(h:Ok s):zK s.1 s.2=pure (zQ s):=by
 unfold zK zQ;rw[Wh,zB,zA]
 by_cases c:s.2=0
 ·have hr:=yfa s.1 h.by_;simp only[c,decide_true,Bool.not_true,cond_false,Read_eq s.1 h.by_ (by have:=h.len;omega),zB,zA,ne_eq,not_true_eq_false,if_false]
  by_cases c2:(rdN s.1).2.2=0
  ·simp only[c2,decide_true,Bool.not_true,cond_false,xpa s.1 (rdN s.1).2.1 0 hr.2.2.1,zB,zA,not_true_eq_false,if_false]
  ·have:=Zc (rdN s.1).2.2 s;rw[c] at this;simp only[c2,decide_false,Bool.not_false,cond_true,this,zB,zA,not_false_eq_true,if_true]
 ·simp[c]
theorem zRa{s:RS}(h:Ok s)(m:Int):yB m s.1 s.2=pure (zp m s):=by
 unfold yB zp;rw[uW h,zB,zA]
 by_cases c:m < (zQ s).1
 ·rw[decide_eq_true c,cond_true,if_pos c,Zc 4 (zQ s).2,zB,zA]
 ·rw[decide_eq_false c,cond_false,if_neg c]
theorem xqa(s:RS):yX s.1 s.2=pure ((s.1.length:Int),s):=by
 unfold yX uO;rw[zB,zA]
theorem WM{s:RS}(h:Ok s):zV s.1 s.2=pure (yA s):=by
 unfold zV yA;rw[Wh,zB,zA]
 by_cases c:s.2=0
 ·obtain⟨b,e⟩:=s;simp only at c;subst c;have hL:=xqa (b,0);simp only at hL
  cases b with
  | nil=>
   have:=Zc 2 ([],0);simp only at this;simp[hL,zB,zA,this]
  | cons x r=>
   have ht:=xpa (x::r) 1 0 (by simp);simp only[show((1:Nat):Int)=1 from rfl] at ht;have hd:decide (((x::r).length:Int)=0)=false:=by simp;omega
   simp only[decide_true,Bool.not_true,cond_false,hL,zB,zA,hd,ht];rw[VF (l:=List.take 1 (x::r)) (i:=0) (y:=x) (by omega) rfl,zA];simp
 ·simp[c]
theorem xra{s:RS}(h:Ok s){m:Int}(hm:m<=9223372036854775807):yt m s.1 s.2=pure (Zk m s):=by
 unfold yt Zk;obtain⟨h1,h2,h3⟩:=xL h;rw[uW h,zB,zA,Wh,zB,zA]
 by_cases c:(zQ s).2.2=0
 ·simp only[c,decide_true,Bool.not_true,cond_false,ne_eq,not_true_eq_false,if_false];rw[WY (n:=max m 0) (by omega) (by omega)]
  by_cases c2:max m 0 < (zQ s).1
  ·have hF:=Zc 3 (zQ s).2;rw[c] at hF;rw[decide_eq_true c2,cond_true,if_pos c2,hF,zB,zA]
  ·have hL:=xqa (zQ s).2;rw[c] at hL;rw[decide_eq_false c2,cond_false,if_neg c2,hL,zB,zA];have hlen:=h1.len;rw[WY (n:=((zQ s).2.1.length:Int)) (by omega) (by omega)]
   by_cases c3:((zQ s).2.1.length:Int) < (zQ s).1
   ·have hF:=Zc 2 (zQ s).2;rw[decide_eq_true c3,cond_true,if_pos c3,hF,zB,zA]
   ·rw[decide_eq_false c3,cond_false,if_neg c3,UC (by omega) (by omega)];have ht:=xpa (zQ s).2.1 (zQ s).1.toNat (zQ s).2.2 (by omega);rw[Int.toNat_of_nonneg h2] at ht;rw[ht,zB,zA,c]
 ·simp[c]
theorem u3a(s:RS):yf s.1 s.2=pure (WL s):=by
 unfold yf WL;rw[xqa,zB,zA]
 by_cases c:0 < s.1.length
 ·have:decide ((0:Int) < (s.1.length:Int))=true:=by simpa using c
  simp only[this,cond_true,Zc,zB,zA,if_pos c,Wh]
 ·have:decide ((0:Int) < (s.1.length:Int))=false:=by simpa using c
  simp only[this,cond_false,zA,if_neg c,Wh,zB]
theorem u4a(b row:List Int)(h:row.length+b.length<=100000000000000):yd b row=pure (row++b):=by
 unfold yd;rw[zH (by omega)]
theorem vq{v:Int}(row:List Int)(h0:0<=v)(h:v<=18446744073709551615)(hr:row.length<=10000000000000):zP v row=pure (row++yh v):=by
 unfold zP;have:=zX h;rw[u1a [] h0 h (by simp),zB,zA,List.nil_append,u4a _ _ (by omega),zB,zA]
theorem vY(row:List Int)(h:row.length<=100000000000000):yj row=pure (row,row):=by
 unfold yj;rw[zH (by omega)]
theorem WN(c:Int)(row:List Int)(hr:row.length<=10000000000000):zn c row=pure (row++[c]):=by
 unfold zn;rw[u4a _ _ (by simp;omega),zB,zA]
structure Sim(B:List Int)(a:Int)(s:RS):Prop where
 lo:0<=a
 hi:a<=B.length
 eq:s.2=0->s.1=B.drop a.toNat
structure OkB(B:List Int):Prop where
 by_:By B
 len:B.length<=1000000000
theorem OkB.ok{B:List Int}(h:OkB B):Ok (B,0):=⟨h.by_,h.len,fun h=>absurd rfl h⟩
theorem Sim.bad{B:List Int}{a:Int}{s t:RS}(h:Sim B a s)(ht:t.2≠0):Sim B a t:=⟨h.lo,h.hi,fun h2=>absurd h2 ht⟩
variable{B:List Int}{a:Int}{s:RS}
end Go.Ep.M.N

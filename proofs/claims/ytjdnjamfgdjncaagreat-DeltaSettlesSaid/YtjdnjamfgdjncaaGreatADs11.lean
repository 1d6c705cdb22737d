/- Side texts. -/
import Derived.Test.YtjdnjamfgdjncaaGreatADs10
set_option linter.unusedVariables false
set_option linter.unusedSimpArgs false
namespace Go.Ep.M.C
open Go
def yo(c:List PT)(k:Int):List RN:=(c.filter fun p=>decide (p.dev=k)&&decide (0 < k)).flatMap (·.runs)
theorem Vw(k:Int):yo [] k=[]:=rfl
theorem uz(p:PT)(c:List PT)(k:Int):yo (p::c) k=(if p.dev=k/\0 < k then p.runs else [])++yo c k:=by
 unfold yo;rw[List.filter_cons]
 by_cases h:p.dev=k/\0 < k
 ·simp[h.1,h.2]
 ·rw[if_neg (by simpa using h),if_neg h];rfl
theorem Wl(a b:List PT)(k:Int):yo (a++b) k=yo a k++yo b k:=by simp[yo,List.filter_append]
theorem qI{c:List PT}{k:Int}(h:¬ 0 < k):yo c k=[]:=by simp[yo,h]
def yf(c:List PT)(k n:Int):Bool:=R.yX (yo c k) n
theorem ve(a b:List PT)(k n:Int):yf (a++b) k n=(yf a k n||yf b k n):=by simp[yf,Wl,R.uV]
theorem hasC_nil(k n:Int):yf [] k n=false:=rfl
def uF(c:List PT):Nat:=(c.map fun p=>p.runs.length).sum
theorem XW(a b:List PT):uF (a++b)=uF a+uF b:=by simp[uF]
theorem xq(c:List PT)(k:Int):(yo c k).length<=uF c:=by
 induction c with
 | nil=>simp[yo]
 | cons p r ih=>
  rw[uz,List.length_append];have:uF (p::r)=p.runs.length+uF r:=by simp[uF]
  split
  ·omega
  ·simp;omega
theorem qJ(ks:List Int):(ks.map fun _=>0).sum=0:=by
 induction ks with
 | nil=>rfl
 | cons k r ih=>rw[List.map_cons,List.sum_cons,ih]
theorem qK(c:List PT)(ks:List Int)(h:ks.Nodup):(ks.map fun k=>(yo c k).length).sum<=uF c:=by
 induction c with
 | nil=>simp only[Vw,List.length_nil,qJ];exact Nat.zero_le _
 | cons p r ih=>
  have e:uF (p::r)=p.runs.length+uF r:=by simp[uF]
  have h1:(ks.map fun k=>(yo (p::r) k).length).sum=(ks.map fun k=>if p.dev=k/\0 < k then p.runs.length else 0).sum+(ks.map fun k=>(yo r k).length).sum:=by
   clear h ih
   induction ks with
   | nil=>rfl
   | cons k ks ih2=>
    simp only[List.map_cons,List.sum_cons,uz,List.length_append] at ih2 ⊢
    by_cases hc:p.dev=k/\0 < k
    ·rw[if_pos hc,if_pos hc];omega
    ·rw[if_neg hc,if_neg hc,List.length_nil];omega
  have h2:(ks.map fun k=>if p.dev=k/\0 < k then p.runs.length else 0).sum<=p.runs.length:=by
   clear ih h1 e
   induction ks with
   | nil=>simp
   | cons k ks ih2=>
    obtain⟨n1,n2⟩:=List.nodup_cons.1 h;simp only[List.map_cons,List.sum_cons]
    by_cases hk:p.dev=k
    ·have h0:(ks.map fun k=>if p.dev=k/\0 < k then p.runs.length else 0).sum=0:=by
      have:(ks.map fun k=>if p.dev=k/\0 < k then p.runs.length else 0)=ks.map fun _=>0:=by
       refine List.map_congr_left fun q hq=>?_
       rw[if_neg];rintro⟨e,_⟩;exact n1 (by rw[<- hk,e];exact hq)
      rw[this];exact qJ ks
     rw[h0]
     split <;> omega
    ·rw[if_neg (fun h=>hk h.1)];have:=ih2 n2;omega
  omega
def OrdP(l:List PT):Prop:=l.Pairwise fun x y=>x.dev < y.dev
theorem Vx : ∀ {l l':List PT},OrdP l->OrdP l'->(∀ d,d∈l↔d∈l')->l=l'
 | [],[],_,_,_=>rfl
 | [],y::r,_,_,h=>absurd ((h y).2 (by simp)) (by simp)
 | x::r,[],_,_,h=>absurd ((h x).1 (by simp)) (by simp)
 | x::r,y::q,h1,h2,h=>by
  obtain⟨a1,a2⟩:=List.pairwise_cons.1 h1;obtain⟨b1,b2⟩:=List.pairwise_cons.1 h2;have e:x=y:=by
   rcases List.mem_cons.1 ((h x).1 (by simp)) with e | hx
   ·exact e
   ·rcases List.mem_cons.1 ((h y).2 (by simp)) with e | hy
    ·exact e.symm
    ·have:=a1 y hy;have:=b1 x hx;omega
  subst e
  congr 1
  refine Vx a2 b2 fun d=>⟨fun hd=>?_,fun hd=>?_⟩
  ·rcases List.mem_cons.1 ((h d).1 (List.mem_cons_of_mem _ hd)) with e | hx
   ·subst e;have:=a1 d hd;omega
   ·exact hx
  ·rcases List.mem_cons.1 ((h d).2 (List.mem_cons_of_mem _ hd)) with e | hx
   ·subst e;have:=b1 d hd;omega
   ·exact hx
def yZ(f:Int->List RN)(ks:List Int):List PT:=ks.filterMap fun k=>if f k=[] then none else some ⟨k,f k⟩
theorem ZA{f:Int->List RN}{ks:List Int}{p:PT}:p∈yZ f ks↔p.dev∈ks/\p.runs≠[]/\p.runs=f p.dev:=by
 unfold yZ;rw[List.mem_filterMap]
 constructor
 ·rintro⟨k,hk,h⟩
  split at h
  ·cases h
  ·rename_i h0;cases h;exact⟨hk,h0,rfl⟩
 ·rintro⟨h1,h2,h3⟩;refine⟨p.dev,h1,?_⟩;rw[if_neg (by rw[<- h3];exact h2),<- h3]
theorem vb{f:Int->List RN}{ks:List Int}(h:ks.Pairwise (· < ·)):OrdP (yZ f ks):=by
 unfold OrdP yZ;rw[List.pairwise_filterMap];refine h.imp fun {a b} hab x hx y hy=>?_
 split at hx
 ·cases hx
 ·split at hy
  ·cases hy
  ·cases hx;cases hy;exact hab
theorem Us{f g:Int->List RN}{ks ls:List Int}(h1:ks.Pairwise (· < ·))(h2:ls.Pairwise (· < ·))(hf:∀ k,f k=g k)(h:∀ k,f k≠[]->(k∈ks↔k∈ls)):yZ f ks=yZ g ls:=by
 refine Vx (vb h1) (vb h2) fun p=>?_
 rw[ZA,ZA]
 constructor
 ·rintro⟨a,b,c⟩;exact⟨(h _ (by rw[<- c];exact b)).1 a,b,by rw[c,hf]⟩
 ·rintro⟨a,b,c⟩;exact⟨(h _ (by rw[hf,<- c];exact b)).2 a,b,by rw[c,hf]⟩
theorem Ut(f:Int->List RN)(ks:List Int):(yZ f ks).length<=ks.length:=List.length_filterMap_le _ _
theorem Uu(f:Int->List RN)(ks:List Int):uF (yZ f ks)=(ks.map fun k=>(f k).length).sum:=by
 induction ks with
 | nil=>rfl
 | cons k ks ih=>
  have:yZ f (k::ks)=(if f k=[] then [] else [⟨k,f k⟩])++yZ f ks:=by
   unfold yZ
   by_cases h:f k=[] <;> simp[h]
  rw[this,XW,ih]
  by_cases h:f k=[] <;> simp[h,uF]
theorem Uv{f:Int->List RN}{ks:List Int}(h:ks.Nodup)(k:Int):yo (yZ f ks) k=if k∈ks/\0 < k then f k else []:=by
 induction ks with
 | nil=>simp[yZ,yo]
 | cons q ks ih=>
  obtain⟨n1,n2⟩:=List.nodup_cons.1 h;have e:yZ f (q::ks)=(if f q=[] then [] else [⟨q,f q⟩])++yZ f ks:=by
   unfold yZ
   by_cases h:f q=[] <;> simp[h]
  rw[e,Wl,ih n2]
  by_cases hq:q=k
  ·subst hq;rw[if_neg (fun(h:q∈ks/\0 < q)=>n1 h.1),List.append_nil]
   by_cases h0:f q=[]
   ·rw[if_pos h0,h0];simp[yo]
   ·rw[if_neg h0]
    by_cases hp:0 < q
    ·rw[if_pos ⟨List.mem_cons_self,hp⟩];simp[yo,hp]
    ·rw[if_neg (fun h=>hp h.2)];exact qI hp
  ·have:yo (if f q=[] then [] else [(⟨q,f q⟩:PT)]) k=[]:=by
    by_cases h0:f q=[] <;> simp[h0,yo,hq]
   rw[this];have hm:(k∈q::ks)↔k∈ks:=by simp[Ne.symm hq]
   simp only[hm,List.nil_append]
def QX(l:List Int)(p:PT):List Int:=if 0 < p.dev then V.jS l p.dev else l
def Xh(c:List PT):List Int:=c.foldl QX []
theorem Wh(c:List PT):∀ l:List Int,l.Pairwise (· < ·)->(c.foldl QX l).Pairwise (· < ·)/\(∀ k,k∈c.foldl QX l↔k∈l\/∃ p∈c,p.dev=k/\0 < k)/\(c.foldl QX l).length<=l.length+c.length:=by
 induction c with
 | nil=>intro l h;simp[h]
 | cons p r ih=>
  intro l h;rw[List.foldl_cons]
  by_cases hp:0 < p.dev
  ·have e:QX l p=V.jS l p.dev:=by simp[QX,hp]
   rw[e];obtain⟨h1,h2,h3⟩:=ih _ (V.ux h p.dev);refine⟨h1,fun k=>?_,by have:=V.Wg l p.dev;simp;omega⟩;rw[h2,V.Vv]
   constructor
   ·rintro((rfl | h4) | ⟨x,h4,h5⟩)
    ·exact .inr ⟨p,by simp,rfl,hp⟩
    ·exact .inl h4
    ·exact .inr ⟨x,by simp[h4],h5⟩
   ·rintro(h4 | ⟨x,h4,h5,h6⟩)
    ·exact .inl (.inr h4)
    ·rcases List.mem_cons.1 h4 with rfl | h4
     ·exact .inl (.inl h5.symm)
     ·exact .inr ⟨x,h4,h5,h6⟩
  ·have e:QX l p=l:=by simp[QX,hp]
   rw[e];obtain⟨h1,h2,h3⟩:=ih _ h;refine⟨h1,fun k=>?_,by simp;omega⟩;rw[h2]
   constructor
   ·rintro(h4 | ⟨x,h4,h5⟩)
    ·exact .inl h4
    ·exact .inr ⟨x,by simp[h4],h5⟩
   ·rintro(h4 | ⟨x,h4,h5,h6⟩)
    ·exact .inl h4
    ·rcases List.mem_cons.1 h4 with rfl | h4
     ·rw[h5] at hp;exact absurd h6 hp
     ·exact .inr ⟨x,h4,h5,h6⟩
theorem wb(c:List PT):(Xh c).Pairwise (· < ·):=(Wh c [] List.Pairwise.nil).1
theorem QY{l:List Int}(h:l.Pairwise (· < ·)):l.Nodup:=h.imp fun {a b} h e=>by omega
theorem Zo(c:List PT):(Xh c).Nodup:=QY (wb c)
theorem vJ{c:List PT}{k:Int}:k∈Xh c↔(∃ p∈c,p.dev=k)/\0 < k:=by
 have:=(Wh c [] List.Pairwise.nil).2.1 k;unfold Xh;rw[this];simp only[List.not_mem_nil,false_or]
 constructor
 ·rintro⟨p,h1,h2,h3⟩;exact⟨⟨p,h1,h2⟩,h3⟩
 ·rintro⟨⟨p,h1,h2⟩,h3⟩;exact⟨p,h1,h2,h3⟩
theorem yDa(c:List PT):(Xh c).length<=c.length:=by simpa[Xh] using (Wh c [] List.Pairwise.nil).2.2
theorem ZR{c:List PT}{k:Int}(h:yo c k≠[]):k∈Xh c:=by
 rw[vJ];refine Classical.byContradiction fun hn=>h ?_
 unfold yo;have:(c.filter fun p=>decide (p.dev=k)&&decide (0 < k))=[]:=by
  rw[List.filter_eq_nil_iff];intro p hp;simp only[Bool.and_eq_true,decide_eq_true_eq];rintro⟨h1,h2⟩;exact hn ⟨⟨p,hp,h1⟩,h2⟩
 rw[this];rfl
def opC(op:Bool->Bool->Bool)(a b:List PT):List PT:=yZ (fun k=>R.ZQ op (yo a k) (yo b k)) (Xh (a++b))
def zb(c:List PT):List PT:=yZ (fun k=>R.nrm (yo c k)) (Xh c)
theorem yEa{op:Bool->Bool->Bool}(h0:op false false=false):R.ZQ op [] []=[]:=by
 have:=R.zr op h0 [] [];exact R.Wi this.1 trivial fun n=>by rw[this.2.1];exact h0
theorem Uw : R.nrm []=[]:=yEa rfl
theorem vN{op:Bool->Bool->Bool}(h0:op false false=false)(a b:List PT)(k n:Int):yf (opC op a b) k n=op (yf a k n) (yf b k n):=by
 unfold yf opC;rw[Uv (Zo _)]
 split
 ·rw[(R.zr op h0 _ _).2.1]
 ·rename_i h
  have e:yo a k=[]/\yo b k=[]:=by
   have h1:yo (a++b) k=[]:=Classical.byContradiction fun h2=>h ⟨ZR h2,(vJ.1 (ZR h2)).2⟩
   rw[Wl] at h1;simpa using h1
  rw[e.1,e.2];show R.yX [] n=_;simp[R.yX,h0]
theorem zx(c:List PT)(k n:Int):yf (zb c) k n=yf c k n:=by
 unfold yf zb;rw[Uv (Zo _)]
 split
 ·rw[R.vM]
 ·rename_i h
  have e:yo c k=[]:=Classical.byContradiction fun h2=>h ⟨ZR h2,(vJ.1 (ZR h2)).2⟩
  rw[e]
structure Canon(c:List PT):Prop where
 ord:OrdP c
 nf:∀ p∈c,0 < p.dev/\p.runs≠[]/\R.Nf p.runs
theorem Ux{f:Int->List RN}{c:List PT}(h:∀ k,R.Nf (f k)):Canon (yZ f (Xh c)):=⟨vb (wb c),fun p hp=>by
 obtain⟨h1,h2,h3⟩:=ZA.1 hp;exact⟨(vJ.1 h1).2,h2,by rw[h3];exact h _⟩⟩
theorem xr{op:Bool->Bool->Bool}(h0:op false false=false)(a b:List PT):Canon (opC op a b):=Ux fun _=>(R.zr op h0 _ _).1
theorem yp(c:List PT):Canon (zb c):=Ux fun _=>R.YQ _
theorem qL : ∀ {c:List PT},OrdP c->∀ p∈c,0 < p.dev->yo c p.dev=p.runs
 | [],_,p,hp,_=>by simp at hp
 | q::r,h,p,hp,h0=>by
  obtain⟨h1,h2⟩:=List.pairwise_cons.1 h;rw[uz];rcases List.mem_cons.1 hp with rfl | hp
  ·rw[if_pos ⟨rfl,h0⟩];have:yo r p.dev=[]:=by
    unfold yo;have:(r.filter fun x=>decide (x.dev=p.dev)&&decide (0 < p.dev))=[]:=by
     rw[List.filter_eq_nil_iff];intro x hx;have:=h1 x hx;simp;omega
    rw[this];rfl
   rw[this,List.append_nil]
  ·have:=h1 p hp;rw[if_neg (by omega),qL h2 p hp h0];rfl
theorem Canon.eq_norm{c:List PT}(h:Canon c):c=zb c:=by
 refine Vx h.ord (yp c).ord fun p=>?_
 unfold zb;rw[ZA]
 constructor
 ·intro hp;obtain⟨h1,h2,h3⟩:=h.nf p hp;exact⟨vJ.2 ⟨⟨p,hp,rfl⟩,h1⟩,h2,by rw[qL h.ord p hp h1,R.qE h3]⟩
 ·rintro⟨h1,h2,h3⟩;obtain⟨⟨q,hq,hd⟩,h0⟩:=vJ.1 h1;obtain⟨g1,g2,g3⟩:=h.nf q hq;have e:yo c p.dev=q.runs:=by rw[<- hd];exact qL h.ord q hq g1
  rw[e,R.qE g3] at h3;have:p=q:=by cases p;cases q;simp_all
  rw[this];exact hq
theorem Uy{a b:List PT}(h:∀ k n,yf a k n=yf b k n):zb a=zb b:=by
 have hf:∀ k,R.nrm (yo a k)=R.nrm (yo b k):=fun k=>R.Wi (R.YQ _) (R.YQ _) fun n=>by rw[R.vM,R.vM];exact h k n
 refine Us (wb a) (wb b) hf fun k hk=>?_
 have ha:yo a k≠[]:=fun e=>hk (by rw[e];exact Uw)
 have hb:yo b k≠[]:=fun e=>hk (by rw[hf,e];exact Uw)
 exact⟨fun _=>ZR hb,fun _=>ZR ha⟩
theorem Canon.ext{a b:List PT}(ha:Canon a)(hb:Canon b)(h:∀ k n,yf a k n=yf b k n):a=b:=by rw[ha.eq_norm,hb.eq_norm];exact Uy h
theorem ub{c:List PT}(h:Canon c):zb c=c:=h.eq_norm.symm
theorem norm_or(a b:List PT):zb (a++b)=opC (·||·) a b:=(yp _).ext (xr rfl a b) fun k n=>by rw[zx,ve,vN rfl]
theorem Uz : Canon []:=⟨List.Pairwise.nil,fun p h=>by simp at h⟩
theorem yua{c:List PT}(h:Canon c)(h2:∀ k n,yf c k n=false):c=[]:=h.ext Uz fun k n=>by rw[h2];rfl
theorem Yt(c:List PT):decide (c=zb c)=true↔Canon c:=by
 rw[decide_eq_true_iff];exact⟨fun h=>by rw[h];exact yp c,fun h=>h.eq_norm⟩
theorem vu(c:List PT):(zb c).length<=c.length:=Nat.le_trans (Ut _ _) (yDa c)
theorem len_opC(op:Bool->Bool->Bool)(a b:List PT):(opC op a b).length<=a.length+b.length:=Nat.le_trans (Ut _ _) (by have:=yDa (a++b);simpa using this)
theorem sum_le{ks:List Int}{f g:Int->Nat}(h:∀ k,f k<=g k):(ks.map f).sum<=(ks.map g).sum:=by
 induction ks with
 | nil=>simp
 | cons k r ih=>have:=h k;simp;omega
theorem wKa(ks:List Int)(f g:Int->Nat):(ks.map fun k=>2*(f k+g k)).sum=2*((ks.map f).sum+(ks.map g).sum):=by
 induction ks with
 | nil=>rfl
 | cons k r ih=>simp;omega
theorem tot_opC{op:Bool->Bool->Bool}(h0:op false false=false)(a b:List PT):uF (opC op a b)<=2*(uF a+uF b):=by
 unfold opC;rw[Uu];refine Nat.le_trans (sum_le fun k=>(R.zr op h0 (yo a k) (yo b k)).2.2) ?_;rw[wKa];have h1:=qK a (Xh (a++b)) (Zo _);have h2:=qK b (Xh (a++b)) (Zo _);omega
theorem vv(c:List PT):uF (zb c)<=2*uF c:=by
 unfold zb;rw[Uu];refine Nat.le_trans (sum_le (g:=fun k=>2*((yo c k).length+0)) fun k=>by have:=R.uy (yo c k);omega) ?_;rw[wKa];have h1:=qK c (Xh c) (Zo _);have h2:=qJ (Xh c);omega
theorem get_grow(l:List (Int×List RN)):∀ (m:List (Int×List RN)) (k:Int),AL.getZ (AL.grow m l) k []=AL.getZ m k []++(l.filter fun x=>decide (x.1=k)).flatMap (·.2):=by
 induction l with
 | nil=>intro m k;simp[AL.grow]
 | cons x r ih=>
  intro m k;show AL.getZ (AL.grow (AL.set m x.1 (AL.getZ m x.1 []++x.2)) r) k []=_;rw[ih,AL.getZ_set,List.filter_cons]
  by_cases h:x.1=k
  ·subst h;simp
  ·simp[h]
theorem yva(l:List (Int×List RN)):∀ m:List (Int×List RN),(m.map (·.1)).Nodup->((AL.grow m l).map (·.1)).Nodup:=by
 induction l with
 | nil=>intro m h;exact h
 | cons x r ih=>intro m h;exact ih _ (AL.nodup_set h _ _)
theorem len_grow(l:List (Int×List RN)):∀ m:List (Int×List RN),(AL.grow m l).length<=m.length+l.length:=by
 induction l with
 | nil=>intro m;exact Nat.le_refl _
 | cons x r ih=>
  intro m;have h1:=ih (AL.set m x.1 (AL.getZ m x.1 []++x.2));have h2:=AL.len_set m x.1 (AL.getZ m x.1 []++x.2);show(AL.grow (AL.set m x.1 (AL.getZ m x.1 []++x.2)) r).length<=_;simp only[List.length_cons];omega
theorem key_grow(l:List (Int×List RN)):∀ (m:List (Int×List RN)) (k:Int),k∈(AL.grow m l).map (·.1)->k∈m.map (·.1)\/∃ x∈l,x.1=k:=by
 induction l with
 | nil=>intro m k h;exact .inl h
 | cons x r ih=>
  intro m k h;rcases ih _ k h with h | ⟨y,hy,e⟩
  ·rw[AL.keys_set] at h
   split at h
   ·exact .inl h
   ·rcases List.mem_append.1 h with h | h
    ·exact .inl h
    ·exact .inr ⟨x,by simp,(List.mem_singleton.1 h).symm⟩
  ·exact .inr ⟨y,by simp[hy],e⟩
def vR(c:List PT):List (Int×List RN):=AL.grow [] (c.filterMap zm)
theorem vK(c:List PT)(k:Int):AL.getZ (vR c) k []=yo c k:=by
 unfold vR;rw[get_grow];show[]++_=_;rw[List.nil_append]
 induction c with
 | nil=>rfl
 | cons p r ih=>
  rw[uz,<- ih,List.filterMap_cons]
  by_cases h0:0 < p.dev
  ·have e:zm p=some (p.dev,p.runs):=by simp[zm,h0]
   rw[e];simp only[List.filter_cons]
   by_cases h:p.dev=k
   ·subst h;simp[h0]
   ·simp[h]
  ·have e:zm p=none:=by simp[zm,h0]
   rw[e,if_neg (by rintro⟨h1,h2⟩;omega)];rfl
theorem va(c:List PT):((vR c).map (·.1)).Nodup:=yva _ _ (by simp)
theorem yFa(c:List PT):(vR c).length<=c.length:=by
 have h1:=len_grow (c.filterMap zm) [];have h2:=List.length_filterMap_le zm c;unfold vR;simp at h1;omega
theorem told_pos{c:List PT}{k:Int}(h:k∈(vR c).map (·.1)):0 < k/\k∈Xh c:=by
 rcases key_grow _ _ _ h with h | ⟨x,hx,rfl⟩
 ·simp at h
 ·rw[List.mem_filterMap] at hx;obtain⟨p,hp,hx⟩:=hx;unfold zm at hx
  split at hx
  ·rename_i h0;cases hx;exact⟨h0,vJ.2 ⟨⟨p,hp,rfl⟩,h0⟩⟩
  ·cases hx
theorem ZP{c:List PT}{e:Int×List RN}(h:e∈vR c):e.2=yo c e.1/\0 < e.1/\e.1∈Xh c:=by
 have h1:=AL.mem_get (va c) (k:=e.1) (v:=e.2) h;have h2:=vK c e.1;unfold AL.getZ at h2;rw[h1] at h2;exact⟨h2,told_pos (List.mem_map.2 ⟨e,h,rfl⟩)⟩
theorem wLa{c:List PT}{k:Int}(h:yo c k≠[]):(k,yo c k)∈vR c:=by
 have h2:=vK c k;unfold AL.getZ at h2
 cases hg:AL.get (vR c) k with
 | none=>rw[hg] at h2;exact absurd h2.symm h
 | some v=>rw[hg] at h2;simp only[Option.getD_some] at h2;subst h2;exact AL.get_mem hg
theorem yGa(c:List PT):((c.filterMap zm).map fun x=>x.2.length).sum<=uF c:=by
 induction c with
 | nil=>simp
 | cons p r ih=>
  have e:uF (p::r)=p.runs.length+uF r:=by simp[uF]
  rw[List.filterMap_cons]
  by_cases h0:0 < p.dev
  ·have e2:zm p=some (p.dev,p.runs):=by simp[zm,h0]
   rw[e2];simp only[List.map_cons,List.sum_cons];omega
  ·have e2:zm p=none:=by simp[zm,h0]
   rw[e2];simp only;omega
def Sm(c:List PT):Prop:=c.length<=10000000000/\uF c<=10000000000
theorem VI(c:List PT)(h:Sm c):uM c=pure (vR c):=by
 unfold uM;rw[zE]
 ·rfl
 ·have:=yGa c;refine⟨by have:=h.1;omega,?_⟩;have:=h.2;omega
theorem yHa(m:List (Int×List RN))(f:Int->List RN)(ks:List Int)(hl:m.length<=1000000000000)(hr:∀ e∈m,e.2.length<=1000000000000)(hn:(m.map (·.1)).Nodup)(hs:ks.Pairwise (· < ·))(h1:∀ e∈m,R.nrm e.2≠[]->e.1∈ks/\R.nrm e.2=f e.1)(h2:∀ k∈ks,f k≠[]->∃ r,(k,r)∈m/\R.nrm r=f k):wx m=pure (yZ f ks):=by
 unfold wx;have hall:∀ Q:List PT->Prop,(∀ l:List (Int×List RN),l.Perm m->Q ((l.filter fun e=>decide (R.nrm e.2≠[])).map fun e=>(⟨e.1,R.nrm e.2⟩:PT)))->(loop (ZI m) ([],([]:List PT))).wp Q:=by
  intro Q hQ;refine M.loopM (body:=ZI m) m (fun L (t:List PT)=>(L,t)) (fun t e=>(xf e.2).det.bind fun v=>if 0 < v.length then yc ((t.length+1)*32<=140737488355328) (pure (t++[(⟨e.1,v⟩:PT)])) else pure t) (fun t=>pure t)
   (fun l t=>t=((l.filter fun e=>decide (R.nrm e.2≠[])).map fun e=>(⟨e.1,R.nrm e.2⟩:PT))) Q (fun L t hL=>?_) (fun l t y ht hlen hy=>?_) (fun l t hp ht=>?_) [] rfl
  ·unfold ZI;show yc _ ((nxt _ _).bind _)=yc _ ((nxt _ _).bind _);refine congrArg (fun k=>yc _ ((nxt _ _).bind k)) (funext fun o=>?_)
   cases o with
   | none=>rfl
   | some i=>
    refine congrArg (fun k=>(idx m (Int.ofNat i)).bind k) (funext fun y=>?_);rw[jk];refine congrArg (fun k=>(xf y.2).det.bind k) (funext fun v=>?_);rw[yw]
    by_cases h:0 < v.length
    ·rw[if_pos (by omega),if_pos h];rfl
    ·rw[if_neg (by omega),if_neg h];rfl
  ·have hle:=List.length_filter_le (fun e:Int×List RN=>decide (R.nrm e.2≠[])) l;have htl:t.length<=l.length:=by rw[ht,List.length_map];exact hle
   rw[R.VH y.2 (hr y hy),zB,zA];refine⟨if R.nrm y.2=[] then t else t++[⟨y.1,R.nrm y.2⟩],?_,?_⟩
   ·by_cases h:R.nrm y.2=[]
    ·rw[if_neg (by rw[h];simp),if_pos h]
    ·rw[if_pos (by rw[List.length_pos_iff];exact h),if_neg h,zE (by omega)]
   ·subst ht;rw[List.filter_append,List.map_append]
    by_cases h:R.nrm y.2=[] <;> simp[h]
  ·subst ht;exact hQ l hp
 refine ug (hall _ fun l hp=>?_);show(yc _ _).wp _;have hll:=hp.length_eq;have hle:=List.length_filter_le (fun e:Int×List RN=>decide (R.nrm e.2≠[])) l;have hmem:∀ d:PT,d∈((l.filter fun e=>decide (R.nrm e.2≠[])).map fun e=>(⟨e.1,R.nrm e.2⟩:PT))↔d∈yZ f ks:=by
  intro d;rw[ZA,List.mem_map]
  constructor
  ·rintro⟨e,he,rfl⟩;rw[List.mem_filter,hp.mem_iff] at he;have h0:R.nrm e.2≠[]:=by simpa using he.2
   obtain⟨h3,h4⟩:=h1 e he.1 h0;exact⟨h3,h0,h4⟩
  ·rintro⟨h3,h4,h5⟩;obtain⟨r,h6,h7⟩:=h2 d.dev h3 (by rw[<- h5];exact h4);refine⟨(d.dev,r),?_,by show(⟨d.dev,R.nrm r⟩:PT)=d;rw[h7,<- h5]⟩;rw[List.mem_filter,hp.mem_iff];refine⟨h6,?_⟩;simp only[decide_eq_true_eq];rw[h7,<- h5];exact h4
 have hnd:((l.filter fun e=>decide (R.nrm e.2≠[])).map fun e=>(⟨e.1,R.nrm e.2⟩:PT)).Pairwise (fun x y=>x.dev≠y.dev):=by
  rw[List.pairwise_map];have:l.Pairwise (fun x y=>x.1≠y.1):=by
   have:=(hp.map (·.1)).nodup_iff.2 hn;exact List.pairwise_map.1 this
  exact(this.filter _)
 refine⟨by simp only[List.length_map];omega,⟨?_,fun l' ⟨hp',hs'⟩=>?_⟩⟩
 ·refine⟨yZ f ks,?_,?_⟩
  ·refine(List.perm_ext_iff_of_nodup ?_ ?_).2 fun d=>(hmem d).symm
   ·exact(vb hs).imp fun {a b} h e=>by subst e;omega
   ·exact hnd.imp fun {a b} h e=>by subst e;exact h rfl
  ·exact(vb hs).imp fun {a b} h=>by simp[jm];omega
 ·show l'=_;refine Vx ?_ (vb hs) fun d=>by rw[hp'.mem_iff];exact hmem d
  have hnd':=(hp'.pairwise_iff (fun {a b} h=>Ne.symm h)).2 hnd;exact(hs'.and hnd').imp fun {a b} ⟨h3,h4⟩=>by simp[jm] at h3;omega
theorem jv(c:List PT)(h:Sm c):wx (vR c)=pure (zb c):=by
 refine yHa _ _ _ (by have:=yFa c;have:=h.1;omega) (fun e he=>?_) (va c) (wb c) (fun e he h0=>?_) (fun k hk h0=>?_)
 ·rw[(ZP he).1];have:=xq c e.1;have:=h.2;omega
 ·obtain⟨h1,h2,h3⟩:=ZP he;exact⟨h3,by rw[h1]⟩
 ·exact⟨_,wLa (fun e=>h0 (by rw[e];exact Uw)),rfl⟩
theorem jA(c:List PT)(h:Sm c):ZJ c=pure (zb c):=by
 unfold ZJ;rw[VI c h,zB,zA,jv c h,zB,zA]
theorem Runs_eq(c:List PT)(k:Int)(h:Sm c):Vl c k=pure (R.nrm (yo c k)):=by
 unfold Vl;rw[VI c h,zB,zA,vK,R.VH _ (by have:=xq c k;have:=h.2;omega),zB,zA]
theorem VZ(c:List PT)(d:DT)(h:Sm c):uB c d=pure (yf c d.dev d.n):=by
 unfold uB;rw[yw]
 by_cases h0:0 < d.dev
 ·rw[if_pos h0,Runs_eq c _ h,zB,zA,R.has_eq _ _ (by have:=R.uy (yo c d.dev);have:=xq c d.dev;have:=h.2;omega),zB,zA,zA,R.vM]
  rfl
 ·rw[if_neg h0,zA];show pure false=pure (R.yX (yo c d.dev) d.n);rw[qI h0];rfl
def yD(l:List DT):List PT:=(l.filter V.yC).map fun d=>⟨d.dev,[⟨d.n,d.n⟩]⟩
theorem goodB(d:DT):Zd d=V.yC d:=by
 rw[Bool.eq_iff_iff,V.xK];simp[Zd];omega
theorem ofF(d:DT):vA d=if V.yC d=true then some (d.dev,[⟨d.n,d.n⟩]) else none:=by unfold vA;rw[goodB]
theorem wMa(l:List DT):l.filterMap vA=(yD l).filterMap zm:=by
 induction l with
 | nil=>rfl
 | cons d r ih=>
  unfold yD at ih ⊢;rw[List.filterMap_cons,List.filter_cons,ofF]
  by_cases h:V.yC d=true
  ·rw[if_pos h,if_pos h,List.map_cons,List.filterMap_cons];have:zm ⟨d.dev,[⟨d.n,d.n⟩]⟩=some (d.dev,[⟨d.n,d.n⟩]):=by
    have:=V.xK.1 h;unfold zm;rw[if_pos (by show 0 < d.dev;omega)]
   rw[this,<- ih]
  ·rw[if_neg h,if_neg h,<- ih]
theorem vO(l:List DT):(yD l).length<=l.length:=by rw[yD,List.length_map];exact List.length_filter_le _ _
theorem XX(l:List DT):uF (yD l)<=l.length:=by
 have:uF (yD l)=(yD l).length:=by
  unfold yD
  generalize l.filter V.yC=q
  induction q with
  | nil=>rfl
  | cons x r ih=>simp[uF] at ih ⊢;omega
 have:=vO l;omega
theorem sm_dots{l:List DT}(h:l.length<=10000000000):Sm (yD l):=⟨by have:=vO l;omega,by have:=XX l;omega⟩
theorem qM(l:List DT)(k n:Int):yf (yD l) k n=true↔∃ d∈l,V.yC d=true/\d.dev=k/\d.n=n:=by
 induction l with
 | nil=>simp[yf,yD,yo,R.yX]
 | cons d r ih=>
  have e:yD (d::r)=(if V.yC d=true then [⟨d.dev,[⟨d.n,d.n⟩]⟩] else [])++yD r:=by
   unfold yD;rw[List.filter_cons]
   by_cases h:V.yC d=true <;> simp[h]
  rw[e,ve,Bool.or_eq_true,ih];have h1:yf (if V.yC d=true then [⟨d.dev,[⟨d.n,d.n⟩]⟩] else []) k n=true↔V.yC d=true/\d.dev=k/\d.n=n:=by
   by_cases h:V.yC d=true
   ·have hg:=V.xK.1 h;rw[if_pos h];unfold yf;rw[uz,Vw,List.append_nil]
    by_cases hk:d.dev=k/\0 < k
    ·rw[if_pos hk,R.vL,R.xB];show(1<=d.n/\d.n<=d.n/\d.n<=281474976710655)/\d.n<=n/\n<=d.n↔_
     constructor
     ·intro h2;exact⟨h,hk.1,by omega⟩
     ·rintro⟨_,_,h3⟩;omega
    ·rw[if_neg hk]
     constructor
     ·intro h2;cases h2
     ·rintro⟨_,h2,_⟩;exact absurd ⟨h2,by omega⟩ hk
   ·rw[if_neg h]
    constructor
    ·intro h2;cases h2
    ·rintro⟨h2,_⟩;exact absurd h2 h
  rw[h1]
  constructor
  ·rintro(h2 | ⟨x,h2,h3⟩)
   ·exact⟨d,by simp,h2⟩
   ·exact⟨x,by simp[h2],h3⟩
  ·rintro⟨x,h2,h3⟩;rcases List.mem_cons.1 h2 with rfl | h2
   ·exact .inl h3
   ·exact .inr ⟨x,h2,h3⟩
theorem Of_eq(l:List DT)(h:l.length<=10000000000):zsa l=pure (zb (yD l)):=by
 unfold zsa;rw[wMa,zE]
 ·have:=jv (yD l) (sm_dots h);unfold vR at this;rw[this,zB,zA]
 ·have h1:=yGa (yD l);have h2:=XX l;exact⟨by omega,by omega⟩
theorem growC_eq(n:Int)(h0:0<=n)(h:n<=1000000000000):yd n=pure []:=by
 unfold yd;have e:IntKind.i64.wrap (n - IntKind.i64.wrap (0 - 0))=n:=by
  rw[Wc (n:=0 - 0) (by omega) (by omega),Wc (by omega) (by omega)];omega
 simp only[e,yw];rw[if_neg (by omega)]
 split
 ·rw[zE ⟨by omega,by omega⟩,zE ⟨by omega,by omega,by omega⟩];simp[zA]
 ·simp[zA]
theorem ywa(a b:List PT)(h:a.length+b.length<=1000000000000):yv [a,b]=pure (a++b):=by
 unfold yv;have e1:zh [a,b] (0,0)=pure (.next ((a.length:Int),1)):=by
  unfold zh;have:IntKind.i64.wrap (0+(a.length:Int))=a.length:=by rw[Wc (by omega) (by omega)];omega
  simp only[yw,Xn (l:=[a,b]) (i:=0) (y:=a) (by omega) rfl,zA,this];rw[if_pos (by simp),if_neg (by omega),Wc (by omega) (by omega)];rfl
 have e2:zh [a,b] ((a.length:Int),1)=pure (.next ((a.length:Int)+b.length,2)):=by
  unfold zh;have:IntKind.i64.wrap ((a.length:Int)+b.length)=a.length+b.length:=by rw[Wc (by omega) (by omega)]
  simp only[yw,Xn (l:=[a,b]) (i:=1) (y:=b) (by omega) rfl,zA,this];rw[if_pos (by simp),if_neg (by omega),Wc (by omega) (by omega)];rfl
 have e3:zh [a,b] ((a.length:Int)+b.length,2)=pure (.done ((a.length:Int)+b.length)):=by
  unfold zh;simp
 have f1:zi [a,b] (0,[])=pure (.next (1,a)):=by
  unfold zi;simp only[yw,Xn (l:=[a,b]) (i:=0) (y:=a) (by omega) rfl,zA];rw[if_pos (by simp),zE (by simp;omega),Wc (by omega) (by omega)];rfl
 have f2:zi [a,b] (1,a)=pure (.next (2,a++b)):=by
  unfold zi;simp only[yw,Xn (l:=[a,b]) (i:=1) (y:=b) (by omega) rfl,zA];rw[if_pos (by simp),zE (by omega),Wc (by omega) (by omega)];rfl
 have f3:zi [a,b] (2,a++b)=pure (.done (a++b)):=by
  unfold zi;simp
 rw[yI e1,yI e2,yJ e3,zA,growC_eq _ (by omega) (by omega),zB,zA,yI f1,yI f2,yJ f3,zA]
theorem sm_app{a b:List PT}(ha:a.length+b.length<=10000000000)(hb:uF a+uF b<=10000000000):Sm (a++b):=⟨by rw[List.length_append];exact ha,by rw[XW];exact hb⟩
theorem wNa(a b:List PT)(h:Sm (a++b)):WK a b=pure (opC (·||·) a b):=by
 unfold WK;rw[ywa a b (by have:=h.1;rw[List.length_append] at this;omega),zB,zA,jA _ h,zB,zA,norm_or]
theorem Add_eq(c:List PT)(l:List DT)(hl:l.length<=1000000000)(h1:c.length<=1000000000)(h2:uF c<=1000000000):UQ c l=pure (opC (·||·) c (yD l)):=by
 unfold UQ;have h3:=vO l;have h4:=XX l;have h5:=vu (yD l);have h6:=vv (yD l);rw[Of_eq l (by omega),zB,zA,wNa _ _ (sm_app (by omega) (by omega)),zB,zA];refine congrArg pure ((xr rfl _ _).ext (xr rfl _ _) fun k n=>?_);rw[vN rfl,vN rfl,zx]
def QR(h:Int×List RN->List RN)(m:List (Int×List RN))(L:List Nat):List (Int×List RN):=m.zipIdx.map fun y=>if y.2∈L then (y.1.1,h y.1) else y.1
theorem uU{h:Int×List RN->List RN}{m:List (Int×List RN)}{L:List Nat}{i:Nat}:(QR h m L)[i]?=(m[i]?).map fun e=>if i∈L then (e.1,h e) else e:=by
 unfold QR;rw[List.getElem?_map,List.getElem?_zipIdx]
 cases m[i]? <;> simp
theorem Jx{h:Int×List RN->List RN}{m:List (Int×List RN)}{L:List Nat}:(QR h m L).length=m.length:=by simp[QR]
theorem set_at{m:List (Int×List RN)}(hn:(m.map (·.1)).Nodup){i:Nat}{e:Int×List RN}(hi:m[i]?=some e)(v:List RN):AL.set m e.1 v=m.set i (e.1,v):=by
 induction m generalizing i with
 | nil=>simp at hi
 | cons x r ih=>
  obtain⟨a,u⟩:=x;simp only[List.map_cons,List.nodup_cons] at hn
  cases i with
  | zero=>simp at hi;subst hi;simp[AL.set]
  | succ i=>
   simp at hi;have:a≠e.1:=fun q=>hn.1 (by rw[q];exact List.mem_map.2 ⟨e,List.mem_of_getElem? hi,rfl⟩)
   simp only[AL.set,this,if_false,List.set_cons_succ];rw[ih hn.2 hi]
theorem Uk{h:Int×List RN->List RN}{m:List (Int×List RN)}{L:List Nat}:(QR h m L).map (·.1)=m.map (·.1):=by
 apply List.ext_getElem?;intro i;rw[List.getElem?_map,uU,List.getElem?_map]
 cases m[i]? with
 | none=>rfl
 | some e=>simp only[Option.map_some];split <;> rfl
theorem wOa{h:Int×List RN->List RN}{m:List (Int×List RN)}(hn:(m.map (·.1)).Nodup){L:List Nat}{i:Nat}{e:Int×List RN}(hi:m[i]?=some e)(hL:i∉L):AL.set (QR h m L) e.1 (h e)=QR h m (L++[i]):=by
 have h1:(QR h m L)[i]?=some e:=by rw[uU,hi];simp[hL]
 rw[set_at (by rw[Uk];exact hn) h1];apply List.ext_getElem?;intro j;rw[List.getElem?_set,uU,uU]
 by_cases hj:i=j
 ·subst hj;have hlt:i < (QR h m L).length:=by rw[Jx];exact(List.getElem?_eq_some_iff.1 hi).1
  rw[if_pos rfl,if_pos hlt,hi];simp
 ·rw[if_neg hj]
  cases m[j]? with
  | none=>rfl
  | some x=>simp[Ne.symm hj]
theorem updM_all{h:Int×List RN->List RN}{m:List (Int×List RN)}{L:List Nat}(hL:∀ i,i < m.length->i∈L):QR h m L=m.map fun e=>(e.1,h e):=by
 apply List.ext_getElem?;intro i;rw[uU,List.getElem?_map]
 cases hi:m[i]? with
 | none=>rfl
 | some e=>simp[hL i (List.getElem?_eq_some_iff.1 hi).1]
theorem has_key{m:List (Int×List RN)}{k:Int}(h:k∈m.map (·.1)):AL.has m k=true:=by
 unfold AL.has
 cases hg:AL.get m k with
 | none=>exact absurd h (AL.get_none.1 hg)
 | some v=>rfl
theorem QZ(body:List (Int×List RN)->List Nat×List (Int×List RN)->M (Step (List Nat×List (Int×List RN)) (List (Int×List RN))))(do_:List RN->List RN->M (List RN))(F:List RN->List RN->List RN)(m y:List (Int×List RN))(hn:(m.map (·.1)).Nodup)
  (hb:∀ L v,body y (L,v)=yc (∀ i∈L,i < v.length) ((nxt v.length L).bind fun o=>match o with | none=>pure (.done v) | some j=>(idx v (Int.ofNat j)).bind fun kv=>(do_ kv.2 (AL.getZ y kv.1 [])).det.bind fun r=>yc (AL.has v kv.1=true) (pure (.next (L++[j],AL.set v kv.1 r)))))
  (hdo:∀ e∈m,do_ e.2 (AL.getZ y e.1 [])=pure (F e.2 (AL.getZ y e.1 []))):loop (body y) ([],m)=pure (m.map fun e=>(e.1,F e.2 (AL.getZ y e.1 []))):=by
 refine ug ?_;have:=loopN (body:=body y) m.length (fun L (v:List (Int×List RN))=>(L,v)) (fun L v=>v=QR (fun e=>F e.2 (AL.getZ y e.1 [])) m L) (fun r=>r=m.map fun e=>(e.1,F e.2 (AL.getZ y e.1 []))) (fun L v hv hL hlt=>by
  have hlen:v.length=m.length:=by rw[hv];exact Jx
  refine⟨fun o=>match o with | none=>pure (.done v) | some j=>(idx v (Int.ofNat j)).bind fun kv=>(do_ kv.2 (AL.getZ y kv.1 [])).det.bind fun r=>yc (AL.has v kv.1=true) (pure (.next (L++[j],AL.set v kv.1 r))),?_,?_,?_⟩
  ·rw[hb,hlen]
  ·intro hall;show v=_;rw[hv];exact updM_all hall
  ·intro i hi hiL;have hm:=List.getElem?_eq_getElem hi;have hvi:v[i]?=some m[i]:=by rw[hv,uU,hm];simp[hiL]
   refine⟨AL.set v (m[i]).1 (F (m[i]).2 (AL.getZ y (m[i]).1 [])),?_,?_⟩
   ·show(idx v (Int.ofNat i)).bind _=_;rw[show(Int.ofNat i)=(i:Int) from rfl,zK hvi,zA,hdo _ (List.getElem_mem hi),zB,zA,zE];refine has_key ?_;rw[hv,Uk];exact List.mem_map.2 ⟨m[i],List.getElem_mem hi,rfl⟩
   ·rw[hv];exact wOa hn hm hiL) m (by
  apply List.ext_getElem?;intro i;rw[uU]
  cases m[i]? <;> simp)
 exact this
theorem yIa{op:Bool->Bool->Bool}(h0:op false false=false)(a b:List RN):R.nrm (R.ZQ op a b)=R.ZQ op a b:=R.qE (R.zr op h0 a b).1
theorem jw{op:Bool->Bool->Bool}(h0:op false false=false)(hr:∀ x,op false x=false)(a b:List PT)(ha:Sm a)(hb:Sm b) :
  wx ((vR a).map fun e=>(e.1,R.ZQ op e.2 (AL.getZ (vR b) e.1 [])))=pure (opC op a b):=by
 have hlenR:∀ x y:List RN,(R.ZQ op x y).length<=2*(x.length+y.length):=fun x y=>(R.zr op h0 x y).2.2
 refine yHa _ _ _ (by have:=yFa a;have:=ha.1;simp;omega) (fun e he=>?_) (by rw[List.map_map];exact va a) (wb _) (fun e he hne=>?_) (fun k hk hne=>?_)
 ·obtain⟨x,hx,rfl⟩:=List.mem_map.1 he;have h1:=hlenR x.2 (AL.getZ (vR b) x.1 []);rw[(ZP hx).1,vK] at h1;have:=xq a x.1;have:=xq b x.1;have:=ha.2;have:=hb.2;show(R.ZQ op x.2 (AL.getZ (vR b) x.1 [])).length<=_;rw[(ZP hx).1,vK];omega
 ·obtain⟨x,hx,rfl⟩:=List.mem_map.1 he;obtain⟨h1,h2,h3⟩:=ZP hx;refine⟨?_,?_⟩
  ·show x.1∈_;obtain⟨⟨p,hp,hd⟩,_⟩:=vJ.1 h3;exact vJ.2 ⟨⟨p,List.mem_append_left _ hp,hd⟩,h2⟩
  ·show R.nrm (R.ZQ op x.2 (AL.getZ (vR b) x.1 []))=_;rw[yIa h0,vK,h1]
 ·have hra:yo a k≠[]:=fun e=>hne (by
   rw[e];exact R.Wi (R.zr op h0 _ _).1 trivial fun n=>by rw[(R.zr op h0 _ _).2.1];show op (R.yX [] n) _=_;exact hr _)
  refine⟨R.ZQ op (yo a k) (AL.getZ (vR b) k []),List.mem_map.2 ⟨(k,yo a k),wLa hra,rfl⟩,?_⟩;rw[yIa h0,vK]
theorem Meet_eq(a b:List PT)(ha:Sm a)(hb:Sm b):Vm a b=pure (opC (·&&·) a b):=by
 unfold Vm vC;rw[VI a ha,zB,zA,VI b hb,zB,zA,QZ vn Ze (R.ZQ (·&&·)) (vR a) (vR b) (va a) (fun L v=>rfl) (fun e he=>?_),zA,jw rfl (fun _=>rfl) a b ha hb,zB,zA,zB,zA];rw[(ZP he).1,vK];have:=xq a e.1;have:=xq b e.1;have:=ha.2;have:=hb.2;exact R.yCa _ _ (by omega) (by omega)
theorem Minus_eq(a b:List PT)(ha:Sm a)(hb:Sm b):WN a b=pure (opC (fun x y=>x&&!y) a b):=by
 unfold WN wW;rw[VI a ha,zB,zA,VI b hb,zB,zA,QZ vS Zf (R.ZQ (fun x y=>x&&!y)) (vR a) (vR b) (va a) (fun L v=>rfl) (fun e he=>?_),zA,jw rfl (fun _=>rfl) a b ha hb,zB,zA,zB,zA];rw[(ZP he).1,vK];have:=xq a e.1;have:=xq b e.1;have:=ha.2;have:=hb.2;exact R.minus_eq _ _ (by omega) (by omega)
theorem Qa(a b:List PT)(ha:Sm a)(hb:Sm b):Zg a b=pure (decide (opC (fun x y=>x&&!y) a b=[])):=by
 unfold Zg;rw[Minus_eq a b ha hb,zB,zA];refine congrArg pure ?_
 cases opC (fun x y=>x&&!y) a b with
 | nil=>rfl
 | cons p r=>simp;omega
theorem partEq(x y:PT):(decide (x.dev=y.dev)&&decide (x.runs=y.runs))=decide (x=y):=by
 rw[Bool.eq_iff_iff]
 cases x;cases y
 simp
theorem eqP_eq(a b:List PT)(ha:a.length<=1000000000000)(hr:∀ p∈a,p.runs.length<=1000000000000):zc a b=pure (decide (a=b)):=by
 unfold zc
 by_cases hl:(a.length:Int)=b.length
 ·simp only[hl,decide_true,Bool.not_true,cond_false];have:=vZ (body:=zX a b) a (fun i=>(i:Int)) (fun i x=>decide (b[i]?=some x)) (.brk ()) (.ret false) (fun i x hx hi=>by
   have hb:i < b.length:=by omega
   have hby:=List.getElem?_eq_getElem hb;unfold zX UR;have h1:decide ((i:Int) < (a.length:Int))=true:=by simpa using hi
   simp only[h1,cond_true,zK hx,zK hby,zA,R.seq_eq x.runs _ (hr x (List.mem_of_getElem? hx)),zB,zg,partEq,yL (show i < 9223372036854775807 by omega)];rw[hby]
   by_cases hxy:x=b[i] <;> simp[hxy,eq_comm,zA]) (by unfold zX;simp)
  rw[show(0:Int)=((0:Nat):Int) from rfl,this];have hiff:(a.zipIdx.all fun y=>decide (b[y.2]?=some y.1))=decide (a=b):=by
   rw[Bool.eq_iff_iff,List.all_eq_true,decide_eq_true_eq]
   constructor
   ·intro h;apply List.ext_getElem?;intro i
    by_cases hi:i < a.length
    ·have:=h (a[i],i) (by rw[List.mem_zipIdx_iff_getElem?];exact List.getElem?_eq_getElem hi);simp only[decide_eq_true_eq] at this;rw[this,List.getElem?_eq_getElem hi]
    ·rw[List.getElem?_eq_none (by omega),List.getElem?_eq_none (by omega)]
   ·rintro rfl y hy;rw[List.mem_zipIdx_iff_getElem?] at hy;simpa using hy
  rw[hiff]
  by_cases h:a=b <;> simp[h,exk,zA]
 ·have:¬ a=b:=fun e=>hl (by rw[e])
  simp[hl,this]
theorem eq_eq(a b:List PT)(ha:a.length<=1000000000000)(hr:∀ p∈a,p.runs.length<=1000000000000):QC a b=pure (decide (a=b)):=by
 unfold QC;rw[eqP_eq a b ha hr,zB,zA]
theorem wPa{c:List PT}:∀ p∈c,p.runs.length<=uF c:=by
 induction c with
 | nil=>intro p hp;simp at hp
 | cons q r ih=>
  intro p hp;have e:uF (q::r)=q.runs.length+uF r:=by simp[uF]
  rcases List.mem_cons.1 hp with rfl | hp
  ·omega
  ·have:=ih p hp;omega
theorem Same_eq(a b:List PT)(ha:Sm a)(hb:Sm b):WP a b=pure (decide (zb a=zb b)):=by
 unfold WP;have h1:=vu a;have h2:=vv a;have h3:=ha.1;have h4:=ha.2;rw[jA a ha,zB,zA,jA b hb,zB,zA,eq_eq _ _ (by omega) (fun p hp=>by have:=wPa p hp;omega),zB,zA]
theorem YM(c:List PT)(h:Sm c):WO c=pure (decide (c=zb c)):=by
 unfold WO;rw[jA c h,zB,zA,eq_eq _ _ (by have:=h.1;omega) (fun p hp=>by have:=wPa p hp;have:=h.2;omega),zB,zA]
theorem yJa(u v:List RN):R.ZQ (·||·) (R.nrm u) v=R.nrm (u++v):=R.Wi (R.zr _ rfl _ _).1 (R.YQ _) fun n=>by rw[(R.zr _ rfl _ _).2.1,R.vM,R.vM,R.uV]
theorem qO(c:List PT)(k:Int)(hk:0<=k)(h:c.length<=1000000000)(ht:uF c<=1000000000):WQ c k=pure (R.nrm (yo c k)):=by
 unfold WQ;have hpre:∀ i,(yo (c.take i) k).length<=1000000000:=fun i=>by
  have h1:=xq (c.take i) k;have h2:uF (c.take i)<=uF c:=by
   conv=>rhs;rw[<- List.take_append_drop i c]
   rw[XW];omega
  omega
 have:=ZX (body:=YB c k) c (fun i (t:List RN)=>(t,(i:Int))) (fun t p=>if p.dev=k/\0 < k then R.ZQ (·||·) t p.runs else t) (fun t=>pure t) (fun i t=>t=R.nrm (yo (c.take i) k)) (fun i x t hx hi ht2=>by
  have h1:decide ((i:Int) < (c.length:Int))=true:=by simpa using hi
  have hxl:x.runs.length<=1000000000:=by have:=wPa x (List.mem_of_getElem? hx);omega
  have htl:t.length<=2000000000:=by have:=R.uy (yo (c.take i) k);have:=hpre i;rw[ht2];omega
  unfold YB;simp only[h1,cond_true,zK hx,zA,yL (show i < 9223372036854775807 by omega),yw];have hnext:(if x.dev=k/\0 < k then R.ZQ (·||·) t x.runs else t)=R.nrm (yo (c.take (i+1)) k):=by
   rw[List.take_add_one,hx,Wl,Option.toList,uz,Vw,List.append_nil,ht2]
   split
   ·exact yJa _ _
   ·rw[List.append_nil]
  refine⟨?_,hnext⟩
  by_cases hd:x.dev=k
  ·by_cases h0:k=0
   ·have:¬ (x.dev=k/\0 < k):=by omega
    rw[if_neg this,if_pos hd];simp[h0,zA]
   ·rw[if_pos (show x.dev=k/\0 < k from ⟨hd,by omega⟩),if_pos hd];simp only[h0,decide_false,Bool.not_false,zA,cond_true];rw[R.yAa _ _ (by omega),zB,zA,zA]
  ·rw[if_neg (fun(q:x.dev=k/\0 < k)=>hd q.1),if_neg hd]
   rfl) (fun t _=>by unfold YB;simp[zA]) [] (by rw[List.take_zero,Vw,Uw])
 rw[show(([]:List RN),(0:Int))=([],((0:Nat):Int)) from rfl,this];have key:∀ (l:List PT) (u:List RN),l.foldl (fun t p=>if p.dev=k/\0 < k then R.ZQ (·||·) t p.runs else t) (R.nrm u)=R.nrm (u++yo l k):=by
  intro l
  induction l with
  | nil=>intro u;simp[yo]
  | cons p r ih=>
   intro u;rw[List.foldl_cons,uz]
   by_cases hp:p.dev=k/\0 < k
   ·rw[if_pos hp,if_pos hp,yJa,ih,List.append_assoc]
   ·rw[if_neg hp,if_neg hp,ih,List.nil_append]
 have h2:=key c [];rw[Uw,List.nil_append] at h2;rw[h2];rfl
def zUa(c:List PT):List Int:=c.foldl (fun l p=>V.jS l p.dev) []
theorem qP(c:List PT):∀ l:List Int,l.Pairwise (· < ·)->(c.foldl (fun l p=>V.jS l p.dev) l).Pairwise (· < ·)/\(∀ k,k∈c.foldl (fun l p=>V.jS l p.dev) l↔k∈l\/∃ p∈c,p.dev=k)/\(c.foldl (fun l p=>V.jS l p.dev) l).length<=l.length+c.length:=by
 induction c with
 | nil=>intro l h;simp[h]
 | cons p r ih=>
  intro l h;rw[List.foldl_cons];obtain⟨h1,h2,h3⟩:=ih _ (V.ux h p.dev);refine⟨h1,fun k=>?_,by have:=V.Wg l p.dev;simp;omega⟩;rw[h2,V.Vv]
  constructor
  ·rintro((rfl | h4) | ⟨x,h4,h5⟩)
   ·exact .inr ⟨p,by simp,rfl⟩
   ·exact .inl h4
   ·exact .inr ⟨x,by simp[h4],h5⟩
  ·rintro(h4 | ⟨x,h4,h5⟩)
   ·exact .inl (.inr h4)
   ·rcases List.mem_cons.1 h4 with rfl | h4
    ·exact .inl (.inl h5.symm)
    ·exact .inr ⟨x,h4,h5⟩
theorem jB(c:List PT):(zUa c).Pairwise (· < ·):=(qP c [] List.Pairwise.nil).1
theorem yKa{c:List PT}{k:Int}:k∈zUa c↔∃ p∈c,p.dev=k:=by
 have:=(qP c [] List.Pairwise.nil).2.1 k;unfold zUa;rw[this];simp
theorem yLa(c:List PT):(zUa c).length<=c.length:=by simpa[zUa] using (qP c [] List.Pairwise.nil).2.2
theorem Wk(l:List Int):(V.Xg l).length=l.length:=by simp[V.Xg]
theorem rdevs_eq(a b:List PT)(h:a.length+b.length<=10000000000):JU a b=pure (V.Xg (zUa (a++b))):=by
 unfold JU;have h1:=ZX (body:=YA a) a (fun i (l:List Int)=>(V.Xg l,(i:Int))) (fun l p=>V.jS l p.dev) (fun l=>pure (V.Xg l)) (fun i l=>l.Pairwise (· < ·)/\l.length<=i) (fun i x l hx hi ⟨hs,hl⟩=>by
  have h1:decide ((i:Int) < (a.length:Int))=true:=by simpa using hi
  unfold YA;simp only[h1,cond_true,zK hx,zA,yL (show i < 9223372036854775807 by omega)];rw[V.VE _ _ (by rw[Wk];omega),zB,zA,V.z7a hs];exact⟨rfl,V.ux hs _,by have:=V.Wg l x.dev;omega⟩) (fun l _=>by unfold YA;simp[zA]) [] ⟨List.Pairwise.nil,by simp⟩
 have h2:=ZX (body:=uj b) b (fun i (l:List Int)=>(V.Xg l,(i:Int))) (fun l p=>V.jS l p.dev) (fun l=>pure (V.Xg l)) (fun i l=>l.Pairwise (· < ·)/\l.length<=a.length+i) (fun i x l hx hi ⟨hs,hl⟩=>by
  have h1:decide ((i:Int) < (b.length:Int))=true:=by simpa using hi
  unfold uj;simp only[h1,cond_true,zK hx,zA,yL (show i < 9223372036854775807 by omega)];rw[V.VE _ _ (by rw[Wk];omega),zB,zA,V.z7a hs];exact⟨rfl,V.ux hs _,by have:=V.Wg l x.dev;omega⟩) (fun l _=>by unfold uj;simp[zA]) (zUa a) ⟨jB a,by have:=yLa a;omega⟩
 rw[show(([]:List DT),(0:Int))=(V.Xg [],((0:Nat):Int)) from rfl,h1,zA];show(loop (uj b) (V.Xg (zUa a),((0:Nat):Int))).bind _=_;rw[h2,zA];unfold zUa;rw[List.foldl_append]
theorem Uo(op:Bool->Bool->Bool)(how:Int)(hop:∀ x y,op x y=if how=2 then (x&&!y) else if how=1 then (x&&y) else (x||y))(h0:op false false=false)(a b:List PT)(oa:∀ p∈a,0<=p.dev)(ob:∀ p∈b,0<=p.dev)(ha:a.length<=1000000000)(hb:b.length<=1000000000)(ta:uF a<=1000000000)(tb:uF b<=1000000000):zDa a b how=pure (opC op a b):=by
 unfold zDa;rw[rdevs_eq a b (by omega),zB,zA];have hlenA:∀ k,(R.nrm (yo a k)).length<=2000000000:=fun k=>by have:=R.uy (yo a k);have:=xq a k;omega
 have hlenB:∀ k,(R.nrm (yo b k)).length<=2000000000:=fun k=>by have:=R.uy (yo b k);have:=xq b k;omega
 have hop':∀ k,R.ZQ op (R.nrm (yo a k)) (R.nrm (yo b k))=R.ZQ op (yo a k) (yo b k):=fun k=>R.Wi (R.zr op h0 _ _).1 (R.zr op h0 _ _).1 fun n=>by rw[(R.zr op h0 _ _).2.1,(R.zr op h0 _ _).2.1,R.vM,R.vM]
 have hkey:∀ k∈zUa (a++b),0<=k:=fun k hk=>by
  obtain⟨p,hp,rfl⟩:=yKa.1 hk;rcases List.mem_append.1 hp with hp | hp
  ·exact oa p hp
  ·exact ob p hp
 have hnd:(zUa (a++b)).length<=2000000000:=by have:=yLa (a++b);rw[List.length_append] at this;omega
 have hgo:=ZX (body:=XQ (V.Xg (zUa (a++b))) a b how) (zUa (a++b)) (fun i (t:List PT)=>((i:Int),t)) (fun t k=>if R.ZQ op (yo a k) (yo b k)=[] then t else t++[⟨k,R.ZQ op (yo a k) (yo b k)⟩]) (fun t=>pure t) (fun i t=>t.length<=i) (fun i k t hk hi hl=>by
  have h1:decide ((i:Int) < ((V.Xg (zUa (a++b))).length:Int))=true:=by rw[Wk];simpa using hi
  have hx:(V.Xg (zUa (a++b)))[i]?=some ⟨k,1⟩:=by simp[V.Xg,hk]
  have hk0:0<=k:=hkey k (List.mem_of_getElem? hk);unfold XQ;simp only[h1,cond_true,zK hx,zA,qO a k hk0 ha ta,qO b k hk0 hb tb,zB,yL (show i < 9223372036854775807 by omega)];have hl1:=hlenA k;have hl2:=hlenB k;rw[R.yAa _ _ (by omega),zB,zA,R.rmeet_eq _ _ (by omega),zB,zA,R.wCa _ _ (by omega),zB,zA];have hz:(cond (decide (how=1)) (pure (R.ZQ (·&&·) (R.nrm (yo a k)) (R.nrm (yo b k)))) (pure (R.ZQ (·||·) (R.nrm (yo a k)) (R.nrm (yo b k)))):M (List RN)).bind (fun z=>cond (decide (how=2)) (pure (R.ZQ (fun x y=>x&&!y) (R.nrm (yo a k)) (R.nrm (yo b k)))) (pure z))=pure (R.ZQ op (yo a k) (yo b k)):=by
   rw[<- hop' k]
   by_cases h2:how=2
   ·subst h2;have:op=fun x y=>x&&!y:=by funext x y;rw[hop];simp
    rw[this];rfl
   ·by_cases h1:how=1
    ·subst h1;have:op=fun x y=>x&&y:=by funext x y;rw[hop];simp
     rw[this];rfl
    ·have:op=fun x y=>x||y:=by funext x y;rw[hop];simp[h1,h2]
     rw[this];simp[h1,h2,zA]
  rw[<- jk,hz,zA];have hsl:=(R.zr op h0 (yo a k) (yo b k)).2.2
  by_cases hz0:R.ZQ op (yo a k) (yo b k)=[]
  ·rw[if_pos hz0];simp only[hz0,List.length_nil];exact⟨rfl,by omega⟩
  ·rw[if_neg hz0];have:decide (0 < ((R.ZQ op (yo a k) (yo b k)).length:Int))=true:=by
    have:=List.length_pos_iff.2 hz0;simp;omega
   rw[this,cond_true,zE (by simp;omega)];exact⟨rfl,by simp;omega⟩) (fun t _=>by unfold XQ;rw[Wk];simp[zA]) [] (by simp)
 rw[show((0:Int),([]:List PT))=(((0:Nat):Int),[]) from rfl,hgo,zA];have key:∀ (ks:List Int) (t:List PT),ks.foldl (fun t k=>if R.ZQ op (yo a k) (yo b k)=[] then t else t++[⟨k,R.ZQ op (yo a k) (yo b k)⟩]) t=t++yZ (fun k=>R.ZQ op (yo a k) (yo b k)) ks:=by
  intro ks
  induction ks with
  | nil=>intro t;simp[yZ]
  | cons k ks ih=>
   intro t;rw[List.foldl_cons,ih]
   by_cases h:R.ZQ op (yo a k) (yo b k)=[]
   ·rw[if_pos h];simp[yZ,h]
   ·rw[if_neg h];simp[yZ,h]
 rw[key,List.nil_append];refine congrArg pure (Us (jB _) (wb _) (fun _=>rfl) fun k hk=>?_);have hr:yo (a++b) k≠[]:=fun e=>hk (by
  rw[Wl] at e;have:=List.append_eq_nil_iff.1 e;rw[this.1,this.2];exact yEa h0)
 exact⟨fun _=>ZR hr,fun _=>yKa.2 (vJ.1 (ZR hr)).1⟩
structure Ok(c:List PT):Prop where
 dev:∀ p∈c,0<=p.dev
 len:c.length<=1000000000
 tot:uF c<=1000000000
theorem Ok.sm{c:List PT}(h:Ok c):Sm c:=⟨by have:=h.len;omega,by have:=h.tot;omega⟩
section
variable(a b:List PT)(ha:Ok a)(hb:Ok b)
include ha hb
theorem qQ : XT a b=pure (opC (·||·) a b):=by
 unfold XT;rw[Uo (·||·) 0 (fun x y=>by simp) rfl a b ha.dev hb.dev ha.len hb.len ha.tot hb.tot,zB,zA]
end
theorem ok_nil : Ok []:=⟨fun p h=>by simp at h,by simp,by simp[uF]⟩
theorem wQa{c:List PT}{k n:Int}(h:yf c k n=true):0 < k/\1<=n/\n<=281474976710655:=by
 refine⟨Classical.byContradiction fun h0=>?_,R.jr h⟩;unfold yf at h;rw[qI h0] at h
 cases h
theorem VJ(c:List PT)(d:DT)(h:Ok c):Ys c d=pure (yf c d.dev d.n):=by
 unfold Ys;rw[V.uw,zB,zA]
 by_cases hg:V.yC d=true
 ·have h1:=V.xK.1 hg;rw[hg,cond_true,qO c d.dev (by omega) h.len h.tot,zB,zA,R.zTa _ _ (by have:=R.uy (yo c d.dev);have:=xq c d.dev;have:=h.tot;omega),zB,zA,zA,R.vM]
  rfl
 ·have hg':V.yC d=false:=by simpa using hg
  rw[hg',cond_false,zA]
  cases hh:yf c d.dev d.n with
  | false=>rfl
  | true=>obtain⟨h1,h2,h3⟩:=wQa hh;exact absurd (V.xK.2 ⟨by omega,h2,h3⟩) hg
theorem jx(l:List DT)(d:DT):yD (l++[d])=yD l++if V.yC d=true then [⟨d.dev,[⟨d.n,d.n⟩]⟩] else []:=by
 unfold yD;rw[List.filter_append,List.map_append]
 congr 1
 by_cases h:V.yC d=true <;> simp[h]
theorem qR(a b:List PT):opC (·||·) (zb a) b=zb (a++b):=(xr rfl _ _).ext (yp _) fun k n=>by rw[vN rfl,zx,zx,ve]
theorem qV{l:List DT}(h:l.length<=400000000):Ok (zb (yD l)):=⟨fun p hp=>by have:=((yp (yD l)).nf p hp).1;omega,by have:=vu (yD l);have:=vO l;omega,by have:=vv (yD l);have:=XX l;omega⟩
theorem rOf_eq(l:List DT)(h:l.length<=400000000):x4a l=pure (zb (yD l)):=by
 unfold x4a;have:=ZX (body:=We l) l (fun i (t:List PT)=>(t,(i:Int))) (fun t d=>if V.yC d=true then opC (·||·) t [⟨d.dev,[⟨d.n,d.n⟩]⟩] else t) (fun t=>pure t) (fun i t=>t=zb (yD (l.take i))) (fun i x t hx hi ht=>by
  have h1:decide ((i:Int) < (l.length:Int))=true:=by simpa using hi
  have hok:Ok t:=by rw[ht];exact qV (by rw[List.length_take];omega)
  have hnext:(if V.yC x=true then opC (·||·) t [⟨x.dev,[⟨x.n,x.n⟩]⟩] else t)=zb (yD (l.take (i+1))):=by
   rw[List.take_add_one,hx,Option.toList,jx,ht]
   split
   ·exact qR _ _
   ·rw[List.append_nil]
  refine⟨?_,hnext⟩;unfold We;simp only[h1,cond_true,zK hx,zA,V.uw,zB,yL (show i < 9223372036854775807 by omega)]
  by_cases hg:V.yC x=true
  ·have h2:=V.xK.1 hg;rw[if_pos hg,hg,cond_true,qQ t _ hok ⟨fun p hp=>by rw[List.mem_singleton] at hp;subst hp;show 0<=x.dev;omega,by simp,by simp[uF]⟩,zB,zA,zA]
  ·have hg':V.yC x=false:=by simpa using hg
   rw[if_neg hg,hg',cond_false,zA]) (fun t _=>by unfold We;simp[zA]) [] (by rw[List.take_zero];exact(ub Uz).symm)
 rw[show(([]:List PT),(0:Int))=([],((0:Nat):Int)) from rfl,this,zA];have key:∀ (q pre:List DT),q.foldl (fun t d=>if V.yC d=true then opC (·||·) t [⟨d.dev,[⟨d.n,d.n⟩]⟩] else t) (zb (yD pre))=zb (yD (pre++q)):=by
  intro q
  induction q with
  | nil=>intro pre;rw[List.append_nil];rfl
  | cons d r ih=>
   intro pre;rw[List.foldl_cons];have:(if V.yC d=true then opC (·||·) (zb (yD pre)) [⟨d.dev,[⟨d.n,d.n⟩]⟩] else zb (yD pre))=zb (yD (pre++[d])):=by
    rw[jx]
    split
    ·exact qR _ _
    ·rw[List.append_nil]
   rw[this,ih,List.append_assoc];rfl
 have h2:=key l [];rw[show zb (yD [])=[] from ub Uz,List.nil_append] at h2;rw[h2]
theorem ok_mono{a b:List PT}{op:Bool->Bool->Bool}(h0:op false false=false)(ha:a.length<=100000000/\uF a<=100000000)(hb:b.length<=100000000/\uF b<=100000000):Ok (opC op a b):=⟨fun p hp=>by have:=((xr h0 a b).nf p hp).1;omega,by have:=len_opC op a b;omega,by have:=tot_opC h0 a b;omega⟩
theorem JA{a b:List PT}(h:∀ k n,yf a k n=true->yf b k n=true):opC (fun x y=>x&&!y) a b=[]:=yua (xr rfl _ _) fun k n=>by
 rw[vN rfl]
 cases ha:yf a k n with
 | false=>rfl
 | true=>rw[h k n ha];rfl
end Go.Ep.M.C
namespace Go.Ep.M.N
open Go
def wRa(n:Nat):Nat:=if n=0 then 0 else wRa (n / 256)+1
theorem Qb : wRa 0=0:=by rw[wRa];rfl
theorem qW{n:Nat}(h:n≠0):wRa n=wRa (n / 256)+1:=by rw[wRa,if_neg h]
theorem wSa : ∀ (k n:Nat),n < 256 ^ k->wRa n<=k
 | 0,n,h=>by
  have:n=0:=by simpa using h
  rw[this,Qb];exact Nat.le_refl _
 | k+1,n,h=>by
  by_cases h0:n=0
  ·rw[h0,Qb];omega
  ·rw[qW h0];have:=wSa k (n / 256) (by rw[Nat.pow_succ] at h;omega);omega
theorem wTa : ∀ (k n:Nat),256 ^ k<=n->k+1<=wRa n
 | 0,n,h=>by
  have:n≠0:=by intro h0;rw[h0] at h;simp at h
  rw[qW this];omega
 | k+1,n,h=>by
  have hp:0 < 256 ^ k:=Nat.pow_pos (by decide);rw[Nat.pow_succ] at h;have:n≠0:=by omega
  rw[qW this];have:=wTa k (n / 256) (by omega);omega
def Qc(n i:Nat):Int:=((n / 256 ^ i % 256:Nat):Int)
def be(n:Nat):Nat->List Int
 | 0=>[]
 | k+1=>Qc n k::be n k
def encN(n:Nat):List Int:=(wRa n:Int)::be n (wRa n)
def ja(v:Int):List Int:=encN v.toNat
def By(l:List Int):Prop:=∀ x∈l,0<=x/\x<=255
theorem By.drop{l:List Int}(h:By l)(n:Nat):By (l.drop n):=fun x hx=>h x (List.mem_of_mem_drop hx)
theorem By.take{l:List Int}(h:By l)(n:Nat):By (l.take n):=fun x hx=>h x (List.mem_of_mem_take hx)
theorem By.app{a b:List Int}(ha:By a)(hb:By b):By (a++b):=fun x hx=>(List.mem_append.1 hx).elim (ha x) (hb x)
theorem By.nil : By []:=fun x hx=>by cases hx
def qX(l:List Int):Int:=l.foldl (fun v x=>v*256+x) 0
theorem jC : ∀ (l:List Int) (v k:Nat),By l->v < 256 ^ k->∃ n:Nat,l.foldl (fun v x=>v*256+x) (v:Int)=(n:Int)/\n < 256 ^ (k+l.length)/\v*256 ^ l.length<=n
 | [],v,k,_,hv=>⟨v,rfl,by simpa using hv,by simp⟩
 | x::r,v,k,hb,hv=>by
  have hx:=hb x (by simp);obtain⟨n,h1,h2,h3⟩:=jC r (v*256+x.toNat) (k+1) (fun y hy=>hb y (by simp[hy])) (by rw[Nat.pow_succ];omega);refine⟨n,?_,by rw[show k+(x::r).length=k+1+r.length by simp;omega];exact h2,?_⟩
  ·rw[List.foldl_cons,<- h1]
   congr 1;omega
  ·refine Nat.le_trans ?_ h3;rw[List.length_cons,Nat.pow_succ];have:v*(256 ^ r.length*256)=v*256*256 ^ r.length:=by rw[Nat.mul_comm (256 ^ r.length),Nat.mul_assoc]
   rw[this];exact Nat.mul_le_mul_right _ (by omega)
theorem wUa{l:List Int}(h:By l)(h8:l.length<=8):0<=qX l/\qX l<=18446744073709551615:=by
 obtain⟨n,h1,h2,_⟩:=jC l 0 0 h (by decide);have h3:256 ^ (0+l.length)<=256 ^ 8:=Nat.pow_le_pow_right (by decide) (by omega);have h4:(256:Nat) ^ 8=18446744073709551616:=by decide
 rw[qX,show(0:Int)=((0:Nat):Int) from rfl,h1];omega
def rdN : List Int->Int×Nat×Int
 | []=>(0,0,2)
 | n::r=>if 8 < n\/(0 < n/\r.head?=some 0) then (0,0,4) else if (r.length:Int) < n then (0,0,2) else (qX (r.take n.toNat),n.toNat+1,0)
theorem rdN_cons(n:Int)(r:List Int):rdN (n::r)=if 8 < n\/(0 < n/\r.head?=some 0) then (0,0,4) else if (r.length:Int) < n then (0,0,2) else (qX (r.take n.toNat),n.toNat+1,0):=rfl
theorem Qd(b:List Int)(hb:By b):(rdN b=(0,0,2)\/rdN b=(0,0,4))\/∃ n r,b=n::r/\0<=n/\n<=8/\n<=(r.length:Int)/\¬ (0 < n/\r.head?=some 0)/\rdN b=(qX (r.take n.toNat),n.toNat+1,0):=by
 cases b with
 | nil=>exact .inl (.inl rfl)
 | cons n r=>
  have hn:=hb n (by simp);rw[rdN_cons]
  by_cases h1:8 < n\/(0 < n/\r.head?=some 0)
  ·rw[if_pos h1];exact .inl (.inr rfl)
  ·rw[if_neg h1]
   by_cases h2:(r.length:Int) < n
   ·rw[if_pos h2];exact .inl (.inl rfl)
   ·rw[if_neg h2];exact .inr ⟨n,r,rfl,hn.1,by omega,by omega,fun h=>h1 (.inr h),rfl⟩
theorem wVa(b:List Int)(hb:By b):0<=(rdN b).1/\(rdN b).1<=18446744073709551615/\(rdN b).2.1<=b.length/\((rdN b).2.2=0\/(rdN b).2.2=2\/(rdN b).2.2=4):=by
 rcases Qd b hb with(h | h) | ⟨n,r,rfl,h0,h8,hl,_,h⟩
 ·rw[h];simp
 ·rw[h];simp
 ·rw[h];have:=wUa (l:=r.take n.toNat) (fun x hx=>hb x (by simp[List.mem_of_mem_take hx])) (by rw[List.length_take];omega);refine⟨this.1,this.2,?_,.inl rfl⟩;simp;omega
theorem be_of : ∀ (l:List Int),By l->∀ n:Nat,qX l=(n:Int)->be n l.length=l:=by
 intro l;have key:∀ (m:Nat) (l:List Int),l.length=m->By l->∀ n:Nat,qX l=(n:Int)->be n l.length=l:=by
  intro m
  induction m with
  | zero=>intro l hl _ n _;have:=List.eq_nil_of_length_eq_zero hl;subst this;rfl
  | succ m ih=>
   intro l hl hb n hn
   cases l with
   | nil=>simp at hl
   | cons x r=>
    have hx:=hb x (by simp);have hr:By r:=fun y hy=>hb y (by simp[hy])
    obtain⟨q,h1,h2,h3⟩:=jC r 0 0 hr (by decide);obtain⟨q2,h4,h5,h6⟩:=jC r x.toNat 1 hr (by omega);have hq:qX r=(q:Int):=h1;have hq2:qX (x::r)=(q2:Int):=by
     rw[qX,List.foldl_cons,<- h4];congr 1;omega
    have hrl:r.length=m:=by simpa using hl
    have e:q2=n:=by omega
    subst e;have hlin:∀ (l:List Int) (v:Int),l.foldl (fun v x=>v*256+x) v=v*256 ^ l.length+qX l:=by
     intro l
     induction l with
     | nil=>intro v;simp[qX]
     | cons y t iht=>
      intro v;have e:qX (y::t)=y*256 ^ t.length+qX t:=by rw[qX,List.foldl_cons,iht];simp
      rw[List.foldl_cons,iht,e,List.length_cons,Int.pow_succ,Int.add_mul,Int.mul_assoc,Int.mul_comm 256,Int.add_assoc]
    have hsum:(q2:Int)=x*256 ^ r.length+(q:Int):=by
     rw[<- hq,<- hlin r x,<- hq2,qX,List.foldl_cons];congr 1;omega
    have hqlt:q < 256 ^ r.length:=by simpa using h2
    have hnat:q2=x.toNat*256 ^ r.length+q:=by
     have:((q2:Nat):Int)=((x.toNat*256 ^ r.length+q:Nat):Int):=by
      rw[hsum,Int.natCast_add,Int.natCast_mul,Int.natCast_pow,Int.toNat_of_nonneg hx.1];rfl
     exact Int.ofNat.inj this
    have hp:0 < 256 ^ r.length:=Nat.pow_pos (by decide);have hdiv:q2 / 256 ^ r.length=x.toNat:=by
     rw[hnat,Nat.mul_comm,Nat.mul_add_div hp,Nat.div_eq_of_lt hqlt,Nat.add_zero]
    rw[List.length_cons,be];have hb1:Qc q2 r.length=x:=by unfold Qc;rw[hdiv];omega
    rw[hb1]
    congr 1
    have hbe:∀ k,k<=r.length->be q2 k=be q k:=by
     intro k hk
     induction k with
     | zero=>rfl
     | succ k ihk=>
      rw[be,be,ihk (by omega)]
      congr 1
      show((q2 / 256 ^ k % 256:Nat):Int)=((q / 256 ^ k % 256:Nat):Int)
      congr 1
      have hs:256 ^ r.length=256 ^ k*(256*256 ^ (r.length - k - 1)):=by
       rw[<- Nat.pow_succ',<- Nat.pow_add];congr 1;omega
      have hpk:0 < 256 ^ k:=Nat.pow_pos (by decide);rw[hnat,hs,Nat.mul_left_comm,Nat.mul_add_div hpk];rw[Nat.mul_left_comm,Nat.mul_add_mod]
    rw[hbe _ (Nat.le_refl _)];exact ih r hrl hr q hq
 exact key l.length l rfl
theorem rdN_one{b:List Int}(hb:By b)(h:(rdN b).2.2=0):b=ja (rdN b).1++b.drop (rdN b).2.1:=by
 rcases Qd b hb with(h1 | h1) | ⟨n,r,rfl,h0,h8,hl,hh,h1⟩
 ·rw[h1] at h;simp at h
 ·rw[h1] at h;simp at h
 ·rw[h1];have hr:By r:=fun x hx=>hb x (by simp[hx])
  have hbt:=hr.take n.toNat;have hlt:(r.take n.toNat).length=n.toNat:=by rw[List.length_take];omega
  obtain⟨q,h2,h3,h4⟩:=jC (r.take n.toNat) 0 0 hbt (by decide);have hq:qX (r.take n.toNat)=(q:Int):=h2;have hbe:=be_of _ hbt q hq;rw[hlt] at hbe;have hlen:wRa q=n.toNat:=by
   apply Nat.le_antisymm
   ·exact wSa _ _ (by simpa[hlt] using h3)
   ·rcases Nat.eq_zero_or_pos n.toNat with hz | hz
    ·omega
    ·obtain⟨k,hk⟩:∃ k,n.toNat=k+1:=⟨n.toNat - 1,by omega⟩
     rw[hk];refine wTa k q ?_;rw[hk,be] at hbe;have hne:Qc q k≠0:=by
      intro e;rw[e] at hbe;refine hh ⟨by omega,?_⟩;have:=congrArg List.head? hbe;rw[List.head?_cons,List.head?_take,if_neg (by omega)] at this;exact this.symm
     unfold Qc at hne;have hp:0 < 256 ^ k:=Nat.pow_pos (by decide);rcases Nat.lt_or_ge q (256 ^ k) with hlt2 | hge
     ·rw[Nat.div_eq_of_lt hlt2] at hne;simp at hne
     ·exact hge
  show n::r=ja (qX (r.take n.toNat))++(n::r).drop (n.toNat+1);rw[hq,ja,Int.toNat_natCast,encN,hlen,hbe,List.drop_succ_cons,List.cons_append,List.take_append_drop]
  congr 1;omega
abbrev RS:=List Int×Int
structure Ok(s:RS):Prop where
 by_:By s.1
 len:s.1.length<=1000000000
 nil:s.2≠0->s.1=[]
def Yu(e:Int)(s:RS):RS:=if s.2=0/\e≠0 then ([],e) else s
def wd(s:RS):Int×RS:=if s.2≠0 then (0,s) else if (rdN s.1).2.2≠0 then (0,Yu (rdN s.1).2.2 s) else ((rdN s.1).1,(s.1.drop (rdN s.1).2.1,0))
def uG(m:Int)(s:RS):Int×RS:=if m < (wd s).1 then (0,Yu 4 (wd s).2) else wd s
def YU(s:RS):Int×RS:=if s.2≠0 then (0,s) else match s.1 with | []=>(0,Yu 2 s) | x::r=>(x,(r,0))
def WC(m:Int)(s:RS):ByteArray×RS:=
 if (wd s).2.2≠0 then (⟨#[]⟩,(wd s).2) else if max m 0 < (wd s).1 then (⟨#[]⟩,Yu 3 (wd s).2) else if ((wd s).2.1.length:Int) < (wd s).1 then (⟨#[]⟩,Yu 2 (wd s).2)
 else (strL ((wd s).2.1.take (wd s).1.toNat),((wd s).2.1.drop (wd s).1.toNat,0))
theorem WD{s:RS}(h:Ok s)(e:Int):Ok (Yu e s):=by
 unfold Yu
 by_cases c:s.2=0/\e≠0
 ·rw[if_pos c];exact⟨By.nil,by simp,fun _=>rfl⟩
 ·rw[if_neg c];exact h
theorem YN{s:RS}{e:Int}(h:e≠0):(Yu e s).2≠0:=by
 unfold Yu
 by_cases c:s.2=0
 ·rw[if_pos ⟨c,h⟩];exact h
 ·rw[if_neg (fun q=>c q.1)];exact c
theorem num_of{s:RS}(h:s.2≠0):wd s=(0,s):=if_pos h
theorem Va{s:RS}(h:Ok s):Ok (wd s).2/\0<=(wd s).1/\(wd s).1<=18446744073709551615:=by
 unfold wd;have hr:=wVa s.1 h.by_
 by_cases c:s.2≠0
 ·rw[if_pos c];exact⟨h,by simp,by simp⟩
 ·rw[if_neg c]
  by_cases c2:(rdN s.1).2.2≠0
  ·rw[if_pos c2];exact⟨WD h _,by simp,by simp⟩
  ·rw[if_neg c2];exact⟨⟨h.by_.drop _,by simp;have:=h.len;omega,fun h=>absurd rfl h⟩,hr.1,hr.2.1⟩
theorem wWa{s:RS}(h:Ok s){m:Int}(hm:0<=m):Ok (uG m s).2/\0<=(uG m s).1/\(uG m s).1<=m:=by
 unfold uG;obtain⟨h1,h2,h3⟩:=Va h
 by_cases c:m < (wd s).1
 ·rw[if_pos c];exact⟨WD h1 _,by simp,hm⟩
 ·rw[if_neg c];exact⟨h1,h2,by omega⟩
theorem wXa{s:RS}(h:Ok s):Ok (YU s).2/\0<=(YU s).1/\(YU s).1<=255:=by
 unfold YU
 by_cases c:s.2≠0
 ·rw[if_pos c];exact⟨h,by simp,by simp⟩
 ·rw[if_neg c]
  cases hs:s.1 with
  | nil=>exact⟨WD h _,by simp,by simp⟩
  | cons x r=>
   have hb:=h.by_;have hl:=h.len;rw[hs] at hb hl;exact⟨⟨fun y hy=>hb y (by simp[hy]),by simp at hl ⊢;omega,fun h=>absurd rfl h⟩,(hb x (by simp)).1,(hb x (by simp)).2⟩
theorem ok_text{s:RS}(h:Ok s)(m:Int):Ok (WC m s).2:=by
 unfold WC;obtain⟨h1,h2,h3⟩:=Va h
 split
 ·exact h1
 ·split
  ·exact WD h1 _
  ·split
   ·exact WD h1 _
   ·exact⟨h1.by_.drop _,by simp;have:=h1.len;omega,fun h=>absurd rfl h⟩
structure Sim(B:List Int)(a:Int)(s:RS):Prop where
 lo:0<=a
 hi:a<=B.length
 eq:s.2=0->s.1=B.drop a.toNat
structure OkB(B:List Int):Prop where
 by_:By B
 len:B.length<=1000000000
variable{B:List Int}{a:Int}{s:RS}
end Go.Ep.M.N
namespace Go.Ep.M.D
open Go
theorem Vb{a b:DT}:zT a b=true↔a.dev < b.dev\/(a.dev=b.dev/\a.n < b.n):=by simp[zT]
theorem Xp(a:DT):zT a a=false:=by
 cases h:zT a a with
 | false=>rfl
 | true=>rw[Vb] at h;omega
theorem XY{a b c:DT}(h1:zT a b=true)(h2:zT b c=true):zT a c=true:=by rw[Vb] at *;omega
theorem Yv{a b:DT}(h:zT a b=true):zT b a=false:=by
 cases h2:zT b a with
 | false=>rfl
 | true=>rw[Vb] at h h2;omega
theorem JB{a b:DT}(h1:zT a b=false)(h2:zT b a=false):a=b:=by
 have h3:¬ (zT a b=true):=by simp[h1]
 have h4:¬ (zT b a=true):=by simp[h2]
 rw[Vb] at h3 h4
 cases a;cases b
 simp only[DT.mk.injEq] at *
 omega
abbrev Srt(l:List DT):Prop:=l.Pairwise fun x y=>zT x y=true
theorem zVa : ∀ {l l':List DT},Srt l->Srt l'->(∀ d,d∈l↔d∈l')->l=l'
 | [],[],_,_,_=>rfl
 | [],y::r,_,_,h=>by have:=(h y).2 (by simp);simp at this
 | x::r,[],_,_,h=>by have:=(h x).1 (by simp);simp at this
 | x::r,y::t,h1,h2,h=>by
  have hx:=(h x).1 (by simp);have hy:=(h y).2 (by simp);have e:x=y:=by
   rcases List.mem_cons.1 hx with e | hx
   ·exact e
   ·rcases List.mem_cons.1 hy with e | hy
    ·exact e.symm
    ·have a1:=(List.pairwise_cons.1 h2).1 x hx;have a2:=(List.pairwise_cons.1 h1).1 y hy;rw[Yv a1] at a2;cases a2
  subst e
  congr 1
  refine zVa (List.pairwise_cons.1 h1).2 (List.pairwise_cons.1 h2).2 fun d=>?_
  have h3:=h d;simp only[List.mem_cons] at h3
  constructor
  ·intro hd;rcases h3.1 (.inr hd) with e | h4
   ·have:=(List.pairwise_cons.1 h1).1 d hd;rw[e,Xp] at this;cases this
   ·exact h4
  ·intro hd;rcases h3.2 (.inr hd) with e | h4
   ·have:=(List.pairwise_cons.1 h2).1 d hd;rw[e,Xp] at this;cases this
   ·exact h4
def zWa(s:List DT)(d:DT):List DT:=(s.filter fun x=>zT x d)++[d]++(s.filter fun x=>zT d x)
theorem ins_mem{s:List DT}{d x:DT}:x∈zWa s d↔x=d\/x∈s:=by
 simp only[zWa,List.mem_append,List.mem_filter,List.mem_singleton]
 constructor
 ·rintro((h | h) | h)
  ·exact .inr h.1
  ·exact .inl h
  ·exact .inr h.1
 ·rintro(h | h)
  ·exact .inl (.inr h)
  ·cases h1:zT x d with
   | true=>exact .inl (.inl ⟨h,rfl⟩)
   | false=>
    cases h2:zT d x with
    | true=>exact .inr ⟨h,rfl⟩
    | false=>exact .inl (.inr (JB h1 h2))
theorem ins_srt{s:List DT}(h:Srt s)(d:DT):Srt (zWa s d):=by
 unfold Srt zWa;rw[List.pairwise_append,List.pairwise_append];refine⟨⟨h.filter _,by simp,fun a ha b hb=>?_⟩,h.filter _,fun a ha b hb=>?_⟩
 ·rw[List.mem_singleton.1 hb];exact(List.mem_filter.1 ha).2
 ·have hb:=(List.mem_filter.1 hb).2;rcases List.mem_append.1 ha with ha | ha
  ·exact XY (List.mem_filter.1 ha).2 hb
  ·rw[List.mem_singleton.1 ha];exact hb
theorem zXa(s:List DT)(d:DT):(zWa s d).length<=s.length+1:=by
 unfold zWa;have h:∀ l:List DT,(l.filter fun x=>zT x d).length+(l.filter fun x=>zT d x).length<=l.length:=by
  intro l
  induction l with
  | nil=>simp
  | cons x r ih=>
   cases h1:zT x d with
   | true=>simp[h1,Yv h1];omega
   | false=>
    cases h2:zT d x with
    | true=>simp[h1,h2];omega
    | false=>simp[h1,h2];omega
 have:=h s;simp;omega
def ZY(l:List DT):List DT:=l.foldl zWa []
theorem Vy : ∀ (l s:List DT),Srt s->Srt (l.foldl zWa s)/\(∀ d,d∈l.foldl zWa s↔d∈s\/d∈l)/\(l.foldl zWa s).length<=s.length+l.length
 | [],s,h=>⟨h,by simp,by simp⟩
 | x::r,s,h=>by
  obtain⟨h1,h2,h3⟩:=Vy r (zWa s x) (ins_srt h x);refine⟨h1,fun d=>?_,?_⟩
  ·rw[List.foldl_cons,h2 d,ins_mem,List.mem_cons]
   constructor
   ·rintro((h | h) | h)
    ·exact .inr (.inl h)
    ·exact .inl h
    ·exact .inr (.inr h)
   ·rintro(h | h | h)
    ·exact .inl (.inr h)
    ·exact .inl (.inl h)
    ·exact .inr h
  ·have:=zXa s x;rw[List.foldl_cons,List.length_cons];omega
theorem Vz(l:List DT):Srt (ZY l):=(Vy l [] List.Pairwise.nil).1
theorem ZS{l:List DT}{d:DT}:d∈ZY l↔d∈l:=by simpa[ZY] using (Vy l [] List.Pairwise.nil).2.1 d
theorem qY(l:List DT):(ZY l).length<=l.length:=by simpa[ZY] using (Vy l [] List.Pairwise.nil).2.2
theorem wYa{l:List DT}(h:Srt l):ZY l=l:=zVa (Vz l) h fun _=>ZS
theorem wZa(s:List DT)(d:DT)(h:s.length<=1000000000000):Xv s d=pure (zWa s d):=V.VE s d h
def ddS(out:List DT)(x:DT):List DT:=if out.getLast?=some x then out else out++[x]
def dd(l:List DT):List DT:=l.foldl ddS []
theorem jD(l:List DT)(x:DT):dd (l++[x])=ddS (dd l) x:=by simp[dd]
theorem zYa(l:List DT):(dd l).getLast?=l.getLast?:=by
 rcases R.xp l with rfl | ⟨r,y,rfl⟩
 ·rfl
 ·rw[jD];unfold ddS
  by_cases c:(dd r).getLast?=some y
  ·rw[if_pos c,c];simp
  ·rw[if_neg c];simp
theorem dd_mem{l:List DT}{d:DT}:d∈dd l↔d∈l:=by
 have:∀ (l s:List DT),d∈l.foldl ddS s↔d∈s\/d∈l:=by
  intro l
  induction l with
  | nil=>intro s;simp
  | cons x r ih=>
   intro s;rw[List.foldl_cons,ih];have h2:d∈ddS s x↔d∈s\/d=x:=by
    unfold ddS
    split
    ·rename_i h
     exact⟨.inl,fun h3=>h3.elim id fun e=>by rw[e];exact List.mem_of_getLast? h⟩
    ·simp
   rw[h2,List.mem_cons];exact or_assoc
 simpa[dd] using this l []
theorem dd_srt{l:List DT}(h:l.Pairwise fun x y=>zT y x=false):Srt (dd l):=by
 have:∀ (n:Nat) (l:List DT),l.length=n->(l.Pairwise fun x y=>zT y x=false)->Srt (dd l):=by
  intro n
  induction n with
  | zero=>intro l hl _;have:=List.eq_nil_of_length_eq_zero hl;subst this;exact List.Pairwise.nil
  | succ n ih=>
   intro l hl h;rcases R.xp l with rfl | ⟨r,y,rfl⟩
   ·simp at hl
   ·rw[List.pairwise_append] at h;have hr:=ih r (by simpa using hl) h.1;rw[jD];unfold ddS
    split
    ·exact hr
    ·rename_i hne
     unfold Srt;rw[List.pairwise_append];refine⟨hr,by simp,fun a ha b hb=>?_⟩;rw[List.mem_singleton.1 hb];have ha':=dd_mem.1 ha;have h1:=h.2.2 a ha' y (by simp)
     cases h2:zT a y with
     | true=>rfl
     | false=>
      exfalso;have e:=JB h2 h1;subst e;rw[zYa] at hne;rcases R.xp r with rfl | ⟨q,z,rfl⟩
      ·simp at ha'
      ·have hz:zT a z=false:=h.2.2 z (by simp) a (by simp);rcases List.mem_append.1 ha' with h5 | h5
       ·have h6:zT z a=false:=by
         have:=(List.pairwise_append.1 h.1).2.2 a h5 z (by simp);exact this
        have:=JB hz h6;subst this;simp at hne
       ·rw[List.mem_singleton.1 h5] at hne;simp at hne
 exact this l.length l rfl h
theorem qZ(l:List DT)(h:l.length<=1000000000000):yO l=pure l:=by
 unfold yO;refine ug ⟨⟨false,fun h=>by cases h⟩,fun b hb=>?_⟩
 cases b with
 | true=>show([]:List DT)=l;exact(hb rfl).symm
 | false=>
  show _/\([]++l=l)
  exact⟨by simp;omega,List.nil_append l⟩
theorem Qe(x y:DT):(decide (x.dev=y.dev)&&decide (x.n=y.n))=decide (x=y):=by
 cases x;cases y;simp[Bool.decide_and]
theorem Yw{l:List DT}{m:Nat}{x:DT}(h:l[m]?=some x):l.take (m+1)=l.take m++[x]:=by
 rw[List.take_add_one,h];rfl
theorem Qf{l:List DT}{m:Nat}{x:DT}(h:l[m]?=some x):(l.take (m+1)).getLast?=some x:=by rw[Yw h];simp
theorem VK(s:List DT)(k:Nat)(hk:k < s.length)(hl:s.length<=1000000000000):∀ (d k2 kk:Nat) (v:List DT),k+k2+d=s.length->1<=k2->v.length=s.length->kk+1<=k+k2->v.take kk=dd (s.take (k+k2))->v.drop (k+k2 - 1)=s.drop (k+k2 - 1) ->
  ∃ (kk':Nat) (v':List DT),loop (zn s (k:Int)) ((kk:Int),(k2:Int),v)=pure ((kk':Int),v')/\v'.length=s.length/\kk'<=s.length/\v'.take kk'=dd s
 | 0,k2,kk,v,hd,h1,hv,hkk,ht,_=>by
  refine⟨kk,v,yJ ?_,hv,by omega,by rw[ht,show k+k2=s.length by omega,List.take_length]⟩;unfold zn;have:decide ((k2:Int) < (((s.length - (k:Int).toNat:Nat)):Int))=false:=by simp;omega
  simp only[this,cond_false]
 | d+1,k2,kk,v,hd,h1,hv,hkk,ht,hdr=>by
  have hvg:∀ j,k+k2 - 1<=j->v[j]?=s[j]?:=fun j hj=>by
   have:=congrArg (fun l=>l[j - (k+k2 - 1)]?) hdr;simp only[List.getElem?_drop] at this;rw[show k+k2 - 1+(j - (k+k2 - 1))=j by omega] at this;exact this
  obtain⟨x,hx⟩:∃ x,s[k+k2]?=some x:=⟨_,List.getElem?_eq_getElem (by omega)⟩
  obtain⟨y,hy⟩:∃ y,s[k+k2 - 1]?=some y:=⟨_,List.getElem?_eq_getElem (by omega)⟩
  have hlast:(dd (s.take (k+k2))).getLast?=some y:=by
   rw[zYa];have:=Qf hy
   rwa [show k+k2 - 1+1=k+k2 by omega] at this
  have hdd:dd (s.take (k+k2+1))=if y=x then dd (s.take (k+k2)) else dd (s.take (k+k2))++[x]:=by
   rw[Yw hx,jD];unfold ddS;rw[hlast]
   by_cases c:y=x
   ·rw[if_pos c,if_pos (by rw[c])]
   ·rw[if_neg c,if_neg (by intro e;exact c (Option.some.inj e))]
  have hb:zn s (k:Int) ((kk:Int),(k2:Int),v)=pure (.next (if y=x then ((kk:Int),((k2+1:Nat):Int),v) else (((kk+1:Nat):Int),((k2+1:Nat):Int),v.set kk x))):=by
   unfold zn;have hc:decide ((k2:Int) < (((s.length - (k:Int).toNat:Nat)):Int))=true:=by simp;omega
   have e1:IntKind.i64.wrap ((k2:Int) - 1)=((k2 - 1:Nat):Int):=by rw[Wc (by omega) (by omega)];omega
   have i1:idx v ((((k:Int).toNat+(k2:Int).toNat:Nat)):Int)=pure x:=zK (by rw[Int.toNat_natCast,Int.toNat_natCast,hvg _ (by omega)];exact hx);have i2:idx v ((((k:Int).toNat+(((k2 - 1:Nat):Int)).toNat:Nat)):Int)=pure y:=zK (by rw[Int.toNat_natCast,Int.toNat_natCast,hvg _ (by omega),show k+(k2 - 1)=k+k2 - 1 by omega];exact hy);obtain⟨z,hz⟩:∃ z,v[kk]?=some z:=⟨_,List.getElem?_eq_getElem (by omega)⟩
   have i3:idx v (kk:Int)=pure z:=zK hz;simp only[hc,cond_true,e1];rw[zE (by simp;omega),i1,zA,zE (by simp;omega),i2,zA];simp only[Qe]
   by_cases c:y=x
   ·have c1:decide (x=y)=true:=decide_eq_true c.symm;simp only[c1,Bool.not_true,cond_false,zA,yL (show k2 < 9223372036854775807 by omega),if_pos c]
   ·have c1:decide (x=y)=false:=decide_eq_false (fun e=>c e.symm);simp only[c1,Bool.not_false,cond_true,if_neg c];rw[zE (by simp;omega),i3];simp only[zA,yL (show k2 < 9223372036854775807 by omega),yL (show kk < 9223372036854775807 by omega),Int.toNat_natCast]
  by_cases c:y=x
  ·rw[if_pos c] at hb hdd;rw[yI hb];refine VK s k hk hl d (k2+1) kk v (by omega) (by omega) hv (by omega) (by rw[ht,<- hdd];rfl) ?_;have:=congrArg (List.drop 1) hdr;rw[List.drop_drop,List.drop_drop,show k+k2 - 1+1=k+(k2+1) - 1 by omega] at this;exact this
  ·rw[if_neg c] at hb hdd;rw[yI hb];refine VK s k hk hl d (k2+1) (kk+1) (v.set kk x) (by omega) (by omega) (by simpa using hv) (by omega) ?_ ?_
   ·have h5:(v.set kk x)[kk]?=some x:=by rw[List.getElem?_set];simp;omega
    rw[Yw h5,List.take_set,List.set_eq_of_length_le (by rw[List.length_take];omega),ht,<- hdd];rfl
   ·rw[List.drop_set,if_pos (by omega)];have:=congrArg (List.drop 1) hdr;rw[List.drop_drop,List.drop_drop,show k+k2 - 1+1=k+(k2+1) - 1 by omega] at this;exact this
theorem yxa(s:List DT)(hl:s.length<=1000000000000):zw s=pure (dd s):=by
 unfold zw
 by_cases h2:s.length < 2
 ·have:decide ((s.length:Int) < 2)=true:=by simp;omega
  rw[this,cond_true]
  match s,h2 with
  | [],_=>rfl
  | [x],_=>rfl
 ·have:decide ((s.length:Int) < 2)=false:=by simp;omega
  rw[this,cond_false];have key:∀ d k,k+d=s.length->1<=k->dd (s.take k)=s.take k->(loop (zo s) (k:Int)).bind (exk fun _=>pure s)=pure (dd s):=by
   intro d
   induction d with
   | zero=>
    intro k hk h1 hd;rw[yJ (r:=.brk ()) (by
     unfold zo;have:decide ((k:Int) < (s.length:Int))=false:=by simp;omega
     simp only[this,cond_false])]
    rw[show k=s.length by omega,List.take_length] at hd;show pure s=pure (dd s);rw[hd]
   | succ d ih=>
    intro k hk h1 hd;obtain⟨x,hx⟩:∃ x,s[k]?=some x:=⟨_,List.getElem?_eq_getElem (by omega)⟩
    obtain⟨y,hy⟩:∃ y,s[k - 1]?=some y:=⟨_,List.getElem?_eq_getElem (by omega)⟩
    have hlast:(dd (s.take k)).getLast?=some y:=by
     rw[zYa];have:=Qf hy
     rwa [show k - 1+1=k by omega] at this
    have hc:decide ((k:Int) < (s.length:Int))=true:=by simp;omega
    have i1:idx s (k:Int)=pure x:=zK hx;have i2:idx s (IntKind.i64.wrap ((k:Int) - 1))=pure y:=by
     rw[Wc (by omega) (by omega)];exact Xn (by omega) (by rw[show((k:Int) - 1).toNat=k - 1 by omega];exact hy)
    by_cases c:x=y
    ·subst c;obtain⟨kk,v,h5,h6,h7,h8⟩:=VK s k (by omega) hl d 1 k s (by omega) (by omega) rfl (by omega) (by
      rw[Yw hx,jD,ddS,if_pos hlast,hd]) (by rw[show k+1 - 1=k by omega])
     rw[yJ (r:=.ret (dd s)) (by
      unfold zo;simp only[hc,cond_true,i1,i2,zA,Qe,decide_true];rw[zE (by omega),show(1:Int)=((1:Nat):Int) from rfl,h5,zA];simp only[];rw[zE (by omega),zE (by simp;omega),zE (by
       simp only[List.length_append,List.length_take,List.length_replicate,List.length_drop,Int.toNat_natCast];omega),zA,JP]
      congr 3
      rw[Int.toNat_natCast,List.append_assoc,List.take_append_of_le_length (by rw[List.length_take];omega),List.take_take,Nat.min_self,h8])]
     rfl
    ·have c1:decide (x=y)=false:=decide_eq_false c;rw[yI (s':=((k+1:Nat):Int)) (by
      unfold zo;simp only[hc,cond_true,i1,i2,zA,Qe,c1,cond_false,uh,yL (show k < 9223372036854775807 by omega)])]
     refine ih (k+1) (by omega) (by omega) ?_;rw[Yw hx,jD,ddS,if_neg (by rw[hlast];intro e;exact c (Option.some.inj e).symm),hd]
  have:=key (s.length - 1) 1 (by omega) (by omega) (by
   obtain⟨x,r,rfl⟩:∃ x r,s=x::r:=by
    cases s with
    | nil=>simp at h2
    | cons x r=>exact⟨x,r,rfl⟩
   rfl)
  exact this
theorem wDa{l:List DT}{Q:List DT->Prop}(h:∀ s,s.Perm l->(s.Pairwise fun x y=>zT y x=false)->Q s):(srt zT l).wp Q:=by
 refine⟨⟨l.mergeSort (fun x y=>!zT y x),List.mergeSort_perm _ _,?_⟩,fun s ⟨h1,h2⟩=>h s h1 h2⟩;refine(List.pairwise_mergeSort (fun a b c h1 h2=>?_) (fun a b=>?_) l).imp fun {x y} h=>by simpa using h
 ·simp only[Bool.not_eq_true'] at h1 h2 ⊢
  cases h3:zT c a with
  | false=>rfl
  | true=>
   rw[Vb] at h3;have h4:¬ (zT b a=true):=by simp[h1]
   have h5:¬ (zT c b=true):=by simp[h2]
   rw[Vb] at h4 h5;omega
 ·cases h1:zT b a with
  | false=>rfl
  | true=>rw[Yv h1];rfl
theorem waa(l:List DT)(h:l.length<=1000000000000):WL l=pure (ZY l):=by
 unfold WL;rw[qZ l h,zB,zA,zE (by omega)];refine ug (wDa fun s hs hp=>?_);show(bind (det (zw s)) fun y8=>pure y8).wp _;rw[yxa s (by rw[hs.length_eq];exact h),zB,zA];exact zVa (dd_srt hp) (Vz l) fun d=>by rw[dd_mem,ZS];exact hs.mem_iff
theorem cmp16_eq(x y:Int):xd x y=pure (R.wEa x y):=by
 unfold xd wG R.wEa;simp only[decide_true,Bool.not_true,zB,zA,cond_false,yw]
 split
 ·rfl
 ·split <;> rfl
theorem wba(a b:DT):Xt a b=pure (V.QS a b):=by
 unfold Xt;rw[cmp16_eq,zB,zA,R.wFa,zB,zA];unfold V.QS R.wEa
 cases a with | mk d n=>cases b with | mk e m=>
 simp only[DT.mk.injEq,zT]
 by_cases h1:d < e
 ·have:¬ d=e:=by omega
  simp[h1,this]
 ·by_cases h2:e < d
  ·have:¬ d=e:=by omega
   simp[h1,h2,this]
  ·have h3:d=e:=by omega
   subst h3
   by_cases h4:n < m
   ·have:¬ n=m:=by omega
    simp[h4,this]
   ·by_cases h5:m < n
    ·have:¬ n=m:=by omega
     simp[h4,h5,this]
    ·have:n=m:=by omega
     simp[this]
structure OkD(d:DT):Prop where
 d0:0<=d.dev
 d1:d.dev<=65535
 n0:0<=d.n
 n1:d.n<=18446744073709551615
def encD(d:DT):List Int:=N.ja d.dev++N.ja d.n
def wca(l:List DT):List DT:=l.filter V.yC
def yya(l:List DT):List Int:=N.ja (ZY (wca l)).length++(ZY (wca l)).flatMap encD
def encR(x:RN):List Int:=N.ja x.lo++N.ja x.hi
def encP(p:PT):List Int:=N.ja p.dev++(N.ja p.runs.length++p.runs.flatMap encR)
def encN(c:List PT):List Int:=N.ja c.length++c.flatMap encP
structure OkP(p:PT):Prop where
 d0:0<=p.dev
 d1:p.dev<=65535
 r:∀ x∈p.runs,(0<=x.lo/\x.lo<=18446744073709551615)/\0<=x.hi/\x.hi<=18446744073709551615
open N (RS Ok wd uG Yu OkB Sim)
def bad4(c:Bool)(s:RS):RS:=if c=true then Yu 4 s else s
def fin{α:Type}(z x:α)(t:RS):α×RS:=if t.2≠0 then (z,t) else (x,t)
theorem wda{s:RS}(h:Ok s)(c:Bool):Ok (bad4 c s):=by unfold bad4;split;exact N.WD h _;exact h
theorem zZa{c:Bool}{s:RS}(h:(bad4 c s).2=0):c=false/\s.2=0/\bad4 c s=s:=by
 unfold bad4 at h ⊢
 cases c with
 | true=>exact absurd h (N.YN (by decide))
 | false=>exact⟨rfl,h,rfl⟩
theorem fin_st{α:Type}(z x:α)(t:RS):(fin z x t).2=t:=by unfold fin;split <;> rfl
theorem wea{α:Type}{z x:α}{t:RS}(h:t.2=0):fin z x t=(x,t):=if_neg (by simp[h])
theorem fin_bad{α:Type}{z x:α}{t:RS}(h:t.2≠0):fin z x t=(z,t):=if_pos h
theorem num_zero{s:RS}(h:(wd s).2.2≠0):(wd s).1=0:=by
 unfold wd at h ⊢
 by_cases c:s.2≠0
 ·rw[if_pos c]
 ·rw[if_neg c] at h ⊢
  by_cases c2:(N.rdN s.1).2.2≠0
  ·rw[if_pos c2]
  ·rw[if_neg c2] at h;exact absurd rfl h
theorem num_bad{s:RS}(h:s.2≠0):(wd s).2=s:=by rw[N.num_of h]
theorem Qg{s:RS}(h:(wd s).2.2=0):s.2=0:=Classical.byContradiction fun c=>by rw[num_bad c] at h;exact c h
theorem wfa{m:Int}{s:RS}(h:(uG m s).2.2=0):(wd s).2.2=0/\uG m s=wd s:=by
 unfold uG at h ⊢
 by_cases c:m < (wd s).1
 ·rw[if_pos c] at h;exact absurd h (N.YN (by decide))
 ·rw[if_neg c] at h ⊢;exact⟨h,rfl⟩
def dotR(s:RS):DT:=⟨(uG 65535 s).1,(wd (uG 65535 s).2).1⟩
def dotT(s:RS):RS:=bad4 (!V.yC (dotR s)) (wd (uG 65535 s).2).2
def UA(s:RS):DT×RS:=fin ⟨0,0⟩ (dotR s) (dotT s)
theorem yMa{s:RS}(h:Ok s):Ok (UA s).2/\OkD (UA s).1/\OkD (dotR s):=by
 obtain⟨h1,h2,h3⟩:=N.wWa h (m:=65535) (by decide);obtain⟨h4,h5,h6⟩:=N.Va h1;have ht:Ok (dotT s):=wda h4 _;have hr:OkD (dotR s):=⟨h2,h3,h5,h6⟩
 unfold UA
 by_cases c:(dotT s).2=0
 ·rw[wea c];exact⟨ht,hr,hr⟩
 ·rw[fin_bad c];exact⟨ht,⟨Int.le_refl _,by simp,Int.le_refl _,by simp⟩,hr⟩
theorem wga{s:RS}(h:(UA s).2.2=0):V.yC (UA s).1=true/\(uG 65535 s).2.2=0/\(wd (uG 65535 s).2).2.2=0/\UA s=(dotR s,(wd (uG 65535 s).2).2):=by
 unfold UA at h ⊢;rw[fin_st] at h;rw[wea h];obtain⟨h1,h2,h3⟩:=zZa h;refine⟨by simpa using h1,Qg h2,h2,?_⟩;show(dotR s,dotT s)=_;rw[show dotT s=(wd (uG 65535 s).2).2 from h3]
variable{B:List Int}{a:Int}{s:RS}
def wha(out:List DT)(x:DT):Bool:=match out.getLast? with | some y=>decide (0<=V.QS y x) | none=>false
def VL(out:List DT)(s:RS):RS:=bad4 (wha out (UA s).1) (UA s).2
def zu : Nat->List DT->RS->List DT×RS
 | 0,out,s=>(out,s)
 | k+1,out,s=>if (VL out s).2≠0 then ([],VL out s) else zu k (out++[(UA s).1]) (VL out s)
def uW(most:Int)(s:RS):List DT×RS:=if max most 0 < (wd s).1 then ([],Yu 3 (wd s).2) else zu (wd s).1.toNat [] (wd s).2
theorem jE{k:Nat}{out:List DT}{s:RS}(h:(VL out s).2≠0):zu (k+1) out s=([],VL out s):=if_pos h
theorem VM{k:Nat}{out:List DT}{s:RS}(h:(VL out s).2=0):zu (k+1) out s=zu k (out++[(UA s).1]) (VL out s):=if_neg (by simp[h])
theorem qa{s:RS}(h:Ok s)(out:List DT):Ok (VL out s):=wda (yMa h).1 _
theorem yNa : ∀ (k:Nat) (out:List DT) (s:RS),Ok s->Ok (zu k out s).2
 | 0,_,_,h=>h
 | k+1,out,s,h=>by
  by_cases c:(VL out s).2=0
  ·rw[VM c];exact yNa k _ _ (qa h out)
  ·rw[jE c];exact qa h out
theorem qV{s:RS}(h:Ok s)(most:Int):Ok (uW most s).2:=by
 have h1:=N.Va h;unfold uW
 split
 ·exact N.WD h1.1 _
 ·exact yNa _ _ _ h1.1
theorem dotsT_ok{out:List DT}{s:RS}(h:(VL out s).2=0):wha out (UA s).1=false/\(UA s).2.2=0/\VL out s=(UA s).2:=zZa h
open N (RS Ok wd uG Yu OkB Sim)
variable{B:List Int}{a:Int}{s:RS}
open N (RS Ok wd uG Yu OkB Sim)
def YO : List DT->Bool
 | []=>true
 | x::r=>(match r with | []=>true | y::_=>zT x y)&&YO r
theorem qb : ∀ {l:List DT},YO l=true↔Srt l
 | []=>⟨fun _=>List.Pairwise.nil,fun _=>rfl⟩
 | [x]=>⟨fun _=>by simp[Srt],fun _=>rfl⟩
 | x::y::r=>by
  show(zT x y&&YO (y::r))=true↔_;rw[Bool.and_eq_true,qb (l:=y::r)];unfold Srt;rw[List.pairwise_cons (a:=x)]
  constructor
  ·rintro⟨h1,h2⟩;refine⟨fun z hz=>?_,h2⟩;rcases List.mem_cons.1 hz with rfl | hz
   ·exact h1
   ·exact XY h1 ((List.pairwise_cons.1 h2).1 z hz)
  ·rintro⟨h1,h2⟩;exact⟨h1 y (by simp),h2⟩
theorem wia(x y:DT):decide (0<=V.QS x y)=!zT x y:=by
 by_cases h:zT x y=true
 ·have:=V.XV.2 h;rw[h];simp;omega
 ·have h2:¬ V.QS x y < 0:=fun e=>h (V.XV.1 e)
  simp only[Bool.not_eq_true] at h;rw[h];simp;omega
theorem yza(l:List DT)(hl:l.length<=1000000000000):VB l=pure (YO l):=by
 unfold VB;have key:∀ (k i:Nat) (x:DT) (r:List DT),i+k=l.length->l.drop i=r->i≠0->l[i - 1]?=some x->loop (xn l) (i:Int)=pure (if YO (x::r)=true then .brk () else .ret false):=by
  intro k
  induction k with
  | zero=>
   intro i x r hi hr h1 hx;have:r=[]:=by rw[<- hr];exact List.drop_eq_nil_of_le (by omega)
   subst this;exact yJ (by
    unfold xn;have:decide ((i:Int) < (l.length:Int))=false:=by simp;omega
    simp only[this,cond_false];rfl)
  | succ k ih=>
   intro i x r hi hr h1 hx;have hlt:i < l.length:=by omega
   have hr2:r=l[i]::l.drop (i+1):=by rw[<- hr];exact List.drop_eq_getElem_cons hlt
   have hy:=List.getElem?_eq_getElem hlt;have hi1:idx l (IntKind.i64.wrap ((i:Int) - 1))=pure x:=by
    rw[Wc (by omega) (by omega)];exact Xn (by omega) (by rw[show((i:Int) - 1).toNat=i - 1 by omega];exact hx)
   have hb:xn l (i:Int)=cond (!zT x l[i]) (pure (.done (.ret false))) (pure (.next ((i+1:Nat):Int))):=by
    unfold xn;have:decide ((i:Int) < (l.length:Int))=true:=by simp;omega
    simp only[this,cond_true,hi1,zK hy,zA,V.XU,zB,wia,yL (show i < 9223372036854775807 by omega)]
   rw[hr2];show _=(pure (if (zT x l[i]&&YO (l[i]::l.drop (i+1)))=true then Ex.brk () else Ex.ret false):M (Ex Unit Bool))
   cases c:zT x l[i] with
   | true=>
    rw[c] at hb;rw[yI hb,Bool.true_and];exact ih (i+1) l[i] _ (by omega) rfl (by omega) hy
   | false=>
    rw[c] at hb;rw[yJ hb];rfl
 cases l with
 | nil=>
  rw[yJ (r:=.brk ()) (by unfold xn;rfl)];rfl
 | cons x r=>
  have:=key r.length 1 x r (by simp;omega) rfl (by decide) rfl;rw[show((1:Nat):Int)=1 from rfl] at this;rw[this,zA]
  cases YO (x::r) <;> rfl
theorem Qh{l:List DT}(hs:Srt l)(h:∀ d∈l,V.yC d=true):ZY (wca l)=l:=by
 have e:wca l=l:=List.filter_eq_self.2 h;rw[e];exact wYa hs
open N (RS Ok wd uG Yu OkB Sim)
theorem jF{s:RS}(hO:Ok s)(h:(wd s).2.2=0):s.1=N.ja (wd s).1++(wd s).2.1:=by
 have h0:=Qg h;unfold wd at h ⊢;rw[if_neg (by simp[h0])] at h ⊢
 by_cases c:(N.rdN s.1).2.2=0
 ·rw[if_neg (by simp[c])];exact N.rdN_one hO.by_ c
 ·rw[if_pos c] at h;exact absurd h (N.YN c)
theorem upto_inv{s:RS}(hO:Ok s){m:Int}(h:(uG m s).2.2=0):s.1=N.ja (uG m s).1++(uG m s).2.1:=by
 obtain⟨h1,h2⟩:=wfa h;rw[h2];exact jF hO h1
theorem wja{s:RS}(hO:Ok s)(h:(UA s).2.2=0):s.1=encD (UA s).1++(UA s).2.1:=by
 obtain⟨_,h1,h2,h3⟩:=wga h;have e1:=upto_inv hO h1;have e2:=jF (N.wWa hO (m:=65535) (by decide)).1 h2;rw[h3];show s.1=(N.ja (uG 65535 s).1++N.ja (wd (uG 65535 s).2).1)++_;rw[List.append_assoc,<- e2];exact e1
theorem Qi : ∀ (k:Nat) (out:List DT) (s:RS),Ok s->s.2=0->Srt out->(∀ d∈out,V.yC d=true)->(zu k out s).2.2=0->∃ l,(zu k out s).1=out++l/\l.length=k/\s.1=l.flatMap encD++(zu k out s).2.1/\Srt (out++l)/\(∀ d∈out++l,V.yC d=true)/\∀ d∈l,OkD d
 | 0,out,s,_,_,hs,hg,_=>⟨[],by simp[zu],rfl,by simp[zu],by simpa using hs,by simpa using hg,by simp⟩
 | k+1,out,s,hO,h0,hs,hg,h=>by
  by_cases c:(VL out s).2=0
  ·obtain⟨c1,c2,c3⟩:=dotsT_ok c;rw[VM c] at h ⊢;have hgd:=(wga c2).1;have hs2:Srt (out++[(UA s).1]):=by
    unfold Srt;rw[List.pairwise_append];refine⟨hs,by simp,fun a ha b hb=>?_⟩;rw[List.mem_singleton.1 hb];rcases R.xp out with rfl | ⟨q,y,rfl⟩
    ·simp at ha
    ·have hy:zT y (UA s).1=true:=by
      unfold wha at c1;simp only[List.getLast?_append,List.getLast?_singleton,Option.some_or,wia] at c1;simpa using c1
     rcases List.mem_append.1 ha with h5 | h5
     ·exact XY ((List.pairwise_append.1 hs).2.2 a h5 y (by simp)) hy
     ·rw[List.mem_singleton.1 h5];exact hy
   obtain⟨l,e1,e2,e3,e4,e5,e6⟩:=Qi k _ _ (qa hO out) c hs2 (fun d hd=>by
    rcases List.mem_append.1 hd with h5 | h5
    ·exact hg d h5
    ·rw[List.mem_singleton.1 h5];exact hgd) h
   refine⟨(UA s).1::l,by rw[e1];simp,by simp[e2],?_,by simpa using e4,by simpa using e5,fun d hd=>?_⟩
   ·rw[List.flatMap_cons,List.append_assoc,<- e3,c3];exact wja hO c2
   ·rcases List.mem_cons.1 hd with rfl | h5
    ·exact(yMa hO).2.1
    ·exact e6 d h5
  ·rw[jE c] at h;exact absurd h c
theorem yOa{s:RS}(hO:Ok s){most:Int}(h:(uW most s).2.2=0):s.1=yya (uW most s).1++(uW most s).2.1/\Srt (uW most s).1/\(∀ d∈(uW most s).1,V.yC d=true/\OkD d)/\((uW most s).1.length:Int)<=max most 0:=by
 obtain⟨h1,h2,h3⟩:=N.Va hO;unfold uW at h ⊢
 by_cases c:max most 0 < (wd s).1
 ·rw[if_pos c] at h;exact absurd h (N.YN (by decide))
 ·rw[if_neg c] at h ⊢;have c2:(wd s).2.2=0:=Classical.byContradiction fun c2=>by
   rw[num_zero c2] at h;exact c2 h
  obtain⟨l,e1,e2,e3,e4,e5,e6⟩:=Qi _ [] _ h1 c2 List.Pairwise.nil (by simp) h;rw[List.nil_append] at e1 e4 e5;rw[e1];refine⟨?_,e4,fun d hd=>⟨e5 d hd,e6 d hd⟩,by omega⟩;rw[yya,Qh e4 e5,List.append_assoc,<- e3,e2,Int.toNat_of_nonneg h2];exact jF hO c2
theorem dots_bad{s:RS}{most:Int}(h:(uW most s).2.2≠0):(uW most s).1=[]:=by
 have hL:∀ (k:Nat) (out:List DT) (s:RS),s.2=0\/out=[]->(zu k out s).2.2≠0->(zu k out s).1=[]:=by
  intro k
  induction k with
  | zero=>
   intro out s h1 h2;rcases h1 with h1 | h1
   ·exact absurd h1 h2
   ·exact h1
  | succ k ih=>
   intro out s _ h2
   by_cases c:(VL out s).2=0
   ·rw[VM c] at h2 ⊢;exact ih _ _ (.inl c) h2
   ·rw[jE c]
 unfold uW at h ⊢
 split at h
 ·rename_i c;rw[if_pos c]
 ·rename_i c;rw[if_neg c];exact hL _ _ _ (.inr rfl) h
end Go.Ep.M.D
namespace Go.Ep.M.E
open Go
theorem Zp(s:ByteArray):(wg s).length=s.size:=by simp[wg]
theorem Qj(l:List Int):(strL l).data.toList=l.map fun n=>UInt8.ofNat n.toNat:=by
 have key:∀ (l:List Int) (r:ByteArray),(l.foldl (fun r n=>r.push (UInt8.ofNat n.toNat)) r).data.toList=r.data.toList++l.map fun n=>UInt8.ofNat n.toNat:=by
  intro l
  induction l with
  | nil=>intro r;simp
  | cons x t ih=>intro r;rw[List.foldl_cons,ih];simp
 have:=key l ByteArray.empty;simpa[strL] using this
theorem y0a{l:List Int}(h:N.By l):wg (strL l)=l:=by
 rw[wg,Qj,List.map_map];apply List.ext_getElem?;intro i;rw[List.getElem?_map]
 cases hx:l[i]? with
 | none=>rfl
 | some x=>
  have:=h x (List.mem_of_getElem? hx);simp only[Option.map_some,Function.comp_apply,UInt8.toNat_ofNat']
  congr 1;omega
theorem jG(l:List Int):(strL l).size=l.length:=by
 have:=congrArg List.length (Qj l);simpa using this
def cidD(v:Int):DT:=⟨v / 281474976710656,v % 281474976710656⟩
theorem band48{v:Int}(h0:0<=v)(h:v<=18446744073709551615):bAnd .u64 v 281474976710655=v % 281474976710656:=by
 obtain⟨n,rfl⟩:=Int.eq_ofNat_of_zero_le h0;unfold bAnd;have bv:∀ q:Nat,q < 18446744073709551616->(BitVec.ofInt IntKind.u64.bits (q:Int)).toNat=q:=fun q hq=>by
  show(BitVec.ofInt 64 (q:Int)).toNat=q;rw[BitVec.toNat_ofInt];omega
 have e:(281474976710655:Int)=((281474976710655:Nat):Int):=rfl;rw[e,BitVec.toNat_and,bv n (by omega),bv _ (by decide)];have h2:n &&& 281474976710655=n % 281474976710656:=Nat.and_two_pow_sub_one_eq_mod n 48;rw[h2,Qr (by omega) (by omega)];omega
theorem Split_eq{v:Int}(h0:0<=v)(h:v<=18446744073709551615):Zy v=pure ((cidD v).dev,(cidD v).n):=by
 unfold Zy cidD;have e:(2 ^ 48:Int)=281474976710656:=rfl;rw[band48 h0 h,Int.fdiv_eq_ediv_of_nonneg _ (by decide),e,wU16 (by omega) (by omega)]
theorem wka{v:Int}(h0:0<=v)(h:v<=18446744073709551615):Uh v=pure ((cidD v).dev,(cidD v).n):=by
 unfold Uh cidD;rw[Int.tdiv_eq_ediv_of_nonneg h0,Int.tmod_eq_emod_of_nonneg h0,Qr (by omega) (by omega),wU16 (by omega) (by omega)]
def jH(v:Int):Bool:=V.yC (cidD v)
theorem wla{v:Int}(h0:0<=v)(h:v<=18446744073709551615):XE v=pure (if jH v=true then cidD v else ⟨0,0⟩,jH v):=by
 unfold XE;rw[Split_eq h0 h,zB,zA,V.WB,zB,zA];show cond (!jH v) _ _=_
 cases jH v <;> rfl
theorem y1a{v:Int}(h0:0<=v)(h:v<=18446744073709551615):VA v=pure (if jH v=true then cidD v else ⟨0,0⟩,jH v):=by
 unfold VA;rw[wka h0 h,zB,zA,V.uw,zB,zA];show cond (!jH v) _ _=_
 cases jH v <;> rfl
def Qk(f:Int):Bool:=decide (1<=f)&&decide (f<=5)
theorem Field_eq(f:Int):XF f=pure (Qk f):=by unfold XF Qk;rw[zg];rfl
theorem wma(f:Int):Js f=pure (Qk f):=by unfold Js Qk;rw[zg];rfl
def okB(x:Int):Bool:=decide (32<=x)&&decide (x<=126)
def qc(s:ByteArray):Bool:=decide (s.size<=60)&&(wg s).all okB
theorem VN{α:Type}(l:List α)(p:α->Bool):(l.zipIdx.all fun y=>p y.1)=l.all p:=by
 rw[Bool.eq_iff_iff,List.all_eq_true,List.all_eq_true]
 constructor
 ·intro h x hx;obtain⟨i,hi⟩:=List.getElem?_of_mem hx;exact h (x,i) (by rw[List.mk_mem_zipIdx_iff_getElem?];exact hi)
 ·intro h y hy;exact h y.1 (List.fst_mem_of_mem_zipIdx hy)
theorem okB_eq(x:Int)(f:M Bool)(hf:f=pure (decide (126 < x))):(cond (decide (x < 32)) (pure true) f:M Bool)=pure (!okB x):=by
 rw[hf];unfold okB
 by_cases h1:x < 32
 ·have:¬ 32<=x:=by omega
  simp[h1,this]
 ·have:32<=x:=by omega
  by_cases h2:126 < x
  ·have:¬ x<=126:=by omega
   simp[h1,h2,this]
  ·have:x<=126:=by omega
   simp[h1,h2, *]
theorem wna(s:ByteArray)(hs:s.size<=1000000000000):loop (wv s) 0=pure (if (wg s).all okB=true then Ex.brk () else Ex.ret false):=by
 have:=vZ (body:=wv s) (wg s) (fun i=>(i:Int)) (fun _ x=>okB x) (Ex.brk ()) (Ex.ret false) (fun i x hx hi=>by
  have hd:decide ((i:Int) < (s.size:Int))=true:=by rw[<- Zp];simpa using hi
  have hi2:i < s.size:=by rw[<- Zp];exact hi
  unfold wv;simp only[hd,cond_true,zK hx,zA,okB_eq x _ rfl,yL (show i < 9223372036854775807 by omega)]
  cases okB x <;> rfl) (by
  unfold wv;simp[Zp])
 rw[show(0:Int)=((0:Nat):Int) from rfl,this,VN]
theorem y2a(s:ByteArray)(hs:s.size<=1000000000000):loop (ut s) 0=pure (if (wg s).all okB=true then Ex.brk () else Ex.ret false):=by
 have:=vZ (body:=ut s) (wg s) (fun i=>(i:Int)) (fun _ x=>okB x) (Ex.brk ()) (Ex.ret false) (fun i x hx hi=>by
  have hd:decide ((i:Int) < (s.size:Int))=true:=by rw[<- Zp];simpa using hi
  have hi2:i < s.size:=by rw[<- Zp];exact hi
  unfold ut;simp only[hd,cond_true,zK hx,zA,okB_eq x _ rfl,yL (show i < 9223372036854775807 by omega)]
  cases okB x <;> rfl) (by
  unfold ut;simp[Zp])
 rw[show(0:Int)=((0:Nat):Int) from rfl,this,VN]
theorem Text_eq(s:ByteArray)(hs:s.size<=1000000000000):XG s=pure (qc s):=by
 unfold XG qc;rw[wna s hs]
 by_cases h:s.size<=60
 ·have:decide ((60:Int) < (s.size:Int))=false:=by simp;omega
  rw[this,cond_false,zA,decide_eq_true h,Bool.true_and]
  cases (wg s).all okB <;> rfl
 ·have:decide ((60:Int) < (s.size:Int))=true:=by simp;omega
  rw[this,cond_true,decide_eq_false h,Bool.false_and]
theorem rText_eq(s:ByteArray)(hs:s.size<=1000000000000):Jt s=pure (qc s):=by
 unfold Jt qc;rw[y2a s hs,zA]
 cases (wg s).all okB with
 | false=>rw[Bool.and_false];rfl
 | true=>
  rw[if_pos rfl,uh,Bool.and_true]
  congr 1
  by_cases h:s.size<=60
  ·rw[decide_eq_true h];simp;omega
  ·rw[decide_eq_false h];simp;omega
structure OkE(e:EV):Prop where
 dot:D.OkD e.dot
 kind:0<=e.kind/\e.kind<=255
 cid:0<=e.cid/\e.cid<=18446744073709551615
 field:0<=e.field/\e.field<=255
 text:e.text.size<=1000000000
 kills:∀ d∈e.kills,D.OkD d
 klen:e.kills.length<=1000000000
def Ql(s:ByteArray):Bool:=decide (s=⟨#[]⟩)
def woa(e:EV):Bool:=(decide (e.kind=1)&&(Qk e.field&&qc e.text))||(decide (e.kind=2)&&(decide (e.field=0)&&Ql e.text))
def y3a(e:EV):Bool:=decide (e.kills.length<=256)&&(D.YO e.kills&&e.kills.all fun d=>V.yC d&&!decide (d=e.dot))
def yE(e:EV):Bool:=(jH e.cid&&V.yC e.dot)&&(woa e&&y3a e)
theorem wpa(l:List DT)(hl:l.length<=1000000000000):XH l=pure (D.YO l):=by
 unfold XH;have key:∀ (k i:Nat) (x:DT) (r:List DT),i+k=l.length->l.drop i=r->i≠0->l[i - 1]?=some x->loop (xH l) (i:Int)=pure (if D.YO (x::r)=true then Ex.brk () else Ex.ret false):=by
  intro k
  induction k with
  | zero=>
   intro i x r hi hr h1 hx;have:r=[]:=by rw[<- hr];exact List.drop_eq_nil_of_le (by omega)
   subst this;exact yJ (by
    unfold xH;have:decide ((i:Int) < (l.length:Int))=false:=by simp;omega
    simp only[this,cond_false];rfl)
  | succ k ih=>
   intro i x r hi hr h1 hx;have hlt:i < l.length:=by omega
   have hr2:r=l[i]::l.drop (i+1):=by rw[<- hr];exact List.drop_eq_getElem_cons hlt
   have hy:=List.getElem?_eq_getElem hlt;have hi1:idx l (IntKind.i64.wrap ((i:Int) - 1))=pure x:=by
    rw[Wc (by omega) (by omega)];exact Xn (by omega) (by rw[show((i:Int) - 1).toNat=i - 1 by omega];exact hx)
   have hb:xH l (i:Int)=cond (!zT x l[i]) (pure (.done (.ret false))) (pure (.next ((i+1:Nat):Int))):=by
    unfold xH;have h2:decide ((i:Int) < (l.length:Int))=true:=by simp;omega
    have h3:decide ((0:Int) < (i:Int))=true:=by simp;omega
    simp only[h2,h3,cond_true,hi1,zK hy,zA,D.wba,zB,D.wia,yL (show i < 9223372036854775807 by omega)]
   rw[hr2];show _=(pure (if (zT x l[i]&&D.YO (l[i]::l.drop (i+1)))=true then Ex.brk () else Ex.ret false):M (Ex Unit Bool))
   cases c:zT x l[i] with
   | true=>
    rw[c] at hb;rw[yI hb,Bool.true_and];exact ih (i+1) l[i] _ (by omega) rfl (by omega) hy
   | false=>
    rw[c] at hb;rw[yJ hb];rfl
 cases l with
 | nil=>
  rw[yJ (r:=Ex.brk ()) (by unfold xH;rfl)];rfl
 | cons x r=>
  have h0:xH (x::r) 0=pure (.next 1):=by
   unfold xH;have h2:decide ((0:Int) < ((x::r).length:Int))=true:=decide_eq_true (by rw[List.length_cons];omega);simp only[h2,cond_true,show decide ((0:Int) < 0)=false from rfl,cond_false,zA];rw[Wc (by omega) (by omega)]
   rfl
  have:=key r.length 1 x r (by simp;omega) rfl (by decide) rfl;rw[show((1:Nat):Int)=1 from rfl] at this;rw[yI h0,this,zA]
  cases D.YO (x::r) <;> rfl
theorem y4a(e:EV)(hl:e.kills.length<=1000000000000):loop (ww e) 0=pure (if (e.kills.all fun d=>V.yC d&&!decide (d=e.dot))=true then Ex.brk () else Ex.ret false):=by
 have:=vZ (body:=ww e) e.kills (fun i=>(i:Int)) (fun _ d=>V.yC d&&!decide (d=e.dot)) (Ex.brk ()) (Ex.ret false) (fun i x hx hi=>by
  have hd:decide ((i:Int) < (e.kills.length:Int))=true:=by simpa using hi
  unfold ww;simp only[hd,cond_true,zK hx,zA,V.WB,zB,D.Qe,yL (show i < 9223372036854775807 by omega)]
  cases V.yC x <;> cases decide (x=e.dot) <;> rfl) (by
  unfold ww;simp)
 rw[show(0:Int)=((0:Nat):Int) from rfl,this,VN e.kills fun d=>V.yC d&&!decide (d=e.dot)]
theorem YM{e:EV}(h:OkE e):ua e=pure (yE e):=by
 have hk:=h.klen;have ht:=h.text;unfold ua yE;rw[wla h.cid.1 h.cid.2,zB,zA,V.WB,zB,zA,y4a e (by omega),wpa e.kills (by omega),Field_eq,Text_eq e.text (by omega)];simp only[]
 cases jH e.cid with
 | false=>rfl
 | true=>
  cases V.yC e.dot with
  | false=>rfl
  | true=>
   have hl:decide ((256:Int) < (e.kills.length:Int))=!decide (e.kills.length<=256):=by
    by_cases c:e.kills.length<=256
    ·rw[decide_eq_true c];simp;omega
    ·rw[decide_eq_false c];simp;omega
   have tail:(cond (decide ((256:Int) < (e.kills.length:Int))) (pure true) ((det (pure (D.YO e.kills))).bind fun v23=>pure (!v23))).bind (fun v21=>cond v21 (pure false) ((pure (if (e.kills.all fun d=>V.yC d&&!decide (d=e.dot))=true then Ex.brk () else Ex.ret false)).bind (exk fun _=>pure true)))=pure (y3a e):=by
    unfold y3a;rw[hl,zB,zA]
    cases decide (e.kills.length<=256) with
    | false=>rfl
    | true=>
     cases D.YO e.kills with
     | false=>rfl
     | true=>cases e.kills.all fun d=>V.yC d&&!decide (d=e.dot) <;> rfl
   simp only[Bool.not_true,cond_false,zA,zB,Bool.true_and] at tail ⊢;unfold woa Ql
   by_cases k1:e.kind=1
   ·have k2:decide (e.kind=2)=false:=by rw[k1];rfl
    rw[decide_eq_true k1,cond_true,k2,Bool.true_and,Bool.false_and,Bool.or_false]
    cases Qk e.field with
    | false=>rfl
    | true=>
     cases qc e.text with
     | false=>rfl
     | true=>exact tail
   ·rw[decide_eq_false k1,cond_false,Bool.false_and,Bool.false_or]
    by_cases k2:e.kind=2
    ·rw[decide_eq_true k2,cond_true,Bool.true_and]
     cases decide (e.field=0) with
     | false=>rfl
     | true=>
      cases decide (e.text=(⟨#[]⟩:ByteArray)) with
      | false=>rfl
      | true=>exact tail
    ·rw[decide_eq_false k2];rfl
theorem VJ(l:List DT)(d:DT)(hl:l.length<=1000000000000):Ug l d=pure (l.any fun x=>decide (x=d)):=by
 unfold Ug;have:=vZ (body:=XS l d) l (fun i=>(i:Int)) (fun _ x=>!decide (x=d)) (Ex.brk ()) (Ex.ret true) (fun i x hx hi=>by
  have hd:decide ((i:Int) < (l.length:Int))=true:=by simpa using hi
  unfold XS;simp only[hd,cond_true,zK hx,zA,D.Qe,yL (show i < 9223372036854775807 by omega)]
  cases decide (x=d) <;> rfl) (by
  unfold XS;simp)
 rw[show(0:Int)=((0:Nat):Int) from rfl,this,zA,VN l fun x=>!decide (x=d)];have e:(l.any fun x=>decide (x=d))=!(l.all fun x=>!decide (x=d)):=by simp[List.all_eq_not_any_not]
 rw[e]
 cases l.all fun x=>!decide (x=d) <;> rfl
theorem y5a(e:EV)(hl:e.kills.length<=1000000000000):loop (uu e) 0=pure (if e.kills.all V.yC=true then Ex.brk () else Ex.ret false):=by
 have:=vZ (body:=uu e) e.kills (fun i=>(i:Int)) (fun _ d=>V.yC d) (Ex.brk ()) (Ex.ret false) (fun i x hx hi=>by
  have hd:decide ((i:Int) < (e.kills.length:Int))=true:=by simpa using hi
  unfold uu;simp only[hd,cond_true,zK hx,zA,V.uw,zB,yL (show i < 9223372036854775807 by omega)]
  cases V.yC x <;> rfl) (by
  unfold uu;simp)
 rw[show(0:Int)=((0:Nat):Int) from rfl,this,VN e.kills V.yC]
theorem UB{e:EV}(h:OkE e):Vt e=pure (yE e):=by
 have hk:=h.klen;have ht:=h.text;unfold Vt yE;rw[y1a h.cid.1 h.cid.2,zB,zA,V.uw,zB,zA,y5a e (by omega),D.yza e.kills (by omega),wma,rText_eq e.text (by omega),VJ e.kills e.dot (by omega)];simp only[]
 cases jH e.cid with
 | false=>rfl
 | true=>
  cases V.yC e.dot with
  | false=>rfl
  | true=>
   have hl:decide ((e.kills.length:Int)<=256)=decide (e.kills.length<=256):=by
    by_cases c:e.kills.length<=256
    ·rw[decide_eq_true c];simp;omega
    ·rw[decide_eq_false c];simp;omega
   have hall:(e.kills.all fun d=>V.yC d&&!decide (d=e.dot))=(e.kills.all V.yC&&!(e.kills.any fun x=>decide (x=e.dot))):=by
    rw[Bool.eq_iff_iff,Bool.and_eq_true,List.all_eq_true,List.all_eq_true,Bool.not_eq_true',List.any_eq_false]
    constructor
    ·intro h;exact⟨fun x hx=>by have:=h x hx;rw[Bool.and_eq_true] at this;exact this.1,fun x hx=>by have:=h x hx;rw[Bool.and_eq_true] at this;simpa using this.2⟩
    ·rintro⟨h1,h2⟩ x hx;rw[Bool.and_eq_true];exact⟨h1 x hx,by simpa using h2 x hx⟩
   have tail:((pure (if e.kills.all V.yC=true then Ex.brk () else Ex.ret false):M (Ex Unit Bool)).bind (exk fun _=>(cond (decide ((e.kills.length:Int)<=256)) ((det (pure (D.YO e.kills))).bind fun v46=>cond v46 ((det (pure (e.kills.any fun x=>decide (x=e.dot)))).bind fun v49=>pure (!v49)) (pure false)) (pure false)).bind fun v44=>pure v44))=pure (y3a e):=by
    unfold y3a;rw[hl,hall];simp only[zB,zA]
    cases e.kills.all V.yC with
    | false=>cases decide (e.kills.length<=256) <;> cases D.YO e.kills <;> rfl
    | true=>cases decide (e.kills.length<=256) <;> cases D.YO e.kills <;> cases e.kills.any fun x=>decide (x=e.dot) <;> rfl
   simp only[Bool.not_true,cond_false,zA,zB,Bool.true_and] at tail ⊢;unfold woa Ql
   by_cases k1:e.kind=1
   ·have k2:decide (e.kind=2)=false:=by rw[k1];rfl
    rw[decide_eq_true k1,k2];simp only[Bool.not_true,cond_false,cond_true,zA,Bool.true_and,Bool.false_and,Bool.or_false]
    cases Qk e.field with
    | false=>rfl
    | true=>
     cases qc e.text with
     | false=>rfl
     | true=>exact tail
   ·rw[decide_eq_false k1];simp only[Bool.not_false,cond_true,zA,Bool.false_and,Bool.false_or]
    by_cases k2:e.kind=2
    ·rw[decide_eq_true k2];simp only[Bool.not_true,cond_false,cond_true,Bool.true_and]
     cases decide (e.field=0) with
     | false=>rfl
     | true=>
      cases decide (e.text=(⟨#[]⟩:ByteArray)) with
      | false=>rfl
      | true=>exact tail
    ·rw[decide_eq_false k2];rfl
theorem rSame_eq(a b:EV)(h:a.kills.length<=1000000000000):Vp a b=pure (decide (a=b)):=by
 unfold Vp;rw[D.Qe,V.Uj a.kills b.kills h,zB,zA];have e:decide (a=b)=(decide (a.dot=b.dot)&&(decide (a.kind=b.kind)&&(decide (a.cid=b.cid)&&(decide (a.field=b.field)&&(decide (a.text=b.text)&&decide (a.kills=b.kills)))))):=by
  cases a;cases b;simp only[EV.mk.injEq,Bool.decide_and]
 rw[e]
 cases decide (a.dot=b.dot) <;> cases decide (a.kind=b.kind) <;> cases decide (a.cid=b.cid) <;> cases decide (a.field=b.field) <;> cases decide (a.text=b.text) <;> rfl
theorem rAll_eq(a b:List EV)(ha:a.length<=1000000000000)(hk:∀ e∈a,e.kills.length<=1000000000000):JY a b=pure (decide (a=b)):=by
 unfold JY
 by_cases hlen:a.length=b.length
 ·have h1:decide ((a.length:Int)=(b.length:Int))=true:=by simp[hlen]
  rw[h1,Bool.not_true,cond_false];have:=vZ (body:=XR a b) a (fun i=>(i:Int)) (fun i x=>decide (b[i]?=some x)) (Ex.brk ()) (Ex.ret false) (fun i x hx hi=>by
   have hd:decide ((i:Int) < (a.length:Int))=true:=by simpa using hi
   obtain⟨y,hy⟩:∃ y,b[i]?=some y:=⟨_,List.getElem?_eq_getElem (by omega)⟩
   unfold XR;simp only[hd,cond_true,zK hx,zK hy,zA,rSame_eq x y (hk x (List.mem_of_getElem? hx)),zB,yL (show i < 9223372036854775807 by omega),hy]
   by_cases c:x=y
   ·subst c;simp
   ·have:¬ some y=some x:=fun e=>c (Option.some.inj e).symm
    simp[c,this]) (by
   unfold XR;simp)
  rw[show(0:Int)=((0:Nat):Int) from rfl,this,zA];have e:(a.zipIdx.all fun y=>decide (b[y.2]?=some y.1))=decide (a=b):=by
   rw[Bool.eq_iff_iff,List.all_eq_true,decide_eq_true_eq]
   constructor
   ·intro h;apply List.ext_getElem?;intro i
    by_cases hi:i < a.length
    ·have:=h (a[i],i) (by rw[List.mk_mem_zipIdx_iff_getElem?];exact List.getElem?_eq_getElem hi);simp only[decide_eq_true_eq] at this;rw[this,List.getElem?_eq_getElem hi]
    ·rw[List.getElem?_eq_none (by omega),List.getElem?_eq_none (by omega)]
   ·intro h y hy;subst h;rw[List.mem_zipIdx_iff_getElem?] at hy;simpa using hy
  rw[e]
  cases decide (a=b) <;> rfl
 ·have h1:decide ((a.length:Int)=(b.length:Int))=false:=by simp;omega
  have h2:decide (a=b)=false:=decide_eq_false fun e=>hlen (by rw[e])
  rw[h1,Bool.not_false,cond_true,h2]
def encT(s:ByteArray):List Int:=N.ja s.size++wg s
def encE(e:EV):List Int:=D.encD e.dot++([e.kind]++(N.ja e.cid++([e.field]++(encT e.text++D.yya e.kills))))
open N (RS Ok wd uG YU WC Yu OkB Sim)
open D (bad4 fin)
def s1(s:RS):RS:=(D.UA s).2
def s2(s:RS):RS:=(YU (s1 s)).2
def s3(s:RS):RS:=(wd (s2 s)).2
def s4(s:RS):RS:=(YU (s3 s)).2
def s5(s:RS):RS:=(WC 60 (s4 s)).2
def s6(s:RS):RS:=(D.uW 256 (s5 s)).2
def getE(s:RS):EV:=⟨(D.UA s).1,(YU (s1 s)).1,(wd (s2 s)).1,(YU (s3 s)).1,(WC 60 (s4 s)).1,(D.uW 256 (s5 s)).1⟩
def noE : EV:=⟨⟨0,0⟩,0,0,0,⟨#[]⟩,[]⟩
def getT(s:RS):RS:=bad4 (!yE (getE s)) (s6 s)
def vQ(s:RS):EV×RS:=fin noE (getE s) (getT s)
theorem wqa{s:RS}(h:Ok s)(m:Int):(WC m s).1.size<=1000000000:=by
 have h1:=(N.Va h).1.len;unfold WC
 split
 ·exact(by decide:(0:Nat)<=1000000000)
 ·split
  ·exact(by decide:(0:Nat)<=1000000000)
  ·split
   ·exact(by decide:(0:Nat)<=1000000000)
   ·rw[jG,List.length_take];omega
theorem dots_okD{s:RS}(h:Ok s)(most:Int):(∀ d∈(D.uW most s).1,D.OkD d)/\(D.uW most s).1.length<=1000000000:=by
 by_cases c:(D.uW most s).2.2=0
 ·obtain⟨e1,e2,e3,e4⟩:=D.yOa h c;have hl:=congrArg List.length e1;have hs:=h.len;have h9:(D.ZY (D.wca (D.uW most s).1))=(D.uW most s).1:=D.Qh e2 fun d hd=>(e3 d hd).1
  have h8:∀ l:List DT,l.length<=(l.flatMap D.encD).length:=by
   intro l
   induction l with
   | nil=>simp
   | cons x t ih=>
    have:1<=(D.encD x).length:=by rw[D.encD,List.length_append,N.ja,N.encN,List.length_cons];omega
    rw[List.flatMap_cons,List.length_append,List.length_cons];omega
  have h7:=h8 (D.uW most s).1;refine⟨fun d hd=>(e3 d hd).2,?_⟩;rw[List.length_append,D.yya,h9,List.length_append] at hl;omega
 ·rw[D.dots_bad c];simp
theorem ok_get{s:RS}(h:Ok s):Ok (s1 s)/\Ok (s2 s)/\Ok (s3 s)/\Ok (s4 s)/\Ok (s5 s)/\Ok (s6 s)/\OkE (getE s):=by
 have o1:Ok (s1 s):=(D.yMa h).1;have o2:=N.wXa o1;have o3:=N.Va (s:=s2 s) o2.1;have o4:=N.wXa (s:=s3 s) o3.1;have o5:=N.ok_text (s:=s4 s) o4.1 60;have o6:=D.qV (s:=s5 s) o5 256;obtain⟨k1,k2⟩:=dots_okD (s:=s5 s) o5 256;exact⟨o1,o2.1,o3.1,o4.1,o5,o6,(D.yMa h).2.1,o2.2,o3.2,o4.2,wqa (s:=s4 s) o4.1 60,k1,k2⟩
variable{B:List Int}{a:Int}{s:RS}
theorem wra{s:RS}(h:(YU s).2.2=0):s.2=0/\s.1=(YU s).1::(YU s).2.1:=by
 unfold YU at h ⊢
 by_cases c:s.2≠0
 ·rw[if_pos c] at h;exact absurd h c
 ·rw[if_neg c] at h ⊢
  cases hs:s.1 with
  | nil=>rw[hs] at h;exact absurd h (N.YN (by decide))
  | cons x r=>exact⟨Classical.byContradiction c,rfl⟩
theorem text_ok{m:Int}{s:RS}(hO:Ok s)(h:(WC m s).2.2=0):(wd s).2.2=0/\s.1=encT (WC m s).1++(WC m s).2.1/\((WC m s).1.size:Int)<=max m 0:=by
 obtain⟨k1,k2,k3⟩:=N.Va hO;unfold WC at h ⊢
 by_cases c:(wd s).2.2≠0
 ·rw[if_pos c] at h;exact absurd h c
 ·rw[if_neg c] at h ⊢
  by_cases c2:max m 0 < (wd s).1
  ·rw[if_pos c2] at h;exact absurd h (N.YN (by decide))
  ·rw[if_neg c2] at h ⊢
   by_cases c3:((wd s).2.1.length:Int) < (wd s).1
   ·rw[if_pos c3] at h;exact absurd h (N.YN (by decide))
   ·rw[if_neg c3];have hz:(wd s).2.2=0:=Classical.byContradiction c;refine⟨hz,?_,?_⟩
    ·show s.1=(N.ja ((strL _).size:Int)++wg (strL _))++_;rw[jG,y0a (k1.by_.take _),List.length_take,show((min (wd s).1.toNat (wd s).2.1.length:Nat):Int)=(wd s).1 by omega,List.append_assoc,List.take_append_drop];exact D.jF hO hz
    ·show((strL _).size:Int)<=_;rw[jG,List.length_take];omega
theorem get_inv{s:RS}(hO:Ok s)(h:(vQ s).2.2=0):s.2=0/\yE (vQ s).1=true/\OkE (vQ s).1/\s.1=encE (vQ s).1++(vQ s).2.1:=by
 obtain⟨o1,o2,o3,o4,o5,o6,oe⟩:=ok_get hO;unfold vQ at h ⊢;rw[D.fin_st] at h;rw[D.wea h];obtain⟨g1,g2,g3⟩:=D.zZa (c:=!yE (getE s)) (s:=s6 s) h;have i6:=D.yOa o5 g2;have z5:(s5 s).2=0:=Classical.byContradiction fun c=>by
  have:(D.uW 256 (s5 s)).2.2≠0:=by
   have hn:=N.num_of c;unfold D.uW;rw[hn];rw[if_neg (by show ¬ max 256 0 < (0:Int);omega)];exact c
  exact this g2
 obtain⟨z5',i5,_⟩:=text_ok (m:=60) o4 z5;have z4:=D.Qg z5';obtain⟨z3,i4⟩:=wra (s:=s3 s) z4;have i3:=D.jF o2 z3;have z2:=D.Qg z3;obtain⟨z1,i2⟩:=wra (s:=s1 s) z2;have i1:=D.wja hO z1;have z0:s.2=0:=D.Qg (D.wfa (D.wga z1).2.1).1;refine⟨z0,by simpa using g1,oe,?_⟩;show s.1=encE (getE s)++(getT s).1;rw[show getT s=s6 s from g3];show s.1=(D.encD (D.UA s).1++([(YU (s1 s)).1]++(N.ja (wd (s2 s)).1++([(YU (s3 s)).1]++(encT (WC 60 (s4 s)).1++D.yya (D.uW 256 (s5 s)).1)))))++(s6 s).1;simp only[List.append_assoc];have j6:(s5 s).1=D.yya (D.uW 256 (s5 s)).1++(s6 s).1:=i6.1;have j5:(s4 s).1=encT (WC 60 (s4 s)).1++(s5 s).1:=i5;have j4:(s3 s).1=[(YU (s3 s)).1]++(s4 s).1:=i4;have j3:(s2 s).1=N.ja (wd (s2 s)).1++(s3 s).1:=i3;have j2:(s1 s).1=[(YU (s1 s)).1]++(s2 s).1:=i2;have j1:s.1=D.encD (D.UA s).1++(s1 s).1:=i1;rw[<- j6,<- j5,<- j4,<- j3,<- j2];exact j1
theorem Zl{s:RS}(hO:Ok s)(h:(vQ s).2.2=0):(vQ s).2.1.length+1<=s.1.length:=by
 have:=(get_inv hO h).2.2.2;have hl:=congrArg List.length this;have:1<=(encE (vQ s).1).length:=by simp only[encE,List.length_append,List.length_singleton];omega
 rw[List.length_append] at hl;omega
open N (RS Ok wd uG YU WC Yu OkB Sim)
open D (bad4 fin)
variable{B:List Int}{a:Int}{s:RS}
abbrev wj(l:List EV):Prop:=l.Pairwise fun x y=>zT x.dot y.dot=true
theorem qd(e:EV)(h:e.kills.length<=1000000000000):xC e=pure e:=by
 unfold xC;rw[D.qZ _ h,zB,zA]
def e4 : EV:=⟨⟨0,0⟩,0,0,0,⟨#[101]⟩,[]⟩
end Go.Ep.M.E

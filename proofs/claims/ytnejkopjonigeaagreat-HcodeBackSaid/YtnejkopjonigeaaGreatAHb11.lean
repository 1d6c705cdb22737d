/- Side texts. -/
import Derived.Test.YtnejkopjonigeaaGreatAHb5
import Derived.Test.YtnejkopjonigeaaGreatAHb10
set_option linter.unusedVariables false
set_option linter.unusedSimpArgs false
namespace Go.Ep.M.C
open Go
def vi(c:List PT)(k:Int):List RN:=(c.filter fun p=>decide (p.dev=k)&&decide (0 < k)).flatMap (·.runs)
theorem rawC_nil(k:Int):vi [] k=[]:=rfl
theorem Yk(p:PT)(c:List PT)(k:Int):vi (p::c) k=(if p.dev=k/\0 < k then p.runs else [])++vi c k:=by
 unfold vi;rw[List.filter_cons]
 by_cases h:p.dev=k/\0 < k
 ·simp[h.1,h.2]
 ·rw[if_neg (by simpa using h),if_neg h];rfl
theorem JT(a b:List PT)(k:Int):vi (a++b) k=vi a k++vi b k:=by simp[vi,List.filter_append]
theorem yKa{c:List PT}{k:Int}(h:¬ 0 < k):vi c k=[]:=by simp[vi,h]
def ZZ(c:List PT)(k n:Int):Bool:=R.xi (vi c k) n
theorem hasC_app(a b:List PT)(k n:Int):ZZ (a++b) k n=(ZZ a k n||ZZ b k n):=by simp[ZZ,JT,R.Zu]
def ya(c:List PT):Nat:=(c.map fun p=>p.runs.length).sum
theorem JU(a b:List PT):ya (a++b)=ya a+ya b:=by simp[ya]
theorem JV(c:List PT)(k:Int):(vi c k).length<=ya c:=by
 induction c with
 | nil=>simp[vi]
 | cons p r ih=>
  rw[Yk,List.length_append];have:ya (p::r)=p.runs.length+ya r:=by simp[ya]
  split
  ·omega
  ·simp;omega
theorem JW(ks:List Int):(ks.map fun _=>0).sum=0:=by
 induction ks with
 | nil=>rfl
 | cons k r ih=>rw[List.map_cons,List.sum_cons,ih]
theorem JX(c:List PT)(ks:List Int)(h:ks.Nodup):(ks.map fun k=>(vi c k).length).sum<=ya c:=by
 induction c with
 | nil=>simp only[rawC_nil,List.length_nil,JW];exact Nat.zero_le _
 | cons p r ih=>
  have e:ya (p::r)=p.runs.length+ya r:=by simp[ya]
  have h1:(ks.map fun k=>(vi (p::r) k).length).sum=(ks.map fun k=>if p.dev=k/\0 < k then p.runs.length else 0).sum+(ks.map fun k=>(vi r k).length).sum:=by
   clear h ih
   induction ks with
   | nil=>rfl
   | cons k ks ih2=>
    simp only[List.map_cons,List.sum_cons,Yk,List.length_append] at ih2 ⊢
    by_cases hc:p.dev=k/\0 < k
    ·rw[if_pos hc,if_pos hc];omega
    ·rw[if_neg hc,if_neg hc,List.length_nil];omega
  have h2:(ks.map fun k=>if p.dev=k/\0 < k then p.runs.length else 0).sum<=p.runs.length:=by
   clear ih h1 e
   induction ks with
   | nil=>simp
   | cons k ks ih2=>
    obtain⟨n1,n2⟩:=List.nodup_cons.1 h;simp only[List.map_cons,List.sum_cons]
    by_cases hk:p.dev=k
    ·have h0:(ks.map fun k=>if p.dev=k/\0 < k then p.runs.length else 0).sum=0:=by
      have:(ks.map fun k=>if p.dev=k/\0 < k then p.runs.length else 0)=ks.map fun _=>0:=by
       refine List.map_congr_left fun q hq=>?_
       rw[if_neg];rintro⟨e,_⟩;exact n1 (by rw[<- hk,e];exact hq)
      rw[this];exact JW ks
     rw[h0]
     split <;> omega
    ·rw[if_neg (fun h=>hk h.1)];have:=ih2 n2;omega
  omega
def OrdP(l:List PT):Prop:=l.Pairwise fun x y=>x.dev < y.dev
theorem Vc : ∀ {l l':List PT},OrdP l->OrdP l'->(∀ d,d∈l↔d∈l')->l=l'
 | [],[],_,_,_=>rfl
 | [],y::r,_,_,h=>absurd ((h y).2 (by simp)) (by simp)
 | x::r,[],_,_,h=>absurd ((h x).1 (by simp)) (by simp)
 | x::r,y::q,h1,h2,h=>by
  obtain⟨a1,a2⟩:=List.pairwise_cons.1 h1;obtain⟨b1,b2⟩:=List.pairwise_cons.1 h2;have e:x=y:=by
   rcases List.mem_cons.1 ((h x).1 (by simp)) with e | hx
   ·exact e
   ·rcases List.mem_cons.1 ((h y).2 (by simp)) with e | hy
    ·exact e.symm
    ·have:=a1 y hy;have:=b1 x hx;omega
  subst e
  congr 1
  refine Vc a2 b2 fun d=>⟨fun hd=>?_,fun hd=>?_⟩
  ·rcases List.mem_cons.1 ((h d).1 (List.mem_cons_of_mem _ hd)) with e | hx
   ·subst e;have:=a1 d hd;omega
   ·exact hx
  ·rcases List.mem_cons.1 ((h d).2 (List.mem_cons_of_mem _ hd)) with e | hx
   ·subst e;have:=b1 d hd;omega
   ·exact hx
def ye(f:Int->List RN)(ks:List Int):List PT:=ks.filterMap fun k=>if f k=[] then none else some ⟨k,f k⟩
theorem vN{f:Int->List RN}{ks:List Int}{p:PT}:p∈ye f ks↔p.dev∈ks/\p.runs≠[]/\p.runs=f p.dev:=by
 unfold ye;rw[List.mem_filterMap]
 constructor
 ·rintro⟨k,hk,h⟩
  split at h
  ·cases h
  ·rename_i h0;cases h;exact⟨hk,h0,rfl⟩
 ·rintro⟨h1,h2,h3⟩;refine⟨p.dev,h1,?_⟩;rw[if_neg (by rw[<- h3];exact h2),<- h3]
theorem vO{f:Int->List RN}{ks:List Int}(h:ks.Pairwise (· < ·)):OrdP (ye f ks):=by
 unfold OrdP ye;rw[List.pairwise_filterMap];refine h.imp fun {a b} hab x hx y hy=>?_
 split at hx
 ·cases hx
 ·split at hy
  ·cases hy
  ·cases hx;cases hy;exact hab
theorem zPa{f g:Int->List RN}{ks ls:List Int}(h1:ks.Pairwise (· < ·))(h2:ls.Pairwise (· < ·))(hf:∀ k,f k=g k)(h:∀ k,f k≠[]->(k∈ks↔k∈ls)):ye f ks=ye g ls:=by
 refine Vc (vO h1) (vO h2) fun p=>?_
 rw[vN,vN]
 constructor
 ·rintro⟨a,b,c⟩;exact⟨(h _ (by rw[<- c];exact b)).1 a,b,by rw[c,hf]⟩
 ·rintro⟨a,b,c⟩;exact⟨(h _ (by rw[hf,<- c];exact b)).2 a,b,by rw[c,hf]⟩
theorem zQa(f:Int->List RN)(ks:List Int):(ye f ks).length<=ks.length:=List.length_filterMap_le _ _
theorem US(f:Int->List RN)(ks:List Int):ya (ye f ks)=(ks.map fun k=>(f k).length).sum:=by
 induction ks with
 | nil=>rfl
 | cons k ks ih=>
  have:ye f (k::ks)=(if f k=[] then [] else [⟨k,f k⟩])++ye f ks:=by
   unfold ye
   by_cases h:f k=[] <;> simp[h]
  rw[this,JU,ih]
  by_cases h:f k=[] <;> simp[h,ya]
theorem UT{f:Int->List RN}{ks:List Int}(h:ks.Nodup)(k:Int):vi (ye f ks) k=if k∈ks/\0 < k then f k else []:=by
 induction ks with
 | nil=>simp[ye,vi]
 | cons q ks ih=>
  obtain⟨n1,n2⟩:=List.nodup_cons.1 h;have e:ye f (q::ks)=(if f q=[] then [] else [⟨q,f q⟩])++ye f ks:=by
   unfold ye
   by_cases h:f q=[] <;> simp[h]
  rw[e,JT,ih n2]
  by_cases hq:q=k
  ·subst hq;rw[if_neg (fun(h:q∈ks/\0 < q)=>n1 h.1),List.append_nil]
   by_cases h0:f q=[]
   ·rw[if_pos h0,h0];simp[vi]
   ·rw[if_neg h0]
    by_cases hp:0 < q
    ·rw[if_pos ⟨List.mem_cons_self,hp⟩];simp[vi,hp]
    ·rw[if_neg (fun h=>hp h.2)];exact yKa hp
  ·have:vi (if f q=[] then [] else [(⟨q,f q⟩:PT)]) k=[]:=by
    by_cases h0:f q=[] <;> simp[h0,vi,hq]
   rw[this];have hm:(k∈q::ks)↔k∈ks:=by simp[Ne.symm hq]
   simp only[hm,List.nil_append]
def qj(l:List Int)(p:PT):List Int:=if 0 < p.dev then V.xJa l p.dev else l
def XQ(c:List PT):List Int:=c.foldl qj []
theorem WP(c:List PT):∀ l:List Int,l.Pairwise (· < ·)->(c.foldl qj l).Pairwise (· < ·)/\(∀ k,k∈c.foldl qj l↔k∈l\/∃ p∈c,p.dev=k/\0 < k)/\(c.foldl qj l).length<=l.length+c.length:=by
 induction c with
 | nil=>intro l h;simp[h]
 | cons p r ih=>
  intro l h;rw[List.foldl_cons]
  by_cases hp:0 < p.dev
  ·have e:qj l p=V.xJa l p.dev:=by simp[qj,hp]
   rw[e];obtain⟨h1,h2,h3⟩:=ih _ (V.UO h p.dev);refine⟨h1,fun k=>?_,by have:=V.yCa l p.dev;simp;omega⟩;rw[h2,V.JN]
   constructor
   ·rintro((rfl | h4) | ⟨x,h4,h5⟩)
    ·exact .inr ⟨p,by simp,rfl,hp⟩
    ·exact .inl h4
    ·exact .inr ⟨x,by simp[h4],h5⟩
   ·rintro(h4 | ⟨x,h4,h5,h6⟩)
    ·exact .inl (.inr h4)
    ·rcases List.mem_cons.1 h4 with rfl | h4
     ·exact .inl (.inl h5.symm)
     ·exact .inr ⟨x,h4,h5,h6⟩
  ·have e:qj l p=l:=by simp[qj,hp]
   rw[e];obtain⟨h1,h2,h3⟩:=ih _ h;refine⟨h1,fun k=>?_,by simp;omega⟩;rw[h2]
   constructor
   ·rintro(h4 | ⟨x,h4,h5⟩)
    ·exact .inl h4
    ·exact .inr ⟨x,by simp[h4],h5⟩
   ·rintro(h4 | ⟨x,h4,h5,h6⟩)
    ·exact .inl h4
    ·rcases List.mem_cons.1 h4 with rfl | h4
     ·rw[h5] at hp;exact absurd h6 hp
     ·exact .inr ⟨x,h4,h5,h6⟩
theorem uq(c:List PT):(XQ c).Pairwise (· < ·):=(WP c [] List.Pairwise.nil).1
theorem ql{l:List Int}(h:l.Pairwise (· < ·)):l.Nodup:=h.imp fun {a b} h e=>by omega
theorem Za(c:List PT):(XQ c).Nodup:=ql (uq c)
theorem vV{c:List PT}{k:Int}:k∈XQ c↔(∃ p∈c,p.dev=k)/\0 < k:=by
 have:=(WP c [] List.Pairwise.nil).2.1 k;unfold XQ;rw[this];simp only[List.not_mem_nil,false_or]
 constructor
 ·rintro⟨p,h1,h2,h3⟩;exact⟨⟨p,h1,h2⟩,h3⟩
 ·rintro⟨⟨p,h1,h2⟩,h3⟩;exact⟨p,h1,h2,h3⟩
theorem len_devs(c:List PT):(XQ c).length<=c.length:=by simpa[XQ] using (WP c [] List.Pairwise.nil).2.2
theorem Zw{c:List PT}{k:Int}(h:vi c k≠[]):k∈XQ c:=by
 rw[vV];refine Classical.byContradiction fun hn=>h ?_
 unfold vi;have:(c.filter fun p=>decide (p.dev=k)&&decide (0 < k))=[]:=by
  rw[List.filter_eq_nil_iff];intro p hp;simp only[Bool.and_eq_true,decide_eq_true_eq];rintro⟨h1,h2⟩;exact hn ⟨⟨p,hp,h1⟩,h2⟩
 rw[this];rfl
def opC(op:Bool->Bool->Bool)(a b:List PT):List PT:=ye (fun k=>R.wda op (vi a k) (vi b k)) (XQ (a++b))
def yC(c:List PT):List PT:=ye (fun k=>R.nrm (vi c k)) (XQ c)
theorem setR_nil{op:Bool->Bool->Bool}(h0:op false false=false):R.wda op [] []=[]:=by
 have:=R.vM op h0 [] [];exact R.yFa this.1 trivial fun n=>by rw[this.2.1];exact h0
theorem zRa : R.nrm []=[]:=setR_nil rfl
theorem wka{op:Bool->Bool->Bool}(h0:op false false=false)(a b:List PT)(k n:Int):ZZ (opC op a b) k n=op (ZZ a k n) (ZZ b k n):=by
 unfold ZZ opC;rw[UT (Za _)]
 split
 ·rw[(R.vM op h0 _ _).2.1]
 ·rename_i h
  have e:vi a k=[]/\vi b k=[]:=by
   have h1:vi (a++b) k=[]:=Classical.byContradiction fun h2=>h ⟨Zw h2,(vV.1 (Zw h2)).2⟩
   rw[JT] at h1;simpa using h1
  rw[e.1,e.2];show R.xi [] n=_;simp[R.xi,h0]
theorem qp(c:List PT)(k n:Int):ZZ (yC c) k n=ZZ c k n:=by
 unfold ZZ yC;rw[UT (Za _)]
 split
 ·rw[R.Wn]
 ·rename_i h
  have e:vi c k=[]:=Classical.byContradiction fun h2=>h ⟨Zw h2,(vV.1 (Zw h2)).2⟩
  rw[e]
structure Canon(c:List PT):Prop where
 ord:OrdP c
 nf:∀ p∈c,0 < p.dev/\p.runs≠[]/\R.Nf p.runs
theorem UU{f:Int->List RN}{c:List PT}(h:∀ k,R.Nf (f k)):Canon (ye f (XQ c)):=⟨vO (uq c),fun p hp=>by
 obtain⟨h1,h2,h3⟩:=vN.1 hp;exact⟨(vV.1 h1).2,h2,by rw[h3];exact h _⟩⟩
theorem yLa{op:Bool->Bool->Bool}(h0:op false false=false)(a b:List PT):Canon (opC op a b):=UU fun _=>(R.vM op h0 _ _).1
theorem uP(c:List PT):Canon (yC c):=UU fun _=>R.jV _
theorem Vd : ∀ {c:List PT},OrdP c->∀ p∈c,0 < p.dev->vi c p.dev=p.runs
 | [],_,p,hp,_=>by simp at hp
 | q::r,h,p,hp,h0=>by
  obtain⟨h1,h2⟩:=List.pairwise_cons.1 h;rw[Yk];rcases List.mem_cons.1 hp with rfl | hp
  ·rw[if_pos ⟨rfl,h0⟩];have:vi r p.dev=[]:=by
    unfold vi;have:(r.filter fun x=>decide (x.dev=p.dev)&&decide (0 < p.dev))=[]:=by
     rw[List.filter_eq_nil_iff];intro x hx;have:=h1 x hx;simp;omega
    rw[this];rfl
   rw[this,List.append_nil]
  ·have:=h1 p hp;rw[if_neg (by omega),Vd h2 p hp h0];rfl
theorem Canon.eq_norm{c:List PT}(h:Canon c):c=yC c:=by
 refine Vc h.ord (uP c).ord fun p=>?_
 unfold yC;rw[vN]
 constructor
 ·intro hp;obtain⟨h1,h2,h3⟩:=h.nf p hp;exact⟨vV.2 ⟨⟨p,hp,rfl⟩,h1⟩,h2,by rw[Vd h.ord p hp h1,R.yIa h3]⟩
 ·rintro⟨h1,h2,h3⟩;obtain⟨⟨q,hq,hd⟩,h0⟩:=vV.1 h1;obtain⟨g1,g2,g3⟩:=h.nf q hq;have e:vi c p.dev=q.runs:=by rw[<- hd];exact Vd h.ord q hq g1
  rw[e,R.yIa g3] at h3;have:p=q:=by cases p;cases q;simp_all
  rw[this];exact hq
theorem qq{a b:List PT}(h:∀ k n,ZZ a k n=ZZ b k n):yC a=yC b:=by
 have hf:∀ k,R.nrm (vi a k)=R.nrm (vi b k):=fun k=>R.yFa (R.jV _) (R.jV _) fun n=>by rw[R.Wn,R.Wn];exact h k n
 refine zPa (uq a) (uq b) hf fun k hk=>?_
 have ha:vi a k≠[]:=fun e=>hk (by rw[e];exact zRa)
 have hb:vi b k≠[]:=fun e=>hk (by rw[hf,e];exact zRa)
 exact⟨fun _=>Zw hb,fun _=>Zw ha⟩
theorem Canon.ext{a b:List PT}(ha:Canon a)(hb:Canon b)(h:∀ k n,ZZ a k n=ZZ b k n):a=b:=by rw[ha.eq_norm,hb.eq_norm];exact qq h
theorem Wo{c:List PT}(h:Canon c):yC c=c:=h.eq_norm.symm
theorem norm_or(a b:List PT):yC (a++b)=opC (·||·) a b:=(uP _).ext (yLa rfl a b) fun k n=>by rw[qp,hasC_app,wka rfl]
theorem qr : Canon []:=⟨List.Pairwise.nil,fun p h=>by simp at h⟩
theorem Yl(c:List PT):(yC c).length<=c.length:=Nat.le_trans (zQa _ _) (len_devs c)
theorem sum_le{ks:List Int}{f g:Int->Nat}(h:∀ k,f k<=g k):(ks.map f).sum<=(ks.map g).sum:=by
 induction ks with
 | nil=>simp
 | cons k r ih=>have:=h k;simp;omega
theorem sum_two(ks:List Int)(f g:Int->Nat):(ks.map fun k=>2*(f k+g k)).sum=2*((ks.map f).sum+(ks.map g).sum):=by
 induction ks with
 | nil=>rfl
 | cons k r ih=>simp;omega
theorem Ym(c:List PT):ya (yC c)<=2*ya c:=by
 unfold yC;rw[US];refine Nat.le_trans (sum_le (g:=fun k=>2*((vi c k).length+0)) fun k=>by have:=R.zNa (vi c k);omega) ?_;rw[sum_two];have h1:=JX c (XQ c) (Za _);have h2:=JW (XQ c);omega
theorem get_grow(l:List (Int×List RN)):∀ (m:List (Int×List RN)) (k:Int),AL.getZ (AL.grow m l) k []=AL.getZ m k []++(l.filter fun x=>decide (x.1=k)).flatMap (·.2):=by
 induction l with
 | nil=>intro m k;simp[AL.grow]
 | cons x r ih=>
  intro m k;show AL.getZ (AL.grow (AL.set m x.1 (AL.getZ m x.1 []++x.2)) r) k []=_;rw[ih,AL.getZ_set,List.filter_cons]
  by_cases h:x.1=k
  ·subst h;simp
  ·simp[h]
theorem xNa(l:List (Int×List RN)):∀ m:List (Int×List RN),(m.map (·.1)).Nodup->((AL.grow m l).map (·.1)).Nodup:=by
 induction l with
 | nil=>intro m h;exact h
 | cons x r ih=>intro m h;exact ih _ (AL.nodup_set h _ _)
theorem len_grow(l:List (Int×List RN)):∀ m:List (Int×List RN),(AL.grow m l).length<=m.length+l.length:=by
 induction l with
 | nil=>intro m;exact Nat.le_refl _
 | cons x r ih=>
  intro m;have h1:=ih (AL.set m x.1 (AL.getZ m x.1 []++x.2));have h2:=AL.len_set m x.1 (AL.getZ m x.1 []++x.2);show(AL.grow (AL.set m x.1 (AL.getZ m x.1 []++x.2)) r).length<=_;simp only[List.length_cons];omega
theorem key_grow(l:List (Int×List RN)):∀ (m:List (Int×List RN)) (k:Int),k∈(AL.grow m l).map (·.1)->k∈m.map (·.1)\/∃ x∈l,x.1=k:=by
 induction l with
 | nil=>intro m k h;exact .inl h
 | cons x r ih=>
  intro m k h;rcases ih _ k h with h | ⟨y,hy,e⟩
  ·rw[AL.keys_set] at h
   split at h
   ·exact .inl h
   ·rcases List.mem_append.1 h with h | h
    ·exact .inl h
    ·exact .inr ⟨x,by simp,(List.mem_singleton.1 h).symm⟩
  ·exact .inr ⟨y,by simp[hy],e⟩
def Yi(c:List PT):List (Int×List RN):=AL.grow [] (c.filterMap zp)
theorem WQ(c:List PT)(k:Int):AL.getZ (Yi c) k []=vi c k:=by
 unfold Yi;rw[get_grow];show[]++_=_;rw[List.nil_append]
 induction c with
 | nil=>rfl
 | cons p r ih=>
  rw[Yk,<- ih,List.filterMap_cons]
  by_cases h0:0 < p.dev
  ·have e:zp p=some (p.dev,p.runs):=by simp[zp,h0]
   rw[e];simp only[List.filter_cons]
   by_cases h:p.dev=k
   ·subst h;simp[h0]
   ·simp[h]
  ·have e:zp p=none:=by simp[zp,h0]
   rw[e,if_neg (by rintro⟨h1,h2⟩;omega)];rfl
theorem XJ(c:List PT):((Yi c).map (·.1)).Nodup:=xNa _ _ (by simp)
theorem told_len(c:List PT):(Yi c).length<=c.length:=by
 have h1:=len_grow (c.filterMap zp) [];have h2:=List.length_filterMap_le zp c;unfold Yi;simp at h1;omega
theorem told_pos{c:List PT}{k:Int}(h:k∈(Yi c).map (·.1)):0 < k/\k∈XQ c:=by
 rcases key_grow _ _ _ h with h | ⟨x,hx,rfl⟩
 ·simp at h
 ·rw[List.mem_filterMap] at hx;obtain⟨p,hp,hx⟩:=hx;unfold zp at hx
  split at hx
  ·rename_i h0;cases hx;exact⟨h0,vV.2 ⟨⟨p,hp,rfl⟩,h0⟩⟩
  ·cases hx
theorem JP{c:List PT}{e:Int×List RN}(h:e∈Yi c):e.2=vi c e.1/\0 < e.1/\e.1∈XQ c:=by
 have h1:=AL.mem_get (XJ c) (k:=e.1) (v:=e.2) h;have h2:=WQ c e.1;unfold AL.getZ at h2;rw[h1] at h2;exact⟨h2,told_pos (List.mem_map.2 ⟨e,h,rfl⟩)⟩
theorem told_at{c:List PT}{k:Int}(h:vi c k≠[]):(k,vi c k)∈Yi c:=by
 have h2:=WQ c k;unfold AL.getZ at h2
 cases hg:AL.get (Yi c) k with
 | none=>rw[hg] at h2;exact absurd h2.symm h
 | some v=>rw[hg] at h2;simp only[Option.getD_some] at h2;subst h2;exact AL.get_mem hg
theorem tot_told(c:List PT):((c.filterMap zp).map fun x=>x.2.length).sum<=ya c:=by
 induction c with
 | nil=>simp
 | cons p r ih=>
  have e:ya (p::r)=p.runs.length+ya r:=by simp[ya]
  rw[List.filterMap_cons]
  by_cases h0:0 < p.dev
  ·have e2:zp p=some (p.dev,p.runs):=by simp[zp,h0]
   rw[e2];simp only[List.map_cons,List.sum_cons];omega
  ·have e2:zp p=none:=by simp[zp,h0]
   rw[e2];simp only;omega
def Sm(c:List PT):Prop:=c.length<=10000000000/\ya c<=10000000000
theorem wla(c:List PT)(h:Sm c):WC c=pure (Yi c):=by
 unfold WC;rw[zF]
 ·rfl
 ·have:=tot_told c;refine⟨by have:=h.1;omega,?_⟩;have:=h.2;omega
theorem order_eq(m:List (Int×List RN))(f:Int->List RN)(ks:List Int)(hl:m.length<=1000000000000)(hr:∀ e∈m,e.2.length<=1000000000000)(hn:(m.map (·.1)).Nodup)(hs:ks.Pairwise (· < ·))(h1:∀ e∈m,R.nrm e.2≠[]->e.1∈ks/\R.nrm e.2=f e.1)(h2:∀ k∈ks,f k≠[]->∃ r,(k,r)∈m/\R.nrm r=f k):YQ m=pure (ye f ks):=by
 unfold YQ;have hall:∀ Q:List PT->Prop,(∀ l:List (Int×List RN),l.Perm m->Q ((l.filter fun e=>decide (R.nrm e.2≠[])).map fun e=>(⟨e.1,R.nrm e.2⟩:PT)))->(loop (ZA m) ([],([]:List PT))).wp Q:=by
  intro Q hQ;refine M.loopM (body:=ZA m) m (fun L (t:List PT)=>(L,t)) (fun t e=>(va e.2).det.bind fun v=>if 0 < v.length then yb ((t.length+1)*32<=140737488355328) (pure (t++[(⟨e.1,v⟩:PT)])) else pure t) (fun t=>pure t)
   (fun l t=>t=((l.filter fun e=>decide (R.nrm e.2≠[])).map fun e=>(⟨e.1,R.nrm e.2⟩:PT))) Q (fun L t hL=>?_) (fun l t y ht hlen hy=>?_) (fun l t hp ht=>?_) [] rfl
  ·unfold ZA;show yb _ ((nxt _ _).bind _)=yb _ ((nxt _ _).bind _);refine congrArg (fun k=>yb _ ((nxt _ _).bind k)) (funext fun o=>?_)
   cases o with
   | none=>rfl
   | some i=>
    refine congrArg (fun k=>(idx m (Int.ofNat i)).bind k) (funext fun y=>?_);rw[y1a];refine congrArg (fun k=>(va y.2).det.bind k) (funext fun v=>?_);rw[wb]
    by_cases h:0 < v.length
    ·rw[if_pos (by omega),if_pos h];rfl
    ·rw[if_neg (by omega),if_neg h];rfl
  ·have hle:=List.length_filter_le (fun e:Int×List RN=>decide (R.nrm e.2≠[])) l;have htl:t.length<=l.length:=by rw[ht,List.length_map];exact hle
   rw[R.zOa y.2 (hr y hy),zB,zA];refine⟨if R.nrm y.2=[] then t else t++[⟨y.1,R.nrm y.2⟩],?_,?_⟩
   ·by_cases h:R.nrm y.2=[]
    ·rw[if_neg (by rw[h];simp),if_pos h]
    ·rw[if_pos (by rw[List.length_pos_iff];exact h),if_neg h,zF (by omega)]
   ·subst ht;rw[List.filter_append,List.map_append]
    by_cases h:R.nrm y.2=[] <;> simp[h]
  ·subst ht;exact hQ l hp
 refine uU (hall _ fun l hp=>?_);show(yb _ _).wp _;have hll:=hp.length_eq;have hle:=List.length_filter_le (fun e:Int×List RN=>decide (R.nrm e.2≠[])) l;have hmem:∀ d:PT,d∈((l.filter fun e=>decide (R.nrm e.2≠[])).map fun e=>(⟨e.1,R.nrm e.2⟩:PT))↔d∈ye f ks:=by
  intro d;rw[vN,List.mem_map]
  constructor
  ·rintro⟨e,he,rfl⟩;rw[List.mem_filter,hp.mem_iff] at he;have h0:R.nrm e.2≠[]:=by simpa using he.2
   obtain⟨h3,h4⟩:=h1 e he.1 h0;exact⟨h3,h0,h4⟩
  ·rintro⟨h3,h4,h5⟩;obtain⟨r,h6,h7⟩:=h2 d.dev h3 (by rw[<- h5];exact h4);refine⟨(d.dev,r),?_,by show(⟨d.dev,R.nrm r⟩:PT)=d;rw[h7,<- h5]⟩;rw[List.mem_filter,hp.mem_iff];refine⟨h6,?_⟩;simp only[decide_eq_true_eq];rw[h7,<- h5];exact h4
 have hnd:((l.filter fun e=>decide (R.nrm e.2≠[])).map fun e=>(⟨e.1,R.nrm e.2⟩:PT)).Pairwise (fun x y=>x.dev≠y.dev):=by
  rw[List.pairwise_map];have:l.Pairwise (fun x y=>x.1≠y.1):=by
   have:=(hp.map (·.1)).nodup_iff.2 hn;exact List.pairwise_map.1 this
  exact(this.filter _)
 refine⟨by simp only[List.length_map];omega,⟨?_,fun l' ⟨hp',hs'⟩=>?_⟩⟩
 ·refine⟨ye f ks,?_,?_⟩
  ·refine(List.perm_ext_iff_of_nodup ?_ ?_).2 fun d=>(hmem d).symm
   ·exact(vO hs).imp fun {a b} h e=>by subst e;omega
   ·exact hnd.imp fun {a b} h e=>by subst e;exact h rfl
  ·exact(vO hs).imp fun {a b} h=>by simp[jM];omega
 ·show l'=_;refine Vc ?_ (vO hs) fun d=>by rw[hp'.mem_iff];exact hmem d
  have hnd':=(hp'.pairwise_iff (fun {a b} h=>Ne.symm h)).2 hnd;exact(hs'.and hnd').imp fun {a b} ⟨h3,h4⟩=>by simp[jM] at h3;omega
theorem xOa(c:List PT)(h:Sm c):YQ (Yi c)=pure (yC c):=by
 refine order_eq _ _ _ (by have:=told_len c;have:=h.1;omega) (fun e he=>?_) (XJ c) (uq c) (fun e he h0=>?_) (fun k hk h0=>?_)
 ·rw[(JP he).1];have:=JV c e.1;have:=h.2;omega
 ·obtain⟨h1,h2,h3⟩:=JP he;exact⟨h3,by rw[h1]⟩
 ·exact⟨_,told_at (fun e=>h0 (by rw[e];exact zRa)),rfl⟩
theorem Wp(c:List PT)(h:Sm c):vS c=pure (yC c):=by
 unfold vS;rw[wla c h,zB,zA,xOa c h,zB,zA]
theorem Runs_eq(c:List PT)(k:Int)(h:Sm c):VU c k=pure (R.nrm (vi c k)):=by
 unfold VU;rw[wla c h,zB,zA,WQ,R.zOa _ (by have:=JV c k;have:=h.2;omega),zB,zA]
theorem yMa(c:List PT)(d:DT)(h:Sm c):UC c d=pure (ZZ c d.dev d.n):=by
 unfold UC;rw[wb]
 by_cases h0:0 < d.dev
 ·rw[if_pos h0,Runs_eq c _ h,zB,zA,R.has_eq _ _ (by have:=R.zNa (vi c d.dev);have:=JV c d.dev;have:=h.2;omega),zB,zA,zA,R.Wn]
  rfl
 ·rw[if_neg h0,zA];show pure false=pure (R.xi (vi c d.dev) d.n);rw[yKa h0];rfl
def dotsC(l:List DT):List PT:=(l.filter V.xB).map fun d=>⟨d.dev,[⟨d.n,d.n⟩]⟩
theorem growC_eq(n:Int)(h0:0<=n)(h:n<=1000000000000):yM n=pure []:=by
 unfold yM;have e:IntKind.i64.wrap (n - IntKind.i64.wrap (0 - 0))=n:=by
  rw[XZ (n:=0 - 0) (by omega) (by omega),XZ (by omega) (by omega)];omega
 simp only[e,wb];rw[if_neg (by omega)]
 split
 ·rw[zF ⟨by omega,by omega⟩,zF ⟨by omega,by omega,by omega⟩];simp[zA]
 ·simp[zA]
theorem xPa(a b:List PT)(h:a.length+b.length<=1000000000000):yZ [a,b]=pure (a++b):=by
 unfold yZ;have e1:zc [a,b] (0,0)=pure (.next ((a.length:Int),1)):=by
  unfold zc;have:IntKind.i64.wrap (0+(a.length:Int))=a.length:=by rw[XZ (by omega) (by omega)];omega
  simp only[wb,XV (l:=[a,b]) (i:=0) (y:=a) (by omega) rfl,zA,this];rw[if_pos (by simp),if_neg (by omega),XZ (by omega) (by omega)];rfl
 have e2:zc [a,b] ((a.length:Int),1)=pure (.next ((a.length:Int)+b.length,2)):=by
  unfold zc;have:IntKind.i64.wrap ((a.length:Int)+b.length)=a.length+b.length:=by rw[XZ (by omega) (by omega)]
  simp only[wb,XV (l:=[a,b]) (i:=1) (y:=b) (by omega) rfl,zA,this];rw[if_pos (by simp),if_neg (by omega),XZ (by omega) (by omega)];rfl
 have e3:zc [a,b] ((a.length:Int)+b.length,2)=pure (.done ((a.length:Int)+b.length)):=by
  unfold zc;simp
 have f1:zd [a,b] (0,[])=pure (.next (1,a)):=by
  unfold zd;simp only[wb,XV (l:=[a,b]) (i:=0) (y:=a) (by omega) rfl,zA];rw[if_pos (by simp),zF (by simp;omega),XZ (by omega) (by omega)];rfl
 have f2:zd [a,b] (1,a)=pure (.next (2,a++b)):=by
  unfold zd;simp only[wb,XV (l:=[a,b]) (i:=1) (y:=b) (by omega) rfl,zA];rw[if_pos (by simp),zF (by omega),XZ (by omega) (by omega)];rfl
 have f3:zd [a,b] (2,a++b)=pure (.done (a++b)):=by
  unfold zd;simp
 rw[zg e1,zg e2,zV e3,zA,growC_eq _ (by omega) (by omega),zB,zA,zg f1,zg f2,zV f3,zA]
theorem sm_app{a b:List PT}(ha:a.length+b.length<=10000000000)(hb:ya a+ya b<=10000000000):Sm (a++b):=⟨by rw[List.length_append];exact ha,by rw[JU];exact hb⟩
theorem Join_eq(a b:List PT)(h:Sm (a++b)):VV a b=pure (opC (·||·) a b):=by
 unfold VV;rw[xPa a b (by have:=h.1;rw[List.length_append] at this;omega),zB,zA,Wp _ h,zB,zA,norm_or]
theorem partEq(x y:PT):(decide (x.dev=y.dev)&&decide (x.runs=y.runs))=decide (x=y):=by
 rw[Bool.eq_iff_iff]
 cases x;cases y
 simp
theorem eqP_eq(a b:List PT)(ha:a.length<=1000000000000)(hr:∀ p∈a,p.runs.length<=1000000000000):zY a b=pure (decide (a=b)):=by
 unfold zY
 by_cases hl:(a.length:Int)=b.length
 ·simp only[hl,decide_true,Bool.not_true,cond_false];have:=vL (body:=zW a b) a (fun i=>(i:Int)) (fun i x=>decide (b[i]?=some x)) (.brk ()) (.ret false) (fun i x hx hi=>by
   have hb:i < b.length:=by omega
   have hby:=List.getElem?_eq_getElem hb;unfold zW UB;have h1:decide ((i:Int) < (a.length:Int))=true:=by simpa using hi
   simp only[h1,cond_true,zT hx,zT hby,zA,R.seq_eq x.runs _ (hr x (List.mem_of_getElem? hx)),zB,xm,partEq,yt (show i < 9223372036854775807 by omega)];rw[hby]
   by_cases hxy:x=b[i] <;> simp[hxy,eq_comm,zA]) (by unfold zW;simp)
  rw[show(0:Int)=((0:Nat):Int) from rfl,this];have hiff:(a.zipIdx.all fun y=>decide (b[y.2]?=some y.1))=decide (a=b):=by
   rw[Bool.eq_iff_iff,List.all_eq_true,decide_eq_true_eq]
   constructor
   ·intro h;apply List.ext_getElem?;intro i
    by_cases hi:i < a.length
    ·have:=h (a[i],i) (by rw[List.mem_zipIdx_iff_getElem?];exact List.getElem?_eq_getElem hi);simp only[decide_eq_true_eq] at this;rw[this,List.getElem?_eq_getElem hi]
    ·rw[List.getElem?_eq_none (by omega),List.getElem?_eq_none (by omega)]
   ·rintro rfl y hy;rw[List.mem_zipIdx_iff_getElem?] at hy;simpa using hy
  rw[hiff]
  by_cases h:a=b <;> simp[h,exk,zA]
 ·have:¬ a=b:=fun e=>hl (by rw[e])
  simp[hl,this]
theorem eq_eq(a b:List PT)(ha:a.length<=1000000000000)(hr:∀ p∈a,p.runs.length<=1000000000000):z0a a b=pure (decide (a=b)):=by
 unfold z0a;rw[eqP_eq a b ha hr,zB,zA]
theorem qu{c:List PT}:∀ p∈c,p.runs.length<=ya c:=by
 induction c with
 | nil=>intro p hp;simp at hp
 | cons q r ih=>
  intro p hp;have e:ya (q::r)=q.runs.length+ya r:=by simp[ya]
  rcases List.mem_cons.1 hp with rfl | hp
  ·omega
  ·have:=ih p hp;omega
theorem Wq(c:List PT)(h:Sm c):uA c=pure (decide (c=yC c)):=by
 unfold uA;rw[Wp c h,zB,zA,eq_eq _ _ (by have:=h.1;omega) (fun p hp=>by have:=qu p hp;have:=h.2;omega),zB,zA]
theorem rEq_eq(a b:List PT)(ha:a.length<=1000000000000)(hr:∀ p∈a,p.runs.length<=1000000000000):jO a b=pure (decide (a=b)):=by
 unfold jO
 by_cases hl:(a.length:Int)=b.length
 ·simp only[hl,decide_true,Bool.not_true,cond_false];have:=vL (body:=WE a b) a (fun i=>(i:Int)) (fun i x=>decide (b[i]?=some x)) (.brk ()) (.ret false) (fun i x hx hi=>by
   have hb:i < b.length:=by omega
   have hby:=List.getElem?_eq_getElem hb;unfold WE;have h1:decide ((i:Int) < (a.length:Int))=true:=by simpa using hi
   simp only[h1,cond_true,zT hx,zT hby,zA,R.req_eq x.runs _ (hr x (List.mem_of_getElem? hx)),zB,yt (show i < 9223372036854775807 by omega)];rw[hby];have he:=partEq x b[i]
   by_cases hd:x.dev=(b[i]).dev
   ·by_cases hq:x.runs=(b[i]).runs
    ·simp only[hd,hq,decide_true,Bool.and_self,eq_comm (a:=true),decide_eq_true_eq] at he;simp[hd,hq,he,zA]
    ·have hne:¬ x=b[i]:=fun e=>hq (by rw[e])
     have hne2:¬ b[i]=x:=fun e=>hne e.symm
     simp[hd,hq,hne2,zA]
   ·have hne2:¬ b[i]=x:=fun e=>hd (by rw[e])
    simp[hd,hne2,zA]) (by unfold WE;simp)
  rw[show(0:Int)=((0:Nat):Int) from rfl,this];have hiff:(a.zipIdx.all fun y=>decide (b[y.2]?=some y.1))=decide (a=b):=by
   rw[Bool.eq_iff_iff,List.all_eq_true,decide_eq_true_eq]
   constructor
   ·intro h;apply List.ext_getElem?;intro i
    by_cases hi:i < a.length
    ·have:=h (a[i],i) (by rw[List.mem_zipIdx_iff_getElem?];exact List.getElem?_eq_getElem hi);simp only[decide_eq_true_eq] at this;rw[this,List.getElem?_eq_getElem hi]
    ·rw[List.getElem?_eq_none (by omega),List.getElem?_eq_none (by omega)]
   ·rintro rfl y hy;rw[List.mem_zipIdx_iff_getElem?] at hy;simpa using hy
  rw[hiff]
  by_cases h:a=b <;> simp[h,exk,zA]
 ·have:¬ a=b:=fun e=>hl (by rw[e])
  simp[hl,this]
theorem rEq_sm(a b:List PT)(h:Sm a):jO a b=pure (decide (a=b)):=rEq_eq a b (by have:=h.1;omega) fun p hp=>by have:=qu p hp;have:=h.2;omega
structure Ok(c:List PT):Prop where
 dev:∀ p∈c,0<=p.dev
 len:c.length<=1000000000
 tot:ya c<=1000000000
theorem Ok.sm{c:List PT}(h:Ok c):Sm c:=⟨by have:=h.len;omega,by have:=h.tot;omega⟩
section
variable(a b:List PT)(ha:Ok a)(hb:Ok b)
include ha hb
end
theorem wma : Ok []:=⟨fun p h=>by simp at h,by simp,by simp[ya]⟩
theorem JY(c:List PT):UA c=pure (decide (c.length<=30)&&c.all fun p=>decide (p.runs.length<=30)):=by
 unfold UA
 by_cases h0:30 < c.length
 ·have:decide ((30:Int) < (c.length:Int))=true:=by simp;omega
  rw[this,cond_true];have:decide (c.length<=30)=false:=by simp;omega
  rw[this];rfl
 ·have h1:decide ((30:Int) < (c.length:Int))=false:=by simp;omega
  rw[h1,cond_false];have:=vL (body:=Yw c) c (fun i=>(i:Int)) (fun i x=>decide (x.runs.length<=30)) (.brk ()) (.ret false) (fun i x hx hi=>by
   have h2:decide ((i:Int) < (c.length:Int))=true:=by simpa using hi
   unfold Yw;simp only[h2,cond_true,zT hx,zA,wb,yt (show i < 9223372036854775807 by omega),decide_eq_true_eq]
   by_cases h3:x.runs.length<=30
   ·rw[if_neg (by omega),if_pos h3]
   ·rw[if_pos (by omega),if_neg h3]) (by unfold Yw;simp)
  rw[show(0:Int)=((0:Nat):Int) from rfl,this];have hiff:(c.zipIdx.all fun y=>decide (y.1.runs.length<=30))=c.all fun p=>decide (p.runs.length<=30):=by
   rw[Bool.eq_iff_iff,List.all_eq_true,List.all_eq_true]
   constructor
   ·intro h p hp;obtain⟨i,hi⟩:=List.mem_iff_getElem?.1 hp;exact h (p,i) (List.mem_zipIdx_iff_getElem?.2 hi)
   ·intro h y hy;exact h _ (List.mem_of_getElem? (List.mem_zipIdx_iff_getElem?.1 hy))
  rw[hiff];have h4:decide (c.length<=30)=true:=by simp;omega
  rw[h4,Bool.true_and]
  cases c.all fun p=>decide (p.runs.length<=30) <;> rfl
theorem few_tot{c:List PT}(h:(decide (c.length<=30)&&c.all fun p=>decide (p.runs.length<=30))=true):c.length<=30/\ya c<=900:=by
 rw[Bool.and_eq_true,decide_eq_true_eq,List.all_eq_true] at h;refine⟨h.1,?_⟩;have:∀ l:List PT,(∀ p∈l,decide (p.runs.length<=30)=true)->ya l<=l.length*30:=by
  intro l
  induction l with
  | nil=>intro _;simp[ya]
  | cons p r ih=>
   intro hl;have e:ya (p::r)=p.runs.length+ya r:=by simp[ya]
   have h1:=ih fun q hq=>hl q (by simp[hq])
   have h2:=hl p (by simp);simp only[decide_eq_true_eq] at h2;simp only[List.length_cons];omega
 have:=this c h.2;omega
theorem ok_few{c:List PT}(o:∀ p∈c,0<=p.dev)(h:c.length<=30/\ya c<=900):Ok c:=⟨o,by omega,by omega⟩
end Go.Ep.M.C
namespace Go.Ep.M.J
open Go
section
variable{κ ν:Type}[DecidableEq κ]
theorem UV{m:List (κ×ν)}(hn:(m.map (·.1)).Nodup){k:κ}{v:ν}:(k,v)∈m↔AL.get m k=some v:=⟨AL.mem_get hn,AL.get_mem⟩
theorem Wk{m:List (κ×ν)}(hn:(m.map (·.1)).Nodup){k q:κ}{v u:ν}:(q,u)∈AL.set m k v↔(q=k/\u=v)\/(q≠k/\(q,u)∈m):=by
 rw[UV (AL.nodup_set hn k v),AL.get_set,UV hn]
 by_cases h:k=q
 ·subst h;simp[eq_comm]
 ·have h':q≠k:=fun e=>h e.symm
  simp[h,h']
end
theorem qv : ∀ {l:List RN},R.Nf l->∀ x∈l,R.xi l x.lo=true/\R.xi l (x.lo - 1)=false
 | [],_,x,hx=>by cases hx
 | y::r,h,x,hx=>by
  obtain⟨h1,h2,h3⟩:=h;have hy:=R.zt.1 h1;rcases List.mem_cons.1 hx with rfl | hx
  ·refine⟨R.Wl ⟨h1,h2,h3⟩,Bool.eq_false_iff.2 fun hc=>?_⟩;have:=R.Vb ⟨h1,h2,h3⟩ hc;omega
  ·obtain⟨g1,g2⟩:=qv h3 x hx;have:=h2 x hx;refine⟨by rw[R.uo,g1,Bool.or_true],?_⟩;rw[R.uo,g2,Bool.or_false];refine Bool.eq_false_iff.2 fun hc=>?_
   have:=(R.vr.1 hc).2;omega
theorem yNa : ∀ {l:List RN},R.Nf l->(l.map (·.lo)).Nodup
 | [],_=>List.nodup_nil
 | y::r,h=>by
  obtain⟨h1,h2,h3⟩:=h;have hy:=R.zt.1 h1;rw[List.map_cons,List.nodup_cons];refine⟨fun hc=>?_,yNa h3⟩;obtain⟨z,hz,e⟩:=List.mem_map.1 hc;have:=h2 z hz;omega
theorem qw{a:List RN}{n:Int}(h1:R.xi a n=true)(h2:R.xi a (n - 1)=false):n∈a.map (·.lo):=by
 obtain⟨x,hx,g1,g2,g3⟩:=R.xr.1 h1
 by_cases h:x.lo=n
 ·exact List.mem_map.2 ⟨x,hx,h⟩
 ·have:R.xi a (n - 1)=true:=R.xr.2 ⟨x,hx,g1,by omega,by omega⟩;rw[h2] at this;cases this
def Mon(op:Bool->Bool->Bool):Prop:=op false false=false/\∀ p q p' q',op p q=true->op p' q'=false->(p=true/\p'=false)\/(q=true/\q'=false)
theorem mon_or : Mon (·||·):=⟨rfl,by decide⟩
theorem len_setR{op:Bool->Bool->Bool}(h:Mon op)(a b:List RN):(R.wda op a b).length<=a.length+b.length:=by
 obtain⟨h1,h2,_⟩:=R.vM op h.1 a b;have:=List.Nodup.length_le_of_subset (yNa h1) (l₂:=a.map (·.lo)++b.map (·.lo)) (fun n hn=>by
  obtain⟨x,hx,rfl⟩:=List.mem_map.1 hn;obtain⟨g1,g2⟩:=qv h1 x hx;rw[h2] at g1 g2;rcases h.2 _ _ _ _ g1 g2 with⟨e1,e2⟩ | ⟨e1,e2⟩
  ·exact List.mem_append_left _ (qw e1 e2)
  ·exact List.mem_append_right _ (qw e1 e2))
 simpa using this
theorem sum_add(ks:List Int)(f g:Int->Nat):(ks.map fun k=>f k+g k).sum=(ks.map f).sum+(ks.map g).sum:=by
 induction ks with
 | nil=>rfl
 | cons k r ih=>simp only[List.map_cons,List.sum_cons,ih];omega
theorem tot_op{op:Bool->Bool->Bool}(h:Mon op)(a b:List PT):C.ya (C.opC op a b)<=C.ya a+C.ya b:=by
 unfold C.opC;rw[C.US];refine Nat.le_trans (C.sum_le fun k=>len_setR h (C.vi a k) (C.vi b k)) ?_;rw[sum_add];have h1:=C.JX a (C.XQ (a++b)) (C.Za _);have h2:=C.JX b (C.XQ (a++b)) (C.Za _);omega
theorem Yn : ∀ {c:List PT},(∀ p∈c,p.runs≠[])->c.length<=C.ya c
 | [],_=>Nat.zero_le _
 | p::r,h=>by
  have h1:=Yn (c:=r) fun q hq=>h q (List.mem_cons_of_mem _ hq)
  have h2:=h p List.mem_cons_self;have h3:0 < p.runs.length:=by cases hp:p.runs with | nil=>exact absurd hp h2 | cons _ _=>simp
  have h4:C.ya (p::r)=p.runs.length+C.ya r:=by simp[C.ya]
  rw[List.length_cons];omega
theorem wna{c d:List PT}(h:c.Perm d)(k:Int):(C.vi c k).Perm (C.vi d k):=(h.filter _).flatMap_right _
theorem woa{c d:List PT}(h:c.Perm d)(k n:Int):C.ZZ c k n=C.ZZ d k n:=R.qg (wna h k) n
theorem wpa{c d:List PT}(h:c.Perm d):C.ya c=C.ya d:=(h.map _).sum_nat
theorem wqa(l:List RN)(c:List PT)(k n:Int):C.ZZ (⟨0,l⟩::c) k n=C.ZZ c k n:=by
 unfold C.ZZ;rw[C.Yk,if_neg (fun h=>by have h1:(0:Int)=k:=h.1;omega)];rfl
theorem part_has{c:List PT}(h:C.Canon c){p:PT}(hp:p∈c):∃ n,C.ZZ c p.dev n=true:=by
 obtain⟨h1,h2,h3⟩:=h.nf p hp
 cases hr:p.runs with
 | nil=>exact absurd hr h2
 | cons x r=>
  rw[hr] at h3;exact⟨x.lo,by unfold C.ZZ;rw[C.Vd h.ord p hp h1,hr];exact R.Wl h3⟩
theorem has_dev{c:List PT}{k n:Int}(h:C.ZZ c k n=true):∃ p∈c,p.dev=k:=by
 have h1:C.vi c k≠[]:=fun e=>by unfold C.ZZ at h;rw[e] at h;cases h
 exact(C.vV.1 (C.Zw h1)).1
def isW(x:List R25Row)(w:Int):Bool:=x.any fun r=>decide (r.who=w)
def VK(x:List R25Row)(w:Int):List PT:=match x.find? fun r=>decide (r.who=w) with | some r=>r.c | none=>[]
abbrev Srt(x:List R25Row):Prop:=x.Pairwise fun a b=>a.who < b.who
theorem Zx{x:List R25Row}{w:Int}:isW x w=true↔∃ r∈x,r.who=w:=by simp[isW]
theorem zSa{x:List R25Row}(h:Srt x){r s:R25Row}(hr:r∈x)(hs:s∈x)(e:r.who=s.who):r=s:=by
 induction x with
 | nil=>cases hr
 | cons y z ih=>
  obtain⟨h1,h2⟩:=List.pairwise_cons.1 h;rcases List.mem_cons.1 hr with e1 | hr <;> rcases List.mem_cons.1 hs with e2 | hs
  ·rw[e1,e2]
  ·have:=h1 s hs;rw[<- e,e1] at this;omega
  ·have:=h1 r hr;rw[e,e2] at this;omega
  ·exact ih h2 hr hs
theorem Ve{x:List R25Row}(h:Srt x){r:R25Row}(hr:r∈x):VK x r.who=r.c:=by
 unfold VK
 cases hf:x.find? fun s=>decide (s.who=r.who) with
 | none=>exact absurd (by simp) (List.find?_eq_none.1 hf r hr)
 | some s=>
  have h1:=List.find?_some hf;rw[zSa h (List.mem_of_find?_eq_some hf) hr (of_decide_eq_true h1)]
theorem qx{x:List R25Row}{w:Int}(h:isW x w=false):VK x w=[]:=by
 unfold VK
 cases hf:x.find? fun s=>decide (s.who=w) with
 | none=>rfl
 | some s=>
  have h1:=List.find?_some hf;rw[Zx.2 ⟨s,List.mem_of_find?_eq_some hf,of_decide_eq_true h1⟩] at h;cases h
abbrev Mx:=List ((Int×Int)×List RN)
structure Rep(B n:Nat)(nl:Bool)(m:Mx)(x:List R25Row):Prop where
 nd:(m.map (·.1)).Nodup
 mem:∀ w k l,((w,k),l)∈m↔∃ r∈x,r.who=w/\((k=0/\l=[])\/(⟨k,l⟩:PT)∈r.c)
 srt:Srt x
 can:∀ r∈x,C.Canon r.c
 tot:∀ r∈x,C.ya r.c<=B
 len:x.length<=n
 nil:nl=true->m=[]
theorem rep_nil(B n:Nat):Rep B n true [] []:=⟨List.nodup_nil,fun w k l=>by simp,List.Pairwise.nil,fun r h=>by simp at h,fun r h=>by simp at h,Nat.zero_le _,fun _=>rfl⟩
section
variable{B n:Nat}{nl:Bool}{m:Mx}{x:List R25Row}(hR:Rep B n nl m x)
include hR
theorem Rep.up{B' n':Nat}(h1:B<=B')(h2:n<=n'):Rep B' n' nl m x:={ hR with tot:=fun r hr=>Nat.le_trans (hR.tot r hr) h1,len:=Nat.le_trans hR.len h2 }
theorem Rep.is(w:Int):xb w nl m=pure (isW x w):=by
 unfold xb;refine congrArg pure ?_;rw[Bool.eq_iff_iff,Zx];unfold AL.has
 constructor
 ·intro h;obtain⟨l,hl⟩:=Option.isSome_iff_exists.1 h;obtain⟨r,hr,e,_⟩:=(hR.mem w 0 l).1 (AL.get_mem hl);exact⟨r,hr,e⟩
 ·rintro⟨r,hr,e⟩;rw[AL.mem_get hR.nd ((hR.mem w 0 []).2 ⟨r,hr,e,.inl ⟨rfl,rfl⟩⟩)];rfl
theorem Rep.put(w k:Int)(l:List RN):yQ w k l nl m=pure (false,AL.set m (w,k) l):=by
 unfold yQ
 cases h:nl with
 | false=>rfl
 | true=>rw[hR.nil h];rfl
end
def xja(w:Int)(e:(Int×Int)×List RN):Option PT:=if e.1.1=w then some ⟨e.1.2,e.2⟩ else none
theorem Vf(w:Int)(m:Mx)(hl:m.length<=1000000000000){Q:List PT->Prop}(hQ:∀ c,c.Perm (m.filterMap (xja w))->Q c):(loop (ua m w) ([],([]:List PT))).wp Q:=by
 refine M.loopM m (fun L (t:List PT)=>(L,t)) (fun t e=>cond (decide (e.1.1=w)) (yb ((t.length+1)*32<=140737488355328) (pure (t++[⟨e.1.2,e.2⟩]))) (pure t)) (fun t=>pure t)
  (fun l t=>t=l.filterMap (xja w)) Q (fun L t hL=>?_) (fun l t y ht hlen hy=>?_) (fun l t hp ht=>?_) [] rfl
 ·show yb _ ((nxt _ _).bind _)=yb _ ((nxt _ _).bind _);refine congrArg (fun k=>yb _ ((nxt _ _).bind k)) (funext fun o=>?_)
  cases o with
  | none=>rfl
  | some i=>
   refine congrArg (fun k=>(idx m (Int.ofNat i)).bind k) (funext fun y=>?_);show cond _ _ _=M.bind (cond _ _ _) _;rw[xua];rfl
 ·by_cases h:y.1.1=w
  ·refine⟨t++[⟨y.1.2,y.2⟩],?_,?_⟩
   ·have hb:t.length<=l.length:=by rw[ht];exact List.length_filterMap_le _ _
    rw[decide_eq_true h,cond_true,zF (by omega)]
   ·rw[ht,List.filterMap_append];simp[xja,h]
  ·refine⟨t,by rw[decide_eq_false h,cond_false],?_⟩;rw[ht,List.filterMap_append];simp[xja,h]
 ·refine hQ t ?_;rw[ht];exact hp.filterMap _
section
variable{B n:Nat}{nl:Bool}{m:Mx}{x:List R25Row}(hR:Rep B n nl m x)
include hR
theorem Rep.rowL(w:Int):(m.filterMap (xja w)).Perm (if isW x w then ⟨0,[]⟩::VK x w else []):=by
 have hnd:(m.filterMap (xja w)).Nodup:=by
  have h1:m.Pairwise fun a b=>a.1≠b.1:=by
   have:=hR.nd;rw[List.Nodup,List.pairwise_map] at this;exact this
  refine List.Pairwise.filterMap (xja w) (fun a b hab p hp q hq=>?_) h1;unfold xja at hp hq
  split at hp
  ·split at hq
   ·rename_i e1 e2
    cases hp;cases hq
    intro e
    injection e with e3 e4
    exact hab (Prod.ext (e1.trans e2.symm) e3)
   ·cases hq
  ·cases hp
 have hmem:∀ p:PT,p∈m.filterMap (xja w)↔((w,p.dev),p.runs)∈m:=fun p=>by
  rw[List.mem_filterMap]
  constructor
  ·rintro⟨e,he,h⟩;unfold xja at h
   split at h
   ·rename_i hw
    cases h
    rw[<- hw];exact he
   ·cases h
  ·intro h;exact⟨_,h,by simp[xja]⟩
 by_cases hw:isW x w=true
 ·rw[if_pos hw];obtain⟨r,hr,rfl⟩:=Zx.1 hw;have hc:=hR.can r hr;rw[Ve hR.srt hr];refine(List.perm_ext_iff_of_nodup hnd ?_).2 fun p=>?_
  ·rw[List.nodup_cons];refine⟨fun h=>?_,hc.ord.imp fun {a b} h e=>by rw[e] at h;omega⟩;have:=(hc.nf _ h).1;simp at this
  ·rw[hmem,hR.mem,List.mem_cons]
   constructor
   ·rintro⟨s,hs,e,h⟩;rw[zSa hR.srt hs hr e] at h;rcases h with⟨h1,h2⟩ | h
    ·left;cases p;simp at h1 h2;simp[h1,h2]
    ·right;exact h
   ·rintro(rfl | h)
    ·exact⟨r,hr,rfl,.inl ⟨rfl,rfl⟩⟩
    ·exact⟨r,hr,rfl,.inr h⟩
 ·rw[if_neg hw];have:m.filterMap (xja w)=[]:=by
   refine List.eq_nil_iff_forall_not_mem.2 fun p hp=>?_
   obtain⟨r,hr,e,_⟩:=(hR.mem _ _ _).1 ((hmem p).1 hp);exact hw (Zx.2 ⟨r,hr,e⟩)
  rw[this]
theorem Rep.getC(w:Int):C.Canon (VK x w)/\C.ya (VK x w)<=B:=by
 by_cases hw:isW x w=true
 ·obtain⟨r,hr,rfl⟩:=Zx.1 hw;rw[Ve hR.srt hr];exact⟨hR.can r hr,hR.tot r hr⟩
 ·rw[qx (by simpa using hw)];exact⟨C.qr,Nat.zero_le _⟩
theorem Rep.row(hB:B<=100000000)(hm:m.length<=1000000000000)(w:Int):yf w nl m=pure (VK x w):=by
 refine uU ?_;unfold yf;refine Vf w m hm fun c hc=>?_
 have h1:=hc.trans (hR.rowL w);obtain⟨g1,g2⟩:=hR.getC w;have gl:=Yn fun p hp=>(g1.nf p hp).2.1
 have hsm:C.Sm c:=by
  by_cases hw:isW x w=true
  ·rw[if_pos hw] at h1;refine⟨by have:=h1.length_eq;rw[List.length_cons] at this;omega,?_⟩;rw[wpa h1];simp only[C.ya,List.map_cons,List.length_nil,List.sum_cons,Nat.zero_add] at g2 ⊢;omega
  ·rw[if_neg hw] at h1;rw[h1.eq_nil];exact⟨by simp,by simp[C.ya]⟩
 have hn:C.yC c=VK x w:=by
  have h2:C.yC c=C.yC (VK x w):=C.qq fun k q=>by
   rw[woa h1]
   by_cases hw:isW x w=true
   ·rw[if_pos hw,wqa]
   ·rw[if_neg hw,qx (by simpa using hw)]
  rw[h2,C.Wo g1]
 show((det (vS c)).bind _).wp _;rw[C.Wp c hsm,zB,zA,hn]
 rfl
end
section
variable{B n:Nat}{nl:Bool}{m:Mx}{x:List R25Row}(hR:Rep B n nl m x)
include hR
theorem Rep.mlen : m.length<=n*(B+1):=by
 have h1:m.Nodup:=by
  have:=hR.nd;rw[List.Nodup,List.pairwise_map] at this;exact this.imp fun h e=>h (congrArg _ e)
 have h2:=List.Nodup.length_le_of_subset h1 (l₂:=x.flatMap fun r=>((r.who,0),[])::r.c.map fun p=>((r.who,p.dev),p.runs)) (fun e he=>by
  obtain⟨⟨w,k⟩,l⟩:=e;obtain⟨r,hr,e1,h⟩:=(hR.mem w k l).1 he;rw[List.mem_flatMap];refine⟨r,hr,?_⟩;subst e1;rcases h with⟨rfl,rfl⟩ | h
  ·exact List.mem_cons_self
  ·exact List.mem_cons_of_mem _ (List.mem_map.2 ⟨_,h,rfl⟩))
 have h3:∀ z:List R25Row,(∀ r∈z,r.c.length<=B)->(z.flatMap fun r=>(((r.who,0),[]):(Int×Int)×List RN)::r.c.map fun p=>((r.who,p.dev),p.runs)).length<=z.length*(B+1):=by
  intro z
  induction z with
  | nil=>intro _;simp
  | cons r z ih=>
   intro hz;have h4:=ih fun s hs=>hz s (List.mem_cons_of_mem _ hs)
   have h5:=hz r List.mem_cons_self;rw[List.flatMap_cons,List.length_append,List.length_cons,List.length_map,List.length_cons,Nat.succ_mul];omega
 have h4:=h3 x fun r hr=>by have:=Yn fun p hp=>((hR.can r hr).nf p hp).2.1;have:=hR.tot r hr;omega
 exact Nat.le_trans h2 (Nat.le_trans h4 (Nat.mul_le_mul_right _ hR.len))
theorem Rep.Row(hS:n<=1000/\B<=100000000)(w:Int):yf w nl m=pure (VK x w):=by
 refine hR.row hS.2 (Nat.le_trans hR.mlen ?_) w
 calc n*(B+1)<=1000*(B+1):=Nat.mul_le_mul_right _ hS.1
  _<=1000000000000:=by omega
end
def insW(x:List R25Row)(w:Int):List R25Row:=x.filter (fun r=>decide (r.who < w))++⟨w,[]⟩::x.filter (fun r=>decide (w < r.who))
def joinR(x:List R25Row)(w:Int):List R25Row:=if w=0\/isW x w=true then x else insW x w
theorem XK{x:List R25Row}{w:Int}(h:isW x w=false){r:R25Row}:r∈insW x w↔r∈x\/r=⟨w,[]⟩:=by
 unfold insW;rw[List.mem_append,List.mem_cons,List.mem_filter,List.mem_filter,decide_eq_true_eq,decide_eq_true_eq]
 constructor
 ·rintro(⟨h1,_⟩ | h1 | ⟨h1,_⟩)
  ·exact .inl h1
  ·exact .inr h1
  ·exact .inl h1
 ·rintro(h1 | h1)
  ·have:r.who≠w:=fun e=>by rw[Zx.2 ⟨r,h1,e⟩] at h;cases h
   by_cases h2:r.who < w
   ·exact .inl ⟨h1,h2⟩
   ·exact .inr (.inr ⟨h1,by omega⟩)
  ·exact .inr (.inl h1)
theorem yOa{x:List R25Row}(h:Srt x)(w:Int):Srt (insW x w):=by
 unfold insW;refine List.pairwise_append.2 ⟨h.sublist List.filter_sublist,List.pairwise_cons.2 ⟨fun r hr=>?_,h.sublist List.filter_sublist⟩,fun a ha b hb=>?_⟩
 ·exact of_decide_eq_true (List.mem_filter.1 hr).2
 ·have h1:=of_decide_eq_true (List.mem_filter.1 ha).2;rcases List.mem_cons.1 hb with rfl | hb
  ·exact h1
  ·have h2:=of_decide_eq_true (List.mem_filter.1 hb).2;omega
theorem len_insW{x:List R25Row}(h:Srt x){w:Int}(hw:isW x w=false):(insW x w).length<=x.length+1:=by
 have hn:(insW x w).Nodup:=(yOa h w).imp fun {a b} h e=>by rw[e] at h;omega
 have:=List.Nodup.length_le_of_subset hn (l₂:=⟨w,[]⟩::x) (fun r hr=>by
  rcases(XK hw).1 hr with h1 | h1
  ·exact List.mem_cons_of_mem _ h1
  ·rw[h1];exact List.mem_cons_self)
 simpa using this
section
variable{B n:Nat}{nl:Bool}{m:Mx}{x:List R25Row}(hR:Rep B n nl m x)
include hR
theorem Rep.ins{w:Int}(hw:isW x w=false):Rep B (n+1) false (AL.set m (w,0) []) (insW x w) where
 nd:=AL.nodup_set hR.nd _ _
 srt:=yOa hR.srt w
 can r hr:=by
  rcases(XK hw).1 hr with h | h
  ·exact hR.can r h
  ·rw[h];exact C.qr
 tot r hr:=by
  rcases(XK hw).1 hr with h | h
  ·exact hR.tot r h
  ·rw[h];exact Nat.zero_le _
 len:=by have:=len_insW hR.srt hw;have:=hR.len;omega
 nil h:=by cases h
 mem w' k l:=by
  rw[Wk hR.nd,hR.mem]
  constructor
  ·rintro(⟨h1,h2⟩ | ⟨h1,r,hr,h2⟩)
   ·cases h1
    exact⟨⟨w,[]⟩,(XK hw).2 (.inr rfl),rfl,.inl ⟨rfl,h2⟩⟩
   ·exact⟨r,(XK hw).2 (.inl hr),h2⟩
  ·rintro⟨r,hr,e,h⟩;rcases(XK hw).1 hr with h1 | h1
   ·refine .inr ⟨fun h2=>?_,r,h1,e,h⟩
    cases h2
    rw[Zx.2 ⟨r,h1,e⟩] at hw;cases hw
   ·rw[h1] at e h;rcases h with⟨h2,h3⟩ | h2
    ·subst e;exact .inl ⟨by rw[h2],h3⟩
    ·cases h2
theorem Rep.join(w:Int):∃ nl' m',yv w nl m=pure (!(decide (w=0)||isW x w),nl',m')/\Rep B (n+1) nl' m' (joinR x w):=by
 unfold yv joinR;rw[hR.is w,zB,zA]
 by_cases h0:w=0
 ·exact⟨nl,m,by rw[decide_eq_true h0];rfl,by rw[if_pos (.inl h0)];exact hR.up (Nat.le_refl _) (by omega)⟩
 ·rw[decide_eq_false h0,cond_false,zA]
  cases hw:isW x w
  ·exact⟨false,AL.set m (w,0) [],by rw[cond_false,hR.put,zB,zA];rfl,by rw[if_neg (by simp[h0])];exact hR.ins hw⟩
  ·exact⟨nl,m,rfl,by rw[if_pos (.inr rfl)];exact hR.up (Nat.le_refl _) (by omega)⟩
end
section
variable{B n:Nat}{nl:Bool}{m:Mx}{x:List R25Row}(hR:Rep B n nl m x)
include hR
end
def zTa(x:List R25Row)(w:Int)(c:List PT):List R25Row:=x.map fun r=>if r.who=w then ⟨r.who,C.opC (·||·) r.c c⟩ else r
theorem hearR_no{x:List R25Row}{w:Int}{c:List PT}(h:isW x w=false):zTa x w c=x:=by
 unfold zTa;have:∀ r∈x,(if r.who=w then ⟨r.who,C.opC (·||·) r.c c⟩ else r)=r:=fun r hr=>by
  rw[if_neg fun e=>by rw[Zx.2 ⟨r,hr,e⟩] at h;cases h]
 exact(List.map_congr_left this).trans (List.map_id _)
theorem yPa(w:Int):∀ (a:List PT) (m:Mx),C.OrdP a->(m.map (·.1)).Nodup->((a.foldl (fun m p=>AL.set m (w,p.dev) p.runs) m).map (·.1)).Nodup/\∀ w' k l,((w',k),l)∈a.foldl (fun m p=>AL.set m (w,p.dev) p.runs) m↔(w'=w/\(⟨k,l⟩:PT)∈a)\/(¬ (w'=w/\∃ p∈a,p.dev=k)/\((w',k),l)∈m)
 | [],m,_,hn=>⟨hn,fun w' k l=>by simp⟩
 | p::r,m,ho,hn=>by
  obtain⟨o1,o2⟩:=List.pairwise_cons.1 ho;obtain⟨h1,h2⟩:=yPa w r (AL.set m (w,p.dev) p.runs) o2 (AL.nodup_set hn _ _);refine⟨h1,fun w' k l=>?_⟩;rw[List.foldl_cons,h2,Wk hn]
  constructor
  ·rintro(⟨e,h⟩ | ⟨g1,⟨e1,e2⟩ | ⟨e1,e2⟩⟩)
   ·exact .inl ⟨e,List.mem_cons_of_mem _ h⟩
   ·cases e1
    exact .inl ⟨rfl,by rw[e2];exact List.mem_cons_self⟩
   ·refine .inr ⟨?_,e2⟩;rintro⟨g3,q,hq,g4⟩;rcases List.mem_cons.1 hq with rfl | hq
    ·exact e1 (by rw[g3,g4])
    ·exact g1 ⟨g3,q,hq,g4⟩
  ·rintro(⟨e,h⟩ | ⟨g1,g2⟩)
   ·rcases List.mem_cons.1 h with h | h
    ·refine .inr ⟨?_,.inl ⟨by rw[e,<- h],by rw[<- h]⟩⟩;rintro⟨_,q,hq,g4⟩;have:=o1 q hq;rw[<- h] at this;simp only at this;omega
    ·exact .inl ⟨e,h⟩
   ·refine .inr ⟨?_,.inr ⟨?_,g2⟩⟩
    ·rintro⟨e1,q,hq,e2⟩;exact g1 ⟨e1,q,List.mem_cons_of_mem _ hq,e2⟩
    ·intro e;cases e;exact g1 ⟨rfl,p,List.mem_cons_self,rfl⟩
section
variable{B n:Nat}{nl:Bool}{m:Mx}{x:List R25Row}(hR:Rep B n nl m x)
include hR
theorem Rep.hear(hS:n<=1000/\B<=1000000)(w:Int){c:List PT}(hc:c.length<=1000000/\C.ya c<=1000000):∃ nl' m',yw w c nl m=pure (if isW x w then 0 else 6,nl',m')/\Rep (B+C.ya c) n nl' m' (zTa x w c):=by
 unfold yw;rw[hR.is w,zB,zA]
 cases hw:isW x w
 ·exact⟨nl,m,rfl,by rw[hearR_no hw];exact hR.up (by omega) (Nat.le_refl _)⟩
 obtain⟨g1,g2⟩:=hR.getC w;have gl:=Yn fun p hp=>(g1.nf p hp).2.1
 have hj:=C.yLa (op:=(·||·)) rfl (VK x w) c;have ht:=tot_op mon_or (VK x w) c;have hl:=Yn fun p hp=>(hj.nf p hp).2.1
 rw[Bool.not_true,cond_false,hR.Row ⟨hS.1,by omega⟩,zB,zA,C.Join_eq _ _ (C.sm_app (by omega) (by omega)),zB,zA];have:=M.zGa (body:=vw (C.opC (·||·) (VK x w) c) w) (C.opC (·||·) (VK x w) c) (fun i (t:Bool×Mx)=>((i:Int),t.1,t.2)) (fun t p=>(false,AL.set t.2 (w,p.dev) p.runs)) (fun t=>pure (t.1,t.2)) (fun _ t=>t.1=true->t.2=[]) (fun i p t hp hi hI=>by
  refine⟨?_,fun h=>by cases h⟩;show cond (decide ((i:Int) < ((C.opC (·||·) (VK x w) c).length:Int))) _ _=_;rw[decide_eq_true (by omega),cond_true,zT hp,zA];have hput:yQ w p.dev p.runs t.1 t.2=pure (false,AL.set t.2 (w,p.dev) p.runs):=by
   unfold yQ
   cases h:t.1 with
   | false=>rfl
   | true=>rw[hI h];rfl
  rw[hput,zB,zA,yt (by omega)]) (fun t _=>by
  show cond (decide (((C.opC (·||·) (VK x w) c).length:Int) < ((C.opC (·||·) (VK x w) c).length:Int))) _ _=_;rw[decide_eq_false (by omega)];rfl) (nl,m) hR.nil
 rw[show((0:Int),nl,m)=(((0:Nat):Int),nl,m) from rfl,this,zA];have hf:∀ (a:List PT) (t:Bool×Mx),(t.1=true->t.2=[])->(a.foldl (fun t p=>(false,AL.set t.2 (w,p.dev) p.runs)) t).2=a.foldl (fun m p=>AL.set m (w,p.dev) p.runs) t.2/\((a.foldl (fun t p=>(false,AL.set t.2 (w,p.dev) p.runs)) t).1=true->(a.foldl (fun t p=>(false,AL.set t.2 (w,p.dev) p.runs)) t).2=[]):=by
  intro a
  induction a with
  | nil=>intro t ht;exact⟨rfl,ht⟩
  | cons p r ih=>intro t _;exact ih (false,AL.set t.2 (w,p.dev) p.runs) fun h=>by cases h
 obtain⟨f1,f2⟩:=hf (C.opC (·||·) (VK x w) c) (nl,m) hR.nil;refine⟨_,_,rfl,?_⟩;obtain⟨d1,d2⟩:=yPa w (C.opC (·||·) (VK x w) c) m hj.ord hR.nd;obtain⟨r0,hr0,e0⟩:=Zx.1 hw;have hg:VK x w=r0.c:=by rw[<- e0];exact Ve hR.srt hr0
 have hdev:∀ p∈r0.c,∃ q∈C.opC (·||·) (VK x w) c,q.dev=p.dev:=fun p hp=>by
  obtain⟨q,hq⟩:=part_has (hR.can r0 hr0) hp;exact has_dev (k:=p.dev) (n:=q) (by rw[C.wka rfl,hg,hq];rfl)
 have hmem:∀ r',r'∈zTa x w c↔(r'∈x/\r'.who≠w)\/r'=⟨w,C.opC (·||·) (VK x w) c⟩:=fun r'=>by
  unfold zTa;rw[List.mem_map]
  constructor
  ·rintro⟨r,hr,rfl⟩
   by_cases e:r.who=w
   ·rw[if_pos e,<- e,Ve hR.srt hr];exact .inr rfl
   ·rw[if_neg e];exact .inl ⟨hr,e⟩
  ·rintro(⟨h1,h2⟩ | rfl)
   ·exact⟨r',h1,if_neg h2⟩
   ·exact⟨r0,hr0,by rw[if_pos e0,hg,e0]⟩
 refine⟨by rw[f1];exact d1,fun w' k l=>?_,?_,fun r hr=>?_,fun r hr=>?_,by unfold zTa;rw[List.length_map];exact hR.len,fun h=>f2 h⟩
 ·show((w',k),l)∈((C.opC (·||·) (VK x w) c).foldl (fun t p=>(false,AL.set t.2 (w,p.dev) p.runs)) (nl,m)).2↔_;rw[f1,d2,hR.mem]
  constructor
  ·rintro(⟨e,h⟩ | ⟨g3,r,hr,e,h⟩)
   ·exact⟨_,(hmem _).2 (.inr rfl),e.symm,.inr h⟩
   ·by_cases e2:w'=w
    ·have:r=r0:=zSa hR.srt hr hr0 (by rw[e,e2,e0]);subst this;rcases h with⟨h1,h2⟩ | h
     ·exact⟨_,(hmem _).2 (.inr rfl),e2.symm,.inl ⟨h1,h2⟩⟩
     ·obtain⟨q,hq,hqd⟩:=hdev _ h;exact absurd ⟨e2,q,hq,hqd⟩ g3
    ·exact⟨r,(hmem _).2 (.inl ⟨hr,fun e3=>e2 (e.symm.trans e3)⟩),e,h⟩
  ·rintro⟨r,hr,e,h⟩;rcases(hmem r).1 hr with⟨h1,h2⟩ | h1
   ·exact .inr ⟨fun e2=>h2 (e.trans e2.1),r,h1,e,h⟩
   ·rw[h1] at e h;rcases h with⟨h2,h3⟩ | h
    ·refine .inr ⟨?_,r0,hr0,by rw[e0];exact e,.inl ⟨h2,h3⟩⟩;rintro⟨_,q,hq,e2⟩;have:=(hj.nf q hq).1;omega
    ·exact .inl ⟨e.symm,h⟩
 ·unfold zTa Srt;rw[List.pairwise_map];exact hR.srt.imp fun {a b} h=>by
   have e1:∀ r:R25Row,(if r.who=w then ⟨r.who,C.opC (·||·) r.c c⟩ else r:R25Row).who=r.who:=fun r=>by split <;> rfl
   rw[e1,e1];exact h
 ·rcases(hmem r).1 hr with⟨h1,_⟩ | h1
  ·exact hR.can r h1
  ·rw[h1];exact hj
 ·rcases(hmem r).1 hr with⟨h1,_⟩ | h1
  ·have:=hR.tot r h1;omega
  ·rw[h1];show C.ya (C.opC (·||·) (VK x w) c)<=_;omega
end
end Go.Ep.M.J
namespace Go.Ep.M.N
open Go
theorem wU8_mod(n:Int):IntKind.u8.wrap n=n % 256:=by simp[IntKind.wrap,IntKind.bits,IntKind.signed]
def Yo(n:Nat):Nat:=if n=0 then 0 else Yo (n / 256)+1
theorem Yp : Yo 0=0:=by rw[Yo];rfl
theorem WS{n:Nat}(h:n≠0):Yo n=Yo (n / 256)+1:=by rw[Yo,if_neg h]
theorem UW : ∀ (k n:Nat),n < 256 ^ k->Yo n<=k
 | 0,n,h=>by
  have:n=0:=by simpa using h
  rw[this,Yp];exact Nat.le_refl _
 | k+1,n,h=>by
  by_cases h0:n=0
  ·rw[h0,Yp];omega
  ·rw[WS h0];have:=UW k (n / 256) (by rw[Nat.pow_succ] at h;omega);omega
theorem wra : ∀ (n:Nat),n < 256 ^ Yo n:=by
 intro n
 induction n using Nat.strongRecOn with
 | _ n ih=>
  by_cases h0:n=0
  ·rw[h0,Yp];decide
  ·rw[WS h0,Nat.pow_succ];have:=ih (n / 256) (by omega);omega
theorem zUa : ∀ (k n:Nat),256 ^ k<=n->k+1<=Yo n
 | 0,n,h=>by
  have:n≠0:=by intro h0;rw[h0] at h;simp at h
  rw[WS this];omega
 | k+1,n,h=>by
  have hp:0 < 256 ^ k:=Nat.pow_pos (by decide);rw[Nat.pow_succ] at h;have:n≠0:=by omega
  rw[WS this];have:=zUa k (n / 256) (by omega);omega
theorem qy{n:Nat}(h:n < 18446744073709551616):Yo n<=8:=UW 8 n (by simpa using h)
theorem fdiv256(n:Nat):Int.fdiv (n:Int) (2 ^ 8)=((n / 256:Nat):Int):=by
 rw[Int.fdiv_eq_ediv_of_nonneg _ (by decide)];have:(2 ^ 8:Int)=256:=rfl;rw[this];omega
theorem len_loop : ∀ (n k:Nat),k+Yo n<=1000->loop ZC ((n:Int),(k:Int))=pure (((k+Yo n:Nat)):Int):=by
 intro n
 induction n using Nat.strongRecOn with
 | _ n ih=>
  intro k hk
  by_cases h0:n=0
  ·subst h0;rw[Yp,Nat.add_zero];exact zV (by unfold ZC;simp)
  ·rw[WS h0] at hk ⊢;rw[zg (s':=(((n / 256:Nat):Int),((k+1:Nat):Int))) (by
    unfold ZC;have:decide ((0:Int) < (n:Int))=true:=by simp;omega
    simp only[this,cond_true,fdiv256,yt (show k < 9223372036854775807 by omega)]),ih (n / 256) (by omega) (k+1) (by omega)]
   congr 2;omega
theorem Len_eq{v:Int}(h0:0<=v)(h:v<=18446744073709551615):WD v=pure (Yo v.toNat:Int):=by
 obtain⟨n,rfl⟩:=Int.eq_ofNat_of_zero_le h0;unfold WD;have:=len_loop n 0 (by have:=qy (n:=n) (by omega);omega);rw[show(0:Int)=((0:Nat):Int) from rfl,this,zA,Nat.zero_add,Int.toNat_natCast]
def ur(n i:Nat):Int:=((n / 256 ^ i % 256:Nat):Int)
theorem qz(n i:Nat):0<=ur n i/\ur n i<=255:=by unfold ur;omega
theorem Byte_eq(n i:Nat)(hi:i<=7):XF (n:Int) (i:Int)=pure (ur n i):=by
 have h8:i=0\/i=1\/i=2\/i=3\/i=4\/i=5\/i=6\/i=7:=by omega
 unfold XF ur;rw[Wj (show(0:Int)<=(i:Int) by omega) (by omega),Wj (show(0:Int)<=8*(i:Int) by omega) (by omega)];have hd:decide ((7:Int) < (i:Int))=false:=by simp;omega
 simp only[hd,cond_false];rw[zF (by omega),wU8_mod,Int.fdiv_eq_ediv_of_nonneg _ (by exact Int.le_of_lt (Int.pow_pos (by decide)))]
 congr 1
 have e:(2:Int) ^ min (8*(i:Int)).toNat 64=((256 ^ i:Nat):Int):=by
  rcases h8 with rfl | rfl | rfl | rfl | rfl | rfl | rfl | rfl <;> rfl
 rw[e];exact(by rw[Int.natCast_emod,Int.natCast_ediv];rfl)
def be(n:Nat):Nat->List Int
 | 0=>[]
 | k+1=>ur n k::be n k
theorem wsa(n:Nat):∀ k,(be n k).length=k
 | 0=>rfl
 | k+1=>by simp[be,wsa n k]
def QA(n:Nat):List Int:=(Yo n:Int)::be n (Yo n)
def yL(v:Int):List Int:=QA v.toNat
theorem ze{v:Int}(h:v<=18446744073709551615):(yL v).length<=9:=by
 have:=qy (n:=v.toNat) (by omega);simp[yL,QA,wsa];omega
theorem yQa(n:Nat):∀ (k:Nat) (out:List Int),k<=8->out.length+k<=100000000000000->loop (uE (n:Int)) ((k:Int) - 1,out)=pure (out++be n k)
 | 0,out,_,_=>by
  rw[be,List.append_nil];exact zV (by unfold uE;simp)
 | k+1,out,hk,ho=>by
  have e:((k+1:Nat):Int) - 1=(k:Int):=by omega
  rw[e,zg (s':=((k:Int) - 1,out++[ur n k])) (by
   unfold uE;have h1:decide ((0:Int)<=(k:Int))=true:=by simp
   simp only[h1,cond_true,Byte_eq n k (by omega),zB,zA];rw[zF (by simp;omega),XZ (by omega) (by omega)]),yQa n k _ (by omega) (by simp;omega),be,List.append_assoc]
  rfl
theorem wta(b:List Int){v:Int}(h0:0<=v)(h:v<=18446744073709551615)(hb:b.length<=10000000000000):XG b v=pure (b++yL v):=by
 have h8:=qy (n:=v.toNat) (by omega);unfold XG;rw[Len_eq h0 h,zB,zA,XZ (show -9223372036854775808<=(b.length:Int)+(Yo v.toNat:Int) by omega) (by omega),XZ (by omega) (by omega),zF (by omega),zF (by simp;omega),zF (by simp;omega),wU8 (by omega) (by omega),XZ (by omega) (by omega)];have:=yQa v.toNat (Yo v.toNat) (([]:List Int)++b++[(Yo v.toNat:Int)]) h8 (by simp;omega);rw[show((v.toNat:Nat):Int)=v by omega] at this;rw[this,zA];simp[yL,QA]
def By(l:List Int):Prop:=∀ x∈l,0<=x/\x<=255
theorem By.drop{l:List Int}(h:By l)(n:Nat):By (l.drop n):=fun x hx=>h x (List.mem_of_mem_drop hx)
theorem By.take{l:List Int}(h:By l)(n:Nat):By (l.take n):=fun x hx=>h x (List.mem_of_mem_take hx)
theorem By.app{a b:List Int}(ha:By a)(hb:By b):By (a++b):=fun x hx=>(List.mem_append.1 hx).elim (ha x) (hb x)
theorem By.nil : By []:=fun x hx=>by cases hx
theorem by_be(n:Nat):∀ k,By (be n k)
 | 0=>By.nil
 | k+1=>fun x hx=>by
  rcases List.mem_cons.1 hx with rfl | h
  ·exact qz n k
  ·exact by_be n k x h
theorem vA{v:Int}(h:v<=18446744073709551615):By (yL v):=fun x hx=>by
 have:=qy (n:=v.toNat) (by omega);rcases List.mem_cons.1 hx with rfl | h
 ·omega
 ·exact by_be _ _ x h
def Um(l:List Int):Int:=l.foldl (fun v x=>v*256+x) 0
theorem UX : ∀ (l:List Int) (v k:Nat),By l->v < 256 ^ k->∃ n:Nat,l.foldl (fun v x=>v*256+x) (v:Int)=(n:Int)/\n < 256 ^ (k+l.length)/\v*256 ^ l.length<=n
 | [],v,k,_,hv=>⟨v,rfl,by simpa using hv,by simp⟩
 | x::r,v,k,hb,hv=>by
  have hx:=hb x (by simp);obtain⟨n,h1,h2,h3⟩:=UX r (v*256+x.toNat) (k+1) (fun y hy=>hb y (by simp[hy])) (by rw[Nat.pow_succ];omega);refine⟨n,?_,by rw[show k+(x::r).length=k+1+r.length by simp;omega];exact h2,?_⟩
  ·rw[List.foldl_cons,<- h1]
   congr 1;omega
  ·refine Nat.le_trans ?_ h3;rw[List.length_cons,Nat.pow_succ];have:v*(256 ^ r.length*256)=v*256*256 ^ r.length:=by rw[Nat.mul_comm (256 ^ r.length),Nat.mul_assoc]
   rw[this];exact Nat.mul_le_mul_right _ (by omega)
theorem wua{l:List Int}(h:By l)(h8:l.length<=8):0<=Um l/\Um l<=18446744073709551615:=by
 obtain⟨n,h1,h2,_⟩:=UX l 0 0 h (by decide);have h3:256 ^ (0+l.length)<=256 ^ 8:=Nat.pow_le_pow_right (by decide) (by omega);have h4:(256:Nat) ^ 8=18446744073709551616:=by decide
 rw[Um,show(0:Int)=((0:Nat):Int) from rfl,h1];omega
theorem bor_eq{v:Nat}{x:Int}(hv:v < 72057594037927936)(hx:0<=x/\x<=255):bOr .u64 (IntKind.u64.wrap ((v:Int)*2 ^ 8)) (IntKind.u64.wrap x)=(v:Int)*256+x:=by
 obtain⟨y,rfl⟩:=Int.eq_ofNat_of_zero_le hx.1;have e:((v:Int)*2 ^ 8)=((2 ^ 8*v:Nat):Int):=by
  have:(2 ^ 8:Int)=256:=rfl;have:(2 ^ 8:Nat)=256:=rfl;omega
 have hb:2 ^ 8*v+y < 18446744073709551616:=by
  have:(2 ^ 8:Nat)=256:=rfl;omega
 rw[e,Wj (by omega) (by omega),Wj (by omega) (by omega)];unfold bOr;have bv:∀ q:Nat,q < 18446744073709551616->(BitVec.ofInt IntKind.u64.bits (q:Int)).toNat=q:=fun q hq=>by
  show(BitVec.ofInt 64 (q:Int)).toNat=q;rw[BitVec.toNat_ofInt];omega
 rw[BitVec.toNat_or,bv _ (by omega),bv _ (by omega),<- Nat.two_pow_add_eq_or_of_lt (show y < 2 ^ 8 by have:(2 ^ 8:Nat)=256:=rfl;omega) v,Wj (by omega) (by omega)];have:(2 ^ 8:Nat)=256:=rfl;omega
def rdN : List Int->Int×Nat×Int
 | []=>(0,0,2)
 | n::r=>if 8 < n\/(0 < n/\r.head?=some 0) then (0,0,4) else if (r.length:Int) < n then (0,0,2) else (Um (r.take n.toNat),n.toNat+1,0)
theorem JZ(n:Int)(r:List Int):rdN (n::r)=if 8 < n\/(0 < n/\r.head?=some 0) then (0,0,4) else if (r.length:Int) < n then (0,0,2) else (Um (r.take n.toNat),n.toNat+1,0):=rfl
theorem UY(b:List Int)(hb:By b):(rdN b=(0,0,2)\/rdN b=(0,0,4))\/∃ n r,b=n::r/\0<=n/\n<=8/\n<=(r.length:Int)/\¬ (0 < n/\r.head?=some 0)/\rdN b=(Um (r.take n.toNat),n.toNat+1,0):=by
 cases b with
 | nil=>exact .inl (.inl rfl)
 | cons n r=>
  have hn:=hb n (by simp);rw[JZ]
  by_cases h1:8 < n\/(0 < n/\r.head?=some 0)
  ·rw[if_pos h1];exact .inl (.inr rfl)
  ·rw[if_neg h1]
   by_cases h2:(r.length:Int) < n
   ·rw[if_pos h2];exact .inl (.inl rfl)
   ·rw[if_neg h2];exact .inr ⟨n,r,rfl,hn.1,by omega,by omega,fun h=>h1 (.inr h),rfl⟩
theorem QB(b:List Int)(hb:By b):0<=(rdN b).1/\(rdN b).1<=18446744073709551615/\(rdN b).2.1<=b.length/\((rdN b).2.2=0\/(rdN b).2.2=2\/(rdN b).2.2=4):=by
 rcases UY b hb with(h | h) | ⟨n,r,rfl,h0,h8,hl,_,h⟩
 ·rw[h];simp
 ·rw[h];simp
 ·rw[h];have:=wua (l:=r.take n.toNat) (fun x hx=>hb x (by simp[List.mem_of_mem_take hx])) (by rw[List.length_take];omega);refine⟨this.1,this.2,?_,.inl rfl⟩;simp;omega
theorem yRa{r:List Int}(h:r≠[]):∃ y,r.head?=some y/\r[0]?=some y:=by
 cases r with
 | nil=>exact absurd rfl h
 | cons y t=>exact⟨y,rfl,rfl⟩
theorem Read_eq(b:List Int)(hb:By b)(hl:b.length<=1000000000000):VW b 0=pure ((rdN b).1,((rdN b).2.1:Int),(rdN b).2.2):=by
 unfold VW;have h0:decide ((b.length:Int) < 0)=false:=by simp
 rw[show decide ((0:Int) < 0)=false from rfl,cond_false,h0,zA,cond_false]
 cases b with
 | nil=>rfl
 | cons n r=>
  have hn:=hb n (by simp);have hr:By r:=fun x hx=>hb x (by simp[hx])
  have h1:decide ((0:Int)=((n::r).length:Int))=false:=by simp;omega
  have hrl:r.length<=1000000000000:=by simp at hl;omega
  have e1:List.drop (Int.toNat (IntKind.i64.wrap (0+1))) (List.take (Int.toNat ((n::r).length:Int)) (n::r))=r:=by
   rw[XZ (by omega) (by omega),Int.toNat_natCast,List.take_length];rfl
  rw[h1,cond_false,XV (y:=n) (by omega) rfl,zA,zF (by rw[XZ (by omega) (by omega)];simp;omega),e1,XZ (n:=n) (by omega) (by omega)];rw[JZ];have hc:(cond (decide (8 < n)) (pure true) (cond (decide (0 < n)) (cond (decide ((0:Int) < (r.length:Int))) ((idx r 0).bind fun x14=>pure (decide (x14=0))) (pure false)) (pure false)):M Bool)=pure (decide (8 < n\/(0 < n/\r.head?=some 0))):=by
   by_cases c1:8 < n
   ·simp[c1]
   ·by_cases c2:0 < n
    ·by_cases c3:r=[]
     ·subst c3;simp[c1,c2]
     ·obtain⟨y,h5,h6⟩:=yRa c3;have c4:0 < r.length:=List.length_pos_iff.2 c3;simp[c1,c2,c4,XV (l:=r) (i:=0) (y:=y) (by omega) h6,h5,zA]
    ·simp[c1,c2]
  rw[hc,zA]
  by_cases c1:8 < n\/(0 < n/\r.head?=some 0)
  ·rw[decide_eq_true c1,cond_true,if_pos c1];rfl
  ·rw[decide_eq_false c1,cond_false,if_neg c1]
   by_cases c2:(r.length:Int) < n
   ·rw[decide_eq_true c2,cond_true,if_pos c2];rfl
   ·rw[decide_eq_false c2,cond_false,if_neg c2,zF (by omega)];have e2:List.drop (Int.toNat 0) (List.take (Int.toNat (IntKind.i64.wrap n)) (List.drop (Int.toNat (IntKind.i64.wrap (0+1))) (List.take (Int.toNat ((n::r).length:Int)) (n::r))))=r.take n.toNat:=by
     rw[e1,XZ (by omega) (by omega)];rfl
    have hlen:(r.take n.toNat).length=n.toNat:=by rw[List.length_take];omega
    have hloop:=zGa (body:=ud n 0 (n::r)) (r.take n.toNat) (fun i t=>(t,(i:Int))) (fun v x=>v*256+x) (fun t=>pure t) (fun i t=>∃ m:Nat,t=(m:Int)/\m < 256 ^ i) (fun i x t hx hi hI=>by
     obtain⟨m,rfl,hm⟩:=hI;have hxr:=(hr.take n.toNat) x (List.mem_of_getElem? hx);have hm7:m < 72057594037927936:=by
      have h3:256 ^ i<=256 ^ 7:=Nat.pow_le_pow_right (by decide) (by omega);have h4:(256:Nat) ^ 7=72057594037927936:=by decide
      omega
     refine⟨?_,m*256+x.toNat,by omega,by rw[Nat.pow_succ];omega⟩;unfold ud;have hd:decide ((i:Int) < ((r.take n.toNat).length:Int))=true:=by simpa using hi
     simp only[e2,hd,cond_true,zT hx,zA,bor_eq hm7 hxr,yt (show i < 9223372036854775807 by omega)]) (fun t _=>by
     unfold ud;have hd:decide (((r.take n.toNat).length:Int) < ((r.take n.toNat).length:Int))=false:=by simp
     simp only[e2,hd,cond_false,zA]) 0 ⟨0,rfl,by decide⟩
    have hloop':loop (ud n 0 (n::r)) (0,0)=pure (Um (r.take n.toNat)):=hloop;rw[hloop',zA,XZ (n:=0+1) (by omega) (by omega),XZ (by omega) (by omega)];have:((0:Int)+1+n)=((n.toNat+1:Nat):Int):=by omega
    rw[this]
theorem be_val(n:Nat):∀ k,Um (be n k)=((n % 256 ^ k:Nat):Int):=by
 intro k;have key:∀ (k v:Nat),(be n k).foldl (fun v x=>v*256+x) (v:Int)=((v*256 ^ k+n % 256 ^ k:Nat):Int):=by
  intro k
  induction k with
  | zero=>intro v;simp[be,Nat.mod_one]
  | succ k ih=>
   intro v;rw[be,List.foldl_cons,show(v:Int)*256+ur n k=((v*256+n / 256 ^ k % 256:Nat):Int) by unfold ur;omega,ih]
   congr 1
   have h1:n % 256 ^ (k+1)=256 ^ k*(n / 256 ^ k % 256)+n % 256 ^ k:=by
    rw[Nat.pow_succ,Nat.mod_mul];omega
   rw[h1,Nat.add_mul,Nat.pow_succ,Nat.mul_comm (256 ^ k) (n / 256 ^ k % 256),Nat.add_assoc]
   congr 1
   rw[Nat.mul_comm (256 ^ k) 256,Nat.mul_assoc]
 have:=key k 0;simpa[Um] using this
theorem be_head{n:Nat}(h:Yo n≠0):(be n (Yo n)).head?≠some 0:=by
 obtain⟨k,hk⟩:∃ k,Yo n=k+1:=⟨Yo n - 1,by omega⟩
 rw[hk,be,List.head?_cons];intro e;have h1:ur n k=0:=by injection e
 unfold ur at h1;have h2:=wra n;rw[hk,Nat.pow_succ] at h2;have hp:0 < 256 ^ k:=Nat.pow_pos (by decide);have h4:n / 256 ^ k < 256:=(Nat.div_lt_iff_lt_mul hp).2 (by rw[Nat.mul_comm];exact h2);have h3:n / 256 ^ k=0:=by
  generalize n / 256 ^ k=q at h1 h4 ⊢
  omega
 have h5:n < 256 ^ k:=by
  rcases Nat.div_eq_zero_iff.1 h3 with h | h
  ·omega
  ·exact h
 have:=UW k n h5;omega
theorem rdN_enc{v:Int}(h0:0<=v)(h:v<=18446744073709551615)(r:List Int):rdN (yL v++r)=(v,(yL v).length,0):=by
 have h8:=qy (n:=v.toNat) (by omega);have hl:=wsa v.toNat (Yo v.toNat);have hv:=be_val v.toNat (Yo v.toNat);rw[Nat.mod_eq_of_lt (wra _)] at hv;show rdN ((Yo v.toNat:Int)::(be v.toNat (Yo v.toNat)++r))=_;rw[JZ,if_neg,if_neg (by rw[List.length_append];omega)]
 ·rw[Int.toNat_natCast,List.take_append_of_le_length (by omega),List.take_of_length_le (by omega),hv];simp[yL,QA,hl];omega
 ·intro hc;rcases hc with hc | ⟨hc1,hc2⟩
  ·omega
  ·have hne:Yo v.toNat≠0:=by omega
   refine be_head hne ?_;rw[List.head?_append] at hc2;obtain⟨y,h5,_⟩:=yRa (r:=be v.toNat (Yo v.toNat)) (by intro e;rw[e] at hl;simp at hl;omega);rw[h5] at hc2 ⊢;exact hc2
theorem be_of : ∀ (l:List Int),By l->∀ n:Nat,Um l=(n:Int)->be n l.length=l:=by
 intro l;have key:∀ (m:Nat) (l:List Int),l.length=m->By l->∀ n:Nat,Um l=(n:Int)->be n l.length=l:=by
  intro m
  induction m with
  | zero=>intro l hl _ n _;have:=List.eq_nil_of_length_eq_zero hl;subst this;rfl
  | succ m ih=>
   intro l hl hb n hn
   cases l with
   | nil=>simp at hl
   | cons x r=>
    have hx:=hb x (by simp);have hr:By r:=fun y hy=>hb y (by simp[hy])
    obtain⟨q,h1,h2,h3⟩:=UX r 0 0 hr (by decide);obtain⟨q2,h4,h5,h6⟩:=UX r x.toNat 1 hr (by omega);have hq:Um r=(q:Int):=h1;have hq2:Um (x::r)=(q2:Int):=by
     rw[Um,List.foldl_cons,<- h4];congr 1;omega
    have hrl:r.length=m:=by simpa using hl
    have e:q2=n:=by omega
    subst e;have hlin:∀ (l:List Int) (v:Int),l.foldl (fun v x=>v*256+x) v=v*256 ^ l.length+Um l:=by
     intro l
     induction l with
     | nil=>intro v;simp[Um]
     | cons y t iht=>
      intro v;have e:Um (y::t)=y*256 ^ t.length+Um t:=by rw[Um,List.foldl_cons,iht];simp
      rw[List.foldl_cons,iht,e,List.length_cons,Int.pow_succ,Int.add_mul,Int.mul_assoc,Int.mul_comm 256,Int.add_assoc]
    have hsum:(q2:Int)=x*256 ^ r.length+(q:Int):=by
     rw[<- hq,<- hlin r x,<- hq2,Um,List.foldl_cons];congr 1;omega
    have hqlt:q < 256 ^ r.length:=by simpa using h2
    have hnat:q2=x.toNat*256 ^ r.length+q:=by
     have:((q2:Nat):Int)=((x.toNat*256 ^ r.length+q:Nat):Int):=by
      rw[hsum,Int.natCast_add,Int.natCast_mul,Int.natCast_pow,Int.toNat_of_nonneg hx.1];rfl
     exact Int.ofNat.inj this
    have hp:0 < 256 ^ r.length:=Nat.pow_pos (by decide);have hdiv:q2 / 256 ^ r.length=x.toNat:=by
     rw[hnat,Nat.mul_comm,Nat.mul_add_div hp,Nat.div_eq_of_lt hqlt,Nat.add_zero]
    rw[List.length_cons,be];have hb1:ur q2 r.length=x:=by unfold ur;rw[hdiv];omega
    rw[hb1]
    congr 1
    have hbe:∀ k,k<=r.length->be q2 k=be q k:=by
     intro k hk
     induction k with
     | zero=>rfl
     | succ k ihk=>
      rw[be,be,ihk (by omega)]
      congr 1
      show((q2 / 256 ^ k % 256:Nat):Int)=((q / 256 ^ k % 256:Nat):Int)
      congr 1
      have hs:256 ^ r.length=256 ^ k*(256*256 ^ (r.length - k - 1)):=by
       rw[<- Nat.pow_succ',<- Nat.pow_add];congr 1;omega
      have hpk:0 < 256 ^ k:=Nat.pow_pos (by decide);rw[hnat,hs,Nat.mul_left_comm,Nat.mul_add_div hpk];rw[Nat.mul_left_comm,Nat.mul_add_mod]
    rw[hbe _ (Nat.le_refl _)];exact ih r hrl hr q hq
 exact key l.length l rfl
theorem rdN_one{b:List Int}(hb:By b)(h:(rdN b).2.2=0):b=yL (rdN b).1++b.drop (rdN b).2.1:=by
 rcases UY b hb with(h1 | h1) | ⟨n,r,rfl,h0,h8,hl,hh,h1⟩
 ·rw[h1] at h;simp at h
 ·rw[h1] at h;simp at h
 ·rw[h1];have hr:By r:=fun x hx=>hb x (by simp[hx])
  have hbt:=hr.take n.toNat;have hlt:(r.take n.toNat).length=n.toNat:=by rw[List.length_take];omega
  obtain⟨q,h2,h3,h4⟩:=UX (r.take n.toNat) 0 0 hbt (by decide);have hq:Um (r.take n.toNat)=(q:Int):=h2;have hbe:=be_of _ hbt q hq;rw[hlt] at hbe;have hlen:Yo q=n.toNat:=by
   apply Nat.le_antisymm
   ·exact UW _ _ (by simpa[hlt] using h3)
   ·rcases Nat.eq_zero_or_pos n.toNat with hz | hz
    ·omega
    ·obtain⟨k,hk⟩:∃ k,n.toNat=k+1:=⟨n.toNat - 1,by omega⟩
     rw[hk];refine zUa k q ?_;rw[hk,be] at hbe;have hne:ur q k≠0:=by
      intro e;rw[e] at hbe;refine hh ⟨by omega,?_⟩;have:=congrArg List.head? hbe;rw[List.head?_cons,List.head?_take,if_neg (by omega)] at this;exact this.symm
     unfold ur at hne;have hp:0 < 256 ^ k:=Nat.pow_pos (by decide);rcases Nat.lt_or_ge q (256 ^ k) with hlt2 | hge
     ·rw[Nat.div_eq_of_lt hlt2] at hne;simp at hne
     ·exact hge
  show n::r=yL (Um (r.take n.toNat))++(n::r).drop (n.toNat+1);rw[hq,yL,Int.toNat_natCast,QA,hlen,hbe,List.drop_succ_cons,List.cons_append,List.take_append_drop]
  congr 1;omega
abbrev RS:=List Int×Int
structure Ok(s:RS):Prop where
 by_:By s.1
 len:s.1.length<=1000000000
 nil:s.2≠0->s.1=[]
def vt(e:Int)(s:RS):RS:=if s.2=0/\e≠0 then ([],e) else s
def zN(s:RS):Int×RS:=if s.2≠0 then (0,s) else if (rdN s.1).2.2≠0 then (0,vt (rdN s.1).2.2 s) else ((rdN s.1).1,(s.1.drop (rdN s.1).2.1,0))
def zx(m:Int)(s:RS):Int×RS:=if m < (zN s).1 then (0,vt 4 (zN s).2) else zN s
def xS(s:RS):Int×RS:=if s.2≠0 then (0,s) else match s.1 with | []=>(0,vt 2 s) | x::r=>(x,(r,0))
def Zb(m:Int)(s:RS):ByteArray×RS:=
 if (zN s).2.2≠0 then (⟨#[]⟩,(zN s).2) else if max m 0 < (zN s).1 then (⟨#[]⟩,vt 3 (zN s).2) else if ((zN s).2.1.length:Int) < (zN s).1 then (⟨#[]⟩,vt 2 (zN s).2)
 else (qG ((zN s).2.1.take (zN s).1.toNat),((zN s).2.1.drop (zN s).1.toNat,0))
def Ux(s:RS):Int×RS:=let t:=if 0 < s.1.length then vt 4 s else s;(t.2,t)
theorem Zy{s:RS}(h:Ok s)(e:Int):Ok (vt e s):=by
 unfold vt
 by_cases c:s.2=0/\e≠0
 ·rw[if_pos c];exact⟨By.nil,by simp,fun _=>rfl⟩
 ·rw[if_neg c];exact h
theorem xt{s:RS}{e:Int}(h:e≠0):(vt e s).2≠0:=by
 unfold vt
 by_cases c:s.2=0
 ·rw[if_pos ⟨c,h⟩];exact h
 ·rw[if_neg (fun q=>c q.1)];exact c
theorem num_of{s:RS}(h:s.2≠0):zN s=(0,s):=if_pos h
theorem yS{s:RS}(h:Ok s):Ok (zN s).2/\0<=(zN s).1/\(zN s).1<=18446744073709551615:=by
 unfold zN;have hr:=QB s.1 h.by_
 by_cases c:s.2≠0
 ·rw[if_pos c];exact⟨h,by simp,by simp⟩
 ·rw[if_neg c]
  by_cases c2:(rdN s.1).2.2≠0
  ·rw[if_pos c2];exact⟨Zy h _,by simp,by simp⟩
  ·rw[if_neg c2];exact⟨⟨h.by_.drop _,by simp;have:=h.len;omega,fun h=>absurd rfl h⟩,hr.1,hr.2.1⟩
theorem vu{s:RS}(h:Ok s){m:Int}(hm:0<=m):Ok (zx m s).2/\0<=(zx m s).1/\(zx m s).1<=m:=by
 unfold zx;obtain⟨h1,h2,h3⟩:=yS h
 by_cases c:m < (zN s).1
 ·rw[if_pos c];exact⟨Zy h1 _,by simp,hm⟩
 ·rw[if_neg c];exact⟨h1,h2,by omega⟩
theorem UZ{s:RS}(h:Ok s):Ok (xS s).2/\0<=(xS s).1/\(xS s).1<=255:=by
 unfold xS
 by_cases c:s.2≠0
 ·rw[if_pos c];exact⟨h,by simp,by simp⟩
 ·rw[if_neg c]
  cases hs:s.1 with
  | nil=>exact⟨Zy h _,by simp,by simp⟩
  | cons x r=>
   have hb:=h.by_;have hl:=h.len;rw[hs] at hb hl;exact⟨⟨fun y hy=>hb y (by simp[hy]),by simp at hl ⊢;omega,fun h=>absurd rfl h⟩,(hb x (by simp)).1,(hb x (by simp)).2⟩
theorem ok_text{s:RS}(h:Ok s)(m:Int):Ok (Zb m s).2:=by
 unfold Zb;obtain⟨h1,h2,h3⟩:=yS h
 split
 ·exact h1
 ·split
  ·exact Zy h1 _
  ·split
   ·exact Zy h1 _
   ·exact⟨h1.by_.drop _,by simp;have:=h1.len;omega,fun h=>absurd rfl h⟩
theorem New_eq(b:List Int)(h:b.length<=1000000000):XH b=pure (b,0):=by
 unfold XH;rw[zF (by omega)]
theorem Xa(b:List Int)(e:Int):zU b e=pure (e,b,e):=rfl
theorem ut(e:Int)(s:RS):zE e s.1 s.2=pure (vt e s):=by
 unfold zE vt
 by_cases c:s.2=0 <;> by_cases c2:e=0 <;> simp[c,c2,zA] <;> rw[<- c]
theorem zVa(b:List Int)(n:Nat)(e:Int)(h:n<=b.length):yg (n:Int) b e=pure (b.take n,b.drop n,e):=by
 unfold yg;rw[zF (by omega),zF (by omega)];simp
theorem ZI{s:RS}(h:Ok s):zK s.1 s.2=pure (zN s):=by
 unfold zK zN;rw[Xa,zB,zA]
 by_cases c:s.2=0
 ·have hr:=QB s.1 h.by_;simp only[c,decide_true,Bool.not_true,cond_false,Read_eq s.1 h.by_ (by have:=h.len;omega),zB,zA,ne_eq,not_true_eq_false,if_false]
  by_cases c2:(rdN s.1).2.2=0
  ·simp only[c2,decide_true,Bool.not_true,cond_false,zVa s.1 (rdN s.1).2.1 0 hr.2.2.1,zB,zA,not_true_eq_false,if_false]
  ·have:=ut (rdN s.1).2.2 s;rw[c] at this;simp only[c2,decide_false,Bool.not_false,cond_true,this,zB,zA,not_false_eq_true,if_true]
 ·simp[c]
theorem Ja{s:RS}(h:Ok s)(m:Int):zl m s.1 s.2=pure (zx m s):=by
 unfold zl zx;rw[ZI h,zB,zA]
 by_cases c:m < (zN s).1
 ·rw[decide_eq_true c,cond_true,if_pos c,ut 4 (zN s).2,zB,zA]
 ·rw[decide_eq_false c,cond_false,if_neg c]
theorem zWa(s:RS):yO s.1 s.2=pure ((s.1.length:Int),s):=by
 unfold yO vo;rw[zB,zA]
theorem Jb{s:RS}(h:Ok s):zm s.1 s.2=pure (xS s):=by
 unfold zm xS;rw[Xa,zB,zA]
 by_cases c:s.2=0
 ·obtain⟨b,e⟩:=s;simp only at c;subst c;have hL:=zWa (b,0);simp only at hL
  cases b with
  | nil=>
   have:=ut 2 ([],0);simp only at this;simp[hL,zB,zA,this]
  | cons x r=>
   have ht:=zVa (x::r) 1 0 (by simp);simp only[show((1:Nat):Int)=1 from rfl] at ht;have hd:decide (((x::r).length:Int)=0)=false:=by simp;omega
   simp only[decide_true,Bool.not_true,cond_false,hL,zB,zA,hd,ht];rw[XV (l:=List.take 1 (x::r)) (i:=0) (y:=x) (by omega) rfl,zA];simp
 ·simp[c]
theorem zXa{s:RS}(h:Ok s){m:Int}(hm:m<=9223372036854775807):yp m s.1 s.2=pure (Zb m s):=by
 unfold yp Zb;obtain⟨h1,h2,h3⟩:=yS h;rw[ZI h,zB,zA,Xa,zB,zA]
 by_cases c:(zN s).2.2=0
 ·simp only[c,decide_true,Bool.not_true,cond_false,ne_eq,not_true_eq_false,if_false];rw[Wj (n:=max m 0) (by omega) (by omega)]
  by_cases c2:max m 0 < (zN s).1
  ·have hF:=ut 3 (zN s).2;rw[c] at hF;rw[decide_eq_true c2,cond_true,if_pos c2,hF,zB,zA]
  ·have hL:=zWa (zN s).2;rw[c] at hL;rw[decide_eq_false c2,cond_false,if_neg c2,hL,zB,zA];have hlen:=h1.len;rw[Wj (n:=((zN s).2.1.length:Int)) (by omega) (by omega)]
   by_cases c3:((zN s).2.1.length:Int) < (zN s).1
   ·have hF:=ut 2 (zN s).2;rw[decide_eq_true c3,cond_true,if_pos c3,hF,zB,zA]
   ·rw[decide_eq_false c3,cond_false,if_neg c3,XZ (by omega) (by omega)];have ht:=zVa (zN s).2.1 (zN s).1.toNat (zN s).2.2 (by omega);rw[Int.toNat_of_nonneg h2] at ht;rw[ht,zB,zA,c]
 ·simp[c]
theorem End_eq(s:RS):yz s.1 s.2=pure (Ux s):=by
 unfold yz Ux;rw[zWa,zB,zA]
 by_cases c:0 < s.1.length
 ·have:decide ((0:Int) < (s.1.length:Int))=true:=by simpa using c
  simp only[this,cond_true,ut,zB,zA,if_pos c,Xa]
 ·have:decide ((0:Int) < (s.1.length:Int))=false:=by simpa using c
  simp only[this,cond_false,zA,if_neg c,Xa,zB]
theorem wva(b row:List Int)(h:row.length+b.length<=100000000000000):yV b row=pure (row++b):=by
 unfold yV;rw[zF (by omega)]
theorem xh{v:Int}(row:List Int)(h0:0<=v)(h:v<=18446744073709551615)(hr:row.length<=10000000000000):zJ v row=pure (row++yL v):=by
 unfold zJ;have:=ze h;rw[wta [] h0 h (by simp),zB,zA,List.nil_append,wva _ _ (by omega),zB,zA]
theorem Bytes_eq(row:List Int)(h:row.length<=100000000000000):xH row=pure (row,row):=by
 unfold xH;rw[zF (by omega)]
theorem Jc(c:Int)(row:List Int)(hr:row.length<=10000000000000):yN c row=pure (row++[c]):=by
 unfold yN;rw[wva _ _ (by simp;omega),zB,zA]
structure Sim(B:List Int)(a:Int)(s:RS):Prop where
 lo:0<=a
 hi:a<=B.length
 eq:s.2=0->s.1=B.drop a.toNat
structure OkB(B:List Int):Prop where
 by_:By B
 len:B.length<=1000000000
theorem OkB.ok{B:List Int}(h:OkB B):Ok (B,0):=⟨h.by_,h.len,fun h=>absurd rfl h⟩
theorem Sim.bad{B:List Int}{a:Int}{s t:RS}(h:Sim B a s)(ht:t.2≠0):Sim B a t:=⟨h.lo,h.hi,fun h2=>absurd h2 ht⟩
variable{B:List Int}{a:Int}{s:RS}
end Go.Ep.M.N

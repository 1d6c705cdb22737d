/- Side texts. -/
import Derived.Test.YtnejkopjonigeaaGreatAHb11
set_option linter.unusedVariables false
set_option linter.unusedSimpArgs false
namespace Go.Ep.M.D
open Go
theorem VF{a b:DT}:zn a b=true↔a.dev < b.dev\/(a.dev=b.dev/\a.n < b.n):=by simp[zn]
theorem VG(a:DT):zn a a=false:=by
 cases h:zn a a with
 | false=>rfl
 | true=>rw[VF] at h;omega
theorem XL{a b c:DT}(h1:zn a b=true)(h2:zn b c=true):zn a c=true:=by rw[VF] at *;omega
theorem Wr{a b:DT}(h:zn a b=true):zn b a=false:=by
 cases h2:zn b a with
 | false=>rfl
 | true=>rw[VF] at h h2;omega
theorem QC{a b:DT}(h1:zn a b=false)(h2:zn b a=false):a=b:=by
 have h3:¬ (zn a b=true):=by simp[h1]
 have h4:¬ (zn b a=true):=by simp[h2]
 rw[VF] at h3 h4
 cases a;cases b
 simp only[DT.mk.injEq] at *
 omega
abbrev Srt(l:List DT):Prop:=l.Pairwise fun x y=>zn x y=true
theorem zYa : ∀ {l l':List DT},Srt l->Srt l'->(∀ d,d∈l↔d∈l')->l=l'
 | [],[],_,_,_=>rfl
 | [],y::r,_,_,h=>by have:=(h y).2 (by simp);simp at this
 | x::r,[],_,_,h=>by have:=(h x).1 (by simp);simp at this
 | x::r,y::t,h1,h2,h=>by
  have hx:=(h x).1 (by simp);have hy:=(h y).2 (by simp);have e:x=y:=by
   rcases List.mem_cons.1 hx with e | hx
   ·exact e
   ·rcases List.mem_cons.1 hy with e | hy
    ·exact e.symm
    ·have a1:=(List.pairwise_cons.1 h2).1 x hx;have a2:=(List.pairwise_cons.1 h1).1 y hy;rw[Wr a1] at a2;cases a2
  subst e
  congr 1
  refine zYa (List.pairwise_cons.1 h1).2 (List.pairwise_cons.1 h2).2 fun d=>?_
  have h3:=h d;simp only[List.mem_cons] at h3
  constructor
  ·intro hd;rcases h3.1 (.inr hd) with e | h4
   ·have:=(List.pairwise_cons.1 h1).1 d hd;rw[e,VG] at this;cases this
   ·exact h4
  ·intro hd;rcases h3.2 (.inr hd) with e | h4
   ·have:=(List.pairwise_cons.1 h2).1 d hd;rw[e,VG] at this;cases this
   ·exact h4
def wwa(s:List DT)(d:DT):List DT:=(s.filter fun x=>zn x d)++[d]++(s.filter fun x=>zn d x)
theorem ins_mem{s:List DT}{d x:DT}:x∈wwa s d↔x=d\/x∈s:=by
 simp only[wwa,List.mem_append,List.mem_filter,List.mem_singleton]
 constructor
 ·rintro((h | h) | h)
  ·exact .inr h.1
  ·exact .inl h
  ·exact .inr h.1
 ·rintro(h | h)
  ·exact .inl (.inr h)
  ·cases h1:zn x d with
   | true=>exact .inl (.inl ⟨h,rfl⟩)
   | false=>
    cases h2:zn d x with
    | true=>exact .inr ⟨h,rfl⟩
    | false=>exact .inl (.inr (QC h1 h2))
theorem ins_srt{s:List DT}(h:Srt s)(d:DT):Srt (wwa s d):=by
 unfold Srt wwa;rw[List.pairwise_append,List.pairwise_append];refine⟨⟨h.filter _,by simp,fun a ha b hb=>?_⟩,h.filter _,fun a ha b hb=>?_⟩
 ·rw[List.mem_singleton.1 hb];exact(List.mem_filter.1 ha).2
 ·have hb:=(List.mem_filter.1 hb).2;rcases List.mem_append.1 ha with ha | ha
  ·exact XL (List.mem_filter.1 ha).2 hb
  ·rw[List.mem_singleton.1 ha];exact hb
theorem ins_len(s:List DT)(d:DT):(wwa s d).length<=s.length+1:=by
 unfold wwa;have h:∀ l:List DT,(l.filter fun x=>zn x d).length+(l.filter fun x=>zn d x).length<=l.length:=by
  intro l
  induction l with
  | nil=>simp
  | cons x r ih=>
   cases h1:zn x d with
   | true=>simp[h1,Wr h1];omega
   | false=>
    cases h2:zn d x with
    | true=>simp[h1,h2];omega
    | false=>simp[h1,h2];omega
 have:=h s;simp;omega
def uJ(l:List DT):List DT:=l.foldl wwa []
theorem Vg : ∀ (l s:List DT),Srt s->Srt (l.foldl wwa s)/\(∀ d,d∈l.foldl wwa s↔d∈s\/d∈l)/\(l.foldl wwa s).length<=s.length+l.length
 | [],s,h=>⟨h,by simp,by simp⟩
 | x::r,s,h=>by
  obtain⟨h1,h2,h3⟩:=Vg r (wwa s x) (ins_srt h x);refine⟨h1,fun d=>?_,?_⟩
  ·rw[List.foldl_cons,h2 d,ins_mem,List.mem_cons]
   constructor
   ·rintro((h | h) | h)
    ·exact .inr (.inl h)
    ·exact .inl h
    ·exact .inr (.inr h)
   ·rintro(h | h | h)
    ·exact .inl (.inr h)
    ·exact .inl (.inl h)
    ·exact .inr h
  ·have:=ins_len s x;rw[List.foldl_cons,List.length_cons];omega
theorem ySa(l:List DT):Srt (uJ l):=(Vg l [] List.Pairwise.nil).1
theorem WT{l:List DT}{d:DT}:d∈uJ l↔d∈l:=by simpa[uJ] using (Vg l [] List.Pairwise.nil).2.1 d
theorem yTa(l:List DT):(uJ l).length<=l.length:=by simpa[uJ] using (Vg l [] List.Pairwise.nil).2.2
theorem wxa{l:List DT}(h:Srt l):uJ l=l:=zYa (ySa l) h fun _=>WT
def ddS(out:List DT)(x:DT):List DT:=if out.getLast?=some x then out else out++[x]
def dd(l:List DT):List DT:=l.foldl ddS []
theorem Ua(l:List DT)(x:DT):dd (l++[x])=ddS (dd l) x:=by simp[dd]
theorem zZa(l:List DT):(dd l).getLast?=l.getLast?:=by
 rcases R.xA l with rfl | ⟨r,y,rfl⟩
 ·rfl
 ·rw[Ua];unfold ddS
  by_cases c:(dd r).getLast?=some y
  ·rw[if_pos c,c];simp
  ·rw[if_neg c];simp
theorem dd_mem{l:List DT}{d:DT}:d∈dd l↔d∈l:=by
 have:∀ (l s:List DT),d∈l.foldl ddS s↔d∈s\/d∈l:=by
  intro l
  induction l with
  | nil=>intro s;simp
  | cons x r ih=>
   intro s;rw[List.foldl_cons,ih];have h2:d∈ddS s x↔d∈s\/d=x:=by
    unfold ddS
    split
    ·rename_i h
     exact⟨.inl,fun h3=>h3.elim id fun e=>by rw[e];exact List.mem_of_getLast? h⟩
    ·simp
   rw[h2,List.mem_cons];exact or_assoc
 simpa[dd] using this l []
theorem dd_srt{l:List DT}(h:l.Pairwise fun x y=>zn y x=false):Srt (dd l):=by
 have:∀ (n:Nat) (l:List DT),l.length=n->(l.Pairwise fun x y=>zn y x=false)->Srt (dd l):=by
  intro n
  induction n with
  | zero=>intro l hl _;have:=List.eq_nil_of_length_eq_zero hl;subst this;exact List.Pairwise.nil
  | succ n ih=>
   intro l hl h;rcases R.xA l with rfl | ⟨r,y,rfl⟩
   ·simp at hl
   ·rw[List.pairwise_append] at h;have hr:=ih r (by simpa using hl) h.1;rw[Ua];unfold ddS
    split
    ·exact hr
    ·rename_i hne
     unfold Srt;rw[List.pairwise_append];refine⟨hr,by simp,fun a ha b hb=>?_⟩;rw[List.mem_singleton.1 hb];have ha':=dd_mem.1 ha;have h1:=h.2.2 a ha' y (by simp)
     cases h2:zn a y with
     | true=>rfl
     | false=>
      exfalso;have e:=QC h2 h1;subst e;rw[zZa] at hne;rcases R.xA r with rfl | ⟨q,z,rfl⟩
      ·simp at ha'
      ·have hz:zn a z=false:=h.2.2 z (by simp) a (by simp);rcases List.mem_append.1 ha' with h5 | h5
       ·have h6:zn z a=false:=by
         have:=(List.pairwise_append.1 h.1).2.2 a h5 z (by simp);exact this
        have:=QC hz h6;subst this;simp at hne
       ·rw[List.mem_singleton.1 h5] at hne;simp at hne
 exact this l.length l rfl h
theorem WN(l:List DT)(h:l.length<=1000000000000):yD l=pure l:=by
 unfold yD;refine uU ⟨⟨false,fun h=>by cases h⟩,fun b hb=>?_⟩
 cases b with
 | true=>show([]:List DT)=l;exact(hb rfl).symm
 | false=>
  show _/\([]++l=l)
  exact⟨by simp;omega,List.nil_append l⟩
theorem xQa(x y:DT):(decide (x.dev=y.dev)&&decide (x.n=y.n))=decide (x=y):=by
 cases x;cases y;simp[Bool.decide_and]
theorem vh{l:List DT}{m:Nat}{x:DT}(h:l[m]?=some x):l.take (m+1)=l.take m++[x]:=by
 rw[List.take_add_one,h];rfl
theorem QD{l:List DT}{m:Nat}{x:DT}(h:l[m]?=some x):(l.take (m+1)).getLast?=some x:=by rw[vh h];simp
theorem Ws(s:List DT)(k:Nat)(hk:k < s.length)(hl:s.length<=1000000000000):∀ (d k2 kk:Nat) (v:List DT),k+k2+d=s.length->1<=k2->v.length=s.length->kk+1<=k+k2->v.take kk=dd (s.take (k+k2))->v.drop (k+k2 - 1)=s.drop (k+k2 - 1) ->
  ∃ (kk':Nat) (v':List DT),loop (zi s (k:Int)) ((kk:Int),(k2:Int),v)=pure ((kk':Int),v')/\v'.length=s.length/\kk'<=s.length/\v'.take kk'=dd s
 | 0,k2,kk,v,hd,h1,hv,hkk,ht,_=>by
  refine⟨kk,v,zV ?_,hv,by omega,by rw[ht,show k+k2=s.length by omega,List.take_length]⟩;unfold zi;have:decide ((k2:Int) < (((s.length - (k:Int).toNat:Nat)):Int))=false:=by simp;omega
  simp only[this,cond_false]
 | d+1,k2,kk,v,hd,h1,hv,hkk,ht,hdr=>by
  have hvg:∀ j,k+k2 - 1<=j->v[j]?=s[j]?:=fun j hj=>by
   have:=congrArg (fun l=>l[j - (k+k2 - 1)]?) hdr;simp only[List.getElem?_drop] at this;rw[show k+k2 - 1+(j - (k+k2 - 1))=j by omega] at this;exact this
  obtain⟨x,hx⟩:∃ x,s[k+k2]?=some x:=⟨_,List.getElem?_eq_getElem (by omega)⟩
  obtain⟨y,hy⟩:∃ y,s[k+k2 - 1]?=some y:=⟨_,List.getElem?_eq_getElem (by omega)⟩
  have hlast:(dd (s.take (k+k2))).getLast?=some y:=by
   rw[zZa];have:=QD hy
   rwa [show k+k2 - 1+1=k+k2 by omega] at this
  have hdd:dd (s.take (k+k2+1))=if y=x then dd (s.take (k+k2)) else dd (s.take (k+k2))++[x]:=by
   rw[vh hx,Ua];unfold ddS;rw[hlast]
   by_cases c:y=x
   ·rw[if_pos c,if_pos (by rw[c])]
   ·rw[if_neg c,if_neg (by intro e;exact c (Option.some.inj e))]
  have hb:zi s (k:Int) ((kk:Int),(k2:Int),v)=pure (.next (if y=x then ((kk:Int),((k2+1:Nat):Int),v) else (((kk+1:Nat):Int),((k2+1:Nat):Int),v.set kk x))):=by
   unfold zi;have hc:decide ((k2:Int) < (((s.length - (k:Int).toNat:Nat)):Int))=true:=by simp;omega
   have e1:IntKind.i64.wrap ((k2:Int) - 1)=((k2 - 1:Nat):Int):=by rw[XZ (by omega) (by omega)];omega
   have i1:idx v ((((k:Int).toNat+(k2:Int).toNat:Nat)):Int)=pure x:=zT (by rw[Int.toNat_natCast,Int.toNat_natCast,hvg _ (by omega)];exact hx);have i2:idx v ((((k:Int).toNat+(((k2 - 1:Nat):Int)).toNat:Nat)):Int)=pure y:=zT (by rw[Int.toNat_natCast,Int.toNat_natCast,hvg _ (by omega),show k+(k2 - 1)=k+k2 - 1 by omega];exact hy);obtain⟨z,hz⟩:∃ z,v[kk]?=some z:=⟨_,List.getElem?_eq_getElem (by omega)⟩
   have i3:idx v (kk:Int)=pure z:=zT hz;simp only[hc,cond_true,e1];rw[zF (by simp;omega),i1,zA,zF (by simp;omega),i2,zA];simp only[xQa]
   by_cases c:y=x
   ·have c1:decide (x=y)=true:=decide_eq_true c.symm;simp only[c1,Bool.not_true,cond_false,zA,yt (show k2 < 9223372036854775807 by omega),if_pos c]
   ·have c1:decide (x=y)=false:=decide_eq_false (fun e=>c e.symm);simp only[c1,Bool.not_false,cond_true,if_neg c];rw[zF (by simp;omega),i3];simp only[zA,yt (show k2 < 9223372036854775807 by omega),yt (show kk < 9223372036854775807 by omega),Int.toNat_natCast]
  by_cases c:y=x
  ·rw[if_pos c] at hb hdd;rw[zg hb];refine Ws s k hk hl d (k2+1) kk v (by omega) (by omega) hv (by omega) (by rw[ht,<- hdd];rfl) ?_;have:=congrArg (List.drop 1) hdr;rw[List.drop_drop,List.drop_drop,show k+k2 - 1+1=k+(k2+1) - 1 by omega] at this;exact this
  ·rw[if_neg c] at hb hdd;rw[zg hb];refine Ws s k hk hl d (k2+1) (kk+1) (v.set kk x) (by omega) (by omega) (by simpa using hv) (by omega) ?_ ?_
   ·have h5:(v.set kk x)[kk]?=some x:=by rw[List.getElem?_set];simp;omega
    rw[vh h5,List.take_set,List.set_eq_of_length_le (by rw[List.length_take];omega),ht,<- hdd];rfl
   ·rw[List.drop_set,if_pos (by omega)];have:=congrArg (List.drop 1) hdr;rw[List.drop_drop,List.drop_drop,show k+k2 - 1+1=k+(k2+1) - 1 by omega] at this;exact this
theorem xRa(s:List DT)(hl:s.length<=1000000000000):zq s=pure (dd s):=by
 unfold zq
 by_cases h2:s.length < 2
 ·have:decide ((s.length:Int) < 2)=true:=by simp;omega
  rw[this,cond_true]
  match s,h2 with
  | [],_=>rfl
  | [x],_=>rfl
 ·have:decide ((s.length:Int) < 2)=false:=by simp;omega
  rw[this,cond_false];have key:∀ d k,k+d=s.length->1<=k->dd (s.take k)=s.take k->(loop (zj s) (k:Int)).bind (exk fun _=>pure s)=pure (dd s):=by
   intro d
   induction d with
   | zero=>
    intro k hk h1 hd;rw[zV (r:=.brk ()) (by
     unfold zj;have:decide ((k:Int) < (s.length:Int))=false:=by simp;omega
     simp only[this,cond_false])]
    rw[show k=s.length by omega,List.take_length] at hd;show pure s=pure (dd s);rw[hd]
   | succ d ih=>
    intro k hk h1 hd;obtain⟨x,hx⟩:∃ x,s[k]?=some x:=⟨_,List.getElem?_eq_getElem (by omega)⟩
    obtain⟨y,hy⟩:∃ y,s[k - 1]?=some y:=⟨_,List.getElem?_eq_getElem (by omega)⟩
    have hlast:(dd (s.take k)).getLast?=some y:=by
     rw[zZa];have:=QD hy
     rwa [show k - 1+1=k by omega] at this
    have hc:decide ((k:Int) < (s.length:Int))=true:=by simp;omega
    have i1:idx s (k:Int)=pure x:=zT hx;have i2:idx s (IntKind.i64.wrap ((k:Int) - 1))=pure y:=by
     rw[XZ (by omega) (by omega)];exact XV (by omega) (by rw[show((k:Int) - 1).toNat=k - 1 by omega];exact hy)
    by_cases c:x=y
    ·subst c;obtain⟨kk,v,h5,h6,h7,h8⟩:=Ws s k (by omega) hl d 1 k s (by omega) (by omega) rfl (by omega) (by
      rw[vh hx,Ua,ddS,if_pos hlast,hd]) (by rw[show k+1 - 1=k by omega])
     rw[zV (r:=.ret (dd s)) (by
      unfold zj;simp only[hc,cond_true,i1,i2,zA,xQa,decide_true];rw[zF (by omega),show(1:Int)=((1:Nat):Int) from rfl,h5,zA];simp only[];rw[zF (by omega),zF (by simp;omega),zF (by
       simp only[List.length_append,List.length_take,List.length_replicate,List.length_drop,Int.toNat_natCast];omega),zA,Vu]
      congr 3
      rw[Int.toNat_natCast,List.append_assoc,List.take_append_of_le_length (by rw[List.length_take];omega),List.take_take,Nat.min_self,h8])]
     rfl
    ·have c1:decide (x=y)=false:=decide_eq_false c;rw[zg (s':=((k+1:Nat):Int)) (by
      unfold zj;simp only[hc,cond_true,i1,i2,zA,xQa,c1,cond_false,uV,yt (show k < 9223372036854775807 by omega)])]
     refine ih (k+1) (by omega) (by omega) ?_;rw[vh hx,Ua,ddS,if_neg (by rw[hlast];intro e;exact c (Option.some.inj e).symm),hd]
  have:=key (s.length - 1) 1 (by omega) (by omega) (by
   obtain⟨x,r,rfl⟩:∃ x r,s=x::r:=by
    cases s with
    | nil=>simp at h2
    | cons x r=>exact⟨x,r,rfl⟩
   rfl)
  exact this
theorem wfa{l:List DT}{Q:List DT->Prop}(h:∀ s,s.Perm l->(s.Pairwise fun x y=>zn y x=false)->Q s):(srt zn l).wp Q:=by
 refine⟨⟨l.mergeSort (fun x y=>!zn y x),List.mergeSort_perm _ _,?_⟩,fun s ⟨h1,h2⟩=>h s h1 h2⟩;refine(List.pairwise_mergeSort (fun a b c h1 h2=>?_) (fun a b=>?_) l).imp fun {x y} h=>by simpa using h
 ·simp only[Bool.not_eq_true'] at h1 h2 ⊢
  cases h3:zn c a with
  | false=>rfl
  | true=>
   rw[VF] at h3;have h4:¬ (zn b a=true):=by simp[h1]
   have h5:¬ (zn c b=true):=by simp[h2]
   rw[VF] at h4 h5;omega
 ·cases h1:zn b a with
  | false=>rfl
  | true=>rw[Wr h1];rfl
theorem zaa(l:List DT)(h:l.length<=1000000000000):XC l=pure (uJ l):=by
 unfold XC;rw[WN l h,zB,zA,zF (by omega)];refine uU (wfa fun s hs hp=>?_);show(bind (det (zq s)) fun y8=>pure y8).wp _;rw[xRa s (by rw[hs.length_eq];exact h),zB,zA];exact zYa (dd_srt hp) (ySa l) fun d=>by rw[dd_mem,WT];exact hs.mem_iff
theorem cmp16_eq(x y:Int):xW x y=pure (R.wga x y):=by
 unfold xW wW R.wga;simp only[decide_true,Bool.not_true,zB,zA,cond_false,wb]
 split
 ·rfl
 ·split <;> rfl
theorem yUa(a b:DT):uX a b=pure (V.xia a b):=by
 unfold uX;rw[cmp16_eq,zB,zA,R.wha,zB,zA];unfold V.xia R.wga
 cases a with | mk d n=>cases b with | mk e m=>
 simp only[DT.mk.injEq,zn]
 by_cases h1:d < e
 ·have:¬ d=e:=by omega
  simp[h1,this]
 ·by_cases h2:e < d
  ·have:¬ d=e:=by omega
   simp[h1,h2,this]
  ·have h3:d=e:=by omega
   subst h3
   by_cases h4:n < m
   ·have:¬ n=m:=by omega
    simp[h4,this]
   ·by_cases h5:m < n
    ·have:¬ n=m:=by omega
     simp[h4,h5,this]
    ·have:n=m:=by omega
     simp[this]
theorem Jd{σ ρ ε:Type}{body:σ->M (Step σ ρ)}(l:List ε)(f:ε->List Int)(row:List Int)(N:Nat)(mk:Nat->List Int->σ)(g:List Int->M ρ)(hN:row.length+(l.flatMap f).length<=N)
  (h1:∀ (i:Nat) (x:ε) (out:List Int),l[i]?=some x->i < l.length->out.length+(f x).length<=N->body (mk i out)=pure (.next (mk (i+1) (out++f x))))
  (h2:∀ out,body (mk l.length out)=(g out).bind fun r=>pure (.done r)):loop body (mk 0 row)=g (row++l.flatMap f):=by
 have key:∀ (k i:Nat) (out:List Int),i+k=l.length->out.length+((l.drop i).flatMap f).length<=N->loop body (mk i out)=g (out++(l.drop i).flatMap f):=by
  intro k
  induction k with
  | zero=>
   intro i out hi _;have:i=l.length:=by omega
   subst this;rw[Vv,h2,List.drop_length];simp only[List.flatMap_nil,List.append_nil]
   rfl
  | succ k ih=>
   intro i out hi hl;have hlt:i < l.length:=by omega
   rw[List.drop_eq_getElem_cons hlt,List.flatMap_cons,List.length_append] at hl;rw[zg (h1 i l[i] out (List.getElem?_eq_getElem hlt) hlt (by omega)),ih (i+1) _ (by omega) (by rw[List.length_append];omega),List.drop_eq_getElem_cons hlt,List.flatMap_cons,List.append_assoc]
 simpa using key l.length 0 row (by omega) (by simpa using hN)
theorem xu{ε:Type}(l:List ε)(f:ε->List Int)(k:Nat)(h:∀ x∈l,(f x).length<=k):(l.flatMap f).length<=k*l.length:=by
 induction l with
 | nil=>simp
 | cons x r ih=>
  have h1:=h x (by simp);have h2:=ih fun y hy=>h y (by simp[hy])
  rw[List.flatMap_cons,List.length_append,List.length_cons,Nat.mul_add];omega
structure OkD(d:DT):Prop where
 d0:0<=d.dev
 d1:d.dev<=65535
 n0:0<=d.n
 n1:d.n<=18446744073709551615
def encD(d:DT):List Int:=N.yL d.dev++N.yL d.n
theorem Vh{d:DT}(h:OkD d):(encD d).length<=18:=by
 have h1:=N.ze (v:=d.dev) (by have:=h.d1;omega);have h2:=N.ze (v:=d.n) h.n1;rw[encD,List.length_append];omega
theorem QE{d:DT}(h:OkD d)(row:List Int)(hr:row.length<=1000000000000):wH d row=pure (row++encD d):=by
 have h1:=N.ze (v:=d.dev) (by have:=h.d1;omega);unfold wH;rw[Wj h.d0 (by have:=h.d1;omega),N.xh row h.d0 (by have:=h.d1;omega) (by omega),zB,zA,N.xh _ h.n0 h.n1 (by rw[List.length_append];omega),zB,zA,encD,List.append_assoc]
def uy(l:List DT):List DT:=l.filter V.xB
def uK(l:List DT):List Int:=N.yL (uJ (uy l)).length++(uJ (uy l)).flatMap encD
theorem wya(l : List DT)(hl : l.length<=1000000000000) : loop (yl l) (0, [])=pure (uy l) := by
  have := zGa (body := yl l) l (fun i t => ((i : Int), t)) (fun t d => if V.xB d=true then t++[d] else t) (fun t => pure t) (fun i t => t.length<=i) (fun i x t hx hi hI => by
    have hd : decide ((i : Int) < (l.length : Int))=true := by simpa using hi
    refine ⟨?_, by split
                   · simp; omega
                   · omega⟩
    unfold yl;simp only[hd, cond_true, zT hx, zA, V.un, zB, yt (show i < 9223372036854775807 by omega)]
    by_cases c : V.xB x=true
    · rw[c, cond_true, zF (by simp; omega), zA, if_pos rfl]
    · simp only[Bool.not_eq_true] at c;rw[c, cond_false, zA]; rfl) (fun t _ => by
    unfold yl;simp[zA]) [] (by simp)
  rw[show(0 : Int)=((0 : Nat) : Int) from rfl, this]
  congr 1
  have key : ∀ (l t : List DT), l.foldl (fun t d => if V.xB d=true then t++[d] else t) t=t++uy l := by
    intro l
    induction l with
    | nil => intro t; simp[uy]
    | cons x r ih =>
      intro t;rw[List.foldl_cons, ih];unfold uy
      by_cases c : V.xB x=true
      · rw[if_pos c, List.filter_cons_of_pos c, List.append_assoc]; rfl
      · rw[if_neg c, List.filter_cons_of_neg c]
  simpa using key l []
theorem good_mem{l:List DT}{d:DT}:d∈uJ (uy l)↔d∈l/\V.xB d=true:=by rw[WT,uy,List.mem_filter]
theorem Je(l:List DT):(uJ (uy l)).length<=l.length:=Nat.le_trans (yTa _) (List.length_filter_le _ _)
theorem Jg{l:List DT}(h:∀ d∈l,OkD d):∀ d∈uJ (uy l),OkD d:=fun d hd=>h d (good_mem.1 hd).1
theorem wza{l:List DT}(h:∀ d∈l,OkD d)(hl:l.length<=1000000000000):(uK l).length<=9+18*l.length:=by
 have h1:=N.ze (v:=((uJ (uy l)).length:Int)) (by have:=Je l;omega);have h2:=xu (uJ (uy l)) encD 18 fun x hx=>Vh (Jg h x hx)
 have h3:=Je l;rw[uK,List.length_append];omega
theorem xSa{l:List DT}(h:∀ d∈l,OkD d)(hl:l.length<=1000000000)(row:List Int)(hr:row.length<=100000000000):wq l row=pure (row++uK l):=by
 have h3:=Je l;have h1:=N.ze (v:=((uJ (uy l)).length:Int)) (by omega);have h2:=xu (uJ (uy l)) encD 18 fun x hx=>Vh (Jg h x hx)
 unfold wq;rw[wya l (by omega),zA,zaa _ (by have:=List.length_filter_le V.xB l;unfold uy;omega),zB,zA,Wj (by omega) (by omega),N.xh row (by omega) (by omega) (by omega),zB,zA];have:=Jd (body:=xY (uJ (uy l))) (uJ (uy l)) encD (row++N.yL ((uJ (uy l)).length:Int)) 1000000000000 (fun i out=>((i:Int),out)) (fun t=>pure t) (by rw[List.length_append];omega) (fun i x out hx hi ho=>by
  have hd:decide ((i:Int) < ((uJ (uy l)).length:Int))=true:=by simpa using hi
  unfold xY;simp only[hd,cond_true,zT hx,zA,QE (Jg h x (List.mem_of_getElem? hx)) out (by omega),zB,yt (show i < 9223372036854775807 by omega)]) (fun out=>by
  unfold xY;simp[zA])
 rw[show(0:Int)=((0:Nat):Int) from rfl,this,uK,List.append_assoc]
def YI(x:RN):List Int:=N.yL x.lo++N.yL x.hi
def Jh(p:PT):List Int:=N.yL p.dev++(N.yL p.runs.length++p.runs.flatMap YI)
def QA(c:List PT):List Int:=N.yL c.length++c.flatMap Jh
def Xb(c:List PT):List Int:=QA (C.yC c)
structure OkP(p:PT):Prop where
 d0:0<=p.dev
 d1:p.dev<=65535
 r:∀ x∈p.runs,(0<=x.lo/\x.lo<=18446744073709551615)/\0<=x.hi/\x.hi<=18446744073709551615
theorem yVa{x:RN}(h:(0<=x.lo/\x.lo<=18446744073709551615)/\0<=x.hi/\x.hi<=18446744073709551615):(YI x).length<=18:=by
 have h1:=N.ze h.1.2;have h2:=N.ze h.2.2;rw[YI,List.length_append];omega
theorem encP_len{p:PT}(h:OkP p)(hl:p.runs.length<=1000000000000):(Jh p).length<=18+18*p.runs.length:=by
 have h1:=N.ze (v:=p.dev) (by have:=h.d1;omega);have h2:=N.ze (v:=(p.runs.length:Int)) (by omega);have h3:=xu p.runs YI 18 fun x hx=>yVa (h.r x hx)
 rw[Jh,List.length_append,List.length_append];omega
theorem QF(c:List PT)(h:∀ p∈c,OkP p)(hl:C.ya c<=1000000000000):(c.flatMap Jh).length<=18*c.length+18*C.ya c:=by
 induction c with
 | nil=>simp
 | cons p r ih=>
  have e:C.ya (p::r)=p.runs.length+C.ya r:=by simp[C.ya]
  have h1:=encP_len (h p (by simp)) (by omega);have h2:=ih (fun q hq=>h q (by simp[hq])) (by omega);rw[List.flatMap_cons,List.length_append,List.length_cons,e];omega
theorem Ji{c:List PT}(h:∀ p∈c,OkP p)(hc:c.length<=1000000000000)(hl:C.ya c<=1000000000000):(QA c).length<=9+18*c.length+18*C.ya c:=by
 have h1:=N.ze (v:=(c.length:Int)) (by omega);have h2:=QF c h hl;rw[QA,List.length_append];omega
theorem WU{c:List PT}(h:∀ p∈c,p.dev<=65535):∀ p∈C.yC c,OkP p:=fun p hp=>by
 have h1:=(C.uP c).nf p hp;refine⟨by omega,?_,fun x hx=>?_⟩
 ·have h2:=(C.vN.1 hp).1;obtain⟨q,hq,e⟩:=(C.vV.1 h2).1;rw[<- e];exact h q hq
 ·have:=R.zt.1 (h1.2.2.may x hx);omega
theorem w0a{c:List PT}(ho:C.Ok c)(h:∀ p∈c,p.dev<=65535)(hs:c.length<=100000000/\C.ya c<=100000000)(row:List Int)(hr:row.length<=100000000000):xP c row=pure (row++Xb c):=by
 have hn:=C.Yl c;have ht:=C.Ym c;have hp:=WU h;have hl:=Ji hp (by omega) (by omega);have h9:=N.ze (v:=((C.yC c).length:Int)) (by omega);have hf:=QF (C.yC c) hp (by omega);unfold xP;rw[C.Wp c ho.sm,zB,zA,Wj (by omega) (by omega),N.xh row (by omega) (by omega) (by omega),zB,zA];have:=Jd (body:=xp (C.yC c)) (C.yC c) Jh (row++N.yL ((C.yC c).length:Int)) 1000000000000 (fun i out=>((i:Int),out)) (fun t=>pure t) (by rw[List.length_append];omega) (fun i p out hx hi hout=>by
  have hd:decide ((i:Int) < ((C.yC c).length:Int))=true:=by simpa using hi
  have hm:=List.mem_of_getElem? hx;have hpp:=hp p hm;have hrl:p.runs.length<=1000000000:=by have:=C.qu p hm;omega
  have e1:=N.ze (v:=p.dev) (by have:=hpp.d1;omega);have e2:=N.ze (v:=(p.runs.length:Int)) (by omega);have e3:=xu p.runs YI 18 fun x hx=>yVa (hpp.r x hx)
  unfold xp;simp only[hd,cond_true,zT hx,zA];rw[Wj hpp.d0 (by have:=hpp.d1;omega),N.xh out hpp.d0 (by have:=hpp.d1;omega) (by omega),zB,zA,Wj (by omega) (by omega),N.xh _ (by omega) (by omega) (by rw[List.length_append];omega),zB,zA];have:=Jd (body:=xn p) p.runs YI (out++N.yL p.dev++N.yL (p.runs.length:Int)) 2000000000000 (fun i out=>((i:Int),out)) (fun t=>pure t) (by rw[List.length_append,List.length_append];omega) (fun j x out2 hx2 hj hout2=>by
   have hd2:decide ((j:Int) < (p.runs.length:Int))=true:=by simpa using hj
   have hxr:=hpp.r x (List.mem_of_getElem? hx2);have e4:=N.ze hxr.1.2;unfold xn;simp only[hd2,cond_true,zT hx2,zA];rw[N.xh out2 hxr.1.1 hxr.1.2 (by omega),zB,zA,N.xh _ hxr.2.1 hxr.2.2 (by rw[List.length_append];omega),zB,zA,yt (show j < 9223372036854775807 by omega),YI,List.append_assoc]) (fun out=>by
   unfold xn;simp[zA])
  rw[show(0:Int)=((0:Nat):Int) from rfl,this,zA,yt (show i < 9223372036854775807 by omega),Jh];simp only[List.append_assoc]) (fun out=>by
  unfold xp;simp[zA])
 rw[show(0:Int)=((0:Nat):Int) from rfl,this,Xb,QA,List.append_assoc]
theorem by_encC(c:List PT)(h:∀ p∈C.yC c,OkP p)(hl:(C.yC c).length<=1000000000000/\C.ya (C.yC c)<=1000000000000):N.By (Xb c):=by
 have hR:∀ p,OkP p->∀ x∈p.runs,N.By (YI x):=fun p hp x hx=>(N.vA (hp.r x hx).1.2).app (N.vA (hp.r x hx).2.2)
 have flat:∀ {ε:Type} (l:List ε) (f:ε->List Int),(∀ x∈l,N.By (f x))->N.By (l.flatMap f):=fun l f hf y hy=>by
  obtain⟨x,hx,h⟩:=List.mem_flatMap.1 hy;exact hf x hx y h
 refine(N.vA (by omega)).app (flat _ _ fun p hp=>?_);have hpp:=h p hp;have:=C.qu p hp;exact(N.vA (by have:=hpp.d1;omega)).app ((N.vA (by omega)).app (flat _ _ (hR p hpp)))
open N (RS Ok zN zx vt Ux OkB Sim)
def Uy(c:Bool)(s:RS):RS:=if c=true then vt 4 s else s
def fin{α:Type}(z x:α)(t:RS):α×RS:=if t.2≠0 then (z,t) else (x,t)
theorem Jj(e:Int)(s:RS):(vt e s).1.length<=s.1.length:=by unfold vt;split <;> simp
theorem Ub{s:RS}(h:Ok s)(c:Bool):Ok (Uy c s):=by unfold Uy;split;exact N.Zy h _;exact h
theorem Wt{c:Bool}{s:RS}(h:(Uy c s).2=0):c=false/\s.2=0/\Uy c s=s:=by
 unfold Uy at h ⊢
 cases c with
 | true=>exact absurd h (N.xt (by decide))
 | false=>exact⟨rfl,h,rfl⟩
theorem w1a{s:RS}:(Uy true s).2≠0:=N.xt (by decide)
theorem uQ{s:RS}:Uy false s=s:=rfl
theorem jW{α:Type}(z x:α)(t:RS):(fin z x t).2=t:=by unfold fin;split <;> rfl
theorem Uc{α:Type}{z x:α}{t:RS}(h:t.2=0):fin z x t=(x,t):=if_neg (by simp[h])
theorem Wu{α:Type}{z x:α}{t:RS}(h:t.2≠0):fin z x t=(z,t):=if_pos h
theorem zba(c:Bool)(s:RS):((cond c ((det (zE 4 s.1 s.2)).bind fun y=>pure (y.1,y.2)) (pure (s.1,s.2))):M RS)=pure (Uy c s):=by
 cases c with
 | true=>rw[cond_true,N.ut,zB,zA];rfl
 | false=>rfl
theorem yWa(c:Bool)(s:RS):((cond (!c) ((det (zE 4 s.1 s.2)).bind fun y=>pure (y.1,y.2)) (pure (s.1,s.2))):M RS)=pure (Uy (!c) s):=zba (!c) s
theorem w2a{α:Type}(z x:α)(t:RS):((det (zU t.1 t.2)).bind fun y=>(cond (!decide (y.1=0)) (pure (z,y.2.1,y.2.2)) (pure (x,y.2.1,y.2.2)):M (α×List Int×Int)))=pure (fin z x t):=by
 rw[N.Xa,zB,zA]
 by_cases h:t.2=0
 ·rw[Uc h,decide_eq_true h];rfl
 ·rw[Wu h,decide_eq_false h];rfl
theorem VH(s:RS):(zN s).2.1.length<=s.1.length:=by
 unfold zN
 split
 ·exact Nat.le_refl _
 ·split
  ·exact Jj _ _
  ·simp
theorem QG{s:RS}(hO:Ok s)(h0:s.2=0)(h:(zN s).2.2=0):(zN s).2.1.length+1<=s.1.length:=by
 unfold zN at h ⊢;rw[if_neg (by simp[h0])] at h ⊢
 by_cases c:(N.rdN s.1).2.2=0
 ·rw[if_neg (by simp[c])];rcases N.UY s.1 hO.by_ with(h1 | h1) | ⟨n,r,h1,h2,h3,h4,_,h5⟩
  ·rw[h1] at c;simp at c
  ·rw[h1] at c;simp at c
  ·rw[h5,h1];simp
 ·rw[if_pos c] at h;exact absurd h (N.xt c)
theorem vW{s:RS}(h:(zN s).2.2≠0):(zN s).1=0:=by
 unfold zN at h ⊢
 by_cases c:s.2≠0
 ·rw[if_pos c]
 ·rw[if_neg c] at h ⊢
  by_cases c2:(N.rdN s.1).2.2≠0
  ·rw[if_pos c2]
  ·rw[if_neg c2] at h;exact absurd rfl h
theorem w3a(m:Int)(s:RS):(zx m s).2.1.length<=s.1.length:=by
 have h1:=VH s;have h2:=Jj 4 (zN s).2;unfold zx
 by_cases c:m < (zN s).1
 ·rw[if_pos c];exact Nat.le_trans h2 h1
 ·rw[if_neg c];exact h1
theorem num_bad{s:RS}(h:s.2≠0):(zN s).2=s:=by rw[N.num_of h]
theorem Xc{s:RS}(h:(zN s).2.2=0):s.2=0:=Classical.byContradiction fun c=>by rw[num_bad c] at h;exact c h
theorem Jk{m:Int}{s:RS}(h:(zx m s).2.2=0):(zN s).2.2=0/\zx m s=zN s:=by
 unfold zx at h ⊢
 by_cases c:m < (zN s).1
 ·rw[if_pos c] at h;exact absurd h (N.xt (by decide))
 ·rw[if_neg c] at h ⊢;exact⟨h,rfl⟩
def dotR(s:RS):DT:=⟨(zx 65535 s).1,(zN (zx 65535 s).2).1⟩
def dotT(s:RS):RS:=Uy (!V.xB (dotR s)) (zN (zx 65535 s).2).2
def YH(s:RS):DT×RS:=fin ⟨0,0⟩ (dotR s) (dotT s)
theorem QH{s:RS}(h:Ok s):Ok (YH s).2/\OkD (YH s).1/\OkD (dotR s):=by
 obtain⟨h1,h2,h3⟩:=N.vu h (m:=65535) (by decide);obtain⟨h4,h5,h6⟩:=N.yS h1;have ht:Ok (dotT s):=Ub h4 _;have hr:OkD (dotR s):=⟨h2,h3,h5,h6⟩
 unfold YH
 by_cases c:(dotT s).2=0
 ·rw[Uc c];exact⟨ht,hr,hr⟩
 ·rw[Wu c];exact⟨ht,⟨Int.le_refl _,by simp,Int.le_refl _,by simp⟩,hr⟩
theorem yXa{s:RS}(h:(YH s).2.2=0):V.xB (YH s).1=true/\(zx 65535 s).2.2=0/\(zN (zx 65535 s).2).2.2=0/\YH s=(dotR s,(zN (zx 65535 s).2).2):=by
 unfold YH at h ⊢;rw[jW] at h;rw[Uc h];obtain⟨h1,h2,h3⟩:=Wt h;refine⟨by simpa using h1,Xc h2,h2,?_⟩;show(dotR s,dotT s)=_;rw[show dotT s=(zN (zx 65535 s).2).2 from h3]
theorem dot_lt{s:RS}(hO:Ok s)(h0:s.2=0)(h:(YH s).2.2=0):(YH s).2.1.length+1<=s.1.length:=by
 obtain⟨_,h1,h2,h3⟩:=yXa h;obtain⟨h4,h5⟩:=Jk h1;rw[h3];have h6:=VH (zx 65535 s).2;rw[h5] at h6 ⊢;have h7:=QG hO h0 h4;exact Nat.le_trans (Nat.add_le_add_right h6 1) h7
theorem Dot_eq{s:RS}(h:Ok s):vK s.1 s.2=pure (YH s):=by
 obtain⟨h1,h2,h3⟩:=N.vu h (m:=65535) (by decide);unfold vK YH;rw[N.Ja h,zB,zA,N.ZI h1,zB,zA,wU16 h2 h3,V.un,zB,zA];have e:=yWa (V.xB (dotR s)) (zN (zx 65535 s).2).2;unfold dotR at e;rw[e,zA];exact w2a _ _ _
variable{B:List Int}{a:Int}{s:RS}
def VI(out:List DT)(x:DT):Bool:=match out.getLast? with | some y=>decide (0<=V.xia y x) | none=>false
def Zz(out:List DT)(s:RS):RS:=Uy (VI out (YH s).1) (YH s).2
def yF : Nat->List DT->RS->List DT×RS
 | 0,out,s=>(out,s)
 | k+1,out,s=>if (Zz out s).2≠0 then ([],Zz out s) else yF k (out++[(YH s).1]) (Zz out s)
def vB(most:Int)(s:RS):List DT×RS:=if max most 0 < (zN s).1 then ([],vt 3 (zN s).2) else yF (zN s).1.toNat [] (zN s).2
theorem WV{k:Nat}{out:List DT}{s:RS}(h:(Zz out s).2≠0):yF (k+1) out s=([],Zz out s):=if_pos h
theorem Zc{k:Nat}{out:List DT}{s:RS}(h:(Zz out s).2=0):yF (k+1) out s=yF k (out++[(YH s).1]) (Zz out s):=if_neg (by simp[h])
theorem Vi{s:RS}(h:Ok s)(out:List DT):Ok (Zz out s):=Ub (QH h).1 _
theorem yYa : ∀ (k:Nat) (out:List DT) (s:RS),Ok s->Ok (yF k out s).2
 | 0,_,_,h=>h
 | k+1,out,s,h=>by
  by_cases c:(Zz out s).2=0
  ·rw[Zc c];exact yYa k _ _ (Vi h out)
  ·rw[WV c];exact Vi h out
theorem ok_dots{s:RS}(h:Ok s)(most:Int):Ok (vB most s).2:=by
 have h1:=N.yS h;unfold vB
 split
 ·exact N.Zy h1.1 _
 ·exact yYa _ _ _ h1.1
theorem last_idx{out:List DT}(h:out.length<=1000000000000)(x:DT)(cmp:DT->DT->M Int)(hc:∀ y,cmp y x=pure (V.xia y x)) :
  ((cond (decide (0<=IntKind.i64.wrap ((out.length:Int) - 1))) ((idx out (IntKind.i64.wrap ((out.length:Int) - 1))).bind fun x61=>(det (cmp x61 x)).bind fun v63=>pure (decide (0<=v63))) (pure false)):M Bool)=pure (VI out x):=by
 unfold VI;rcases R.xA out with rfl | ⟨r,y,rfl⟩
 ·rfl
 ·have hl:((r++[y]).length:Int) - 1=(r.length:Int):=by simp
  rw[hl,XZ (by omega) (by simp at h;omega)];have:decide ((0:Int)<=(r.length:Int))=true:=by simp
  rw[this,cond_true,zT (y:=y) (by simp),zA,hc,zB,zA];simp
theorem yZa{out:List DT}{s:RS}(h:(Zz out s).2=0):VI out (YH s).1=false/\(YH s).2.2=0/\Zz out s=(YH s).2:=Wt h
theorem QI{y4:Int×List Int×Int}(hn:0<=y4.1/\y4.1<=18446744073709551615):∀ (k i:Nat) (out:List DT) (s:RS),(i:Int)+k=y4.1->Ok s->s.2=0->out.length+s.1.length<=1000000000 ->
  (loop (yy y4) ((i:Int),out,s.1,s.2)).bind (exk fun⟨out9,v10,v11⟩=>pure (out9,v10,v11))=pure (yF k out s)
 | 0,i,out,s,hi,_,_,_=>by
  rw[zV (r:=.brk (out,s.1,s.2)) (by
   unfold yy;have:decide ((i:Int) < y4.1)=false:=by simp;omega
   simp only[this,cond_false])]
  rfl
 | k+1,i,out,s,hi,hO,h0,hl=>by
  have hd:=QH hO;have hc:decide ((i:Int) < y4.1)=true:=by simp;omega
  have hlast:=last_idx (out:=out) (by omega) (YH s).1 uX (fun y=>yUa y _);have hw:IntKind.u64.wrap ((i:Int)+1)=((i+1:Nat):Int):=by rw[Wj (by omega) (by omega)];omega
  have hb:yy y4 ((i:Int),out,s.1,s.2)=(det (zU (Zz out s).1 (Zz out s).2)).bind fun y70=>cond (!decide (y70.1=0)) (pure (.done (.ret ([],y70.2.1,y70.2.2)))) (yb ((out.length+[(YH s).1].length)*16<=140737488355328) (pure (.next (IntKind.u64.wrap ((i:Int)+1),out++[(YH s).1],y70.2.1,y70.2.2)))):=by
   unfold yy;have e:=zba (VI out (YH s).1) (YH s).2;simp only[hc,cond_true,Dot_eq hO,zB,zA];rw[hlast,zA,e,zA]
   rfl
  rw[N.Xa,zB,zA] at hb
  by_cases c:(Zz out s).2=0
  ·obtain⟨_,c2,c3⟩:=yZa c;have hlt:=dot_lt hO h0 c2;rw[decide_eq_true c,Bool.not_true,cond_false,zF (by simp;omega),hw] at hb;rw[zg hb,Zc c];exact QI hn k (i+1) _ (Zz out s) (by omega) (Vi hO out) c (by rw[c3];simp;omega)
  ·rw[decide_eq_false c,Bool.not_false,cond_true] at hb;rw[zV hb,WV c]
   rfl
theorem zca{s:RS}(hO:Ok s){most:Int}(hm:most<=9223372036854775807):vc most s.1 s.2=pure (vB most s):=by
 obtain⟨h1,h2,h3⟩:=N.yS hO;unfold vc vB;rw[N.ZI hO,zB,zA,Wj (n:=max most 0) (by omega) (by omega)]
 by_cases c:max most 0 < (zN s).1
 ·rw[decide_eq_true c,cond_true,if_pos c,N.ut 3 (zN s).2,zB,zA]
 ·rw[decide_eq_false c,cond_false,if_neg c]
  by_cases c2:(zN s).2.2=0
  ·exact QI (y4:=zN s) ⟨h2,h3⟩ (zN s).1.toNat 0 [] (zN s).2 (by omega) h1 c2 (by simp;have:=h1.len;omega)
  ·have hz:=vW c2;rw[hz,zV (r:=.brk ([],(zN s).2.1,(zN s).2.2)) (by
    unfold yy;simp only[hz,show decide ((0:Int) < 0)=false from rfl,cond_false])]
   rfl
open N (RS Ok zN zx vt Ux OkB Sim)
def vj : Nat->List RN->RS->List RN×RS
 | 0,out,s=>(out,s)
 | k+1,out,s=>
  if (zN (zN s).2).2.2≠0 then (out++[⟨(zN s).1,(zN (zN s).2).1⟩],(zN (zN s).2).2) else vj k (out++[⟨(zN s).1,(zN (zN s).2).1⟩]) (zN (zN s).2).2
def xL(s:RS):PT×RS:=(⟨(zx 65535 s).1,(vj (zN (zx 65535 s).2).1.toNat [] (zN (zx 65535 s).2).2).1⟩,(vj (zN (zx 65535 s).2).1.toNat [] (zN (zx 65535 s).2).2).2)
theorem Ud{k:Nat}{out:List RN}{s:RS}(h:(zN (zN s).2).2.2≠0):vj (k+1) out s=(out++[⟨(zN s).1,(zN (zN s).2).1⟩],(zN (zN s).2).2):=if_pos h
theorem XM{k:Nat}{out:List RN}{s:RS}(h:(zN (zN s).2).2.2=0):vj (k+1) out s=vj k (out++[⟨(zN s).1,(zN (zN s).2).1⟩]) (zN (zN s).2).2:=if_neg (by simp[h])
theorem two_lt{s:RS}(hO:Ok s)(h0:s.2=0)(h:(zN (zN s).2).2.2=0):(zN (zN s).2).2.1.length+2<=s.1.length:=by
 have h1:=Xc h;have h2:=QG hO h0 h1;have h3:=QG (N.yS hO).1 h1 h;omega
theorem two_le(s:RS):(zN (zN s).2).2.1.length<=s.1.length:=Nat.le_trans (VH _) (VH _)
def w4a(x:RN):Prop:=(0<=x.lo/\x.lo<=18446744073709551615)/\0<=x.hi/\x.hi<=18446744073709551615
theorem w5a{s:RS}(h:Ok s):Ok (zN (zN s).2).2/\w4a ⟨(zN s).1,(zN (zN s).2).1⟩:=by
 obtain⟨h1,h2,h3⟩:=N.yS h;obtain⟨h4,h5,h6⟩:=N.yS h1;exact⟨h4,⟨h2,h3⟩,h5,h6⟩
theorem Ue : ∀ (k:Nat) (out:List RN) (s:RS),Ok s->s.2=0->(∀ x∈out,w4a x)->Ok (vj k out s).2/\(∀ x∈(vj k out s).1,w4a x)/\(vj k out s).1.length+(vj k out s).2.1.length<=out.length+s.1.length+1 /\
  ((vj k out s).2.2=0->(vj k out s).1.length+(vj k out s).2.1.length<=out.length+s.1.length/\(vj k out s).1.length=out.length+k)
 | 0,out,s,h,_,ho=>⟨h,ho,by show out.length+s.1.length<=_;omega,fun _=>⟨Nat.le_refl _,rfl⟩⟩
 | k+1,out,s,h,h0,ho=>by
  obtain⟨h1,h2⟩:=w5a h;have ho':∀ x∈out++[⟨(zN s).1,(zN (zN s).2).1⟩],w4a x:=fun x hx=>by
   rcases List.mem_append.1 hx with h | h
   ·exact ho x h
   ·rw[List.mem_singleton.1 h];exact h2
  by_cases c:(zN (zN s).2).2.2=0
  ·rw[XM c];obtain⟨q1,q2,q3,q4⟩:=Ue k _ _ h1 c ho';have hlt:=two_lt h h0 c;simp only[List.length_append,List.length_singleton] at q3 q4;refine⟨q1,q2,by omega,fun hz=>?_⟩;have:=q4 hz;omega
  ·rw[Ud c];have:=two_le s;exact⟨h1,ho',by simp;omega,fun hz=>absurd hz c⟩
theorem QJ{y5:Int×List Int×Int}(hn:0<=y5.1/\y5.1<=18446744073709551615):∀ (k i:Nat) (out:List RN) (s:RS),(i:Int)+k=y5.1->Ok s->s.2=0->out.length+s.1.length<=1000000000 ->
  loop (yx y5) ((i:Int),out,s.1,s.2)=pure (vj k out s)
 | 0,i,out,s,hi,_,_,_=>by
  exact zV (by
   unfold yx;have:decide ((i:Int) < y5.1)=false:=by simp;omega
   simp only[this,cond_false]
   rfl)
 | k+1,i,out,s,hi,hO,h0,hl=>by
  obtain⟨h1,h2,h3⟩:=N.yS hO;have hc:decide ((i:Int) < y5.1)=true:=by simp;omega
  have hw:IntKind.u64.wrap ((i:Int)+1)=((i+1:Nat):Int):=by rw[Wj (by omega) (by omega)];omega
  have hb:yx y5 ((i:Int),out,s.1,s.2)=cond (!decide ((zN (zN s).2).2.2=0)) (pure (.done (out++[⟨(zN s).1,(zN (zN s).2).1⟩],(zN (zN s).2).2))) (pure (.next (((i+1:Nat):Int),out++[⟨(zN s).1,(zN (zN s).2).1⟩],(zN (zN s).2).2.1,(zN (zN s).2).2.2))):=by
   unfold yx;simp only[hc,cond_true,N.ZI hO,N.ZI h1,zB,zA,N.Xa];rw[zF (by simp;omega),hw]
  by_cases c:(zN (zN s).2).2.2=0
  ·have hlt:=two_lt hO h0 c;rw[decide_eq_true c,Bool.not_true,cond_false] at hb;rw[zg hb,XM c];exact QJ hn k (i+1) _ (zN (zN s).2).2 (by omega) (w5a hO).1 c (by simp;omega)
  ·rw[decide_eq_false c,Bool.not_false,cond_true] at hb;rw[zV hb,Ud c]
theorem part_eq{s:RS}(hO:Ok s):ZF s.1 s.2=pure (xL s):=by
 obtain⟨h1,h2,h3⟩:=N.vu hO (m:=65535) (by decide);obtain⟨h4,h5,h6⟩:=N.yS h1;unfold ZF xL;rw[N.Ja hO,zB,zA,N.ZI h1,zB,zA,wU16 h2 h3]
 by_cases c:(zN (zx 65535 s).2).2.2=0
 ·have:=QJ (y5:=zN (zx 65535 s).2) ⟨h5,h6⟩ (zN (zx 65535 s).2).1.toNat 0 [] (zN (zx 65535 s).2).2 (by omega) h4 c (by simp;have:=h4.len;omega);rw[show((0:Nat):Int)=0 from rfl] at this;rw[this,zA]
 ·have hz:=vW c;rw[hz,zV (r:=([],(zN (zx 65535 s).2).2)) (by
   unfold yx;simp only[hz,show decide ((0:Int) < 0)=false from rfl,cond_false]),zA]
  rfl
theorem Wv{s:RS}(hO:Ok s)(h0:s.2=0):Ok (xL s).2/\OkP (xL s).1/\((xL s).1.runs.length<=1000000001)/\((xL s).2.2=0->(xL s).1.runs.length+(xL s).2.1.length+2<=s.1.length):=by
 obtain⟨h1,h2,h3⟩:=N.vu hO (m:=65535) (by decide);obtain⟨h4,h5,h6⟩:=N.yS h1;have hl:=h4.len;unfold xL
 by_cases c:(zN (zx 65535 s).2).2.2=0
 ·obtain⟨q1,q2,q3,q4⟩:=Ue (zN (zx 65535 s).2).1.toNat [] _ h4 c (by simp);refine⟨q1,⟨h2,h3,q2⟩,by simp at q3 ⊢;omega,fun hz=>?_⟩;have hq:=q4 hz;obtain⟨e1,e2⟩:=Jk (Xc c);have h7:=QG hO h0 e1;have h8:=QG h1 (Xc c) c;rw[e2] at h8 hq ⊢;simp only[List.length_nil,Nat.zero_add] at hq ⊢;omega
 ·rw[vW c];refine⟨h4,⟨h2,h3,by intro x hx;cases hx⟩,by simp[vj],fun hz=>absurd hz c⟩
def Xn : Nat->List PT->RS->Bool×List PT×RS
 | 0,out,s=>(true,out,s)
 | k+1,out,s=>if (xL s).2.2≠0 then (false,[],(xL s).2) else Xn k (out++[(xL s).1]) (xL s).2
def vP(s:RS):List PT×RS:=
 let r:=Xn (zN s).1.toNat [] (zN s).2
 if r.1=true then fin [] r.2.1 (Uy (!decide (r.2.1=C.yC r.2.1)) r.2.2) else ([],r.2.2)
theorem Vj{k:Nat}{out:List PT}{s:RS}(h:(xL s).2.2≠0):Xn (k+1) out s=(false,[],(xL s).2):=if_pos h
theorem Yq{k:Nat}{out:List PT}{s:RS}(h:(xL s).2.2=0):Xn (k+1) out s=Xn k (out++[(xL s).1]) (xL s).2:=if_neg (by simp[h])
theorem tot_snoc(c:List PT)(p:PT):C.ya (c++[p])=C.ya c+p.runs.length:=by rw[C.JU];simp[C.ya]
theorem XN : ∀ (k:Nat) (out:List PT) (s:RS),Ok s->s.2=0->(∀ p∈out,OkP p)->out.length+C.ya out+s.1.length<=1000000000->Ok (Xn k out s).2.2/\(∀ p∈(Xn k out s).2.1,OkP p)/\(Xn k out s).2.1.length+C.ya (Xn k out s).2.1<=1000000000 /\
  ((Xn k out s).1=true↔(Xn k out s).2.2.2=0)/\((Xn k out s).1=true->(Xn k out s).2.1.length=out.length+k/\(Xn k out s).2.2.1.length<=s.1.length)
 | 0,out,s,h,h0,ho,hl=>⟨h,ho,by show out.length+C.ya out<=_;omega,⟨fun _=>h0,fun _=>rfl⟩,fun _=>⟨rfl,Nat.le_refl _⟩⟩
 | k+1,out,s,h,h0,ho,hl=>by
  obtain⟨h1,h2,h3,h4⟩:=Wv h h0
  by_cases c:(xL s).2.2=0
  ·rw[Yq c];have:=h4 c;obtain⟨q1,q2,q3,q4,q5⟩:=XN k (out++[(xL s).1]) (xL s).2 h1 c (fun p hp=>by
    rcases List.mem_append.1 hp with h | h
    ·exact ho p h
    ·rw[List.mem_singleton.1 h];exact h2) (by rw[tot_snoc];simp;omega)
   refine⟨q1,q2,q3,q4,fun hz=>?_⟩;have:=q5 hz;simp at this;omega
  ·rw[Vj c];exact⟨h1,by simp,by simp[C.ya],⟨fun h=>(by cases h),fun h=>absurd h c⟩,fun h=>(by cases h)⟩
theorem yaa : ∀ (k:Nat) (out:List PT) (s:RS),(Xn k out s).1=false->(Xn k out s).2.1=[]
 | 0,out,s,h=>by cases h
 | k+1,out,s,h=>by
  by_cases c:(xL s).2.2=0
  ·rw[Yq c] at h ⊢;exact yaa k _ _ h
  ·rw[Vj c]
theorem yba{y3:Int×List Int×Int}(hn:0<=y3.1/\y3.1<=18446744073709551615):∀ (k i:Nat) (out:List PT) (s:RS),(i:Int)+k=y3.1->Ok s->s.2=0->out.length+s.1.length<=1000000000 ->
  loop (xR y3) ((i:Int),out,s.1,s.2)=pure (if (Xn k out s).1=true then .brk (Xn k out s).2 else .ret (Xn k out s).2)
 | 0,i,out,s,hi,_,_,_=>by
  exact zV (by
   unfold xR;have:decide ((i:Int) < y3.1)=false:=by simp;omega
   simp only[this,cond_false]
   rfl)
 | k+1,i,out,s,hi,hO,h0,hl=>by
  obtain⟨h1,h2,h3,h4⟩:=Wv hO h0;have hc:decide ((i:Int) < y3.1)=true:=by simp;omega
  have hw:IntKind.u64.wrap ((i:Int)+1)=((i+1:Nat):Int):=by rw[Wj (by omega) (by omega)];omega
  have hb:xR y3 ((i:Int),out,s.1,s.2)=cond (!decide ((xL s).2.2=0)) (pure (.done (.ret ([],(xL s).2)))) (pure (.next (((i+1:Nat):Int),out++[(xL s).1],(xL s).2.1,(xL s).2.2))):=by
   unfold xR;simp only[hc,cond_true,part_eq hO,zB,zA,N.Xa];rw[zF (by simp;omega),hw]
  by_cases c:(xL s).2.2=0
  ·have hlt:=h4 c;rw[decide_eq_true c,Bool.not_true,cond_false] at hb;rw[zg hb,Yq c];exact yba hn k (i+1) _ (xL s).2 (by omega) h1 c (by simp;omega)
  ·rw[decide_eq_false c,Bool.not_false,cond_true] at hb;rw[zV hb,Vj c]
   rfl
theorem okC_of{c:List PT}(h:∀ p∈c,OkP p)(hl:c.length+C.ya c<=1000000000):C.Ok c:=⟨fun p hp=>(h p hp).d0,by omega,by omega⟩
theorem Ctx_eq{s:RS}(hO:Ok s):vJ s.1 s.2=pure (vP s):=by
 obtain⟨h1,h2,h3⟩:=N.yS hO;unfold vJ vP;rw[N.ZI hO,zB,zA];have good:∀ (c:List PT) (t:RS),C.Ok c->((det (uA c)).bind fun v37=>cond (!v37) ((det (zE 4 t.1 t.2)).bind fun y40=>pure (([]:List PT),y40.1,y40.2)) (pure (c,t.1,t.2)))=pure (if decide (c=C.yC c)=true then (c,t) else ([],vt 4 t)):=fun c t hc=>by
  rw[C.Wq c hc.sm,zB,zA]
  cases decide (c=C.yC c) with
  | true=>rfl
  | false=>rw[Bool.not_false,cond_true,N.ut,zB,zA];rfl
 by_cases c2:(zN s).2.2=0
 ·have:=yba (y3:=zN s) ⟨h2,h3⟩ (zN s).1.toNat 0 [] (zN s).2 (by omega) h1 c2 (by simp;have:=h1.len;omega);rw[show((0:Nat):Int)=0 from rfl] at this;rw[this,zA];obtain⟨q1,q2,q3,q4,_⟩:=XN (zN s).1.toNat [] (zN s).2 h1 c2 (by simp) (by simp[C.ya];have:=h1.len;omega);have qn:=yaa (zN s).1.toNat [] (zN s).2
  generalize Xn (zN s).1.toNat [] (zN s).2=r at *
  obtain⟨b,c,t⟩:=r;simp only[] at *
  cases b with
  | false=>rw[qn rfl];rfl
  | true=>
   have hz:=q4.1 rfl;show((det (uA c)).bind _)=_;rw[good c t (okC_of q2 q3),if_pos rfl]
   cases hg:decide (c=C.yC c) with
   | true=>rw[if_pos rfl,Bool.not_true,uQ,Uc hz]
   | false=>rw[if_neg (by simp),Bool.not_false,Wu w1a];rfl
 ·have hz:=vW c2;rw[hz,zV (r:=.brk ([],(zN s).2)) (by
   unfold xR;simp only[hz,show decide ((0:Int) < 0)=false from rfl,cond_false]),zA]
  show((det (uA [])).bind _)=pure (if true=true then fin [] [] (Uy (!decide (([]:List PT)=C.yC [])) (zN s).2) else ([],(zN s).2));rw[good [] (zN s).2 C.wma,if_pos rfl];have e:C.yC []=[]:=rfl;rw[e];simp only[decide_true,if_true,Bool.not_true,uQ];rw[Wu c2]
theorem uu{s:RS}(hO:Ok s):Ok (vP s).2/\(∀ p∈(vP s).1,OkP p)/\(vP s).1.length+C.ya (vP s).1<=1000000000/\((vP s).2.2≠0->(vP s).1=[])/\((vP s).2.2=0->(vP s).1=C.yC (vP s).1):=by
 obtain⟨h1,h2,h3⟩:=N.yS hO;unfold vP
 by_cases c2:(zN s).2.2=0
 ·obtain⟨q1,q2,q3,q4,_⟩:=XN (zN s).1.toNat [] (zN s).2 h1 c2 (by simp) (by simp[C.ya];have:=h1.len;omega)
  generalize Xn (zN s).1.toNat [] (zN s).2=r at *
  obtain⟨b,c,t⟩:=r;simp only[] at *
  cases b with
  | false=>exact⟨q1,by simp,by simp[C.ya],fun _=>rfl,fun _=>rfl⟩
  | true=>
   rw[if_pos rfl,jW];refine⟨Ub q1 _,?_⟩
   by_cases hb:(Uy (!decide (c=C.yC c)) t).2=0
   ·rw[Uc hb];have:=(Wt hb).1;exact⟨q2,q3,fun h=>absurd hb h,fun _=>by simpa using this⟩
   ·rw[Wu hb];exact⟨by simp,by simp[C.ya],fun _=>rfl,fun h=>absurd h hb⟩
 ·rw[vW c2];show Ok (if true=true then fin [] [] (Uy (!decide (([]:List PT)=C.yC [])) (zN s).2) else ([],(zN s).2)).2/\_;have e:C.yC []=[]:=rfl;simp only[Xn,Int.toNat_zero,e,decide_true,Bool.not_true,uQ,if_true,Wu c2];exact⟨h1,by simp,by simp[C.ya],fun _=>trivial,fun _=>trivial⟩
variable{B:List Int}{a:Int}{s:RS}
open N (RS Ok zN zx vt Ux OkB Sim)
def Uz : List DT->Bool
 | []=>true
 | x::r=>(match r with | []=>true | y::_=>zn x y)&&Uz r
theorem Jl : ∀ {l:List DT},Uz l=true↔Srt l
 | []=>⟨fun _=>List.Pairwise.nil,fun _=>rfl⟩
 | [x]=>⟨fun _=>by simp[Srt],fun _=>rfl⟩
 | x::y::r=>by
  show(zn x y&&Uz (y::r))=true↔_;rw[Bool.and_eq_true,Jl (l:=y::r)];unfold Srt;rw[List.pairwise_cons (a:=x)]
  constructor
  ·rintro⟨h1,h2⟩;refine⟨fun z hz=>?_,h2⟩;rcases List.mem_cons.1 hz with rfl | hz
   ·exact h1
   ·exact XL h1 ((List.pairwise_cons.1 h2).1 z hz)
  ·rintro⟨h1,h2⟩;exact⟨h1 y (by simp),h2⟩
theorem QK(x y:DT):decide (0<=V.xia x y)=!zn x y:=by
 by_cases h:zn x y=true
 ·have:=V.JQ.2 h;rw[h];simp;omega
 ·have h2:¬ V.xia x y < 0:=fun e=>h (V.JQ.1 e)
  simp only[Bool.not_eq_true] at h;rw[h];simp;omega
theorem vC{v:Int}(h0:0<=v)(h:v<=18446744073709551615)(r:List Int):zN (N.yL v++r,0)=(v,(r,0)):=by
 have e:=N.rdN_enc h0 h r;unfold zN;simp only[e,ne_eq,not_true_eq_false,if_false,List.drop_left]
theorem Vk{v m:Int}(h0:0<=v)(h:v<=m)(hm:m<=18446744073709551615)(r:List Int):zx m (N.yL v++r,0)=(v,(r,0)):=by
 unfold zx;rw[vC h0 (by omega) r];exact if_neg (by simp;omega)
theorem w6a{d:DT}(h:OkD d)(hg:V.xB d=true)(r:List Int):YH (encD d++r,0)=(d,(r,0)):=by
 have e1:=Vk h.d0 h.d1 (by decide) (N.yL d.n++r);have e2:=vC h.n0 h.n1 r;have e:encD d++r=N.yL d.dev++(N.yL d.n++r):=by rw[encD,List.append_assoc]
 have hR:dotR (encD d++r,0)=d:=by unfold dotR;rw[e,e1];simp only[e2]
 unfold YH dotT;rw[hR,hg,e,e1];simp only[e2,Bool.not_true,uQ]
 rfl
theorem xTa{out:List DT}{x:DT}(h:∀ y∈out,zn y x=true):VI out x=false:=by
 unfold VI
 cases hl:out.getLast? with
 | none=>rfl
 | some y=>
  have:=h y (List.mem_of_getLast? hl);simp only[QK,this,Bool.not_true]
theorem QL : ∀ (l out:List DT) (r:List Int),Srt (out++l)->(∀ d∈l,OkD d/\V.xB d=true)->yF l.length out (l.flatMap encD++r,0)=(out++l,(r,0))
 | [],out,r,_,_=>by simp[yF]
 | x::t,out,r,hs,h=>by
  have hx:=h x (by simp);have e:YH ((x::t).flatMap encD++r,0)=(x,(t.flatMap encD++r,0)):=by
   rw[List.flatMap_cons,List.append_assoc];exact w6a hx.1 hx.2 _
  have hT:Zz out ((x::t).flatMap encD++r,0)=(t.flatMap encD++r,0):=by
   unfold Zz;rw[e];simp only[];rw[xTa fun y hy=>(List.pairwise_append.1 hs).2.2 y hy x (by simp)]
   rfl
  rw[List.length_cons,Zc (by rw[hT]),hT,e];simp only[];rw[QL t (out++[x]) r (by rw[List.append_assoc];exact hs) (fun d hd=>h d (by simp[hd])),List.append_assoc]
  rfl
theorem WW{l:List DT}(hs:Srt l)(h:∀ d∈l,V.xB d=true):uJ (uy l)=l:=by
 have e:uy l=l:=List.filter_eq_self.2 h;rw[e];exact wxa hs
theorem dots_enc{l:List DT}(hs:Srt l)(h:∀ d∈l,OkD d/\V.xB d=true){most:Int}(hm:(l.length:Int)<=most)(hl:l.length<=1000000000000)(r:List Int):vB most (uK l++r,0)=(l,(r,0)):=by
 have e1:=WW hs fun d hd=>(h d hd).2
 have e2:uK l++r=N.yL (l.length:Int)++(l.flatMap encD++r):=by rw[uK,e1,List.append_assoc]
 unfold vB;rw[e2,vC (by omega) (by omega)];simp only[];rw[if_neg (by omega),Int.toNat_natCast,QL l [] r (by simpa using hs) h]
 rfl
theorem QM : ∀ (l out:List RN) (r:List Int),(∀ x∈l,w4a x)->vj l.length out (l.flatMap YI++r,0)=(out++l,(r,0))
 | [],out,r,_=>by simp[vj]
 | x::t,out,r,h=>by
  have hx:=h x (by simp);have e1:zN ((x::t).flatMap YI++r,0)=(x.lo,(N.yL x.hi++(t.flatMap YI++r),0)):=by
   rw[List.flatMap_cons,YI,List.append_assoc,List.append_assoc];exact vC hx.1.1 hx.1.2 _
  have e2:zN (N.yL x.hi++(t.flatMap YI++r),0)=(x.hi,(t.flatMap YI++r,0)):=vC hx.2.1 hx.2.2 _;rw[List.length_cons,XM (by rw[e1];simp only[e2]),e1];simp only[e2];rw[QM t _ r fun y hy=>h y (by simp[hy]),List.append_assoc]
  rfl
theorem part_enc{p:PT}(h:OkP p)(hl:p.runs.length<=1000000000000)(r:List Int):xL (Jh p++r,0)=(p,(r,0)):=by
 have e:Jh p++r=N.yL p.dev++(N.yL (p.runs.length:Int)++(p.runs.flatMap YI++r)):=by rw[Jh,List.append_assoc,List.append_assoc]
 have e1:=Vk h.d0 h.d1 (by decide) (N.yL (p.runs.length:Int)++(p.runs.flatMap YI++r));have e2:=vC (v:=(p.runs.length:Int)) (by omega) (by omega) (p.runs.flatMap YI++r);unfold xL;rw[e,e1];simp only[e2,Int.toNat_natCast];rw[QM p.runs [] r h.r]
 rfl
theorem yca : ∀ (c out:List PT) (r:List Int),(∀ p∈c,OkP p/\p.runs.length<=1000000000000)->Xn c.length out (c.flatMap Jh++r,0)=(true,out++c,(r,0))
 | [],out,r,_=>by simp[Xn]
 | p::t,out,r,h=>by
  have hp:=h p (by simp);have e:xL ((p::t).flatMap Jh++r,0)=(p,(t.flatMap Jh++r,0)):=by
   rw[List.flatMap_cons,List.append_assoc];exact part_enc hp.1 hp.2 _
  rw[List.length_cons,Yq (by rw[e]),e];simp only[];rw[yca t _ r fun q hq=>h q (by simp[hq]),List.append_assoc]
  rfl
theorem ctx_encN{c:List PT}(hc:c=C.yC c)(h:∀ p∈c,OkP p)(hl:c.length<=1000000000000/\C.ya c<=1000000000000)(r:List Int):vP (QA c++r,0)=(c,(r,0)):=by
 have e:QA c++r=N.yL (c.length:Int)++(c.flatMap Jh++r):=by rw[QA,List.append_assoc]
 have e1:=vC (v:=(c.length:Int)) (by omega) (by omega) (c.flatMap Jh++r);have e2:=yca c [] r fun p hp=>⟨h p hp,by have:=C.qu p hp;omega⟩
 unfold vP;rw[e,e1];simp only[Int.toNat_natCast];simp only[e2,List.nil_append,if_true];have hdc:decide (c=C.yC c)=true:=decide_eq_true hc;rw[hdc]
 rfl
theorem w7a(c:List PT):C.yC c=C.yC (C.yC c):=(C.Wo (C.uP c)).symm
theorem w8a{c:List PT}(h:∀ p∈c,p.dev<=65535)(hl:c.length<=100000000/\C.ya c<=100000000)(r:List Int):vP (Xb c++r,0)=(C.yC c,(r,0)):=
 ctx_encN (w7a c) (WU h) ⟨by have:=C.Yl c;omega,by have:=C.Ym c;omega⟩ r
theorem okB_encC{c:List PT}(h:∀ p∈c,p.dev<=65535)(hl:c.length<=10000000/\C.ya c<=10000000):OkB (Xb c):=by
 have hn:=C.Yl c;have ht:=C.Ym c;refine⟨by_encC c (WU h) ⟨by omega,by omega⟩,?_⟩;have:=Ji (WU h) (by omega) (by omega);rw[Xb];omega
open N (RS Ok zN zx vt Ux OkB Sim)
theorem we{s:RS}(hO:Ok s)(h:(zN s).2.2=0):s.1=N.yL (zN s).1++(zN s).2.1:=by
 have h0:=Xc h;unfold zN at h ⊢;rw[if_neg (by simp[h0])] at h ⊢
 by_cases c:(N.rdN s.1).2.2=0
 ·rw[if_neg (by simp[c])];exact N.rdN_one hO.by_ c
 ·rw[if_pos c] at h;exact absurd h (N.xt c)
theorem Vl{s:RS}(hO:Ok s){m:Int}(h:(zx m s).2.2=0):s.1=N.yL (zx m s).1++(zx m s).2.1:=by
 obtain⟨h1,h2⟩:=Jk h;rw[h2];exact we hO h1
theorem w9a{s:RS}(hO:Ok s)(h:(YH s).2.2=0):s.1=encD (YH s).1++(YH s).2.1:=by
 obtain⟨_,h1,h2,h3⟩:=yXa h;have e1:=Vl hO h1;have e2:=we (N.vu hO (m:=65535) (by decide)).1 h2;rw[h3];show s.1=(N.yL (zx 65535 s).1++N.yL (zN (zx 65535 s).2).1)++_;rw[List.append_assoc,<- e2];exact e1
theorem QN : ∀ (k:Nat) (out:List DT) (s:RS),Ok s->s.2=0->Srt out->(∀ d∈out,V.xB d=true)->(yF k out s).2.2=0->∃ l,(yF k out s).1=out++l/\l.length=k/\s.1=l.flatMap encD++(yF k out s).2.1/\Srt (out++l)/\(∀ d∈out++l,V.xB d=true)/\∀ d∈l,OkD d
 | 0,out,s,_,_,hs,hg,_=>⟨[],by simp[yF],rfl,by simp[yF],by simpa using hs,by simpa using hg,by simp⟩
 | k+1,out,s,hO,h0,hs,hg,h=>by
  by_cases c:(Zz out s).2=0
  ·obtain⟨c1,c2,c3⟩:=yZa c;rw[Zc c] at h ⊢;have hgd:=(yXa c2).1;have hs2:Srt (out++[(YH s).1]):=by
    unfold Srt;rw[List.pairwise_append];refine⟨hs,by simp,fun a ha b hb=>?_⟩;rw[List.mem_singleton.1 hb];rcases R.xA out with rfl | ⟨q,y,rfl⟩
    ·simp at ha
    ·have hy:zn y (YH s).1=true:=by
      unfold VI at c1;simp only[List.getLast?_append,List.getLast?_singleton,Option.some_or,QK] at c1;simpa using c1
     rcases List.mem_append.1 ha with h5 | h5
     ·exact XL ((List.pairwise_append.1 hs).2.2 a h5 y (by simp)) hy
     ·rw[List.mem_singleton.1 h5];exact hy
   obtain⟨l,e1,e2,e3,e4,e5,e6⟩:=QN k _ _ (Vi hO out) c hs2 (fun d hd=>by
    rcases List.mem_append.1 hd with h5 | h5
    ·exact hg d h5
    ·rw[List.mem_singleton.1 h5];exact hgd) h
   refine⟨(YH s).1::l,by rw[e1];simp,by simp[e2],?_,by simpa using e4,by simpa using e5,fun d hd=>?_⟩
   ·rw[List.flatMap_cons,List.append_assoc,<- e3,c3];exact w9a hO c2
   ·rcases List.mem_cons.1 hd with rfl | h5
    ·exact(QH hO).2.1
    ·exact e6 d h5
  ·rw[WV c] at h;exact absurd h c
theorem yda{s:RS}(hO:Ok s){most:Int}(h:(vB most s).2.2=0):s.1=uK (vB most s).1++(vB most s).2.1/\Srt (vB most s).1/\(∀ d∈(vB most s).1,V.xB d=true/\OkD d)/\((vB most s).1.length:Int)<=max most 0:=by
 obtain⟨h1,h2,h3⟩:=N.yS hO;unfold vB at h ⊢
 by_cases c:max most 0 < (zN s).1
 ·rw[if_pos c] at h;exact absurd h (N.xt (by decide))
 ·rw[if_neg c] at h ⊢;have c2:(zN s).2.2=0:=Classical.byContradiction fun c2=>by
   rw[vW c2] at h;exact c2 h
  obtain⟨l,e1,e2,e3,e4,e5,e6⟩:=QN _ [] _ h1 c2 List.Pairwise.nil (by simp) h;rw[List.nil_append] at e1 e4 e5;rw[e1];refine⟨?_,e4,fun d hd=>⟨e5 d hd,e6 d hd⟩,by omega⟩;rw[uK,WW e4 e5,List.append_assoc,<- e3,e2,Int.toNat_of_nonneg h2];exact we hO c2
theorem dots_bad{s:RS}{most:Int}(h:(vB most s).2.2≠0):(vB most s).1=[]:=by
 have hL:∀ (k:Nat) (out:List DT) (s:RS),s.2=0\/out=[]->(yF k out s).2.2≠0->(yF k out s).1=[]:=by
  intro k
  induction k with
  | zero=>
   intro out s h1 h2;rcases h1 with h1 | h1
   ·exact absurd h1 h2
   ·exact h1
  | succ k ih=>
   intro out s _ h2
   by_cases c:(Zz out s).2=0
   ·rw[Zc c] at h2 ⊢;exact ih _ _ (.inl c) h2
   ·rw[WV c]
 unfold vB at h ⊢
 split at h
 ·rename_i c;rw[if_pos c]
 ·rename_i c;rw[if_neg c];exact hL _ _ _ (.inr rfl) h
theorem QO : ∀ (k:Nat) (out:List RN) (s:RS),Ok s->(vj k out s).2.2=0->∃ l,(vj k out s).1=out++l/\l.length=k/\s.1=l.flatMap YI++(vj k out s).2.1
 | 0,out,s,_,_=>⟨[],by simp[vj],rfl,by simp[vj]⟩
 | k+1,out,s,hO,h=>by
  by_cases c:(zN (zN s).2).2.2=0
  ·rw[XM c] at h ⊢;obtain⟨l,e1,e2,e3⟩:=QO k _ _ (w5a hO).1 h;refine⟨⟨(zN s).1,(zN (zN s).2).1⟩::l,by rw[e1];simp,by simp[e2],?_⟩;rw[List.flatMap_cons,List.append_assoc,<- e3,YI,List.append_assoc,<- we (N.yS hO).1 c];exact we hO (Xc c)
  ·rw[Ud c] at h;exact absurd h c
theorem part_inv{s:RS}(hO:Ok s)(h:(xL s).2.2=0):s.1=Jh (xL s).1++(xL s).2.1:=by
 obtain⟨h1,h2,h3⟩:=N.vu hO (m:=65535) (by decide);obtain⟨h4,h5,h6⟩:=N.yS h1;unfold xL at h ⊢;have c:(zN (zx 65535 s).2).2.2=0:=Classical.byContradiction fun c=>by rw[vW c] at h;exact c h
 obtain⟨l,e1,e2,e3⟩:=QO _ [] _ h4 h;rw[List.nil_append] at e1;show s.1=(N.yL (zx 65535 s).1++(N.yL ((vj (zN (zx 65535 s).2).1.toNat [] (zN (zx 65535 s).2).2).1.length:Int)++(vj (zN (zx 65535 s).2).1.toNat [] (zN (zx 65535 s).2).2).1.flatMap YI))++(vj (zN (zx 65535 s).2).1.toNat [] (zN (zx 65535 s).2).2).2.1;rw[e1,List.append_assoc,List.append_assoc,<- e3,e2,Int.toNat_of_nonneg h5,<- we h1 c];exact Vl hO (Xc c)
theorem yea : ∀ (k:Nat) (out:List PT) (s:RS),Ok s->s.2=0->(Xn k out s).1=true->∃ l,(Xn k out s).2.1=out++l/\l.length=k/\s.1=l.flatMap Jh++(Xn k out s).2.2.1
 | 0,out,s,_,_,_=>⟨[],by simp[Xn],rfl,by simp[Xn]⟩
 | k+1,out,s,hO,h0,h=>by
  by_cases c:(xL s).2.2=0
  ·rw[Yq c] at h ⊢;obtain⟨l,e1,e2,e3⟩:=yea k _ _ (Wv hO h0).1 c h;refine⟨(xL s).1::l,by rw[e1];simp,by simp[e2],?_⟩;rw[List.flatMap_cons,List.append_assoc,<- e3];exact part_inv hO c
  ·rw[Vj c] at h;cases h
theorem vAa{s:RS}(hO:Ok s)(h:(vP s).2.2=0):s.1=Xb (vP s).1++(vP s).2.1:=by
 have hn:=(uu hO).2.2.2.2 h;obtain⟨h1,h2,h3⟩:=N.yS hO;rw[Xb,<- hn];unfold vP at h ⊢;have c:(zN s).2.2=0:=Classical.byContradiction fun c=>by
  have hz:=vW c;have e:C.yC []=[]:=rfl;simp only[hz,Xn,Int.toNat_zero,e,decide_true,Bool.not_true,uQ,if_true,jW] at h;exact c h
 have hi:=yea (zN s).1.toNat [] (zN s).2 h1 c;obtain⟨q1,q2,q3,q4,_⟩:=XN (zN s).1.toNat [] (zN s).2 h1 c (by simp) (by simp[C.ya];have:=h1.len;omega)
 generalize Xn (zN s).1.toNat [] (zN s).2=r at *
 obtain⟨b,x,t⟩:=r;simp only[] at *
 cases b with
 | false=>
  have hz:t.2=0:=h;have:=q4.2 hz;cases this
 | true=>
  rw[if_pos rfl] at h ⊢;rw[jW] at h;rw[Uc h,(Wt h).2.2];obtain⟨l,e1,e2,e3⟩:=hi rfl;rw[List.nil_append] at e1;subst e1;show s.1=(N.yL (x.length:Int)++x.flatMap Jh)++t.1;rw[List.append_assoc,<- e3,e2,Int.toNat_of_nonneg h2];exact we hO c
theorem end_ok{s:RS}(h:(Ux s).1=0):s.1=[]/\s.2=0:=by
 unfold Ux at h
 by_cases c:0 < s.1.length
 ·simp only[if_pos c] at h;exact absurd h (N.xt (by decide))
 ·simp only[if_neg c] at h;exact⟨List.eq_nil_of_length_eq_zero (by omega),h⟩
end Go.Ep.M.D
namespace Go.Ep.M.E
open Go
theorem Zd(s:ByteArray):(yJ s).length=s.size:=by simp[yJ]
theorem by_bytes(s:ByteArray):N.By (yJ s):=fun x hx=>by
 simp only[yJ,List.mem_map] at hx;obtain⟨b,_,rfl⟩:=hx;have:=b.toNat_lt;omega
theorem Uf(l:List Int):(qG l).data.toList=l.map fun n=>UInt8.ofNat n.toNat:=by
 have key:∀ (l:List Int) (r:ByteArray),(l.foldl (fun r n=>r.push (UInt8.ofNat n.toNat)) r).data.toList=r.data.toList++l.map fun n=>UInt8.ofNat n.toNat:=by
  intro l
  induction l with
  | nil=>intro r;simp
  | cons x t ih=>intro r;rw[List.foldl_cons,ih];simp
 have:=key l ByteArray.empty;simpa[qG] using this
theorem xUa(s:ByteArray):qG (yJ s)=s:=by
 have h:=Uf (yJ s);have e:(yJ s).map (fun n=>UInt8.ofNat n.toNat)=s.data.toList:=by
  simp only[yJ,List.map_map];apply List.ext_getElem?;intro i;rw[List.getElem?_map]
  cases s.data.toList[i]? with
  | none=>rfl
  | some b=>simp
 rw[e] at h;have h2:(qG (yJ s)).data=s.data:=Array.toList_inj.1 h
 cases hs:qG (yJ s)
 cases s
 rw[hs] at h2;simp only at h2;rw[h2]
theorem xVa{l:List Int}(h:N.By l):yJ (qG l)=l:=by
 rw[yJ,Uf,List.map_map];apply List.ext_getElem?;intro i;rw[List.getElem?_map]
 cases hx:l[i]? with
 | none=>rfl
 | some x=>
  have:=h x (List.mem_of_getElem? hx);simp only[Option.map_some,Function.comp_apply,UInt8.toNat_ofNat']
  congr 1;omega
theorem Ug(l:List Int):(qG l).size=l.length:=by
 have:=congrArg List.length (Uf l);simpa using this
def cidD(v:Int):DT:=⟨v / 281474976710656,v % 281474976710656⟩
theorem band48{v:Int}(h0:0<=v)(h:v<=18446744073709551615):bAnd .u64 v 281474976710655=v % 281474976710656:=by
 obtain⟨n,rfl⟩:=Int.eq_ofNat_of_zero_le h0;unfold bAnd;have bv:∀ q:Nat,q < 18446744073709551616->(BitVec.ofInt IntKind.u64.bits (q:Int)).toNat=q:=fun q hq=>by
  show(BitVec.ofInt 64 (q:Int)).toNat=q;rw[BitVec.toNat_ofInt];omega
 have e:(281474976710655:Int)=((281474976710655:Nat):Int):=rfl;rw[e,BitVec.toNat_and,bv n (by omega),bv _ (by decide)];have h2:n &&& 281474976710655=n % 281474976710656:=Nat.and_two_pow_sub_one_eq_mod n 48;rw[h2,Wj (by omega) (by omega)];omega
theorem Split_eq{v:Int}(h0:0<=v)(h:v<=18446744073709551615):Zl v=pure ((cidD v).dev,(cidD v).n):=by
 unfold Zl cidD;have e:(2 ^ 48:Int)=281474976710656:=rfl;rw[band48 h0 h,Int.fdiv_eq_ediv_of_nonneg _ (by decide),e,wU16 (by omega) (by omega)]
def xWa(v:Int):Bool:=V.xB (cidD v)
theorem vBa{v:Int}(h0:0<=v)(h:v<=18446744073709551615):Yy v=pure (if xWa v=true then cidD v else ⟨0,0⟩,xWa v):=by
 unfold Yy;rw[Split_eq h0 h,zB,zA,V.un,zB,zA];show cond (!xWa v) _ _=_
 cases xWa v <;> rfl
def goodF(f:Int):Bool:=decide (1<=f)&&decide (f<=5)
theorem Field_eq(f:Int):Yz f=pure (goodF f):=by unfold Yz goodF;rw[xm];rfl
def okB(x:Int):Bool:=decide (32<=x)&&decide (x<=126)
def xXa(s:ByteArray):Bool:=decide (s.size<=60)&&(yJ s).all okB
theorem Jm{α:Type}(l:List α)(p:α->Bool):(l.zipIdx.all fun y=>p y.1)=l.all p:=by
 rw[Bool.eq_iff_iff,List.all_eq_true,List.all_eq_true]
 constructor
 ·intro h x hx;obtain⟨i,hi⟩:=List.getElem?_of_mem hx;exact h (x,i) (by rw[List.mk_mem_zipIdx_iff_getElem?];exact hi)
 ·intro h y hy;exact h y.1 (List.fst_mem_of_mem_zipIdx hy)
theorem okB_eq(x:Int)(f:M Bool)(hf:f=pure (decide (126 < x))):(cond (decide (x < 32)) (pure true) f:M Bool)=pure (!okB x):=by
 rw[hf];unfold okB
 by_cases h1:x < 32
 ·have:¬ 32<=x:=by omega
  simp[h1,this]
 ·have:32<=x:=by omega
  by_cases h2:126 < x
  ·have:¬ x<=126:=by omega
   simp[h1,h2,this]
  ·have:x<=126:=by omega
   simp[h1,h2, *]
theorem vCa(s:ByteArray)(hs:s.size<=1000000000000):loop (wi s) 0=pure (if (yJ s).all okB=true then Ex.brk () else Ex.ret false):=by
 have:=vL (body:=wi s) (yJ s) (fun i=>(i:Int)) (fun _ x=>okB x) (Ex.brk ()) (Ex.ret false) (fun i x hx hi=>by
  have hd:decide ((i:Int) < (s.size:Int))=true:=by rw[<- Zd];simpa using hi
  have hi2:i < s.size:=by rw[<- Zd];exact hi
  unfold wi;simp only[hd,cond_true,zT hx,zA,okB_eq x _ rfl,yt (show i < 9223372036854775807 by omega)]
  cases okB x <;> rfl) (by
  unfold wi;simp[Zd])
 rw[show(0:Int)=((0:Nat):Int) from rfl,this,Jm]
theorem zXa(s:ByteArray)(hs:s.size<=1000000000000):XA s=pure (xXa s):=by
 unfold XA xXa;rw[vCa s hs]
 by_cases h:s.size<=60
 ·have:decide ((60:Int) < (s.size:Int))=false:=by simp;omega
  rw[this,cond_false,zA,decide_eq_true h,Bool.true_and]
  cases (yJ s).all okB <;> rfl
 ·have:decide ((60:Int) < (s.size:Int))=true:=by simp;omega
  rw[this,cond_true,decide_eq_false h,Bool.false_and]
structure OkE(e:EV):Prop where
 dot:D.OkD e.dot
 kind:0<=e.kind/\e.kind<=255
 cid:0<=e.cid/\e.cid<=18446744073709551615
 field:0<=e.field/\e.field<=255
 text:e.text.size<=1000000000
 kills:∀ d∈e.kills,D.OkD d
 klen:e.kills.length<=1000000000
def yfa(s:ByteArray):Bool:=decide (s=⟨#[]⟩)
def xYa(e:EV):Bool:=(decide (e.kind=1)&&(goodF e.field&&xXa e.text))||(decide (e.kind=2)&&(decide (e.field=0)&&yfa e.text))
def xZa(e:EV):Bool:=decide (e.kills.length<=256)&&(D.Uz e.kills&&e.kills.all fun d=>V.xB d&&!decide (d=e.dot))
def yH(e:EV):Bool:=(xWa e.cid&&V.xB e.dot)&&(xYa e&&xZa e)
theorem vDa(l:List DT)(hl:l.length<=1000000000000):XB l=pure (D.Uz l):=by
 unfold XB;have key:∀ (k i:Nat) (x:DT) (r:List DT),i+k=l.length->l.drop i=r->i≠0->l[i - 1]?=some x->loop (yj l) (i:Int)=pure (if D.Uz (x::r)=true then Ex.brk () else Ex.ret false):=by
  intro k
  induction k with
  | zero=>
   intro i x r hi hr h1 hx;have:r=[]:=by rw[<- hr];exact List.drop_eq_nil_of_le (by omega)
   subst this;exact zV (by
    unfold yj;have:decide ((i:Int) < (l.length:Int))=false:=by simp;omega
    simp only[this,cond_false];rfl)
  | succ k ih=>
   intro i x r hi hr h1 hx;have hlt:i < l.length:=by omega
   have hr2:r=l[i]::l.drop (i+1):=by rw[<- hr];exact List.drop_eq_getElem_cons hlt
   have hy:=List.getElem?_eq_getElem hlt;have hi1:idx l (IntKind.i64.wrap ((i:Int) - 1))=pure x:=by
    rw[XZ (by omega) (by omega)];exact XV (by omega) (by rw[show((i:Int) - 1).toNat=i - 1 by omega];exact hx)
   have hb:yj l (i:Int)=cond (!zn x l[i]) (pure (.done (.ret false))) (pure (.next ((i+1:Nat):Int))):=by
    unfold yj;have h2:decide ((i:Int) < (l.length:Int))=true:=by simp;omega
    have h3:decide ((0:Int) < (i:Int))=true:=by simp;omega
    simp only[h2,h3,cond_true,hi1,zT hy,zA,D.yUa,zB,D.QK,yt (show i < 9223372036854775807 by omega)]
   rw[hr2];show _=(pure (if (zn x l[i]&&D.Uz (l[i]::l.drop (i+1)))=true then Ex.brk () else Ex.ret false):M (Ex Unit Bool))
   cases c:zn x l[i] with
   | true=>
    rw[c] at hb;rw[zg hb,Bool.true_and];exact ih (i+1) l[i] _ (by omega) rfl (by omega) hy
   | false=>
    rw[c] at hb;rw[zV hb];rfl
 cases l with
 | nil=>
  rw[zV (r:=Ex.brk ()) (by unfold yj;rfl)];rfl
 | cons x r=>
  have h0:yj (x::r) 0=pure (.next 1):=by
   unfold yj;have h2:decide ((0:Int) < ((x::r).length:Int))=true:=decide_eq_true (by rw[List.length_cons];omega);simp only[h2,cond_true,show decide ((0:Int) < 0)=false from rfl,cond_false,zA];rw[XZ (by omega) (by omega)]
   rfl
  have:=key r.length 1 x r (by simp;omega) rfl (by decide) rfl;rw[show((1:Nat):Int)=1 from rfl] at this;rw[zg h0,this,zA]
  cases D.Uz (x::r) <;> rfl
theorem xaa(e:EV)(hl:e.kills.length<=1000000000000):loop (wj e) 0=pure (if (e.kills.all fun d=>V.xB d&&!decide (d=e.dot))=true then Ex.brk () else Ex.ret false):=by
 have:=vL (body:=wj e) e.kills (fun i=>(i:Int)) (fun _ d=>V.xB d&&!decide (d=e.dot)) (Ex.brk ()) (Ex.ret false) (fun i x hx hi=>by
  have hd:decide ((i:Int) < (e.kills.length:Int))=true:=by simpa using hi
  unfold wj;simp only[hd,cond_true,zT hx,zA,V.un,zB,D.xQa,yt (show i < 9223372036854775807 by omega)]
  cases V.xB x <;> cases decide (x=e.dot) <;> rfl) (by
  unfold wj;simp)
 rw[show(0:Int)=((0:Nat):Int) from rfl,this,Jm e.kills fun d=>V.xB d&&!decide (d=e.dot)]
theorem Wq{e:EV}(h:OkE e):uN e=pure (yH e):=by
 have hk:=h.klen;have ht:=h.text;unfold uN yH;rw[vBa h.cid.1 h.cid.2,zB,zA,V.un,zB,zA,xaa e (by omega),vDa e.kills (by omega),Field_eq,zXa e.text (by omega)];simp only[]
 cases xWa e.cid with
 | false=>rfl
 | true=>
  cases V.xB e.dot with
  | false=>rfl
  | true=>
   have hl:decide ((256:Int) < (e.kills.length:Int))=!decide (e.kills.length<=256):=by
    by_cases c:e.kills.length<=256
    ·rw[decide_eq_true c];simp;omega
    ·rw[decide_eq_false c];simp;omega
   have tail:(cond (decide ((256:Int) < (e.kills.length:Int))) (pure true) ((det (pure (D.Uz e.kills))).bind fun v23=>pure (!v23))).bind (fun v21=>cond v21 (pure false) ((pure (if (e.kills.all fun d=>V.xB d&&!decide (d=e.dot))=true then Ex.brk () else Ex.ret false)).bind (exk fun _=>pure true)))=pure (xZa e):=by
    unfold xZa;rw[hl,zB,zA]
    cases decide (e.kills.length<=256) with
    | false=>rfl
    | true=>
     cases D.Uz e.kills with
     | false=>rfl
     | true=>cases e.kills.all fun d=>V.xB d&&!decide (d=e.dot) <;> rfl
   simp only[Bool.not_true,cond_false,zA,zB,Bool.true_and] at tail ⊢;unfold xYa yfa
   by_cases k1:e.kind=1
   ·have k2:decide (e.kind=2)=false:=by rw[k1];rfl
    rw[decide_eq_true k1,cond_true,k2,Bool.true_and,Bool.false_and,Bool.or_false]
    cases goodF e.field with
    | false=>rfl
    | true=>
     cases xXa e.text with
     | false=>rfl
     | true=>exact tail
   ·rw[decide_eq_false k1,cond_false,Bool.false_and,Bool.false_or]
    by_cases k2:e.kind=2
    ·rw[decide_eq_true k2,cond_true,Bool.true_and]
     cases decide (e.field=0) with
     | false=>rfl
     | true=>
      cases decide (e.text=(⟨#[]⟩:ByteArray)) with
      | false=>rfl
      | true=>exact tail
    ·rw[decide_eq_false k2];rfl
def fewE(l:List EV)(most:Nat):Bool:=decide (l.length<=most)&&l.all fun e=>decide (e.kills.length<=300)&&decide (e.text.size<=200)
theorem JY(l:List EV)(most:Nat)(hm:most<=1000000):jt l (most:Int)=pure (fewE l most):=by
 unfold jt fewE
 by_cases h:l.length<=most
 ·have hd:decide ((most:Int) < (l.length:Int))=false:=by simp;omega
  have:=vL (body:=Yx l) l (fun i=>(i:Int)) (fun _ e=>decide (e.kills.length<=300)&&decide (e.text.size<=200)) (Ex.brk ()) (Ex.ret false) (fun i x hx hi=>by
   have hd:decide ((i:Int) < (l.length:Int))=true:=by simpa using hi
   unfold Yx;simp only[hd,cond_true,zT hx,zA,yt (show i < 9223372036854775807 by omega)]
   by_cases c:x.kills.length<=300
   ·have h1:decide ((300:Int) < (x.kills.length:Int))=false:=by simp;omega
    rw[h1,cond_false,decide_eq_true c,Bool.true_and,zA]
    by_cases c2:x.text.size<=200
    ·have h2:decide ((200:Int) < (x.text.size:Int))=false:=by simp;omega
     rw[h2,decide_eq_true c2];rfl
    ·have h2:decide ((200:Int) < (x.text.size:Int))=true:=by simp;omega
     rw[h2,decide_eq_false c2];rfl
   ·have h1:decide ((300:Int) < (x.kills.length:Int))=true:=by simp;omega
    rw[h1,cond_true,decide_eq_false c,Bool.false_and];rfl) (by
   unfold Yx;simp)
  rw[hd,cond_false,decide_eq_true h,Bool.true_and,show(0:Int)=((0:Nat):Int) from rfl,this,zA,Jm l fun e=>decide (e.kills.length<=300)&&decide (e.text.size<=200)]
  cases l.all fun e=>decide (e.kills.length<=300)&&decide (e.text.size<=200) <;> rfl
 ·have hd:decide ((most:Int) < (l.length:Int))=true:=by simp;omega
  rw[hd,cond_true,decide_eq_false h,Bool.false_and]
theorem few_mem{l:List EV}{most:Nat}(h:fewE l most=true):l.length<=most/\∀ e∈l,e.kills.length<=300/\e.text.size<=200:=by
 unfold fewE at h;rw[Bool.and_eq_true,List.all_eq_true] at h;exact⟨by simpa using h.1,fun e he=>by simpa using h.2 e he⟩
theorem rSame_eq(a b:EV)(h:a.kills.length<=1000000000000):VZ a b=pure (decide (a=b)):=by
 unfold VZ;rw[D.xQa,V.zIa a.kills b.kills h,zB,zA];have e:decide (a=b)=(decide (a.dot=b.dot)&&(decide (a.kind=b.kind)&&(decide (a.cid=b.cid)&&(decide (a.field=b.field)&&(decide (a.text=b.text)&&decide (a.kills=b.kills)))))):=by
  cases a;cases b;simp only[EV.mk.injEq,Bool.decide_and]
 rw[e]
 cases decide (a.dot=b.dot) <;> cases decide (a.kind=b.kind) <;> cases decide (a.cid=b.cid) <;> cases decide (a.field=b.field) <;> cases decide (a.text=b.text) <;> rfl
theorem rAll_eq(a b:List EV)(ha:a.length<=1000000000000)(hk:∀ e∈a,e.kills.length<=1000000000000):jw a b=pure (decide (a=b)):=by
 unfold jw
 by_cases hlen:a.length=b.length
 ·have h1:decide ((a.length:Int)=(b.length:Int))=true:=by simp[hlen]
  rw[h1,Bool.not_true,cond_false];have:=vL (body:=XI a b) a (fun i=>(i:Int)) (fun i x=>decide (b[i]?=some x)) (Ex.brk ()) (Ex.ret false) (fun i x hx hi=>by
   have hd:decide ((i:Int) < (a.length:Int))=true:=by simpa using hi
   obtain⟨y,hy⟩:∃ y,b[i]?=some y:=⟨_,List.getElem?_eq_getElem (by omega)⟩
   unfold XI;simp only[hd,cond_true,zT hx,zT hy,zA,rSame_eq x y (hk x (List.mem_of_getElem? hx)),zB,yt (show i < 9223372036854775807 by omega),hy]
   by_cases c:x=y
   ·subst c;simp
   ·have:¬ some y=some x:=fun e=>c (Option.some.inj e).symm
    simp[c,this]) (by
   unfold XI;simp)
  rw[show(0:Int)=((0:Nat):Int) from rfl,this,zA];have e:(a.zipIdx.all fun y=>decide (b[y.2]?=some y.1))=decide (a=b):=by
   rw[Bool.eq_iff_iff,List.all_eq_true,decide_eq_true_eq]
   constructor
   ·intro h;apply List.ext_getElem?;intro i
    by_cases hi:i < a.length
    ·have:=h (a[i],i) (by rw[List.mk_mem_zipIdx_iff_getElem?];exact List.getElem?_eq_getElem hi);simp only[decide_eq_true_eq] at this;rw[this,List.getElem?_eq_getElem hi]
    ·rw[List.getElem?_eq_none (by omega),List.getElem?_eq_none (by omega)]
   ·intro h y hy;subst h;rw[List.mem_zipIdx_iff_getElem?] at hy;simpa using hy
  rw[e]
  cases decide (a=b) <;> rfl
 ·have h1:decide ((a.length:Int)=(b.length:Int))=false:=by simp;omega
  have h2:decide (a=b)=false:=decide_eq_false fun e=>hlen (by rw[e])
  rw[h1,Bool.not_false,cond_true,h2]
def Jo(s:ByteArray):List Int:=N.yL s.size++yJ s
def XR(e:EV):List Int:=D.encD e.dot++([e.kind]++(N.yL e.cid++([e.field]++(Jo e.text++D.uK e.kills))))
theorem yga{s:ByteArray}(h:s.size<=1000000000):(Jo s).length<=9+s.size:=by
 have:=N.ze (v:=(s.size:Int)) (by omega);rw[Jo,List.length_append,Zd];omega
theorem encE_len{e:EV}(h:OkE e):(XR e).length<=47+e.text.size+18*e.kills.length:=by
 have h1:=D.Vh h.dot;have h2:=N.ze h.cid.2;have h3:=yga h.text;have h4:=D.wza h.kills (by have:=h.klen;omega);simp only[XR,List.length_append,List.length_singleton];omega
theorem xba{s:ByteArray}(h:s.size<=1000000000)(row:List Int)(hr:row.length<=1000000000000):xX s row=pure (row++Jo s):=by
 have:=N.ze (v:=(s.size:Int)) (by omega);unfold xX;rw[Wj (by omega) (by omega),N.xh row (by omega) (by omega) (by omega),zB,zA,zF (by omega),N.wva _ _ (by rw[List.length_append,Zd];omega),zB,zA,Jo,List.append_assoc]
theorem QP{e:EV}(h:OkE e)(row:List Int)(hr:row.length<=10000000000):Zm e row=pure (row++XR e):=by
 have h1:=D.Vh h.dot;have h2:=N.ze h.cid.2;have h3:=yga h.text;have ht:=h.text;have hk:=h.klen;unfold Zm;rw[D.QE h.dot row (by omega),zB,zA,N.Jc _ _ (by rw[List.length_append];omega),zB,zA,N.xh _ h.cid.1 h.cid.2 (by simp only[List.length_append,List.length_singleton];omega),zB,zA,
  N.Jc _ _ (by simp only[List.length_append,List.length_singleton];omega),zB,zA,xba h.text _ (by simp only[List.length_append,List.length_singleton];omega),zB,zA,
  D.xSa h.kills (by omega) _ (by simp only[List.length_append,List.length_singleton];omega),zB,zA]
 simp only[XR,List.append_assoc]
def wO(l:List EV):List Int:=N.yL l.length++l.flatMap XR
theorem vEa{l:List EV}(h:∀ e∈l,OkE e)(hl:l.length<=1000000000)(row:List Int)(hr:row.length+(l.flatMap XR).length<=1000000000):vT l row=pure (row++wO l):=by
 have h9:=N.ze (v:=(l.length:Int)) (by omega);unfold vT;rw[Wj (by omega) (by omega),N.xh row (by omega) (by omega) (by omega),zB,zA];have:=D.Jd (body:=xq l) l XR (row++N.yL (l.length:Int)) 2000000000 (fun i out=>((i:Int),out)) (fun t=>pure t) (by rw[List.length_append];omega) (fun i x out hx hi ho=>by
  have hd:decide ((i:Int) < (l.length:Int))=true:=by simpa using hi
  unfold xq;simp only[hd,cond_true,zT hx,zA,QP (h x (List.mem_of_getElem? hx)) out (by omega),zB,yt (show i < 9223372036854775807 by omega)]) (fun out=>by
  unfold xq;simp[zA])
 rw[show(0:Int)=((0:Nat):Int) from rfl,this,wO,List.append_assoc]
theorem len_of{n k:Nat}(h1:256 ^ k<=n)(h2:n < 256 ^ (k+1)):N.Yo n=k+1:=by
 have:=N.zUa k n h1;have:=N.UW (k+1) n h2;omega
theorem QQ{l:List EV}(h:∀ e∈l,OkE e)(hf:∀ e∈l,e.kills.length<=300/\e.text.size<=200):(l.flatMap XR).length<=6000*l.length:=
 D.xu l XR 6000 fun e he=>by have:=encE_len (h e he);have:=hf e he;omega
open N (RS Ok zN zx xS Zb vt Ux OkB Sim)
open D (Uy fin)
def s1(s:RS):RS:=(D.YH s).2
def s2(s:RS):RS:=(xS (s1 s)).2
def s3(s:RS):RS:=(zN (s2 s)).2
def s4(s:RS):RS:=(xS (s3 s)).2
def s5(s:RS):RS:=(Zb 60 (s4 s)).2
def s6(s:RS):RS:=(D.vB 256 (s5 s)).2
def getE(s:RS):EV:=⟨(D.YH s).1,(xS (s1 s)).1,(zN (s2 s)).1,(xS (s3 s)).1,(Zb 60 (s4 s)).1,(D.vB 256 (s5 s)).1⟩
def noE : EV:=⟨⟨0,0⟩,0,0,0,⟨#[]⟩,[]⟩
def getT(s:RS):RS:=Uy (!yH (getE s)) (s6 s)
def xE(s:RS):EV×RS:=fin noE (getE s) (getT s)
theorem vFa{s:RS}(h:Ok s)(m:Int):(Zb m s).1.size<=1000000000:=by
 have h1:=(N.yS h).1.len;unfold Zb
 split
 ·exact(by decide:(0:Nat)<=1000000000)
 ·split
  ·exact(by decide:(0:Nat)<=1000000000)
  ·split
   ·exact(by decide:(0:Nat)<=1000000000)
   ·rw[Ug,List.length_take];omega
theorem dots_okD{s:RS}(h:Ok s)(most:Int):(∀ d∈(D.vB most s).1,D.OkD d)/\(D.vB most s).1.length<=1000000000:=by
 by_cases c:(D.vB most s).2.2=0
 ·obtain⟨e1,e2,e3,e4⟩:=D.yda h c;have hl:=congrArg List.length e1;have hs:=h.len;have h9:(D.uJ (D.uy (D.vB most s).1))=(D.vB most s).1:=D.WW e2 fun d hd=>(e3 d hd).1
  have h8:∀ l:List DT,l.length<=(l.flatMap D.encD).length:=by
   intro l
   induction l with
   | nil=>simp
   | cons x t ih=>
    have:1<=(D.encD x).length:=by rw[D.encD,List.length_append,N.yL,N.QA,List.length_cons];omega
    rw[List.flatMap_cons,List.length_append,List.length_cons];omega
  have h7:=h8 (D.vB most s).1;refine⟨fun d hd=>(e3 d hd).2,?_⟩;rw[List.length_append,D.uK,h9,List.length_append] at hl;omega
 ·rw[D.dots_bad c];simp
theorem vGa{s:RS}(h:Ok s):Ok (s1 s)/\Ok (s2 s)/\Ok (s3 s)/\Ok (s4 s)/\Ok (s5 s)/\Ok (s6 s)/\OkE (getE s):=by
 have o1:Ok (s1 s):=(D.QH h).1;have o2:=N.UZ o1;have o3:=N.yS (s:=s2 s) o2.1;have o4:=N.UZ (s:=s3 s) o3.1;have o5:=N.ok_text (s:=s4 s) o4.1 60;have o6:=D.ok_dots (s:=s5 s) o5 256;obtain⟨k1,k2⟩:=dots_okD (s:=s5 s) o5 256;exact⟨o1,o2.1,o3.1,o4.1,o5,o6,(D.QH h).2.1,o2.2,o3.2,o4.2,vFa (s:=s4 s) o4.1 60,k1,k2⟩
theorem yha{s:RS}(h:Ok s):Zn s.1 s.2=pure (xE s):=by
 obtain⟨o1,o2,o3,o4,o5,o6,oe⟩:=vGa h;unfold Zn xE;have e1:vK s.1 s.2=pure ((D.YH s).1,s1 s):=D.Dot_eq h;have e2:zm (s1 s).1 (s1 s).2=pure ((xS (s1 s)).1,s2 s):=N.Jb o1;have e3:zK (s2 s).1 (s2 s).2=pure ((zN (s2 s)).1,s3 s):=N.ZI o2;have e4:zm (s3 s).1 (s3 s).2=pure ((xS (s3 s)).1,s4 s):=N.Jb o3;have e5:yp 60 (s4 s).1 (s4 s).2=pure ((Zb 60 (s4 s)).1,s5 s):=N.zXa o4 (by decide);have e6:vc 256 (s5 s).1 (s5 s).2=pure ((D.vB 256 (s5 s)).1,s6 s):=D.zca o5 (by decide);rw[e1,zB,zA];simp only[];rw[e2,zB,zA];simp only[];rw[e3,zB,zA];simp only[];rw[e4,zB,zA];simp only[];rw[e5,zB,zA];simp only[];rw[e6,zB,zA];simp only[];have eg:=Wq oe;unfold getE at eg;rw[eg,zB,zA];have ep:=D.yWa (yH (getE s)) (s6 s);unfold getE at ep;rw[ep,zA];exact D.w2a _ _ _
variable{B:List Int}{a:Int}{s:RS}
theorem vHa{s:RS}(h:(xS s).2.2=0):s.2=0/\s.1=(xS s).1::(xS s).2.1:=by
 unfold xS at h ⊢
 by_cases c:s.2≠0
 ·rw[if_pos c] at h;exact absurd h c
 ·rw[if_neg c] at h ⊢
  cases hs:s.1 with
  | nil=>rw[hs] at h;exact absurd h (N.xt (by decide))
  | cons x r=>exact⟨Classical.byContradiction c,rfl⟩
theorem text_ok{m:Int}{s:RS}(hO:Ok s)(h:(Zb m s).2.2=0):(zN s).2.2=0/\s.1=Jo (Zb m s).1++(Zb m s).2.1/\((Zb m s).1.size:Int)<=max m 0:=by
 obtain⟨k1,k2,k3⟩:=N.yS hO;unfold Zb at h ⊢
 by_cases c:(zN s).2.2≠0
 ·rw[if_pos c] at h;exact absurd h c
 ·rw[if_neg c] at h ⊢
  by_cases c2:max m 0 < (zN s).1
  ·rw[if_pos c2] at h;exact absurd h (N.xt (by decide))
  ·rw[if_neg c2] at h ⊢
   by_cases c3:((zN s).2.1.length:Int) < (zN s).1
   ·rw[if_pos c3] at h;exact absurd h (N.xt (by decide))
   ·rw[if_neg c3];have hz:(zN s).2.2=0:=Classical.byContradiction c;refine⟨hz,?_,?_⟩
    ·show s.1=(N.yL ((qG _).size:Int)++yJ (qG _))++_;rw[Ug,xVa (k1.by_.take _),List.length_take,show((min (zN s).1.toNat (zN s).2.1.length:Nat):Int)=(zN s).1 by omega,List.append_assoc,List.take_append_drop];exact D.we hO hz
    ·show((qG _).size:Int)<=_;rw[Ug,List.length_take];omega
theorem vIa{s:RS}(hO:Ok s)(h:(xE s).2.2=0):s.2=0/\yH (xE s).1=true/\OkE (xE s).1/\s.1=XR (xE s).1++(xE s).2.1:=by
 obtain⟨o1,o2,o3,o4,o5,o6,oe⟩:=vGa hO;unfold xE at h ⊢;rw[D.jW] at h;rw[D.Uc h];obtain⟨g1,g2,g3⟩:=D.Wt (c:=!yH (getE s)) (s:=s6 s) h;have i6:=D.yda o5 g2;have z5:(s5 s).2=0:=Classical.byContradiction fun c=>by
  have:(D.vB 256 (s5 s)).2.2≠0:=by
   have hn:=N.num_of c;unfold D.vB;rw[hn];rw[if_neg (by show ¬ max 256 0 < (0:Int);omega)];exact c
  exact this g2
 obtain⟨z5',i5,_⟩:=text_ok (m:=60) o4 z5;have z4:=D.Xc z5';obtain⟨z3,i4⟩:=vHa (s:=s3 s) z4;have i3:=D.we o2 z3;have z2:=D.Xc z3;obtain⟨z1,i2⟩:=vHa (s:=s1 s) z2;have i1:=D.w9a hO z1;have z0:s.2=0:=D.Xc (D.Jk (D.yXa z1).2.1).1;refine⟨z0,by simpa using g1,oe,?_⟩;show s.1=XR (getE s)++(getT s).1;rw[show getT s=s6 s from g3];show s.1=(D.encD (D.YH s).1++([(xS (s1 s)).1]++(N.yL (zN (s2 s)).1++([(xS (s3 s)).1]++(Jo (Zb 60 (s4 s)).1++D.uK (D.vB 256 (s5 s)).1)))))++(s6 s).1;simp only[List.append_assoc];have j6:(s5 s).1=D.uK (D.vB 256 (s5 s)).1++(s6 s).1:=i6.1;have j5:(s4 s).1=Jo (Zb 60 (s4 s)).1++(s5 s).1:=i5;have j4:(s3 s).1=[(xS (s3 s)).1]++(s4 s).1:=i4;have j3:(s2 s).1=N.yL (zN (s2 s)).1++(s3 s).1:=i3;have j2:(s1 s).1=[(xS (s1 s)).1]++(s2 s).1:=i2;have j1:s.1=D.encD (D.YH s).1++(s1 s).1:=i1;rw[<- j6,<- j5,<- j4,<- j3,<- j2];exact j1
theorem get_lt{s:RS}(hO:Ok s)(h:(xE s).2.2=0):(xE s).2.1.length+1<=s.1.length:=by
 have:=(vIa hO h).2.2.2;have hl:=congrArg List.length this;have:1<=(XR (xE s).1).length:=by simp only[XR,List.length_append,List.length_singleton];omega
 rw[List.length_append] at hl;omega
theorem Vm(x:Int)(r:List Int):xS (x::r,0)=(x,(r,0)):=rfl
theorem text_enc{t:ByteArray}{m:Int}(h:(t.size:Int)<=m)(hs:t.size<=1000000000000)(r:List Int):Zb m (Jo t++r,0)=(t,(r,0)):=by
 have e:Jo t++r=N.yL (t.size:Int)++(yJ t++r):=by rw[Jo,List.append_assoc]
 have e1:=D.vC (v:=(t.size:Int)) (by omega) (by omega) (yJ t++r);unfold Zb;rw[e,e1];have hl:=Zd t;simp only[ne_eq,not_true_eq_false,if_false,Int.toNat_natCast];rw[if_neg (by omega),if_neg (by rw[List.length_append];omega),List.take_append_of_le_length (by omega),List.drop_append_of_le_length (by omega),List.take_of_length_le (by omega),List.drop_eq_nil_of_le (by omega),xUa]
 rfl
theorem jX{e:EV}(h:yH e=true):V.xB e.dot=true/\xYa e=true/\e.kills.length<=256/\D.Srt e.kills/\(∀ d∈e.kills,V.xB d=true)/\e.text.size<=60:=by
 unfold yH xZa at h;simp only[Bool.and_eq_true,decide_eq_true_eq,List.all_eq_true] at h;obtain⟨⟨h1,h2⟩,h3,h4,h5,h6⟩:=h;refine⟨h2,h3,h4,D.Jl.1 h5,fun d hd=>(h6 d hd).1,?_⟩;unfold xYa xXa yfa at h3;simp only[Bool.or_eq_true,Bool.and_eq_true,decide_eq_true_eq] at h3;rcases h3 with⟨_,_,h,_⟩ | ⟨_,_,h⟩
 ·exact h
 ·rw[h];decide
theorem get_enc{e:EV}(h:OkE e)(hg:yH e=true)(r:List Int):xE (XR e++r,0)=(e,(r,0)):=by
 obtain⟨g1,g2,g3,g4,g5,g6⟩:=jX hg;have q:XR e++r=D.encD e.dot++(e.kind::(N.yL e.cid++(e.field::(Jo e.text++(D.uK e.kills++r))))):=by
  simp only[XR,List.append_assoc,List.cons_append,List.nil_append]
 have c1:=D.w6a h.dot g1 (e.kind::(N.yL e.cid++(e.field::(Jo e.text++(D.uK e.kills++r)))));have c3:=D.vC h.cid.1 h.cid.2 (e.field::(Jo e.text++(D.uK e.kills++r)));have c5:=text_enc (t:=e.text) (m:=60) (by omega) (by omega) (D.uK e.kills++r);have c6:=D.dots_enc g4 (fun d hd=>⟨h.kills d hd,g5 d hd⟩) (most:=256) (by omega) (by omega) r;have t1:s1 (XR e++r,0)=(e.kind::(N.yL e.cid++(e.field::(Jo e.text++(D.uK e.kills++r)))),0):=by unfold s1;rw[q,c1]
 have t2:s2 (XR e++r,0)=(N.yL e.cid++(e.field::(Jo e.text++(D.uK e.kills++r))),0):=by unfold s2;rw[t1,Vm]
 have t3:s3 (XR e++r,0)=(e.field::(Jo e.text++(D.uK e.kills++r)),0):=by unfold s3;rw[t2,c3]
 have t4:s4 (XR e++r,0)=(Jo e.text++(D.uK e.kills++r),0):=by unfold s4;rw[t3,Vm]
 have t5:s5 (XR e++r,0)=(D.uK e.kills++r,0):=by unfold s5;rw[t4,c5]
 have t6:s6 (XR e++r,0)=(r,0):=by unfold s6;rw[t5,c6]
 have tE:getE (XR e++r,0)=e:=by
  unfold getE;rw[t1,t2,t3,t4,t5,q,c1,Vm,c3,Vm,c5,c6]
 unfold xE getT;rw[tE,t6,hg,Bool.not_true,D.uQ]
 rfl
open N (RS Ok zN zx xS Zb vt Ux OkB Sim)
open D (Uy fin)
def YA(out:List EV)(x:EV):Bool:=match out.getLast? with | some y=>decide (0<=V.xia y.dot x.dot) | none=>false
def Jp(out:List EV)(s:RS):RS:=Uy (YA out (xE s).1) (xE s).2
def jA : Nat->List EV->RS->List EV×RS
 | 0,out,s=>(out,s)
 | k+1,out,s=>if (Jp out s).2≠0 then ([],Jp out s) else jA k (out++[(xE s).1]) (Jp out s)
def Yr(most:Int)(s:RS):List EV×RS:=if max most 0 < (zN s).1 then ([],vt 3 (zN s).2) else jA (zN s).1.toNat [] (zN s).2
theorem Jq{k:Nat}{out:List EV}{s:RS}(h:(Jp out s).2≠0):jA (k+1) out s=([],Jp out s):=if_pos h
theorem WX{k:Nat}{out:List EV}{s:RS}(h:(Jp out s).2=0):jA (k+1) out s=jA k (out++[(xE s).1]) (Jp out s):=if_neg (by simp[h])
theorem vJa{out:List EV}{s:RS}(h:(Jp out s).2=0):YA out (xE s).1=false/\(xE s).2.2=0/\Jp out s=(xE s).2:=D.Wt h
theorem ok_gets{s:RS}(h:Ok s):Ok (xE s).2:=by
 unfold xE;rw[D.jW];exact D.Ub (vGa h).2.2.2.2.2.1 _
theorem Jr{s:RS}(h:Ok s)(out:List EV):Ok (Jp out s):=D.Ub (ok_gets h) _
theorem vKa : ∀ (k:Nat) (out:List EV) (s:RS),Ok s->Ok (jA k out s).2
 | 0,_,_,h=>h
 | k+1,out,s,h=>by
  by_cases c:(Jp out s).2=0
  ·rw[WX c];exact vKa k _ _ (Jr h out)
  ·rw[Jq c];exact Jr h out
theorem ok_all{s:RS}(h:Ok s)(most:Int):Ok (Yr most s).2:=by
 have h1:=N.yS h;unfold Yr
 split
 ·exact N.Zy h1.1 _
 ·exact vKa _ _ _ h1.1
theorem vLa{out:List EV}(h:out.length<=1000000000000)(x:EV)(cmp:DT->DT->M Int)(hc:∀ y,cmp y x.dot=pure (V.xia y x.dot)) :
  ((cond (decide (0<=IntKind.i64.wrap ((out.length:Int) - 1))) ((idx out (IntKind.i64.wrap ((out.length:Int) - 1))).bind fun x61=>(det (cmp x61.dot x.dot)).bind fun v63=>pure (decide (0<=v63))) (pure false)):M Bool)=pure (YA out x):=by
 unfold YA;rcases R.xA out with rfl | ⟨r,y,rfl⟩
 ·rfl
 ·have hl:((r++[y]).length:Int) - 1=(r.length:Int):=by simp
  rw[hl,XZ (by omega) (by simp at h;omega)];have:decide ((0:Int)<=(r.length:Int))=true:=by simp
  rw[this,cond_true,zT (y:=y) (by simp),zA,hc,zB,zA];simp
theorem yia{y4:Int×List Int×Int}(hn:0<=y4.1/\y4.1<=18446744073709551615):∀ (k i:Nat) (out:List EV) (s:RS),(i:Int)+k=y4.1->Ok s->s.2=0->out.length+s.1.length<=1000000000 ->
  (loop (yW y4) ((i:Int),out,s.1,s.2)).bind (exk fun⟨out9,v10,v11⟩=>pure (out9,v10,v11))=pure (jA k out s)
 | 0,i,out,s,hi,_,_,_=>by
  rw[zV (r:=.brk (out,s.1,s.2)) (by
   unfold yW;have:decide ((i:Int) < y4.1)=false:=by simp;omega
   simp only[this,cond_false])]
  rfl
 | k+1,i,out,s,hi,hO,h0,hl=>by
  have hc:decide ((i:Int) < y4.1)=true:=by simp;omega
  have hlast:=vLa (out:=out) (by omega) (xE s).1 uX (fun y=>D.yUa y _);have hw:IntKind.u64.wrap ((i:Int)+1)=((i+1:Nat):Int):=by rw[Wj (by omega) (by omega)];omega
  have hb:yW y4 ((i:Int),out,s.1,s.2)=(det (zU (Jp out s).1 (Jp out s).2)).bind fun y70=>cond (!decide (y70.1=0)) (pure (.done (.ret ([],y70.2.1,y70.2.2)))) (yb ((out.length+[(xE s).1].length)*80<=140737488355328) (pure (.next (IntKind.u64.wrap ((i:Int)+1),out++[(xE s).1],y70.2.1,y70.2.2)))):=by
   unfold yW;have e:=D.zba (YA out (xE s).1) (xE s).2;simp only[hc,cond_true,yha hO,zB,zA];rw[hlast,zA,e,zA]
   rfl
  rw[N.Xa,zB,zA] at hb
  by_cases c:(Jp out s).2=0
  ·obtain⟨_,c2,c3⟩:=vJa c;have hlt:=get_lt hO c2;rw[decide_eq_true c,Bool.not_true,cond_false,zF (by simp;omega),hw] at hb;rw[zg hb,WX c];exact yia hn k (i+1) _ (Jp out s) (by omega) (Jr hO out) c (by rw[c3];simp;omega)
  ·rw[decide_eq_false c,Bool.not_false,cond_true] at hb;rw[zV hb,Jq c]
   rfl
theorem vMa{s:RS}(hO:Ok s){most:Int}(hm:most<=9223372036854775807):wI most s.1 s.2=pure (Yr most s):=by
 obtain⟨h1,h2,h3⟩:=N.yS hO;unfold wI Yr;rw[N.ZI hO,zB,zA,Wj (n:=max most 0) (by omega) (by omega)]
 by_cases c:max most 0 < (zN s).1
 ·rw[decide_eq_true c,cond_true,if_pos c,N.ut 3 (zN s).2,zB,zA]
 ·rw[decide_eq_false c,cond_false,if_neg c]
  by_cases c2:(zN s).2.2=0
  ·exact yia (y4:=zN s) ⟨h2,h3⟩ (zN s).1.toNat 0 [] (zN s).2 (by omega) h1 c2 (by simp;have:=h1.len;omega)
  ·have hz:=D.vW c2;rw[hz,zV (r:=.brk ([],(zN s).2.1,(zN s).2.2)) (by
    unfold yW;simp only[hz,show decide ((0:Int) < 0)=false from rfl,cond_false])]
   rfl
variable{B:List Int}{a:Int}{s:RS}
abbrev vv(l:List EV):Prop:=l.Pairwise fun x y=>zn x.dot y.dot=true
theorem vNa{out:List EV}{x:EV}(hs:vv out)(h:YA out x=false):vv (out++[x]):=by
 unfold vv;rw[List.pairwise_append];refine⟨hs,by simp,fun a ha b hb=>?_⟩;rw[List.mem_singleton.1 hb];rcases R.xA out with rfl | ⟨q,y,rfl⟩
 ·simp at ha
 ·have hy:zn y.dot x.dot=true:=by
   unfold YA at h;simp only[List.getLast?_append,List.getLast?_singleton,Option.some_or,D.QK] at h;simpa using h
  rcases List.mem_append.1 ha with h5 | h5
  ·exact D.XL ((List.pairwise_append.1 hs).2.2 a h5 y (by simp)) hy
  ·rw[List.mem_singleton.1 h5];exact hy
theorem jY : ∀ (k:Nat) (out:List EV) (s:RS),Ok s->s.2=0->vv out->(∀ e∈out,OkE e/\yH e=true)->out.length+s.1.length<=1000000000 ->
  vv (jA k out s).1/\(∀ e∈(jA k out s).1,OkE e/\yH e=true)/\(jA k out s).1.length<=1000000000/\((jA k out s).2.2=0->∃ l,(jA k out s).1=out++l/\l.length=k/\s.1=l.flatMap XR++(jA k out s).2.1)/\((jA k out s).2.2≠0->(jA k out s).1=[])
 | 0,out,s,_,h0,hs,hg,hl=>⟨hs,hg,by show out.length<=_;omega,fun _=>⟨[],by simp[jA],rfl,by simp[jA]⟩,fun h=>absurd h0 h⟩
 | k+1,out,s,hO,h0,hs,hg,hl=>by
  by_cases c:(Jp out s).2=0
  ·obtain⟨c1,c2,c3⟩:=vJa c;obtain⟨i1,i2,i3,i4⟩:=vIa hO c2;have hlt:=get_lt hO c2;rw[WX c];obtain⟨q1,q2,q3,q4,q5⟩:=jY k (out++[(xE s).1]) (Jp out s) (Jr hO out) c (vNa hs c1) (fun e he=>by
    rcases List.mem_append.1 he with h | h
    ·exact hg e h
    ·rw[List.mem_singleton.1 h];exact⟨i3,i2⟩) (by rw[c3];simp;omega)
   refine⟨q1,q2,q3,fun hz=>?_,q5⟩;obtain⟨l,e1,e2,e3⟩:=q4 hz;refine⟨(xE s).1::l,by rw[e1];simp,by simp[e2],?_⟩;rw[List.flatMap_cons,List.append_assoc,<- e3,c3];exact i4
  ·rw[Jq c];exact⟨List.Pairwise.nil,by simp,by simp,fun h=>absurd h c,fun _=>rfl⟩
theorem Uh{s:RS}(hO:Ok s)(most:Int):vv (Yr most s).1/\(∀ e∈(Yr most s).1,OkE e/\yH e=true)/\(Yr most s).1.length<=1000000000/\((Yr most s).2.2=0->s.1=wO (Yr most s).1++(Yr most s).2.1/\((Yr most s).1.length:Int)<=max most 0)/\((Yr most s).2.2≠0->(Yr most s).1=[]):=by
 obtain⟨h1,h2,h3⟩:=N.yS hO;unfold Yr
 by_cases c:max most 0 < (zN s).1
 ·rw[if_pos c];exact⟨List.Pairwise.nil,by simp,by simp,fun h=>absurd h (N.xt (by decide)),fun _=>rfl⟩
 ·rw[if_neg c]
  by_cases c2:(zN s).2.2=0
  ·obtain⟨q1,q2,q3,q4,q5⟩:=jY (zN s).1.toNat [] (zN s).2 h1 c2 List.Pairwise.nil (by simp) (by simp;have:=h1.len;omega);refine⟨q1,q2,q3,fun hz=>?_,q5⟩;obtain⟨l,e1,e2,e3⟩:=q4 hz;rw[List.nil_append] at e1;rw[e1];refine⟨?_,by omega⟩;rw[wO,List.append_assoc,<- e3,e2,Int.toNat_of_nonneg h2];exact D.we hO c2
  ·rw[D.vW c2];exact⟨List.Pairwise.nil,by simp[jA],by simp[jA],fun h=>absurd h c2,fun _=>rfl⟩
theorem yja : ∀ (l out:List EV) (r:List Int),vv (out++l)->(∀ e∈l,OkE e/\yH e=true)->jA l.length out (l.flatMap XR++r,0)=(out++l,(r,0))
 | [],out,r,_,_=>by simp[jA]
 | x::t,out,r,hs,h=>by
  have hx:=h x (by simp);have e:xE ((x::t).flatMap XR++r,0)=(x,(t.flatMap XR++r,0)):=by
   rw[List.flatMap_cons,List.append_assoc];exact get_enc hx.1 hx.2 _
  have hlast:YA out x=false:=by
   unfold YA
   cases hl:out.getLast? with
   | none=>rfl
   | some y=>
    have:=(List.pairwise_append.1 hs).2.2 y (List.mem_of_getLast? hl) x (by simp);simp only[D.QK,this,Bool.not_true]
  have hT:Jp out ((x::t).flatMap XR++r,0)=(t.flatMap XR++r,0):=by
   unfold Jp;rw[e];simp only[];rw[hlast]
   rfl
  rw[List.length_cons,WX (by rw[hT]),hT,e];simp only[];rw[yja t (out++[x]) r (by rw[List.append_assoc];exact hs) (fun d hd=>h d (by simp[hd])),List.append_assoc]
  rfl
theorem all_enc{l:List EV}(hs:vv l)(h:∀ e∈l,OkE e/\yH e=true){most:Int}(hm:(l.length:Int)<=most)(hl:l.length<=1000000000000)(r:List Int):Yr most (wO l++r,0)=(l,(r,0)):=by
 have e2:wO l++r=N.yL (l.length:Int)++(l.flatMap XR++r):=by rw[wO,List.append_assoc]
 unfold Yr;rw[e2,D.vC (by omega) (by omega)];simp only[];rw[if_neg (by omega),Int.toNat_natCast,yja l [] r (by simpa using hs) h]
 rfl
theorem by_encEs{l:List EV}(h:∀ e∈l,OkE e/\yH e=true)(hl:l.length<=1000000000):N.By (wO l):=by
 refine(N.vA (by omega)).app fun y hy=>?_
 obtain⟨e,he,hy2⟩:=List.mem_flatMap.1 hy;obtain⟨ho,hg⟩:=h e he;obtain⟨_,_,_,g4,g5,_⟩:=jX hg;have b1:N.By (D.encD e.dot):=(N.vA (by have:=ho.dot.d1;omega)).app (N.vA ho.dot.n1);have b2:N.By [e.kind]:=fun x hx=>by rw[List.mem_singleton.1 hx];exact ho.kind
 have b3:N.By [e.field]:=fun x hx=>by rw[List.mem_singleton.1 hx];exact ho.field
 have ht:=ho.text;have hk:=ho.klen;have b4:N.By (Jo e.text):=(N.vA (by omega)).app (by_bytes _);have b5:N.By (D.uK e.kills):=by
  rw[D.uK,D.WW g4 g5];refine(N.vA (by omega)).app fun z hz=>?_
  obtain⟨d,hd,h⟩:=List.mem_flatMap.1 hz;exact((N.vA (by have:=(ho.kills d hd).d1;omega)).app (N.vA (ho.kills d hd).n1)) z h
 exact(b1.app (b2.app ((N.vA ho.cid.2).app (b3.app (b4.app b5))))) y hy2
theorem zda(e:EV)(h:e.kills.length<=1000000000000):xM e=pure e:=by
 unfold xM;rw[D.WN _ h,zB,zA]
end Go.Ep.M.E
namespace Go.Ep.M.F
open Go
open E (OkE yH)
def Wa(l:List DT)(d:DT):Bool:=l.any fun x=>decide (x=d)
theorem yMa(l:List DT)(d:DT)(hl:l.length<=1000000000000):jv l d=pure (Wa l d):=by
 unfold jv yd xF;have:=loopF (body:=yI l d) l (fun i=>(i:Int)) (fun _ x=>decide (x=d)) (fun i _=>Ex.ret (i:Int)) (pure (Ex.brk ())) (fun i x hx hi=>by
  have hd:decide ((i:Int) < (l.length:Int))=true:=by simpa using hi
  unfold yI;simp only[hd,cond_true,zT hx,zA,D.xQa,yt (show i < 9223372036854775807 by omega),wb,eq_comm (a:=d) (b:=x),decide_eq_true_eq]) (by
  unfold yI;simp[zA])
 rw[show(0:Int)=((0:Nat):Int) from rfl,this];have hf:(l.zipIdx.find? fun y=>decide (y.1=d)).isSome=Wa l d:=by
  rw[List.isSome_find?];unfold Wa;rw[Bool.eq_iff_iff,List.any_eq_true,List.any_eq_true]
  constructor
  ·rintro⟨y,hy,h⟩;exact⟨y.1,List.fst_mem_of_mem_zipIdx hy,h⟩
  ·rintro⟨x,hx,h⟩;obtain⟨i,hi⟩:=List.getElem?_of_mem hx;exact⟨(x,i),by rw[List.mk_mem_zipIdx_iff_getElem?];exact hi,h⟩
 rw[<- hf]
 cases l.zipIdx.find? fun y=>decide (y.1=d) with
 | none=>simp only[zA,zB,uV];rfl
 | some y=>simp only[zA,zB,Vu];simp
def Ze(l:List EV)(d:DT):Bool:=l.any fun e=>Wa e.kills d
theorem Dead_eq(l:List EV)(d:DT)(hl:l.length<=1000000000000)(hk:∀ e∈l,e.kills.length<=1000000000000):vI l d=pure (Ze l d):=by
 unfold vI;have:=vL (body:=uB l d) l (fun i=>(i:Int)) (fun _ x=>!Wa x.kills d) (Ex.brk ()) (Ex.ret true) (fun i x hx hi=>by
  have hd:decide ((i:Int) < (l.length:Int))=true:=by simpa using hi
  unfold uB Xj;simp only[hd,cond_true,zT hx,zA,yMa x.kills d (hk x (List.mem_of_getElem? hx)),zB,yt (show i < 9223372036854775807 by omega)]
  cases Wa x.kills d <;> rfl) (by
  unfold uB;simp)
 rw[show(0:Int)=((0:Nat):Int) from rfl,this,zA,E.Jm l fun x=>!Wa x.kills d];have e:Ze l d=!(l.all fun x=>!Wa x.kills d):=by simp[Ze,List.all_eq_not_any_not]
 rw[e]
 cases l.all fun x=>!Wa x.kills d <;> rfl
def Ui(l:List DT)(c:List PT):List DT:=D.uJ (l.filter fun d=>!C.ZZ c d.dev d.n)
theorem Drop_eq(l : List DT)(c : List PT)(hl : l.length<=1000000000)(hc : C.Sm c) : XD l c=pure (Ui l c) := by
  unfold XD Wf;have := zGa (body := uC l c false) l (fun i t => ((i : Int), t)) (fun t d => if C.ZZ c d.dev d.n=true then t else t++[d]) (fun t => pure t) (fun i t => t.length<=i) (fun i x t hx hi hI => by
    have hd : decide ((i : Int) < (l.length : Int))=true := by simpa using hi
    refine ⟨?_, by split
                   · omega
                   · simp; omega⟩
    unfold uC;simp only[hd, cond_true, zT hx, zA, C.yMa c x hc, zB, yt (show i < 9223372036854775807 by omega)]
    by_cases c : C.ZZ c x.dev x.n=true
    · rw[c, show(true==false)=false from rfl, cond_false, zA, if_pos rfl]
    · simp only[Bool.not_eq_true] at c;rw[c, show(false==false)=true from rfl, cond_true, zF (by simp; omega), zA]; rfl) (fun t _ => by
    unfold uC;simp[zA]) [] (by simp)
  have key : ∀ (l t : List DT), l.foldl (fun t d => if C.ZZ c d.dev d.n=true then t else t++[d]) t=t++l.filter fun d => !C.ZZ c d.dev d.n := by
    intro l
    induction l with
    | nil => intro t; simp
    | cons x r ih =>
      intro t;rw[List.foldl_cons, ih]
      by_cases h : C.ZZ c x.dev x.n=true
      · rw[if_pos h, List.filter_cons, if_neg (by simp[h])]
      · rw[if_neg h, List.filter_cons, if_pos (by simp[h]), List.append_assoc]; rfl
  rw[show(0 : Int)=((0 : Nat) : Int) from rfl, this, zA, key, List.nil_append, D.zaa _ (by have := List.length_filter_le (fun d : DT => !C.ZZ c d.dev d.n) l; omega), zB, zA, zB, zA, Ui]
def yF(l:List EV):List DT:=l.flatMap fun e=>e.dot::e.kills
def vD(l:List EV):List DT:=D.uJ (yF l)
theorem dots_len(l:List EV)(k:Nat)(h:∀ e∈l,e.kills.length<=k):(yF l).length<=l.length*(k+1):=by
 induction l with
 | nil=>simp[yF]
 | cons e r ih=>
  have h1:=ih fun x hx=>h x (by simp[hx])
  have h2:=h e (by simp);have e1:(yF (e::r)).length=e.kills.length+1+(yF r).length:=by simp[yF];omega
  rw[e1,List.length_cons,Nat.add_mul];omega
theorem QR{l:List EV}{i:Nat}{x:EV}(h:l[i]?=some x):yF (l.take (i+1))=yF (l.take i)++x.dot::x.kills:=by
 rw[List.take_add_one,h];simp[yF]
theorem vOa(l:List EV)(i:Nat):(yF (l.take i)).length<=(yF l).length:=by
 have:yF l=yF (l.take i)++yF (l.drop i):=by unfold yF;rw[<- List.flatMap_append,List.take_append_drop]
 rw[this,List.length_append];omega
theorem zca(l:List EV)(hl:l.length<=1000000000)(hs:(yF l).length<=1000000000):XE l=pure (vD l):=by
 unfold XE;have key:∀ (k i:Nat),i+k=l.length->loop (uD l) ((i:Int),yF (l.take i))=pure (yF l):=by
  intro k
  induction k with
  | zero=>
   intro i hi;refine zV ?_;unfold uD;have:decide ((i:Int) < (l.length:Int))=false:=by simp;omega
   simp only[this,cond_false];rw[List.take_of_length_le (by omega)]
  | succ k ih=>
   intro i hi;obtain⟨x,hx⟩:∃ x,l[i]?=some x:=⟨_,List.getElem?_eq_getElem (by omega)⟩
   have hd:decide ((i:Int) < (l.length:Int))=true:=by simp;omega
   have h1:=vOa l (i+1);rw[QR hx,List.length_append,List.length_cons] at h1;rw[zg (s':=(((i+1:Nat):Int),yF (l.take (i+1)))) ?_]
   ·exact ih (i+1) (by omega)
   ·unfold uD;simp only[hd,cond_true,zT hx,zA,yt (show i < 9223372036854775807 by omega)];rw[zF (by simp;omega),zF (by simp;omega),QR hx,List.append_assoc];rfl
 have:=key l.length 0 (by omega);rw[show yF (l.take 0)=[] from rfl] at this;rw[show(0:Int)=((0:Nat):Int) from rfl,this,zA,D.zaa _ (by omega),zB,zA,vD]
def Ys(l:List EV)(i:Nat)(x:EV):Bool:=decide (0 < i)&&match l[i - 1]? with | some y=>decide (0<=V.xia y.dot x.dot) | none=>false
theorem prev_eq{β:Type}{l:List EV}{i:Nat}{x:EV}(hi:i < l.length)(hl:l.length<=1000000000)(f:DT->DT->M Int)(hf:∀ a b,f a b=pure (V.xia a b))(K:Bool->M β) :
  (cond (decide (0 < (i:Int))) ((idx l (IntKind.i64.wrap ((i:Int) - 1))).bind fun y=>(det (f y.dot x.dot)).bind fun v=>K (decide (0<=v))) (K false))=K (Ys l i x):=by
 unfold Ys
 by_cases h:0 < i
 ·obtain⟨y,hy⟩:∃ y,l[i - 1]?=some y:=⟨_,List.getElem?_eq_getElem (by omega)⟩
  have e:IntKind.i64.wrap ((i:Int) - 1)=((i - 1:Nat):Int):=by rw[XZ (by omega) (by omega)];omega
  have hd:decide (0 < (i:Int))=true:=by simp;omega
  rw[hd,cond_true,e,zT hy,zA,hf,zB,zA,decide_eq_true h,Bool.true_and,hy]
 ·have hd:decide (0 < (i:Int))=false:=by simp;omega
  rw[hd,cond_false,decide_eq_false h,Bool.false_and]
theorem vPa(l:List EV):decide ((4096:Int) < (l.length:Int))=!decide (l.length<=4096):=by
 by_cases c:l.length<=4096
 ·rw[decide_eq_true c];simp;omega
 ·rw[decide_eq_false c];simp;omega
open E (OkE yH)
def bad2(l:List EV)(dev:Int)(c:List PT)(i:Nat)(e:EV):Bool:=!yH e||(!decide (e.dot.dev=dev)||(C.ZZ c e.dot.dev e.dot.n||Ys l i e))
end Go.Ep.M.F

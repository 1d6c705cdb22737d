/- Side texts. -/
import Derived.Test.YtnejkopjonigeaaGreatAHg12
set_option linter.unusedVariables false
set_option linter.unusedSimpArgs false
namespace Go.Ep.M.D
open Go
theorem JV{a b:DT}:zr a b=true↔a.dev < b.dev\/(a.dev=b.dev/\a.n < b.n):=by simp[zr]
theorem JW(a:DT):zr a a=false:=by
 cases h:zr a a with
 | false=>rfl
 | true=>rw[JV] at h;omega
theorem Vf{a b c:DT}(h1:zr a b=true)(h2:zr b c=true):zr a c=true:=by rw[JV] at *;omega
theorem JB{a b:DT}(h:zr a b=true):zr b a=false:=by
 cases h2:zr b a with
 | false=>rfl
 | true=>rw[JV] at h h2;omega
theorem xza{a b:DT}(h1:zr a b=false)(h2:zr b a=false):a=b:=by
 have h3:¬ (zr a b=true):=by simp[h1]
 have h4:¬ (zr b a=true):=by simp[h2]
 rw[JV] at h3 h4
 cases a;cases b
 simp only[DT.mk.injEq] at *
 omega
abbrev Srt(l:List DT):Prop:=l.Pairwise fun x y=>zr x y=true
theorem vUa : ∀ {l l':List DT},Srt l->Srt l'->(∀ d,d∈l↔d∈l')->l=l'
 | [],[],_,_,_=>rfl
 | [],y::r,_,_,h=>by have:=(h y).2 (by simp);simp at this
 | x::r,[],_,_,h=>by have:=(h x).1 (by simp);simp at this
 | x::r,y::t,h1,h2,h=>by
  have hx:=(h x).1 (by simp);have hy:=(h y).2 (by simp);have e:x=y:=by
   rcases List.mem_cons.1 hx with e | hx
   ·exact e
   ·rcases List.mem_cons.1 hy with e | hy
    ·exact e.symm
    ·have a1:=(List.pairwise_cons.1 h2).1 x hx;have a2:=(List.pairwise_cons.1 h1).1 y hy;rw[JB a1] at a2;cases a2
  subst e
  congr 1
  refine vUa (List.pairwise_cons.1 h1).2 (List.pairwise_cons.1 h2).2 fun d=>?_
  have h3:=h d;simp only[List.mem_cons] at h3
  constructor
  ·intro hd;rcases h3.1 (.inr hd) with e | h4
   ·have:=(List.pairwise_cons.1 h1).1 d hd;rw[e,JW] at this;cases this
   ·exact h4
  ·intro hd;rcases h3.2 (.inr hd) with e | h4
   ·have:=(List.pairwise_cons.1 h2).1 d hd;rw[e,JW] at this;cases this
   ·exact h4
def zRa(s:List DT)(d:DT):List DT:=(s.filter fun x=>zr x d)++[d]++(s.filter fun x=>zr d x)
theorem ins_mem{s:List DT}{d x:DT}:x∈zRa s d↔x=d\/x∈s:=by
 simp only[zRa,List.mem_append,List.mem_filter,List.mem_singleton]
 constructor
 ·rintro((h | h) | h)
  ·exact .inr h.1
  ·exact .inl h
  ·exact .inr h.1
 ·rintro(h | h)
  ·exact .inl (.inr h)
  ·cases h1:zr x d with
   | true=>exact .inl (.inl ⟨h,rfl⟩)
   | false=>
    cases h2:zr d x with
    | true=>exact .inr ⟨h,rfl⟩
    | false=>exact .inl (.inr (xza h1 h2))
theorem ins_srt{s:List DT}(h:Srt s)(d:DT):Srt (zRa s d):=by
 unfold Srt zRa;rw[List.pairwise_append,List.pairwise_append];refine⟨⟨h.filter _,by simp,fun a ha b hb=>?_⟩,h.filter _,fun a ha b hb=>?_⟩
 ·rw[List.mem_singleton.1 hb];exact(List.mem_filter.1 ha).2
 ·have hb:=(List.mem_filter.1 hb).2;rcases List.mem_append.1 ha with ha | ha
  ·exact Vf (List.mem_filter.1 ha).2 hb
  ·rw[List.mem_singleton.1 ha];exact hb
theorem Qm(s:List DT)(d:DT):(zRa s d).length<=s.length+1:=by
 unfold zRa;have h:∀ l:List DT,(l.filter fun x=>zr x d).length+(l.filter fun x=>zr d x).length<=l.length:=by
  intro l
  induction l with
  | nil=>simp
  | cons x r ih=>
   cases h1:zr x d with
   | true=>simp[h1,JB h1];omega
   | false=>
    cases h2:zr d x with
    | true=>simp[h1,h2];omega
    | false=>simp[h1,h2];omega
 have:=h s;simp;omega
def vE(l:List DT):List DT:=l.foldl zRa []
theorem qR : ∀ (l s:List DT),Srt s->Srt (l.foldl zRa s)/\(∀ d,d∈l.foldl zRa s↔d∈s\/d∈l)/\(l.foldl zRa s).length<=s.length+l.length
 | [],s,h=>⟨h,by simp,by simp⟩
 | x::r,s,h=>by
  obtain⟨h1,h2,h3⟩:=qR r (zRa s x) (ins_srt h x);refine⟨h1,fun d=>?_,?_⟩
  ·rw[List.foldl_cons,h2 d,ins_mem,List.mem_cons]
   constructor
   ·rintro((h | h) | h)
    ·exact .inr (.inl h)
    ·exact .inl h
    ·exact .inr (.inr h)
   ·rintro(h | h | h)
    ·exact .inl (.inr h)
    ·exact .inl (.inl h)
    ·exact .inr h
  ·have:=Qm s x;rw[List.foldl_cons,List.length_cons];omega
theorem uda(l:List DT):Srt (vE l):=(qR l [] List.Pairwise.nil).1
theorem jO{l:List DT}{d:DT}:d∈vE l↔d∈l:=by simpa[vE] using (qR l [] List.Pairwise.nil).2.1 d
theorem qV(l:List DT):(vE l).length<=l.length:=by simpa[vE] using (qR l [] List.Pairwise.nil).2.2
theorem XKa{l:List DT}(h:Srt l):vE l=l:=vUa (uda l) h fun _=>jO
theorem UT(s:List DT)(d:DT)(h:s.length<=1000000000000):Yt s d=pure (zRa s d):=V.jv s d h
def ddS(out:List DT)(x:DT):List DT:=if out.getLast?=some x then out else out++[x]
def dd(l:List DT):List DT:=l.foldl ddS []
theorem Qn(l:List DT)(x:DT):dd (l++[x])=ddS (dd l) x:=by simp[dd]
theorem vVa(l:List DT):(dd l).getLast?=l.getLast?:=by
 rcases R.xm l with rfl | ⟨r,y,rfl⟩
 ·rfl
 ·rw[Qn];unfold ddS
  by_cases c:(dd r).getLast?=some y
  ·rw[if_pos c,c];simp
  ·rw[if_neg c];simp
theorem dd_mem{l:List DT}{d:DT}:d∈dd l↔d∈l:=by
 have:∀ (l s:List DT),d∈l.foldl ddS s↔d∈s\/d∈l:=by
  intro l
  induction l with
  | nil=>intro s;simp
  | cons x r ih=>
   intro s;rw[List.foldl_cons,ih];have h2:d∈ddS s x↔d∈s\/d=x:=by
    unfold ddS
    split
    ·rename_i h
     exact⟨.inl,fun h3=>h3.elim id fun e=>by rw[e];exact List.mem_of_getLast? h⟩
    ·simp
   rw[h2,List.mem_cons];exact or_assoc
 simpa[dd] using this l []
theorem dd_srt{l:List DT}(h:l.Pairwise fun x y=>zr y x=false):Srt (dd l):=by
 have:∀ (n:Nat) (l:List DT),l.length=n->(l.Pairwise fun x y=>zr y x=false)->Srt (dd l):=by
  intro n
  induction n with
  | zero=>intro l hl _;have:=List.eq_nil_of_length_eq_zero hl;subst this;exact List.Pairwise.nil
  | succ n ih=>
   intro l hl h;rcases R.xm l with rfl | ⟨r,y,rfl⟩
   ·simp at hl
   ·rw[List.pairwise_append] at h;have hr:=ih r (by simpa using hl) h.1;rw[Qn];unfold ddS
    split
    ·exact hr
    ·rename_i hne
     unfold Srt;rw[List.pairwise_append];refine⟨hr,by simp,fun a ha b hb=>?_⟩;rw[List.mem_singleton.1 hb];have ha':=dd_mem.1 ha;have h1:=h.2.2 a ha' y (by simp)
     cases h2:zr a y with
     | true=>rfl
     | false=>
      exfalso;have e:=xza h2 h1;subst e;rw[vVa] at hne;rcases R.xm r with rfl | ⟨q,z,rfl⟩
      ·simp at ha'
      ·have hz:zr a z=false:=h.2.2 z (by simp) a (by simp);rcases List.mem_append.1 ha' with h5 | h5
       ·have h6:zr z a=false:=by
         have:=(List.pairwise_append.1 h.1).2.2 a h5 z (by simp);exact this
        have:=xza hz h6;subst this;simp at hne
       ·rw[List.mem_singleton.1 h5] at hne;simp at hne
 exact this l.length l rfl h
theorem jG(l:List DT)(h:l.length<=1000000000000):yr l=pure l:=by
 unfold yr;refine Zx ⟨⟨false,fun h=>by cases h⟩,fun b hb=>?_⟩
 cases b with
 | true=>show([]:List DT)=l;exact(hb rfl).symm
 | false=>
  show _/\([]++l=l)
  exact⟨by simp;omega,List.nil_append l⟩
theorem vWa(x y:DT):(decide (x.dev=y.dev)&&decide (x.n=y.n))=decide (x=y):=by
 cases x;cases y;simp[Bool.decide_and]
theorem ZF{l:List DT}{m:Nat}{x:DT}(h:l[m]?=some x):l.take (m+1)=l.take m++[x]:=by
 rw[List.take_add_one,h];rfl
theorem x0a{l:List DT}{m:Nat}{x:DT}(h:l[m]?=some x):(l.take (m+1)).getLast?=some x:=by rw[ZF h];simp
theorem JC(s:List DT)(k:Nat)(hk:k < s.length)(hl:s.length<=1000000000000):∀ (d k2 kk:Nat) (v:List DT),k+k2+d=s.length->1<=k2->v.length=s.length->kk+1<=k+k2->v.take kk=dd (s.take (k+k2))->v.drop (k+k2 - 1)=s.drop (k+k2 - 1) ->
  ∃ (kk':Nat) (v':List DT),loop (yG s (k:Int)) ((kk:Int),(k2:Int),v)=pure ((kk':Int),v')/\v'.length=s.length/\kk'<=s.length/\v'.take kk'=dd s
 | 0,k2,kk,v,hd,h1,hv,hkk,ht,_=>by
  refine⟨kk,v,zT ?_,hv,by omega,by rw[ht,show k+k2=s.length by omega,List.take_length]⟩;unfold yG;have:decide ((k2:Int) < (((s.length - (k:Int).toNat:Nat)):Int))=false:=by simp;omega
  simp only[this,cond_false]
 | d+1,k2,kk,v,hd,h1,hv,hkk,ht,hdr=>by
  have hvg:∀ j,k+k2 - 1<=j->v[j]?=s[j]?:=fun j hj=>by
   have:=congrArg (fun l=>l[j - (k+k2 - 1)]?) hdr;simp only[List.getElem?_drop] at this;rw[show k+k2 - 1+(j - (k+k2 - 1))=j by omega] at this;exact this
  obtain⟨x,hx⟩:∃ x,s[k+k2]?=some x:=⟨_,List.getElem?_eq_getElem (by omega)⟩
  obtain⟨y,hy⟩:∃ y,s[k+k2 - 1]?=some y:=⟨_,List.getElem?_eq_getElem (by omega)⟩
  have hlast:(dd (s.take (k+k2))).getLast?=some y:=by
   rw[vVa];have:=x0a hy
   rwa [show k+k2 - 1+1=k+k2 by omega] at this
  have hdd:dd (s.take (k+k2+1))=if y=x then dd (s.take (k+k2)) else dd (s.take (k+k2))++[x]:=by
   rw[ZF hx,Qn];unfold ddS;rw[hlast]
   by_cases c:y=x
   ·rw[if_pos c,if_pos (by rw[c])]
   ·rw[if_neg c,if_neg (by intro e;exact c (Option.some.inj e))]
  have hb:yG s (k:Int) ((kk:Int),(k2:Int),v)=pure (.next (if y=x then ((kk:Int),((k2+1:Nat):Int),v) else (((kk+1:Nat):Int),((k2+1:Nat):Int),v.set kk x))):=by
   unfold yG;have hc:decide ((k2:Int) < (((s.length - (k:Int).toNat:Nat)):Int))=true:=by simp;omega
   have e1:IntKind.i64.wrap ((k2:Int) - 1)=((k2 - 1:Nat):Int):=by rw[uV (by omega) (by omega)];omega
   have i1:idx v ((((k:Int).toNat+(k2:Int).toNat:Nat)):Int)=pure x:=zR (by rw[Int.toNat_natCast,Int.toNat_natCast,hvg _ (by omega)];exact hx);have i2:idx v ((((k:Int).toNat+(((k2 - 1:Nat):Int)).toNat:Nat)):Int)=pure y:=zR (by rw[Int.toNat_natCast,Int.toNat_natCast,hvg _ (by omega),show k+(k2 - 1)=k+k2 - 1 by omega];exact hy);obtain⟨z,hz⟩:∃ z,v[kk]?=some z:=⟨_,List.getElem?_eq_getElem (by omega)⟩
   have i3:idx v (kk:Int)=pure z:=zR hz;simp only[hc,cond_true,e1];rw[zJ (by simp;omega),i1,zA,zJ (by simp;omega),i2,zA];simp only[vWa]
   by_cases c:y=x
   ·have c1:decide (x=y)=true:=decide_eq_true c.symm;simp only[c1,Bool.not_true,cond_false,zA,yM (show k2 < 9223372036854775807 by omega),if_pos c]
   ·have c1:decide (x=y)=false:=decide_eq_false (fun e=>c e.symm);simp only[c1,Bool.not_false,cond_true,if_neg c];rw[zJ (by simp;omega),i3];simp only[zA,yM (show k2 < 9223372036854775807 by omega),yM (show kk < 9223372036854775807 by omega),Int.toNat_natCast]
  by_cases c:y=x
  ·rw[if_pos c] at hb hdd;rw[zi hb];refine JC s k hk hl d (k2+1) kk v (by omega) (by omega) hv (by omega) (by rw[ht,<- hdd];rfl) ?_;have:=congrArg (List.drop 1) hdr;rw[List.drop_drop,List.drop_drop,show k+k2 - 1+1=k+(k2+1) - 1 by omega] at this;exact this
  ·rw[if_neg c] at hb hdd;rw[zi hb];refine JC s k hk hl d (k2+1) (kk+1) (v.set kk x) (by omega) (by omega) (by simpa using hv) (by omega) ?_ ?_
   ·have h5:(v.set kk x)[kk]?=some x:=by rw[List.getElem?_set];simp;omega
    rw[ZF h5,List.take_set,List.set_eq_of_length_le (by rw[List.length_take];omega),ht,<- hdd];rfl
   ·rw[List.drop_set,if_pos (by omega)];have:=congrArg (List.drop 1) hdr;rw[List.drop_drop,List.drop_drop,show k+k2 - 1+1=k+(k2+1) - 1 by omega] at this;exact this
theorem Zba(s:List DT)(hl:s.length<=1000000000000):yV s=pure (dd s):=by
 unfold yV
 by_cases h2:s.length < 2
 ·have:decide ((s.length:Int) < 2)=true:=by simp;omega
  rw[this,cond_true]
  match s,h2 with
  | [],_=>rfl
  | [x],_=>rfl
 ·have:decide ((s.length:Int) < 2)=false:=by simp;omega
  rw[this,cond_false];have key:∀ d k,k+d=s.length->1<=k->dd (s.take k)=s.take k->(loop (yH s) (k:Int)).bind (exk fun _=>pure s)=pure (dd s):=by
   intro d
   induction d with
   | zero=>
    intro k hk h1 hd;rw[zT (r:=.brk ()) (by
     unfold yH;have:decide ((k:Int) < (s.length:Int))=false:=by simp;omega
     simp only[this,cond_false])]
    rw[show k=s.length by omega,List.take_length] at hd;show pure s=pure (dd s);rw[hd]
   | succ d ih=>
    intro k hk h1 hd;obtain⟨x,hx⟩:∃ x,s[k]?=some x:=⟨_,List.getElem?_eq_getElem (by omega)⟩
    obtain⟨y,hy⟩:∃ y,s[k - 1]?=some y:=⟨_,List.getElem?_eq_getElem (by omega)⟩
    have hlast:(dd (s.take k)).getLast?=some y:=by
     rw[vVa];have:=x0a hy
     rwa [show k - 1+1=k by omega] at this
    have hc:decide ((k:Int) < (s.length:Int))=true:=by simp;omega
    have i1:idx s (k:Int)=pure x:=zR hx;have i2:idx s (IntKind.i64.wrap ((k:Int) - 1))=pure y:=by
     rw[uV (by omega) (by omega)];exact Yz (by omega) (by rw[show((k:Int) - 1).toNat=k - 1 by omega];exact hy)
    by_cases c:x=y
    ·subst c;obtain⟨kk,v,h5,h6,h7,h8⟩:=JC s k (by omega) hl d 1 k s (by omega) (by omega) rfl (by omega) (by
      rw[ZF hx,Qn,ddS,if_pos hlast,hd]) (by rw[show k+1 - 1=k by omega])
     rw[zT (r:=.ret (dd s)) (by
      unfold yH;simp only[hc,cond_true,i1,i2,zA,vWa,decide_true];rw[zJ (by omega),show(1:Int)=((1:Nat):Int) from rfl,h5,zA];simp only[];rw[zJ (by omega),zJ (by simp;omega),zJ (by
       simp only[List.length_append,List.length_take,List.length_replicate,List.length_drop,Int.toNat_natCast];omega),zA,qh]
      congr 3
      rw[Int.toNat_natCast,List.append_assoc,List.take_append_of_le_length (by rw[List.length_take];omega),List.take_take,Nat.min_self,h8])]
     rfl
    ·have c1:decide (x=y)=false:=decide_eq_false c;rw[zi (s':=((k+1:Nat):Int)) (by
      unfold yH;simp only[hc,cond_true,i1,i2,zA,vWa,c1,cond_false,ZH,yM (show k < 9223372036854775807 by omega)])]
     refine ih (k+1) (by omega) (by omega) ?_;rw[ZF hx,Qn,ddS,if_neg (by rw[hlast];intro e;exact c (Option.some.inj e).symm),hd]
  have:=key (s.length - 1) 1 (by omega) (by omega) (by
   obtain⟨x,r,rfl⟩:∃ x r,s=x::r:=by
    cases s with
    | nil=>simp at h2
    | cons x r=>exact⟨x,r,rfl⟩
   rfl)
  exact this
theorem Yya{l:List DT}{Q:List DT->Prop}(h:∀ s,s.Perm l->(s.Pairwise fun x y=>zr y x=false)->Q s):(srt zr l).wp Q:=by
 refine⟨⟨l.mergeSort (fun x y=>!zr y x),List.mergeSort_perm _ _,?_⟩,fun s ⟨h1,h2⟩=>h s h1 h2⟩;refine(List.pairwise_mergeSort (fun a b c h1 h2=>?_) (fun a b=>?_) l).imp fun {x y} h=>by simpa using h
 ·simp only[Bool.not_eq_true'] at h1 h2 ⊢
  cases h3:zr c a with
  | false=>rfl
  | true=>
   rw[JV] at h3;have h4:¬ (zr b a=true):=by simp[h1]
   have h5:¬ (zr c b=true):=by simp[h2]
   rw[JV] at h4 h5;omega
 ·cases h1:zr b a with
  | false=>rfl
  | true=>rw[JB h1];rfl
theorem vXa(l:List DT)(h:l.length<=1000000000000):VD l=pure (vE l):=by
 unfold VD;rw[jG l h,zB,zA,zJ (by omega)];refine Zx (Yya fun s hs hp=>?_);show(bind (det (yV s)) fun y8=>pure y8).wp _;rw[Zba s (by rw[hs.length_eq];exact h),zB,zA];exact vUa (dd_srt hp) (uda l) fun d=>by rw[dd_mem,jO];exact hs.mem_iff
theorem cmp16_eq(x y:Int):vM x y=pure (R.Yza x y):=by
 unfold vM uC R.Yza;simp only[decide_true,Bool.not_true,zB,zA,cond_false,wx]
 split
 ·rfl
 ·split <;> rfl
theorem uea(a b:DT):Zy a b=pure (V.wVa a b):=by
 unfold Zy;rw[cmp16_eq,zB,zA,R.Y0a,zB,zA];unfold V.wVa R.Yza
 cases a with | mk d n=>cases b with | mk e m=>
 simp only[DT.mk.injEq,zr]
 by_cases h1:d < e
 ·have:¬ d=e:=by omega
  simp[h1,this]
 ·by_cases h2:e < d
  ·have:¬ d=e:=by omega
   simp[h1,h2,this]
  ·have h3:d=e:=by omega
   subst h3
   by_cases h4:n < m
   ·have:¬ n=m:=by omega
    simp[h4,this]
   ·by_cases h5:m < n
    ·have:¬ n=m:=by omega
     simp[h4,h5,this]
    ·have:n=m:=by omega
     simp[this]
theorem Xy{σ ρ ε:Type}{body:σ->M (Step σ ρ)}(l:List ε)(f:ε->List Int)(row:List Int)(N:Nat)(mk:Nat->List Int->σ)(g:List Int->M ρ)(hN:row.length+(l.flatMap f).length<=N)
  (h1:∀ (i:Nat) (x:ε) (out:List Int),l[i]?=some x->i < l.length->out.length+(f x).length<=N->body (mk i out)=pure (.next (mk (i+1) (out++f x))))
  (h2:∀ out,body (mk l.length out)=(g out).bind fun r=>pure (.done r)):loop body (mk 0 row)=g (row++l.flatMap f):=by
 have key:∀ (k i:Nat) (out:List Int),i+k=l.length->out.length+((l.drop i).flatMap f).length<=N->loop body (mk i out)=g (out++(l.drop i).flatMap f):=by
  intro k
  induction k with
  | zero=>
   intro i out hi _;have:i=l.length:=by omega
   subst this;rw[qi,h2,List.drop_length];simp only[List.flatMap_nil,List.append_nil]
   rfl
  | succ k ih=>
   intro i out hi hl;have hlt:i < l.length:=by omega
   rw[List.drop_eq_getElem_cons hlt,List.flatMap_cons,List.length_append] at hl;rw[zi (h1 i l[i] out (List.getElem?_eq_getElem hlt) hlt (by omega)),ih (i+1) _ (by omega) (by rw[List.length_append];omega),List.drop_eq_getElem_cons hlt,List.flatMap_cons,List.append_assoc]
 simpa using key l.length 0 row (by omega) (by simpa using hN)
theorem wb{ε:Type}(l:List ε)(f:ε->List Int)(k:Nat)(h:∀ x∈l,(f x).length<=k):(l.flatMap f).length<=k*l.length:=by
 induction l with
 | nil=>simp
 | cons x r ih=>
  have h1:=h x (by simp);have h2:=ih fun y hy=>h y (by simp[hy])
  rw[List.flatMap_cons,List.length_append,List.length_cons,Nat.mul_add];omega
structure OkD(d:DT):Prop where
 d0:0<=d.dev
 d1:d.dev<=65535
 n0:0<=d.n
 n1:d.n<=18446744073709551615
def encD(d:DT):List Int:=N.xe d.dev++N.xe d.n
theorem Vg{d:DT}(h:OkD d):(encD d).length<=18:=by
 have h1:=N.zk (v:=d.dev) (by have:=h.d1;omega);have h2:=N.zk (v:=d.n) h.n1;rw[encD,List.length_append];omega
theorem x1a{d:DT}(h:OkD d)(row:List Int)(hr:row.length<=1000000000000):vv d row=pure (row++encD d):=by
 have h1:=N.zk (v:=d.dev) (by have:=h.d1;omega);unfold vv;rw[uW h.d0 (by have:=h.d1;omega),N.vY row h.d0 (by have:=h.d1;omega) (by omega),zB,zA,N.vY _ h.n0 h.n1 (by rw[List.length_append];omega),zB,zA,encD,List.append_assoc]
theorem zpa{d:DT}(h:OkD d)(row:List Int)(hr:row.length<=1000000000000):VW row d=pure (row++encD d):=by
 have h1:=N.zk (v:=d.dev) (by have:=h.d1;omega);unfold VW;rw[uW h.d0 (by have:=h.d1;omega),N.yn row h.d0 (by have:=h.d1;omega) (by omega),zB,zA,N.yn _ h.n0 h.n1 (by rw[List.length_append];omega),zB,zA,encD,List.append_assoc]
def uG(l:List DT):List DT:=l.filter V.xA
def Ja(l:List DT):List Int:=N.xe (vE (uG l)).length++(vE (uG l)).flatMap encD
theorem XLa(l : List DT)(hl : l.length<=1000000000000) : loop (xt l) (0, [])=pure (uG l) := by
  have := XP (body := xt l) l (fun i t => ((i : Int), t)) (fun t d => if V.xA d=true then t++[d] else t) (fun t => pure t) (fun i t => t.length<=i) (fun i x t hx hi hI => by
    have hd : decide ((i : Int) < (l.length : Int))=true := by simpa using hi
    refine ⟨?_, by split
                   · simp; omega
                   · omega⟩
    unfold xt;simp only[hd, cond_true, zR hx, zA, V.YS, zB, yM (show i < 9223372036854775807 by omega)]
    by_cases c : V.xA x=true
    · rw[c, cond_true, zJ (by simp; omega), zA, if_pos rfl]
    · simp only[Bool.not_eq_true] at c;rw[c, cond_false, zA]; rfl) (fun t _ => by
    unfold xt;simp[zA]) [] (by simp)
  rw[show(0 : Int)=((0 : Nat) : Int) from rfl, this]
  congr 1
  have key : ∀ (l t : List DT), l.foldl (fun t d => if V.xA d=true then t++[d] else t) t=t++uG l := by
    intro l
    induction l with
    | nil => intro t; simp[uG]
    | cons x r ih =>
      intro t;rw[List.foldl_cons, ih];unfold uG
      by_cases c : V.xA x=true
      · rw[if_pos c, List.filter_cons_of_pos c, List.append_assoc]; rfl
      · rw[if_neg c, List.filter_cons_of_neg c]
  simpa using key l []
theorem good_mem{l:List DT}{d:DT}:d∈vE (uG l)↔d∈l/\V.xA d=true:=by rw[jO,uG,List.mem_filter]
theorem qW(l:List DT):(vE (uG l)).length<=l.length:=Nat.le_trans (qV _) (List.length_filter_le _ _)
theorem jP{l:List DT}(h:∀ d∈l,OkD d):∀ d∈vE (uG l),OkD d:=fun d hd=>h d (good_mem.1 hd).1
theorem XMa{l:List DT}(h:∀ d∈l,OkD d)(hl:l.length<=1000000000000):(Ja l).length<=9+18*l.length:=by
 have h1:=N.zk (v:=((vE (uG l)).length:Int)) (by have:=qW l;omega);have h2:=wb (vE (uG l)) encD 18 fun x hx=>Vg (jP h x hx)
 have h3:=qW l;rw[Ja,List.length_append];omega
theorem Zca{l:List DT}(h:∀ d∈l,OkD d)(hl:l.length<=1000000000)(row:List Int)(hr:row.length<=100000000000):uM l row=pure (row++Ja l):=by
 have h3:=qW l;have h1:=N.zk (v:=((vE (uG l)).length:Int)) (by omega);have h2:=wb (vE (uG l)) encD 18 fun x hx=>Vg (jP h x hx)
 unfold uM;rw[XLa l (by omega),zA,vXa _ (by have:=List.length_filter_le V.xA l;unfold uG;omega),zB,zA,uW (by omega) (by omega),N.vY row (by omega) (by omega) (by omega),zB,zA];have:=Xy (body:=vO (vE (uG l))) (vE (uG l)) encD (row++N.xe ((vE (uG l)).length:Int)) 1000000000000 (fun i out=>((i:Int),out)) (fun t=>pure t) (by rw[List.length_append];omega) (fun i x out hx hi ho=>by
  have hd:decide ((i:Int) < ((vE (uG l)).length:Int))=true:=by simpa using hi
  unfold vO;simp only[hd,cond_true,zR hx,zA,x1a (jP h x (List.mem_of_getElem? hx)) out (by omega),zB,yM (show i < 9223372036854775807 by omega)]) (fun out=>by
  unfold vO;simp[zA])
 rw[show(0:Int)=((0:Nat):Int) from rfl,this,Ja,List.append_assoc]
theorem JD(l : List DT)(hl : l.length<=1000000000000) : loop (vw l) ([], 0)=pure (vE (uG l)) := by
  have := XP (body := vw l) l (fun i t => (t, (i : Int))) (fun t d => if V.xA d=true then zRa t d else t) (fun t => pure t) (fun i t => t.length<=i) (fun i x t hx hi hI => by
    have hd : decide ((i : Int) < (l.length : Int))=true := by simpa using hi
    refine ⟨?_, by split
                   · have := Qm t x; omega
                   · omega⟩
    unfold vw;simp only[hd, cond_true, zR hx, zA, V.ue, zB, yM (show i < 9223372036854775807 by omega)]
    by_cases c : V.xA x=true
    · rw[c, cond_true, UT t x (by omega), zB, zA, zA, if_pos rfl]
    · simp only[Bool.not_eq_true] at c;rw[c, cond_false, zA]; rfl) (fun t _ => by
    unfold vw;simp[zA]) [] (by simp)
  rw[show(0 : Int)=((0 : Nat) : Int) from rfl, this]
  congr 1
  have key : ∀ (l t : List DT), l.foldl (fun t d => if V.xA d=true then zRa t d else t) t=(uG l).foldl zRa t := by
    intro l
    induction l with
    | nil => intro t; rfl
    | cons x r ih =>
      intro t;rw[List.foldl_cons, ih];unfold uG
      by_cases c : V.xA x=true
      · rw[if_pos c, List.filter_cons_of_pos c]; rfl
      · rw[if_neg c, List.filter_cons_of_neg c]
  exact key l []
theorem vYa{l:List DT}(h:∀ d∈l,OkD d)(hl:l.length<=1000000000)(row:List Int)(hr:row.length<=100000000000):UN row l=pure (row++Ja l):=by
 have h3:=qW l;have h1:=N.zk (v:=((vE (uG l)).length:Int)) (by omega);have h2:=wb (vE (uG l)) encD 18 fun x hx=>Vg (jP h x hx)
 unfold UN;rw[JD l (by omega),zA,uW (by omega) (by omega),N.yn row (by omega) (by omega) (by omega),zB,zA];have:=Xy (body:=ur (vE (uG l))) (vE (uG l)) encD (row++N.xe ((vE (uG l)).length:Int)) 1000000000000 (fun i out=>(out,(i:Int))) (fun t=>pure t) (by rw[List.length_append];omega) (fun i x out hx hi ho=>by
  have hd:decide ((i:Int) < ((vE (uG l)).length:Int))=true:=by simpa using hi
  unfold ur;simp only[hd,cond_true,zR hx,zA,zpa (jP h x (List.mem_of_getElem? hx)) out (by omega),zB,yM (show i < 9223372036854775807 by omega)]) (fun out=>by
  unfold ur;simp[zA])
 rw[show(0:Int)=((0:Nat):Int) from rfl,this,zA,Ja,List.append_assoc]
def zGa(x:RN):List Int:=N.xe x.lo++N.xe x.hi
def Zda(p:PT):List Int:=N.xe p.dev++(N.xe p.runs.length++p.runs.flatMap zGa)
def wWa(c:List PT):List Int:=N.xe c.length++c.flatMap Zda
def JX(c:List PT):List Int:=wWa (C.yj c)
structure OkP(p:PT):Prop where
 d0:0<=p.dev
 d1:p.dev<=65535
 r:∀ x∈p.runs,(0<=x.lo/\x.lo<=18446744073709551615)/\0<=x.hi/\x.hi<=18446744073709551615
theorem ywa{x:RN}(h:(0<=x.lo/\x.lo<=18446744073709551615)/\0<=x.hi/\x.hi<=18446744073709551615):(zGa x).length<=18:=by
 have h1:=N.zk h.1.2;have h2:=N.zk h.2.2;rw[zGa,List.length_append];omega
theorem encP_len{p:PT}(h:OkP p)(hl:p.runs.length<=1000000000000):(Zda p).length<=18+18*p.runs.length:=by
 have h1:=N.zk (v:=p.dev) (by have:=h.d1;omega);have h2:=N.zk (v:=(p.runs.length:Int)) (by omega);have h3:=wb p.runs zGa 18 fun x hx=>ywa (h.r x hx)
 rw[Zda,List.length_append,List.length_append];omega
theorem Qo(c:List PT)(h:∀ p∈c,OkP p)(hl:C.xn c<=1000000000000):(c.flatMap Zda).length<=18*c.length+18*C.xn c:=by
 induction c with
 | nil=>simp
 | cons p r ih=>
  have e:C.xn (p::r)=p.runs.length+C.xn r:=by simp[C.xn]
  have h1:=encP_len (h p (by simp)) (by omega);have h2:=ih (fun q hq=>h q (by simp[hq])) (by omega);rw[List.flatMap_cons,List.length_append,List.length_cons,e];omega
theorem qX{c:List PT}(h:∀ p∈c,OkP p)(hc:c.length<=1000000000000)(hl:C.xn c<=1000000000000):(wWa c).length<=9+18*c.length+18*C.xn c:=by
 have h1:=N.zk (v:=(c.length:Int)) (by omega);have h2:=Qo c h hl;rw[wWa,List.length_append];omega
theorem qY{c:List PT}(h:∀ p∈c,p.dev<=65535):∀ p∈C.yj c,OkP p:=fun p hp=>by
 have h1:=(C.XR c).nf p hp;refine⟨by omega,?_,fun x hx=>?_⟩
 ·have h2:=(C.uf.1 hp).1;obtain⟨q,hq,e⟩:=(C.uQ.1 h2).1;rw[<- e];exact h q hq
 ·have:=R.yN.1 (h1.2.2.may x hx);omega
theorem XNa{c:List PT}(ho:C.Ok c)(h:∀ p∈c,p.dev<=65535)(hs:c.length<=100000000/\C.xn c<=100000000)(row:List Int)(hr:row.length<=100000000000):vG c row=pure (row++JX c):=by
 have hn:=C.Wo c;have ht:=C.Wp c;have hp:=qY h;have hl:=qX hp (by omega) (by omega);have h9:=N.zk (v:=((C.yj c).length:Int)) (by omega);have hf:=Qo (C.yj c) hp (by omega);unfold vG;rw[C.jz c ho.sm,zB,zA,uW (by omega) (by omega),N.vY row (by omega) (by omega) (by omega),zB,zA];have:=Xy (body:=vd (C.yj c)) (C.yj c) Zda (row++N.xe ((C.yj c).length:Int)) 1000000000000 (fun i out=>((i:Int),out)) (fun t=>pure t) (by rw[List.length_append];omega) (fun i p out hx hi hout=>by
  have hd:decide ((i:Int) < ((C.yj c).length:Int))=true:=by simpa using hi
  have hm:=List.mem_of_getElem? hx;have hpp:=hp p hm;have hrl:p.runs.length<=1000000000:=by have:=C.xua p hm;omega
  have e1:=N.zk (v:=p.dev) (by have:=hpp.d1;omega);have e2:=N.zk (v:=(p.runs.length:Int)) (by omega);have e3:=wb p.runs zGa 18 fun x hx=>ywa (hpp.r x hx)
  unfold vd;simp only[hd,cond_true,zR hx,zA];rw[uW hpp.d0 (by have:=hpp.d1;omega),N.vY out hpp.d0 (by have:=hpp.d1;omega) (by omega),zB,zA,uW (by omega) (by omega),N.vY _ (by omega) (by omega) (by rw[List.length_append];omega),zB,zA];have:=Xy (body:=vc p) p.runs zGa (out++N.xe p.dev++N.xe (p.runs.length:Int)) 2000000000000 (fun i out=>((i:Int),out)) (fun t=>pure t) (by rw[List.length_append,List.length_append];omega) (fun j x out2 hx2 hj hout2=>by
   have hd2:decide ((j:Int) < (p.runs.length:Int))=true:=by simpa using hj
   have hxr:=hpp.r x (List.mem_of_getElem? hx2);have e4:=N.zk hxr.1.2;unfold vc;simp only[hd2,cond_true,zR hx2,zA];rw[N.vY out2 hxr.1.1 hxr.1.2 (by omega),zB,zA,N.vY _ hxr.2.1 hxr.2.2 (by rw[List.length_append];omega),zB,zA,yM (show j < 9223372036854775807 by omega),zGa,List.append_assoc]) (fun out=>by
   unfold vc;simp[zA])
  rw[show(0:Int)=((0:Nat):Int) from rfl,this,zA,yM (show i < 9223372036854775807 by omega),Zda];simp only[List.append_assoc]) (fun out=>by
  unfold vd;simp[zA])
 rw[show(0:Int)=((0:Nat):Int) from rfl,this,JX,wWa,List.append_assoc]
theorem Zea{c:List PT}(ho:C.Ok c)(h:∀ p∈c,p.dev<=65535)(hs:c.length<=100000000/\C.xn c<=100000000)(row:List Int)(hr:row.length<=100000000000):XF row c=pure (row++JX c):=by
 have hn:=C.Wo c;have ht:=C.Wp c;have hp:=qY h;have hl:=qX hp (by omega) (by omega);have h9:=N.zk (v:=((C.yj c).length:Int)) (by omega);have hf:=Qo (C.yj c) hp (by omega);unfold XF;rw[C.uXa c ho,zB,zA,uW (by omega) (by omega),N.yn row (by omega) (by omega) (by omega),zB,zA];have:=Xy (body:=Zf (C.yj c)) (C.yj c) Zda (row++N.xe ((C.yj c).length:Int)) 1000000000000 (fun i out=>(out,(i:Int))) (fun t=>pure t) (by rw[List.length_append];omega) (fun i p out hx hi hout=>by
  have hd:decide ((i:Int) < ((C.yj c).length:Int))=true:=by simpa using hi
  have hm:=List.mem_of_getElem? hx;have hpp:=hp p hm;have hrl:p.runs.length<=1000000000:=by have:=C.xua p hm;omega
  have e1:=N.zk (v:=p.dev) (by have:=hpp.d1;omega);have e2:=N.zk (v:=(p.runs.length:Int)) (by omega);have e3:=wb p.runs zGa 18 fun x hx=>ywa (hpp.r x hx)
  unfold Zf;simp only[hd,cond_true,zR hx,zA];rw[uW hpp.d0 (by have:=hpp.d1;omega),N.yn out hpp.d0 (by have:=hpp.d1;omega) (by omega),zB,zA,uW (by omega) (by omega),N.yn _ (by omega) (by omega) (by rw[List.length_append];omega),zB,zA];have:=Xy (body:=Ze (C.yj c) (i:Int)) p.runs zGa (out++N.xe p.dev++N.xe (p.runs.length:Int)) 2000000000000 (fun i out=>(out,(i:Int))) (fun t=>pure t) (by rw[List.length_append,List.length_append];omega) (fun j x out2 hx2 hj hout2=>by
   have hd2:decide ((j:Int) < (p.runs.length:Int))=true:=by simpa using hj
   have hxr:=hpp.r x (List.mem_of_getElem? hx2);have e4:=N.zk hxr.1.2;unfold Ze;simp only[hd2,cond_true,zR hx,zR hx2,zA];rw[N.yn out2 hxr.1.1 hxr.1.2 (by omega),zB,zA,N.yn _ hxr.2.1 hxr.2.2 (by rw[List.length_append];omega),zB,zA,yM (show j < 9223372036854775807 by omega),zGa,List.append_assoc]) (fun out=>by
   unfold Ze;simp[zR hx,zA])
  rw[show(0:Int)=((0:Nat):Int) from rfl,this,zA,yM (show i < 9223372036854775807 by omega),Zda];simp only[List.append_assoc]) (fun out=>by
  unfold Zf;simp[zA])
 rw[show(0:Int)=((0:Nat):Int) from rfl,this,zA,JX,wWa,List.append_assoc]
theorem Xz{c:List PT}(h:∀ p∈c,p.dev<=65535)(hs:c.length<=100000000/\C.xn c<=100000000):(JX c).length<=10000000000:=by
 have hn:=C.Wo c;have ht:=C.Wp c;have hl:=qX (qY h) (by omega) (by omega);rw[JX];omega
open N (RS Ok zU yL vg qP OkB Sim)
def Vy(c:Bool)(s:RS):RS:=if c=true then vg 4 s else s
def fin{α:Type}(z x:α)(t:RS):α×RS:=if t.2≠0 then (z,t) else (x,t)
theorem Qp(e:Int)(s:RS):(vg e s).1.length<=s.1.length:=by unfold vg;split <;> simp
theorem Qq{s:RS}(h:Ok s)(c:Bool):Ok (Vy c s):=by unfold Vy;split;exact N.Xx h _;exact h
theorem bad4_le(c:Bool)(s:RS):(Vy c s).1.length<=s.1.length:=by unfold Vy;split;exact Qp _ _;exact Nat.le_refl _
theorem JE{c:Bool}{s:RS}(h:(Vy c s).2=0):c=false/\s.2=0/\Vy c s=s:=by
 unfold Vy at h ⊢
 cases c with
 | true=>exact absurd h (N.wY (by decide))
 | false=>exact⟨rfl,h,rfl⟩
theorem vZa{c:Bool}{s:RS}(h:s.2≠0):Vy c s=s:=by unfold Vy;split;exact N.fail_of 4 h;rfl
theorem XOa{s:RS}:(Vy true s).2≠0:=N.wY (by decide)
theorem XT{s:RS}:Vy false s=s:=rfl
theorem Wr{α:Type}(z x:α)(t:RS):(fin z x t).2=t:=by unfold fin;split <;> rfl
theorem Vz{α:Type}{z x:α}{t:RS}(h:t.2=0):fin z x t=(x,t):=if_neg (by simp[h])
theorem Yv{α:Type}{z x:α}{t:RS}(h:t.2≠0):fin z x t=(z,t):=if_pos h
theorem vaa(c:Bool)(s:RS):((cond c ((det (zX 4 s.1 s.2)).bind fun y=>pure (y.1,y.2)) (pure (s.1,s.2))):M RS)=pure (Vy c s):=by
 cases c with
 | true=>rw[cond_true,N.YZ,zB,zA];rfl
 | false=>rfl
theorem ufa(c:Bool)(s:RS):((cond (!c) ((det (zX 4 s.1 s.2)).bind fun y=>pure (y.1,y.2)) (pure (s.1,s.2))):M RS)=pure (Vy (!c) s):=vaa (!c) s
theorem XPa{α:Type}(z x:α)(t:RS):((det (zm t.1 t.2)).bind fun y=>(cond (!decide (y.1=0)) (pure (z,y.2.1,y.2.2)) (pure (x,y.2.1,y.2.2)):M (α×List Int×Int)))=pure (fin z x t):=by
 rw[N.Vx,zB,zA]
 by_cases h:t.2=0
 ·rw[Vz h,decide_eq_true h];rfl
 ·rw[Yv h,decide_eq_false h];rfl
theorem Qr(B:List Int)(a:Int)(c:Bool)(s:RS):((cond c ((det (zI 4 B a s.2)).bind fun y=>pure (y.1,y.2.1,y.2.2)) (pure (B,a,s.2))):M (List Int×Int×Int))=pure (B,a,(Vy c s).2):=by
 cases c with
 | true=>rw[cond_true,N.uR B a s (by decide),zB,zA];rfl
 | false=>rfl
theorem jQ{B:List Int}{a:Int}{s:RS}(h:Sim B a s)(c:Bool):Sim B a (Vy c s):=by unfold Vy;split;exact h.fail (by decide);exact h
theorem yxa(e:Int)(m:M Bool)(q:Bool)(h:m=pure q):(cond (decide (e=0)) m (pure false):M Bool)=pure (decide (e=0)&&q):=by rw[h,yP]
theorem qZ(q:Bool)(s:RS):Vy (decide (s.2=0)&&q) s=Vy q s:=by
 by_cases h:s.2=0
 ·rw[decide_eq_true h,Bool.true_and]
 ·rw[decide_eq_false h,Bool.false_and,vZa h,vZa h]
theorem jR(s:RS):(zU s).2.1.length<=s.1.length:=by
 unfold zU
 split
 ·exact Nat.le_refl _
 ·split
  ·exact Qp _ _
  ·simp
theorem x2a{s:RS}(hO:Ok s)(h0:s.2=0)(h:(zU s).2.2=0):(zU s).2.1.length+1<=s.1.length:=by
 unfold zU at h ⊢;rw[if_neg (by simp[h0])] at h ⊢
 by_cases c:(N.rdN s.1).2.2=0
 ·rw[if_neg (by simp[c])];rcases N.Qi s.1 hO.by_ with(h1 | h1) | ⟨n,r,h1,h2,h3,h4,_,h5⟩
  ·rw[h1] at c;simp at c
  ·rw[h1] at c;simp at c
  ·rw[h5,h1];simp
 ·rw[if_pos c] at h;exact absurd h (N.wY c)
theorem vQ{s:RS}(h:(zU s).2.2≠0):(zU s).1=0:=by
 unfold zU at h ⊢
 by_cases c:s.2≠0
 ·rw[if_pos c]
 ·rw[if_neg c] at h ⊢
  by_cases c2:(N.rdN s.1).2.2≠0
  ·rw[if_pos c2]
  ·rw[if_neg c2] at h;exact absurd rfl h
theorem vba(m:Int)(s:RS):(yL m s).2.1.length<=s.1.length:=by
 have h1:=jR s;have h2:=Qp 4 (zU s).2;unfold yL
 by_cases c:m < (zU s).1
 ·rw[if_pos c];exact Nat.le_trans h2 h1
 ·rw[if_neg c];exact h1
theorem vca{s:RS}(h:s.2≠0):(zU s).2=s:=by rw[N.uca h]
theorem UA{s:RS}(h:(zU s).2.2=0):s.2=0:=Classical.byContradiction fun c=>by rw[vca c] at h;exact c h
theorem yya{m:Int}{s:RS}(h:(yL m s).2.2=0):(zU s).2.2=0/\yL m s=zU s:=by
 unfold yL at h ⊢
 by_cases c:m < (zU s).1
 ·rw[if_pos c] at h;exact absurd h (N.wY (by decide))
 ·rw[if_neg c] at h ⊢;exact⟨h,rfl⟩
def XQa(s:RS):DT:=⟨(yL 65535 s).1,(zU (yL 65535 s).2).1⟩
def dotT(s:RS):RS:=Vy (!V.xA (XQa s)) (zU (yL 65535 s).2).2
def Zt(s:RS):DT×RS:=fin ⟨0,0⟩ (XQa s) (dotT s)
theorem x3a{s:RS}(h:Ok s):Ok (Zt s).2/\OkD (Zt s).1/\OkD (XQa s):=by
 obtain⟨h1,h2,h3⟩:=N.vt h (m:=65535) (by decide);obtain⟨h4,h5,h6⟩:=N.yv h1;have ht:Ok (dotT s):=Qq h4 _;have hr:OkD (XQa s):=⟨h2,h3,h5,h6⟩
 unfold Zt
 by_cases c:(dotT s).2=0
 ·rw[Vz c];exact⟨ht,hr,hr⟩
 ·rw[Yv c];exact⟨ht,⟨Int.le_refl _,by simp,Int.le_refl _,by simp⟩,hr⟩
theorem uga{s:RS}(h:(Zt s).2.2=0):V.xA (Zt s).1=true/\(yL 65535 s).2.2=0/\(zU (yL 65535 s).2).2.2=0/\Zt s=(XQa s,(zU (yL 65535 s).2).2):=by
 unfold Zt at h ⊢;rw[Wr] at h;rw[Vz h];obtain⟨h1,h2,h3⟩:=JE h;refine⟨by simpa using h1,UA h2,h2,?_⟩;show(XQa s,dotT s)=_;rw[show dotT s=(zU (yL 65535 s).2).2 from h3]
theorem dot_le(s:RS):(Zt s).2.1.length<=s.1.length:=by
 unfold Zt;rw[Wr];exact Nat.le_trans (bad4_le _ _) (Nat.le_trans (jR _) (vba _ _))
theorem dot_lt{s:RS}(hO:Ok s)(h0:s.2=0)(h:(Zt s).2.2=0):(Zt s).2.1.length+1<=s.1.length:=by
 obtain⟨_,h1,h2,h3⟩:=uga h;obtain⟨h4,h5⟩:=yya h1;rw[h3];have h6:=jR (yL 65535 s).2;rw[h5] at h6 ⊢;have h7:=x2a hO h0 h4;exact Nat.le_trans (Nat.add_le_add_right h6 1) h7
theorem Dot_eq{s:RS}(h:Ok s):ud s.1 s.2=pure (Zt s):=by
 obtain⟨h1,h2,h3⟩:=N.vt h (m:=65535) (by decide);unfold ud Zt;rw[N.yta h,zB,zA,N.Yq h1,zB,zA,wU16 h2 h3,V.YS,zB,zA];have e:=ufa (V.xA (XQa s)) (zU (yL 65535 s).2).2;unfold XQa at e;rw[e,zA];exact XPa _ _ _
variable{B:List Int}{a:Int}{s:RS}
theorem XRa(hB:OkB B)(hO:Ok s)(h:Sim B a s):∃ a',XG B a s.2=pure ((Zt s).1,B,a',(Zt s).2.2)/\Sim B a' (Zt s).2:=by
 obtain⟨h1,h2,h3⟩:=N.vt hO (m:=65535) (by decide);obtain⟨a1,e1,s1⟩:=N.qQ hB h 65535;obtain⟨a2,e2,s2⟩:=N.uS hB s1;unfold XG Zt;rw[e1,zB,zA,e2,zB,zA,wU16 h2 h3];have e3:=yxa (zU (yL 65535 s).2).2.2 ((det (uq ⟨(yL 65535 s).1,(zU (yL 65535 s).2).1⟩)).bind fun v10=>pure (!v10)) (!V.xA (XQa s)) (by rw[V.ue,zB,zA];rfl);have e4:=Qr B a2 (decide ((zU (yL 65535 s).2).2.2=0)&&!V.xA (XQa s)) (zU (yL 65535 s).2).2;rw[qZ] at e4;simp only[] at e3 e4 ⊢;rw[e3,zA,e4,zA];rw[Wr];refine⟨a2,?_,jQ s2 _⟩;show(cond (!decide ((dotT s).2=0)) (pure (⟨0,0⟩,B,a2,(dotT s).2)) (pure (XQa s,B,a2,(dotT s).2)):M _)=_
 by_cases c:(dotT s).2=0
 ·rw[Vz c,decide_eq_true c];rfl
 ·rw[Yv c,decide_eq_false c];rfl
def Qs(out:List DT)(x:DT):Bool:=match out.getLast? with | some y=>decide (0<=V.wVa y x) | none=>false
def Ye(out:List DT)(s:RS):RS:=Vy (Qs out (Zt s).1) (Zt s).2
def yS : Nat->List DT->RS->List DT×RS
 | 0,out,s=>(out,s)
 | k+1,out,s=>if (Ye out s).2≠0 then ([],Ye out s) else yS k (out++[(Zt s).1]) (Ye out s)
def vz(most:Int)(s:RS):List DT×RS:=if max most 0 < (zU s).1 then ([],vg 3 (zU s).2) else yS (zU s).1.toNat [] (zU s).2
theorem Ws{k:Nat}{out:List DT}{s:RS}(h:(Ye out s).2≠0):yS (k+1) out s=([],Ye out s):=if_pos h
theorem XU{k:Nat}{out:List DT}{s:RS}(h:(Ye out s).2=0):yS (k+1) out s=yS k (out++[(Zt s).1]) (Ye out s):=if_neg (by simp[h])
theorem jS{s:RS}(h:Ok s)(out:List DT):Ok (Ye out s):=Qq (x3a h).1 _
theorem uha : ∀ (k:Nat) (out:List DT) (s:RS),Ok s->Ok (yS k out s).2
 | 0,_,_,h=>h
 | k+1,out,s,h=>by
  by_cases c:(Ye out s).2=0
  ·rw[XU c];exact uha k _ _ (jS h out)
  ·rw[Ws c];exact jS h out
theorem ok_dots{s:RS}(h:Ok s)(most:Int):Ok (vz most s).2:=by
 have h1:=N.yv h;unfold vz
 split
 ·exact N.Xx h1.1 _
 ·exact uha _ _ _ h1.1
theorem uia{out:List DT}(h:out.length<=1000000000000)(x:DT)(cmp:DT->DT->M Int)(hc:∀ y,cmp y x=pure (V.wVa y x)) :
  ((cond (decide (0<=IntKind.i64.wrap ((out.length:Int) - 1))) ((idx out (IntKind.i64.wrap ((out.length:Int) - 1))).bind fun x61=>(det (cmp x61 x)).bind fun v63=>pure (decide (0<=v63))) (pure false)):M Bool)=pure (Qs out x):=by
 unfold Qs;rcases R.xm out with rfl | ⟨r,y,rfl⟩
 ·rfl
 ·have hl:((r++[y]).length:Int) - 1=(r.length:Int):=by simp
  rw[hl,uV (by omega) (by simp at h;omega)];have:decide ((0:Int)<=(r.length:Int))=true:=by simp
  rw[this,cond_true,zR (y:=y) (by simp),zA,hc,zB,zA];simp
theorem yza{out:List DT}{s:RS}(h:(Ye out s).2=0):Qs out (Zt s).1=false/\(Zt s).2.2=0/\Ye out s=(Zt s).2:=JE h
theorem x4a{y4:Int×List Int×Int}(hn:0<=y4.1/\y4.1<=18446744073709551615):∀ (k i:Nat) (out:List DT) (s:RS),(i:Int)+k=y4.1->Ok s->s.2=0->out.length+s.1.length<=1000000000 ->
  (loop (wh y4) ((i:Int),out,s.1,s.2)).bind (exk fun⟨out9,v10,v11⟩=>pure (out9,v10,v11))=pure (yS k out s)
 | 0,i,out,s,hi,_,_,_=>by
  rw[zT (r:=.brk (out,s.1,s.2)) (by
   unfold wh;have:decide ((i:Int) < y4.1)=false:=by simp;omega
   simp only[this,cond_false])]
  rfl
 | k+1,i,out,s,hi,hO,h0,hl=>by
  have hd:=x3a hO;have hc:decide ((i:Int) < y4.1)=true:=by simp;omega
  have hlast:=uia (out:=out) (by omega) (Zt s).1 Zy (fun y=>uea y _);have hw:IntKind.u64.wrap ((i:Int)+1)=((i+1:Nat):Int):=by rw[uW (by omega) (by omega)];omega
  have hb:wh y4 ((i:Int),out,s.1,s.2)=(det (zm (Ye out s).1 (Ye out s).2)).bind fun y70=>cond (!decide (y70.1=0)) (pure (.done (.ret ([],y70.2.1,y70.2.2)))) (yk ((out.length+[(Zt s).1].length)*16<=140737488355328) (pure (.next (IntKind.u64.wrap ((i:Int)+1),out++[(Zt s).1],y70.2.1,y70.2.2)))):=by
   unfold wh;have e:=vaa (Qs out (Zt s).1) (Zt s).2;simp only[hc,cond_true,Dot_eq hO,zB,zA];rw[hlast,zA,e,zA]
   rfl
  rw[N.Vx,zB,zA] at hb
  by_cases c:(Ye out s).2=0
  ·obtain⟨_,c2,c3⟩:=yza c;have hlt:=dot_lt hO h0 c2;rw[decide_eq_true c,Bool.not_true,cond_false,zJ (by simp;omega),hw] at hb;rw[zi hb,XU c];exact x4a hn k (i+1) _ (Ye out s) (by omega) (jS hO out) c (by rw[c3];simp;omega)
  ·rw[decide_eq_false c,Bool.not_false,cond_true] at hb;rw[zT hb,Ws c]
   rfl
theorem vda{s:RS}(hO:Ok s){most:Int}(hm:most<=9223372036854775807):uz most s.1 s.2=pure (vz most s):=by
 obtain⟨h1,h2,h3⟩:=N.yv hO;unfold uz vz;rw[N.Yq hO,zB,zA,uW (n:=max most 0) (by omega) (by omega)]
 by_cases c:max most 0 < (zU s).1
 ·rw[decide_eq_true c,cond_true,if_pos c,N.YZ 3 (zU s).2,zB,zA]
 ·rw[decide_eq_false c,cond_false,if_neg c]
  by_cases c2:(zU s).2.2=0
  ·exact x4a (y4:=zU s) ⟨h2,h3⟩ (zU s).1.toNat 0 [] (zU s).2 (by omega) h1 c2 (by simp;have:=h1.len;omega)
  ·have hz:=vQ c2;rw[hz,zT (r:=.brk ([],(zU s).2.1,(zU s).2.2)) (by
    unfold wh;simp only[hz,show decide ((0:Int) < 0)=false from rfl,cond_false])]
   rfl
theorem zqa(hB:OkB B){y7:Int×List Int×Int×Int}(hn:0<=y7.1/\y7.1<=18446744073709551615):∀ (k i:Nat) (out:List DT) (s:RS) (a:Int),(i:Int)+k=y7.1->Ok s->s.2=0->Sim B a s->out.length+s.1.length<=1000000000 ->
  ∃ out' a',loop (xU y7) ((i:Int),out,B,a,s.2)=pure (out',B,a',(yS k out s).2.2)/\Sim B a' (yS k out s).2/\((yS k out s).2.2=0->out'=(yS k out s).1)/\((yS k out s).2.2≠0->(yS k out s).1=[])
 | 0,i,out,s,a,hi,_,h0,hS,_=>by
  refine⟨out,a,zT ?_,hS,fun _=>rfl,fun h=>absurd h0 h⟩;unfold xU;have:decide ((i:Int) < y7.1)=false:=by simp;omega
  simp only[this,cond_false,zA]
  rfl
 | k+1,i,out,s,a,hi,hO,h0,hS,hl=>by
  have hc:decide ((i:Int) < y7.1)=true:=by simp;omega
  obtain⟨a1,e1,s1⟩:=XRa hB hO hS;have hlast:=uia (out:=out) (by omega) (Zt s).1 ZK (fun y=>V.Zs y _);have hle:=dot_le s;have hw:IntKind.u64.wrap ((i:Int)+1)=((i+1:Nat):Int):=by rw[uW (by omega) (by omega)];omega
  have hb:xU y7 ((i:Int),out,B,a,s.2)=pure (.next (((i+1:Nat):Int),out++[(Zt s).1],B,a1,(Ye out s).2)):=by
   unfold xU;have e3:=yxa (Zt s).2.2 _ _ hlast;have e4:=Qr B a1 (decide ((Zt s).2.2=0)&&Qs out (Zt s).1) (Zt s).2;rw[qZ] at e4;simp only[hc,cond_true,decide_eq_true h0,zA,e1,zB];rw[e3,zA,e4,zA];simp only[];rw[zJ (by simp;omega),hw]
   rfl
  have hs2:Sim B a1 (Ye out s):=jQ s1 _;rw[zi hb]
  by_cases c:(Ye out s).2=0
  ·obtain⟨_,c2,c3⟩:=yza c;have hlt:=dot_lt hO h0 c2;rw[XU c];exact zqa hB hn k (i+1) _ (Ye out s) a1 (by omega) (jS hO out) c hs2 (by rw[c3];simp;omega)
  ·rw[Ws c];refine⟨out++[(Zt s).1],a1,zT ?_,hs2,fun h=>absurd h c,fun _=>rfl⟩;unfold xU;have hq:(cond (decide (((i+1:Nat):Int) < y7.1)) (pure (decide ((Ye out s).2=0))) (pure false):M Bool)=pure false:=by
    rw[decide_eq_false c];cases decide (((i+1:Nat):Int) < y7.1) <;> rfl
   simp only[];rw[hq,zA]
   rfl
theorem y0a(hB:OkB B)(hO:Ok s)(h:Sim B a s){most:Int}(hm:most<=9223372036854775807):∃ a',XH most B a s.2=pure ((vz most s).1,B,a',(vz most s).2.2)/\Sim B a' (vz most s).2:=by
 obtain⟨h1,h2,h3⟩:=N.yv hO;obtain⟨a1,e1,s1⟩:=N.uS hB h;unfold XH vz;have hmost:(cond (decide (most < 0)) (pure 0) (pure most):M Int)=pure (max most 0):=by
  by_cases c:most < 0
  ·rw[decide_eq_true c,cond_true];congr 1;omega
  ·rw[decide_eq_false c,cond_false];congr 1;omega
 rw[hmost,zA,e1,zB,zA,uW (n:=max most 0) (by omega) (by omega)];have done:∀ (out:List DT) (a2:Int) (i:Int) (t:RS),t.2≠0->loop (xU ((zU s).1,B,a1,(zU s).2.2)) (i,out,B,a2,t.2)=pure (out,B,a2,t.2):=fun out a2 i t ht=>zT (by
  unfold xU;have hq:(cond (decide (i < (zU s).1)) (pure (decide (t.2=0))) (pure false):M Bool)=pure false:=by
   rw[decide_eq_false ht];cases decide (i < (zU s).1) <;> rfl
  simp only[];rw[hq,zA]
  rfl)
 by_cases c:max most 0 < (zU s).1
 ·have hF:=N.uR B a1 (zU s).2 (e:=3) (by decide);have hb:=N.wY (s:=(zU s).2) (e:=3) (by decide);rw[decide_eq_true c,cond_true,if_pos c,hF,zB,zA,zA];simp only[];rw[done _ _ _ _ hb,zA];simp only[decide_eq_false hb,Bool.not_false,cond_true];exact⟨_,rfl,s1.fail (by decide)⟩
 ·rw[decide_eq_false c,cond_false,if_neg c,zA];simp only[]
  by_cases c2:(zU s).2.2=0
  ·obtain⟨out',a',e2,s2,q1,q2⟩:=zqa hB (y7:=((zU s).1,B,a1,(zU s).2.2)) ⟨h2,h3⟩ (zU s).1.toNat 0 [] (zU s).2 a1 (by simp;omega) h1 c2 s1 (by simp;have:=h1.len;omega);have e2':loop (xU ((zU s).1,B,a1,(zU s).2.2)) (0,[],B,a1,(zU s).2.2)=pure (out',B,a',(yS (zU s).1.toNat [] (zU s).2).2.2):=e2;rw[e2',zA];refine⟨a',?_,s2⟩
   by_cases c3:(yS (zU s).1.toNat [] (zU s).2).2.2=0
   ·simp only[decide_eq_true c3,Bool.not_true,cond_false,q1 c3]
   ·simp only[decide_eq_false c3,Bool.not_false,cond_true,q2 c3]
  ·rw[vQ c2] at *
   rw[done _ _ _ _ c2,zA];simp only[decide_eq_false c2,Bool.not_false,cond_true];exact⟨_,rfl,s1⟩
open N (RS Ok zU yL vg qP OkB Sim)
def ui : Nat->List RN->RS->List RN×RS
 | 0,out,s=>(out,s)
 | k+1,out,s=>
  if (zU (zU s).2).2.2≠0 then (out++[⟨(zU s).1,(zU (zU s).2).1⟩],(zU (zU s).2).2) else ui k (out++[⟨(zU s).1,(zU (zU s).2).1⟩]) (zU (zU s).2).2
def xi(s:RS):PT×RS:=(⟨(yL 65535 s).1,(ui (zU (yL 65535 s).2).1.toNat [] (zU (yL 65535 s).2).2).1⟩,(ui (zU (yL 65535 s).2).1.toNat [] (zU (yL 65535 s).2).2).2)
theorem jT{k:Nat}{out:List RN}{s:RS}(h:(zU (zU s).2).2.2≠0):ui (k+1) out s=(out++[⟨(zU s).1,(zU (zU s).2).1⟩],(zU (zU s).2).2):=if_pos h
theorem Vh{k:Nat}{out:List RN}{s:RS}(h:(zU (zU s).2).2.2=0):ui (k+1) out s=ui k (out++[⟨(zU s).1,(zU (zU s).2).1⟩]) (zU (zU s).2).2:=if_neg (by simp[h])
theorem XSa{s:RS}(hO:Ok s)(h0:s.2=0)(h:(zU (zU s).2).2.2=0):(zU (zU s).2).2.1.length+2<=s.1.length:=by
 have h1:=UA h;have h2:=x2a hO h0 h1;have h3:=x2a (N.yv hO).1 h1 h;omega
theorem two_le(s:RS):(zU (zU s).2).2.1.length<=s.1.length:=Nat.le_trans (jR _) (jR _)
def RunOk(x:RN):Prop:=(0<=x.lo/\x.lo<=18446744073709551615)/\0<=x.hi/\x.hi<=18446744073709551615
theorem uja{s:RS}(h:Ok s):Ok (zU (zU s).2).2/\RunOk ⟨(zU s).1,(zU (zU s).2).1⟩:=by
 obtain⟨h1,h2,h3⟩:=N.yv h;obtain⟨h4,h5,h6⟩:=N.yv h1;exact⟨h4,⟨h2,h3⟩,h5,h6⟩
theorem Qt : ∀ (k:Nat) (out:List RN) (s:RS),Ok s->s.2=0->(∀ x∈out,RunOk x)->Ok (ui k out s).2/\(∀ x∈(ui k out s).1,RunOk x)/\(ui k out s).1.length+(ui k out s).2.1.length<=out.length+s.1.length+1 /\
  ((ui k out s).2.2=0->(ui k out s).1.length+(ui k out s).2.1.length<=out.length+s.1.length/\(ui k out s).1.length=out.length+k)
 | 0,out,s,h,_,ho=>⟨h,ho,by show out.length+s.1.length<=_;omega,fun _=>⟨Nat.le_refl _,rfl⟩⟩
 | k+1,out,s,h,h0,ho=>by
  obtain⟨h1,h2⟩:=uja h;have ho':∀ x∈out++[⟨(zU s).1,(zU (zU s).2).1⟩],RunOk x:=fun x hx=>by
   rcases List.mem_append.1 hx with h | h
   ·exact ho x h
   ·rw[List.mem_singleton.1 h];exact h2
  by_cases c:(zU (zU s).2).2.2=0
  ·rw[Vh c];obtain⟨q1,q2,q3,q4⟩:=Qt k _ _ h1 c ho';have hlt:=XSa h h0 c;simp only[List.length_append,List.length_singleton] at q3 q4;refine⟨q1,q2,by omega,fun hz=>?_⟩;have:=q4 hz;omega
  ·rw[jT c];have:=two_le s;exact⟨h1,ho',by simp;omega,fun hz=>absurd hz c⟩
theorem x5a{y5:Int×List Int×Int}(hn:0<=y5.1/\y5.1<=18446744073709551615):∀ (k i:Nat) (out:List RN) (s:RS),(i:Int)+k=y5.1->Ok s->s.2=0->out.length+s.1.length<=1000000000 ->
  loop (wg y5) ((i:Int),out,s.1,s.2)=pure (ui k out s)
 | 0,i,out,s,hi,_,_,_=>by
  exact zT (by
   unfold wg;have:decide ((i:Int) < y5.1)=false:=by simp;omega
   simp only[this,cond_false]
   rfl)
 | k+1,i,out,s,hi,hO,h0,hl=>by
  obtain⟨h1,h2,h3⟩:=N.yv hO;have hc:decide ((i:Int) < y5.1)=true:=by simp;omega
  have hw:IntKind.u64.wrap ((i:Int)+1)=((i+1:Nat):Int):=by rw[uW (by omega) (by omega)];omega
  have hb:wg y5 ((i:Int),out,s.1,s.2)=cond (!decide ((zU (zU s).2).2.2=0)) (pure (.done (out++[⟨(zU s).1,(zU (zU s).2).1⟩],(zU (zU s).2).2))) (pure (.next (((i+1:Nat):Int),out++[⟨(zU s).1,(zU (zU s).2).1⟩],(zU (zU s).2).2.1,(zU (zU s).2).2.2))):=by
   unfold wg;simp only[hc,cond_true,N.Yq hO,N.Yq h1,zB,zA,N.Vx];rw[zJ (by simp;omega),hw]
  by_cases c:(zU (zU s).2).2.2=0
  ·have hlt:=XSa hO h0 c;rw[decide_eq_true c,Bool.not_true,cond_false] at hb;rw[zi hb,Vh c];exact x5a hn k (i+1) _ (zU (zU s).2).2 (by omega) (uja hO).1 c (by simp;omega)
  ·rw[decide_eq_false c,Bool.not_false,cond_true] at hb;rw[zT hb,jT c]
theorem part_eq{s:RS}(hO:Ok s):Ym s.1 s.2=pure (xi s):=by
 obtain⟨h1,h2,h3⟩:=N.vt hO (m:=65535) (by decide);obtain⟨h4,h5,h6⟩:=N.yv h1;unfold Ym xi;rw[N.yta hO,zB,zA,N.Yq h1,zB,zA,wU16 h2 h3]
 by_cases c:(zU (yL 65535 s).2).2.2=0
 ·have:=x5a (y5:=zU (yL 65535 s).2) ⟨h5,h6⟩ (zU (yL 65535 s).2).1.toNat 0 [] (zU (yL 65535 s).2).2 (by omega) h4 c (by simp;have:=h4.len;omega);rw[show((0:Nat):Int)=0 from rfl] at this;rw[this,zA]
 ·have hz:=vQ c;rw[hz,zT (r:=([],(zU (yL 65535 s).2).2)) (by
   unfold wg;simp only[hz,show decide ((0:Int) < 0)=false from rfl,cond_false]),zA]
  rfl
theorem Vi{s:RS}(hO:Ok s)(h0:s.2=0):Ok (xi s).2/\OkP (xi s).1/\((xi s).1.runs.length<=1000000001)/\((xi s).2.2=0->(xi s).1.runs.length+(xi s).2.1.length+2<=s.1.length):=by
 obtain⟨h1,h2,h3⟩:=N.vt hO (m:=65535) (by decide);obtain⟨h4,h5,h6⟩:=N.yv h1;have hl:=h4.len;unfold xi
 by_cases c:(zU (yL 65535 s).2).2.2=0
 ·obtain⟨q1,q2,q3,q4⟩:=Qt (zU (yL 65535 s).2).1.toNat [] _ h4 c (by simp);refine⟨q1,⟨h2,h3,q2⟩,by simp at q3 ⊢;omega,fun hz=>?_⟩;have hq:=q4 hz;obtain⟨e1,e2⟩:=yya (UA c);have h7:=x2a hO h0 e1;have h8:=x2a h1 (UA c) c;rw[e2] at h8 hq ⊢;simp only[List.length_nil,Nat.zero_add] at hq ⊢;omega
 ·rw[vQ c];refine⟨h4,⟨h2,h3,by intro x hx;cases hx⟩,by simp[ui],fun hz=>absurd hz c⟩
def Wt : Nat->List PT->RS->Bool×List PT×RS
 | 0,out,s=>(true,out,s)
 | k+1,out,s=>if (xi s).2.2≠0 then (false,[],(xi s).2) else Wt k (out++[(xi s).1]) (xi s).2
def uT(s:RS):List PT×RS:=
 let r:=Wt (zU s).1.toNat [] (zU s).2
 if r.1=true then fin [] r.2.1 (Vy (!decide (r.2.1=C.yj r.2.1)) r.2.2) else ([],r.2.2)
theorem jU{k:Nat}{out:List PT}{s:RS}(h:(xi s).2.2≠0):Wt (k+1) out s=(false,[],(xi s).2):=if_pos h
theorem Wu{k:Nat}{out:List PT}{s:RS}(h:(xi s).2.2=0):Wt (k+1) out s=Wt k (out++[(xi s).1]) (xi s).2:=if_neg (by simp[h])
theorem tot_snoc(c:List PT)(p:PT):C.xn (c++[p])=C.xn c+p.runs.length:=by rw[C.qI];simp[C.xn]
theorem XV : ∀ (k:Nat) (out:List PT) (s:RS),Ok s->s.2=0->(∀ p∈out,OkP p)->out.length+C.xn out+s.1.length<=1000000000->Ok (Wt k out s).2.2/\(∀ p∈(Wt k out s).2.1,OkP p)/\(Wt k out s).2.1.length+C.xn (Wt k out s).2.1<=1000000000 /\
  ((Wt k out s).1=true↔(Wt k out s).2.2.2=0)/\((Wt k out s).1=true->(Wt k out s).2.1.length=out.length+k/\(Wt k out s).2.2.1.length<=s.1.length)
 | 0,out,s,h,h0,ho,hl=>⟨h,ho,by show out.length+C.xn out<=_;omega,⟨fun _=>h0,fun _=>rfl⟩,fun _=>⟨rfl,Nat.le_refl _⟩⟩
 | k+1,out,s,h,h0,ho,hl=>by
  obtain⟨h1,h2,h3,h4⟩:=Vi h h0
  by_cases c:(xi s).2.2=0
  ·rw[Wu c];have:=h4 c;obtain⟨q1,q2,q3,q4,q5⟩:=XV k (out++[(xi s).1]) (xi s).2 h1 c (fun p hp=>by
    rcases List.mem_append.1 hp with h | h
    ·exact ho p h
    ·rw[List.mem_singleton.1 h];exact h2) (by rw[tot_snoc];simp;omega)
   refine⟨q1,q2,q3,q4,fun hz=>?_⟩;have:=q5 hz;simp at this;omega
  ·rw[jU c];exact⟨h1,by simp,by simp[C.xn],⟨fun h=>(by cases h),fun h=>absurd h c⟩,fun h=>(by cases h)⟩
theorem uka : ∀ (k:Nat) (out:List PT) (s:RS),(Wt k out s).1=false->(Wt k out s).2.1=[]
 | 0,out,s,h=>by cases h
 | k+1,out,s,h=>by
  by_cases c:(xi s).2.2=0
  ·rw[Wu c] at h ⊢;exact uka k _ _ h
  ·rw[jU c]
theorem ula{y3:Int×List Int×Int}(hn:0<=y3.1/\y3.1<=18446744073709551615):∀ (k i:Nat) (out:List PT) (s:RS),(i:Int)+k=y3.1->Ok s->s.2=0->out.length+s.1.length<=1000000000 ->
  loop (vH y3) ((i:Int),out,s.1,s.2)=pure (if (Wt k out s).1=true then .brk (Wt k out s).2 else .ret (Wt k out s).2)
 | 0,i,out,s,hi,_,_,_=>by
  exact zT (by
   unfold vH;have:decide ((i:Int) < y3.1)=false:=by simp;omega
   simp only[this,cond_false]
   rfl)
 | k+1,i,out,s,hi,hO,h0,hl=>by
  obtain⟨h1,h2,h3,h4⟩:=Vi hO h0;have hc:decide ((i:Int) < y3.1)=true:=by simp;omega
  have hw:IntKind.u64.wrap ((i:Int)+1)=((i+1:Nat):Int):=by rw[uW (by omega) (by omega)];omega
  have hb:vH y3 ((i:Int),out,s.1,s.2)=cond (!decide ((xi s).2.2=0)) (pure (.done (.ret ([],(xi s).2)))) (pure (.next (((i+1:Nat):Int),out++[(xi s).1],(xi s).2.1,(xi s).2.2))):=by
   unfold vH;simp only[hc,cond_true,part_eq hO,zB,zA,N.Vx];rw[zJ (by simp;omega),hw]
  by_cases c:(xi s).2.2=0
  ·have hlt:=h4 c;rw[decide_eq_true c,Bool.not_true,cond_false] at hb;rw[zi hb,Wu c];exact ula hn k (i+1) _ (xi s).2 (by omega) h1 c (by simp;omega)
  ·rw[decide_eq_false c,Bool.not_false,cond_true] at hb;rw[zT hb,jU c]
   rfl
theorem XTa{c:List PT}(h:∀ p∈c,OkP p)(hl:c.length+C.xn c<=1000000000):C.Ok c:=⟨fun p hp=>(h p hp).d0,by omega,by omega⟩
theorem Ctx_eq{s:RS}(hO:Ok s):uc s.1 s.2=pure (uT s):=by
 obtain⟨h1,h2,h3⟩:=N.yv hO;unfold uc uT;rw[N.Yq hO,zB,zA];have good:∀ (c:List PT) (t:RS),C.Ok c->((det (ZX c)).bind fun v37=>cond (!v37) ((det (zX 4 t.1 t.2)).bind fun y40=>pure (([]:List PT),y40.1,y40.2)) (pure (c,t.1,t.2)))=pure (if decide (c=C.yj c)=true then (c,t) else ([],vg 4 t)):=fun c t hc=>by
  rw[C.JA c hc.sm,zB,zA]
  cases decide (c=C.yj c) with
  | true=>rfl
  | false=>rw[Bool.not_false,cond_true,N.YZ,zB,zA];rfl
 by_cases c2:(zU s).2.2=0
 ·have:=ula (y3:=zU s) ⟨h2,h3⟩ (zU s).1.toNat 0 [] (zU s).2 (by omega) h1 c2 (by simp;have:=h1.len;omega);rw[show((0:Nat):Int)=0 from rfl] at this;rw[this,zA];obtain⟨q1,q2,q3,q4,_⟩:=XV (zU s).1.toNat [] (zU s).2 h1 c2 (by simp) (by simp[C.xn];have:=h1.len;omega);have qn:=uka (zU s).1.toNat [] (zU s).2
  generalize Wt (zU s).1.toNat [] (zU s).2=r at *
  obtain⟨b,c,t⟩:=r;simp only[] at *
  cases b with
  | false=>rw[qn rfl];rfl
  | true=>
   have hz:=q4.1 rfl;show((det (ZX c)).bind _)=_;rw[good c t (XTa q2 q3),if_pos rfl]
   cases hg:decide (c=C.yj c) with
   | true=>rw[if_pos rfl,Bool.not_true,XT,Vz hz]
   | false=>rw[if_neg (by simp),Bool.not_false,Yv XOa];rfl
 ·have hz:=vQ c2;rw[hz,zT (r:=.brk ([],(zU s).2)) (by
   unfold vH;simp only[hz,show decide ((0:Int) < 0)=false from rfl,cond_false]),zA]
  show((det (ZX [])).bind _)=pure (if true=true then fin [] [] (Vy (!decide (([]:List PT)=C.yj [])) (zU s).2) else ([],(zU s).2));rw[good [] (zU s).2 C.ok_nil,if_pos rfl];have e:C.yj []=[]:=rfl;rw[e];simp only[decide_true,if_true,Bool.not_true,XT];rw[Yv c2]
theorem ZG{s:RS}(hO:Ok s):Ok (uT s).2/\(∀ p∈(uT s).1,OkP p)/\(uT s).1.length+C.xn (uT s).1<=1000000000/\((uT s).2.2≠0->(uT s).1=[])/\((uT s).2.2=0->(uT s).1=C.yj (uT s).1):=by
 obtain⟨h1,h2,h3⟩:=N.yv hO;unfold uT
 by_cases c2:(zU s).2.2=0
 ·obtain⟨q1,q2,q3,q4,_⟩:=XV (zU s).1.toNat [] (zU s).2 h1 c2 (by simp) (by simp[C.xn];have:=h1.len;omega)
  generalize Wt (zU s).1.toNat [] (zU s).2=r at *
  obtain⟨b,c,t⟩:=r;simp only[] at *
  cases b with
  | false=>exact⟨q1,by simp,by simp[C.xn],fun _=>rfl,fun _=>rfl⟩
  | true=>
   rw[if_pos rfl,Wr];refine⟨Qq q1 _,?_⟩
   by_cases hb:(Vy (!decide (c=C.yj c)) t).2=0
   ·rw[Vz hb];have:=(JE hb).1;exact⟨q2,q3,fun h=>absurd hb h,fun _=>by simpa using this⟩
   ·rw[Yv hb];exact⟨by simp,by simp[C.xn],fun _=>rfl,fun h=>absurd h hb⟩
 ·rw[vQ c2];show Ok (if true=true then fin [] [] (Vy (!decide (([]:List PT)=C.yj [])) (zU s).2) else ([],(zU s).2)).2/\_;have e:C.yj []=[]:=rfl;simp only[Wt,Int.toNat_zero,e,decide_true,Bool.not_true,XT,if_true,Yv c2];exact⟨h1,by simp,by simp[C.xn],fun _=>trivial,fun _=>trivial⟩
variable{B:List Int}{a:Int}{s:RS}
theorem zra(hB:OkB B){y:Int×List Int×Int×Int}(hn:0<=y.1/\y.1<=18446744073709551615):∀ (k i:Nat) (out:List RN) (s:RS) (a:Int),(i:Int)+k=y.1->Ok s->s.2=0->Sim B a s->out.length+s.1.length<=1000000000 ->
  ∃ a',loop (xy y) ((i:Int),out,B,a,s.2)=pure ((ui k out s).1,B,a',(ui k out s).2.2)/\Sim B a' (ui k out s).2
 | 0,i,out,s,a,hi,_,h0,hS,_=>by
  refine⟨a,zT ?_,hS⟩;unfold xy;have:decide ((i:Int) < y.1)=false:=by simp;omega
  simp only[this,cond_false,zA]
  rfl
 | k+1,i,out,s,a,hi,hO,h0,hS,hl=>by
  obtain⟨h1,h2,h3⟩:=N.yv hO;have hc:decide ((i:Int) < y.1)=true:=by simp;omega
  obtain⟨a1,e1,s1⟩:=N.uS hB hS;obtain⟨a2,e2,s2⟩:=N.uS hB s1;have hw:IntKind.u64.wrap ((i:Int)+1)=((i+1:Nat):Int):=by rw[uW (by omega) (by omega)];omega
  have hb:xy y ((i:Int),out,B,a,s.2)=pure (.next (((i+1:Nat):Int),out++[⟨(zU s).1,(zU (zU s).2).1⟩],B,a2,(zU (zU s).2).2.2)):=by
   unfold xy;simp only[hc,cond_true,decide_eq_true h0,zA,e1,zB];rw[zJ (by simp;omega)];simp only[e2,zB,zA];rw[zJ (by simp;omega),hw]
   rfl
  rw[zi hb]
  by_cases c:(zU (zU s).2).2.2=0
  ·have hlt:=XSa hO h0 c;rw[Vh c];exact zra hB hn k (i+1) _ (zU (zU s).2).2 a2 (by omega) (uja hO).1 c s2 (by simp;omega)
  ·rw[jT c];refine⟨a2,zT ?_,s2⟩;unfold xy;have hq:(cond (decide (((i+1:Nat):Int) < y.1)) (pure (decide ((zU (zU s).2).2.2=0))) (pure false):M Bool)=pure false:=by
    rw[decide_eq_false c];cases decide (((i+1:Nat):Int) < y.1) <;> rfl
   simp only[];rw[hq,zA]
   rfl
theorem Zfa{y:Int×List Int×Int×Int}(i a:Int)(out:List RN){e:Int}(he:e≠0):loop (xy y) (i,out,B,a,e)=pure (out,B,a,e):=zT (by
 unfold xy;have hq:(cond (decide (i < y.1)) (pure (decide (e=0))) (pure false):M Bool)=pure false:=by
  rw[decide_eq_false he];cases decide (i < y.1) <;> rfl
 simp only[];rw[hq,zA]
 rfl)
theorem Zga(hB:OkB B)(hO:Ok s)(h0:s.2=0)(hS:Sim B a s)(out:List PT)(ho:out.length<=1000000000) :
  ∃ a',((det (zj 65535 B a s.2)).bind fun y133=>(det (zL y133.2.1 y133.2.2.1 y133.2.2.2)).bind fun y135=>
   (loop (xy y135) (0,([]:List RN),y135.2.1,y135.2.2.1,y135.2.2.2)).bind fun⟨p137,v138,v139,v140⟩=>
   yk ((out.length+List.length ([(⟨(IntKind.u16.wrap y133.1),p137⟩:PT)]))*32<=140737488355328) (pure (out++[(⟨(IntKind.u16.wrap y133.1),p137⟩:PT)],v138,v139,v140)))
   = pure (out++[(xi s).1],B,a',(xi s).2.2)/\Sim B a' (xi s).2:=by
 obtain⟨h1,h2,h3⟩:=N.vt hO (m:=65535) (by decide);obtain⟨h4,h5,h6⟩:=N.yv h1;obtain⟨a1,e1,s1⟩:=N.qQ hB hS 65535;obtain⟨a2,e2,s2⟩:=N.uS hB s1;rw[e1,zB,zA];simp only[e2,zB,zA,wU16 h2 h3];unfold xi
 by_cases c:(zU (yL 65535 s).2).2.2=0
 ·obtain⟨a3,e3,s3⟩:=zra hB (y:=((zU (yL 65535 s).2).1,B,a2,(zU (yL 65535 s).2).2.2)) ⟨h5,h6⟩ (zU (yL 65535 s).2).1.toNat 0 [] (zU (yL 65535 s).2).2 a2 (by simp;omega) h4 c s2 (by simp;have:=h4.len;omega);rw[show((0:Nat):Int)=0 from rfl] at e3;rw[e3,zA];simp only[];rw[zJ (by simp;omega)];exact⟨a3,rfl,s3⟩
 ·rw[vQ c,Zfa _ _ _ c,zA];simp only[];rw[zJ (by simp;omega)];exact⟨a2,rfl,s2⟩
theorem x6a(hB:OkB B){y:Int×List Int×Int×Int}(hn:0<=y.1/\y.1<=18446744073709551615):∀ (k i:Nat) (out:List PT) (s:RS) (a:Int),(i:Int)+k=y.1->Ok s->s.2=0->Sim B a s->out.length+s.1.length<=1000000000 ->
  ∃ out' a',loop (wk y) ((i:Int),out,B,a,s.2)=pure (out',B,a',(Wt k out s).2.2.2)/\Sim B a' (Wt k out s).2.2/\((Wt k out s).1=true->out'=(Wt k out s).2.1)
 | 0,i,out,s,a,hi,_,h0,hS,_=>by
  refine⟨out,a,zT ?_,hS,fun _=>rfl⟩;unfold wk;have:decide ((i:Int) < y.1)=false:=by simp;omega
  simp only[this,cond_false,zA]
  rfl
 | k+1,i,out,s,a,hi,hO,h0,hS,hl=>by
  obtain⟨h1,h2,h3,h4⟩:=Vi hO h0;have hc:decide ((i:Int) < y.1)=true:=by simp;omega
  obtain⟨a1,e1,s1⟩:=Zga hB hO h0 hS out (by omega);have hw:IntKind.u64.wrap ((i:Int)+1)=((i+1:Nat):Int):=by rw[uW (by omega) (by omega)];omega
  have hb:wk y ((i:Int),out,B,a,s.2)=pure (.next (((i+1:Nat):Int),out++[(xi s).1],B,a1,(xi s).2.2)):=by
   unfold wk;simp only[hc,cond_true,decide_eq_true h0,zA];rw[e1,zA,hw]
  rw[zi hb]
  by_cases c:(xi s).2.2=0
  ·have hlt:=h4 c;rw[Wu c];exact x6a hB hn k (i+1) _ (xi s).2 a1 (by omega) h1 c s1 (by simp;omega)
  ·rw[jU c];refine⟨out++[(xi s).1],a1,zT ?_,s1,fun h=>by cases h⟩;unfold wk;have hq:(cond (decide (((i+1:Nat):Int) < y.1)) (pure (decide ((xi s).2.2=0))) (pure false):M Bool)=pure false:=by
    rw[decide_eq_false c];cases decide (((i+1:Nat):Int) < y.1) <;> rfl
   simp only[];rw[hq,zA]
   rfl
theorem XUa(hB:OkB B)(hO:Ok s)(h:Sim B a s):∃ a',Wg B a s.2=pure ((uT s).1,B,a',(uT s).2.2)/\Sim B a' (uT s).2:=by
 obtain⟨h1,h2,h3⟩:=N.yv hO;obtain⟨a1,e1,s1⟩:=N.uS hB h;unfold Wg uT;rw[e1,zB,zA]
 by_cases c2:(zU s).2.2=0
 ·obtain⟨out',a2,e2,s2,q⟩:=x6a hB (y:=((zU s).1,B,a1,(zU s).2.2)) ⟨h2,h3⟩ (zU s).1.toNat 0 [] (zU s).2 a1 (by simp;omega) h1 c2 s1 (by simp;have:=h1.len;omega);rw[show((0:Nat):Int)=0 from rfl] at e2;simp only[];rw[e2,zA];obtain⟨q1,q2,q3,q4,_⟩:=XV (zU s).1.toNat [] (zU s).2 h1 c2 (by simp) (by simp[C.xn];have:=h1.len;omega)
  generalize Wt (zU s).1.toNat [] (zU s).2=r at *
  obtain⟨b,c,t⟩:=r;simp only[] at *
  cases b with
  | false=>
   have hz:t.2≠0:=fun h=>by have:=q4.2 h;cases this
   simp only[decide_eq_false hz,cond_false,zA,Bool.not_false,cond_true,Bool.false_eq_true,if_false];exact⟨a2,rfl,s2⟩
  | true=>
   have hz:=q4.1 rfl;have e:=q rfl;subst e;have e4:=Qr B a2 (!decide (out'=C.yj out')) t;simp only[decide_eq_true hz,cond_true,C.Vc out' (XTa q2 q3),zB,zA,if_true];rw[e4,zA,Wr];refine⟨a2,?_,jQ s2 _⟩;simp only[]
   by_cases hb:(Vy (!decide (out'=C.yj out')) t).2=0
   ·rw[Vz hb,decide_eq_true hb];rfl
   ·rw[Yv hb,decide_eq_false hb];rfl
 ·have hst:loop (wk ((zU s).1,B,a1,(zU s).2.2)) (0,[],B,a1,(zU s).2.2)=pure ([],B,a1,(zU s).2.2):=zT (by
   unfold wk;have hq:(cond (decide ((0:Int) < (zU s).1)) (pure (decide ((zU s).2.2=0))) (pure false):M Bool)=pure false:=by
    rw[decide_eq_false c2];cases decide ((0:Int) < (zU s).1) <;> rfl
   simp only[];rw[hq,zA]
   rfl)
  simp only[];rw[hst,zA,vQ c2];have e:C.yj []=[]:=rfl;simp only[decide_eq_false c2,cond_false,zA,Bool.not_false,cond_true,Wt,Int.toNat_zero,e,decide_true,Bool.not_true,XT,if_true,Yv c2];exact⟨a1,rfl,s1⟩
open N (RS Ok zU yL vg qP OkB Sim)
def Wv : List DT->Bool
 | []=>true
 | x::r=>(match r with | []=>true | y::_=>zr x y)&&Wv r
theorem uma : ∀ {l:List DT},Wv l=true↔Srt l
 | []=>⟨fun _=>List.Pairwise.nil,fun _=>rfl⟩
 | [x]=>⟨fun _=>by simp[Srt],fun _=>rfl⟩
 | x::y::r=>by
  show(zr x y&&Wv (y::r))=true↔_;rw[Bool.and_eq_true,uma (l:=y::r)];unfold Srt;rw[List.pairwise_cons (a:=x)]
  constructor
  ·rintro⟨h1,h2⟩;refine⟨fun z hz=>?_,h2⟩;rcases List.mem_cons.1 hz with rfl | hz
   ·exact h1
   ·exact Vf h1 ((List.pairwise_cons.1 h2).1 z hz)
  ·rintro⟨h1,h2⟩;exact⟨h1 y (by simp),h2⟩
theorem una(x y:DT):decide (0<=V.wVa x y)=!zr x y:=by
 by_cases h:zr x y=true
 ·have:=V.qG.2 h;rw[h];simp;omega
 ·have h2:¬ V.wVa x y < 0:=fun e=>h (V.qG.1 e)
  simp only[Bool.not_eq_true] at h;rw[h];simp;omega
theorem Zha(l:List DT)(hl:l.length<=1000000000000):VR l=pure (Wv l):=by
 unfold VR;have key:∀ (k i:Nat) (x:DT) (r:List DT),i+k=l.length->l.drop i=r->i≠0->l[i - 1]?=some x->loop (vf l) (i:Int)=pure (if Wv (x::r)=true then .brk () else .ret false):=by
  intro k
  induction k with
  | zero=>
   intro i x r hi hr h1 hx;have:r=[]:=by rw[<- hr];exact List.drop_eq_nil_of_le (by omega)
   subst this;exact zT (by
    unfold vf;have:decide ((i:Int) < (l.length:Int))=false:=by simp;omega
    simp only[this,cond_false];rfl)
  | succ k ih=>
   intro i x r hi hr h1 hx;have hlt:i < l.length:=by omega
   have hr2:r=l[i]::l.drop (i+1):=by rw[<- hr];exact List.drop_eq_getElem_cons hlt
   have hy:=List.getElem?_eq_getElem hlt;have hi1:idx l (IntKind.i64.wrap ((i:Int) - 1))=pure x:=by
    rw[uV (by omega) (by omega)];exact Yz (by omega) (by rw[show((i:Int) - 1).toNat=i - 1 by omega];exact hx)
   have hb:vf l (i:Int)=cond (!zr x l[i]) (pure (.done (.ret false))) (pure (.next ((i+1:Nat):Int))):=by
    unfold vf;have:decide ((i:Int) < (l.length:Int))=true:=by simp;omega
    simp only[this,cond_true,hi1,zR hy,zA,V.Zs,zB,una,yM (show i < 9223372036854775807 by omega)]
   rw[hr2];show _=(pure (if (zr x l[i]&&Wv (l[i]::l.drop (i+1)))=true then Ex.brk () else Ex.ret false):M (Ex Unit Bool))
   cases c:zr x l[i] with
   | true=>
    rw[c] at hb;rw[zi hb,Bool.true_and];exact ih (i+1) l[i] _ (by omega) rfl (by omega) hy
   | false=>
    rw[c] at hb;rw[zT hb];rfl
 cases l with
 | nil=>
  rw[zT (r:=.brk ()) (by unfold vf;rfl)];rfl
 | cons x r=>
  have:=key r.length 1 x r (by simp;omega) rfl (by decide) rfl;rw[show((1:Nat):Int)=1 from rfl] at this;rw[this,zA]
  cases Wv (x::r) <;> rfl
theorem vea{v:Int}(h0:0<=v)(h:v<=18446744073709551615)(r:List Int):zU (N.xe v++r,0)=(v,(r,0)):=by
 have e:=N.rdN_enc h0 h r;unfold zU;simp only[e,ne_eq,not_true_eq_false,if_false,List.drop_left]
theorem upto_enc{v m:Int}(h0:0<=v)(h:v<=m)(hm:m<=18446744073709551615)(r:List Int):yL m (N.xe v++r,0)=(v,(r,0)):=by
 unfold yL;rw[vea h0 (by omega) r];exact if_neg (by simp;omega)
theorem x7a{l:List DT}(hs:Srt l)(h:∀ d∈l,V.xA d=true):vE (uG l)=l:=by
 have e:uG l=l:=List.filter_eq_self.2 h;rw[e];exact XKa hs
open N (RS Ok zU yL vg qP OkB Sim)
theorem uj{s:RS}(hO:Ok s)(h:(zU s).2.2=0):s.1=N.xe (zU s).1++(zU s).2.1:=by
 have h0:=UA h;unfold zU at h ⊢;rw[if_neg (by simp[h0])] at h ⊢
 by_cases c:(N.rdN s.1).2.2=0
 ·rw[if_neg (by simp[c])];exact N.rdN_one hO.by_ c
 ·rw[if_pos c] at h;exact absurd h (N.wY c)
theorem y1a{s:RS}(hO:Ok s){m:Int}(h:(yL m s).2.2=0):s.1=N.xe (yL m s).1++(yL m s).2.1:=by
 obtain⟨h1,h2⟩:=yya h;rw[h2];exact uj hO h1
theorem XVa{s:RS}(hO:Ok s)(h:(Zt s).2.2=0):s.1=encD (Zt s).1++(Zt s).2.1:=by
 obtain⟨_,h1,h2,h3⟩:=uga h;have e1:=y1a hO h1;have e2:=uj (N.vt hO (m:=65535) (by decide)).1 h2;rw[h3];show s.1=(N.xe (yL 65535 s).1++N.xe (zU (yL 65535 s).2).1)++_;rw[List.append_assoc,<- e2];exact e1
theorem x8a : ∀ (k:Nat) (out:List DT) (s:RS),Ok s->s.2=0->Srt out->(∀ d∈out,V.xA d=true)->(yS k out s).2.2=0->∃ l,(yS k out s).1=out++l/\l.length=k/\s.1=l.flatMap encD++(yS k out s).2.1/\Srt (out++l)/\(∀ d∈out++l,V.xA d=true)/\∀ d∈l,OkD d
 | 0,out,s,_,_,hs,hg,_=>⟨[],by simp[yS],rfl,by simp[yS],by simpa using hs,by simpa using hg,by simp⟩
 | k+1,out,s,hO,h0,hs,hg,h=>by
  by_cases c:(Ye out s).2=0
  ·obtain⟨c1,c2,c3⟩:=yza c;rw[XU c] at h ⊢;have hgd:=(uga c2).1;have hs2:Srt (out++[(Zt s).1]):=by
    unfold Srt;rw[List.pairwise_append];refine⟨hs,by simp,fun a ha b hb=>?_⟩;rw[List.mem_singleton.1 hb];rcases R.xm out with rfl | ⟨q,y,rfl⟩
    ·simp at ha
    ·have hy:zr y (Zt s).1=true:=by
      unfold Qs at c1;simp only[List.getLast?_append,List.getLast?_singleton,Option.some_or,una] at c1;simpa using c1
     rcases List.mem_append.1 ha with h5 | h5
     ·exact Vf ((List.pairwise_append.1 hs).2.2 a h5 y (by simp)) hy
     ·rw[List.mem_singleton.1 h5];exact hy
   obtain⟨l,e1,e2,e3,e4,e5,e6⟩:=x8a k _ _ (jS hO out) c hs2 (fun d hd=>by
    rcases List.mem_append.1 hd with h5 | h5
    ·exact hg d h5
    ·rw[List.mem_singleton.1 h5];exact hgd) h
   refine⟨(Zt s).1::l,by rw[e1];simp,by simp[e2],?_,by simpa using e4,by simpa using e5,fun d hd=>?_⟩
   ·rw[List.flatMap_cons,List.append_assoc,<- e3,c3];exact XVa hO c2
   ·rcases List.mem_cons.1 hd with rfl | h5
    ·exact(x3a hO).2.1
    ·exact e6 d h5
  ·rw[Ws c] at h;exact absurd h c
theorem uoa{s:RS}(hO:Ok s){most:Int}(h:(vz most s).2.2=0):s.1=Ja (vz most s).1++(vz most s).2.1/\Srt (vz most s).1/\(∀ d∈(vz most s).1,V.xA d=true/\OkD d)/\((vz most s).1.length:Int)<=max most 0:=by
 obtain⟨h1,h2,h3⟩:=N.yv hO;unfold vz at h ⊢
 by_cases c:max most 0 < (zU s).1
 ·rw[if_pos c] at h;exact absurd h (N.wY (by decide))
 ·rw[if_neg c] at h ⊢;have c2:(zU s).2.2=0:=Classical.byContradiction fun c2=>by
   rw[vQ c2] at h;exact c2 h
  obtain⟨l,e1,e2,e3,e4,e5,e6⟩:=x8a _ [] _ h1 c2 List.Pairwise.nil (by simp) h;rw[List.nil_append] at e1 e4 e5;rw[e1];refine⟨?_,e4,fun d hd=>⟨e5 d hd,e6 d hd⟩,by omega⟩;rw[Ja,x7a e4 e5,List.append_assoc,<- e3,e2,Int.toNat_of_nonneg h2];exact uj hO c2
theorem dots_bad{s:RS}{most:Int}(h:(vz most s).2.2≠0):(vz most s).1=[]:=by
 have hL:∀ (k:Nat) (out:List DT) (s:RS),s.2=0\/out=[]->(yS k out s).2.2≠0->(yS k out s).1=[]:=by
  intro k
  induction k with
  | zero=>
   intro out s h1 h2;rcases h1 with h1 | h1
   ·exact absurd h1 h2
   ·exact h1
  | succ k ih=>
   intro out s _ h2
   by_cases c:(Ye out s).2=0
   ·rw[XU c] at h2 ⊢;exact ih _ _ (.inl c) h2
   ·rw[Ws c]
 unfold vz at h ⊢
 split at h
 ·rename_i c;rw[if_pos c]
 ·rename_i c;rw[if_neg c];exact hL _ _ _ (.inr rfl) h
theorem x9a : ∀ (k:Nat) (out:List RN) (s:RS),Ok s->(ui k out s).2.2=0->∃ l,(ui k out s).1=out++l/\l.length=k/\s.1=l.flatMap zGa++(ui k out s).2.1
 | 0,out,s,_,_=>⟨[],by simp[ui],rfl,by simp[ui]⟩
 | k+1,out,s,hO,h=>by
  by_cases c:(zU (zU s).2).2.2=0
  ·rw[Vh c] at h ⊢;obtain⟨l,e1,e2,e3⟩:=x9a k _ _ (uja hO).1 h;refine⟨⟨(zU s).1,(zU (zU s).2).1⟩::l,by rw[e1];simp,by simp[e2],?_⟩;rw[List.flatMap_cons,List.append_assoc,<- e3,zGa,List.append_assoc,<- uj (N.yv hO).1 c];exact uj hO (UA c)
  ·rw[jT c] at h;exact absurd h c
theorem part_inv{s:RS}(hO:Ok s)(h:(xi s).2.2=0):s.1=Zda (xi s).1++(xi s).2.1:=by
 obtain⟨h1,h2,h3⟩:=N.vt hO (m:=65535) (by decide);obtain⟨h4,h5,h6⟩:=N.yv h1;unfold xi at h ⊢;have c:(zU (yL 65535 s).2).2.2=0:=Classical.byContradiction fun c=>by rw[vQ c] at h;exact c h
 obtain⟨l,e1,e2,e3⟩:=x9a _ [] _ h4 h;rw[List.nil_append] at e1;show s.1=(N.xe (yL 65535 s).1++(N.xe ((ui (zU (yL 65535 s).2).1.toNat [] (zU (yL 65535 s).2).2).1.length:Int)++(ui (zU (yL 65535 s).2).1.toNat [] (zU (yL 65535 s).2).2).1.flatMap zGa))++(ui (zU (yL 65535 s).2).1.toNat [] (zU (yL 65535 s).2).2).2.1;rw[e1,List.append_assoc,List.append_assoc,<- e3,e2,Int.toNat_of_nonneg h5,<- uj h1 c];exact y1a hO (UA c)
theorem upa : ∀ (k:Nat) (out:List PT) (s:RS),Ok s->s.2=0->(Wt k out s).1=true->∃ l,(Wt k out s).2.1=out++l/\l.length=k/\s.1=l.flatMap Zda++(Wt k out s).2.2.1
 | 0,out,s,_,_,_=>⟨[],by simp[Wt],rfl,by simp[Wt]⟩
 | k+1,out,s,hO,h0,h=>by
  by_cases c:(xi s).2.2=0
  ·rw[Wu c] at h ⊢;obtain⟨l,e1,e2,e3⟩:=upa k _ _ (Vi hO h0).1 c h;refine⟨(xi s).1::l,by rw[e1];simp,by simp[e2],?_⟩;rw[List.flatMap_cons,List.append_assoc,<- e3];exact part_inv hO c
  ·rw[jU c] at h;cases h
theorem XWa{s:RS}(hO:Ok s)(h:(uT s).2.2=0):s.1=JX (uT s).1++(uT s).2.1:=by
 have hn:=(ZG hO).2.2.2.2 h;obtain⟨h1,h2,h3⟩:=N.yv hO;rw[JX,<- hn];unfold uT at h ⊢;have c:(zU s).2.2=0:=Classical.byContradiction fun c=>by
  have hz:=vQ c;have e:C.yj []=[]:=rfl;simp only[hz,Wt,Int.toNat_zero,e,decide_true,Bool.not_true,XT,if_true,Wr] at h;exact c h
 have hi:=upa (zU s).1.toNat [] (zU s).2 h1 c;obtain⟨q1,q2,q3,q4,_⟩:=XV (zU s).1.toNat [] (zU s).2 h1 c (by simp) (by simp[C.xn];have:=h1.len;omega)
 generalize Wt (zU s).1.toNat [] (zU s).2=r at *
 obtain⟨b,x,t⟩:=r;simp only[] at *
 cases b with
 | false=>
  have hz:t.2=0:=h;have:=q4.2 hz;cases this
 | true=>
  rw[if_pos rfl] at h ⊢;rw[Wr] at h;rw[Vz h,(JE h).2.2];obtain⟨l,e1,e2,e3⟩:=hi rfl;rw[List.nil_append] at e1;subst e1;show s.1=(N.xe (x.length:Int)++x.flatMap Zda)++t.1;rw[List.append_assoc,<- e3,e2,Int.toNat_of_nonneg h2];exact uj hO c
theorem end_ok{s:RS}(h:(qP s).1=0):s.1=[]/\s.2=0:=by
 unfold qP at h
 by_cases c:0 < s.1.length
 ·simp only[if_pos c] at h;exact absurd h (N.wY (by decide))
 ·simp only[if_neg c] at h;exact⟨List.eq_nil_of_length_eq_zero (by omega),h⟩
end Go.Ep.M.D
namespace Go.Ep.M.E
open Go
theorem vZ(s:ByteArray):(xW s).length=s.size:=by simp[xW]
theorem wAa(l:List Int):(wha l).data.toList=l.map fun n=>UInt8.ofNat n.toNat:=by
 have key:∀ (l:List Int) (r:ByteArray),(l.foldl (fun r n=>r.push (UInt8.ofNat n.toNat)) r).data.toList=r.data.toList++l.map fun n=>UInt8.ofNat n.toNat:=by
  intro l
  induction l with
  | nil=>intro r;simp
  | cons x t ih=>intro r;rw[List.foldl_cons,ih];simp
 have:=key l ByteArray.empty;simpa[wha] using this
theorem Zia{l:List Int}(h:N.By l):xW (wha l)=l:=by
 rw[xW,wAa,List.map_map];apply List.ext_getElem?;intro i;rw[List.getElem?_map]
 cases hx:l[i]? with
 | none=>rfl
 | some x=>
  have:=h x (List.mem_of_getElem? hx);simp only[Option.map_some,Function.comp_apply,UInt8.toNat_ofNat']
  congr 1;omega
theorem Qu(l:List Int):(wha l).size=l.length:=by
 have:=congrArg List.length (wAa l);simpa using this
def cidD(v:Int):DT:=⟨v / 281474976710656,v % 281474976710656⟩
theorem band48{v:Int}(h0:0<=v)(h:v<=18446744073709551615):bAnd .u64 v 281474976710655=v % 281474976710656:=by
 obtain⟨n,rfl⟩:=Int.eq_ofNat_of_zero_le h0;unfold bAnd;have bv:∀ q:Nat,q < 18446744073709551616->(BitVec.ofInt IntKind.u64.bits (q:Int)).toNat=q:=fun q hq=>by
  show(BitVec.ofInt 64 (q:Int)).toNat=q;rw[BitVec.toNat_ofInt];omega
 have e:(281474976710655:Int)=((281474976710655:Nat):Int):=rfl;rw[e,BitVec.toNat_and,bv n (by omega),bv _ (by decide)];have h2:n &&& 281474976710655=n % 281474976710656:=Nat.and_two_pow_sub_one_eq_mod n 48;rw[h2,uW (by omega) (by omega)];omega
theorem Split_eq{v:Int}(h0:0<=v)(h:v<=18446744073709551615):Xe v=pure ((cidD v).dev,(cidD v).n):=by
 unfold Xe cidD;have e:(2 ^ 48:Int)=281474976710656:=rfl;rw[band48 h0 h,Int.fdiv_eq_ediv_of_nonneg _ (by decide),e,wU16 (by omega) (by omega)]
theorem XXa{v:Int}(h0:0<=v)(h:v<=18446744073709551615):Uv v=pure ((cidD v).dev,(cidD v).n):=by
 unfold Uv cidD;rw[Int.tdiv_eq_ediv_of_nonneg h0,Int.tmod_eq_emod_of_nonneg h0,uW (by omega) (by omega),wU16 (by omega) (by omega)]
def Qv(v:Int):Bool:=V.xA (cidD v)
theorem XYa{v:Int}(h0:0<=v)(h:v<=18446744073709551615):Wz v=pure (if Qv v=true then cidD v else ⟨0,0⟩,Qv v):=by
 unfold Wz;rw[Split_eq h0 h,zB,zA,V.YS,zB,zA];show cond (!Qv v) _ _=_
 cases Qv v <;> rfl
theorem Zja{v:Int}(h0:0<=v)(h:v<=18446744073709551615):VQ v=pure (if Qv v=true then cidD v else ⟨0,0⟩,Qv v):=by
 unfold VQ;rw[XXa h0 h,zB,zA,V.ue,zB,zA];show cond (!Qv v) _ _=_
 cases Qv v <;> rfl
def vfa(f:Int):Bool:=decide (1<=f)&&decide (f<=5)
theorem Field_eq(f:Int):VA f=pure (vfa f):=by unfold VA vfa;rw[yP];rfl
theorem XZa(f:Int):Js f=pure (vfa f):=by unfold Js vfa;rw[yP];rfl
def okB(x:Int):Bool:=decide (32<=x)&&decide (x<=126)
def wBa(s:ByteArray):Bool:=decide (s.size<=60)&&(xW s).all okB
theorem UU{α:Type}(l:List α)(p:α->Bool):(l.zipIdx.all fun y=>p y.1)=l.all p:=by
 rw[Bool.eq_iff_iff,List.all_eq_true,List.all_eq_true]
 constructor
 ·intro h x hx;obtain⟨i,hi⟩:=List.getElem?_of_mem hx;exact h (x,i) (by rw[List.mk_mem_zipIdx_iff_getElem?];exact hi)
 ·intro h y hy;exact h y.1 (List.fst_mem_of_mem_zipIdx hy)
theorem okB_eq(x:Int)(f:M Bool)(hf:f=pure (decide (126 < x))):(cond (decide (x < 32)) (pure true) f:M Bool)=pure (!okB x):=by
 rw[hf];unfold okB
 by_cases h1:x < 32
 ·have:¬ 32<=x:=by omega
  simp[h1,this]
 ·have:32<=x:=by omega
  by_cases h2:126 < x
  ·have:¬ x<=126:=by omega
   simp[h1,h2,this]
  ·have:x<=126:=by omega
   simp[h1,h2, *]
theorem Xaa(s:ByteArray)(hs:s.size<=1000000000000):loop (uI s) 0=pure (if (xW s).all okB=true then Ex.brk () else Ex.ret false):=by
 have:=vq (body:=uI s) (xW s) (fun i=>(i:Int)) (fun _ x=>okB x) (Ex.brk ()) (Ex.ret false) (fun i x hx hi=>by
  have hd:decide ((i:Int) < (s.size:Int))=true:=by rw[<- vZ];simpa using hi
  have hi2:i < s.size:=by rw[<- vZ];exact hi
  unfold uI;simp only[hd,cond_true,zR hx,zA,okB_eq x _ rfl,yM (show i < 9223372036854775807 by omega)]
  cases okB x <;> rfl) (by
  unfold uI;simp[vZ])
 rw[show(0:Int)=((0:Nat):Int) from rfl,this,UU]
theorem Zka(s:ByteArray)(hs:s.size<=1000000000000):loop (YD s) 0=pure (if (xW s).all okB=true then Ex.brk () else Ex.ret false):=by
 have:=vq (body:=YD s) (xW s) (fun i=>(i:Int)) (fun _ x=>okB x) (Ex.brk ()) (Ex.ret false) (fun i x hx hi=>by
  have hd:decide ((i:Int) < (s.size:Int))=true:=by rw[<- vZ];simpa using hi
  have hi2:i < s.size:=by rw[<- vZ];exact hi
  unfold YD;simp only[hd,cond_true,zR hx,zA,okB_eq x _ rfl,yM (show i < 9223372036854775807 by omega)]
  cases okB x <;> rfl) (by
  unfold YD;simp[vZ])
 rw[show(0:Int)=((0:Nat):Int) from rfl,this,UU]
theorem vTa(s:ByteArray)(hs:s.size<=1000000000000):VB s=pure (wBa s):=by
 unfold VB wBa;rw[Xaa s hs]
 by_cases h:s.size<=60
 ·have:decide ((60:Int) < (s.size:Int))=false:=by simp;omega
  rw[this,cond_false,zA,decide_eq_true h,Bool.true_and]
  cases (xW s).all okB <;> rfl
 ·have:decide ((60:Int) < (s.size:Int))=true:=by simp;omega
  rw[this,cond_true,decide_eq_false h,Bool.false_and]
theorem rText_eq(s:ByteArray)(hs:s.size<=1000000000000):Jt s=pure (wBa s):=by
 unfold Jt wBa;rw[Zka s hs,zA]
 cases (xW s).all okB with
 | false=>rw[Bool.and_false];rfl
 | true=>
  rw[if_pos rfl,ZH,Bool.and_true]
  congr 1
  by_cases h:s.size<=60
  ·rw[decide_eq_true h];simp;omega
  ·rw[decide_eq_false h];simp;omega
structure OkE(e:EV):Prop where
 dot:D.OkD e.dot
 kind:0<=e.kind/\e.kind<=255
 cid:0<=e.cid/\e.cid<=18446744073709551615
 field:0<=e.field/\e.field<=255
 text:e.text.size<=1000000000
 kills:∀ d∈e.kills,D.OkD d
 klen:e.kills.length<=1000000000
def uqa(s:ByteArray):Bool:=decide (s=⟨#[]⟩)
def Xba(e:EV):Bool:=(decide (e.kind=1)&&(vfa e.field&&wBa e.text))||(decide (e.kind=2)&&(decide (e.field=0)&&uqa e.text))
def vga(e:EV):Bool:=decide (e.kills.length<=256)&&(D.Wv e.kills&&e.kills.all fun d=>V.xA d&&!decide (d=e.dot))
def yy(e:EV):Bool:=(Qv e.cid&&V.xA e.dot)&&(Xba e&&vga e)
theorem Xca(l:List DT)(hl:l.length<=1000000000000):VC l=pure (D.Wv l):=by
 unfold VC;have key:∀ (k i:Nat) (x:DT) (r:List DT),i+k=l.length->l.drop i=r->i≠0->l[i - 1]?=some x->loop (xq l) (i:Int)=pure (if D.Wv (x::r)=true then Ex.brk () else Ex.ret false):=by
  intro k
  induction k with
  | zero=>
   intro i x r hi hr h1 hx;have:r=[]:=by rw[<- hr];exact List.drop_eq_nil_of_le (by omega)
   subst this;exact zT (by
    unfold xq;have:decide ((i:Int) < (l.length:Int))=false:=by simp;omega
    simp only[this,cond_false];rfl)
  | succ k ih=>
   intro i x r hi hr h1 hx;have hlt:i < l.length:=by omega
   have hr2:r=l[i]::l.drop (i+1):=by rw[<- hr];exact List.drop_eq_getElem_cons hlt
   have hy:=List.getElem?_eq_getElem hlt;have hi1:idx l (IntKind.i64.wrap ((i:Int) - 1))=pure x:=by
    rw[uV (by omega) (by omega)];exact Yz (by omega) (by rw[show((i:Int) - 1).toNat=i - 1 by omega];exact hx)
   have hb:xq l (i:Int)=cond (!zr x l[i]) (pure (.done (.ret false))) (pure (.next ((i+1:Nat):Int))):=by
    unfold xq;have h2:decide ((i:Int) < (l.length:Int))=true:=by simp;omega
    have h3:decide ((0:Int) < (i:Int))=true:=by simp;omega
    simp only[h2,h3,cond_true,hi1,zR hy,zA,D.uea,zB,D.una,yM (show i < 9223372036854775807 by omega)]
   rw[hr2];show _=(pure (if (zr x l[i]&&D.Wv (l[i]::l.drop (i+1)))=true then Ex.brk () else Ex.ret false):M (Ex Unit Bool))
   cases c:zr x l[i] with
   | true=>
    rw[c] at hb;rw[zi hb,Bool.true_and];exact ih (i+1) l[i] _ (by omega) rfl (by omega) hy
   | false=>
    rw[c] at hb;rw[zT hb];rfl
 cases l with
 | nil=>
  rw[zT (r:=Ex.brk ()) (by unfold xq;rfl)];rfl
 | cons x r=>
  have h0:xq (x::r) 0=pure (.next 1):=by
   unfold xq;have h2:decide ((0:Int) < ((x::r).length:Int))=true:=decide_eq_true (by rw[List.length_cons];omega);simp only[h2,cond_true,show decide ((0:Int) < 0)=false from rfl,cond_false,zA];rw[uV (by omega) (by omega)]
   rfl
  have:=key r.length 1 x r (by simp;omega) rfl (by decide) rfl;rw[show((1:Nat):Int)=1 from rfl] at this;rw[zi h0,this,zA]
  cases D.Wv (x::r) <;> rfl
theorem Zla(e:EV)(hl:e.kills.length<=1000000000000):loop (uJ e) 0=pure (if (e.kills.all fun d=>V.xA d&&!decide (d=e.dot))=true then Ex.brk () else Ex.ret false):=by
 have:=vq (body:=uJ e) e.kills (fun i=>(i:Int)) (fun _ d=>V.xA d&&!decide (d=e.dot)) (Ex.brk ()) (Ex.ret false) (fun i x hx hi=>by
  have hd:decide ((i:Int) < (e.kills.length:Int))=true:=by simpa using hi
  unfold uJ;simp only[hd,cond_true,zR hx,zA,V.YS,zB,D.vWa,yM (show i < 9223372036854775807 by omega)]
  cases V.xA x <;> cases decide (x=e.dot) <;> rfl) (by
  unfold uJ;simp)
 rw[show(0:Int)=((0:Nat):Int) from rfl,this,UU e.kills fun d=>V.xA d&&!decide (d=e.dot)]
theorem JA{e:EV}(h:OkE e):Zp e=pure (yy e):=by
 have hk:=h.klen;have ht:=h.text;unfold Zp yy;rw[XYa h.cid.1 h.cid.2,zB,zA,V.YS,zB,zA,Zla e (by omega),Xca e.kills (by omega),Field_eq,vTa e.text (by omega)];simp only[]
 cases Qv e.cid with
 | false=>rfl
 | true=>
  cases V.xA e.dot with
  | false=>rfl
  | true=>
   have hl:decide ((256:Int) < (e.kills.length:Int))=!decide (e.kills.length<=256):=by
    by_cases c:e.kills.length<=256
    ·rw[decide_eq_true c];simp;omega
    ·rw[decide_eq_false c];simp;omega
   have tail:(cond (decide ((256:Int) < (e.kills.length:Int))) (pure true) ((det (pure (D.Wv e.kills))).bind fun v23=>pure (!v23))).bind (fun v21=>cond v21 (pure false) ((pure (if (e.kills.all fun d=>V.xA d&&!decide (d=e.dot))=true then Ex.brk () else Ex.ret false)).bind (exk fun _=>pure true)))=pure (vga e):=by
    unfold vga;rw[hl,zB,zA]
    cases decide (e.kills.length<=256) with
    | false=>rfl
    | true=>
     cases D.Wv e.kills with
     | false=>rfl
     | true=>cases e.kills.all fun d=>V.xA d&&!decide (d=e.dot) <;> rfl
   simp only[Bool.not_true,cond_false,zA,zB,Bool.true_and] at tail ⊢;unfold Xba uqa
   by_cases k1:e.kind=1
   ·have k2:decide (e.kind=2)=false:=by rw[k1];rfl
    rw[decide_eq_true k1,cond_true,k2,Bool.true_and,Bool.false_and,Bool.or_false]
    cases vfa e.field with
    | false=>rfl
    | true=>
     cases wBa e.text with
     | false=>rfl
     | true=>exact tail
   ·rw[decide_eq_false k1,cond_false,Bool.false_and,Bool.false_or]
    by_cases k2:e.kind=2
    ·rw[decide_eq_true k2,cond_true,Bool.true_and]
     cases decide (e.field=0) with
     | false=>rfl
     | true=>
      cases decide (e.text=(⟨#[]⟩:ByteArray)) with
      | false=>rfl
      | true=>exact tail
    ·rw[decide_eq_false k2];rfl
theorem yra(l:List DT)(d:DT)(hl:l.length<=1000000000000):QB l d=pure (l.any fun x=>decide (x=d)):=by
 unfold QB;have:=vq (body:=VS l d) l (fun i=>(i:Int)) (fun _ x=>!decide (x=d)) (Ex.brk ()) (Ex.ret true) (fun i x hx hi=>by
  have hd:decide ((i:Int) < (l.length:Int))=true:=by simpa using hi
  unfold VS;simp only[hd,cond_true,zR hx,zA,D.vWa,yM (show i < 9223372036854775807 by omega)]
  cases decide (x=d) <;> rfl) (by
  unfold VS;simp)
 rw[show(0:Int)=((0:Nat):Int) from rfl,this,zA,UU l fun x=>!decide (x=d)];have e:(l.any fun x=>decide (x=d))=!(l.all fun x=>!decide (x=d)):=by simp[List.all_eq_not_any_not]
 rw[e]
 cases l.all fun x=>!decide (x=d) <;> rfl
theorem JD(e:EV)(hl:e.kills.length<=1000000000000):loop (YE e) 0=pure (if e.kills.all V.xA=true then Ex.brk () else Ex.ret false):=by
 have:=vq (body:=YE e) e.kills (fun i=>(i:Int)) (fun _ d=>V.xA d) (Ex.brk ()) (Ex.ret false) (fun i x hx hi=>by
  have hd:decide ((i:Int) < (e.kills.length:Int))=true:=by simpa using hi
  unfold YE;simp only[hd,cond_true,zR hx,zA,V.ue,zB,yM (show i < 9223372036854775807 by omega)]
  cases V.xA x <;> rfl) (by
  unfold YE;simp)
 rw[show(0:Int)=((0:Nat):Int) from rfl,this,UU e.kills V.xA]
theorem Vc{e:EV}(h:OkE e):VT e=pure (yy e):=by
 have hk:=h.klen;have ht:=h.text;unfold VT yy;rw[Zja h.cid.1 h.cid.2,zB,zA,V.ue,zB,zA,JD e (by omega),D.Zha e.kills (by omega),XZa,rText_eq e.text (by omega),yra e.kills e.dot (by omega)];simp only[]
 cases Qv e.cid with
 | false=>rfl
 | true=>
  cases V.xA e.dot with
  | false=>rfl
  | true=>
   have hl:decide ((e.kills.length:Int)<=256)=decide (e.kills.length<=256):=by
    by_cases c:e.kills.length<=256
    ·rw[decide_eq_true c];simp;omega
    ·rw[decide_eq_false c];simp;omega
   have hall:(e.kills.all fun d=>V.xA d&&!decide (d=e.dot))=(e.kills.all V.xA&&!(e.kills.any fun x=>decide (x=e.dot))):=by
    rw[Bool.eq_iff_iff,Bool.and_eq_true,List.all_eq_true,List.all_eq_true,Bool.not_eq_true',List.any_eq_false]
    constructor
    ·intro h;exact⟨fun x hx=>by have:=h x hx;rw[Bool.and_eq_true] at this;exact this.1,fun x hx=>by have:=h x hx;rw[Bool.and_eq_true] at this;simpa using this.2⟩
    ·rintro⟨h1,h2⟩ x hx;rw[Bool.and_eq_true];exact⟨h1 x hx,by simpa using h2 x hx⟩
   have tail:((pure (if e.kills.all V.xA=true then Ex.brk () else Ex.ret false):M (Ex Unit Bool)).bind (exk fun _=>(cond (decide ((e.kills.length:Int)<=256)) ((det (pure (D.Wv e.kills))).bind fun v46=>cond v46 ((det (pure (e.kills.any fun x=>decide (x=e.dot)))).bind fun v49=>pure (!v49)) (pure false)) (pure false)).bind fun v44=>pure v44))=pure (vga e):=by
    unfold vga;rw[hl,hall];simp only[zB,zA]
    cases e.kills.all V.xA with
    | false=>cases decide (e.kills.length<=256) <;> cases D.Wv e.kills <;> rfl
    | true=>cases decide (e.kills.length<=256) <;> cases D.Wv e.kills <;> cases e.kills.any fun x=>decide (x=e.dot) <;> rfl
   simp only[Bool.not_true,cond_false,zA,zB,Bool.true_and] at tail ⊢;unfold Xba uqa
   by_cases k1:e.kind=1
   ·have k2:decide (e.kind=2)=false:=by rw[k1];rfl
    rw[decide_eq_true k1,k2];simp only[Bool.not_true,cond_false,cond_true,zA,Bool.true_and,Bool.false_and,Bool.or_false]
    cases vfa e.field with
    | false=>rfl
    | true=>
     cases wBa e.text with
     | false=>rfl
     | true=>exact tail
   ·rw[decide_eq_false k1];simp only[Bool.not_false,cond_true,zA,Bool.false_and,Bool.false_or]
    by_cases k2:e.kind=2
    ·rw[decide_eq_true k2];simp only[Bool.not_true,cond_false,cond_true,Bool.true_and]
     cases decide (e.field=0) with
     | false=>rfl
     | true=>
      cases decide (e.text=(⟨#[]⟩:ByteArray)) with
      | false=>rfl
      | true=>exact tail
    ·rw[decide_eq_false k2];rfl
theorem rSame_eq(a b:EV)(h:a.kills.length<=1000000000000):qB a b=pure (decide (a=b)):=by
 unfold qB;rw[D.vWa,V.vHa a.kills b.kills h,zB,zA];have e:decide (a=b)=(decide (a.dot=b.dot)&&(decide (a.kind=b.kind)&&(decide (a.cid=b.cid)&&(decide (a.field=b.field)&&(decide (a.text=b.text)&&decide (a.kills=b.kills)))))):=by
  cases a;cases b;simp only[EV.mk.injEq,Bool.decide_and]
 rw[e]
 cases decide (a.dot=b.dot) <;> cases decide (a.kind=b.kind) <;> cases decide (a.cid=b.cid) <;> cases decide (a.field=b.field) <;> cases decide (a.text=b.text) <;> rfl
theorem rAll_eq(a b:List EV)(ha:a.length<=1000000000000)(hk:∀ e∈a,e.kills.length<=1000000000000):yIa a b=pure (decide (a=b)):=by
 unfold yIa
 by_cases hlen:a.length=b.length
 ·have h1:decide ((a.length:Int)=(b.length:Int))=true:=by simp[hlen]
  rw[h1,Bool.not_true,cond_false];have:=vq (body:=VZ a b) a (fun i=>(i:Int)) (fun i x=>decide (b[i]?=some x)) (Ex.brk ()) (Ex.ret false) (fun i x hx hi=>by
   have hd:decide ((i:Int) < (a.length:Int))=true:=by simpa using hi
   obtain⟨y,hy⟩:∃ y,b[i]?=some y:=⟨_,List.getElem?_eq_getElem (by omega)⟩
   unfold VZ;simp only[hd,cond_true,zR hx,zR hy,zA,rSame_eq x y (hk x (List.mem_of_getElem? hx)),zB,yM (show i < 9223372036854775807 by omega),hy]
   by_cases c:x=y
   ·subst c;simp
   ·have:¬ some y=some x:=fun e=>c (Option.some.inj e).symm
    simp[c,this]) (by
   unfold VZ;simp)
  rw[show(0:Int)=((0:Nat):Int) from rfl,this,zA];have e:(a.zipIdx.all fun y=>decide (b[y.2]?=some y.1))=decide (a=b):=by
   rw[Bool.eq_iff_iff,List.all_eq_true,decide_eq_true_eq]
   constructor
   ·intro h;apply List.ext_getElem?;intro i
    by_cases hi:i < a.length
    ·have:=h (a[i],i) (by rw[List.mk_mem_zipIdx_iff_getElem?];exact List.getElem?_eq_getElem hi);simp only[decide_eq_true_eq] at this;rw[this,List.getElem?_eq_getElem hi]
    ·rw[List.getElem?_eq_none (by omega),List.getElem?_eq_none (by omega)]
   ·intro h y hy;subst h;rw[List.mem_zipIdx_iff_getElem?] at hy;simpa using hy
  rw[e]
  cases decide (a=b) <;> rfl
 ·have h1:decide ((a.length:Int)=(b.length:Int))=false:=by simp;omega
  have h2:decide (a=b)=false:=decide_eq_false fun e=>hlen (by rw[e])
  rw[h1,Bool.not_false,cond_true,h2]
def encT(s:ByteArray):List Int:=N.xe s.size++xW s
def zSa(e:EV):List Int:=D.encD e.dot++([e.kind]++(N.xe e.cid++([e.field]++(encT e.text++D.Ja e.kills))))
theorem y2a{s:ByteArray}(h:s.size<=1000000000):(encT s).length<=9+s.size:=by
 have:=N.zk (v:=(s.size:Int)) (by omega);rw[encT,List.length_append,vZ];omega
theorem encE_len{e:EV}(h:OkE e):(zSa e).length<=47+e.text.size+18*e.kills.length:=by
 have h1:=D.Vg h.dot;have h2:=N.zk h.cid.2;have h3:=y2a h.text;have h4:=D.XMa h.kills (by have:=h.klen;omega);simp only[zSa,List.length_append,List.length_singleton];omega
theorem Zma{s:ByteArray}(h:s.size<=1000000000)(row:List Int)(hr:row.length<=1000000000000):vN s row=pure (row++encT s):=by
 have:=N.zk (v:=(s.size:Int)) (by omega);unfold vN;rw[uW (by omega) (by omega),N.vY row (by omega) (by omega) (by omega),zB,zA,zJ (by omega),N.XIa _ _ (by rw[List.length_append,vZ];omega),zB,zA,encT,List.append_assoc]
theorem vha{s:ByteArray}(h:s.size<=1000000000)(row:List Int)(hr:row.length<=1000000000000):yGa row s=pure (row++encT s):=by
 have h9:=N.zk (v:=(s.size:Int)) (by omega);unfold yGa;rw[uW (by omega) (by omega),N.yn row (by omega) (by omega) (by omega),zB,zA];have:=D.Xy (body:=Xm s) (xW s) (fun x=>[x]) (row++N.xe (s.size:Int)) 2000000000000 (fun i out=>((i:Int),out)) (fun t=>pure t) (by
  have:=D.wb (xW s) (fun x=>[x]) 1 (by simp);rw[vZ] at this;rw[List.length_append];omega) (fun i x out hx hi ho=>by
  have hi2:i < s.size:=by rw[<- vZ];exact hi
  have hd:decide ((i:Int) < (s.size:Int))=true:=by simpa using hi2
  unfold Xm;simp only[hd,cond_true,zR hx,zA];rw[zJ (by simp at ho ⊢;omega),yM (show i < 9223372036854775807 by omega)]) (fun out=>by
  unfold Xm;simp[vZ,zA])
 rw[show(0:Int)=((0:Nat):Int) from rfl,this,zA,encT,List.append_assoc];have e:∀ l:List Int,(l.flatMap fun x=>[x])=l:=by
  intro l
  induction l with
  | nil=>rfl
  | cons x r ih=>rw[List.flatMap_cons,ih];rfl
 rw[e]
theorem Xda{e:EV}(h:OkE e)(row:List Int)(hr:row.length<=10000000000):Xf e row=pure (row++zSa e):=by
 have h1:=D.Vg h.dot;have h2:=N.zk h.cid.2;have h3:=y2a h.text;have ht:=h.text;have hk:=h.klen;unfold Xf;rw[D.x1a h.dot row (by omega),zB,zA,N.yva _ _ (by rw[List.length_append];omega),zB,zA,N.vY _ h.cid.1 h.cid.2 (by simp only[List.length_append,List.length_singleton];omega),zB,zA,
  N.yva _ _ (by simp only[List.length_append,List.length_singleton];omega),zB,zA,Zma h.text _ (by simp only[List.length_append,List.length_singleton];omega),zB,zA,
  D.Zca h.kills (by omega) _ (by simp only[List.length_append,List.length_singleton];omega),zB,zA]
 simp only[zSa,List.append_assoc]
theorem UT{e:EV}(h:OkE e)(row:List Int)(hr:row.length<=10000000000):wqa row e=pure (row++zSa e):=by
 have h1:=D.Vg h.dot;have h2:=N.zk h.cid.2;have h3:=y2a h.text;have ht:=h.text;have hk:=h.klen;unfold wqa;rw[D.zpa h.dot row (by omega),zB,zA,zJ (by simp only[List.length_append,List.length_singleton];omega),N.yn _ h.cid.1 h.cid.2 (by simp only[List.length_append,List.length_singleton];omega),zB,zA,
  zJ (by simp only[List.length_append,List.length_singleton];omega),vha h.text _ (by simp only[List.length_append,List.length_singleton];omega),zB,zA,
  D.vYa h.kills (by omega) _ (by simp only[List.length_append,List.length_singleton];omega),zB,zA]
 simp only[zSa,List.append_assoc]
def XW(l:List EV):List Int:=N.xe l.length++l.flatMap zSa
theorem Xea{l:List EV}(h:∀ e∈l,OkE e)(hl:l.length<=1000000000)(row:List Int)(hr:row.length+(l.flatMap zSa).length<=1000000000):uo l row=pure (row++XW l):=by
 have h9:=N.zk (v:=(l.length:Int)) (by omega);unfold uo;rw[uW (by omega) (by omega),N.vY row (by omega) (by omega) (by omega),zB,zA];have:=D.Xy (body:=ve l) l zSa (row++N.xe (l.length:Int)) 2000000000 (fun i out=>((i:Int),out)) (fun t=>pure t) (by rw[List.length_append];omega) (fun i x out hx hi ho=>by
  have hd:decide ((i:Int) < (l.length:Int))=true:=by simpa using hi
  unfold ve;simp only[hd,cond_true,zR hx,zA,Xda (h x (List.mem_of_getElem? hx)) out (by omega),zB,yM (show i < 9223372036854775807 by omega)]) (fun out=>by
  unfold ve;simp[zA])
 rw[show(0:Int)=((0:Nat):Int) from rfl,this,XW,List.append_assoc]
theorem Zna{l:List EV}(h:∀ e∈l,OkE e)(hl:l.length<=1000000000)(row:List Int)(hr:row.length+(l.flatMap zSa).length<=1000000000):jh row l=pure (row++XW l):=by
 have h9:=N.zk (v:=(l.length:Int)) (by omega);unfold jh;rw[uW (by omega) (by omega),N.yn row (by omega) (by omega) (by omega),zB,zA];have:=D.Xy (body:=Zg l) l zSa (row++N.xe (l.length:Int)) 2000000000 (fun i out=>(out,(i:Int))) (fun t=>pure t) (by rw[List.length_append];omega) (fun i x out hx hi ho=>by
  have hd:decide ((i:Int) < (l.length:Int))=true:=by simpa using hi
  unfold Zg;simp only[hd,cond_true,zR hx,zA,UT (h x (List.mem_of_getElem? hx)) out (by omega),zB,yM (show i < 9223372036854775807 by omega)]) (fun out=>by
  unfold Zg;simp[zA])
 rw[show(0:Int)=((0:Nat):Int) from rfl,this,zA,XW,List.append_assoc]
theorem len_of{n k:Nat}(h1:256 ^ k<=n)(h2:n < 256 ^ (k+1)):N.XX n=k+1:=by
 have:=N.vQa k n h1;have:=N.Qf (k+1) n h2;omega
theorem wCa{l:List EV}(h:∀ e∈l,OkE e)(hf:∀ e∈l,e.kills.length<=300/\e.text.size<=200):(l.flatMap zSa).length<=6000*l.length:=
 D.wb l zSa 6000 fun e he=>by have:=encE_len (h e he);have:=hf e he;omega
open N (RS Ok zU yL wG YY vg qP OkB Sim)
open D (Vy fin)
def s1(s:RS):RS:=(D.Zt s).2
def s2(s:RS):RS:=(wG (s1 s)).2
def s3(s:RS):RS:=(zU (s2 s)).2
def s4(s:RS):RS:=(wG (s3 s)).2
def s5(s:RS):RS:=(YY 60 (s4 s)).2
def s6(s:RS):RS:=(D.vz 256 (s5 s)).2
def Zoa(s:RS):EV:=⟨(D.Zt s).1,(wG (s1 s)).1,(zU (s2 s)).1,(wG (s3 s)).1,(YY 60 (s4 s)).1,(D.vz 256 (s5 s)).1⟩
def noE : EV:=⟨⟨0,0⟩,0,0,0,⟨#[]⟩,[]⟩
def getT(s:RS):RS:=Vy (!yy (Zoa s)) (s6 s)
def xa(s:RS):EV×RS:=fin noE (Zoa s) (getT s)
theorem Xfa{s:RS}(h:Ok s)(m:Int):(YY m s).1.size<=1000000000:=by
 have h1:=(N.yv h).1.len;unfold YY
 split
 ·exact(by decide:(0:Nat)<=1000000000)
 ·split
  ·exact(by decide:(0:Nat)<=1000000000)
  ·split
   ·exact(by decide:(0:Nat)<=1000000000)
   ·rw[Qu,List.length_take];omega
theorem dots_okD{s:RS}(h:Ok s)(most:Int):(∀ d∈(D.vz most s).1,D.OkD d)/\(D.vz most s).1.length<=1000000000:=by
 by_cases c:(D.vz most s).2.2=0
 ·obtain⟨e1,e2,e3,e4⟩:=D.uoa h c;have hl:=congrArg List.length e1;have hs:=h.len;have h9:(D.vE (D.uG (D.vz most s).1))=(D.vz most s).1:=D.x7a e2 fun d hd=>(e3 d hd).1
  have h8:∀ l:List DT,l.length<=(l.flatMap D.encD).length:=by
   intro l
   induction l with
   | nil=>simp
   | cons x t ih=>
    have:1<=(D.encD x).length:=by rw[D.encD,List.length_append,N.xe,N.wWa,List.length_cons];omega
    rw[List.flatMap_cons,List.length_append,List.length_cons];omega
  have h7:=h8 (D.vz most s).1;refine⟨fun d hd=>(e3 d hd).2,?_⟩;rw[List.length_append,D.Ja,h9,List.length_append] at hl;omega
 ·rw[D.dots_bad c];simp
theorem ura{s:RS}(h:Ok s):Ok (s1 s)/\Ok (s2 s)/\Ok (s3 s)/\Ok (s4 s)/\Ok (s5 s)/\Ok (s6 s)/\OkE (Zoa s):=by
 have o1:Ok (s1 s):=(D.x3a h).1;have o2:=N.Qk o1;have o3:=N.yv (s:=s2 s) o2.1;have o4:=N.Qk (s:=s3 s) o3.1;have o5:=N.ok_text (s:=s4 s) o4.1 60;have o6:=D.ok_dots (s:=s5 s) o5 256;obtain⟨k1,k2⟩:=dots_okD (s:=s5 s) o5 256;exact⟨o1,o2.1,o3.1,o4.1,o5,o6,(D.x3a h).2.1,o2.2,o3.2,o4.2,Xfa (s:=s4 s) o4.1 60,k1,k2⟩
theorem Xga{s:RS}(h:Ok s):Xn s.1 s.2=pure (xa s):=by
 obtain⟨o1,o2,o3,o4,o5,o6,oe⟩:=ura h;unfold Xn xa;have e1:ud s.1 s.2=pure ((D.Zt s).1,s1 s):=D.Dot_eq h;have e2:yR (s1 s).1 (s1 s).2=pure ((wG (s1 s)).1,s2 s):=N.yua o1;have e3:zc (s2 s).1 (s2 s).2=pure ((zU (s2 s)).1,s3 s):=N.Yq o2;have e4:yR (s3 s).1 (s3 s).2=pure ((wG (s3 s)).1,s4 s):=N.yua o3;have e5:xx 60 (s4 s).1 (s4 s).2=pure ((YY 60 (s4 s)).1,s5 s):=N.vTa o4 (by decide);have e6:uz 256 (s5 s).1 (s5 s).2=pure ((D.vz 256 (s5 s)).1,s6 s):=D.vda o5 (by decide);rw[e1,zB,zA];simp only[];rw[e2,zB,zA];simp only[];rw[e3,zB,zA];simp only[];rw[e4,zB,zA];simp only[];rw[e5,zB,zA];simp only[];rw[e6,zB,zA];simp only[];have eg:=JA oe;unfold Zoa at eg;rw[eg,zB,zA];have ep:=D.ufa (yy (Zoa s)) (s6 s);unfold Zoa at ep;rw[ep,zA];exact D.XPa _ _ _
variable{B:List Int}{a:Int}{s:RS}
theorem via(hB:OkB B)(hO:Ok s)(h:Sim B a s):∃ a',Uy B a s.2=pure ((xa s).1,B,a',(xa s).2.2)/\Sim B a' (xa s).2:=by
 obtain⟨o1,o2,o3,o4,o5,o6,oe⟩:=ura hO;obtain⟨a1,e1,t1⟩:=D.XRa hB hO h;obtain⟨a2,e2,t2⟩:=N.Ql hB (s:=s1 s) t1;obtain⟨a3,e3,t3⟩:=N.uS hB (s:=s2 s) t2;obtain⟨a4,e4,t4⟩:=N.Ql hB (s:=s3 s) t3;obtain⟨a5,e5,t5⟩:=N.XJa hB o4 t4 (q:=60) (by decide);obtain⟨a6,e6,t6⟩:=D.y0a hB o5 t5 (most:=256) (by decide);unfold Uy xa;have e1':XG B a s.2=pure ((D.Zt s).1,B,a1,(s1 s).2):=e1;have e2':zq B a1 (s1 s).2=pure ((wG (s1 s)).1,B,a2,(s2 s).2):=e2;have e3':zL B a2 (s2 s).2=pure ((zU (s2 s)).1,B,a3,(s3 s).2):=e3;have e4':zq B a3 (s3 s).2=pure ((wG (s3 s)).1,B,a4,(s4 s).2):=e4;have e5':yZ 60 B a4 (s4 s).2=pure ((YY 60 (s4 s)).1,B,a5,(s5 s).2):=e5;have e6':XH 256 B a5 (s5 s).2=pure ((D.vz 256 (s5 s)).1,B,a6,(s6 s).2):=e6;rw[e1',zB,zA];simp only[];rw[e2',zB,zA];simp only[];rw[e3',zB,zA];simp only[];rw[e4',zB,zA];simp only[];rw[e5',zB,zA];simp only[];rw[e6',zB,zA];simp only[];have q1:=D.yxa (s6 s).2 ((det (VT (Zoa s))).bind fun v18=>pure (!v18)) (!yy (Zoa s)) (by rw[Vc oe,zB,zA]);have q2:=D.Qr B a6 (decide ((s6 s).2=0)&&!yy (Zoa s)) (s6 s);rw[D.qZ] at q2;unfold Zoa at q1 q2;rw[q1,zA,q2,zA,D.Wr];refine⟨a6,?_,D.jQ t6 _⟩;show(cond (!decide ((getT s).2=0)) (pure (noE,B,a6,(getT s).2)) (pure (Zoa s,B,a6,(getT s).2)):M _)=_
 by_cases c:(getT s).2=0
 ·rw[D.Vz c,decide_eq_true c];rfl
 ·rw[D.Yv c,decide_eq_false c];rfl
theorem Xha{s:RS}(h:(wG s).2.2=0):s.2=0/\s.1=(wG s).1::(wG s).2.1:=by
 unfold wG at h ⊢
 by_cases c:s.2≠0
 ·rw[if_pos c] at h;exact absurd h c
 ·rw[if_neg c] at h ⊢
  cases hs:s.1 with
  | nil=>rw[hs] at h;exact absurd h (N.wY (by decide))
  | cons x r=>exact⟨Classical.byContradiction c,rfl⟩
theorem text_ok{m:Int}{s:RS}(hO:Ok s)(h:(YY m s).2.2=0):(zU s).2.2=0/\s.1=encT (YY m s).1++(YY m s).2.1/\((YY m s).1.size:Int)<=max m 0:=by
 obtain⟨k1,k2,k3⟩:=N.yv hO;unfold YY at h ⊢
 by_cases c:(zU s).2.2≠0
 ·rw[if_pos c] at h;exact absurd h c
 ·rw[if_neg c] at h ⊢
  by_cases c2:max m 0 < (zU s).1
  ·rw[if_pos c2] at h;exact absurd h (N.wY (by decide))
  ·rw[if_neg c2] at h ⊢
   by_cases c3:((zU s).2.1.length:Int) < (zU s).1
   ·rw[if_pos c3] at h;exact absurd h (N.wY (by decide))
   ·rw[if_neg c3];have hz:(zU s).2.2=0:=Classical.byContradiction c;refine⟨hz,?_,?_⟩
    ·show s.1=(N.xe ((wha _).size:Int)++xW (wha _))++_;rw[Qu,Zia (k1.by_.take _),List.length_take,show((min (zU s).1.toNat (zU s).2.1.length:Nat):Int)=(zU s).1 by omega,List.append_assoc,List.take_append_drop];exact D.uj hO hz
    ·show((wha _).size:Int)<=_;rw[Qu,List.length_take];omega
theorem Xia{s:RS}(hO:Ok s)(h:(xa s).2.2=0):s.2=0/\yy (xa s).1=true/\OkE (xa s).1/\s.1=zSa (xa s).1++(xa s).2.1:=by
 obtain⟨o1,o2,o3,o4,o5,o6,oe⟩:=ura hO;unfold xa at h ⊢;rw[D.Wr] at h;rw[D.Vz h];obtain⟨g1,g2,g3⟩:=D.JE (c:=!yy (Zoa s)) (s:=s6 s) h;have i6:=D.uoa o5 g2;have z5:(s5 s).2=0:=Classical.byContradiction fun c=>by
  have:(D.vz 256 (s5 s)).2.2≠0:=by
   have hn:=N.uca c;unfold D.vz;rw[hn];rw[if_neg (by show ¬ max 256 0 < (0:Int);omega)];exact c
  exact this g2
 obtain⟨z5',i5,_⟩:=text_ok (m:=60) o4 z5;have z4:=D.UA z5';obtain⟨z3,i4⟩:=Xha (s:=s3 s) z4;have i3:=D.uj o2 z3;have z2:=D.UA z3;obtain⟨z1,i2⟩:=Xha (s:=s1 s) z2;have i1:=D.XVa hO z1;have z0:s.2=0:=D.UA (D.yya (D.uga z1).2.1).1;refine⟨z0,by simpa using g1,oe,?_⟩;show s.1=zSa (Zoa s)++(getT s).1;rw[show getT s=s6 s from g3];show s.1=(D.encD (D.Zt s).1++([(wG (s1 s)).1]++(N.xe (zU (s2 s)).1++([(wG (s3 s)).1]++(encT (YY 60 (s4 s)).1++D.Ja (D.vz 256 (s5 s)).1)))))++(s6 s).1;simp only[List.append_assoc];have j6:(s5 s).1=D.Ja (D.vz 256 (s5 s)).1++(s6 s).1:=i6.1;have j5:(s4 s).1=encT (YY 60 (s4 s)).1++(s5 s).1:=i5;have j4:(s3 s).1=[(wG (s3 s)).1]++(s4 s).1:=i4;have j3:(s2 s).1=N.xe (zU (s2 s)).1++(s3 s).1:=i3;have j2:(s1 s).1=[(wG (s1 s)).1]++(s2 s).1:=i2;have j1:s.1=D.encD (D.Zt s).1++(s1 s).1:=i1;rw[<- j6,<- j5,<- j4,<- j3,<- j2];exact j1
theorem get_lt{s:RS}(hO:Ok s)(h:(xa s).2.2=0):(xa s).2.1.length+1<=s.1.length:=by
 have:=(Xia hO h).2.2.2;have hl:=congrArg List.length this;have:1<=(zSa (xa s).1).length:=by simp only[zSa,List.length_append,List.length_singleton];omega
 rw[List.length_append] at hl;omega
open N (RS Ok zU yL wG YY vg qP OkB Sim)
open D (Vy fin)
def Ww(out:List EV)(x:EV):Bool:=match out.getLast? with | some y=>decide (0<=V.wVa y.dot x.dot) | none=>false
def zHa(out:List EV)(s:RS):RS:=Vy (Ww out (xa s).1) (xa s).2
def JF : Nat->List EV->RS->List EV×RS
 | 0,out,s=>(out,s)
 | k+1,out,s=>if (zHa out s).2≠0 then ([],zHa out s) else JF k (out++[(xa s).1]) (zHa out s)
def Vj(most:Int)(s:RS):List EV×RS:=if max most 0 < (zU s).1 then ([],vg 3 (zU s).2) else JF (zU s).1.toNat [] (zU s).2
theorem qa{k:Nat}{out:List EV}{s:RS}(h:(zHa out s).2≠0):JF (k+1) out s=([],zHa out s):=if_pos h
theorem jV{k:Nat}{out:List EV}{s:RS}(h:(zHa out s).2=0):JF (k+1) out s=JF k (out++[(xa s).1]) (zHa out s):=if_neg (by simp[h])
theorem vja{out:List EV}{s:RS}(h:(zHa out s).2=0):Ww out (xa s).1=false/\(xa s).2.2=0/\zHa out s=(xa s).2:=D.JE h
theorem ok_gets{s:RS}(h:Ok s):Ok (xa s).2:=by
 unfold xa;rw[D.Wr];exact D.Qq (ura h).2.2.2.2.2.1 _
theorem Qw{s:RS}(h:Ok s)(out:List EV):Ok (zHa out s):=D.Qq (ok_gets h) _
theorem Xja : ∀ (k:Nat) (out:List EV) (s:RS),Ok s->Ok (JF k out s).2
 | 0,_,_,h=>h
 | k+1,out,s,h=>by
  by_cases c:(zHa out s).2=0
  ·rw[jV c];exact Xja k _ _ (Qw h out)
  ·rw[qa c];exact Qw h out
theorem ok_all{s:RS}(h:Ok s)(most:Int):Ok (Vj most s).2:=by
 have h1:=N.yv h;unfold Vj
 split
 ·exact N.Xx h1.1 _
 ·exact Xja _ _ _ h1.1
theorem wDa{out:List EV}(h:out.length<=1000000000000)(x:EV)(cmp:DT->DT->M Int)(hc:∀ y,cmp y x.dot=pure (V.wVa y x.dot)) :
  ((cond (decide (0<=IntKind.i64.wrap ((out.length:Int) - 1))) ((idx out (IntKind.i64.wrap ((out.length:Int) - 1))).bind fun x61=>(det (cmp x61.dot x.dot)).bind fun v63=>pure (decide (0<=v63))) (pure false)):M Bool)=pure (Ww out x):=by
 unfold Ww;rcases R.xm out with rfl | ⟨r,y,rfl⟩
 ·rfl
 ·have hl:((r++[y]).length:Int) - 1=(r.length:Int):=by simp
  rw[hl,uV (by omega) (by simp at h;omega)];have:decide ((0:Int)<=(r.length:Int))=true:=by simp
  rw[this,cond_true,zR (y:=y) (by simp),zA,hc,zB,zA];simp
theorem usa{y4:Int×List Int×Int}(hn:0<=y4.1/\y4.1<=18446744073709551615):∀ (k i:Nat) (out:List EV) (s:RS),(i:Int)+k=y4.1->Ok s->s.2=0->out.length+s.1.length<=1000000000 ->
  (loop (xZ y4) ((i:Int),out,s.1,s.2)).bind (exk fun⟨out9,v10,v11⟩=>pure (out9,v10,v11))=pure (JF k out s)
 | 0,i,out,s,hi,_,_,_=>by
  rw[zT (r:=.brk (out,s.1,s.2)) (by
   unfold xZ;have:decide ((i:Int) < y4.1)=false:=by simp;omega
   simp only[this,cond_false])]
  rfl
 | k+1,i,out,s,hi,hO,h0,hl=>by
  have hc:decide ((i:Int) < y4.1)=true:=by simp;omega
  have hlast:=wDa (out:=out) (by omega) (xa s).1 Zy (fun y=>D.uea y _);have hw:IntKind.u64.wrap ((i:Int)+1)=((i+1:Nat):Int):=by rw[uW (by omega) (by omega)];omega
  have hb:xZ y4 ((i:Int),out,s.1,s.2)=(det (zm (zHa out s).1 (zHa out s).2)).bind fun y70=>cond (!decide (y70.1=0)) (pure (.done (.ret ([],y70.2.1,y70.2.2)))) (yk ((out.length+[(xa s).1].length)*80<=140737488355328) (pure (.next (IntKind.u64.wrap ((i:Int)+1),out++[(xa s).1],y70.2.1,y70.2.2)))):=by
   unfold xZ;have e:=D.vaa (Ww out (xa s).1) (xa s).2;simp only[hc,cond_true,Xga hO,zB,zA];rw[hlast,zA,e,zA]
   rfl
  rw[N.Vx,zB,zA] at hb
  by_cases c:(zHa out s).2=0
  ·obtain⟨_,c2,c3⟩:=vja c;have hlt:=get_lt hO c2;rw[decide_eq_true c,Bool.not_true,cond_false,zJ (by simp;omega),hw] at hb;rw[zi hb,jV c];exact usa hn k (i+1) _ (zHa out s) (by omega) (Qw hO out) c (by rw[c3];simp;omega)
  ·rw[decide_eq_false c,Bool.not_false,cond_true] at hb;rw[zT hb,qa c]
   rfl
theorem Xka{s:RS}(hO:Ok s){most:Int}(hm:most<=9223372036854775807):vy most s.1 s.2=pure (Vj most s):=by
 obtain⟨h1,h2,h3⟩:=N.yv hO;unfold vy Vj;rw[N.Yq hO,zB,zA,uW (n:=max most 0) (by omega) (by omega)]
 by_cases c:max most 0 < (zU s).1
 ·rw[decide_eq_true c,cond_true,if_pos c,N.YZ 3 (zU s).2,zB,zA]
 ·rw[decide_eq_false c,cond_false,if_neg c]
  by_cases c2:(zU s).2.2=0
  ·exact usa (y4:=zU s) ⟨h2,h3⟩ (zU s).1.toNat 0 [] (zU s).2 (by omega) h1 c2 (by simp;have:=h1.len;omega)
  ·have hz:=D.vQ c2;rw[hz,zT (r:=.brk ([],(zU s).2.1,(zU s).2.2)) (by
    unfold xZ;simp only[hz,show decide ((0:Int) < 0)=false from rfl,cond_false])]
   rfl
variable{B:List Int}{a:Int}{s:RS}
theorem wEa(hB:OkB B){y7:Int×List Int×Int×Int}(hn:0<=y7.1/\y7.1<=18446744073709551615):∀ (k i:Nat) (out:List EV) (s:RS) (a:Int),(i:Int)+k=y7.1->Ok s->s.2=0->Sim B a s->out.length+s.1.length<=1000000000 ->
  ∃ out' a',loop (yu y7) ((i:Int),out,B,a,s.2)=pure (out',B,a',(JF k out s).2.2)/\Sim B a' (JF k out s).2/\((JF k out s).2.2=0->out'=(JF k out s).1)/\((JF k out s).2.2≠0->(JF k out s).1=[])
 | 0,i,out,s,a,hi,_,h0,hS,_=>by
  refine⟨out,a,zT ?_,hS,fun _=>rfl,fun h=>absurd h0 h⟩;unfold yu;have:decide ((i:Int) < y7.1)=false:=by simp;omega
  simp only[this,cond_false,zA]
  rfl
 | k+1,i,out,s,a,hi,hO,h0,hS,hl=>by
  have hc:decide ((i:Int) < y7.1)=true:=by simp;omega
  obtain⟨a1,e1,s1⟩:=via hB hO hS;have hlast:=wDa (out:=out) (by omega) (xa s).1 ZK (fun y=>V.Zs y _);have hw:IntKind.u64.wrap ((i:Int)+1)=((i+1:Nat):Int):=by rw[uW (by omega) (by omega)];omega
  have hb:yu y7 ((i:Int),out,B,a,s.2)=pure (.next (((i+1:Nat):Int),out++[(xa s).1],B,a1,(zHa out s).2)):=by
   unfold yu;have e3:=D.yxa (xa s).2.2 _ _ hlast;have e4:=D.Qr B a1 (decide ((xa s).2.2=0)&&Ww out (xa s).1) (xa s).2;rw[D.qZ] at e4;simp only[hc,cond_true,decide_eq_true h0,zA,e1,zB];rw[e3,zA,e4,zA];simp only[];rw[zJ (by simp;omega),hw]
   rfl
  have hs2:Sim B a1 (zHa out s):=D.jQ s1 _;rw[zi hb]
  by_cases c:(zHa out s).2=0
  ·obtain⟨_,c2,c3⟩:=vja c;have hlt:=get_lt hO c2;rw[jV c];exact wEa hB hn k (i+1) _ (zHa out s) a1 (by omega) (Qw hO out) c hs2 (by rw[c3];simp;omega)
  ·rw[qa c];refine⟨out++[(xa s).1],a1,zT ?_,hs2,fun h=>absurd h c,fun _=>rfl⟩;unfold yu;have hq:(cond (decide (((i+1:Nat):Int) < y7.1)) (pure (decide ((zHa out s).2=0))) (pure false):M Bool)=pure false:=by
    rw[decide_eq_false c];cases decide (((i+1:Nat):Int) < y7.1) <;> rfl
   simp only[];rw[hq,zA]
   rfl
theorem Zpa(hB:OkB B)(hO:Ok s)(h:Sim B a s){most:Int}(hm:most<=9223372036854775807):∃ a',ZA most B a s.2=pure ((Vj most s).1,B,a',(Vj most s).2.2)/\Sim B a' (Vj most s).2:=by
 obtain⟨h1,h2,h3⟩:=N.yv hO;obtain⟨a1,e1,s1⟩:=N.uS hB h;unfold ZA Vj;have hmost:(cond (decide (most < 0)) (pure 0) (pure most):M Int)=pure (max most 0):=by
  by_cases c:most < 0
  ·rw[decide_eq_true c,cond_true];congr 1;omega
  ·rw[decide_eq_false c,cond_false];congr 1;omega
 rw[hmost,zA,e1,zB,zA,uW (n:=max most 0) (by omega) (by omega)];have done:∀ (out:List EV) (a2:Int) (i:Int) (t:RS),t.2≠0->loop (yu ((zU s).1,B,a1,(zU s).2.2)) (i,out,B,a2,t.2)=pure (out,B,a2,t.2):=fun out a2 i t ht=>zT (by
  unfold yu;have hq:(cond (decide (i < (zU s).1)) (pure (decide (t.2=0))) (pure false):M Bool)=pure false:=by
   rw[decide_eq_false ht];cases decide (i < (zU s).1) <;> rfl
  simp only[];rw[hq,zA]
  rfl)
 by_cases c:max most 0 < (zU s).1
 ·have hF:=N.uR B a1 (zU s).2 (e:=3) (by decide);have hb:=N.wY (s:=(zU s).2) (e:=3) (by decide);rw[decide_eq_true c,cond_true,if_pos c,hF,zB,zA,zA];simp only[];rw[done _ _ _ _ hb,zA];simp only[decide_eq_false hb,Bool.not_false,cond_true];exact⟨_,rfl,s1.fail (by decide)⟩
 ·rw[decide_eq_false c,cond_false,if_neg c,zA];simp only[]
  by_cases c2:(zU s).2.2=0
  ·obtain⟨out',a',e2,s2,q1,q2⟩:=wEa hB (y7:=((zU s).1,B,a1,(zU s).2.2)) ⟨h2,h3⟩ (zU s).1.toNat 0 [] (zU s).2 a1 (by simp;omega) h1 c2 s1 (by simp;have:=h1.len;omega);have e2':loop (yu ((zU s).1,B,a1,(zU s).2.2)) (0,[],B,a1,(zU s).2.2)=pure (out',B,a',(JF (zU s).1.toNat [] (zU s).2).2.2):=e2;rw[e2',zA];refine⟨a',?_,s2⟩
   by_cases c3:(JF (zU s).1.toNat [] (zU s).2).2.2=0
   ·simp only[decide_eq_true c3,Bool.not_true,cond_false,q1 c3]
   ·simp only[decide_eq_false c3,Bool.not_false,cond_true,q2 c3]
  ·rw[D.vQ c2] at *
   rw[done _ _ _ _ c2,zA];simp only[decide_eq_false c2,Bool.not_false,cond_true];exact⟨_,rfl,s1⟩
abbrev Zn(l:List EV):Prop:=l.Pairwise fun x y=>zr x.dot y.dot=true
theorem Xla{out:List EV}{x:EV}(hs:Zn out)(h:Ww out x=false):Zn (out++[x]):=by
 unfold Zn;rw[List.pairwise_append];refine⟨hs,by simp,fun a ha b hb=>?_⟩;rw[List.mem_singleton.1 hb];rcases R.xm out with rfl | ⟨q,y,rfl⟩
 ·simp at ha
 ·have hy:zr y.dot x.dot=true:=by
   unfold Ww at h;simp only[List.getLast?_append,List.getLast?_singleton,Option.some_or,D.una] at h;simpa using h
  rcases List.mem_append.1 ha with h5 | h5
  ·exact D.Vf ((List.pairwise_append.1 hs).2.2 a h5 y (by simp)) hy
  ·rw[List.mem_singleton.1 h5];exact hy
theorem zsa : ∀ (k:Nat) (out:List EV) (s:RS),Ok s->s.2=0->Zn out->(∀ e∈out,OkE e/\yy e=true)->out.length+s.1.length<=1000000000 ->
  Zn (JF k out s).1/\(∀ e∈(JF k out s).1,OkE e/\yy e=true)/\(JF k out s).1.length<=1000000000/\((JF k out s).2.2=0->∃ l,(JF k out s).1=out++l/\l.length=k/\s.1=l.flatMap zSa++(JF k out s).2.1)/\((JF k out s).2.2≠0->(JF k out s).1=[])
 | 0,out,s,_,h0,hs,hg,hl=>⟨hs,hg,by show out.length<=_;omega,fun _=>⟨[],by simp[JF],rfl,by simp[JF]⟩,fun h=>absurd h0 h⟩
 | k+1,out,s,hO,h0,hs,hg,hl=>by
  by_cases c:(zHa out s).2=0
  ·obtain⟨c1,c2,c3⟩:=vja c;obtain⟨i1,i2,i3,i4⟩:=Xia hO c2;have hlt:=get_lt hO c2;rw[jV c];obtain⟨q1,q2,q3,q4,q5⟩:=zsa k (out++[(xa s).1]) (zHa out s) (Qw hO out) c (Xla hs c1) (fun e he=>by
    rcases List.mem_append.1 he with h | h
    ·exact hg e h
    ·rw[List.mem_singleton.1 h];exact⟨i3,i2⟩) (by rw[c3];simp;omega)
   refine⟨q1,q2,q3,fun hz=>?_,q5⟩;obtain⟨l,e1,e2,e3⟩:=q4 hz;refine⟨(xa s).1::l,by rw[e1];simp,by simp[e2],?_⟩;rw[List.flatMap_cons,List.append_assoc,<- e3,c3];exact i4
  ·rw[qa c];exact⟨List.Pairwise.nil,by simp,by simp,fun h=>absurd h c,fun _=>rfl⟩
theorem Qy{s:RS}(hO:Ok s)(most:Int):Zn (Vj most s).1/\(∀ e∈(Vj most s).1,OkE e/\yy e=true)/\(Vj most s).1.length<=1000000000/\((Vj most s).2.2=0->s.1=XW (Vj most s).1++(Vj most s).2.1/\((Vj most s).1.length:Int)<=max most 0)/\((Vj most s).2.2≠0->(Vj most s).1=[]):=by
 obtain⟨h1,h2,h3⟩:=N.yv hO;unfold Vj
 by_cases c:max most 0 < (zU s).1
 ·rw[if_pos c];exact⟨List.Pairwise.nil,by simp,by simp,fun h=>absurd h (N.wY (by decide)),fun _=>rfl⟩
 ·rw[if_neg c]
  by_cases c2:(zU s).2.2=0
  ·obtain⟨q1,q2,q3,q4,q5⟩:=zsa (zU s).1.toNat [] (zU s).2 h1 c2 List.Pairwise.nil (by simp) (by simp;have:=h1.len;omega);refine⟨q1,q2,q3,fun hz=>?_,q5⟩;obtain⟨l,e1,e2,e3⟩:=q4 hz;rw[List.nil_append] at e1;rw[e1];refine⟨?_,by omega⟩;rw[XW,List.append_assoc,<- e3,e2,Int.toNat_of_nonneg h2];exact D.uj hO c2
  ·rw[D.vQ c2];exact⟨List.Pairwise.nil,by simp[JF],by simp[JF],fun h=>absurd h c2,fun _=>rfl⟩
theorem vka(e:EV)(h:e.kills.length<=1000000000000):vF e=pure e:=by
 unfold vF;rw[D.jG _ h,zB,zA]
def e4 : EV:=⟨⟨0,0⟩,0,0,0,⟨#[101]⟩,[]⟩
end Go.Ep.M.E

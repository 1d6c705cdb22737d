/- Side texts. -/
import Derived.Test.YtmjhkhdnbenhfaaGreatDoorABk11
set_option linter.unusedVariables false
set_option linter.unusedSimpArgs false
namespace Go.Ep.M.D
open Go
theorem qy{a b:DT}:zd a b=true↔a.dev < b.dev\/(a.dev=b.dev/\a.n < b.n):=by simp[zd]
theorem qz(a:DT):zd a a=false:=by
 cases h:zd a a with
 | false=>rfl
 | true=>rw[qy] at h;omega
theorem WO{a b c:DT}(h1:zd a b=true)(h2:zd b c=true):zd a c=true:=by rw[qy] at *;omega
theorem zSa{a b:DT}(h:zd a b=true):zd b a=false:=by
 cases h2:zd b a with
 | false=>rfl
 | true=>rw[qy] at h h2;omega
theorem wha{a b:DT}(h1:zd a b=false)(h2:zd b a=false):a=b:=by
 have h3:¬ (zd a b=true):=by simp[h1]
 have h4:¬ (zd b a=true):=by simp[h2]
 rw[qy] at h3 h4
 cases a;cases b
 simp only[DT.mk.injEq] at *
 omega
abbrev Srt(l:List DT):Prop:=l.Pairwise fun x y=>zd x y=true
theorem xsa : ∀ {l l':List DT},Srt l->Srt l'->(∀ d,d∈l↔d∈l')->l=l'
 | [],[],_,_,_=>rfl
 | [],y::r,_,_,h=>by have:=(h y).2 (by simp);simp at this
 | x::r,[],_,_,h=>by have:=(h x).1 (by simp);simp at this
 | x::r,y::t,h1,h2,h=>by
  have hx:=(h x).1 (by simp);have hy:=(h y).2 (by simp);have e:x=y:=by
   rcases List.mem_cons.1 hx with e | hx
   ·exact e
   ·rcases List.mem_cons.1 hy with e | hy
    ·exact e.symm
    ·have a1:=(List.pairwise_cons.1 h2).1 x hx;have a2:=(List.pairwise_cons.1 h1).1 y hy;rw[zSa a1] at a2;cases a2
  subst e
  congr 1
  refine xsa (List.pairwise_cons.1 h1).2 (List.pairwise_cons.1 h2).2 fun d=>?_
  have h3:=h d;simp only[List.mem_cons] at h3
  constructor
  ·intro hd;rcases h3.1 (.inr hd) with e | h4
   ·have:=(List.pairwise_cons.1 h1).1 d hd;rw[e,qz] at this;cases this
   ·exact h4
  ·intro hd;rcases h3.2 (.inr hd) with e | h4
   ·have:=(List.pairwise_cons.1 h2).1 d hd;rw[e,qz] at this;cases this
   ·exact h4
def zsa(s:List DT)(d:DT):List DT:=(s.filter fun x=>zd x d)++[d]++(s.filter fun x=>zd d x)
theorem ins_mem{s:List DT}{d x:DT}:x∈zsa s d↔x=d\/x∈s:=by
 simp only[zsa,List.mem_append,List.mem_filter,List.mem_singleton]
 constructor
 ·rintro((h | h) | h)
  ·exact .inr h.1
  ·exact .inl h
  ·exact .inr h.1
 ·rintro(h | h)
  ·exact .inl (.inr h)
  ·cases h1:zd x d with
   | true=>exact .inl (.inl ⟨h,rfl⟩)
   | false=>
    cases h2:zd d x with
    | true=>exact .inr ⟨h,rfl⟩
    | false=>exact .inl (.inr (wha h1 h2))
theorem ins_srt{s:List DT}(h:Srt s)(d:DT):Srt (zsa s d):=by
 unfold Srt zsa;rw[List.pairwise_append,List.pairwise_append];refine⟨⟨h.filter _,by simp,fun a ha b hb=>?_⟩,h.filter _,fun a ha b hb=>?_⟩
 ·rw[List.mem_singleton.1 hb];exact(List.mem_filter.1 ha).2
 ·have hb:=(List.mem_filter.1 hb).2;rcases List.mem_append.1 ha with ha | ha
  ·exact WO (List.mem_filter.1 ha).2 hb
  ·rw[List.mem_singleton.1 ha];exact hb
theorem zTa(s:List DT)(d:DT):(zsa s d).length<=s.length+1:=by
 unfold zsa;have h:∀ l:List DT,(l.filter fun x=>zd x d).length+(l.filter fun x=>zd d x).length<=l.length:=by
  intro l
  induction l with
  | nil=>simp
  | cons x r ih=>
   cases h1:zd x d with
   | true=>simp[h1,zSa h1];omega
   | false=>
    cases h2:zd d x with
    | true=>simp[h1,h2];omega
    | false=>simp[h1,h2];omega
 have:=h s;simp;omega
def vG(l:List DT):List DT:=l.foldl zsa []
theorem jV : ∀ (l s:List DT),Srt s->Srt (l.foldl zsa s)/\(∀ d,d∈l.foldl zsa s↔d∈s\/d∈l)/\(l.foldl zsa s).length<=s.length+l.length
 | [],s,h=>⟨h,by simp,by simp⟩
 | x::r,s,h=>by
  obtain⟨h1,h2,h3⟩:=jV r (zsa s x) (ins_srt h x);refine⟨h1,fun d=>?_,?_⟩
  ·rw[List.foldl_cons,h2 d,ins_mem,List.mem_cons]
   constructor
   ·rintro((h | h) | h)
    ·exact .inr (.inl h)
    ·exact .inl h
    ·exact .inr (.inr h)
   ·rintro(h | h | h)
    ·exact .inl (.inr h)
    ·exact .inl (.inl h)
    ·exact .inr h
  ·have:=zTa s x;rw[List.foldl_cons,List.length_cons];omega
theorem wia(l:List DT):Srt (vG l):=(jV l [] List.Pairwise.nil).1
theorem Vs{l:List DT}{d:DT}:d∈vG l↔d∈l:=by simpa[vG] using (jV l [] List.Pairwise.nil).2.1 d
theorem WP(l:List DT):(vG l).length<=l.length:=by simpa[vG] using (jV l [] List.Pairwise.nil).2.2
theorem u5a{l:List DT}(h:Srt l):vG l=l:=xsa (wia l) h fun _=>Vs
theorem xta(s:List DT)(d:DT)(h:s.length<=1000000000000):Yk s d=pure (zsa s d):=V.UU s d h
def ddS(out:List DT)(x:DT):List DT:=if out.getLast?=some x then out else out++[x]
def dd(l:List DT):List DT:=l.foldl ddS []
theorem Jd(l:List DT)(x:DT):dd (l++[x])=ddS (dd l) x:=by simp[dd]
theorem xua(l:List DT):(dd l).getLast?=l.getLast?:=by
 rcases R.yn l with rfl | ⟨r,y,rfl⟩
 ·rfl
 ·rw[Jd];unfold ddS
  by_cases c:(dd r).getLast?=some y
  ·rw[if_pos c,c];simp
  ·rw[if_neg c];simp
theorem dd_mem{l:List DT}{d:DT}:d∈dd l↔d∈l:=by
 have:∀ (l s:List DT),d∈l.foldl ddS s↔d∈s\/d∈l:=by
  intro l
  induction l with
  | nil=>intro s;simp
  | cons x r ih=>
   intro s;rw[List.foldl_cons,ih];have h2:d∈ddS s x↔d∈s\/d=x:=by
    unfold ddS
    split
    ·rename_i h
     exact⟨.inl,fun h3=>h3.elim id fun e=>by rw[e];exact List.mem_of_getLast? h⟩
    ·simp
   rw[h2,List.mem_cons];exact or_assoc
 simpa[dd] using this l []
theorem dd_srt{l:List DT}(h:l.Pairwise fun x y=>zd y x=false):Srt (dd l):=by
 have:∀ (n:Nat) (l:List DT),l.length=n->(l.Pairwise fun x y=>zd y x=false)->Srt (dd l):=by
  intro n
  induction n with
  | zero=>intro l hl _;have:=List.eq_nil_of_length_eq_zero hl;subst this;exact List.Pairwise.nil
  | succ n ih=>
   intro l hl h;rcases R.yn l with rfl | ⟨r,y,rfl⟩
   ·simp at hl
   ·rw[List.pairwise_append] at h;have hr:=ih r (by simpa using hl) h.1;rw[Jd];unfold ddS
    split
    ·exact hr
    ·rename_i hne
     unfold Srt;rw[List.pairwise_append];refine⟨hr,by simp,fun a ha b hb=>?_⟩;rw[List.mem_singleton.1 hb];have ha':=dd_mem.1 ha;have h1:=h.2.2 a ha' y (by simp)
     cases h2:zd a y with
     | true=>rfl
     | false=>
      exfalso;have e:=wha h2 h1;subst e;rw[xua] at hne;rcases R.yn r with rfl | ⟨q,z,rfl⟩
      ·simp at ha'
      ·have hz:zd a z=false:=h.2.2 z (by simp) a (by simp);rcases List.mem_append.1 ha' with h5 | h5
       ·have h6:zd z a=false:=by
         have:=(List.pairwise_append.1 h.1).2.2 a h5 z (by simp);exact this
        have:=wha hz h6;subst this;simp at hne
       ·rw[List.mem_singleton.1 h5] at hne;simp at hne
 exact this l.length l rfl h
theorem zUa(l:List DT)(h:l.length<=1000000000000):yL l=pure l:=by
 unfold yL;refine Ya ⟨⟨false,fun h=>by cases h⟩,fun b hb=>?_⟩
 cases b with
 | true=>show([]:List DT)=l;exact(hb rfl).symm
 | false=>
  show _/\([]++l=l)
  exact⟨by simp;omega,List.nil_append l⟩
theorem yga(x y:DT):(decide (x.dev=y.dev)&&decide (x.n=y.n))=decide (x=y):=by
 cases x;cases y;simp[Bool.decide_and]
theorem Xe{l:List DT}{m:Nat}{x:DT}(h:l[m]?=some x):l.take (m+1)=l.take m++[x]:=by
 rw[List.take_add_one,h];rfl
theorem yha{l:List DT}{m:Nat}{x:DT}(h:l[m]?=some x):(l.take (m+1)).getLast?=some x:=by rw[Xe h];simp
theorem Ua(s:List DT)(k:Nat)(hk:k < s.length)(hl:s.length<=1000000000000):∀ (d k2 kk:Nat) (v:List DT),k+k2+d=s.length->1<=k2->v.length=s.length->kk+1<=k+k2->v.take kk=dd (s.take (k+k2))->v.drop (k+k2 - 1)=s.drop (k+k2 - 1) ->
  ∃ (kk':Nat) (v':List DT),loop (zj s (k:Int)) ((kk:Int),(k2:Int),v)=pure ((kk':Int),v')/\v'.length=s.length/\kk'<=s.length/\v'.take kk'=dd s
 | 0,k2,kk,v,hd,h1,hv,hkk,ht,_=>by
  refine⟨kk,v,ze ?_,hv,by omega,by rw[ht,show k+k2=s.length by omega,List.take_length]⟩;unfold zj;have:decide ((k2:Int) < (((s.length - (k:Int).toNat:Nat)):Int))=false:=by simp;omega
  simp only[this,cond_false]
 | d+1,k2,kk,v,hd,h1,hv,hkk,ht,hdr=>by
  have hvg:∀ j,k+k2 - 1<=j->v[j]?=s[j]?:=fun j hj=>by
   have:=congrArg (fun l=>l[j - (k+k2 - 1)]?) hdr;simp only[List.getElem?_drop] at this;rw[show k+k2 - 1+(j - (k+k2 - 1))=j by omega] at this;exact this
  obtain⟨x,hx⟩:∃ x,s[k+k2]?=some x:=⟨_,List.getElem?_eq_getElem (by omega)⟩
  obtain⟨y,hy⟩:∃ y,s[k+k2 - 1]?=some y:=⟨_,List.getElem?_eq_getElem (by omega)⟩
  have hlast:(dd (s.take (k+k2))).getLast?=some y:=by
   rw[xua];have:=yha hy
   rwa [show k+k2 - 1+1=k+k2 by omega] at this
  have hdd:dd (s.take (k+k2+1))=if y=x then dd (s.take (k+k2)) else dd (s.take (k+k2))++[x]:=by
   rw[Xe hx,Jd];unfold ddS;rw[hlast]
   by_cases c:y=x
   ·rw[if_pos c,if_pos (by rw[c])]
   ·rw[if_neg c,if_neg (by intro e;exact c (Option.some.inj e))]
  have hb:zj s (k:Int) ((kk:Int),(k2:Int),v)=pure (.next (if y=x then ((kk:Int),((k2+1:Nat):Int),v) else (((kk+1:Nat):Int),((k2+1:Nat):Int),v.set kk x))):=by
   unfold zj;have hc:decide ((k2:Int) < (((s.length - (k:Int).toNat:Nat)):Int))=true:=by simp;omega
   have e1:IntKind.i64.wrap ((k2:Int) - 1)=((k2 - 1:Nat):Int):=by rw[UC (by omega) (by omega)];omega
   have i1:idx v ((((k:Int).toNat+(k2:Int).toNat:Nat)):Int)=pure x:=zJ (by rw[Int.toNat_natCast,Int.toNat_natCast,hvg _ (by omega)];exact hx);have i2:idx v ((((k:Int).toNat+(((k2 - 1:Nat):Int)).toNat:Nat)):Int)=pure y:=zJ (by rw[Int.toNat_natCast,Int.toNat_natCast,hvg _ (by omega),show k+(k2 - 1)=k+k2 - 1 by omega];exact hy);obtain⟨z,hz⟩:∃ z,v[kk]?=some z:=⟨_,List.getElem?_eq_getElem (by omega)⟩
   have i3:idx v (kk:Int)=pure z:=zJ hz;simp only[hc,cond_true,e1];rw[zH (by simp;omega),i1,zA,zH (by simp;omega),i2,zA];simp only[yga]
   by_cases c:y=x
   ·have c1:decide (x=y)=true:=decide_eq_true c.symm;simp only[c1,Bool.not_true,cond_false,zA,yR (show k2 < 9223372036854775807 by omega),if_pos c]
   ·have c1:decide (x=y)=false:=decide_eq_false (fun e=>c e.symm);simp only[c1,Bool.not_false,cond_true,if_neg c];rw[zH (by simp;omega),i3];simp only[zA,yR (show k2 < 9223372036854775807 by omega),yR (show kk < 9223372036854775807 by omega),Int.toNat_natCast]
  by_cases c:y=x
  ·rw[if_pos c] at hb hdd;rw[zq hb];refine Ua s k hk hl d (k2+1) kk v (by omega) (by omega) hv (by omega) (by rw[ht,<- hdd];rfl) ?_;have:=congrArg (List.drop 1) hdr;rw[List.drop_drop,List.drop_drop,show k+k2 - 1+1=k+(k2+1) - 1 by omega] at this;exact this
  ·rw[if_neg c] at hb hdd;rw[zq hb];refine Ua s k hk hl d (k2+1) (kk+1) (v.set kk x) (by omega) (by omega) (by simpa using hv) (by omega) ?_ ?_
   ·have h5:(v.set kk x)[kk]?=some x:=by rw[List.getElem?_set];simp;omega
    rw[Xe h5,List.take_set,List.set_eq_of_length_le (by rw[List.length_take];omega),ht,<- hdd];rfl
   ·rw[List.drop_set,if_pos (by omega)];have:=congrArg (List.drop 1) hdr;rw[List.drop_drop,List.drop_drop,show k+k2 - 1+1=k+(k2+1) - 1 by omega] at this;exact this
theorem vaa(s:List DT)(hl:s.length<=1000000000000):zt s=pure (dd s):=by
 unfold zt
 by_cases h2:s.length < 2
 ·have:decide ((s.length:Int) < 2)=true:=by simp;omega
  rw[this,cond_true]
  match s,h2 with
  | [],_=>rfl
  | [x],_=>rfl
 ·have:decide ((s.length:Int) < 2)=false:=by simp;omega
  rw[this,cond_false];have key:∀ d k,k+d=s.length->1<=k->dd (s.take k)=s.take k->(loop (zk s) (k:Int)).bind (exk fun _=>pure s)=pure (dd s):=by
   intro d
   induction d with
   | zero=>
    intro k hk h1 hd;rw[ze (r:=.brk ()) (by
     unfold zk;have:decide ((k:Int) < (s.length:Int))=false:=by simp;omega
     simp only[this,cond_false])]
    rw[show k=s.length by omega,List.take_length] at hd;show pure s=pure (dd s);rw[hd]
   | succ d ih=>
    intro k hk h1 hd;obtain⟨x,hx⟩:∃ x,s[k]?=some x:=⟨_,List.getElem?_eq_getElem (by omega)⟩
    obtain⟨y,hy⟩:∃ y,s[k - 1]?=some y:=⟨_,List.getElem?_eq_getElem (by omega)⟩
    have hlast:(dd (s.take k)).getLast?=some y:=by
     rw[xua];have:=yha hy
     rwa [show k - 1+1=k by omega] at this
    have hc:decide ((k:Int) < (s.length:Int))=true:=by simp;omega
    have i1:idx s (k:Int)=pure x:=zJ hx;have i2:idx s (IntKind.i64.wrap ((k:Int) - 1))=pure y:=by
     rw[UC (by omega) (by omega)];exact VF (by omega) (by rw[show((k:Int) - 1).toNat=k - 1 by omega];exact hy)
    by_cases c:x=y
    ·subst c;obtain⟨kk,v,h5,h6,h7,h8⟩:=Ua s k (by omega) hl d 1 k s (by omega) (by omega) rfl (by omega) (by
      rw[Xe hx,Jd,ddS,if_pos hlast,hd]) (by rw[show k+1 - 1=k by omega])
     rw[ze (r:=.ret (dd s)) (by
      unfold zk;simp only[hc,cond_true,i1,i2,zA,yga,decide_true];rw[zH (by omega),show(1:Int)=((1:Nat):Int) from rfl,h5,zA];simp only[];rw[zH (by omega),zH (by simp;omega),zH (by
       simp only[List.length_append,List.length_take,List.length_replicate,List.length_drop,Int.toNat_natCast];omega),zA,jo]
      congr 3
      rw[Int.toNat_natCast,List.append_assoc,List.take_append_of_le_length (by rw[List.length_take];omega),List.take_take,Nat.min_self,h8])]
     rfl
    ·have c1:decide (x=y)=false:=decide_eq_false c;rw[zq (s':=((k+1:Nat):Int)) (by
      unfold zk;simp only[hc,cond_true,i1,i2,zA,yga,c1,cond_false,ZC,yR (show k < 9223372036854775807 by omega)])]
     refine ih (k+1) (by omega) (by omega) ?_;rw[Xe hx,Jd,ddS,if_neg (by rw[hlast];intro e;exact c (Option.some.inj e).symm),hd]
  have:=key (s.length - 1) 1 (by omega) (by omega) (by
   obtain⟨x,r,rfl⟩:∃ x r,s=x::r:=by
    cases s with
    | nil=>simp at h2
    | cons x r=>exact⟨x,r,rfl⟩
   rfl)
  exact this
theorem ula{l:List DT}{Q:List DT->Prop}(h:∀ s,s.Perm l->(s.Pairwise fun x y=>zd y x=false)->Q s):(srt zd l).wp Q:=by
 refine⟨⟨l.mergeSort (fun x y=>!zd y x),List.mergeSort_perm _ _,?_⟩,fun s ⟨h1,h2⟩=>h s h1 h2⟩;refine(List.pairwise_mergeSort (fun a b c h1 h2=>?_) (fun a b=>?_) l).imp fun {x y} h=>by simpa using h
 ·simp only[Bool.not_eq_true'] at h1 h2 ⊢
  cases h3:zd c a with
  | false=>rfl
  | true=>
   rw[qy] at h3;have h4:¬ (zd b a=true):=by simp[h1]
   have h5:¬ (zd c b=true):=by simp[h2]
   rw[qy] at h4 h5;omega
 ·cases h1:zd b a with
  | false=>rfl
  | true=>rw[zSa h1];rfl
theorem xva(l:List DT)(h:l.length<=1000000000000):Xt l=pure (vG l):=by
 unfold Xt;rw[zUa l h,zB,zA,zH (by omega)];refine Ya (ula fun s hs hp=>?_);show(bind (det (zt s)) fun y8=>pure y8).wp _;rw[vaa s (by rw[hs.length_eq];exact h),zB,zA];exact xsa (dd_srt hp) (wia l) fun d=>by rw[dd_mem,Vs];exact hs.mem_iff
theorem cmp16_eq(x y:Int):xj x y=pure (R.uma x y):=by
 unfold xj wi R.uma;simp only[decide_true,Bool.not_true,zB,zA,cond_false,wq]
 split
 ·rfl
 ·split <;> rfl
theorem Je(a b:DT):wP a b=pure (V.y2a a b):=by
 unfold wP;rw[cmp16_eq,zB,zA,R.una,zB,zA];unfold V.y2a R.uma
 cases a with | mk d n=>cases b with | mk e m=>
 simp only[DT.mk.injEq,zd]
 by_cases h1:d < e
 ·have:¬ d=e:=by omega
  simp[h1,this]
 ·by_cases h2:e < d
  ·have:¬ d=e:=by omega
   simp[h1,h2,this]
  ·have h3:d=e:=by omega
   subst h3
   by_cases h4:n < m
   ·have:¬ n=m:=by omega
    simp[h4,this]
   ·by_cases h5:m < n
    ·have:¬ n=m:=by omega
     simp[h4,h5,this]
    ·have:n=m:=by omega
     simp[this]
theorem zVa{σ ρ ε:Type}{body:σ->M (Step σ ρ)}(l:List ε)(f:ε->List Int)(row:List Int)(N:Nat)(mk:Nat->List Int->σ)(g:List Int->M ρ)(hN:row.length+(l.flatMap f).length<=N)
  (h1:∀ (i:Nat) (x:ε) (out:List Int),l[i]?=some x->i < l.length->out.length+(f x).length<=N->body (mk i out)=pure (.next (mk (i+1) (out++f x))))
  (h2:∀ out,body (mk l.length out)=(g out).bind fun r=>pure (.done r)):loop body (mk 0 row)=g (row++l.flatMap f):=by
 have key:∀ (k i:Nat) (out:List Int),i+k=l.length->out.length+((l.drop i).flatMap f).length<=N->loop body (mk i out)=g (out++(l.drop i).flatMap f):=by
  intro k
  induction k with
  | zero=>
   intro i out hi _;have:i=l.length:=by omega
   subst this;rw[jp,h2,List.drop_length];simp only[List.flatMap_nil,List.append_nil]
   rfl
  | succ k ih=>
   intro i out hi hl;have hlt:i < l.length:=by omega
   rw[List.drop_eq_getElem_cons hlt,List.flatMap_cons,List.length_append] at hl;rw[zq (h1 i l[i] out (List.getElem?_eq_getElem hlt) hlt (by omega)),ih (i+1) _ (by omega) (by rw[List.length_append];omega),List.drop_eq_getElem_cons hlt,List.flatMap_cons,List.append_assoc]
 simpa using key l.length 0 row (by omega) (by simpa using hN)
theorem Vt{ε:Type}(l:List ε)(f:ε->List Int)(k:Nat)(h:∀ x∈l,(f x).length<=k):(l.flatMap f).length<=k*l.length:=by
 induction l with
 | nil=>simp
 | cons x r ih=>
  have h1:=h x (by simp);have h2:=ih fun y hy=>h y (by simp[hy])
  rw[List.flatMap_cons,List.length_append,List.length_cons,Nat.mul_add];omega
structure OkD(d:DT):Prop where
 d0:0<=d.dev
 d1:d.dev<=65535
 n0:0<=d.n
 n1:d.n<=18446744073709551615
def encD(d:DT):List Int:=N.yh d.dev++N.yh d.n
theorem jW{d:DT}(h:OkD d):(encD d).length<=18:=by
 have h1:=N.zX (v:=d.dev) (by have:=h.d1;omega);have h2:=N.zX (v:=d.n) h.n1;rw[encD,List.length_append];omega
theorem yia{d:DT}(h:OkD d)(row:List Int)(hr:row.length<=1000000000000):wb d row=pure (row++encD d):=by
 have h1:=N.zX (v:=d.dev) (by have:=h.d1;omega);unfold wb;rw[WY h.d0 (by have:=h.d1;omega),N.vq row h.d0 (by have:=h.d1;omega) (by omega),zB,zA,N.vq _ h.n0 h.n1 (by rw[List.length_append];omega),zB,zA,encD,List.append_assoc]
def Zl(l:List DT):List DT:=l.filter V.yW
def uk(l:List DT):List Int:=N.yh (vG (Zl l)).length++(vG (Zl l)).flatMap encD
theorem u6a(l : List DT)(hl : l.length<=1000000000000) : loop (yr l) (0, [])=pure (Zl l) := by
  have := XS (body := yr l) l (fun i t => ((i : Int), t)) (fun t d => if V.yW d=true then t++[d] else t) (fun t => pure t) (fun i t => t.length<=i) (fun i x t hx hi hI => by
    have hd : decide ((i : Int) < (l.length : Int))=true := by simpa using hi
    refine ⟨?_, by split
                   · simp; omega
                   · omega⟩
    unfold yr;simp only[hd, cond_true, zJ hx, zA, V.ZW, zB, yR (show i < 9223372036854775807 by omega)]
    by_cases c : V.yW x=true
    · rw[c, cond_true, zH (by simp; omega), zA, if_pos rfl]
    · simp only[Bool.not_eq_true] at c;rw[c, cond_false, zA]; rfl) (fun t _ => by
    unfold yr;simp[zA]) [] (by simp)
  rw[show(0 : Int)=((0 : Nat) : Int) from rfl, this]
  congr 1
  have key : ∀ (l t : List DT), l.foldl (fun t d => if V.yW d=true then t++[d] else t) t=t++Zl l := by
    intro l
    induction l with
    | nil => intro t; simp[Zl]
    | cons x r ih =>
      intro t;rw[List.foldl_cons, ih];unfold Zl
      by_cases c : V.yW x=true
      · rw[if_pos c, List.filter_cons_of_pos c, List.append_assoc]; rfl
      · rw[if_neg c, List.filter_cons_of_neg c]
  simpa using key l []
theorem good_mem{l:List DT}{d:DT}:d∈vG (Zl l)↔d∈l/\V.yW d=true:=by rw[Vs,Zl,List.mem_filter]
theorem zWa(l:List DT):(vG (Zl l)).length<=l.length:=Nat.le_trans (WP _) (List.length_filter_le _ _)
theorem zXa{l:List DT}(h:∀ d∈l,OkD d):∀ d∈vG (Zl l),OkD d:=fun d hd=>h d (good_mem.1 hd).1
theorem u7a{l:List DT}(h:∀ d∈l,OkD d)(hl:l.length<=1000000000000):(uk l).length<=9+18*l.length:=by
 have h1:=N.zX (v:=((vG (Zl l)).length:Int)) (by have:=zWa l;omega);have h2:=Vt (vG (Zl l)) encD 18 fun x hx=>jW (zXa h x hx)
 have h3:=zWa l;rw[uk,List.length_append];omega
theorem vba{l:List DT}(h:∀ d∈l,OkD d)(hl:l.length<=1000000000)(row:List Int)(hr:row.length<=100000000000):vT l row=pure (row++uk l):=by
 have h3:=zWa l;have h1:=N.zX (v:=((vG (Zl l)).length:Int)) (by omega);have h2:=Vt (vG (Zl l)) encD 18 fun x hx=>jW (zXa h x hx)
 unfold vT;rw[u6a l (by omega),zA,xva _ (by have:=List.length_filter_le V.yW l;unfold Zl;omega),zB,zA,WY (by omega) (by omega),N.vq row (by omega) (by omega) (by omega),zB,zA];have:=zVa (body:=xn (vG (Zl l))) (vG (Zl l)) encD (row++N.yh ((vG (Zl l)).length:Int)) 1000000000000 (fun i out=>((i:Int),out)) (fun t=>pure t) (by rw[List.length_append];omega) (fun i x out hx hi ho=>by
  have hd:decide ((i:Int) < ((vG (Zl l)).length:Int))=true:=by simpa using hi
  unfold xn;simp only[hd,cond_true,zJ hx,zA,yia (zXa h x (List.mem_of_getElem? hx)) out (by omega),zB,yR (show i < 9223372036854775807 by omega)]) (fun out=>by
  unfold xn;simp[zA])
 rw[show(0:Int)=((0:Nat):Int) from rfl,this,uk,List.append_assoc]
def qA(x:RN):List Int:=N.yh x.lo++N.yh x.hi
def zYa(p:PT):List Int:=N.yh p.dev++(N.yh p.runs.length++p.runs.flatMap qA)
def yea(c:List PT):List Int:=N.yh c.length++c.flatMap zYa
def uJ(c:List PT):List Int:=yea (C.zh c)
structure OkP(p:PT):Prop where
 d0:0<=p.dev
 d1:p.dev<=65535
 r:∀ x∈p.runs,(0<=x.lo/\x.lo<=18446744073709551615)/\0<=x.hi/\x.hi<=18446744073709551615
theorem wja{x:RN}(h:(0<=x.lo/\x.lo<=18446744073709551615)/\0<=x.hi/\x.hi<=18446744073709551615):(qA x).length<=18:=by
 have h1:=N.zX h.1.2;have h2:=N.zX h.2.2;rw[qA,List.length_append];omega
theorem encP_len{p:PT}(h:OkP p)(hl:p.runs.length<=1000000000000):(zYa p).length<=18+18*p.runs.length:=by
 have h1:=N.zX (v:=p.dev) (by have:=h.d1;omega);have h2:=N.zX (v:=(p.runs.length:Int)) (by omega);have h3:=Vt p.runs qA 18 fun x hx=>wja (h.r x hx)
 rw[zYa,List.length_append,List.length_append];omega
theorem yja(c:List PT)(h:∀ p∈c,OkP p)(hl:C.yw c<=1000000000000):(c.flatMap zYa).length<=18*c.length+18*C.yw c:=by
 induction c with
 | nil=>simp
 | cons p r ih=>
  have e:C.yw (p::r)=p.runs.length+C.yw r:=by simp[C.yw]
  have h1:=encP_len (h p (by simp)) (by omega);have h2:=ih (fun q hq=>h q (by simp[hq])) (by omega);rw[List.flatMap_cons,List.length_append,List.length_cons,e];omega
theorem jX{c:List PT}(h:∀ p∈c,OkP p)(hc:c.length<=1000000000000)(hl:C.yw c<=1000000000000):(yea c).length<=9+18*c.length+18*C.yw c:=by
 have h1:=N.zX (v:=(c.length:Int)) (by omega);have h2:=yja c h hl;rw[yea,List.length_append];omega
theorem WQ{c:List PT}(h:∀ p∈c,p.dev<=65535):∀ p∈C.zh c,OkP p:=fun p hp=>by
 have h1:=(C.YU c).nf p hp;refine⟨by omega,?_,fun x hx=>?_⟩
 ·have h2:=(C.vn.1 hp).1;obtain⟨q,hq,e⟩:=(C.ww.1 h2).1;rw[<- e];exact h q hq
 ·have:=R.zg.1 (h1.2.2.may x hx);omega
theorem u8a{c:List PT}(ho:C.Ok c)(h:∀ p∈c,p.dev<=65535)(hs:c.length<=100000000/\C.yw c<=100000000)(row:List Int)(hr:row.length<=100000000000):yK c row=pure (row++uJ c):=by
 have hn:=C.ZZ c;have ht:=C.Za c;have hp:=WQ h;have hl:=jX hp (by omega) (by omega);have h9:=N.zX (v:=((C.zh c).length:Int)) (by omega);have hf:=yja (C.zh c) hp (by omega);unfold yK;rw[C.zNa c ho.sm,zB,zA,WY (by omega) (by omega),N.vq row (by omega) (by omega) (by omega),zB,zA];have:=zVa (body:=xz (C.zh c)) (C.zh c) zYa (row++N.yh ((C.zh c).length:Int)) 1000000000000 (fun i out=>((i:Int),out)) (fun t=>pure t) (by rw[List.length_append];omega) (fun i p out hx hi hout=>by
  have hd:decide ((i:Int) < ((C.zh c).length:Int))=true:=by simpa using hi
  have hm:=List.mem_of_getElem? hx;have hpp:=hp p hm;have hrl:p.runs.length<=1000000000:=by have:=C.qw p hm;omega
  have e1:=N.zX (v:=p.dev) (by have:=hpp.d1;omega);have e2:=N.zX (v:=(p.runs.length:Int)) (by omega);have e3:=Vt p.runs qA 18 fun x hx=>wja (hpp.r x hx)
  unfold xz;simp only[hd,cond_true,zJ hx,zA];rw[WY hpp.d0 (by have:=hpp.d1;omega),N.vq out hpp.d0 (by have:=hpp.d1;omega) (by omega),zB,zA,WY (by omega) (by omega),N.vq _ (by omega) (by omega) (by rw[List.length_append];omega),zB,zA];have:=zVa (body:=xy p) p.runs qA (out++N.yh p.dev++N.yh (p.runs.length:Int)) 2000000000000 (fun i out=>((i:Int),out)) (fun t=>pure t) (by rw[List.length_append,List.length_append];omega) (fun j x out2 hx2 hj hout2=>by
   have hd2:decide ((j:Int) < (p.runs.length:Int))=true:=by simpa using hj
   have hxr:=hpp.r x (List.mem_of_getElem? hx2);have e4:=N.zX hxr.1.2;unfold xy;simp only[hd2,cond_true,zJ hx2,zA];rw[N.vq out2 hxr.1.1 hxr.1.2 (by omega),zB,zA,N.vq _ hxr.2.1 hxr.2.2 (by rw[List.length_append];omega),zB,zA,yR (show j < 9223372036854775807 by omega),qA,List.append_assoc]) (fun out=>by
   unfold xy;simp[zA])
  rw[show(0:Int)=((0:Nat):Int) from rfl,this,zA,yR (show i < 9223372036854775807 by omega),zYa];simp only[List.append_assoc]) (fun out=>by
  unfold xz;simp[zA])
 rw[show(0:Int)=((0:Nat):Int) from rfl,this,uJ,yea,List.append_assoc]
theorem by_encC(c:List PT)(h:∀ p∈C.zh c,OkP p)(hl:(C.zh c).length<=1000000000000/\C.yw (C.zh c)<=1000000000000):N.By (uJ c):=by
 have hR:∀ p,OkP p->∀ x∈p.runs,N.By (qA x):=fun p hp x hx=>(N.we (hp.r x hx).1.2).app (N.we (hp.r x hx).2.2)
 have flat:∀ {ε:Type} (l:List ε) (f:ε->List Int),(∀ x∈l,N.By (f x))->N.By (l.flatMap f):=fun l f hf y hy=>by
  obtain⟨x,hx,h⟩:=List.mem_flatMap.1 hy;exact hf x hx y h
 refine(N.we (by omega)).app (flat _ _ fun p hp=>?_);have hpp:=h p hp;have:=C.qw p hp;exact(N.we (by have:=hpp.d1;omega)).app ((N.we (by omega)).app (flat _ _ (hR p hpp)))
open N (RS Ok zQ zp vp WL OkB Sim)
def Uw(c:Bool)(s:RS):RS:=if c=true then vp 4 s else s
def fin{α:Type}(z x:α)(t:RS):α×RS:=if t.2≠0 then (z,t) else (x,t)
theorem Xf(e:Int)(s:RS):(vp e s).1.length<=s.1.length:=by unfold vp;split <;> simp
theorem Ub{s:RS}(h:Ok s)(c:Bool):Ok (Uw c s):=by unfold Uw;split;exact N.Xd h _;exact h
theorem zZa(c:Bool)(s:RS):(Uw c s).1.length<=s.1.length:=by unfold Uw;split;exact Xf _ _;exact Nat.le_refl _
theorem Ww{c:Bool}{s:RS}(h:(Uw c s).2=0):c=false/\s.2=0/\Uw c s=s:=by
 unfold Uw at h ⊢
 cases c with
 | true=>exact absurd h (N.vA (by decide))
 | false=>exact⟨rfl,h,rfl⟩
theorem u9a{s:RS}:(Uw true s).2≠0:=N.vA (by decide)
theorem ux{s:RS}:Uw false s=s:=rfl
theorem Wi{α:Type}(z x:α)(t:RS):(fin z x t).2=t:=by unfold fin;split <;> rfl
theorem Uq{α:Type}{z x:α}{t:RS}(h:t.2=0):fin z x t=(x,t):=if_neg (by simp[h])
theorem Uc{α:Type}{z x:α}{t:RS}(h:t.2≠0):fin z x t=(z,t):=if_pos h
theorem xwa(c:Bool)(s:RS):((cond c ((det (zI 4 s.1 s.2)).bind fun y=>pure (y.1,y.2)) (pure (s.1,s.2))):M RS)=pure (Uw c s):=by
 cases c with
 | true=>rw[cond_true,N.Zc,zB,zA];rfl
 | false=>rfl
theorem zaa(c:Bool)(s:RS):((cond (!c) ((det (zI 4 s.1 s.2)).bind fun y=>pure (y.1,y.2)) (pure (s.1,s.2))):M RS)=pure (Uw (!c) s):=xwa (!c) s
theorem xxa{α:Type}(z x:α)(t:RS):((det (zT t.1 t.2)).bind fun y=>(cond (!decide (y.1=0)) (pure (z,y.2.1,y.2.2)) (pure (x,y.2.1,y.2.2)):M (α×List Int×Int)))=pure (fin z x t):=by
 rw[N.Wh,zB,zA]
 by_cases h:t.2=0
 ·rw[Uq h,decide_eq_true h];rfl
 ·rw[Uc h,decide_eq_false h];rfl
theorem Vu(s:RS):(zQ s).2.1.length<=s.1.length:=by
 unfold zQ
 split
 ·exact Nat.le_refl _
 ·split
  ·exact Xf _ _
  ·simp
theorem yka{s:RS}(hO:Ok s)(h0:s.2=0)(h:(zQ s).2.2=0):(zQ s).2.1.length+1<=s.1.length:=by
 unfold zQ at h ⊢;rw[if_neg (by simp[h0])] at h ⊢
 by_cases c:(N.rdN s.1).2.2=0
 ·rw[if_neg (by simp[c])];rcases N.Jb s.1 hO.by_ with(h1 | h1) | ⟨n,r,h1,h2,h3,h4,_,h5⟩
  ·rw[h1] at c;simp at c
  ·rw[h1] at c;simp at c
  ·rw[h5,h1];simp
 ·rw[if_pos c] at h;exact absurd h (N.vA c)
theorem vz{s:RS}(h:(zQ s).2.2≠0):(zQ s).1=0:=by
 unfold zQ at h ⊢
 by_cases c:s.2≠0
 ·rw[if_pos c]
 ·rw[if_neg c] at h ⊢
  by_cases c2:(N.rdN s.1).2.2≠0
  ·rw[if_pos c2]
  ·rw[if_neg c2] at h;exact absurd rfl h
theorem ZAa(m:Int)(s:RS):(zp m s).2.1.length<=s.1.length:=by
 have h1:=Vu s;have h2:=Xf 4 (zQ s).2;unfold zp
 by_cases c:m < (zQ s).1
 ·rw[if_pos c];exact Nat.le_trans h2 h1
 ·rw[if_neg c];exact h1
theorem num_bad{s:RS}(h:s.2≠0):(zQ s).2=s:=by rw[N.num_of h]
theorem Wj{s:RS}(h:(zQ s).2.2=0):s.2=0:=Classical.byContradiction fun c=>by rw[num_bad c] at h;exact c h
theorem zba{m:Int}{s:RS}(h:(zp m s).2.2=0):(zQ s).2.2=0/\zp m s=zQ s:=by
 unfold zp at h ⊢
 by_cases c:m < (zQ s).1
 ·rw[if_pos c] at h;exact absurd h (N.vA (by decide))
 ·rw[if_neg c] at h ⊢;exact⟨h,rfl⟩
def dotR(s:RS):DT:=⟨(zp 65535 s).1,(zQ (zp 65535 s).2).1⟩
def dotT(s:RS):RS:=Uw (!V.yW (dotR s)) (zQ (zp 65535 s).2).2
def XH(s:RS):DT×RS:=fin ⟨0,0⟩ (dotR s) (dotT s)
theorem yla{s:RS}(h:Ok s):Ok (XH s).2/\OkD (XH s).1/\OkD (dotR s):=by
 obtain⟨h1,h2,h3⟩:=N.YB h (m:=65535) (by decide);obtain⟨h4,h5,h6⟩:=N.xL h1;have ht:Ok (dotT s):=Ub h4 _;have hr:OkD (dotR s):=⟨h2,h3,h5,h6⟩
 unfold XH
 by_cases c:(dotT s).2=0
 ·rw[Uq c];exact⟨ht,hr,hr⟩
 ·rw[Uc c];exact⟨ht,⟨Int.le_refl _,by simp,Int.le_refl _,by simp⟩,hr⟩
theorem wka{s:RS}(h:(XH s).2.2=0):V.yW (XH s).1=true/\(zp 65535 s).2.2=0/\(zQ (zp 65535 s).2).2.2=0/\XH s=(dotR s,(zQ (zp 65535 s).2).2):=by
 unfold XH at h ⊢;rw[Wi] at h;rw[Uq h];obtain⟨h1,h2,h3⟩:=Ww h;refine⟨by simpa using h1,Wj h2,h2,?_⟩;show(dotR s,dotT s)=_;rw[show dotT s=(zQ (zp 65535 s).2).2 from h3]
theorem dot_le(s:RS):(XH s).2.1.length<=s.1.length:=by
 unfold XH;rw[Wi];exact Nat.le_trans (zZa _ _) (Nat.le_trans (Vu _) (ZAa _ _))
theorem dot_lt{s:RS}(hO:Ok s)(h0:s.2=0)(h:(XH s).2.2=0):(XH s).2.1.length+1<=s.1.length:=by
 obtain⟨_,h1,h2,h3⟩:=wka h;obtain⟨h4,h5⟩:=zba h1;rw[h3];have h6:=Vu (zp 65535 s).2;rw[h5] at h6 ⊢;have h7:=yka hO h0 h4;exact Nat.le_trans (Nat.add_le_add_right h6 1) h7
theorem Dot_eq{s:RS}(h:Ok s):vf s.1 s.2=pure (XH s):=by
 obtain⟨h1,h2,h3⟩:=N.YB h (m:=65535) (by decide);unfold vf XH;rw[N.zRa h,zB,zA,N.uW h1,zB,zA,wU16 h2 h3,V.ZW,zB,zA];have e:=zaa (V.yW (dotR s)) (zQ (zp 65535 s).2).2;unfold dotR at e;rw[e,zA];exact xxa _ _ _
variable{B:List Int}{a:Int}{s:RS}
def Ur(out:List DT)(x:DT):Bool:=match out.getLast? with | some y=>decide (0<=V.y2a y x) | none=>false
def YC(out:List DT)(s:RS):RS:=Uw (Ur out (XH s).1) (XH s).2
def zy : Nat->List DT->RS->List DT×RS
 | 0,out,s=>(out,s)
 | k+1,out,s=>if (YC out s).2≠0 then ([],YC out s) else zy k (out++[(XH s).1]) (YC out s)
def vH(most:Int)(s:RS):List DT×RS:=if max most 0 < (zQ s).1 then ([],vp 3 (zQ s).2) else zy (zQ s).1.toNat [] (zQ s).2
theorem Xg{k:Nat}{out:List DT}{s:RS}(h:(YC out s).2≠0):zy (k+1) out s=([],YC out s):=if_pos h
theorem uy{k:Nat}{out:List DT}{s:RS}(h:(YC out s).2=0):zy (k+1) out s=zy k (out++[(XH s).1]) (YC out s):=if_neg (by simp[h])
theorem jY{s:RS}(h:Ok s)(out:List DT):Ok (YC out s):=Ub (yla h).1 _
theorem wla : ∀ (k:Nat) (out:List DT) (s:RS),Ok s->Ok (zy k out s).2
 | 0,_,_,h=>h
 | k+1,out,s,h=>by
  by_cases c:(YC out s).2=0
  ·rw[uy c];exact wla k _ _ (jY h out)
  ·rw[Xg c];exact jY h out
theorem ok_dots{s:RS}(h:Ok s)(most:Int):Ok (vH most s).2:=by
 have h1:=N.xL h;unfold vH
 split
 ·exact N.Xd h1.1 _
 ·exact wla _ _ _ h1.1
theorem last_idx{out:List DT}(h:out.length<=1000000000000)(x:DT)(cmp:DT->DT->M Int)(hc:∀ y,cmp y x=pure (V.y2a y x)) :
  ((cond (decide (0<=IntKind.i64.wrap ((out.length:Int) - 1))) ((idx out (IntKind.i64.wrap ((out.length:Int) - 1))).bind fun x61=>(det (cmp x61 x)).bind fun v63=>pure (decide (0<=v63))) (pure false)):M Bool)=pure (Ur out x):=by
 unfold Ur;rcases R.yn out with rfl | ⟨r,y,rfl⟩
 ·rfl
 ·have hl:((r++[y]).length:Int) - 1=(r.length:Int):=by simp
  rw[hl,UC (by omega) (by simp at h;omega)];have:decide ((0:Int)<=(r.length:Int))=true:=by simp
  rw[this,cond_true,zJ (y:=y) (by simp),zA,hc,zB,zA];simp
theorem wma{out:List DT}{s:RS}(h:(YC out s).2=0):Ur out (XH s).1=false/\(XH s).2.2=0/\YC out s=(XH s).2:=Ww h
theorem yma{y4:Int×List Int×Int}(hn:0<=y4.1/\y4.1<=18446744073709551615):∀ (k i:Nat) (out:List DT) (s:RS),(i:Int)+k=y4.1->Ok s->s.2=0->out.length+s.1.length<=1000000000 ->
  (loop (xH y4) ((i:Int),out,s.1,s.2)).bind (exk fun⟨out9,v10,v11⟩=>pure (out9,v10,v11))=pure (zy k out s)
 | 0,i,out,s,hi,_,_,_=>by
  rw[ze (r:=.brk (out,s.1,s.2)) (by
   unfold xH;have:decide ((i:Int) < y4.1)=false:=by simp;omega
   simp only[this,cond_false])]
  rfl
 | k+1,i,out,s,hi,hO,h0,hl=>by
  have hd:=yla hO;have hc:decide ((i:Int) < y4.1)=true:=by simp;omega
  have hlast:=last_idx (out:=out) (by omega) (XH s).1 wP (fun y=>Je y _);have hw:IntKind.u64.wrap ((i:Int)+1)=((i+1:Nat):Int):=by rw[WY (by omega) (by omega)];omega
  have hb:xH y4 ((i:Int),out,s.1,s.2)=(det (zT (YC out s).1 (YC out s).2)).bind fun y70=>cond (!decide (y70.1=0)) (pure (.done (.ret ([],y70.2.1,y70.2.2)))) (xg ((out.length+[(XH s).1].length)*16<=140737488355328) (pure (.next (IntKind.u64.wrap ((i:Int)+1),out++[(XH s).1],y70.2.1,y70.2.2)))):=by
   unfold xH;have e:=xwa (Ur out (XH s).1) (XH s).2;simp only[hc,cond_true,Dot_eq hO,zB,zA];rw[hlast,zA,e,zA]
   rfl
  rw[N.Wh,zB,zA] at hb
  by_cases c:(YC out s).2=0
  ·obtain⟨_,c2,c3⟩:=wma c;have hlt:=dot_lt hO h0 c2;rw[decide_eq_true c,Bool.not_true,cond_false,zH (by simp;omega),hw] at hb;rw[zq hb,uy c];exact yma hn k (i+1) _ (YC out s) (by omega) (jY hO out) c (by rw[c3];simp;omega)
  ·rw[decide_eq_false c,Bool.not_false,cond_true] at hb;rw[ze hb,Xg c]
   rfl
theorem zca{s:RS}(hO:Ok s){most:Int}(hm:most<=9223372036854775807):uE most s.1 s.2=pure (vH most s):=by
 obtain⟨h1,h2,h3⟩:=N.xL hO;unfold uE vH;rw[N.uW hO,zB,zA,WY (n:=max most 0) (by omega) (by omega)]
 by_cases c:max most 0 < (zQ s).1
 ·rw[decide_eq_true c,cond_true,if_pos c,N.Zc 3 (zQ s).2,zB,zA]
 ·rw[decide_eq_false c,cond_false,if_neg c]
  by_cases c2:(zQ s).2.2=0
  ·exact yma (y4:=zQ s) ⟨h2,h3⟩ (zQ s).1.toNat 0 [] (zQ s).2 (by omega) h1 c2 (by simp;have:=h1.len;omega)
  ·have hz:=vz c2;rw[hz,ze (r:=.brk ([],(zQ s).2.1,(zQ s).2.2)) (by
    unfold xH;simp only[hz,show decide ((0:Int) < 0)=false from rfl,cond_false])]
   rfl
open N (RS Ok zQ zp vp WL OkB Sim)
def uK : Nat->List RN->RS->List RN×RS
 | 0,out,s=>(out,s)
 | k+1,out,s=>
  if (zQ (zQ s).2).2.2≠0 then (out++[⟨(zQ s).1,(zQ (zQ s).2).1⟩],(zQ (zQ s).2).2) else uK k (out++[⟨(zQ s).1,(zQ (zQ s).2).1⟩]) (zQ (zQ s).2).2
def xZ(s:RS):PT×RS:=(⟨(zp 65535 s).1,(uK (zQ (zp 65535 s).2).1.toNat [] (zQ (zp 65535 s).2).2).1⟩,(uK (zQ (zp 65535 s).2).1.toNat [] (zQ (zp 65535 s).2).2).2)
theorem Jg{k:Nat}{out:List RN}{s:RS}(h:(zQ (zQ s).2).2.2≠0):uK (k+1) out s=(out++[⟨(zQ s).1,(zQ (zQ s).2).1⟩],(zQ (zQ s).2).2):=if_pos h
theorem WR{k:Nat}{out:List RN}{s:RS}(h:(zQ (zQ s).2).2.2=0):uK (k+1) out s=uK k (out++[⟨(zQ s).1,(zQ (zQ s).2).1⟩]) (zQ (zQ s).2).2:=if_neg (by simp[h])
theorem two_lt{s:RS}(hO:Ok s)(h0:s.2=0)(h:(zQ (zQ s).2).2.2=0):(zQ (zQ s).2).2.1.length+2<=s.1.length:=by
 have h1:=Wj h;have h2:=yka hO h0 h1;have h3:=yka (N.xL hO).1 h1 h;omega
theorem two_le(s:RS):(zQ (zQ s).2).2.1.length<=s.1.length:=Nat.le_trans (Vu _) (Vu _)
def ZBa(x:RN):Prop:=(0<=x.lo/\x.lo<=18446744073709551615)/\0<=x.hi/\x.hi<=18446744073709551615
theorem ZCa{s:RS}(h:Ok s):Ok (zQ (zQ s).2).2/\ZBa ⟨(zQ s).1,(zQ (zQ s).2).1⟩:=by
 obtain⟨h1,h2,h3⟩:=N.xL h;obtain⟨h4,h5,h6⟩:=N.xL h1;exact⟨h4,⟨h2,h3⟩,h5,h6⟩
theorem Jh : ∀ (k:Nat) (out:List RN) (s:RS),Ok s->s.2=0->(∀ x∈out,ZBa x)->Ok (uK k out s).2/\(∀ x∈(uK k out s).1,ZBa x)/\(uK k out s).1.length+(uK k out s).2.1.length<=out.length+s.1.length+1 /\
  ((uK k out s).2.2=0->(uK k out s).1.length+(uK k out s).2.1.length<=out.length+s.1.length/\(uK k out s).1.length=out.length+k)
 | 0,out,s,h,_,ho=>⟨h,ho,by show out.length+s.1.length<=_;omega,fun _=>⟨Nat.le_refl _,rfl⟩⟩
 | k+1,out,s,h,h0,ho=>by
  obtain⟨h1,h2⟩:=ZCa h;have ho':∀ x∈out++[⟨(zQ s).1,(zQ (zQ s).2).1⟩],ZBa x:=fun x hx=>by
   rcases List.mem_append.1 hx with h | h
   ·exact ho x h
   ·rw[List.mem_singleton.1 h];exact h2
  by_cases c:(zQ (zQ s).2).2.2=0
  ·rw[WR c];obtain⟨q1,q2,q3,q4⟩:=Jh k _ _ h1 c ho';have hlt:=two_lt h h0 c;simp only[List.length_append,List.length_singleton] at q3 q4;refine⟨q1,q2,by omega,fun hz=>?_⟩;have:=q4 hz;omega
  ·rw[Jg c];have:=two_le s;exact⟨h1,ho',by simp;omega,fun hz=>absurd hz c⟩
theorem yna{y5:Int×List Int×Int}(hn:0<=y5.1/\y5.1<=18446744073709551615):∀ (k i:Nat) (out:List RN) (s:RS),(i:Int)+k=y5.1->Ok s->s.2=0->out.length+s.1.length<=1000000000 ->
  loop (xI y5) ((i:Int),out,s.1,s.2)=pure (uK k out s)
 | 0,i,out,s,hi,_,_,_=>by
  exact ze (by
   unfold xI;have:decide ((i:Int) < y5.1)=false:=by simp;omega
   simp only[this,cond_false]
   rfl)
 | k+1,i,out,s,hi,hO,h0,hl=>by
  obtain⟨h1,h2,h3⟩:=N.xL hO;have hc:decide ((i:Int) < y5.1)=true:=by simp;omega
  have hw:IntKind.u64.wrap ((i:Int)+1)=((i+1:Nat):Int):=by rw[WY (by omega) (by omega)];omega
  have hb:xI y5 ((i:Int),out,s.1,s.2)=cond (!decide ((zQ (zQ s).2).2.2=0)) (pure (.done (out++[⟨(zQ s).1,(zQ (zQ s).2).1⟩],(zQ (zQ s).2).2))) (pure (.next (((i+1:Nat):Int),out++[⟨(zQ s).1,(zQ (zQ s).2).1⟩],(zQ (zQ s).2).2.1,(zQ (zQ s).2).2.2))):=by
   unfold xI;simp only[hc,cond_true,N.uW hO,N.uW h1,zB,zA,N.Wh];rw[zH (by simp;omega),hw]
  by_cases c:(zQ (zQ s).2).2.2=0
  ·have hlt:=two_lt hO h0 c;rw[decide_eq_true c,Bool.not_true,cond_false] at hb;rw[zq hb,WR c];exact yna hn k (i+1) _ (zQ (zQ s).2).2 (by omega) (ZCa hO).1 c (by simp;omega)
  ·rw[decide_eq_false c,Bool.not_false,cond_true] at hb;rw[ze hb,Jg c]
theorem part_eq{s:RS}(hO:Ok s):Zu s.1 s.2=pure (xZ s):=by
 obtain⟨h1,h2,h3⟩:=N.YB hO (m:=65535) (by decide);obtain⟨h4,h5,h6⟩:=N.xL h1;unfold Zu xZ;rw[N.zRa hO,zB,zA,N.uW h1,zB,zA,wU16 h2 h3]
 by_cases c:(zQ (zp 65535 s).2).2.2=0
 ·have:=yna (y5:=zQ (zp 65535 s).2) ⟨h5,h6⟩ (zQ (zp 65535 s).2).1.toNat 0 [] (zQ (zp 65535 s).2).2 (by omega) h4 c (by simp;have:=h4.len;omega);rw[show((0:Nat):Int)=0 from rfl] at this;rw[this,zA]
 ·have hz:=vz c;rw[hz,ze (r:=([],(zQ (zp 65535 s).2).2)) (by
   unfold xI;simp only[hz,show decide ((0:Int) < 0)=false from rfl,cond_false]),zA]
  rfl
theorem Ud{s:RS}(hO:Ok s)(h0:s.2=0):Ok (xZ s).2/\OkP (xZ s).1/\((xZ s).1.runs.length<=1000000001)/\((xZ s).2.2=0->(xZ s).1.runs.length+(xZ s).2.1.length+2<=s.1.length):=by
 obtain⟨h1,h2,h3⟩:=N.YB hO (m:=65535) (by decide);obtain⟨h4,h5,h6⟩:=N.xL h1;have hl:=h4.len;unfold xZ
 by_cases c:(zQ (zp 65535 s).2).2.2=0
 ·obtain⟨q1,q2,q3,q4⟩:=Jh (zQ (zp 65535 s).2).1.toNat [] _ h4 c (by simp);refine⟨q1,⟨h2,h3,q2⟩,by simp at q3 ⊢;omega,fun hz=>?_⟩;have hq:=q4 hz;obtain⟨e1,e2⟩:=zba (Wj c);have h7:=yka hO h0 e1;have h8:=yka h1 (Wj c) c;rw[e2] at h8 hq ⊢;simp only[List.length_nil,Nat.zero_add] at hq ⊢;omega
 ·rw[vz c];refine⟨h4,⟨h2,h3,by intro x hx;cases hx⟩,by simp[uK],fun hz=>absurd hz c⟩
def Wx : Nat->List PT->RS->Bool×List PT×RS
 | 0,out,s=>(true,out,s)
 | k+1,out,s=>if (xZ s).2.2≠0 then (false,[],(xZ s).2) else Wx k (out++[(xZ s).1]) (xZ s).2
def xU(s:RS):List PT×RS:=
 let r:=Wx (zQ s).1.toNat [] (zQ s).2
 if r.1=true then fin [] r.2.1 (Uw (!decide (r.2.1=C.zh r.2.1)) r.2.2) else ([],r.2.2)
theorem jZ{k:Nat}{out:List PT}{s:RS}(h:(xZ s).2.2≠0):Wx (k+1) out s=(false,[],(xZ s).2):=if_pos h
theorem Xh{k:Nat}{out:List PT}{s:RS}(h:(xZ s).2.2=0):Wx (k+1) out s=Wx k (out++[(xZ s).1]) (xZ s).2:=if_neg (by simp[h])
theorem tot_snoc(c:List PT)(p:PT):C.yw (c++[p])=C.yw c+p.runs.length:=by rw[C.zJa];simp[C.yw]
theorem WS : ∀ (k:Nat) (out:List PT) (s:RS),Ok s->s.2=0->(∀ p∈out,OkP p)->out.length+C.yw out+s.1.length<=1000000000->Ok (Wx k out s).2.2/\(∀ p∈(Wx k out s).2.1,OkP p)/\(Wx k out s).2.1.length+C.yw (Wx k out s).2.1<=1000000000 /\
  ((Wx k out s).1=true↔(Wx k out s).2.2.2=0)/\((Wx k out s).1=true->(Wx k out s).2.1.length=out.length+k/\(Wx k out s).2.2.1.length<=s.1.length)
 | 0,out,s,h,h0,ho,hl=>⟨h,ho,by show out.length+C.yw out<=_;omega,⟨fun _=>h0,fun _=>rfl⟩,fun _=>⟨rfl,Nat.le_refl _⟩⟩
 | k+1,out,s,h,h0,ho,hl=>by
  obtain⟨h1,h2,h3,h4⟩:=Ud h h0
  by_cases c:(xZ s).2.2=0
  ·rw[Xh c];have:=h4 c;obtain⟨q1,q2,q3,q4,q5⟩:=WS k (out++[(xZ s).1]) (xZ s).2 h1 c (fun p hp=>by
    rcases List.mem_append.1 hp with h | h
    ·exact ho p h
    ·rw[List.mem_singleton.1 h];exact h2) (by rw[tot_snoc];simp;omega)
   refine⟨q1,q2,q3,q4,fun hz=>?_⟩;have:=q5 hz;simp at this;omega
  ·rw[jZ c];exact⟨h1,by simp,by simp[C.yw],⟨fun h=>(by cases h),fun h=>absurd h c⟩,fun h=>(by cases h)⟩
theorem wna : ∀ (k:Nat) (out:List PT) (s:RS),(Wx k out s).1=false->(Wx k out s).2.1=[]
 | 0,out,s,h=>by cases h
 | k+1,out,s,h=>by
  by_cases c:(xZ s).2.2=0
  ·rw[Xh c] at h ⊢;exact wna k _ _ h
  ·rw[jZ c]
theorem woa{y3:Int×List Int×Int}(hn:0<=y3.1/\y3.1<=18446744073709551615):∀ (k i:Nat) (out:List PT) (s:RS),(i:Int)+k=y3.1->Ok s->s.2=0->out.length+s.1.length<=1000000000 ->
  loop (xb y3) ((i:Int),out,s.1,s.2)=pure (if (Wx k out s).1=true then .brk (Wx k out s).2 else .ret (Wx k out s).2)
 | 0,i,out,s,hi,_,_,_=>by
  exact ze (by
   unfold xb;have:decide ((i:Int) < y3.1)=false:=by simp;omega
   simp only[this,cond_false]
   rfl)
 | k+1,i,out,s,hi,hO,h0,hl=>by
  obtain⟨h1,h2,h3,h4⟩:=Ud hO h0;have hc:decide ((i:Int) < y3.1)=true:=by simp;omega
  have hw:IntKind.u64.wrap ((i:Int)+1)=((i+1:Nat):Int):=by rw[WY (by omega) (by omega)];omega
  have hb:xb y3 ((i:Int),out,s.1,s.2)=cond (!decide ((xZ s).2.2=0)) (pure (.done (.ret ([],(xZ s).2)))) (pure (.next (((i+1:Nat):Int),out++[(xZ s).1],(xZ s).2.1,(xZ s).2.2))):=by
   unfold xb;simp only[hc,cond_true,part_eq hO,zB,zA,N.Wh];rw[zH (by simp;omega),hw]
  by_cases c:(xZ s).2.2=0
  ·have hlt:=h4 c;rw[decide_eq_true c,Bool.not_true,cond_false] at hb;rw[zq hb,Xh c];exact woa hn k (i+1) _ (xZ s).2 (by omega) h1 c (by simp;omega)
  ·rw[decide_eq_false c,Bool.not_false,cond_true] at hb;rw[ze hb,jZ c]
   rfl
theorem wpa{c:List PT}(h:∀ p∈c,OkP p)(hl:c.length+C.yw c<=1000000000):C.Ok c:=⟨fun p hp=>(h p hp).d0,by omega,by omega⟩
theorem Ji{s:RS}(hO:Ok s):xP s.1 s.2=pure (xU s):=by
 obtain⟨h1,h2,h3⟩:=N.xL hO;unfold xP xU;rw[N.uW hO,zB,zA];have good:∀ (c:List PT) (t:RS),C.Ok c->((det (xl c)).bind fun v37=>cond (!v37) ((det (zI 4 t.1 t.2)).bind fun y40=>pure (([]:List PT),y40.1,y40.2)) (pure (c,t.1,t.2)))=pure (if decide (c=C.zh c)=true then (c,t) else ([],vp 4 t)):=fun c t hc=>by
  rw[C.wY c hc.sm,zB,zA]
  cases decide (c=C.zh c) with
  | true=>rfl
  | false=>rw[Bool.not_false,cond_true,N.Zc,zB,zA];rfl
 by_cases c2:(zQ s).2.2=0
 ·have:=woa (y3:=zQ s) ⟨h2,h3⟩ (zQ s).1.toNat 0 [] (zQ s).2 (by omega) h1 c2 (by simp;have:=h1.len;omega);rw[show((0:Nat):Int)=0 from rfl] at this;rw[this,zA];obtain⟨q1,q2,q3,q4,_⟩:=WS (zQ s).1.toNat [] (zQ s).2 h1 c2 (by simp) (by simp[C.yw];have:=h1.len;omega);have qn:=wna (zQ s).1.toNat [] (zQ s).2
  generalize Wx (zQ s).1.toNat [] (zQ s).2=r at *
  obtain⟨b,c,t⟩:=r;simp only[] at *
  cases b with
  | false=>rw[qn rfl];rfl
  | true=>
   have hz:=q4.1 rfl;show((det (xl c)).bind _)=_;rw[good c t (wpa q2 q3),if_pos rfl]
   cases hg:decide (c=C.zh c) with
   | true=>rw[if_pos rfl,Bool.not_true,ux,Uq hz]
   | false=>rw[if_neg (by simp),Bool.not_false,Uc u9a];rfl
 ·have hz:=vz c2;rw[hz,ze (r:=.brk ([],(zQ s).2)) (by
   unfold xb;simp only[hz,show decide ((0:Int) < 0)=false from rfl,cond_false]),zA]
  show((det (xl [])).bind _)=pure (if true=true then fin [] [] (Uw (!decide (([]:List PT)=C.zh [])) (zQ s).2) else ([],(zQ s).2));rw[good [] (zQ s).2 C.ok_nil,if_pos rfl];have e:C.zh []=[]:=rfl;rw[e];simp only[decide_true,if_true,Bool.not_true,ux];rw[Uc c2]
theorem yv{s:RS}(hO:Ok s):Ok (xU s).2/\(∀ p∈(xU s).1,OkP p)/\(xU s).1.length+C.yw (xU s).1<=1000000000/\((xU s).2.2≠0->(xU s).1=[])/\((xU s).2.2=0->(xU s).1=C.zh (xU s).1):=by
 obtain⟨h1,h2,h3⟩:=N.xL hO;unfold xU
 by_cases c2:(zQ s).2.2=0
 ·obtain⟨q1,q2,q3,q4,_⟩:=WS (zQ s).1.toNat [] (zQ s).2 h1 c2 (by simp) (by simp[C.yw];have:=h1.len;omega)
  generalize Wx (zQ s).1.toNat [] (zQ s).2=r at *
  obtain⟨b,c,t⟩:=r;simp only[] at *
  cases b with
  | false=>exact⟨q1,by simp,by simp[C.yw],fun _=>rfl,fun _=>rfl⟩
  | true=>
   rw[if_pos rfl,Wi];refine⟨Ub q1 _,?_⟩
   by_cases hb:(Uw (!decide (c=C.zh c)) t).2=0
   ·rw[Uq hb];have:=(Ww hb).1;exact⟨q2,q3,fun h=>absurd hb h,fun _=>by simpa using this⟩
   ·rw[Uc hb];exact⟨by simp,by simp[C.yw],fun _=>rfl,fun h=>absurd h hb⟩
 ·rw[vz c2];show Ok (if true=true then fin [] [] (Uw (!decide (([]:List PT)=C.zh [])) (zQ s).2) else ([],(zQ s).2)).2/\_;have e:C.zh []=[]:=rfl;simp only[Wx,Int.toNat_zero,e,decide_true,Bool.not_true,ux,if_true,Uc c2];exact⟨h1,by simp,by simp[C.yw],fun _=>trivial,fun _=>trivial⟩
variable{B:List Int}{a:Int}{s:RS}
open N (RS Ok zQ zp vp WL OkB Sim)
def Xi : List DT->Bool
 | []=>true
 | x::r=>(match r with | []=>true | y::_=>zd x y)&&Xi r
theorem zda : ∀ {l:List DT},Xi l=true↔Srt l
 | []=>⟨fun _=>List.Pairwise.nil,fun _=>rfl⟩
 | [x]=>⟨fun _=>by simp[Srt],fun _=>rfl⟩
 | x::y::r=>by
  show(zd x y&&Xi (y::r))=true↔_;rw[Bool.and_eq_true,zda (l:=y::r)];unfold Srt;rw[List.pairwise_cons (a:=x)]
  constructor
  ·rintro⟨h1,h2⟩;refine⟨fun z hz=>?_,h2⟩;rcases List.mem_cons.1 hz with rfl | hz
   ·exact h1
   ·exact WO h1 ((List.pairwise_cons.1 h2).1 z hz)
  ·rintro⟨h1,h2⟩;exact⟨h1 y (by simp),h2⟩
theorem QA(x y:DT):decide (0<=V.y2a x y)=!zd x y:=by
 by_cases h:zd x y=true
 ·have:=V.jT.2 h;rw[h];simp;omega
 ·have h2:¬ V.y2a x y < 0:=fun e=>h (V.jT.1 e)
  simp only[Bool.not_eq_true] at h;rw[h];simp;omega
theorem vca(l:List DT)(hl:l.length<=1000000000000):Xy l=pure (Xi l):=by
 unfold Xy;have key:∀ (k i:Nat) (x:DT) (r:List DT),i+k=l.length->l.drop i=r->i≠0->l[i - 1]?=some x->loop (wG l) (i:Int)=pure (if Xi (x::r)=true then .brk () else .ret false):=by
  intro k
  induction k with
  | zero=>
   intro i x r hi hr h1 hx;have:r=[]:=by rw[<- hr];exact List.drop_eq_nil_of_le (by omega)
   subst this;exact ze (by
    unfold wG;have:decide ((i:Int) < (l.length:Int))=false:=by simp;omega
    simp only[this,cond_false];rfl)
  | succ k ih=>
   intro i x r hi hr h1 hx;have hlt:i < l.length:=by omega
   have hr2:r=l[i]::l.drop (i+1):=by rw[<- hr];exact List.drop_eq_getElem_cons hlt
   have hy:=List.getElem?_eq_getElem hlt;have hi1:idx l (IntKind.i64.wrap ((i:Int) - 1))=pure x:=by
    rw[UC (by omega) (by omega)];exact VF (by omega) (by rw[show((i:Int) - 1).toNat=i - 1 by omega];exact hx)
   have hb:wG l (i:Int)=cond (!zd x l[i]) (pure (.done (.ret false))) (pure (.next ((i+1:Nat):Int))):=by
    unfold wG;have:decide ((i:Int) < (l.length:Int))=true:=by simp;omega
    simp only[this,cond_true,hi1,zJ hy,zA,V.uw,zB,QA,yR (show i < 9223372036854775807 by omega)]
   rw[hr2];show _=(pure (if (zd x l[i]&&Xi (l[i]::l.drop (i+1)))=true then Ex.brk () else Ex.ret false):M (Ex Unit Bool))
   cases c:zd x l[i] with
   | true=>
    rw[c] at hb;rw[zq hb,Bool.true_and];exact ih (i+1) l[i] _ (by omega) rfl (by omega) hy
   | false=>
    rw[c] at hb;rw[ze hb];rfl
 cases l with
 | nil=>
  rw[ze (r:=.brk ()) (by unfold wG;rfl)];rfl
 | cons x r=>
  have:=key r.length 1 x r (by simp;omega) rfl (by decide) rfl;rw[show((1:Nat):Int)=1 from rfl] at this;rw[this,zA]
  cases Xi (x::r) <;> rfl
theorem Zd{v:Int}(h0:0<=v)(h:v<=18446744073709551615)(r:List Int):zQ (N.yh v++r,0)=(v,(r,0)):=by
 have e:=N.rdN_enc h0 h r;unfold zQ;simp only[e,ne_eq,not_true_eq_false,if_false,List.drop_left]
theorem zea{v m:Int}(h0:0<=v)(h:v<=m)(hm:m<=18446744073709551615)(r:List Int):zp m (N.yh v++r,0)=(v,(r,0)):=by
 unfold zp;rw[Zd h0 (by omega) r];exact if_neg (by simp;omega)
theorem ZDa{d:DT}(h:OkD d)(hg:V.yW d=true)(r:List Int):XH (encD d++r,0)=(d,(r,0)):=by
 have e1:=zea h.d0 h.d1 (by decide) (N.yh d.n++r);have e2:=Zd h.n0 h.n1 r;have e:encD d++r=N.yh d.dev++(N.yh d.n++r):=by rw[encD,List.append_assoc]
 have hR:dotR (encD d++r,0)=d:=by unfold dotR;rw[e,e1];simp only[e2]
 unfold XH dotT;rw[hR,hg,e,e1];simp only[e2,Bool.not_true,ux]
 rfl
theorem vda{out:List DT}{x:DT}(h:∀ y∈out,zd y x=true):Ur out x=false:=by
 unfold Ur
 cases hl:out.getLast? with
 | none=>rfl
 | some y=>
  have:=h y (List.mem_of_getLast? hl);simp only[QA,this,Bool.not_true]
theorem yoa : ∀ (l out:List DT) (r:List Int),Srt (out++l)->(∀ d∈l,OkD d/\V.yW d=true)->zy l.length out (l.flatMap encD++r,0)=(out++l,(r,0))
 | [],out,r,_,_=>by simp[zy]
 | x::t,out,r,hs,h=>by
  have hx:=h x (by simp);have e:XH ((x::t).flatMap encD++r,0)=(x,(t.flatMap encD++r,0)):=by
   rw[List.flatMap_cons,List.append_assoc];exact ZDa hx.1 hx.2 _
  have hT:YC out ((x::t).flatMap encD++r,0)=(t.flatMap encD++r,0):=by
   unfold YC;rw[e];simp only[];rw[vda fun y hy=>(List.pairwise_append.1 hs).2.2 y hy x (by simp)]
   rfl
  rw[List.length_cons,uy (by rw[hT]),hT,e];simp only[];rw[yoa t (out++[x]) r (by rw[List.append_assoc];exact hs) (fun d hd=>h d (by simp[hd])),List.append_assoc]
  rfl
theorem Vv{l:List DT}(hs:Srt l)(h:∀ d∈l,V.yW d=true):vG (Zl l)=l:=by
 have e:Zl l=l:=List.filter_eq_self.2 h;rw[e];exact u5a hs
theorem dots_enc{l:List DT}(hs:Srt l)(h:∀ d∈l,OkD d/\V.yW d=true){most:Int}(hm:(l.length:Int)<=most)(hl:l.length<=1000000000000)(r:List Int):vH most (uk l++r,0)=(l,(r,0)):=by
 have e1:=Vv hs fun d hd=>(h d hd).2
 have e2:uk l++r=N.yh (l.length:Int)++(l.flatMap encD++r):=by rw[uk,e1,List.append_assoc]
 unfold vH;rw[e2,Zd (by omega) (by omega)];simp only[];rw[if_neg (by omega),Int.toNat_natCast,yoa l [] r (by simpa using hs) h]
 rfl
theorem ypa : ∀ (l out:List RN) (r:List Int),(∀ x∈l,ZBa x)->uK l.length out (l.flatMap qA++r,0)=(out++l,(r,0))
 | [],out,r,_=>by simp[uK]
 | x::t,out,r,h=>by
  have hx:=h x (by simp);have e1:zQ ((x::t).flatMap qA++r,0)=(x.lo,(N.yh x.hi++(t.flatMap qA++r),0)):=by
   rw[List.flatMap_cons,qA,List.append_assoc,List.append_assoc];exact Zd hx.1.1 hx.1.2 _
  have e2:zQ (N.yh x.hi++(t.flatMap qA++r),0)=(x.hi,(t.flatMap qA++r,0)):=Zd hx.2.1 hx.2.2 _;rw[List.length_cons,WR (by rw[e1];simp only[e2]),e1];simp only[e2];rw[ypa t _ r fun y hy=>h y (by simp[hy]),List.append_assoc]
  rfl
theorem part_enc{p:PT}(h:OkP p)(hl:p.runs.length<=1000000000000)(r:List Int):xZ (zYa p++r,0)=(p,(r,0)):=by
 have e:zYa p++r=N.yh p.dev++(N.yh (p.runs.length:Int)++(p.runs.flatMap qA++r)):=by rw[zYa,List.append_assoc,List.append_assoc]
 have e1:=zea h.d0 h.d1 (by decide) (N.yh (p.runs.length:Int)++(p.runs.flatMap qA++r));have e2:=Zd (v:=(p.runs.length:Int)) (by omega) (by omega) (p.runs.flatMap qA++r);unfold xZ;rw[e,e1];simp only[e2,Int.toNat_natCast];rw[ypa p.runs [] r h.r]
 rfl
theorem wqa : ∀ (c out:List PT) (r:List Int),(∀ p∈c,OkP p/\p.runs.length<=1000000000000)->Wx c.length out (c.flatMap zYa++r,0)=(true,out++c,(r,0))
 | [],out,r,_=>by simp[Wx]
 | p::t,out,r,h=>by
  have hp:=h p (by simp);have e:xZ ((p::t).flatMap zYa++r,0)=(p,(t.flatMap zYa++r,0)):=by
   rw[List.flatMap_cons,List.append_assoc];exact part_enc hp.1 hp.2 _
  rw[List.length_cons,Xh (by rw[e]),e];simp only[];rw[wqa t _ r fun q hq=>h q (by simp[hq]),List.append_assoc]
  rfl
theorem ctx_encN{c:List PT}(hc:c=C.zh c)(h:∀ p∈c,OkP p)(hl:c.length<=1000000000000/\C.yw c<=1000000000000)(r:List Int):xU (yea c++r,0)=(c,(r,0)):=by
 have e:yea c++r=N.yh (c.length:Int)++(c.flatMap zYa++r):=by rw[yea,List.append_assoc]
 have e1:=Zd (v:=(c.length:Int)) (by omega) (by omega) (c.flatMap zYa++r);have e2:=wqa c [] r fun p hp=>⟨h p hp,by have:=C.qw p hp;omega⟩
 unfold xU;rw[e,e1];simp only[Int.toNat_natCast];simp only[e2,List.nil_append,if_true];have hdc:decide (c=C.zh c)=true:=decide_eq_true hc;rw[hdc]
 rfl
theorem ZEa(c:List PT):C.zh c=C.zh (C.zh c):=(C.vVa (C.YU c)).symm
theorem xya{c:List PT}(h:∀ p∈c,p.dev<=65535)(hl:c.length<=100000000/\C.yw c<=100000000)(r:List Int):xU (uJ c++r,0)=(C.zh c,(r,0)):=
 ctx_encN (ZEa c) (WQ h) ⟨by have:=C.ZZ c;omega,by have:=C.Za c;omega⟩ r
theorem okB_encC{c:List PT}(h:∀ p∈c,p.dev<=65535)(hl:c.length<=10000000/\C.yw c<=10000000):OkB (uJ c):=by
 have hn:=C.ZZ c;have ht:=C.Za c;refine⟨by_encC c (WQ h) ⟨by omega,by omega⟩,?_⟩;have:=jX (WQ h) (by omega) (by omega);rw[uJ];omega
open N (RS Ok zQ zp vp WL OkB Sim)
theorem uT{s:RS}(hO:Ok s)(h:(zQ s).2.2=0):s.1=N.yh (zQ s).1++(zQ s).2.1:=by
 have h0:=Wj h;unfold zQ at h ⊢;rw[if_neg (by simp[h0])] at h ⊢
 by_cases c:(N.rdN s.1).2.2=0
 ·rw[if_neg (by simp[c])];exact N.rdN_one hO.by_ c
 ·rw[if_pos c] at h;exact absurd h (N.vA c)
theorem ja{s:RS}(hO:Ok s){m:Int}(h:(zp m s).2.2=0):s.1=N.yh (zp m s).1++(zp m s).2.1:=by
 obtain⟨h1,h2⟩:=zba h;rw[h2];exact uT hO h1
theorem ZFa{s:RS}(hO:Ok s)(h:(XH s).2.2=0):s.1=encD (XH s).1++(XH s).2.1:=by
 obtain⟨_,h1,h2,h3⟩:=wka h;have e1:=ja hO h1;have e2:=uT (N.YB hO (m:=65535) (by decide)).1 h2;rw[h3];show s.1=(N.yh (zp 65535 s).1++N.yh (zQ (zp 65535 s).2).1)++_;rw[List.append_assoc,<- e2];exact e1
theorem yqa : ∀ (k:Nat) (out:List DT) (s:RS),Ok s->s.2=0->Srt out->(∀ d∈out,V.yW d=true)->(zy k out s).2.2=0->∃ l,(zy k out s).1=out++l/\l.length=k/\s.1=l.flatMap encD++(zy k out s).2.1/\Srt (out++l)/\(∀ d∈out++l,V.yW d=true)/\∀ d∈l,OkD d
 | 0,out,s,_,_,hs,hg,_=>⟨[],by simp[zy],rfl,by simp[zy],by simpa using hs,by simpa using hg,by simp⟩
 | k+1,out,s,hO,h0,hs,hg,h=>by
  by_cases c:(YC out s).2=0
  ·obtain⟨c1,c2,c3⟩:=wma c;rw[uy c] at h ⊢;have hgd:=(wka c2).1;have hs2:Srt (out++[(XH s).1]):=by
    unfold Srt;rw[List.pairwise_append];refine⟨hs,by simp,fun a ha b hb=>?_⟩;rw[List.mem_singleton.1 hb];rcases R.yn out with rfl | ⟨q,y,rfl⟩
    ·simp at ha
    ·have hy:zd y (XH s).1=true:=by
      unfold Ur at c1;simp only[List.getLast?_append,List.getLast?_singleton,Option.some_or,QA] at c1;simpa using c1
     rcases List.mem_append.1 ha with h5 | h5
     ·exact WO ((List.pairwise_append.1 hs).2.2 a h5 y (by simp)) hy
     ·rw[List.mem_singleton.1 h5];exact hy
   obtain⟨l,e1,e2,e3,e4,e5,e6⟩:=yqa k _ _ (jY hO out) c hs2 (fun d hd=>by
    rcases List.mem_append.1 hd with h5 | h5
    ·exact hg d h5
    ·rw[List.mem_singleton.1 h5];exact hgd) h
   refine⟨(XH s).1::l,by rw[e1];simp,by simp[e2],?_,by simpa using e4,by simpa using e5,fun d hd=>?_⟩
   ·rw[List.flatMap_cons,List.append_assoc,<- e3,c3];exact ZFa hO c2
   ·rcases List.mem_cons.1 hd with rfl | h5
    ·exact(yla hO).2.1
    ·exact e6 d h5
  ·rw[Xg c] at h;exact absurd h c
theorem wra{s:RS}(hO:Ok s){most:Int}(h:(vH most s).2.2=0):s.1=uk (vH most s).1++(vH most s).2.1/\Srt (vH most s).1/\(∀ d∈(vH most s).1,V.yW d=true/\OkD d)/\((vH most s).1.length:Int)<=max most 0:=by
 obtain⟨h1,h2,h3⟩:=N.xL hO;unfold vH at h ⊢
 by_cases c:max most 0 < (zQ s).1
 ·rw[if_pos c] at h;exact absurd h (N.vA (by decide))
 ·rw[if_neg c] at h ⊢;have c2:(zQ s).2.2=0:=Classical.byContradiction fun c2=>by
   rw[vz c2] at h;exact c2 h
  obtain⟨l,e1,e2,e3,e4,e5,e6⟩:=yqa _ [] _ h1 c2 List.Pairwise.nil (by simp) h;rw[List.nil_append] at e1 e4 e5;rw[e1];refine⟨?_,e4,fun d hd=>⟨e5 d hd,e6 d hd⟩,by omega⟩;rw[uk,Vv e4 e5,List.append_assoc,<- e3,e2,Int.toNat_of_nonneg h2];exact uT hO c2
theorem dots_bad{s:RS}{most:Int}(h:(vH most s).2.2≠0):(vH most s).1=[]:=by
 have hL:∀ (k:Nat) (out:List DT) (s:RS),s.2=0\/out=[]->(zy k out s).2.2≠0->(zy k out s).1=[]:=by
  intro k
  induction k with
  | zero=>
   intro out s h1 h2;rcases h1 with h1 | h1
   ·exact absurd h1 h2
   ·exact h1
  | succ k ih=>
   intro out s _ h2
   by_cases c:(YC out s).2=0
   ·rw[uy c] at h2 ⊢;exact ih _ _ (.inl c) h2
   ·rw[Xg c]
 unfold vH at h ⊢
 split at h
 ·rename_i c;rw[if_pos c]
 ·rename_i c;rw[if_neg c];exact hL _ _ _ (.inr rfl) h
theorem yra : ∀ (k:Nat) (out:List RN) (s:RS),Ok s->(uK k out s).2.2=0->∃ l,(uK k out s).1=out++l/\l.length=k/\s.1=l.flatMap qA++(uK k out s).2.1
 | 0,out,s,_,_=>⟨[],by simp[uK],rfl,by simp[uK]⟩
 | k+1,out,s,hO,h=>by
  by_cases c:(zQ (zQ s).2).2.2=0
  ·rw[WR c] at h ⊢;obtain⟨l,e1,e2,e3⟩:=yra k _ _ (ZCa hO).1 h;refine⟨⟨(zQ s).1,(zQ (zQ s).2).1⟩::l,by rw[e1];simp,by simp[e2],?_⟩;rw[List.flatMap_cons,List.append_assoc,<- e3,qA,List.append_assoc,<- uT (N.xL hO).1 c];exact uT hO (Wj c)
  ·rw[Jg c] at h;exact absurd h c
theorem part_inv{s:RS}(hO:Ok s)(h:(xZ s).2.2=0):s.1=zYa (xZ s).1++(xZ s).2.1:=by
 obtain⟨h1,h2,h3⟩:=N.YB hO (m:=65535) (by decide);obtain⟨h4,h5,h6⟩:=N.xL h1;unfold xZ at h ⊢;have c:(zQ (zp 65535 s).2).2.2=0:=Classical.byContradiction fun c=>by rw[vz c] at h;exact c h
 obtain⟨l,e1,e2,e3⟩:=yra _ [] _ h4 h;rw[List.nil_append] at e1;show s.1=(N.yh (zp 65535 s).1++(N.yh ((uK (zQ (zp 65535 s).2).1.toNat [] (zQ (zp 65535 s).2).2).1.length:Int)++(uK (zQ (zp 65535 s).2).1.toNat [] (zQ (zp 65535 s).2).2).1.flatMap qA))++(uK (zQ (zp 65535 s).2).1.toNat [] (zQ (zp 65535 s).2).2).2.1;rw[e1,List.append_assoc,List.append_assoc,<- e3,e2,Int.toNat_of_nonneg h5,<- uT h1 c];exact ja hO (Wj c)
theorem wsa : ∀ (k:Nat) (out:List PT) (s:RS),Ok s->s.2=0->(Wx k out s).1=true->∃ l,(Wx k out s).2.1=out++l/\l.length=k/\s.1=l.flatMap zYa++(Wx k out s).2.2.1
 | 0,out,s,_,_,_=>⟨[],by simp[Wx],rfl,by simp[Wx]⟩
 | k+1,out,s,hO,h0,h=>by
  by_cases c:(xZ s).2.2=0
  ·rw[Xh c] at h ⊢;obtain⟨l,e1,e2,e3⟩:=wsa k _ _ (Ud hO h0).1 c h;refine⟨(xZ s).1::l,by rw[e1];simp,by simp[e2],?_⟩;rw[List.flatMap_cons,List.append_assoc,<- e3];exact part_inv hO c
  ·rw[jZ c] at h;cases h
theorem ZGa{s:RS}(hO:Ok s)(h:(xU s).2.2=0):s.1=uJ (xU s).1++(xU s).2.1:=by
 have hn:=(yv hO).2.2.2.2 h;obtain⟨h1,h2,h3⟩:=N.xL hO;rw[uJ,<- hn];unfold xU at h ⊢;have c:(zQ s).2.2=0:=Classical.byContradiction fun c=>by
  have hz:=vz c;have e:C.zh []=[]:=rfl;simp only[hz,Wx,Int.toNat_zero,e,decide_true,Bool.not_true,ux,if_true,Wi] at h;exact c h
 have hi:=wsa (zQ s).1.toNat [] (zQ s).2 h1 c;obtain⟨q1,q2,q3,q4,_⟩:=WS (zQ s).1.toNat [] (zQ s).2 h1 c (by simp) (by simp[C.yw];have:=h1.len;omega)
 generalize Wx (zQ s).1.toNat [] (zQ s).2=r at *
 obtain⟨b,x,t⟩:=r;simp only[] at *
 cases b with
 | false=>
  have hz:t.2=0:=h;have:=q4.2 hz;cases this
 | true=>
  rw[if_pos rfl] at h ⊢;rw[Wi] at h;rw[Uq h,(Ww h).2.2];obtain⟨l,e1,e2,e3⟩:=hi rfl;rw[List.nil_append] at e1;subst e1;show s.1=(N.yh (x.length:Int)++x.flatMap zYa)++t.1;rw[List.append_assoc,<- e3,e2,Int.toNat_of_nonneg h2];exact uT hO c
theorem end_ok{s:RS}(h:(WL s).1=0):s.1=[]/\s.2=0:=by
 unfold WL at h
 by_cases c:0 < s.1.length
 ·simp only[if_pos c] at h;exact absurd h (N.vA (by decide))
 ·simp only[if_neg c] at h;exact⟨List.eq_nil_of_length_eq_zero (by omega),h⟩
end Go.Ep.M.D
namespace Go.Ep.M.E
open Go
theorem vZ(s:ByteArray):(yI s).length=s.size:=by simp[yI]
theorem by_bytes(s:ByteArray):N.By (yI s):=fun x hx=>by
 simp only[yI,List.mem_map] at hx;obtain⟨b,_,rfl⟩:=hx;have:=b.toNat_lt;omega
theorem Jj(l:List Int):(z4a l).data.toList=l.map fun n=>UInt8.ofNat n.toNat:=by
 have key:∀ (l:List Int) (r:ByteArray),(l.foldl (fun r n=>r.push (UInt8.ofNat n.toNat)) r).data.toList=r.data.toList++l.map fun n=>UInt8.ofNat n.toNat:=by
  intro l
  induction l with
  | nil=>intro r;simp
  | cons x t ih=>intro r;rw[List.foldl_cons,ih];simp
 have:=key l ByteArray.empty;simpa[z4a] using this
theorem vea(s:ByteArray):z4a (yI s)=s:=by
 have h:=Jj (yI s);have e:(yI s).map (fun n=>UInt8.ofNat n.toNat)=s.data.toList:=by
  simp only[yI,List.map_map];apply List.ext_getElem?;intro i;rw[List.getElem?_map]
  cases s.data.toList[i]? with
  | none=>rfl
  | some b=>simp
 rw[e] at h;have h2:(z4a (yI s)).data=s.data:=Array.toList_inj.1 h
 cases hs:z4a (yI s)
 cases s
 rw[hs] at h2;simp only at h2;rw[h2]
theorem vfa{l:List Int}(h:N.By l):yI (z4a l)=l:=by
 rw[yI,Jj,List.map_map];apply List.ext_getElem?;intro i;rw[List.getElem?_map]
 cases hx:l[i]? with
 | none=>rfl
 | some x=>
  have:=h x (List.mem_of_getElem? hx);simp only[Option.map_some,Function.comp_apply,UInt8.toNat_ofNat']
  congr 1;omega
theorem Jk(l:List Int):(z4a l).size=l.length:=by
 have:=congrArg List.length (Jj l);simpa using this
def cidD(v:Int):DT:=⟨v / 281474976710656,v % 281474976710656⟩
theorem band48{v:Int}(h0:0<=v)(h:v<=18446744073709551615):bAnd .u64 v 281474976710655=v % 281474976710656:=by
 obtain⟨n,rfl⟩:=Int.eq_ofNat_of_zero_le h0;unfold bAnd;have bv:∀ q:Nat,q < 18446744073709551616->(BitVec.ofInt IntKind.u64.bits (q:Int)).toNat=q:=fun q hq=>by
  show(BitVec.ofInt 64 (q:Int)).toNat=q;rw[BitVec.toNat_ofInt];omega
 have e:(281474976710655:Int)=((281474976710655:Nat):Int):=rfl;rw[e,BitVec.toNat_and,bv n (by omega),bv _ (by decide)];have h2:n &&& 281474976710655=n % 281474976710656:=Nat.and_two_pow_sub_one_eq_mod n 48;rw[h2,WY (by omega) (by omega)];omega
theorem Split_eq{v:Int}(h0:0<=v)(h:v<=18446744073709551615):Yc v=pure ((cidD v).dev,(cidD v).n):=by
 unfold Yc cidD;have e:(2 ^ 48:Int)=281474976710656:=rfl;rw[band48 h0 h,Int.fdiv_eq_ediv_of_nonneg _ (by decide),e,wU16 (by omega) (by omega)]
theorem ZHa{v:Int}(h0:0<=v)(h:v<=18446744073709551615):VL v=pure ((cidD v).dev,(cidD v).n):=by
 unfold VL cidD;rw[Int.tdiv_eq_ediv_of_nonneg h0,Int.tmod_eq_emod_of_nonneg h0,WY (by omega) (by omega),wU16 (by omega) (by omega)]
def Jl(v:Int):Bool:=V.yW (cidD v)
theorem ZIa{v:Int}(h0:0<=v)(h:v<=18446744073709551615):Xo v=pure (if Jl v=true then cidD v else ⟨0,0⟩,Jl v):=by
 unfold Xo;rw[Split_eq h0 h,zB,zA,V.ZW,zB,zA];show cond (!Jl v) _ _=_
 cases Jl v <;> rfl
theorem vga{v:Int}(h0:0<=v)(h:v<=18446744073709551615):Xx v=pure (if Jl v=true then cidD v else ⟨0,0⟩,Jl v):=by
 unfold Xx;rw[ZHa h0 h,zB,zA,V.XC,zB,zA];show cond (!Jl v) _ _=_
 cases Jl v <;> rfl
def xza(f:Int):Bool:=decide (1<=f)&&decide (f<=5)
theorem Field_eq(f:Int):Xp f=pure (xza f):=by unfold Xp xza;rw[zx];rfl
theorem ZJa(f:Int):jE f=pure (xza f):=by unfold jE xza;rw[zx];rfl
def okB(x:Int):Bool:=decide (32<=x)&&decide (x<=126)
def zfa(s:ByteArray):Bool:=decide (s.size<=60)&&(yI s).all okB
theorem Xj{α:Type}(l:List α)(p:α->Bool):(l.zipIdx.all fun y=>p y.1)=l.all p:=by
 rw[Bool.eq_iff_iff,List.all_eq_true,List.all_eq_true]
 constructor
 ·intro h x hx;obtain⟨i,hi⟩:=List.getElem?_of_mem hx;exact h (x,i) (by rw[List.mk_mem_zipIdx_iff_getElem?];exact hi)
 ·intro h y hy;exact h y.1 (List.fst_mem_of_mem_zipIdx hy)
theorem okB_eq(x:Int)(f:M Bool)(hf:f=pure (decide (126 < x))):(cond (decide (x < 32)) (pure true) f:M Bool)=pure (!okB x):=by
 rw[hf];unfold okB
 by_cases h1:x < 32
 ·have:¬ 32<=x:=by omega
  simp[h1,this]
 ·have:32<=x:=by omega
  by_cases h2:126 < x
  ·have:¬ x<=126:=by omega
   simp[h1,h2,this]
  ·have:x<=126:=by omega
   simp[h1,h2, *]
theorem ZKa(s:ByteArray)(hs:s.size<=1000000000000):loop (vP s) 0=pure (if (yI s).all okB=true then Ex.brk () else Ex.ret false):=by
 have:=xJ (body:=vP s) (yI s) (fun i=>(i:Int)) (fun _ x=>okB x) (Ex.brk ()) (Ex.ret false) (fun i x hx hi=>by
  have hd:decide ((i:Int) < (s.size:Int))=true:=by rw[<- vZ];simpa using hi
  have hi2:i < s.size:=by rw[<- vZ];exact hi
  unfold vP;simp only[hd,cond_true,zJ hx,zA,okB_eq x _ rfl,yR (show i < 9223372036854775807 by omega)]
  cases okB x <;> rfl) (by
  unfold vP;simp[vZ])
 rw[show(0:Int)=((0:Nat):Int) from rfl,this,Xj]
theorem vha(s:ByteArray)(hs:s.size<=1000000000000):loop (ZG s) 0=pure (if (yI s).all okB=true then Ex.brk () else Ex.ret false):=by
 have:=xJ (body:=ZG s) (yI s) (fun i=>(i:Int)) (fun _ x=>okB x) (Ex.brk ()) (Ex.ret false) (fun i x hx hi=>by
  have hd:decide ((i:Int) < (s.size:Int))=true:=by rw[<- vZ];simpa using hi
  have hi2:i < s.size:=by rw[<- vZ];exact hi
  unfold ZG;simp only[hd,cond_true,zJ hx,zA,okB_eq x _ rfl,yR (show i < 9223372036854775807 by omega)]
  cases okB x <;> rfl) (by
  unfold ZG;simp[vZ])
 rw[show(0:Int)=((0:Nat):Int) from rfl,this,Xj]
theorem xra(s:ByteArray)(hs:s.size<=1000000000000):Xq s=pure (zfa s):=by
 unfold Xq zfa;rw[ZKa s hs]
 by_cases h:s.size<=60
 ·have:decide ((60:Int) < (s.size:Int))=false:=by simp;omega
  rw[this,cond_false,zA,decide_eq_true h,Bool.true_and]
  cases (yI s).all okB <;> rfl
 ·have:decide ((60:Int) < (s.size:Int))=true:=by simp;omega
  rw[this,cond_true,decide_eq_false h,Bool.false_and]
theorem rText_eq(s:ByteArray)(hs:s.size<=1000000000000):jF s=pure (zfa s):=by
 unfold jF zfa;rw[vha s hs,zA]
 cases (yI s).all okB with
 | false=>rw[Bool.and_false];rfl
 | true=>
  rw[if_pos rfl,ZC,Bool.and_true]
  congr 1
  by_cases h:s.size<=60
  ·rw[decide_eq_true h];simp;omega
  ·rw[decide_eq_false h];simp;omega
structure OkE(e:EV):Prop where
 dot:D.OkD e.dot
 kind:0<=e.kind/\e.kind<=255
 cid:0<=e.cid/\e.cid<=18446744073709551615
 field:0<=e.field/\e.field<=255
 text:e.text.size<=1000000000
 kills:∀ d∈e.kills,D.OkD d
 klen:e.kills.length<=1000000000
def ysa(s:ByteArray):Bool:=decide (s=⟨#[]⟩)
def x0a(e:EV):Bool:=(decide (e.kind=1)&&(xza e.field&&zfa e.text))||(decide (e.kind=2)&&(decide (e.field=0)&&ysa e.text))
def yta(e:EV):Bool:=decide (e.kills.length<=256)&&(D.Xi e.kills&&e.kills.all fun d=>V.yW d&&!decide (d=e.dot))
def zl(e:EV):Bool:=(Jl e.cid&&V.yW e.dot)&&(x0a e&&yta e)
theorem ZLa(l:List DT)(hl:l.length<=1000000000000):Xr l=pure (D.Xi l):=by
 unfold Xr;have key:∀ (k i:Nat) (x:DT) (r:List DT),i+k=l.length->l.drop i=r->i≠0->l[i - 1]?=some x->loop (yq l) (i:Int)=pure (if D.Xi (x::r)=true then Ex.brk () else Ex.ret false):=by
  intro k
  induction k with
  | zero=>
   intro i x r hi hr h1 hx;have:r=[]:=by rw[<- hr];exact List.drop_eq_nil_of_le (by omega)
   subst this;exact ze (by
    unfold yq;have:decide ((i:Int) < (l.length:Int))=false:=by simp;omega
    simp only[this,cond_false];rfl)
  | succ k ih=>
   intro i x r hi hr h1 hx;have hlt:i < l.length:=by omega
   have hr2:r=l[i]::l.drop (i+1):=by rw[<- hr];exact List.drop_eq_getElem_cons hlt
   have hy:=List.getElem?_eq_getElem hlt;have hi1:idx l (IntKind.i64.wrap ((i:Int) - 1))=pure x:=by
    rw[UC (by omega) (by omega)];exact VF (by omega) (by rw[show((i:Int) - 1).toNat=i - 1 by omega];exact hx)
   have hb:yq l (i:Int)=cond (!zd x l[i]) (pure (.done (.ret false))) (pure (.next ((i+1:Nat):Int))):=by
    unfold yq;have h2:decide ((i:Int) < (l.length:Int))=true:=by simp;omega
    have h3:decide ((0:Int) < (i:Int))=true:=by simp;omega
    simp only[h2,h3,cond_true,hi1,zJ hy,zA,D.Je,zB,D.QA,yR (show i < 9223372036854775807 by omega)]
   rw[hr2];show _=(pure (if (zd x l[i]&&D.Xi (l[i]::l.drop (i+1)))=true then Ex.brk () else Ex.ret false):M (Ex Unit Bool))
   cases c:zd x l[i] with
   | true=>
    rw[c] at hb;rw[zq hb,Bool.true_and];exact ih (i+1) l[i] _ (by omega) rfl (by omega) hy
   | false=>
    rw[c] at hb;rw[ze hb];rfl
 cases l with
 | nil=>
  rw[ze (r:=Ex.brk ()) (by unfold yq;rfl)];rfl
 | cons x r=>
  have h0:yq (x::r) 0=pure (.next 1):=by
   unfold yq;have h2:decide ((0:Int) < ((x::r).length:Int))=true:=decide_eq_true (by rw[List.length_cons];omega);simp only[h2,cond_true,show decide ((0:Int) < 0)=false from rfl,cond_false,zA];rw[UC (by omega) (by omega)]
   rfl
  have:=key r.length 1 x r (by simp;omega) rfl (by decide) rfl;rw[show((1:Nat):Int)=1 from rfl] at this;rw[zq h0,this,zA]
  cases D.Xi (x::r) <;> rfl
theorem vja(e:EV)(hl:e.kills.length<=1000000000000):loop (vQ e) 0=pure (if (e.kills.all fun d=>V.yW d&&!decide (d=e.dot))=true then Ex.brk () else Ex.ret false):=by
 have:=xJ (body:=vQ e) e.kills (fun i=>(i:Int)) (fun _ d=>V.yW d&&!decide (d=e.dot)) (Ex.brk ()) (Ex.ret false) (fun i x hx hi=>by
  have hd:decide ((i:Int) < (e.kills.length:Int))=true:=by simpa using hi
  unfold vQ;simp only[hd,cond_true,zJ hx,zA,V.ZW,zB,D.yga,yR (show i < 9223372036854775807 by omega)]
  cases V.yW x <;> cases decide (x=e.dot) <;> rfl) (by
  unfold vQ;simp)
 rw[show(0:Int)=((0:Nat):Int) from rfl,this,Xj e.kills fun d=>V.yW d&&!decide (d=e.dot)]
theorem wY{e:EV}(h:OkE e):xx e=pure (zl e):=by
 have hk:=h.klen;have ht:=h.text;unfold xx zl;rw[ZIa h.cid.1 h.cid.2,zB,zA,V.ZW,zB,zA,vja e (by omega),ZLa e.kills (by omega),Field_eq,xra e.text (by omega)];simp only[]
 cases Jl e.cid with
 | false=>rfl
 | true=>
  cases V.yW e.dot with
  | false=>rfl
  | true=>
   have hl:decide ((256:Int) < (e.kills.length:Int))=!decide (e.kills.length<=256):=by
    by_cases c:e.kills.length<=256
    ·rw[decide_eq_true c];simp;omega
    ·rw[decide_eq_false c];simp;omega
   have tail:(cond (decide ((256:Int) < (e.kills.length:Int))) (pure true) ((det (pure (D.Xi e.kills))).bind fun v23=>pure (!v23))).bind (fun v21=>cond v21 (pure false) ((pure (if (e.kills.all fun d=>V.yW d&&!decide (d=e.dot))=true then Ex.brk () else Ex.ret false)).bind (exk fun _=>pure true)))=pure (yta e):=by
    unfold yta;rw[hl,zB,zA]
    cases decide (e.kills.length<=256) with
    | false=>rfl
    | true=>
     cases D.Xi e.kills with
     | false=>rfl
     | true=>cases e.kills.all fun d=>V.yW d&&!decide (d=e.dot) <;> rfl
   simp only[Bool.not_true,cond_false,zA,zB,Bool.true_and] at tail ⊢;unfold x0a ysa
   by_cases k1:e.kind=1
   ·have k2:decide (e.kind=2)=false:=by rw[k1];rfl
    rw[decide_eq_true k1,cond_true,k2,Bool.true_and,Bool.false_and,Bool.or_false]
    cases xza e.field with
    | false=>rfl
    | true=>
     cases zfa e.text with
     | false=>rfl
     | true=>exact tail
   ·rw[decide_eq_false k1,cond_false,Bool.false_and,Bool.false_or]
    by_cases k2:e.kind=2
    ·rw[decide_eq_true k2,cond_true,Bool.true_and]
     cases decide (e.field=0) with
     | false=>rfl
     | true=>
      cases decide (e.text=(⟨#[]⟩:ByteArray)) with
      | false=>rfl
      | true=>exact tail
    ·rw[decide_eq_false k2];rfl
theorem JY(l:List DT)(d:DT)(hl:l.length<=1000000000000):jx l d=pure (l.any fun x=>decide (x=d)):=by
 unfold jx;have:=xJ (body:=Xz l d) l (fun i=>(i:Int)) (fun _ x=>!decide (x=d)) (Ex.brk ()) (Ex.ret true) (fun i x hx hi=>by
  have hd:decide ((i:Int) < (l.length:Int))=true:=by simpa using hi
  unfold Xz;simp only[hd,cond_true,zJ hx,zA,D.yga,yR (show i < 9223372036854775807 by omega)]
  cases decide (x=d) <;> rfl) (by
  unfold Xz;simp)
 rw[show(0:Int)=((0:Nat):Int) from rfl,this,zA,Xj l fun x=>!decide (x=d)];have e:(l.any fun x=>decide (x=d))=!(l.all fun x=>!decide (x=d)):=by simp[List.all_eq_not_any_not]
 rw[e]
 cases l.all fun x=>!decide (x=d) <;> rfl
theorem vka(e:EV)(hl:e.kills.length<=1000000000000):loop (ZH e) 0=pure (if e.kills.all V.yW=true then Ex.brk () else Ex.ret false):=by
 have:=xJ (body:=ZH e) e.kills (fun i=>(i:Int)) (fun _ d=>V.yW d) (Ex.brk ()) (Ex.ret false) (fun i x hx hi=>by
  have hd:decide ((i:Int) < (e.kills.length:Int))=true:=by simpa using hi
  unfold ZH;simp only[hd,cond_true,zJ hx,zA,V.XC,zB,yR (show i < 9223372036854775807 by omega)]
  cases V.yW x <;> rfl) (by
  unfold ZH;simp)
 rw[show(0:Int)=((0:Nat):Int) from rfl,this,Xj e.kills V.yW]
theorem wI{e:EV}(h:OkE e):Yg e=pure (zl e):=by
 have hk:=h.klen;have ht:=h.text;unfold Yg zl;rw[vga h.cid.1 h.cid.2,zB,zA,V.XC,zB,zA,vka e (by omega),D.vca e.kills (by omega),ZJa,rText_eq e.text (by omega),JY e.kills e.dot (by omega)];simp only[]
 cases Jl e.cid with
 | false=>rfl
 | true=>
  cases V.yW e.dot with
  | false=>rfl
  | true=>
   have hl:decide ((e.kills.length:Int)<=256)=decide (e.kills.length<=256):=by
    by_cases c:e.kills.length<=256
    ·rw[decide_eq_true c];simp;omega
    ·rw[decide_eq_false c];simp;omega
   have hall:(e.kills.all fun d=>V.yW d&&!decide (d=e.dot))=(e.kills.all V.yW&&!(e.kills.any fun x=>decide (x=e.dot))):=by
    rw[Bool.eq_iff_iff,Bool.and_eq_true,List.all_eq_true,List.all_eq_true,Bool.not_eq_true',List.any_eq_false]
    constructor
    ·intro h;exact⟨fun x hx=>by have:=h x hx;rw[Bool.and_eq_true] at this;exact this.1,fun x hx=>by have:=h x hx;rw[Bool.and_eq_true] at this;simpa using this.2⟩
    ·rintro⟨h1,h2⟩ x hx;rw[Bool.and_eq_true];exact⟨h1 x hx,by simpa using h2 x hx⟩
   have tail:((pure (if e.kills.all V.yW=true then Ex.brk () else Ex.ret false):M (Ex Unit Bool)).bind (exk fun _=>(cond (decide ((e.kills.length:Int)<=256)) ((det (pure (D.Xi e.kills))).bind fun v46=>cond v46 ((det (pure (e.kills.any fun x=>decide (x=e.dot)))).bind fun v49=>pure (!v49)) (pure false)) (pure false)).bind fun v44=>pure v44))=pure (yta e):=by
    unfold yta;rw[hl,hall];simp only[zB,zA]
    cases e.kills.all V.yW with
    | false=>cases decide (e.kills.length<=256) <;> cases D.Xi e.kills <;> rfl
    | true=>cases decide (e.kills.length<=256) <;> cases D.Xi e.kills <;> cases e.kills.any fun x=>decide (x=e.dot) <;> rfl
   simp only[Bool.not_true,cond_false,zA,zB,Bool.true_and] at tail ⊢;unfold x0a ysa
   by_cases k1:e.kind=1
   ·have k2:decide (e.kind=2)=false:=by rw[k1];rfl
    rw[decide_eq_true k1,k2];simp only[Bool.not_true,cond_false,cond_true,zA,Bool.true_and,Bool.false_and,Bool.or_false]
    cases xza e.field with
    | false=>rfl
    | true=>
     cases zfa e.text with
     | false=>rfl
     | true=>exact tail
   ·rw[decide_eq_false k1];simp only[Bool.not_false,cond_true,zA,Bool.false_and,Bool.false_or]
    by_cases k2:e.kind=2
    ·rw[decide_eq_true k2];simp only[Bool.not_true,cond_false,cond_true,Bool.true_and]
     cases decide (e.field=0) with
     | false=>rfl
     | true=>
      cases decide (e.text=(⟨#[]⟩:ByteArray)) with
      | false=>rfl
      | true=>exact tail
    ·rw[decide_eq_false k2];rfl
def fewE(l:List EV)(most:Nat):Bool:=decide (l.length<=most)&&l.all fun e=>decide (e.kills.length<=300)&&decide (e.text.size<=200)
theorem YA(l:List EV)(most:Nat)(hm:most<=1000000):UG l (most:Int)=pure (fewE l most):=by
 unfold UG fewE
 by_cases h:l.length<=most
 ·have hd:decide ((most:Int) < (l.length:Int))=false:=by simp;omega
  have:=xJ (body:=Xn l) l (fun i=>(i:Int)) (fun _ e=>decide (e.kills.length<=300)&&decide (e.text.size<=200)) (Ex.brk ()) (Ex.ret false) (fun i x hx hi=>by
   have hd:decide ((i:Int) < (l.length:Int))=true:=by simpa using hi
   unfold Xn;simp only[hd,cond_true,zJ hx,zA,yR (show i < 9223372036854775807 by omega)]
   by_cases c:x.kills.length<=300
   ·have h1:decide ((300:Int) < (x.kills.length:Int))=false:=by simp;omega
    rw[h1,cond_false,decide_eq_true c,Bool.true_and,zA]
    by_cases c2:x.text.size<=200
    ·have h2:decide ((200:Int) < (x.text.size:Int))=false:=by simp;omega
     rw[h2,decide_eq_true c2];rfl
    ·have h2:decide ((200:Int) < (x.text.size:Int))=true:=by simp;omega
     rw[h2,decide_eq_false c2];rfl
   ·have h1:decide ((300:Int) < (x.kills.length:Int))=true:=by simp;omega
    rw[h1,cond_true,decide_eq_false c,Bool.false_and];rfl) (by
   unfold Xn;simp)
  rw[hd,cond_false,decide_eq_true h,Bool.true_and,show(0:Int)=((0:Nat):Int) from rfl,this,zA,Xj l fun e=>decide (e.kills.length<=300)&&decide (e.text.size<=200)]
  cases l.all fun e=>decide (e.kills.length<=300)&&decide (e.text.size<=200) <;> rfl
 ·have hd:decide ((most:Int) < (l.length:Int))=true:=by simp;omega
  rw[hd,cond_true,decide_eq_false h,Bool.false_and]
theorem x1a{l:List EV}{most:Nat}(h:fewE l most=true):l.length<=most/\∀ e∈l,e.kills.length<=300/\e.text.size<=200:=by
 unfold fewE at h;rw[Bool.and_eq_true,List.all_eq_true] at h;exact⟨by simpa using h.1,fun e he=>by simpa using h.2 e he⟩
theorem WK(a b:EV)(h:a.kills.length<=1000000000000):Yi a b=pure (decide (a=b)):=by
 unfold Yi;rw[D.yga,V.JM a.kills b.kills h,zB,zA];have e:decide (a=b)=(decide (a.dot=b.dot)&&(decide (a.kind=b.kind)&&(decide (a.cid=b.cid)&&(decide (a.field=b.field)&&(decide (a.text=b.text)&&decide (a.kills=b.kills)))))):=by
  cases a;cases b;simp only[EV.mk.injEq,Bool.decide_and]
 rw[e]
 cases decide (a.dot=b.dot) <;> cases decide (a.kind=b.kind) <;> cases decide (a.cid=b.cid) <;> cases decide (a.field=b.field) <;> cases decide (a.text=b.text) <;> rfl
theorem ZMa(a b:List EV)(ha:a.length<=1000000000000)(hk:∀ e∈a,e.kills.length<=1000000000000):JB a b=pure (decide (a=b)):=by
 unfold JB
 by_cases hlen:a.length=b.length
 ·have h1:decide ((a.length:Int)=(b.length:Int))=true:=by simp[hlen]
  rw[h1,Bool.not_true,cond_false];have:=xJ (body:=WJ a b) a (fun i=>(i:Int)) (fun i x=>decide (b[i]?=some x)) (Ex.brk ()) (Ex.ret false) (fun i x hx hi=>by
   have hd:decide ((i:Int) < (a.length:Int))=true:=by simpa using hi
   obtain⟨y,hy⟩:∃ y,b[i]?=some y:=⟨_,List.getElem?_eq_getElem (by omega)⟩
   unfold WJ;simp only[hd,cond_true,zJ hx,zJ hy,zA,WK x y (hk x (List.mem_of_getElem? hx)),zB,yR (show i < 9223372036854775807 by omega),hy]
   by_cases c:x=y
   ·subst c;simp
   ·have:¬ some y=some x:=fun e=>c (Option.some.inj e).symm
    simp[c,this]) (by
   unfold WJ;simp)
  rw[show(0:Int)=((0:Nat):Int) from rfl,this,zA];have e:(a.zipIdx.all fun y=>decide (b[y.2]?=some y.1))=decide (a=b):=by
   rw[Bool.eq_iff_iff,List.all_eq_true,decide_eq_true_eq]
   constructor
   ·intro h;apply List.ext_getElem?;intro i
    by_cases hi:i < a.length
    ·have:=h (a[i],i) (by rw[List.mk_mem_zipIdx_iff_getElem?];exact List.getElem?_eq_getElem hi);simp only[decide_eq_true_eq] at this;rw[this,List.getElem?_eq_getElem hi]
    ·rw[List.getElem?_eq_none (by omega),List.getElem?_eq_none (by omega)]
   ·intro h y hy;subst h;rw[List.mem_zipIdx_iff_getElem?] at hy;simpa using hy
  rw[e]
  cases decide (a=b) <;> rfl
 ·have h1:decide ((a.length:Int)=(b.length:Int))=false:=by simp;omega
  have h2:decide (a=b)=false:=decide_eq_false fun e=>hlen (by rw[e])
  rw[h1,Bool.not_false,cond_true,h2]
def zga(s:ByteArray):List Int:=N.yh s.size++yI s
def YE(e:EV):List Int:=D.encD e.dot++([e.kind]++(N.yh e.cid++([e.field]++(zga e.text++D.uk e.kills))))
theorem wta{s:ByteArray}(h:s.size<=1000000000):(zga s).length<=9+s.size:=by
 have:=N.zX (v:=(s.size:Int)) (by omega);rw[zga,List.length_append,vZ];omega
theorem zha{e:EV}(h:OkE e):(YE e).length<=47+e.text.size+18*e.kills.length:=by
 have h1:=D.jW h.dot;have h2:=N.zX h.cid.2;have h3:=wta h.text;have h4:=D.u7a h.kills (by have:=h.klen;omega);simp only[YE,List.length_append,List.length_singleton];omega
theorem vla{s:ByteArray}(h:s.size<=1000000000)(row:List Int)(hr:row.length<=1000000000000):xm s row=pure (row++zga s):=by
 have:=N.zX (v:=(s.size:Int)) (by omega);unfold xm;rw[WY (by omega) (by omega),N.vq row (by omega) (by omega) (by omega),zB,zA,zH (by omega),N.u4a _ _ (by rw[List.length_append,vZ];omega),zB,zA,zga,List.append_assoc]
theorem Put_eq{e:EV}(h:OkE e)(row:List Int)(hr:row.length<=10000000000):ZF e row=pure (row++YE e):=by
 have h1:=D.jW h.dot;have h2:=N.zX h.cid.2;have h3:=wta h.text;have ht:=h.text;have hk:=h.klen;unfold ZF;rw[D.yia h.dot row (by omega),zB,zA,N.WN _ _ (by rw[List.length_append];omega),zB,zA,N.vq _ h.cid.1 h.cid.2 (by simp only[List.length_append,List.length_singleton];omega),zB,zA,
  N.WN _ _ (by simp only[List.length_append,List.length_singleton];omega),zB,zA,vla h.text _ (by simp only[List.length_append,List.length_singleton];omega),zB,zA,
  D.vba h.kills (by omega) _ (by simp only[List.length_append,List.length_singleton];omega),zB,zA]
 simp only[YE,List.append_assoc]
def xA(l:List EV):List Int:=N.yh l.length++l.flatMap YE
theorem ZNa{l:List EV}(h:∀ e∈l,OkE e)(hl:l.length<=1000000000)(row:List Int)(hr:row.length+(l.flatMap YE).length<=1000000000):yx l row=pure (row++xA l):=by
 have h9:=N.zX (v:=(l.length:Int)) (by omega);unfold yx;rw[WY (by omega) (by omega),N.vq row (by omega) (by omega) (by omega),zB,zA];have:=D.zVa (body:=wA l) l YE (row++N.yh (l.length:Int)) 2000000000 (fun i out=>((i:Int),out)) (fun t=>pure t) (by rw[List.length_append];omega) (fun i x out hx hi ho=>by
  have hd:decide ((i:Int) < (l.length:Int))=true:=by simpa using hi
  unfold wA;simp only[hd,cond_true,zJ hx,zA,Put_eq (h x (List.mem_of_getElem? hx)) out (by omega),zB,yR (show i < 9223372036854775807 by omega)]) (fun out=>by
  unfold wA;simp[zA])
 rw[show(0:Int)=((0:Nat):Int) from rfl,this,xA,List.append_assoc]
theorem len_of{n k:Nat}(h1:256 ^ k<=n)(h2:n < 256 ^ (k+1)):N.Wa n=k+1:=by
 have:=N.xoa k n h1;have:=N.JZ (k+1) n h2;omega
theorem Jm{l:List EV}(h:∀ e∈l,OkE e)(hf:∀ e∈l,e.kills.length<=300/\e.text.size<=200):(l.flatMap YE).length<=6000*l.length:=
 D.Vt l YE 6000 fun e he=>by have:=zha (h e he);have:=hf e he;omega
open N (RS Ok zQ zp yA Zk vp WL OkB Sim)
open D (Uw fin)
def s1(s:RS):RS:=(D.XH s).2
def s2(s:RS):RS:=(yA (s1 s)).2
def s3(s:RS):RS:=(zQ (s2 s)).2
def s4(s:RS):RS:=(yA (s3 s)).2
def s5(s:RS):RS:=(Zk 60 (s4 s)).2
def s6(s:RS):RS:=(D.vH 256 (s5 s)).2
def getE(s:RS):EV:=⟨(D.XH s).1,(yA (s1 s)).1,(zQ (s2 s)).1,(yA (s3 s)).1,(Zk 60 (s4 s)).1,(D.vH 256 (s5 s)).1⟩
def noE : EV:=⟨⟨0,0⟩,0,0,0,⟨#[]⟩,[]⟩
def getT(s:RS):RS:=Uw (!zl (getE s)) (s6 s)
def xC(s:RS):EV×RS:=fin noE (getE s) (getT s)
theorem ZOa{s:RS}(h:Ok s)(m:Int):(Zk m s).1.size<=1000000000:=by
 have h1:=(N.xL h).1.len;unfold Zk
 split
 ·exact(by decide:(0:Nat)<=1000000000)
 ·split
  ·exact(by decide:(0:Nat)<=1000000000)
  ·split
   ·exact(by decide:(0:Nat)<=1000000000)
   ·rw[Jk,List.length_take];omega
theorem dots_okD{s:RS}(h:Ok s)(most:Int):(∀ d∈(D.vH most s).1,D.OkD d)/\(D.vH most s).1.length<=1000000000:=by
 by_cases c:(D.vH most s).2.2=0
 ·obtain⟨e1,e2,e3,e4⟩:=D.wra h c;have hl:=congrArg List.length e1;have hs:=h.len;have h9:(D.vG (D.Zl (D.vH most s).1))=(D.vH most s).1:=D.Vv e2 fun d hd=>(e3 d hd).1
  have h8:∀ l:List DT,l.length<=(l.flatMap D.encD).length:=by
   intro l
   induction l with
   | nil=>simp
   | cons x t ih=>
    have:1<=(D.encD x).length:=by rw[D.encD,List.length_append,N.yh,N.yea,List.length_cons];omega
    rw[List.flatMap_cons,List.length_append,List.length_cons];omega
  have h7:=h8 (D.vH most s).1;refine⟨fun d hd=>(e3 d hd).2,?_⟩;rw[List.length_append,D.uk,h9,List.length_append] at hl;omega
 ·rw[D.dots_bad c];simp
theorem ZPa{s:RS}(h:Ok s):Ok (s1 s)/\Ok (s2 s)/\Ok (s3 s)/\Ok (s4 s)/\Ok (s5 s)/\Ok (s6 s)/\OkE (getE s):=by
 have o1:Ok (s1 s):=(D.yla h).1;have o2:=N.Jc o1;have o3:=N.xL (s:=s2 s) o2.1;have o4:=N.Jc (s:=s3 s) o3.1;have o5:=N.ok_text (s:=s4 s) o4.1 60;have o6:=D.ok_dots (s:=s5 s) o5 256;obtain⟨k1,k2⟩:=dots_okD (s:=s5 s) o5 256;exact⟨o1,o2.1,o3.1,o4.1,o5,o6,(D.yla h).2.1,o2.2,o3.2,o4.2,ZOa (s:=s4 s) o4.1 60,k1,k2⟩
theorem Get_eq{s:RS}(h:Ok s):ZM s.1 s.2=pure (xC s):=by
 obtain⟨o1,o2,o3,o4,o5,o6,oe⟩:=ZPa h;unfold ZM xC;have e1:vf s.1 s.2=pure ((D.XH s).1,s1 s):=D.Dot_eq h;have e2:zV (s1 s).1 (s1 s).2=pure ((yA (s1 s)).1,s2 s):=N.WM o1;have e3:zK (s2 s).1 (s2 s).2=pure ((zQ (s2 s)).1,s3 s):=N.uW o2;have e4:zV (s3 s).1 (s3 s).2=pure ((yA (s3 s)).1,s4 s):=N.WM o3;have e5:yt 60 (s4 s).1 (s4 s).2=pure ((Zk 60 (s4 s)).1,s5 s):=N.xra o4 (by decide);have e6:uE 256 (s5 s).1 (s5 s).2=pure ((D.vH 256 (s5 s)).1,s6 s):=D.zca o5 (by decide);rw[e1,zB,zA];simp only[];rw[e2,zB,zA];simp only[];rw[e3,zB,zA];simp only[];rw[e4,zB,zA];simp only[];rw[e5,zB,zA];simp only[];rw[e6,zB,zA];simp only[];have eg:=wY oe;unfold getE at eg;rw[eg,zB,zA];have ep:=D.zaa (zl (getE s)) (s6 s);unfold getE at ep;rw[ep,zA];exact D.xxa _ _ _
variable{B:List Int}{a:Int}{s:RS}
theorem Jo(s:RS):(yA s).2.1.length<=s.1.length:=by
 unfold yA
 split
 ·exact Nat.le_refl _
 ·split
  ·exact D.Xf _ _
  ·rename_i x r h;rw[h];simp
theorem text_le(m:Int)(s:RS):(Zk m s).2.1.length<=s.1.length:=by
 have h1:=D.Vu s;have h2:=D.Xf 3 (zQ s).2;have h3:=D.Xf 2 (zQ s).2;unfold Zk
 split
 ·exact h1
 ·split
  ·exact Nat.le_trans h2 h1
  ·split
   ·exact Nat.le_trans h3 h1
   ·simp;omega
theorem wua : ∀ (k:Nat) (out:List DT) (s:RS),(D.zy k out s).2.1.length<=s.1.length
 | 0,_,_=>Nat.le_refl _
 | k+1,out,s=>by
  have h1:(D.YC out s).1.length<=s.1.length:=Nat.le_trans (D.zZa _ _) (D.dot_le s)
  by_cases c:(D.YC out s).2=0
  ·rw[D.uy c];exact Nat.le_trans (wua k _ _) h1
  ·rw[D.Xg c];exact h1
theorem dots_le(m:Int)(s:RS):(D.vH m s).2.1.length<=s.1.length:=by
 have h1:=D.Vu s;have h2:=D.Xf 3 (zQ s).2;unfold D.vH
 split
 ·exact Nat.le_trans h2 h1
 ·exact Nat.le_trans (wua _ _ _) h1
theorem get_le(s:RS):(xC s).2.1.length<=s.1.length:=by
 unfold xC;rw[D.Wi];refine Nat.le_trans (D.zZa _ _) ?_;exact Nat.le_trans (dots_le 256 (s5 s)) (Nat.le_trans (text_le 60 (s4 s)) (Nat.le_trans (Jo (s3 s)) (Nat.le_trans (D.Vu (s2 s)) (Nat.le_trans (Jo (s1 s)) (D.dot_le s)))))
theorem ZQa{s:RS}(h:(yA s).2.2=0):s.2=0/\s.1=(yA s).1::(yA s).2.1:=by
 unfold yA at h ⊢
 by_cases c:s.2≠0
 ·rw[if_pos c] at h;exact absurd h c
 ·rw[if_neg c] at h ⊢
  cases hs:s.1 with
  | nil=>rw[hs] at h;exact absurd h (N.vA (by decide))
  | cons x r=>exact⟨Classical.byContradiction c,rfl⟩
theorem text_ok{m:Int}{s:RS}(hO:Ok s)(h:(Zk m s).2.2=0):(zQ s).2.2=0/\s.1=zga (Zk m s).1++(Zk m s).2.1/\((Zk m s).1.size:Int)<=max m 0:=by
 obtain⟨k1,k2,k3⟩:=N.xL hO;unfold Zk at h ⊢
 by_cases c:(zQ s).2.2≠0
 ·rw[if_pos c] at h;exact absurd h c
 ·rw[if_neg c] at h ⊢
  by_cases c2:max m 0 < (zQ s).1
  ·rw[if_pos c2] at h;exact absurd h (N.vA (by decide))
  ·rw[if_neg c2] at h ⊢
   by_cases c3:((zQ s).2.1.length:Int) < (zQ s).1
   ·rw[if_pos c3] at h;exact absurd h (N.vA (by decide))
   ·rw[if_neg c3];have hz:(zQ s).2.2=0:=Classical.byContradiction c;refine⟨hz,?_,?_⟩
    ·show s.1=(N.yh ((z4a _).size:Int)++yI (z4a _))++_;rw[Jk,vfa (k1.by_.take _),List.length_take,show((min (zQ s).1.toNat (zQ s).2.1.length:Nat):Int)=(zQ s).1 by omega,List.append_assoc,List.take_append_drop];exact D.uT hO hz
    ·show((z4a _).size:Int)<=_;rw[Jk,List.length_take];omega
theorem Ue{s:RS}(hO:Ok s)(h:(xC s).2.2=0):s.2=0/\zl (xC s).1=true/\OkE (xC s).1/\s.1=YE (xC s).1++(xC s).2.1:=by
 obtain⟨o1,o2,o3,o4,o5,o6,oe⟩:=ZPa hO;unfold xC at h ⊢;rw[D.Wi] at h;rw[D.Uq h];obtain⟨g1,g2,g3⟩:=D.Ww (c:=!zl (getE s)) (s:=s6 s) h;have i6:=D.wra o5 g2;have z5:(s5 s).2=0:=Classical.byContradiction fun c=>by
  have:(D.vH 256 (s5 s)).2.2≠0:=by
   have hn:=N.num_of c;unfold D.vH;rw[hn];rw[if_neg (by show ¬ max 256 0 < (0:Int);omega)];exact c
  exact this g2
 obtain⟨z5',i5,_⟩:=text_ok (m:=60) o4 z5;have z4:=D.Wj z5';obtain⟨z3,i4⟩:=ZQa (s:=s3 s) z4;have i3:=D.uT o2 z3;have z2:=D.Wj z3;obtain⟨z1,i2⟩:=ZQa (s:=s1 s) z2;have i1:=D.ZFa hO z1;have z0:s.2=0:=D.Wj (D.zba (D.wka z1).2.1).1;refine⟨z0,by simpa using g1,oe,?_⟩;show s.1=YE (getE s)++(getT s).1;rw[show getT s=s6 s from g3];show s.1=(D.encD (D.XH s).1++([(yA (s1 s)).1]++(N.yh (zQ (s2 s)).1++([(yA (s3 s)).1]++(zga (Zk 60 (s4 s)).1++D.uk (D.vH 256 (s5 s)).1)))))++(s6 s).1;simp only[List.append_assoc];have j6:(s5 s).1=D.uk (D.vH 256 (s5 s)).1++(s6 s).1:=i6.1;have j5:(s4 s).1=zga (Zk 60 (s4 s)).1++(s5 s).1:=i5;have j4:(s3 s).1=[(yA (s3 s)).1]++(s4 s).1:=i4;have j3:(s2 s).1=N.yh (zQ (s2 s)).1++(s3 s).1:=i3;have j2:(s1 s).1=[(yA (s1 s)).1]++(s2 s).1:=i2;have j1:s.1=D.encD (D.XH s).1++(s1 s).1:=i1;rw[<- j6,<- j5,<- j4,<- j3,<- j2];exact j1
theorem qg{s:RS}(hO:Ok s)(h:(xC s).2.2=0):(xC s).2.1.length+1<=s.1.length:=by
 have:=(Ue hO h).2.2.2;have hl:=congrArg List.length this;have:1<=(YE (xC s).1).length:=by simp only[YE,List.length_append,List.length_singleton];omega
 rw[List.length_append] at hl;omega
theorem jb(x:Int)(r:List Int):yA (x::r,0)=(x,(r,0)):=rfl
theorem text_enc{t:ByteArray}{m:Int}(h:(t.size:Int)<=m)(hs:t.size<=1000000000000)(r:List Int):Zk m (zga t++r,0)=(t,(r,0)):=by
 have e:zga t++r=N.yh (t.size:Int)++(yI t++r):=by rw[zga,List.append_assoc]
 have e1:=D.Zd (v:=(t.size:Int)) (by omega) (by omega) (yI t++r);unfold Zk;rw[e,e1];have hl:=vZ t;simp only[ne_eq,not_true_eq_false,if_false,Int.toNat_natCast];rw[if_neg (by omega),if_neg (by rw[List.length_append];omega),List.take_append_of_le_length (by omega),List.drop_append_of_le_length (by omega),List.take_of_length_le (by omega),List.drop_eq_nil_of_le (by omega),vea]
 rfl
theorem QB{e:EV}(h:zl e=true):V.yW e.dot=true/\x0a e=true/\e.kills.length<=256/\D.Srt e.kills/\(∀ d∈e.kills,V.yW d=true)/\e.text.size<=60:=by
 unfold zl yta at h;simp only[Bool.and_eq_true,decide_eq_true_eq,List.all_eq_true] at h;obtain⟨⟨h1,h2⟩,h3,h4,h5,h6⟩:=h;refine⟨h2,h3,h4,D.zda.1 h5,fun d hd=>(h6 d hd).1,?_⟩;unfold x0a zfa ysa at h3;simp only[Bool.or_eq_true,Bool.and_eq_true,decide_eq_true_eq] at h3;rcases h3 with⟨_,_,h,_⟩ | ⟨_,_,h⟩
 ·exact h
 ·rw[h];decide
theorem ZRa{e:EV}(h:OkE e)(hg:zl e=true)(r:List Int):xC (YE e++r,0)=(e,(r,0)):=by
 obtain⟨g1,g2,g3,g4,g5,g6⟩:=QB hg;have q:YE e++r=D.encD e.dot++(e.kind::(N.yh e.cid++(e.field::(zga e.text++(D.uk e.kills++r))))):=by
  simp only[YE,List.append_assoc,List.cons_append,List.nil_append]
 have c1:=D.ZDa h.dot g1 (e.kind::(N.yh e.cid++(e.field::(zga e.text++(D.uk e.kills++r)))));have c3:=D.Zd h.cid.1 h.cid.2 (e.field::(zga e.text++(D.uk e.kills++r)));have c5:=text_enc (t:=e.text) (m:=60) (by omega) (by omega) (D.uk e.kills++r);have c6:=D.dots_enc g4 (fun d hd=>⟨h.kills d hd,g5 d hd⟩) (most:=256) (by omega) (by omega) r;have t1:s1 (YE e++r,0)=(e.kind::(N.yh e.cid++(e.field::(zga e.text++(D.uk e.kills++r)))),0):=by unfold s1;rw[q,c1]
 have t2:s2 (YE e++r,0)=(N.yh e.cid++(e.field::(zga e.text++(D.uk e.kills++r))),0):=by unfold s2;rw[t1,jb]
 have t3:s3 (YE e++r,0)=(e.field::(zga e.text++(D.uk e.kills++r)),0):=by unfold s3;rw[t2,c3]
 have t4:s4 (YE e++r,0)=(zga e.text++(D.uk e.kills++r),0):=by unfold s4;rw[t3,jb]
 have t5:s5 (YE e++r,0)=(D.uk e.kills++r,0):=by unfold s5;rw[t4,c5]
 have t6:s6 (YE e++r,0)=(r,0):=by unfold s6;rw[t5,c6]
 have tE:getE (YE e++r,0)=e:=by
  unfold getE;rw[t1,t2,t3,t4,t5,q,c1,jb,c3,jb,c5,c6]
 unfold xC getT;rw[tE,t6,hg,Bool.not_true,D.ux]
 rfl
open N (RS Ok zQ zp yA Zk vp WL OkB Sim)
open D (Uw fin)
def XI(out:List EV)(x:EV):Bool:=match out.getLast? with | some y=>decide (0<=V.y2a y.dot x.dot) | none=>false
def zia(out:List EV)(s:RS):RS:=Uw (XI out (xC s).1) (xC s).2
def qQ : Nat->List EV->RS->List EV×RS
 | 0,out,s=>(out,s)
 | k+1,out,s=>if (zia out s).2≠0 then ([],zia out s) else qQ k (out++[(xC s).1]) (zia out s)
def ul(most:Int)(s:RS):List EV×RS:=if max most 0 < (zQ s).1 then ([],vp 3 (zQ s).2) else qQ (zQ s).1.toNat [] (zQ s).2
theorem zja{k:Nat}{out:List EV}{s:RS}(h:(zia out s).2≠0):qQ (k+1) out s=([],zia out s):=if_pos h
theorem Vw{k:Nat}{out:List EV}{s:RS}(h:(zia out s).2=0):qQ (k+1) out s=qQ k (out++[(xC s).1]) (zia out s):=if_neg (by simp[h])
theorem ZSa{out:List EV}{s:RS}(h:(zia out s).2=0):XI out (xC s).1=false/\(xC s).2.2=0/\zia out s=(xC s).2:=D.Ww h
theorem ZTa{s:RS}(h:Ok s):Ok (xC s).2:=by
 unfold xC;rw[D.Wi];exact D.Ub (ZPa h).2.2.2.2.2.1 _
theorem zka{s:RS}(h:Ok s)(out:List EV):Ok (zia out s):=D.Ub (ZTa h) _
theorem ZUa : ∀ (k:Nat) (out:List EV) (s:RS),Ok s->Ok (qQ k out s).2
 | 0,_,_,h=>h
 | k+1,out,s,h=>by
  by_cases c:(zia out s).2=0
  ·rw[Vw c];exact ZUa k _ _ (zka h out)
  ·rw[zja c];exact zka h out
theorem ZVa{s:RS}(h:Ok s)(most:Int):Ok (ul most s).2:=by
 have h1:=N.xL h;unfold ul
 split
 ·exact N.Xd h1.1 _
 ·exact ZUa _ _ _ h1.1
theorem ZWa{out:List EV}(h:out.length<=1000000000000)(x:EV)(cmp:DT->DT->M Int)(hc:∀ y,cmp y x.dot=pure (V.y2a y x.dot)) :
  ((cond (decide (0<=IntKind.i64.wrap ((out.length:Int) - 1))) ((idx out (IntKind.i64.wrap ((out.length:Int) - 1))).bind fun x61=>(det (cmp x61.dot x.dot)).bind fun v63=>pure (decide (0<=v63))) (pure false)):M Bool)=pure (XI out x):=by
 unfold XI;rcases R.yn out with rfl | ⟨r,y,rfl⟩
 ·rfl
 ·have hl:((r++[y]).length:Int) - 1=(r.length:Int):=by simp
  rw[hl,UC (by omega) (by simp at h;omega)];have:decide ((0:Int)<=(r.length:Int))=true:=by simp
  rw[this,cond_true,zJ (y:=y) (by simp),zA,hc,zB,zA];simp
theorem wva{y4:Int×List Int×Int}(hn:0<=y4.1/\y4.1<=18446744073709551615):∀ (k i:Nat) (out:List EV) (s:RS),(i:Int)+k=y4.1->Ok s->s.2=0->out.length+s.1.length<=1000000000 ->
  (loop (ye y4) ((i:Int),out,s.1,s.2)).bind (exk fun⟨out9,v10,v11⟩=>pure (out9,v10,v11))=pure (qQ k out s)
 | 0,i,out,s,hi,_,_,_=>by
  rw[ze (r:=.brk (out,s.1,s.2)) (by
   unfold ye;have:decide ((i:Int) < y4.1)=false:=by simp;omega
   simp only[this,cond_false])]
  rfl
 | k+1,i,out,s,hi,hO,h0,hl=>by
  have hc:decide ((i:Int) < y4.1)=true:=by simp;omega
  have hlast:=ZWa (out:=out) (by omega) (xC s).1 wP (fun y=>D.Je y _);have hw:IntKind.u64.wrap ((i:Int)+1)=((i+1:Nat):Int):=by rw[WY (by omega) (by omega)];omega
  have hb:ye y4 ((i:Int),out,s.1,s.2)=(det (zT (zia out s).1 (zia out s).2)).bind fun y70=>cond (!decide (y70.1=0)) (pure (.done (.ret ([],y70.2.1,y70.2.2)))) (xg ((out.length+[(xC s).1].length)*80<=140737488355328) (pure (.next (IntKind.u64.wrap ((i:Int)+1),out++[(xC s).1],y70.2.1,y70.2.2)))):=by
   unfold ye;have e:=D.xwa (XI out (xC s).1) (xC s).2;simp only[hc,cond_true,Get_eq hO,zB,zA];rw[hlast,zA,e,zA]
   rfl
  rw[N.Wh,zB,zA] at hb
  by_cases c:(zia out s).2=0
  ·obtain⟨_,c2,c3⟩:=ZSa c;have hlt:=qg hO c2;rw[decide_eq_true c,Bool.not_true,cond_false,zH (by simp;omega),hw] at hb;rw[zq hb,Vw c];exact wva hn k (i+1) _ (zia out s) (by omega) (zka hO out) c (by rw[c3];simp;omega)
  ·rw[decide_eq_false c,Bool.not_false,cond_true] at hb;rw[ze hb,zja c]
   rfl
theorem Jp{s:RS}(hO:Ok s){most:Int}(hm:most<=9223372036854775807):xd most s.1 s.2=pure (ul most s):=by
 obtain⟨h1,h2,h3⟩:=N.xL hO;unfold xd ul;rw[N.uW hO,zB,zA,WY (n:=max most 0) (by omega) (by omega)]
 by_cases c:max most 0 < (zQ s).1
 ·rw[decide_eq_true c,cond_true,if_pos c,N.Zc 3 (zQ s).2,zB,zA]
 ·rw[decide_eq_false c,cond_false,if_neg c]
  by_cases c2:(zQ s).2.2=0
  ·exact wva (y4:=zQ s) ⟨h2,h3⟩ (zQ s).1.toNat 0 [] (zQ s).2 (by omega) h1 c2 (by simp;have:=h1.len;omega)
  ·have hz:=D.vz c2;rw[hz,ze (r:=.brk ([],(zQ s).2.1,(zQ s).2.2)) (by
    unfold ye;simp only[hz,show decide ((0:Int) < 0)=false from rfl,cond_false])]
   rfl
variable{B:List Int}{a:Int}{s:RS}
abbrev uU(l:List EV):Prop:=l.Pairwise fun x y=>zd x.dot y.dot=true
theorem ZXa{out:List EV}{x:EV}(hs:uU out)(h:XI out x=false):uU (out++[x]):=by
 unfold uU;rw[List.pairwise_append];refine⟨hs,by simp,fun a ha b hb=>?_⟩;rw[List.mem_singleton.1 hb];rcases R.yn out with rfl | ⟨q,y,rfl⟩
 ·simp at ha
 ·have hy:zd y.dot x.dot=true:=by
   unfold XI at h;simp only[List.getLast?_append,List.getLast?_singleton,Option.some_or,D.QA] at h;simpa using h
  rcases List.mem_append.1 ha with h5 | h5
  ·exact D.WO ((List.pairwise_append.1 hs).2.2 a h5 y (by simp)) hy
  ·rw[List.mem_singleton.1 h5];exact hy
theorem QC : ∀ (k:Nat) (out:List EV) (s:RS),Ok s->s.2=0->uU out->(∀ e∈out,OkE e/\zl e=true)->out.length+s.1.length<=1000000000 ->
  uU (qQ k out s).1/\(∀ e∈(qQ k out s).1,OkE e/\zl e=true)/\(qQ k out s).1.length<=1000000000/\((qQ k out s).2.2=0->∃ l,(qQ k out s).1=out++l/\l.length=k/\s.1=l.flatMap YE++(qQ k out s).2.1)/\((qQ k out s).2.2≠0->(qQ k out s).1=[])
 | 0,out,s,_,h0,hs,hg,hl=>⟨hs,hg,by show out.length<=_;omega,fun _=>⟨[],by simp[qQ],rfl,by simp[qQ]⟩,fun h=>absurd h0 h⟩
 | k+1,out,s,hO,h0,hs,hg,hl=>by
  by_cases c:(zia out s).2=0
  ·obtain⟨c1,c2,c3⟩:=ZSa c;obtain⟨i1,i2,i3,i4⟩:=Ue hO c2;have hlt:=qg hO c2;rw[Vw c];obtain⟨q1,q2,q3,q4,q5⟩:=QC k (out++[(xC s).1]) (zia out s) (zka hO out) c (ZXa hs c1) (fun e he=>by
    rcases List.mem_append.1 he with h | h
    ·exact hg e h
    ·rw[List.mem_singleton.1 h];exact⟨i3,i2⟩) (by rw[c3];simp;omega)
   refine⟨q1,q2,q3,fun hz=>?_,q5⟩;obtain⟨l,e1,e2,e3⟩:=q4 hz;refine⟨(xC s).1::l,by rw[e1];simp,by simp[e2],?_⟩;rw[List.flatMap_cons,List.append_assoc,<- e3,c3];exact i4
  ·rw[zja c];exact⟨List.Pairwise.nil,by simp,by simp,fun h=>absurd h c,fun _=>rfl⟩
theorem YV{s:RS}(hO:Ok s)(most:Int):uU (ul most s).1/\(∀ e∈(ul most s).1,OkE e/\zl e=true)/\(ul most s).1.length<=1000000000/\((ul most s).2.2=0->s.1=xA (ul most s).1++(ul most s).2.1/\((ul most s).1.length:Int)<=max most 0)/\((ul most s).2.2≠0->(ul most s).1=[]):=by
 obtain⟨h1,h2,h3⟩:=N.xL hO;unfold ul
 by_cases c:max most 0 < (zQ s).1
 ·rw[if_pos c];exact⟨List.Pairwise.nil,by simp,by simp,fun h=>absurd h (N.vA (by decide)),fun _=>rfl⟩
 ·rw[if_neg c]
  by_cases c2:(zQ s).2.2=0
  ·obtain⟨q1,q2,q3,q4,q5⟩:=QC (zQ s).1.toNat [] (zQ s).2 h1 c2 List.Pairwise.nil (by simp) (by simp;have:=h1.len;omega);refine⟨q1,q2,q3,fun hz=>?_,q5⟩;obtain⟨l,e1,e2,e3⟩:=q4 hz;rw[List.nil_append] at e1;rw[e1];refine⟨?_,by omega⟩;rw[xA,List.append_assoc,<- e3,e2,Int.toNat_of_nonneg h2];exact D.uT hO c2
  ·rw[D.vz c2];exact⟨List.Pairwise.nil,by simp[qQ],by simp[qQ],fun h=>absurd h c2,fun _=>rfl⟩
theorem wwa : ∀ (l out:List EV) (r:List Int),uU (out++l)->(∀ e∈l,OkE e/\zl e=true)->qQ l.length out (l.flatMap YE++r,0)=(out++l,(r,0))
 | [],out,r,_,_=>by simp[qQ]
 | x::t,out,r,hs,h=>by
  have hx:=h x (by simp);have e:xC ((x::t).flatMap YE++r,0)=(x,(t.flatMap YE++r,0)):=by
   rw[List.flatMap_cons,List.append_assoc];exact ZRa hx.1 hx.2 _
  have hlast:XI out x=false:=by
   unfold XI
   cases hl:out.getLast? with
   | none=>rfl
   | some y=>
    have:=(List.pairwise_append.1 hs).2.2 y (List.mem_of_getLast? hl) x (by simp);simp only[D.QA,this,Bool.not_true]
  have hT:zia out ((x::t).flatMap YE++r,0)=(t.flatMap YE++r,0):=by
   unfold zia;rw[e];simp only[];rw[hlast]
   rfl
  rw[List.length_cons,Vw (by rw[hT]),hT,e];simp only[];rw[wwa t (out++[x]) r (by rw[List.append_assoc];exact hs) (fun d hd=>h d (by simp[hd])),List.append_assoc]
  rfl
theorem ZYa{l:List EV}(hs:uU l)(h:∀ e∈l,OkE e/\zl e=true){most:Int}(hm:(l.length:Int)<=most)(hl:l.length<=1000000000000)(r:List Int):ul most (xA l++r,0)=(l,(r,0)):=by
 have e2:xA l++r=N.yh (l.length:Int)++(l.flatMap YE++r):=by rw[xA,List.append_assoc]
 unfold ul;rw[e2,D.Zd (by omega) (by omega)];simp only[];rw[if_neg (by omega),Int.toNat_natCast,wwa l [] r (by simpa using hs) h]
 rfl
theorem um : OkE noE:=⟨⟨by decide,by decide,by decide,by decide⟩,by decide,by decide,by decide,by decide,(fun d hd=>by cases hd),by decide⟩
theorem jc{l:List EV}(h:∀ e∈l,OkE e/\zl e=true)(hl:l.length<=1000000000):N.By (xA l):=by
 refine(N.we (by omega)).app fun y hy=>?_
 obtain⟨e,he,hy2⟩:=List.mem_flatMap.1 hy;obtain⟨ho,hg⟩:=h e he;obtain⟨_,_,_,g4,g5,_⟩:=QB hg;have b1:N.By (D.encD e.dot):=(N.we (by have:=ho.dot.d1;omega)).app (N.we ho.dot.n1);have b2:N.By [e.kind]:=fun x hx=>by rw[List.mem_singleton.1 hx];exact ho.kind
 have b3:N.By [e.field]:=fun x hx=>by rw[List.mem_singleton.1 hx];exact ho.field
 have ht:=ho.text;have hk:=ho.klen;have b4:N.By (zga e.text):=(N.we (by omega)).app (by_bytes _);have b5:N.By (D.uk e.kills):=by
  rw[D.uk,D.Vv g4 g5];refine(N.we (by omega)).app fun z hz=>?_
  obtain⟨d,hd,h⟩:=List.mem_flatMap.1 hz;exact((N.we (by have:=(ho.kills d hd).d1;omega)).app (N.we (ho.kills d hd).n1)) z h
 exact(b1.app (b2.app ((N.we ho.cid.2).app (b3.app (b4.app b5))))) y hy2
theorem ZZa(e:EV)(h:e.kills.length<=1000000000000):uq e=pure e:=by
 unfold uq;rw[D.zUa _ h,zB,zA]
end Go.Ep.M.E
namespace Go.Ep.M.F
open Go
open E (OkE zl)
def WT(l:List DT)(d:DT):Bool:=l.any fun x=>decide (x=d)
theorem yba(l:List DT)(d:DT)(hl:l.length<=1000000000000):QV l d=pure (WT l d):=by
 unfold QV yl xM;have:=loopF (body:=yN l d) l (fun i=>(i:Int)) (fun _ x=>decide (x=d)) (fun i _=>Ex.ret (i:Int)) (pure (Ex.brk ())) (fun i x hx hi=>by
  have hd:decide ((i:Int) < (l.length:Int))=true:=by simpa using hi
  unfold yN;simp only[hd,cond_true,zJ hx,zA,D.yga,yR (show i < 9223372036854775807 by omega),wq,eq_comm (a:=d) (b:=x),decide_eq_true_eq]) (by
  unfold yN;simp[zA])
 rw[show(0:Int)=((0:Nat):Int) from rfl,this];have hf:(l.zipIdx.find? fun y=>decide (y.1=d)).isSome=WT l d:=by
  rw[List.isSome_find?];unfold WT;rw[Bool.eq_iff_iff,List.any_eq_true,List.any_eq_true]
  constructor
  ·rintro⟨y,hy,h⟩;exact⟨y.1,List.fst_mem_of_mem_zipIdx hy,h⟩
  ·rintro⟨x,hx,h⟩;obtain⟨i,hi⟩:=List.getElem?_of_mem hx;exact⟨(x,i),by rw[List.mk_mem_zipIdx_iff_getElem?];exact hi,h⟩
 rw[<- hf]
 cases l.zipIdx.find? fun y=>decide (y.1=d) with
 | none=>simp only[zA,zB,ZC];rfl
 | some y=>simp only[zA,zB,jo];simp
def va(l:List EV)(d:DT):Bool:=l.any fun e=>WT e.kills d
theorem Zaa(l:List EV)(d:DT)(hl:l.length<=1000000000000)(hk:∀ e∈l,e.kills.length<=1000000000000):vK l d=pure (va l d):=by
 unfold vK;have:=xJ (body:=uY l d) l (fun i=>(i:Int)) (fun _ x=>!WT x.kills d) (Ex.brk ()) (Ex.ret true) (fun i x hx hi=>by
  have hd:decide ((i:Int) < (l.length:Int))=true:=by simpa using hi
  unfold uY Wp;simp only[hd,cond_true,zJ hx,zA,yba x.kills d (hk x (List.mem_of_getElem? hx)),zB,yR (show i < 9223372036854775807 by omega)]
  cases WT x.kills d <;> rfl) (by
  unfold uY;simp)
 rw[show(0:Int)=((0:Nat):Int) from rfl,this,zA,E.Xj l fun x=>!WT x.kills d];have e:va l d=!(l.all fun x=>!WT x.kills d):=by simp[va,List.all_eq_not_any_not]
 rw[e]
 cases l.all fun x=>!WT x.kills d <;> rfl
theorem wxa(l:List EV)(d:DT)(hl:l.length<=1000000000000)(hk:∀ e∈l,e.kills.length<=1000000000000):Yn l d=pure (va l d):=by
 unfold Yn;have:=xJ (body:=Ym l d) l (fun i=>(i:Int)) (fun _ x=>!WT x.kills d) (Ex.brk ()) (Ex.ret true) (fun i x hx hi=>by
  have hd:decide ((i:Int) < (l.length:Int))=true:=by simpa using hi
  unfold Ym;simp only[hd,cond_true,zJ hx,zA,E.JY x.kills d (hk x (List.mem_of_getElem? hx)),zB,yR (show i < 9223372036854775807 by omega)];show cond (WT x.kills d) _ _=_
  cases WT x.kills d <;> rfl) (by
  unfold Ym;simp)
 rw[show(0:Int)=((0:Nat):Int) from rfl,this,zA,E.Xj l fun x=>!WT x.kills d];have e:va l d=!(l.all fun x=>!WT x.kills d):=by simp[va,List.all_eq_not_any_not]
 rw[e]
 cases l.all fun x=>!WT x.kills d <;> rfl
def Vx(l:List DT)(c:List PT):List DT:=D.vG (l.filter fun d=>!C.Zv c d.dev d.n)
theorem Zba(l : List DT)(c : List PT)(hl : l.length<=1000000000)(hc : C.Sm c) : YJ l c=pure (Vx l c) := by
  unfold YJ UI;have := XS (body := uZ l c false) l (fun i t => ((i : Int), t)) (fun t d => if C.Zv c d.dev d.n=true then t else t++[d]) (fun t => pure t) (fun i t => t.length<=i) (fun i x t hx hi hI => by
    have hd : decide ((i : Int) < (l.length : Int))=true := by simpa using hi
    refine ⟨?_, by split
                   · omega
                   · simp; omega⟩
    unfold uZ;simp only[hd, cond_true, zJ hx, zA, C.yba c x hc, zB, yR (show i < 9223372036854775807 by omega)]
    by_cases c : C.Zv c x.dev x.n=true
    · rw[c, show(true==false)=false from rfl, cond_false, zA, if_pos rfl]
    · simp only[Bool.not_eq_true] at c;rw[c, show(false==false)=true from rfl, cond_true, zH (by simp; omega), zA]; rfl) (fun t _ => by
    unfold uZ;simp[zA]) [] (by simp)
  have key : ∀ (l t : List DT), l.foldl (fun t d => if C.Zv c d.dev d.n=true then t else t++[d]) t=t++l.filter fun d => !C.Zv c d.dev d.n := by
    intro l
    induction l with
    | nil => intro t; simp
    | cons x r ih =>
      intro t;rw[List.foldl_cons, ih]
      by_cases h : C.Zv c x.dev x.n=true
      · rw[if_pos h, List.filter_cons, if_neg (by simp[h])]
      · rw[if_neg h, List.filter_cons, if_pos (by simp[h]), List.append_assoc]; rfl
  rw[show(0 : Int)=((0 : Nat) : Int) from rfl, this, zA, key, List.nil_append, D.xva _ (by have := List.length_filter_le (fun d : DT => !C.Zv c d.dev d.n) l; omega), zB, zA, zB, zA, Vx]
theorem wya(l : List DT)(c : List PT)(hl : l.length<=1000000000)(hc : C.Ok c) : VR l c=pure (Vx l c) := by
  unfold VR;have := XS (body := Yo l c) l (fun i t => (t, (i : Int))) (fun t d => if C.Zv c d.dev d.n=true then t else D.zsa t d) (fun t => pure t) (fun i t => t.length<=i) (fun i x t hx hi hI => by
    have hd : decide ((i : Int) < (l.length : Int))=true := by simpa using hi
    refine ⟨?_, by split
                   · omega
                   · have := D.zTa t x; omega⟩
    unfold Yo;simp only[hd, cond_true, zJ hx, zA, C.JY c x hc, zB, yR (show i < 9223372036854775807 by omega)]
    by_cases c : C.Zv c x.dev x.n=true
    · rw[c, Bool.not_true, cond_false, zA, if_pos rfl]
    · simp only[Bool.not_eq_true] at c;rw[c, Bool.not_false, cond_true, D.xta t x (by omega), zB, zA, zA]; rfl) (fun t _ => by
    unfold Yo;simp[zA]) [] (by simp)
  have key : ∀ (l t : List DT), l.foldl (fun t d => if C.Zv c d.dev d.n=true then t else D.zsa t d) t=(l.filter fun d => !C.Zv c d.dev d.n).foldl D.zsa t := by
    intro l
    induction l with
    | nil => intro t; rfl
    | cons x r ih =>
      intro t;rw[List.foldl_cons, ih]
      by_cases h : C.Zv c x.dev x.n=true
      · rw[if_pos h, List.filter_cons, if_neg (by simp[h])]
      · rw[if_neg h, List.filter_cons, if_pos (by simp[h])]; rfl
  rw[show(0 : Int)=((0 : Nat) : Int) from rfl, this, zA, key]; rfl
def zy(l:List EV):List DT:=l.flatMap fun e=>e.dot::e.kills
def xi(l:List EV):List DT:=D.vG (zy l)
theorem jd(l:List EV)(k:Nat)(h:∀ e∈l,e.kills.length<=k):(zy l).length<=l.length*(k+1):=by
 induction l with
 | nil=>simp[zy]
 | cons e r ih=>
  have h1:=ih fun x hx=>h x (by simp[hx])
  have h2:=h e (by simp);have e1:(zy (e::r)).length=e.kills.length+1+(zy r).length:=by simp[zy];omega
  rw[e1,List.length_cons,Nat.add_mul];omega
theorem Jq{l:List EV}{i:Nat}{x:EV}(h:l[i]?=some x):zy (l.take (i+1))=zy (l.take i)++x.dot::x.kills:=by
 rw[List.take_add_one,h];simp[zy]
theorem yua(l:List EV)(i:Nat):(zy (l.take i)).length<=(zy l).length:=by
 have:zy l=zy (l.take i)++zy (l.drop i):=by unfold zy;rw[<- List.flatMap_append,List.take_append_drop]
 rw[this,List.length_append];omega
theorem zca(l:List EV)(hl:l.length<=1000000000)(hs:(zy l).length<=1000000000):YK l=pure (xi l):=by
 unfold YK;have key:∀ (k i:Nat),i+k=l.length->loop (ua l) ((i:Int),zy (l.take i))=pure (zy l):=by
  intro k
  induction k with
  | zero=>
   intro i hi;refine ze ?_;unfold ua;have:decide ((i:Int) < (l.length:Int))=false:=by simp;omega
   simp only[this,cond_false];rw[List.take_of_length_le (by omega)]
  | succ k ih=>
   intro i hi;obtain⟨x,hx⟩:∃ x,l[i]?=some x:=⟨_,List.getElem?_eq_getElem (by omega)⟩
   have hd:decide ((i:Int) < (l.length:Int))=true:=by simp;omega
   have h1:=yua l (i+1);rw[Jq hx,List.length_append,List.length_cons] at h1;rw[zq (s':=(((i+1:Nat):Int),zy (l.take (i+1)))) ?_]
   ·exact ih (i+1) (by omega)
   ·unfold ua;simp only[hd,cond_true,zJ hx,zA,yR (show i < 9223372036854775807 by omega)];rw[zH (by simp;omega),zH (by simp;omega),Jq hx,List.append_assoc];rfl
 have:=key l.length 0 (by omega);rw[show zy (l.take 0)=[] from rfl] at this;rw[show(0:Int)=((0:Nat):Int) from rfl,this,zA,D.xva _ (by omega),zB,zA,xi]
theorem rdots_in(l:List EV){i:Nat}{x:EV}(hx:l[i]?=some x)(hk:x.kills.length<=1000000000)(s:List DT)(hs:s.length<=1000000000):loop (ZJ l (i:Int)) (s,0)=pure (x.kills.foldl D.zsa s):=by
 have:=XS (body:=ZJ l (i:Int)) x.kills (fun k t=>(t,(k:Int))) D.zsa (fun t=>pure t) (fun k t=>t.length<=1000000000+k) (fun k d t hd hi hI=>by
  have hc:decide ((k:Int) < (x.kills.length:Int))=true:=by simpa using hi
  refine⟨?_,by have:=D.zTa t d;omega⟩;unfold ZJ;simp only[zJ hx,zA,hc,cond_true,zJ hd,D.xta t d (by omega),zB,yR (show k < 9223372036854775807 by omega)]) (fun t _=>by
  unfold ZJ;simp[zJ hx,zA]) s (by omega)
 exact this
theorem wza(l:List EV)(hl:l.length<=1000000)(hk:∀ e∈l,e.kills.length<=300):VS l=pure (xi l):=by
 unfold VS;have key:∀ (k i:Nat),i+k=l.length->loop (Yp l) (D.vG (zy (l.take i)),(i:Int))=pure (xi l):=by
  intro k
  induction k with
  | zero=>
   intro i hi;refine ze ?_;unfold Yp;have:decide ((i:Int) < (l.length:Int))=false:=by simp;omega
   simp only[this,cond_false];rw[List.take_of_length_le (by omega)];rfl
  | succ k ih=>
   intro i hi;obtain⟨x,hx⟩:∃ x,l[i]?=some x:=⟨_,List.getElem?_eq_getElem (by omega)⟩
   have hd:decide ((i:Int) < (l.length:Int))=true:=by simp;omega
   have h1:=yua l i;have h2:=jd l 300 hk;have h3:=D.WP (zy (l.take i));have h4:=D.zTa (D.vG (zy (l.take i))) x.dot;have h5:=hk x (List.mem_of_getElem? hx);rw[zq (s':=(D.vG (zy (l.take (i+1))),((i+1:Nat):Int))) ?_]
   ·exact ih (i+1) (by omega)
   ·unfold Yp;simp only[hd,cond_true,zJ hx,zA,D.xta _ x.dot (show(D.vG (zy (l.take i))).length<=1000000000000 by omega),zB,rdots_in l hx (show x.kills.length<=1000000000 by omega) _ (show(D.zsa (D.vG (zy (l.take i))) x.dot).length<=1000000000 by omega),yR (show i < 9223372036854775807 by omega)];rw[Jq hx];unfold D.vG;rw[List.foldl_append];rfl
 have:=key l.length 0 (by omega);rw[show D.vG (zy (l.take 0))=[] from rfl] at this;rw[show(0:Int)=((0:Nat):Int) from rfl,this,zA]
def xa(l:List EV)(i:Nat)(x:EV):Bool:=decide (0 < i)&&match l[i - 1]? with | some y=>decide (0<=V.y2a y.dot x.dot) | none=>false
theorem Wy{β:Type}{l:List EV}{i:Nat}{x:EV}(hi:i < l.length)(hl:l.length<=1000000000)(f:DT->DT->M Int)(hf:∀ a b,f a b=pure (V.y2a a b))(K:Bool->M β) :
  (cond (decide (0 < (i:Int))) ((idx l (IntKind.i64.wrap ((i:Int) - 1))).bind fun y=>(det (f y.dot x.dot)).bind fun v=>K (decide (0<=v))) (K false))=K (xa l i x):=by
 unfold xa
 by_cases h:0 < i
 ·obtain⟨y,hy⟩:∃ y,l[i - 1]?=some y:=⟨_,List.getElem?_eq_getElem (by omega)⟩
  have e:IntKind.i64.wrap ((i:Int) - 1)=((i - 1:Nat):Int):=by rw[UC (by omega) (by omega)];omega
  have hd:decide (0 < (i:Int))=true:=by simp;omega
  rw[hd,cond_true,e,zJ hy,zA,hf,zB,zA,decide_eq_true h,Bool.true_and,hy]
 ·have hd:decide (0 < (i:Int))=false:=by simp;omega
  rw[hd,cond_false,decide_eq_false h,Bool.false_and]
def vwa(d:DL)(i:Nat)(e:EV):Bool:=!zl e||(xa d.events i e||(C.Zv d.from_ e.dot.dev e.dot.n||(decide (e.kind=1)&&va d.events e.dot)))
def xp(d:DL):Bool:=decide (d.from_=C.zh d.from_)&&(decide (d.to_=C.zh d.to_)&&(decide (C.opC (fun x y=>x&&!y) d.from_ d.to_=[])&&(decide (d.events.length<=4096)&&((d.events.zipIdx.all fun y=>!vwa d y.2 y.1)&&decide (Vx (xi d.events) d.to_=[])))))
structure OkD(d:DL):Prop where
 from_:C.Ok d.from_
 to_:C.Ok d.to_
 evs:∀ e∈d.events,OkE e
 len:d.events.length<=1000000
 kills:∀ e∈d.events,e.kills.length<=300
theorem x2a{α:Type}[DecidableEq α](l:List α):decide ((l.length:Int)=0)=decide (l=[]):=by
 cases l with
 | nil=>rfl
 | cons x r=>simp;omega
theorem vma{d:DL}(h:OkD d):loop (vR d) 0=pure (if (d.events.zipIdx.all fun y=>!vwa d y.2 y.1)=true then Ex.brk () else Ex.ret false):=by
 have hl:=h.len;have:=xJ (body:=vR d) d.events (fun i=>(i:Int)) (fun i x=>!vwa d i x) (Ex.brk ()) (Ex.ret false) (fun i x hx hi=>by
  have hd:decide ((i:Int) < (d.events.length:Int))=true:=by simpa using hi
  have hm:=List.mem_of_getElem? hx;have hp:=fun(K:Bool->M (Step Int (Ex Unit Bool)))=>Wy (x:=x) hi (by omega) wP D.Je K
  unfold vR;simp only[hd,cond_true,zJ hx,zA,E.wY (h.evs x hm),C.yba d.from_ x.dot h.from_.sm,Zaa d.events x.dot (by omega) (fun e he=>by have:=h.kills e he;omega),zB,yR (show i < 9223372036854775807 by omega)];have hp:=Wy (x:=x) hi (by omega) wP D.Je (fun b=>(pure b:M Bool));rw[hp];unfold vwa;simp only[zA]
  cases zl x with
  | false=>rfl
  | true=>
   cases C.Zv d.from_ x.dot.dev x.dot.n with
   | true=>cases xa d.events i x <;> rfl
   | false=>
    cases xa d.events i x with
    | true=>rfl
    | false=>
     cases decide (x.kind=1) with
     | false=>rfl
     | true=>cases va d.events x.dot <;> rfl) (by
  unfold vR;simp)
 rw[show(0:Int)=((0:Nat):Int) from rfl,this]
theorem x3a{d:DL}(h:OkD d):loop (ZK d) 0=pure (if (d.events.zipIdx.all fun y=>!vwa d y.2 y.1)=true then Ex.brk () else Ex.ret false):=by
 have hl:=h.len;have:=xJ (body:=ZK d) d.events (fun i=>(i:Int)) (fun i x=>!vwa d i x) (Ex.brk ()) (Ex.ret false) (fun i x hx hi=>by
  have hd:decide ((i:Int) < (d.events.length:Int))=true:=by simpa using hi
  have hm:=List.mem_of_getElem? hx;unfold ZK;simp only[hd,cond_true,zJ hx,zA,E.wI (h.evs x hm),C.JY d.from_ x.dot h.from_,wxa d.events x.dot (by omega) (fun e he=>by have:=h.kills e he;omega),zB,yR (show i < 9223372036854775807 by omega)];have hp:=Wy (x:=x) hi (by omega) uN V.uw (fun b=>(cond b (pure true) (cond (C.Zv d.from_ x.dot.dev x.dot.n) (pure true) (cond (decide (x.kind=1)) (pure (va d.events x.dot)) (pure false))):M Bool));refine(congrArg (fun m:M Bool=>M.bind (cond (!zl x) (pure true) m) fun v70=>cond v70 (pure (Step.done (Ex.ret false))) (pure (Step.next ((i+1:Nat):Int)))) hp).trans ?_;unfold vwa
  cases zl x with
  | false=>rfl
  | true=>
   cases C.Zv d.from_ x.dot.dev x.dot.n with
   | true=>cases xa d.events i x <;> rfl
   | false=>
    cases xa d.events i x with
    | true=>rfl
    | false=>
     cases decide (x.kind=1) with
     | false=>rfl
     | true=>cases va d.events x.dot <;> rfl) (by
  unfold ZK;simp)
 rw[show(0:Int)=((0:Nat):Int) from rfl,this]
theorem x4a(l:List EV):decide ((4096:Int) < (l.length:Int))=!decide (l.length<=4096):=by
 by_cases c:l.length<=4096
 ·rw[decide_eq_true c];simp;omega
 ·rw[decide_eq_false c];simp;omega
theorem dlen{d:DL}(h:OkD d):(zy d.events).length<=1000000000:=by have:=jd d.events 300 h.kills;have:=h.len;omega
theorem Vy{d:DL}(h:OkD d):uo d=pure (xp d):=by
 have h1:=h.len;have h2:=dlen h;have h3:(xi d.events).length<=1000000000:=Nat.le_trans (D.WP _) h2;unfold uo xp;rw[vma h];simp only[C.wY _ h.from_.sm,C.wY _ h.to_.sm,C.uwa _ _ h.from_.sm h.to_.sm,zca d.events (by omega) h2,Zba _ _ h3 h.to_.sm,zB,zA,x4a,x2a]
 cases decide (d.from_=C.zh d.from_) with
 | false=>rfl
 | true=>
  cases decide (d.to_=C.zh d.to_) with
  | false=>rfl
  | true=>
   cases decide (C.opC (fun x y=>x&&!y) d.from_ d.to_=[]) with
   | false=>rfl
   | true=>
    cases decide (d.events.length<=4096) with
    | false=>rfl
    | true=>cases d.events.zipIdx.all fun y=>!vwa d y.2 y.1 <;> rfl
theorem qR{d:DL}(h:OkD d):jI d=pure (xp d):=by
 have h1:=h.len;have h2:=dlen h;have h3:(xi d.events).length<=1000000000:=Nat.le_trans (D.WP _) h2;unfold jI xp;rw[x3a h];simp only[C.wI _ h.from_,C.wI _ h.to_,C.vZa _ _ h.from_ h.to_,wza d.events (by omega) h.kills,wya _ _ h3 h.to_,zB,zA,x4a,x2a]
 cases decide (d.from_=C.zh d.from_) with
 | false=>rfl
 | true=>
  cases decide (d.to_=C.zh d.to_) with
  | false=>rfl
  | true=>
   cases decide (C.opC (fun x y=>x&&!y) d.from_ d.to_=[]) with
   | false=>rfl
   | true=>
    cases decide (d.events.length<=4096) with
    | false=>rfl
    | true=>cases d.events.zipIdx.all fun y=>!vwa d y.2 y.1 <;> rfl
open E (OkE zl)
def Zca(n:Int):Bool:=decide (0 < n)&&decide (n<=281474976710655)
set_option maxHeartbeats 4000000 in
theorem eSame_eq(a b:EV)(h:a.kills.length<=1000000000000):YH a b=pure (decide (a=b)):=by
 unfold YH;rw[D.yga,V.xha a.kills b.kills h,zB,zA];have e:decide (a=b)=(decide (a.dot=b.dot)&&(decide (a.kind=b.kind)&&(decide (a.cid=b.cid)&&(decide (a.field=b.field)&&(decide (a.text=b.text)&&decide (a.kills=b.kills)))))):=by
  cases a;cases b;simp only[EV.mk.injEq,Bool.decide_and]
 rw[e]
 cases decide (a.dot=b.dot) <;> cases decide (a.kind=b.kind) <;> cases decide (a.cid=b.cid) <;> cases decide (a.field=b.field) <;> cases decide (a.text=b.text) <;> rfl
end Go.Ep.M.F

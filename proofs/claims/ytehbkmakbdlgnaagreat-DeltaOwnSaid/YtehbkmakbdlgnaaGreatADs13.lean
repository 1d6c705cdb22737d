/- Side texts. -/
import Derived.Test.YtehbkmakbdlgnaaGreatADs12
set_option linter.unusedVariables false
set_option linter.unusedSimpArgs false
namespace Go.Ep.M.D
open Go
theorem Uf{a b:DT}:zY a b=true↔a.dev < b.dev\/(a.dev=b.dev/\a.n < b.n):=by simp[zY]
theorem Wa(a:DT):zY a a=false:=by
 cases h:zY a a with
 | false=>rfl
 | true=>rw[Uf] at h;omega
theorem WL{a b c:DT}(h1:zY a b=true)(h2:zY b c=true):zY a c=true:=by rw[Uf] at *;omega
theorem Yp{a b:DT}(h:zY a b=true):zY b a=false:=by
 cases h2:zY b a with
 | false=>rfl
 | true=>rw[Uf] at h h2;omega
theorem qX{a b:DT}(h1:zY a b=false)(h2:zY b a=false):a=b:=by
 have h3:¬ (zY a b=true):=by simp[h1]
 have h4:¬ (zY b a=true):=by simp[h2]
 rw[Uf] at h3 h4
 cases a;cases b
 simp only[DT.mk.injEq] at *
 omega
abbrev Srt(l:List DT):Prop:=l.Pairwise fun x y=>zY x y=true
theorem uVa : ∀ {l l':List DT},Srt l->Srt l'->(∀ d,d∈l↔d∈l')->l=l'
 | [],[],_,_,_=>rfl
 | [],y::r,_,_,h=>by have:=(h y).2 (by simp);simp at this
 | x::r,[],_,_,h=>by have:=(h x).1 (by simp);simp at this
 | x::r,y::t,h1,h2,h=>by
  have hx:=(h x).1 (by simp);have hy:=(h y).2 (by simp);have e:x=y:=by
   rcases List.mem_cons.1 hx with e | hx
   ·exact e
   ·rcases List.mem_cons.1 hy with e | hy
    ·exact e.symm
    ·have a1:=(List.pairwise_cons.1 h2).1 x hx;have a2:=(List.pairwise_cons.1 h1).1 y hy;rw[Yp a1] at a2;cases a2
  subst e
  congr 1
  refine uVa (List.pairwise_cons.1 h1).2 (List.pairwise_cons.1 h2).2 fun d=>?_
  have h3:=h d;simp only[List.mem_cons] at h3
  constructor
  ·intro hd;rcases h3.1 (.inr hd) with e | h4
   ·have:=(List.pairwise_cons.1 h1).1 d hd;rw[e,Wa] at this;cases this
   ·exact h4
  ·intro hd;rcases h3.2 (.inr hd) with e | h4
   ·have:=(List.pairwise_cons.1 h2).1 d hd;rw[e,Wa] at this;cases this
   ·exact h4
def y2a(s:List DT)(d:DT):List DT:=(s.filter fun x=>zY x d)++[d]++(s.filter fun x=>zY d x)
theorem ins_mem{s:List DT}{d x:DT}:x∈y2a s d↔x=d\/x∈s:=by
 simp only[y2a,List.mem_append,List.mem_filter,List.mem_singleton]
 constructor
 ·rintro((h | h) | h)
  ·exact .inr h.1
  ·exact .inl h
  ·exact .inr h.1
 ·rintro(h | h)
  ·exact .inl (.inr h)
  ·cases h1:zY x d with
   | true=>exact .inl (.inl ⟨h,rfl⟩)
   | false=>
    cases h2:zY d x with
    | true=>exact .inr ⟨h,rfl⟩
    | false=>exact .inl (.inr (qX h1 h2))
theorem ins_srt{s:List DT}(h:Srt s)(d:DT):Srt (y2a s d):=by
 unfold Srt y2a;rw[List.pairwise_append,List.pairwise_append];refine⟨⟨h.filter _,by simp,fun a ha b hb=>?_⟩,h.filter _,fun a ha b hb=>?_⟩
 ·rw[List.mem_singleton.1 hb];exact(List.mem_filter.1 ha).2
 ·have hb:=(List.mem_filter.1 hb).2;rcases List.mem_append.1 ha with ha | ha
  ·exact WL (List.mem_filter.1 ha).2 hb
  ·rw[List.mem_singleton.1 ha];exact hb
theorem y3a(s:List DT)(d:DT):(y2a s d).length<=s.length+1:=by
 unfold y2a;have h:∀ l:List DT,(l.filter fun x=>zY x d).length+(l.filter fun x=>zY d x).length<=l.length:=by
  intro l
  induction l with
  | nil=>simp
  | cons x r ih=>
   cases h1:zY x d with
   | true=>simp[h1,Yp h1];omega
   | false=>
    cases h2:zY d x with
    | true=>simp[h1,h2];omega
    | false=>simp[h1,h2];omega
 have:=h s;simp;omega
def Wv(l:List DT):List DT:=l.foldl y2a []
theorem jG : ∀ (l s:List DT),Srt s->Srt (l.foldl y2a s)/\(∀ d,d∈l.foldl y2a s↔d∈s\/d∈l)/\(l.foldl y2a s).length<=s.length+l.length
 | [],s,h=>⟨h,by simp,by simp⟩
 | x::r,s,h=>by
  obtain⟨h1,h2,h3⟩:=jG r (y2a s x) (ins_srt h x);refine⟨h1,fun d=>?_,?_⟩
  ·rw[List.foldl_cons,h2 d,ins_mem,List.mem_cons]
   constructor
   ·rintro((h | h) | h)
    ·exact .inr (.inl h)
    ·exact .inl h
    ·exact .inr (.inr h)
   ·rintro(h | h | h)
    ·exact .inl (.inr h)
    ·exact .inl (.inl h)
    ·exact .inr h
  ·have:=y3a s x;rw[List.foldl_cons,List.length_cons];omega
theorem sort_srt(l:List DT):Srt (Wv l):=(jG l [] List.Pairwise.nil).1
theorem Yq{l:List DT}{d:DT}:d∈Wv l↔d∈l:=by simpa[Wv] using (jG l [] List.Pairwise.nil).2.1 d
theorem jH(l:List DT):(Wv l).length<=l.length:=by simpa[Wv] using (jG l [] List.Pairwise.nil).2.2
theorem uWa(s:List DT)(d:DT)(h:s.length<=1000000000000):XM s d=pure (y2a s d):=V.UR s d h
def ddS(out:List DT)(x:DT):List DT:=if out.getLast?=some x then out else out++[x]
def dd(l:List DT):List DT:=l.foldl ddS []
theorem JN(l:List DT)(x:DT):dd (l++[x])=ddS (dd l) x:=by simp[dd]
theorem y4a(l:List DT):(dd l).getLast?=l.getLast?:=by
 rcases R.vS l with rfl | ⟨r,y,rfl⟩
 ·rfl
 ·rw[JN];unfold ddS
  by_cases c:(dd r).getLast?=some y
  ·rw[if_pos c,c];simp
  ·rw[if_neg c];simp
theorem dd_mem{l:List DT}{d:DT}:d∈dd l↔d∈l:=by
 have:∀ (l s:List DT),d∈l.foldl ddS s↔d∈s\/d∈l:=by
  intro l
  induction l with
  | nil=>intro s;simp
  | cons x r ih=>
   intro s;rw[List.foldl_cons,ih];have h2:d∈ddS s x↔d∈s\/d=x:=by
    unfold ddS
    split
    ·rename_i h
     exact⟨.inl,fun h3=>h3.elim id fun e=>by rw[e];exact List.mem_of_getLast? h⟩
    ·simp
   rw[h2,List.mem_cons];exact or_assoc
 simpa[dd] using this l []
theorem dd_srt{l:List DT}(h:l.Pairwise fun x y=>zY y x=false):Srt (dd l):=by
 have:∀ (n:Nat) (l:List DT),l.length=n->(l.Pairwise fun x y=>zY y x=false)->Srt (dd l):=by
  intro n
  induction n with
  | zero=>intro l hl _;have:=List.eq_nil_of_length_eq_zero hl;subst this;exact List.Pairwise.nil
  | succ n ih=>
   intro l hl h;rcases R.vS l with rfl | ⟨r,y,rfl⟩
   ·simp at hl
   ·rw[List.pairwise_append] at h;have hr:=ih r (by simpa using hl) h.1;rw[JN];unfold ddS
    split
    ·exact hr
    ·rename_i hne
     unfold Srt;rw[List.pairwise_append];refine⟨hr,by simp,fun a ha b hb=>?_⟩;rw[List.mem_singleton.1 hb];have ha':=dd_mem.1 ha;have h1:=h.2.2 a ha' y (by simp)
     cases h2:zY a y with
     | true=>rfl
     | false=>
      exfalso;have e:=qX h2 h1;subst e;rw[y4a] at hne;rcases R.vS r with rfl | ⟨q,z,rfl⟩
      ·simp at ha'
      ·have hz:zY a z=false:=h.2.2 z (by simp) a (by simp);rcases List.mem_append.1 ha' with h5 | h5
       ·have h6:zY z a=false:=by
         have:=(List.pairwise_append.1 h.1).2.2 a h5 z (by simp);exact this
        have:=qX hz h6;subst this;simp at hne
       ·rw[List.mem_singleton.1 h5] at hne;simp at hne
 exact this l.length l rfl h
theorem Qr(l:List DT)(h:l.length<=1000000000000):yA l=pure l:=by
 unfold yA;refine ux ⟨⟨false,fun h=>by cases h⟩,fun b hb=>?_⟩
 cases b with
 | true=>show([]:List DT)=l;exact(hb rfl).symm
 | false=>
  show _/\([]++l=l)
  exact⟨by simp;omega,List.nil_append l⟩
theorem z6a(x y:DT):(decide (x.dev=y.dev)&&decide (x.n=y.n))=decide (x=y):=by
 cases x;cases y;simp[Bool.decide_and]
theorem XV{l:List DT}{m:Nat}{x:DT}(h:l[m]?=some x):l.take (m+1)=l.take m++[x]:=by
 rw[List.take_add_one,h];rfl
theorem z7a{l:List DT}{m:Nat}{x:DT}(h:l[m]?=some x):(l.take (m+1)).getLast?=some x:=by rw[XV h];simp
theorem UX(s:List DT)(k:Nat)(hk:k < s.length)(hl:s.length<=1000000000000):∀ (d k2 kk:Nat) (v:List DT),k+k2+d=s.length->1<=k2->v.length=s.length->kk+1<=k+k2->v.take kk=dd (s.take (k+k2))->v.drop (k+k2 - 1)=s.drop (k+k2 - 1) ->
  ∃ (kk':Nat) (v':List DT),loop (zw s (k:Int)) ((kk:Int),(k2:Int),v)=pure ((kk':Int),v')/\v'.length=s.length/\kk'<=s.length/\v'.take kk'=dd s
 | 0,k2,kk,v,hd,h1,hv,hkk,ht,_=>by
  refine⟨kk,v,yP ?_,hv,by omega,by rw[ht,show k+k2=s.length by omega,List.take_length]⟩;unfold zw;have:decide ((k2:Int) < (((s.length - (k:Int).toNat:Nat)):Int))=false:=by simp;omega
  simp only[this,cond_false]
 | d+1,k2,kk,v,hd,h1,hv,hkk,ht,hdr=>by
  have hvg:∀ j,k+k2 - 1<=j->v[j]?=s[j]?:=fun j hj=>by
   have:=congrArg (fun l=>l[j - (k+k2 - 1)]?) hdr;simp only[List.getElem?_drop] at this;rw[show k+k2 - 1+(j - (k+k2 - 1))=j by omega] at this;exact this
  obtain⟨x,hx⟩:∃ x,s[k+k2]?=some x:=⟨_,List.getElem?_eq_getElem (by omega)⟩
  obtain⟨y,hy⟩:∃ y,s[k+k2 - 1]?=some y:=⟨_,List.getElem?_eq_getElem (by omega)⟩
  have hlast:(dd (s.take (k+k2))).getLast?=some y:=by
   rw[y4a];have:=z7a hy
   rwa [show k+k2 - 1+1=k+k2 by omega] at this
  have hdd:dd (s.take (k+k2+1))=if y=x then dd (s.take (k+k2)) else dd (s.take (k+k2))++[x]:=by
   rw[XV hx,JN];unfold ddS;rw[hlast]
   by_cases c:y=x
   ·rw[if_pos c,if_pos (by rw[c])]
   ·rw[if_neg c,if_neg (by intro e;exact c (Option.some.inj e))]
  have hb:zw s (k:Int) ((kk:Int),(k2:Int),v)=pure (.next (if y=x then ((kk:Int),((k2+1:Nat):Int),v) else (((kk+1:Nat):Int),((k2+1:Nat):Int),v.set kk x))):=by
   unfold zw;have hc:decide ((k2:Int) < (((s.length - (k:Int).toNat:Nat)):Int))=true:=by simp;omega
   have e1:IntKind.i64.wrap ((k2:Int) - 1)=((k2 - 1:Nat):Int):=by rw[jx (by omega) (by omega)];omega
   have i1:idx v ((((k:Int).toNat+(k2:Int).toNat:Nat)):Int)=pure x:=zN (by rw[Int.toNat_natCast,Int.toNat_natCast,hvg _ (by omega)];exact hx);have i2:idx v ((((k:Int).toNat+(((k2 - 1:Nat):Int)).toNat:Nat)):Int)=pure y:=zN (by rw[Int.toNat_natCast,Int.toNat_natCast,hvg _ (by omega),show k+(k2 - 1)=k+k2 - 1 by omega];exact hy);obtain⟨z,hz⟩:∃ z,v[kk]?=some z:=⟨_,List.getElem?_eq_getElem (by omega)⟩
   have i3:idx v (kk:Int)=pure z:=zN hz;simp only[hc,cond_true,e1];rw[zI (by simp;omega),i1,zA,zI (by simp;omega),i2,zA];simp only[z6a]
   by_cases c:y=x
   ·have c1:decide (x=y)=true:=decide_eq_true c.symm;simp only[c1,Bool.not_true,cond_false,zA,yS (show k2 < 9223372036854775807 by omega),if_pos c]
   ·have c1:decide (x=y)=false:=decide_eq_false (fun e=>c e.symm);simp only[c1,Bool.not_false,cond_true,if_neg c];rw[zI (by simp;omega),i3];simp only[zA,yS (show k2 < 9223372036854775807 by omega),yS (show kk < 9223372036854775807 by omega),Int.toNat_natCast]
  by_cases c:y=x
  ·rw[if_pos c] at hb hdd;rw[yT hb];refine UX s k hk hl d (k2+1) kk v (by omega) (by omega) hv (by omega) (by rw[ht,<- hdd];rfl) ?_;have:=congrArg (List.drop 1) hdr;rw[List.drop_drop,List.drop_drop,show k+k2 - 1+1=k+(k2+1) - 1 by omega] at this;exact this
  ·rw[if_neg c] at hb hdd;rw[yT hb];refine UX s k hk hl d (k2+1) (kk+1) (v.set kk x) (by omega) (by omega) (by simpa using hv) (by omega) ?_ ?_
   ·have h5:(v.set kk x)[kk]?=some x:=by rw[List.getElem?_set];simp;omega
    rw[XV h5,List.take_set,List.set_eq_of_length_le (by rw[List.length_take];omega),ht,<- hdd];rfl
   ·rw[List.drop_set,if_pos (by omega)];have:=congrArg (List.drop 1) hdr;rw[List.drop_drop,List.drop_drop,show k+k2 - 1+1=k+(k2+1) - 1 by omega] at this;exact this
theorem wka(s:List DT)(hl:s.length<=1000000000000):yK s=pure (dd s):=by
 unfold yK
 by_cases h2:s.length < 2
 ·have:decide ((s.length:Int) < 2)=true:=by simp;omega
  rw[this,cond_true]
  match s,h2 with
  | [],_=>rfl
  | [x],_=>rfl
 ·have:decide ((s.length:Int) < 2)=false:=by simp;omega
  rw[this,cond_false];have key:∀ d k,k+d=s.length->1<=k->dd (s.take k)=s.take k->(loop (zx s) (k:Int)).bind (exk fun _=>pure s)=pure (dd s):=by
   intro d
   induction d with
   | zero=>
    intro k hk h1 hd;rw[yP (r:=.brk ()) (by
     unfold zx;have:decide ((k:Int) < (s.length:Int))=false:=by simp;omega
     simp only[this,cond_false])]
    rw[show k=s.length by omega,List.take_length] at hd;show pure s=pure (dd s);rw[hd]
   | succ d ih=>
    intro k hk h1 hd;obtain⟨x,hx⟩:∃ x,s[k]?=some x:=⟨_,List.getElem?_eq_getElem (by omega)⟩
    obtain⟨y,hy⟩:∃ y,s[k - 1]?=some y:=⟨_,List.getElem?_eq_getElem (by omega)⟩
    have hlast:(dd (s.take k)).getLast?=some y:=by
     rw[y4a];have:=z7a hy
     rwa [show k - 1+1=k by omega] at this
    have hc:decide ((k:Int) < (s.length:Int))=true:=by simp;omega
    have i1:idx s (k:Int)=pure x:=zN hx;have i2:idx s (IntKind.i64.wrap ((k:Int) - 1))=pure y:=by
     rw[jx (by omega) (by omega)];exact WW (by omega) (by rw[show((k:Int) - 1).toNat=k - 1 by omega];exact hy)
    by_cases c:x=y
    ·subst c;obtain⟨kk,v,h5,h6,h7,h8⟩:=UX s k (by omega) hl d 1 k s (by omega) (by omega) rfl (by omega) (by
      rw[XV hx,JN,ddS,if_pos hlast,hd]) (by rw[show k+1 - 1=k by omega])
     rw[yP (r:=.ret (dd s)) (by
      unfold zx;simp only[hc,cond_true,i1,i2,zA,z6a,decide_true];rw[zI (by omega),show(1:Int)=((1:Nat):Int) from rfl,h5,zA];simp only[];rw[zI (by omega),zI (by simp;omega),zI (by
       simp only[List.length_append,List.length_take,List.length_replicate,List.length_drop,Int.toNat_natCast];omega),zA,jS]
      congr 3
      rw[Int.toNat_natCast,List.append_assoc,List.take_append_of_le_length (by rw[List.length_take];omega),List.take_take,Nat.min_self,h8])]
     rfl
    ·have c1:decide (x=y)=false:=decide_eq_false c;rw[yT (s':=((k+1:Nat):Int)) (by
      unfold zx;simp only[hc,cond_true,i1,i2,zA,z6a,c1,cond_false,YT,yS (show k < 9223372036854775807 by omega)])]
     refine ih (k+1) (by omega) (by omega) ?_;rw[XV hx,JN,ddS,if_neg (by rw[hlast];intro e;exact c (Option.some.inj e).symm),hd]
  have:=key (s.length - 1) 1 (by omega) (by omega) (by
   obtain⟨x,r,rfl⟩:∃ x r,s=x::r:=by
    cases s with
    | nil=>simp at h2
    | cons x r=>exact⟨x,r,rfl⟩
   rfl)
  exact this
theorem v9a{l:List DT}{Q:List DT->Prop}(h:∀ s,s.Perm l->(s.Pairwise fun x y=>zY y x=false)->Q s):(srt zY l).wp Q:=by
 refine⟨⟨l.mergeSort (fun x y=>!zY y x),List.mergeSort_perm _ _,?_⟩,fun s ⟨h1,h2⟩=>h s h1 h2⟩;refine(List.pairwise_mergeSort (fun a b c h1 h2=>?_) (fun a b=>?_) l).imp fun {x y} h=>by simpa using h
 ·simp only[Bool.not_eq_true'] at h1 h2 ⊢
  cases h3:zY c a with
  | false=>rfl
  | true=>
   rw[Uf] at h3;have h4:¬ (zY b a=true):=by simp[h1]
   have h5:¬ (zY c b=true):=by simp[h2]
   rw[Uf] at h4 h5;omega
 ·cases h1:zY b a with
  | false=>rfl
  | true=>rw[Yp h1];rfl
theorem uXa(l:List DT)(h:l.length<=1000000000000):VR l=pure (Wv l):=by
 unfold VR;rw[Qr l h,zB,zA,zI (by omega)];refine ux (v9a fun s hs hp=>?_);show(bind (det (yK s)) fun y8=>pure y8).wp _;rw[wka s (by rw[hs.length_eq];exact h),zB,zA];exact uVa (dd_srt hp) (sort_srt l) fun d=>by rw[dd_mem,Yq];exact hs.mem_iff
theorem cmp16_eq(x y:Int):xm x y=pure (R.uAa x y):=by
 unfold xm vF R.uAa;simp only[decide_true,Bool.not_true,zB,zA,cond_false,xB]
 split
 ·rfl
 ·split <;> rfl
theorem x0a(a b:DT):Zr a b=pure (V.zwa a b):=by
 unfold Zr;rw[cmp16_eq,zB,zA,R.uBa,zB,zA];unfold V.zwa R.uAa
 cases a with | mk d n=>cases b with | mk e m=>
 simp only[DT.mk.injEq,zY]
 by_cases h1:d < e
 ·have:¬ d=e:=by omega
  simp[h1,this]
 ·by_cases h2:e < d
  ·have:¬ d=e:=by omega
   simp[h1,h2,this]
  ·have h3:d=e:=by omega
   subst h3
   by_cases h4:n < m
   ·have:¬ n=m:=by omega
    simp[h4,this]
   ·by_cases h5:m < n
    ·have:¬ n=m:=by omega
     simp[h4,h5,this]
    ·have:n=m:=by omega
     simp[this]
structure OkD(d:DT):Prop where
 d0:0<=d.dev
 d1:d.dev<=65535
 n0:0<=d.n
 n1:d.n<=18446744073709551615
def encD(d:DT):List Int:=N.encI d.dev++N.encI d.n
def encR(x:RN):List Int:=N.encI x.lo++N.encI x.hi
def encP(p:PT):List Int:=N.encI p.dev++(N.encI p.runs.length++p.runs.flatMap encR)
def encN(c:List PT):List Int:=N.encI c.length++c.flatMap encP
structure OkP(p:PT):Prop where
 d0:0<=p.dev
 d1:p.dev<=65535
 r:∀ x∈p.runs,(0<=x.lo/\x.lo<=18446744073709551615)/\0<=x.hi/\x.hi<=18446744073709551615
open N (RS Ok WT UW Wu OkB Sim)
def bad4(c:Bool)(s:RS):RS:=if c=true then Wu 4 s else s
def fin{α:Type}(z x:α)(t:RS):α×RS:=if t.2≠0 then (z,t) else (x,t)
theorem uYa{s:RS}(h:Ok s)(c:Bool):Ok (bad4 c s):=by unfold bad4;split;exact N.Qq h _;exact h
theorem fin_ok{α:Type}{z x:α}{t:RS}(h:t.2=0):fin z x t=(x,t):=if_neg (by simp[h])
theorem fin_bad{α:Type}{z x:α}{t:RS}(h:t.2≠0):fin z x t=(z,t):=if_pos h
def dotR(s:RS):DT:=⟨(UW 65535 s).1,(WT (UW 65535 s).2).1⟩
def dotT(s:RS):RS:=bad4 (!V.yn (dotR s)) (WT (UW 65535 s).2).2
def dotS(s:RS):DT×RS:=fin ⟨0,0⟩ (dotR s) (dotT s)
theorem ok_dot{s:RS}(h:Ok s):Ok (dotS s).2/\OkD (dotS s).1/\OkD (dotR s):=by
 obtain⟨h1,h2,h3⟩:=N.ok_upto h (m:=65535) (by decide);obtain⟨h4,h5,h6⟩:=N.uUa h1;have ht:Ok (dotT s):=uYa h4 _;have hr:OkD (dotR s):=⟨h2,h3,h5,h6⟩
 unfold dotS
 by_cases c:(dotT s).2=0
 ·rw[fin_ok c];exact⟨ht,hr,hr⟩
 ·rw[fin_bad c];exact⟨ht,⟨Int.le_refl _,by simp,Int.le_refl _,by simp⟩,hr⟩
variable{B:List Int}{a:Int}{s:RS}
def lastGe(out:List DT)(x:DT):Bool:=match out.getLast? with | some y=>decide (0<=V.zwa y x) | none=>false
def Qs(out:List DT)(s:RS):RS:=bad4 (lastGe out (dotS s).1) (dotS s).2
def yc : Nat->List DT->RS->List DT×RS
 | 0,out,s=>(out,s)
 | k+1,out,s=>if (Qs out s).2≠0 then ([],Qs out s) else yc k (out++[(dotS s).1]) (Qs out s)
def dotsS(most:Int)(s:RS):List DT×RS:=if max most 0 < (WT s).1 then ([],Wu 3 (WT s).2) else yc (WT s).1.toNat [] (WT s).2
theorem uZa{k:Nat}{out:List DT}{s:RS}(h:(Qs out s).2≠0):yc (k+1) out s=([],Qs out s):=if_pos h
theorem wla{k:Nat}{out:List DT}{s:RS}(h:(Qs out s).2=0):yc (k+1) out s=yc k (out++[(dotS s).1]) (Qs out s):=if_neg (by simp[h])
theorem x1a{s:RS}(h:Ok s)(out:List DT):Ok (Qs out s):=uYa (ok_dot h).1 _
theorem x2a : ∀ (k:Nat) (out:List DT) (s:RS),Ok s->Ok (yc k out s).2
 | 0,_,_,h=>h
 | k+1,out,s,h=>by
  by_cases c:(Qs out s).2=0
  ·rw[wla c];exact x2a k _ _ (x1a h out)
  ·rw[uZa c];exact x1a h out
theorem y1a{s:RS}(h:Ok s)(most:Int):Ok (dotsS most s).2:=by
 have h1:=N.uUa h;unfold dotsS
 split
 ·exact N.Qq h1.1 _
 ·exact x2a _ _ _ h1.1
open N (RS Ok WT UW Wu OkB Sim)
variable{B:List Int}{a:Int}{s:RS}
open N (RS Ok WT UW Wu OkB Sim)
def XW : List DT->Bool
 | []=>true
 | x::r=>(match r with | []=>true | y::_=>zY x y)&&XW r
theorem x3a : ∀ {l:List DT},XW l=true↔Srt l
 | []=>⟨fun _=>List.Pairwise.nil,fun _=>rfl⟩
 | [x]=>⟨fun _=>by simp[Srt],fun _=>rfl⟩
 | x::y::r=>by
  show(zY x y&&XW (y::r))=true↔_;rw[Bool.and_eq_true,x3a (l:=y::r)];unfold Srt;rw[List.pairwise_cons (a:=x)]
  constructor
  ·rintro⟨h1,h2⟩;refine⟨fun z hz=>?_,h2⟩;rcases List.mem_cons.1 hz with rfl | hz
   ·exact h1
   ·exact WL h1 ((List.pairwise_cons.1 h2).1 z hz)
  ·rintro⟨h1,h2⟩;exact⟨h1 y (by simp),h2⟩
theorem cmp_ge(x y:DT):decide (0<=V.zwa x y)=!zY x y:=by
 by_cases h:zY x y=true
 ·have:=V.Yl.2 h;rw[h];simp;omega
 ·have h2:¬ V.zwa x y < 0:=fun e=>h (V.Yl.1 e)
  simp only[Bool.not_eq_true] at h;rw[h];simp;omega
theorem wma(l:List DT)(hl:l.length<=1000000000000):Xx l=pure (XW l):=by
 unfold Xx;have key:∀ (k i:Nat) (x:DT) (r:List DT),i+k=l.length->l.drop i=r->i≠0->l[i - 1]?=some x->loop (wd l) (i:Int)=pure (if XW (x::r)=true then .brk () else .ret false):=by
  intro k
  induction k with
  | zero=>
   intro i x r hi hr h1 hx;have:r=[]:=by rw[<- hr];exact List.drop_eq_nil_of_le (by omega)
   subst this;exact yP (by
    unfold wd;have:decide ((i:Int) < (l.length:Int))=false:=by simp;omega
    simp only[this,cond_false];rfl)
  | succ k ih=>
   intro i x r hi hr h1 hx;have hlt:i < l.length:=by omega
   have hr2:r=l[i]::l.drop (i+1):=by rw[<- hr];exact List.drop_eq_getElem_cons hlt
   have hy:=List.getElem?_eq_getElem hlt;have hi1:idx l (IntKind.i64.wrap ((i:Int) - 1))=pure x:=by
    rw[jx (by omega) (by omega)];exact WW (by omega) (by rw[show((i:Int) - 1).toNat=i - 1 by omega];exact hx)
   have hb:wd l (i:Int)=cond (!zY x l[i]) (pure (.done (.ret false))) (pure (.next ((i+1:Nat):Int))):=by
    unfold wd;have:decide ((i:Int) < (l.length:Int))=true:=by simp;omega
    simp only[this,cond_true,hi1,zN hy,zA,V.WJ,zB,cmp_ge,yS (show i < 9223372036854775807 by omega)]
   rw[hr2];show _=(pure (if (zY x l[i]&&XW (l[i]::l.drop (i+1)))=true then Ex.brk () else Ex.ret false):M (Ex Unit Bool))
   cases c:zY x l[i] with
   | true=>
    rw[c] at hb;rw[yT hb,Bool.true_and];exact ih (i+1) l[i] _ (by omega) rfl (by omega) hy
   | false=>
    rw[c] at hb;rw[yP hb];rfl
 cases l with
 | nil=>
  rw[yP (r:=.brk ()) (by unfold wd;rfl)];rfl
 | cons x r=>
  have:=key r.length 1 x r (by simp;omega) rfl (by decide) rfl;rw[show((1:Nat):Int)=1 from rfl] at this;rw[this,zA]
  cases XW (x::r) <;> rfl
open N (RS Ok WT UW Wu OkB Sim)
end Go.Ep.M.D
namespace Go.Ep.M.E
open Go
theorem YM(s:ByteArray):(ua s).length=s.size:=by simp[ua]
def cidD(v:Int):DT:=⟨v / 281474976710656,v % 281474976710656⟩
theorem band48{v:Int}(h0:0<=v)(h:v<=18446744073709551615):bAnd .u64 v 281474976710655=v % 281474976710656:=by
 obtain⟨n,rfl⟩:=Int.eq_ofNat_of_zero_le h0;unfold bAnd;have bv:∀ q:Nat,q < 18446744073709551616->(BitVec.ofInt IntKind.u64.bits (q:Int)).toNat=q:=fun q hq=>by
  show(BitVec.ofInt 64 (q:Int)).toNat=q;rw[BitVec.toNat_ofInt];omega
 have e:(281474976710655:Int)=((281474976710655:Nat):Int):=rfl;rw[e,BitVec.toNat_and,bv n (by omega),bv _ (by decide)];have h2:n &&& 281474976710655=n % 281474976710656:=Nat.and_two_pow_sub_one_eq_mod n 48;rw[h2,wU64 (by omega) (by omega)];omega
theorem Split_eq{v:Int}(h0:0<=v)(h:v<=18446744073709551615):YW v=pure ((cidD v).dev,(cidD v).n):=by
 unfold YW cidD;have e:(2 ^ 48:Int)=281474976710656:=rfl;rw[band48 h0 h,Int.fdiv_eq_ediv_of_nonneg _ (by decide),e,wU16 (by omega) (by omega)]
theorem uaa{v:Int}(h0:0<=v)(h:v<=18446744073709551615):VW v=pure ((cidD v).dev,(cidD v).n):=by
 unfold VW cidD;rw[Int.tdiv_eq_ediv_of_nonneg h0,Int.tmod_eq_emod_of_nonneg h0,wU64 (by omega) (by omega),wU16 (by omega) (by omega)]
def JO(v:Int):Bool:=V.yn (cidD v)
theorem uba{v:Int}(h0:0<=v)(h:v<=18446744073709551615):Xj v=pure (if JO v=true then cidD v else ⟨0,0⟩,JO v):=by
 unfold Xj;rw[Split_eq h0 h,zB,zA,V.Wq,zB,zA];show cond (!JO v) _ _=_
 cases JO v <;> rfl
theorem wna{v:Int}(h0:0<=v)(h:v<=18446744073709551615):Xw v=pure (if JO v=true then cidD v else ⟨0,0⟩,JO v):=by
 unfold Xw;rw[uaa h0 h,zB,zA,V.ZQ,zB,zA];show cond (!JO v) _ _=_
 cases JO v <;> rfl
def y5a(f:Int):Bool:=decide (1<=f)&&decide (f<=5)
theorem Field_eq(f:Int):Xk f=pure (y5a f):=by unfold Xk y5a;rw[zn];rfl
theorem uca(f:Int):Ur f=pure (y5a f):=by unfold Ur y5a;rw[zn];rfl
def okB(x:Int):Bool:=decide (32<=x)&&decide (x<=126)
def y6a(s:ByteArray):Bool:=decide (s.size<=60)&&(ua s).all okB
theorem XX{α:Type}(l:List α)(p:α->Bool):(l.zipIdx.all fun y=>p y.1)=l.all p:=by
 rw[Bool.eq_iff_iff,List.all_eq_true,List.all_eq_true]
 constructor
 ·intro h x hx;obtain⟨i,hi⟩:=List.getElem?_of_mem hx;exact h (x,i) (by rw[List.mk_mem_zipIdx_iff_getElem?];exact hi)
 ·intro h y hy;exact h y.1 (List.fst_mem_of_mem_zipIdx hy)
theorem okB_eq(x:Int)(f:M Bool)(hf:f=pure (decide (126 < x))):(cond (decide (x < 32)) (pure true) f:M Bool)=pure (!okB x):=by
 rw[hf];unfold okB
 by_cases h1:x < 32
 ·have:¬ 32<=x:=by omega
  simp[h1,this]
 ·have:32<=x:=by omega
  by_cases h2:126 < x
  ·have:¬ x<=126:=by omega
   simp[h1,h2,this]
  ·have:x<=126:=by omega
   simp[h1,h2, *]
theorem uda(s:ByteArray)(hs:s.size<=1000000000000):loop (vX s) 0=pure (if (ua s).all okB=true then Ex.brk () else Ex.ret false):=by
 have:=wH (body:=vX s) (ua s) (fun i=>(i:Int)) (fun _ x=>okB x) (Ex.brk ()) (Ex.ret false) (fun i x hx hi=>by
  have hd:decide ((i:Int) < (s.size:Int))=true:=by rw[<- YM];simpa using hi
  have hi2:i < s.size:=by rw[<- YM];exact hi
  unfold vX;simp only[hd,cond_true,zN hx,zA,okB_eq x _ rfl,yS (show i < 9223372036854775807 by omega)]
  cases okB x <;> rfl) (by
  unfold vX;simp[YM])
 rw[show(0:Int)=((0:Nat):Int) from rfl,this,XX]
theorem woa(s:ByteArray)(hs:s.size<=1000000000000):loop (ZD s) 0=pure (if (ua s).all okB=true then Ex.brk () else Ex.ret false):=by
 have:=wH (body:=ZD s) (ua s) (fun i=>(i:Int)) (fun _ x=>okB x) (Ex.brk ()) (Ex.ret false) (fun i x hx hi=>by
  have hd:decide ((i:Int) < (s.size:Int))=true:=by rw[<- YM];simpa using hi
  have hi2:i < s.size:=by rw[<- YM];exact hi
  unfold ZD;simp only[hd,cond_true,zN hx,zA,okB_eq x _ rfl,yS (show i < 9223372036854775807 by omega)]
  cases okB x <;> rfl) (by
  unfold ZD;simp[YM])
 rw[show(0:Int)=((0:Nat):Int) from rfl,this,XX]
theorem Text_eq(s:ByteArray)(hs:s.size<=1000000000000):Xl s=pure (y6a s):=by
 unfold Xl y6a;rw[uda s hs]
 by_cases h:s.size<=60
 ·have:decide ((60:Int) < (s.size:Int))=false:=by simp;omega
  rw[this,cond_false,zA,decide_eq_true h,Bool.true_and]
  cases (ua s).all okB <;> rfl
 ·have:decide ((60:Int) < (s.size:Int))=true:=by simp;omega
  rw[this,cond_true,decide_eq_false h,Bool.false_and]
theorem rText_eq(s:ByteArray)(hs:s.size<=1000000000000):Us s=pure (y6a s):=by
 unfold Us y6a;rw[woa s hs,zA]
 cases (ua s).all okB with
 | false=>rw[Bool.and_false];rfl
 | true=>
  rw[if_pos rfl,YT,Bool.and_true]
  congr 1
  by_cases h:s.size<=60
  ·rw[decide_eq_true h];simp;omega
  ·rw[decide_eq_false h];simp;omega
structure OkE(e:EV):Prop where
 dot:D.OkD e.dot
 kind:0<=e.kind/\e.kind<=255
 cid:0<=e.cid/\e.cid<=18446744073709551615
 field:0<=e.field/\e.field<=255
 text:e.text.size<=1000000000
 kills:∀ d∈e.kills,D.OkD d
 klen:e.kills.length<=1000000000
def uea(s:ByteArray):Bool:=decide (s=⟨#[]⟩)
def goodK(e:EV):Bool:=(decide (e.kind=1)&&(y5a e.field&&y6a e.text))||(decide (e.kind=2)&&(decide (e.field=0)&&uea e.text))
def wpa(e:EV):Bool:=decide (e.kills.length<=256)&&(D.XW e.kills&&e.kills.all fun d=>V.yn d&&!decide (d=e.dot))
def xJ(e:EV):Bool:=(JO e.cid&&V.yn e.dot)&&(goodK e&&wpa e)
theorem ufa(l:List DT)(hl:l.length<=1000000000000):Xm l=pure (D.XW l):=by
 unfold Xm;have key:∀ (k i:Nat) (x:DT) (r:List DT),i+k=l.length->l.drop i=r->i≠0->l[i - 1]?=some x->loop (xP l) (i:Int)=pure (if D.XW (x::r)=true then Ex.brk () else Ex.ret false):=by
  intro k
  induction k with
  | zero=>
   intro i x r hi hr h1 hx;have:r=[]:=by rw[<- hr];exact List.drop_eq_nil_of_le (by omega)
   subst this;exact yP (by
    unfold xP;have:decide ((i:Int) < (l.length:Int))=false:=by simp;omega
    simp only[this,cond_false];rfl)
  | succ k ih=>
   intro i x r hi hr h1 hx;have hlt:i < l.length:=by omega
   have hr2:r=l[i]::l.drop (i+1):=by rw[<- hr];exact List.drop_eq_getElem_cons hlt
   have hy:=List.getElem?_eq_getElem hlt;have hi1:idx l (IntKind.i64.wrap ((i:Int) - 1))=pure x:=by
    rw[jx (by omega) (by omega)];exact WW (by omega) (by rw[show((i:Int) - 1).toNat=i - 1 by omega];exact hx)
   have hb:xP l (i:Int)=cond (!zY x l[i]) (pure (.done (.ret false))) (pure (.next ((i+1:Nat):Int))):=by
    unfold xP;have h2:decide ((i:Int) < (l.length:Int))=true:=by simp;omega
    have h3:decide ((0:Int) < (i:Int))=true:=by simp;omega
    simp only[h2,h3,cond_true,hi1,zN hy,zA,D.x0a,zB,D.cmp_ge,yS (show i < 9223372036854775807 by omega)]
   rw[hr2];show _=(pure (if (zY x l[i]&&D.XW (l[i]::l.drop (i+1)))=true then Ex.brk () else Ex.ret false):M (Ex Unit Bool))
   cases c:zY x l[i] with
   | true=>
    rw[c] at hb;rw[yT hb,Bool.true_and];exact ih (i+1) l[i] _ (by omega) rfl (by omega) hy
   | false=>
    rw[c] at hb;rw[yP hb];rfl
 cases l with
 | nil=>
  rw[yP (r:=Ex.brk ()) (by unfold xP;rfl)];rfl
 | cons x r=>
  have h0:xP (x::r) 0=pure (.next 1):=by
   unfold xP;have h2:decide ((0:Int) < ((x::r).length:Int))=true:=decide_eq_true (by rw[List.length_cons];omega);simp only[h2,cond_true,show decide ((0:Int) < 0)=false from rfl,cond_false,zA];rw[jx (by omega) (by omega)]
   rfl
  have:=key r.length 1 x r (by simp;omega) rfl (by decide) rfl;rw[show((1:Nat):Int)=1 from rfl] at this;rw[yT h0,this,zA]
  cases D.XW (x::r) <;> rfl
theorem wqa(e:EV)(hl:e.kills.length<=1000000000000):loop (vY e) 0=pure (if (e.kills.all fun d=>V.yn d&&!decide (d=e.dot))=true then Ex.brk () else Ex.ret false):=by
 have:=wH (body:=vY e) e.kills (fun i=>(i:Int)) (fun _ d=>V.yn d&&!decide (d=e.dot)) (Ex.brk ()) (Ex.ret false) (fun i x hx hi=>by
  have hd:decide ((i:Int) < (e.kills.length:Int))=true:=by simpa using hi
  unfold vY;simp only[hd,cond_true,zN hx,zA,V.Wq,zB,D.z6a,yS (show i < 9223372036854775807 by omega)]
  cases V.yn x <;> cases decide (x=e.dot) <;> rfl) (by
  unfold vY;simp)
 rw[show(0:Int)=((0:Nat):Int) from rfl,this,XX e.kills fun d=>V.yn d&&!decide (d=e.dot)]
theorem Zt{e:EV}(h:OkE e):vu e=pure (xJ e):=by
 have hk:=h.klen;have ht:=h.text;unfold vu xJ;rw[uba h.cid.1 h.cid.2,zB,zA,V.Wq,zB,zA,wqa e (by omega),ufa e.kills (by omega),Field_eq,Text_eq e.text (by omega)];simp only[]
 cases JO e.cid with
 | false=>rfl
 | true=>
  cases V.yn e.dot with
  | false=>rfl
  | true=>
   have hl:decide ((256:Int) < (e.kills.length:Int))=!decide (e.kills.length<=256):=by
    by_cases c:e.kills.length<=256
    ·rw[decide_eq_true c];simp;omega
    ·rw[decide_eq_false c];simp;omega
   have tail:(cond (decide ((256:Int) < (e.kills.length:Int))) (pure true) ((det (pure (D.XW e.kills))).bind fun v23=>pure (!v23))).bind (fun v21=>cond v21 (pure false) ((pure (if (e.kills.all fun d=>V.yn d&&!decide (d=e.dot))=true then Ex.brk () else Ex.ret false)).bind (exk fun _=>pure true)))=pure (wpa e):=by
    unfold wpa;rw[hl,zB,zA]
    cases decide (e.kills.length<=256) with
    | false=>rfl
    | true=>
     cases D.XW e.kills with
     | false=>rfl
     | true=>cases e.kills.all fun d=>V.yn d&&!decide (d=e.dot) <;> rfl
   simp only[Bool.not_true,cond_false,zA,zB,Bool.true_and] at tail ⊢;unfold goodK uea
   by_cases k1:e.kind=1
   ·have k2:decide (e.kind=2)=false:=by rw[k1];rfl
    rw[decide_eq_true k1,cond_true,k2,Bool.true_and,Bool.false_and,Bool.or_false]
    cases y5a e.field with
    | false=>rfl
    | true=>
     cases y6a e.text with
     | false=>rfl
     | true=>exact tail
   ·rw[decide_eq_false k1,cond_false,Bool.false_and,Bool.false_or]
    by_cases k2:e.kind=2
    ·rw[decide_eq_true k2,cond_true,Bool.true_and]
     cases decide (e.field=0) with
     | false=>rfl
     | true=>
      cases decide (e.text=(⟨#[]⟩:ByteArray)) with
      | false=>rfl
      | true=>exact tail
    ·rw[decide_eq_false k2];rfl
theorem Wt(l:List DT)(d:DT)(hl:l.length<=1000000000000):UK l d=pure (l.any fun x=>decide (x=d)):=by
 unfold UK;have:=wH (body:=Xv l d) l (fun i=>(i:Int)) (fun _ x=>!decide (x=d)) (Ex.brk ()) (Ex.ret true) (fun i x hx hi=>by
  have hd:decide ((i:Int) < (l.length:Int))=true:=by simpa using hi
  unfold Xv;simp only[hd,cond_true,zN hx,zA,D.z6a,yS (show i < 9223372036854775807 by omega)]
  cases decide (x=d) <;> rfl) (by
  unfold Xv;simp)
 rw[show(0:Int)=((0:Nat):Int) from rfl,this,zA,XX l fun x=>!decide (x=d)];have e:(l.any fun x=>decide (x=d))=!(l.all fun x=>!decide (x=d)):=by simp[List.all_eq_not_any_not]
 rw[e]
 cases l.all fun x=>!decide (x=d) <;> rfl
theorem wra(e:EV)(hl:e.kills.length<=1000000000000):loop (ZE e) 0=pure (if e.kills.all V.yn=true then Ex.brk () else Ex.ret false):=by
 have:=wH (body:=ZE e) e.kills (fun i=>(i:Int)) (fun _ d=>V.yn d) (Ex.brk ()) (Ex.ret false) (fun i x hx hi=>by
  have hd:decide ((i:Int) < (e.kills.length:Int))=true:=by simpa using hi
  unfold ZE;simp only[hd,cond_true,zN hx,zA,V.ZQ,zB,yS (show i < 9223372036854775807 by omega)]
  cases V.yn x <;> rfl) (by
  unfold ZE;simp)
 rw[show(0:Int)=((0:Nat):Int) from rfl,this,XX e.kills V.yn]
theorem jI{e:EV}(h:OkE e):VX e=pure (xJ e):=by
 have hk:=h.klen;have ht:=h.text;unfold VX xJ;rw[wna h.cid.1 h.cid.2,zB,zA,V.ZQ,zB,zA,wra e (by omega),D.wma e.kills (by omega),uca,rText_eq e.text (by omega),Wt e.kills e.dot (by omega)];simp only[]
 cases JO e.cid with
 | false=>rfl
 | true=>
  cases V.yn e.dot with
  | false=>rfl
  | true=>
   have hl:decide ((e.kills.length:Int)<=256)=decide (e.kills.length<=256):=by
    by_cases c:e.kills.length<=256
    ·rw[decide_eq_true c];simp;omega
    ·rw[decide_eq_false c];simp;omega
   have hall:(e.kills.all fun d=>V.yn d&&!decide (d=e.dot))=(e.kills.all V.yn&&!(e.kills.any fun x=>decide (x=e.dot))):=by
    rw[Bool.eq_iff_iff,Bool.and_eq_true,List.all_eq_true,List.all_eq_true,Bool.not_eq_true',List.any_eq_false]
    constructor
    ·intro h;exact⟨fun x hx=>by have:=h x hx;rw[Bool.and_eq_true] at this;exact this.1,fun x hx=>by have:=h x hx;rw[Bool.and_eq_true] at this;simpa using this.2⟩
    ·rintro⟨h1,h2⟩ x hx;rw[Bool.and_eq_true];exact⟨h1 x hx,by simpa using h2 x hx⟩
   have tail:((pure (if e.kills.all V.yn=true then Ex.brk () else Ex.ret false):M (Ex Unit Bool)).bind (exk fun _=>(cond (decide ((e.kills.length:Int)<=256)) ((det (pure (D.XW e.kills))).bind fun v46=>cond v46 ((det (pure (e.kills.any fun x=>decide (x=e.dot)))).bind fun v49=>pure (!v49)) (pure false)) (pure false)).bind fun v44=>pure v44))=pure (wpa e):=by
    unfold wpa;rw[hl,hall];simp only[zB,zA]
    cases e.kills.all V.yn with
    | false=>cases decide (e.kills.length<=256) <;> cases D.XW e.kills <;> rfl
    | true=>cases decide (e.kills.length<=256) <;> cases D.XW e.kills <;> cases e.kills.any fun x=>decide (x=e.dot) <;> rfl
   simp only[Bool.not_true,cond_false,zA,zB,Bool.true_and] at tail ⊢;unfold goodK uea
   by_cases k1:e.kind=1
   ·have k2:decide (e.kind=2)=false:=by rw[k1];rfl
    rw[decide_eq_true k1,k2];simp only[Bool.not_true,cond_false,cond_true,zA,Bool.true_and,Bool.false_and,Bool.or_false]
    cases y5a e.field with
    | false=>rfl
    | true=>
     cases y6a e.text with
     | false=>rfl
     | true=>exact tail
   ·rw[decide_eq_false k1];simp only[Bool.not_false,cond_true,zA,Bool.false_and,Bool.false_or]
    by_cases k2:e.kind=2
    ·rw[decide_eq_true k2];simp only[Bool.not_true,cond_false,cond_true,Bool.true_and]
     cases decide (e.field=0) with
     | false=>rfl
     | true=>
      cases decide (e.text=(⟨#[]⟩:ByteArray)) with
      | false=>rfl
      | true=>exact tail
    ·rw[decide_eq_false k2];rfl
def fewE(l:List EV)(most:Nat):Bool:=decide (l.length<=most)&&l.all fun e=>decide (e.kills.length<=300)&&decide (e.text.size<=200)
theorem Qo(l:List EV)(most:Nat)(hm:most<=1000000):je l (most:Int)=pure (fewE l most):=by
 unfold je fewE
 by_cases h:l.length<=most
 ·have hd:decide ((most:Int) < (l.length:Int))=false:=by simp;omega
  have:=wH (body:=Xf l) l (fun i=>(i:Int)) (fun _ e=>decide (e.kills.length<=300)&&decide (e.text.size<=200)) (Ex.brk ()) (Ex.ret false) (fun i x hx hi=>by
   have hd:decide ((i:Int) < (l.length:Int))=true:=by simpa using hi
   unfold Xf;simp only[hd,cond_true,zN hx,zA,yS (show i < 9223372036854775807 by omega)]
   by_cases c:x.kills.length<=300
   ·have h1:decide ((300:Int) < (x.kills.length:Int))=false:=by simp;omega
    rw[h1,cond_false,decide_eq_true c,Bool.true_and,zA]
    by_cases c2:x.text.size<=200
    ·have h2:decide ((200:Int) < (x.text.size:Int))=false:=by simp;omega
     rw[h2,decide_eq_true c2];rfl
    ·have h2:decide ((200:Int) < (x.text.size:Int))=true:=by simp;omega
     rw[h2,decide_eq_false c2];rfl
   ·have h1:decide ((300:Int) < (x.kills.length:Int))=true:=by simp;omega
    rw[h1,cond_true,decide_eq_false c,Bool.false_and];rfl) (by
   unfold Xf;simp)
  rw[hd,cond_false,decide_eq_true h,Bool.true_and,show(0:Int)=((0:Nat):Int) from rfl,this,zA,XX l fun e=>decide (e.kills.length<=300)&&decide (e.text.size<=200)]
  cases l.all fun e=>decide (e.kills.length<=300)&&decide (e.text.size<=200) <;> rfl
 ·have hd:decide ((most:Int) < (l.length:Int))=true:=by simp;omega
  rw[hd,cond_true,decide_eq_false h,Bool.false_and]
theorem few_mem{l:List EV}{most:Nat}(h:fewE l most=true):l.length<=most/\∀ e∈l,e.kills.length<=300/\e.text.size<=200:=by
 unfold fewE at h;rw[Bool.and_eq_true,List.all_eq_true] at h;exact⟨by simpa using h.1,fun e he=>by simpa using h.2 e he⟩
theorem jF(a b:EV)(h:a.kills.length<=1000000000000):Ux a b=pure (decide (a=b)):=by
 unfold Ux;rw[D.z6a,V.jy a.kills b.kills h,zB,zA];have e:decide (a=b)=(decide (a.dot=b.dot)&&(decide (a.kind=b.kind)&&(decide (a.cid=b.cid)&&(decide (a.field=b.field)&&(decide (a.text=b.text)&&decide (a.kills=b.kills)))))):=by
  cases a;cases b;simp only[EV.mk.injEq,Bool.decide_and]
 rw[e]
 cases decide (a.dot=b.dot) <;> cases decide (a.kind=b.kind) <;> cases decide (a.cid=b.cid) <;> cases decide (a.field=b.field) <;> cases decide (a.text=b.text) <;> rfl
theorem Qt(a b:List EV)(ha:a.length<=1000000000000)(hk:∀ e∈a,e.kills.length<=1000000000000):Wl a b=pure (decide (a=b)):=by
 unfold Wl
 by_cases hlen:a.length=b.length
 ·have h1:decide ((a.length:Int)=(b.length:Int))=true:=by simp[hlen]
  rw[h1,Bool.not_true,cond_false];have:=wH (body:=WD a b) a (fun i=>(i:Int)) (fun i x=>decide (b[i]?=some x)) (Ex.brk ()) (Ex.ret false) (fun i x hx hi=>by
   have hd:decide ((i:Int) < (a.length:Int))=true:=by simpa using hi
   obtain⟨y,hy⟩:∃ y,b[i]?=some y:=⟨_,List.getElem?_eq_getElem (by omega)⟩
   unfold WD;simp only[hd,cond_true,zN hx,zN hy,zA,jF x y (hk x (List.mem_of_getElem? hx)),zB,yS (show i < 9223372036854775807 by omega),hy]
   by_cases c:x=y
   ·subst c;simp
   ·have:¬ some y=some x:=fun e=>c (Option.some.inj e).symm
    simp[c,this]) (by
   unfold WD;simp)
  rw[show(0:Int)=((0:Nat):Int) from rfl,this,zA];have e:(a.zipIdx.all fun y=>decide (b[y.2]?=some y.1))=decide (a=b):=by
   rw[Bool.eq_iff_iff,List.all_eq_true,decide_eq_true_eq]
   constructor
   ·intro h;apply List.ext_getElem?;intro i
    by_cases hi:i < a.length
    ·have:=h (a[i],i) (by rw[List.mk_mem_zipIdx_iff_getElem?];exact List.getElem?_eq_getElem hi);simp only[decide_eq_true_eq] at this;rw[this,List.getElem?_eq_getElem hi]
    ·rw[List.getElem?_eq_none (by omega),List.getElem?_eq_none (by omega)]
   ·intro h y hy;subst h;rw[List.mem_zipIdx_iff_getElem?] at hy;simpa using hy
  rw[e]
  cases decide (a=b) <;> rfl
 ·have h1:decide ((a.length:Int)=(b.length:Int))=false:=by simp;omega
  have h2:decide (a=b)=false:=decide_eq_false fun e=>hlen (by rw[e])
  rw[h1,Bool.not_false,cond_true,h2]
open N (RS Ok WT UW wja textS Wu OkB Sim)
open D (bad4 fin)
def s1(s:RS):RS:=(D.dotS s).2
def s2(s:RS):RS:=(wja (s1 s)).2
def s3(s:RS):RS:=(WT (s2 s)).2
def s4(s:RS):RS:=(wja (s3 s)).2
def s5(s:RS):RS:=(textS 60 (s4 s)).2
def s6(s:RS):RS:=(D.dotsS 256 (s5 s)).2
def getE(s:RS):EV:=⟨(D.dotS s).1,(wja (s1 s)).1,(WT (s2 s)).1,(wja (s3 s)).1,(textS 60 (s4 s)).1,(D.dotsS 256 (s5 s)).1⟩
def noE : EV:=⟨⟨0,0⟩,0,0,0,⟨#[]⟩,[]⟩
def getT(s:RS):RS:=bad4 (!xJ (getE s)) (s6 s)
def xt(s:RS):EV×RS:=fin noE (getE s) (getT s)
variable{B:List Int}{a:Int}{s:RS}
open N (RS Ok WT UW wja textS Wu OkB Sim)
open D (bad4 fin)
variable{B:List Int}{a:Int}{s:RS}
abbrev uV(l:List EV):Prop:=l.Pairwise fun x y=>zY x.dot y.dot=true
theorem y7a(e:EV)(h:e.kills.length<=1000000000000):yq e=pure e:=by
 unfold yq;rw[D.Qr _ h,zB,zA]
end Go.Ep.M.E
namespace Go.Ep.M.F
open Go
open E (OkE xJ)
def Zc(l:List DT)(d:DT):Bool:=l.any fun x=>decide (x=d)
theorem qQ(l:List DT)(d:DT)(hl:l.length<=1000000000000):QA l d=pure (Zc l d):=by
 unfold QA xF xb;have:=loopF (body:=yd l d) l (fun i=>(i:Int)) (fun _ x=>decide (x=d)) (fun i _=>Ex.ret (i:Int)) (pure (Ex.brk ())) (fun i x hx hi=>by
  have hd:decide ((i:Int) < (l.length:Int))=true:=by simpa using hi
  unfold yd;simp only[hd,cond_true,zN hx,zA,D.z6a,yS (show i < 9223372036854775807 by omega),xB,eq_comm (a:=d) (b:=x),decide_eq_true_eq]) (by
  unfold yd;simp[zA])
 rw[show(0:Int)=((0:Nat):Int) from rfl,this];have hf:(l.zipIdx.find? fun y=>decide (y.1=d)).isSome=Zc l d:=by
  rw[List.isSome_find?];unfold Zc;rw[Bool.eq_iff_iff,List.any_eq_true,List.any_eq_true]
  constructor
  ·rintro⟨y,hy,h⟩;exact⟨y.1,List.fst_mem_of_mem_zipIdx hy,h⟩
  ·rintro⟨x,hx,h⟩;obtain⟨i,hi⟩:=List.getElem?_of_mem hx;exact⟨(x,i),by rw[List.mk_mem_zipIdx_iff_getElem?];exact hi,h⟩
 rw[<- hf]
 cases l.zipIdx.find? fun y=>decide (y.1=d) with
 | none=>simp only[zA,zB,YT];rfl
 | some y=>simp only[zA,zB,jS];simp
def uZ(l:List EV)(d:DT):Bool:=l.any fun e=>Zc e.kills d
theorem uga(l:List EV)(d:DT)(hl:l.length<=1000000000000)(hk:∀ e∈l,e.kills.length<=1000000000000):vR l d=pure (uZ l d):=by
 unfold vR;have:=wH (body:=uf l d) l (fun i=>(i:Int)) (fun _ x=>!Zc x.kills d) (Ex.brk ()) (Ex.ret true) (fun i x hx hi=>by
  have hd:decide ((i:Int) < (l.length:Int))=true:=by simpa using hi
  unfold uf Wi;simp only[hd,cond_true,zN hx,zA,qQ x.kills d (hk x (List.mem_of_getElem? hx)),zB,yS (show i < 9223372036854775807 by omega)]
  cases Zc x.kills d <;> rfl) (by
  unfold uf;simp)
 rw[show(0:Int)=((0:Nat):Int) from rfl,this,zA,E.XX l fun x=>!Zc x.kills d];have e:uZ l d=!(l.all fun x=>!Zc x.kills d):=by simp[uZ,List.all_eq_not_any_not]
 rw[e]
 cases l.all fun x=>!Zc x.kills d <;> rfl
def Ww(l:List DT)(c:List PT):List DT:=D.Wv (l.filter fun d=>!C.vA c d.dev d.n)
theorem uha(l : List DT)(c : List PT)(hl : l.length<=1000000000)(hc : C.Sm c) : YC l c=pure (Ww l c) := by
  unfold YC UH;have := Yj (body := ug l c false) l (fun i t => ((i : Int), t)) (fun t d => if C.vA c d.dev d.n=true then t else t++[d]) (fun t => pure t) (fun i t => t.length<=i) (fun i x t hx hi hI => by
    have hd : decide ((i : Int) < (l.length : Int))=true := by simpa using hi
    refine ⟨?_, by split
                   · omega
                   · simp; omega⟩
    unfold ug;simp only[hd, cond_true, zN hx, zA, C.qQ c x hc, zB, yS (show i < 9223372036854775807 by omega)]
    by_cases c : C.vA c x.dev x.n=true
    · rw[c, show(true==false)=false from rfl, cond_false, zA, if_pos rfl]
    · simp only[Bool.not_eq_true] at c;rw[c, show(false==false)=true from rfl, cond_true, zI (by simp; omega), zA]; rfl) (fun t _ => by
    unfold ug;simp[zA]) [] (by simp)
  have key : ∀ (l t : List DT), l.foldl (fun t d => if C.vA c d.dev d.n=true then t else t++[d]) t=t++l.filter fun d => !C.vA c d.dev d.n := by
    intro l
    induction l with
    | nil => intro t; simp
    | cons x r ih =>
      intro t;rw[List.foldl_cons, ih]
      by_cases h : C.vA c x.dev x.n=true
      · rw[if_pos h, List.filter_cons, if_neg (by simp[h])]
      · rw[if_neg h, List.filter_cons, if_pos (by simp[h]), List.append_assoc]; rfl
  rw[show(0 : Int)=((0 : Nat) : Int) from rfl, this, zA, key, List.nil_append, D.uXa _ (by have := List.length_filter_le (fun d : DT => !C.vA c d.dev d.n) l; omega), zB, zA, zB, zA, Ww]
def yc(l:List EV):List DT:=l.flatMap fun e=>e.dot::e.kills
def yg(l:List EV):List DT:=D.Wv (yc l)
theorem uo(l:List EV)(k:Nat)(h:∀ e∈l,e.kills.length<=k):(yc l).length<=l.length*(k+1):=by
 induction l with
 | nil=>simp[yc]
 | cons e r ih=>
  have h1:=ih fun x hx=>h x (by simp[hx])
  have h2:=h e (by simp);have e1:(yc (e::r)).length=e.kills.length+1+(yc r).length:=by simp[yc];omega
  rw[e1,List.length_cons,Nat.add_mul];omega
theorem JP{l:List EV}{i:Nat}{x:EV}(h:l[i]?=some x):yc (l.take (i+1))=yc (l.take i)++x.dot::x.kills:=by
 rw[List.take_add_one,h];simp[yc]
theorem z8a(l:List EV)(i:Nat):(yc (l.take i)).length<=(yc l).length:=by
 have:yc l=yc (l.take i)++yc (l.drop i):=by unfold yc;rw[<- List.flatMap_append,List.take_append_drop]
 rw[this,List.length_append];omega
theorem Qu(l:List EV)(hl:l.length<=1000000000)(hs:(yc l).length<=1000000000):ut l=pure (yg l):=by
 unfold ut;have key:∀ (k i:Nat),i+k=l.length->loop (ue l) ((i:Int),yc (l.take i))=pure (yc l):=by
  intro k
  induction k with
  | zero=>
   intro i hi;refine yP ?_;unfold ue;have:decide ((i:Int) < (l.length:Int))=false:=by simp;omega
   simp only[this,cond_false];rw[List.take_of_length_le (by omega)]
  | succ k ih=>
   intro i hi;obtain⟨x,hx⟩:∃ x,l[i]?=some x:=⟨_,List.getElem?_eq_getElem (by omega)⟩
   have hd:decide ((i:Int) < (l.length:Int))=true:=by simp;omega
   have h1:=z8a l (i+1);rw[JP hx,List.length_append,List.length_cons] at h1;rw[yT (s':=(((i+1:Nat):Int),yc (l.take (i+1)))) ?_]
   ·exact ih (i+1) (by omega)
   ·unfold ue;simp only[hd,cond_true,zN hx,zA,yS (show i < 9223372036854775807 by omega)];rw[zI (by simp;omega),zI (by simp;omega),JP hx,List.append_assoc];rfl
 have:=key l.length 0 (by omega);rw[show yc (l.take 0)=[] from rfl] at this;rw[show(0:Int)=((0:Nat):Int) from rfl,this,zA,D.uXa _ (by omega),zB,zA,yg]
theorem rdots_in(l:List EV){i:Nat}{x:EV}(hx:l[i]?=some x)(hk:x.kills.length<=1000000000)(s:List DT)(hs:s.length<=1000000000):loop (ZG l (i:Int)) (s,0)=pure (x.kills.foldl D.y2a s):=by
 have:=Yj (body:=ZG l (i:Int)) x.kills (fun k t=>(t,(k:Int))) D.y2a (fun t=>pure t) (fun k t=>t.length<=1000000000+k) (fun k d t hd hi hI=>by
  have hc:decide ((k:Int) < (x.kills.length:Int))=true:=by simpa using hi
  refine⟨?_,by have:=D.y3a t d;omega⟩;unfold ZG;simp only[zN hx,zA,hc,cond_true,zN hd,D.uWa t d (by omega),zB,yS (show k < 9223372036854775807 by omega)]) (fun t _=>by
  unfold ZG;simp[zN hx,zA]) s (by omega)
 exact this
theorem Qv(l:List EV)(hl:l.length<=1000000)(hk:∀ e∈l,e.kills.length<=300):WA l=pure (yg l):=by
 unfold WA;have key:∀ (k i:Nat),i+k=l.length->loop (Ya l) (D.Wv (yc (l.take i)),(i:Int))=pure (yg l):=by
  intro k
  induction k with
  | zero=>
   intro i hi;refine yP ?_;unfold Ya;have:decide ((i:Int) < (l.length:Int))=false:=by simp;omega
   simp only[this,cond_false];rw[List.take_of_length_le (by omega)];rfl
  | succ k ih=>
   intro i hi;obtain⟨x,hx⟩:∃ x,l[i]?=some x:=⟨_,List.getElem?_eq_getElem (by omega)⟩
   have hd:decide ((i:Int) < (l.length:Int))=true:=by simp;omega
   have h1:=z8a l i;have h2:=uo l 300 hk;have h3:=D.jH (yc (l.take i));have h4:=D.y3a (D.Wv (yc (l.take i))) x.dot;have h5:=hk x (List.mem_of_getElem? hx);rw[yT (s':=(D.Wv (yc (l.take (i+1))),((i+1:Nat):Int))) ?_]
   ·exact ih (i+1) (by omega)
   ·unfold Ya;simp only[hd,cond_true,zN hx,zA,D.uWa _ x.dot (show(D.Wv (yc (l.take i))).length<=1000000000000 by omega),zB,rdots_in l hx (show x.kills.length<=1000000000 by omega) _ (show(D.y2a (D.Wv (yc (l.take i))) x.dot).length<=1000000000 by omega),yS (show i < 9223372036854775807 by omega)];rw[JP hx];unfold D.Wv;rw[List.foldl_append];rfl
 have:=key l.length 0 (by omega);rw[show D.Wv (yc (l.take 0))=[] from rfl] at this;rw[show(0:Int)=((0:Nat):Int) from rfl,this,zA]
def ub(l:List EV)(i:Nat)(x:EV):Bool:=decide (0 < i)&&match l[i - 1]? with | some y=>decide (0<=V.zwa y.dot x.dot) | none=>false
theorem y8a{β:Type}{l:List EV}{i:Nat}{x:EV}(hi:i < l.length)(hl:l.length<=1000000000)(f:DT->DT->M Int)(hf:∀ a b,f a b=pure (V.zwa a b))(K:Bool->M β) :
  (cond (decide (0 < (i:Int))) ((idx l (IntKind.i64.wrap ((i:Int) - 1))).bind fun y=>(det (f y.dot x.dot)).bind fun v=>K (decide (0<=v))) (K false))=K (ub l i x):=by
 unfold ub
 by_cases h:0 < i
 ·obtain⟨y,hy⟩:∃ y,l[i - 1]?=some y:=⟨_,List.getElem?_eq_getElem (by omega)⟩
  have e:IntKind.i64.wrap ((i:Int) - 1)=((i - 1:Nat):Int):=by rw[jx (by omega) (by omega)];omega
  have hd:decide (0 < (i:Int))=true:=by simp;omega
  rw[hd,cond_true,e,zN hy,zA,hf,zB,zA,decide_eq_true h,Bool.true_and,hy]
 ·have hd:decide (0 < (i:Int))=false:=by simp;omega
  rw[hd,cond_false,decide_eq_false h,Bool.false_and]
def bad1(d:DL)(i:Nat)(e:EV):Bool:=!xJ e||(ub d.events i e||(C.vA d.from_ e.dot.dev e.dot.n||(decide (e.kind=1)&&uZ d.events e.dot)))
def XY(d:DL):Bool:=decide (d.from_=C.zj d.from_)&&(decide (d.to_=C.zj d.to_)&&(decide (C.opC (fun x y=>x&&!y) d.from_ d.to_=[])&&(decide (d.events.length<=4096)&&((d.events.zipIdx.all fun y=>!bad1 d y.2 y.1)&&decide (Ww (yg d.events) d.to_=[])))))
structure OkD(d:DL):Prop where
 from_:C.Ok d.from_
 to_:C.Ok d.to_
 evs:∀ e∈d.events,OkE e
 len:d.events.length<=1000000
 kills:∀ e∈d.events,e.kills.length<=300
theorem nil_dec{α:Type}[DecidableEq α](l:List α):decide ((l.length:Int)=0)=decide (l=[]):=by
 cases l with
 | nil=>rfl
 | cons x r=>simp;omega
theorem wsa{d:DL}(h:OkD d):loop (vZ d) 0=pure (if (d.events.zipIdx.all fun y=>!bad1 d y.2 y.1)=true then Ex.brk () else Ex.ret false):=by
 have hl:=h.len;have:=wH (body:=vZ d) d.events (fun i=>(i:Int)) (fun i x=>!bad1 d i x) (Ex.brk ()) (Ex.ret false) (fun i x hx hi=>by
  have hd:decide ((i:Int) < (d.events.length:Int))=true:=by simpa using hi
  have hm:=List.mem_of_getElem? hx;have hp:=fun(K:Bool->M (Step Int (Ex Unit Bool)))=>y8a (x:=x) hi (by omega) Zr D.x0a K
  unfold vZ;simp only[hd,cond_true,zN hx,zA,E.Zt (h.evs x hm),C.qQ d.from_ x.dot h.from_.sm,uga d.events x.dot (by omega) (fun e he=>by have:=h.kills e he;omega),zB,yS (show i < 9223372036854775807 by omega)];have hp:=y8a (x:=x) hi (by omega) Zr D.x0a (fun b=>(pure b:M Bool));rw[hp];unfold bad1;simp only[zA]
  cases xJ x with
  | false=>rfl
  | true=>
   cases C.vA d.from_ x.dot.dev x.dot.n with
   | true=>cases ub d.events i x <;> rfl
   | false=>
    cases ub d.events i x with
    | true=>rfl
    | false=>
     cases decide (x.kind=1) with
     | false=>rfl
     | true=>cases uZ d.events x.dot <;> rfl) (by
  unfold vZ;simp)
 rw[show(0:Int)=((0:Nat):Int) from rfl,this]
theorem len_dec(l:List EV):decide ((4096:Int) < (l.length:Int))=!decide (l.length<=4096):=by
 by_cases c:l.length<=4096
 ·rw[decide_eq_true c];simp;omega
 ·rw[decide_eq_false c];simp;omega
theorem dlen{d:DL}(h:OkD d):(yc d.events).length<=1000000000:=by have:=uo d.events 300 h.kills;have:=h.len;omega
theorem Qw{d:DL}(h:OkD d):Xo d=pure (XY d):=by
 have h1:=h.len;have h2:=dlen h;have h3:(yg d.events).length<=1000000000:=Nat.le_trans (D.jH _) h2;unfold Xo XY;rw[wsa h];simp only[C.Zt _ h.from_.sm,C.Zt _ h.to_.sm,C.z4a _ _ h.from_.sm h.to_.sm,Qu d.events (by omega) h2,uha _ _ h3 h.to_.sm,zB,zA,len_dec,nil_dec]
 cases decide (d.from_=C.zj d.from_) with
 | false=>rfl
 | true=>
  cases decide (d.to_=C.zj d.to_) with
  | false=>rfl
  | true=>
   cases decide (C.opC (fun x y=>x&&!y) d.from_ d.to_=[]) with
   | false=>rfl
   | true=>
    cases decide (d.events.length<=4096) with
    | false=>rfl
    | true=>cases d.events.zipIdx.all fun y=>!bad1 d y.2 y.1 <;> rfl
open E (OkE xJ)
set_option maxHeartbeats 4000000 in
theorem eSame_eq(a b:EV)(h:a.kills.length<=1000000000000):Xp a b=pure (decide (a=b)):=by
 unfold Xp;rw[D.z6a,V.ywa a.kills b.kills h,zB,zA];have e:decide (a=b)=(decide (a.dot=b.dot)&&(decide (a.kind=b.kind)&&(decide (a.cid=b.cid)&&(decide (a.field=b.field)&&(decide (a.text=b.text)&&decide (a.kills=b.kills)))))):=by
  cases a;cases b;simp only[EV.mk.injEq,Bool.decide_and]
 rw[e]
 cases decide (a.dot=b.dot) <;> cases decide (a.kind=b.kind) <;> cases decide (a.cid=b.cid) <;> cases decide (a.field=b.field) <;> cases decide (a.text=b.text) <;> rfl
theorem eAll_eq(a b:List EV)(ha:a.length<=1000000000000)(hk:∀ e∈a,e.kills.length<=1000000000000):VU a b=pure (decide (a=b)):=by
 unfold VU ze
 by_cases hlen:a.length=b.length
 ·have h1:decide ((a.length:Int)=(b.length:Int))=true:=by simp[hlen]
  rw[h1,Bool.not_true,cond_false];have:=wH (body:=zR a b) a (fun i=>(i:Int)) (fun i x=>decide (b[i]?=some x)) (Ex.brk ()) (Ex.ret false) (fun i x hx hi=>by
   have hd:decide ((i:Int) < (a.length:Int))=true:=by simpa using hi
   obtain⟨y,hy⟩:∃ y,b[i]?=some y:=⟨_,List.getElem?_eq_getElem (by omega)⟩
   unfold zR;simp only[hd,cond_true,zN hx,zN hy,zA,eSame_eq x y (hk x (List.mem_of_getElem? hx)),zB,yS (show i < 9223372036854775807 by omega),hy]
   by_cases c:x=y
   ·subst c;simp
   ·have:¬ some y=some x:=fun e=>c (Option.some.inj e).symm
    simp[c,this]) (by
   unfold zR;simp)
  rw[show(0:Int)=((0:Nat):Int) from rfl,this,zA];have e:(a.zipIdx.all fun y=>decide (b[y.2]?=some y.1))=decide (a=b):=by
   rw[Bool.eq_iff_iff,List.all_eq_true,decide_eq_true_eq]
   constructor
   ·intro h;apply List.ext_getElem?;intro i
    by_cases hi:i < a.length
    ·have:=h (a[i],i) (by rw[List.mem_zipIdx_iff_getElem?];exact List.getElem?_eq_getElem hi);simp only[decide_eq_true_eq] at this;rw[this,List.getElem?_eq_getElem hi]
    ·rw[List.getElem?_eq_none (by omega),List.getElem?_eq_none (by omega)]
   ·rintro rfl y hy;rw[List.mem_zipIdx_iff_getElem?] at hy;simpa using hy
  rw[e]
  cases decide (a=b) <;> simp[zB,exk,zA]
 ·have h1:decide ((a.length:Int)=(b.length:Int))=false:=by simp;omega
  have h2:decide (a=b)=false:=decide_eq_false fun e=>hlen (by rw[e])
  rw[h1,Bool.not_false,cond_true,zB,zA,h2]
end Go.Ep.M.F

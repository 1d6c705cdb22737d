/- Side texts. -/
import Derived.Test.YtnejkopjonigeaaGreatAHg6
import Derived.Test.YtnejkopjonigeaaGreatAHg10
set_option linter.unusedVariables false
set_option linter.unusedSimpArgs false
namespace Go.Ep.M.H
open Go
section
variable{κ ν:Type}[DecidableEq κ]
theorem ju{m:List (κ×ν)}(hn:(m.map (·.1)).Nodup)(x:κ)(v:ν)(k:κ×ν):k∈AL.set m x v↔(k∈m/\k.1≠x)\/k=(x,v):=by
 induction m with
 | nil=>simp[AL.set]
 | cons y r ih=>
  obtain⟨q,u⟩:=y;rw[List.map_cons,List.nodup_cons] at hn;unfold AL.set
  split
  ·rename_i e
   subst e;rw[List.mem_cons,List.mem_cons]
   constructor
   ·rintro(h | h)
    ·exact .inr h
    ·exact .inl ⟨.inr h,fun e=>hn.1 (e▸List.mem_map.2 ⟨k,h,rfl⟩)⟩
   ·rintro(⟨h | h,h2⟩ | h)
    ·subst h;exact absurd rfl h2
    ·exact .inr h
    ·exact .inl h
  ·rename_i e
   rw[List.mem_cons,List.mem_cons,ih hn.2]
   constructor
   ·rintro(h | ⟨h,h2⟩ | h)
    ·subst h;exact .inl ⟨.inl rfl,e⟩
    ·exact .inl ⟨.inr h,h2⟩
    ·exact .inr h
   ·rintro(⟨h | h,h2⟩ | h)
    ·exact .inl h
    ·exact .inr (.inl ⟨h,h2⟩)
    ·exact .inr (.inr h)
end
theorem yba{ε ρ:Type}{body:Int->M (Step Int (Ex Unit ρ))}(l:List ε)(p:ε->Bool)(r:ε->ρ)
  (h1:∀ (i:Nat) (x:ε),l[i]?=some x->i < l.length->body (i:Int)=if p x then pure (.done (.ret (r x))) else pure (.next ((i+1:Nat):Int)))
  (h2:body (l.length:Int)=pure (.done (.brk ()))):loop body 0=pure (match l.find? p with | some x=>.ret (r x) | none=>.brk ()):=by
 have key:∀ k i,i+k=l.length->loop body (i:Int)=pure (match (l.drop i).find? p with | some x=>.ret (r x) | none=>.brk ()):=by
  intro k
  induction k with
  | zero=>
   intro i hi;have:i=l.length:=by omega
   subst this;rw[zT h2,List.drop_length]
   rfl
  | succ k ih=>
   intro i hi;have hlt:i < l.length:=by omega
   have h3:=h1 i l[i] (List.getElem?_eq_getElem hlt) hlt;rw[List.drop_eq_getElem_cons hlt,List.find?_cons]
   by_cases hp:p l[i]=true
   ·rw[if_pos hp] at h3;rw[zT h3,hp]
   ·rw[if_neg hp] at h3;rw[zi h3,ih (i+1) (by omega)];simp only[hp]
 simpa using key l.length 0 (by omega)
theorem loopE{ε σ ρ τ:Type}{body:σ->M (Step σ ρ)}(l:List ε)(mk:Nat->τ->σ)(I:Nat->τ->Prop)(Q:ρ->Prop)
  (h1:∀ (i:Nat) (x:ε) (t:τ),l[i]?=some x->i < l.length->I i t->∃ t',body (mk i t)=pure (.next (mk (i+1) t'))/\I (i+1) t')
  (h2:∀ t,I l.length t->∃ r,body (mk l.length t)=pure (.done r)/\Q r) (t0:τ) (h0:I 0 t0):∃ r,loop body (mk 0 t0)=pure r/\Q r:=by
 have key:∀ k i t,i+k=l.length->I i t->∃ r,loop body (mk i t)=pure r/\Q r:=by
  intro k
  induction k with
  | zero=>
   intro i t hi hI;have:i=l.length:=by omega
   subst this;obtain⟨r,h3,h4⟩:=h2 t hI;exact⟨r,zT h3,h4⟩
  | succ k ih=>
   intro i t hi hI;have hlt:i < l.length:=by omega
   obtain⟨t',h3,h4⟩:=h1 i l[i] t (List.getElem?_eq_getElem hlt) hlt hI;rw[zi h3];exact ih (i+1) t' (by omega) h4
 exact key l.length 0 t0 (by omega) h0
def wUa(l:List TMember):Prop:=l.Pairwise fun x y=>x.dev < y.dev
theorem uIa : ∀ {l l':List TMember},wUa l->wUa l'->(∀ d,d∈l↔d∈l')->l=l'
 | [],[],_,_,_=>rfl
 | [],y::r,_,_,h=>by have:=(h y).2 (by simp);simp at this
 | x::r,[],_,_,h=>by have:=(h x).1 (by simp);simp at this
 | x::r,y::t,h1,h2,h=>by
  have hx:=(h x).1 (by simp);have hy:=(h y).2 (by simp);have e:x=y:=by
   rcases List.mem_cons.1 hx with e | hx
   ·exact e
   ·rcases List.mem_cons.1 hy with e | hy
    ·exact e.symm
    ·have a1:=(List.pairwise_cons.1 h2).1 x hx;have a2:=(List.pairwise_cons.1 h1).1 y hy;omega
  subst e
  congr 1
  refine uIa (List.pairwise_cons.1 h1).2 (List.pairwise_cons.1 h2).2 fun d=>?_
  have h3:=h d;simp only[List.mem_cons] at h3
  constructor
  ·intro hd;rcases h3.1 (.inr hd) with e | h4
   ·have:=(List.pairwise_cons.1 h1).1 d hd;rw[e] at this;omega
   ·exact h4
  ·intro hd;rcases h3.2 (.inr hd) with e | h4
   ·have:=(List.pairwise_cons.1 h2).1 d hd;rw[e] at this;omega
   ·exact h4
theorem xja{l:List TMember}(h:wUa l):(l.map (·.dev)).Nodup:=by
 unfold List.Nodup;rw[List.pairwise_map];exact h.imp fun {a b} h=>by omega
theorem srtM_of{s:List TMember}(hn:(s.map (·.dev)).Nodup)(h:s.Pairwise fun x y=>vL y x=false):wUa s:=by
 unfold List.Nodup at hn;rw[List.pairwise_map] at hn;refine(hn.and h).imp fun {a b} ⟨h1,h2⟩=>?_
 unfold vL at h2;have:=of_decide_eq_false h2;omega
theorem srt_wpM{l:List TMember}{Q:List TMember->Prop}(h:∀ s,s.Perm l->(s.Pairwise fun x y=>vL y x=false)->Q s):(srt vL l).wp Q:=by
 refine⟨⟨l.mergeSort (fun x y=>!vL y x),List.mergeSort_perm _ _,?_⟩,fun s ⟨h1,h2⟩=>h s h1 h2⟩;refine(List.pairwise_mergeSort (fun a b c h1 h2=>?_) (fun a b=>?_) l).imp fun {x y} h=>by simpa using h
 ·simp[vL] at h1 h2 ⊢;omega
 ·simp[vL];omega
def ent(e:TMember):Int×TMember:=(e.dev,e)
theorem vGa{a b:TMember}(h:ent a=ent b):a=b:=(Prod.mk.inj h).2
theorem QQ{l:List TMember}{k:Int×TMember}:k∈l.map ent↔k.2∈l/\k.1=k.2.dev:=by
 rw[List.mem_map]
 constructor
 ·rintro⟨e,h,rfl⟩;exact⟨h,rfl⟩
 ·rintro⟨h1,h2⟩;exact⟨k.2,h1,by unfold ent;rw[<- h2]⟩
def Holds(m:List (Int×TMember))(l:List TMember):Prop:=m.Perm (l.map ent)
theorem Holds.keys{m:List (Int×TMember)}{l:List TMember}(h:Holds m l)(hs:wUa l):(m.map (·.1)).Nodup:=by
 have h1:=h.map (·.1);rw[List.map_map] at h1;exact h1.nodup_iff.2 (xja hs)
theorem Holds.mem{m:List (Int×TMember)}{l:List TMember}(h:Holds m l){k:Int×TMember}:k∈m↔k.2∈l/\k.1=k.2.dev:=by rw[h.mem_iff,QQ]
theorem Holds.len{m:List (Int×TMember)}{l:List TMember}(h:Holds m l):m.length=l.length:=by rw[h.length_eq,List.length_map]
theorem QR{l:List TMember}(h:wUa l):(l.map ent).Nodup:=by
 unfold List.Nodup;rw[List.pairwise_map];exact h.imp fun {a b} h e=>by rw[vGa e] at h;omega
theorem yca{m:List (Int×TMember)}{l:List TMember}(hn:(m.map (·.1)).Nodup)(hs:wUa l)(h:∀ k,k∈m↔k.2∈l/\k.1=k.2.dev):Holds m l:=by
 have hm:m.Nodup:=by
  unfold List.Nodup at hn ⊢;rw[List.pairwise_map] at hn;exact hn.imp fun {a b} h e=>h (by rw[e])
 exact(List.perm_ext_iff_of_nodup hm (QR hs)).2 fun k=>by rw[h,QQ]
def atD(d:Int)(x:TMember):Bool:=decide (x.dev=d)
theorem Holds.get{m:List (Int×TMember)}{l:List TMember}(h:Holds m l)(hs:wUa l)(d:Int):AL.get m d=l.find? (atD d):=by
 cases hf:l.find? (atD d) with
 | some x=>
  have h1:=List.mem_of_find?_eq_some hf;have h2:x.dev=d:=of_decide_eq_true (p:=x.dev=d) (List.find?_some (p:=atD d) hf);exact AL.mem_get (h.keys hs) (h.mem.2 ⟨h1,h2.symm⟩)
 | none=>
  refine AL.get_none.2 fun hk=>?_
  obtain⟨k,hk1,hk2⟩:=List.mem_map.1 hk;obtain⟨h1,h2⟩:=h.mem.1 hk1;have:=List.find?_eq_none.1 hf k.2 h1;exact this (decide_eq_true (by rw[<- h2,hk2]))
theorem xka{l:List TMember}(hs:wUa l){a:TMember}(h:∀ x∈l,x.dev < a.dev):wUa (l++[a]):=
 List.pairwise_append.2 ⟨hs,List.pairwise_singleton _ _,fun x hx y hy=>by rw[List.mem_singleton.1 hy];exact h x hx⟩
theorem Holds.snoc{m:List (Int×TMember)}{l:List TMember}(h:Holds m l)(hs:wUa l){a:TMember}(hl:∀ x∈l,x.dev < a.dev):Holds (AL.set m a.dev a) (l++[a]):=
 yca (AL.nodup_set (h.keys hs) _ _) (xka hs hl) fun k=>by
  rw[ju (h.keys hs),h.mem,List.mem_append,List.mem_singleton]
  constructor
  ·rintro(⟨⟨h1,h2⟩,h3⟩ | h1)
   ·exact⟨.inl h1,h2⟩
   ·subst h1;exact⟨.inr rfl,rfl⟩
  ·rintro⟨h1 | h1,h2⟩
   ·have:=hl k.2 h1;exact .inl ⟨⟨h1,h2⟩,by omega⟩
   ·exact .inr (by rw[<- h1,<- h2])
theorem none_eq(e la:Int)(A:A16)(nl:Bool)(m:List (Int×TMember)):yb e la A nl m=pure (decide (e=0)):=rfl
theorem yda{e:Int}(he:1<=e)(la:Int)(A:A16)(nl:Bool)(m:List (Int×TMember)):yb e la A nl m=pure false:=by
 rw[none_eq,decide_eq_false (by omega)]
theorem Members_eq{e la:Int}{A:A16}{nl:Bool}{m:List (Int×TMember)}{l:List TMember}(he:1<=e)(hm:Holds m l)(hs:wUa l)(hl:l.length<=1000000000):yt e la A nl m=pure l:=by
 unfold yt;rw[yda he,zB,zA];refine Zx ?_;show((loop _ _).bind _).wp _;refine M.loopM (body:=vj m) m (fun L (t:List TMember)=>(L,t)) (fun t e=>yk ((t.length+1)*16<=140737488355328) (pure (t++[e.2]))) (fun t=>pure t)
  (fun l t=>t=l.map (·.2)) _ (fun L t hL=>?_) (fun l t y ht hlen hy=>?_) (fun q t hq ht=>?_) [] rfl
 ·show yk _ ((nxt _ _).bind _)=yk _ ((nxt _ _).bind _);refine congrArg (fun k=>yk _ ((nxt _ _).bind k)) (funext fun o=>?_)
  cases o with
  | none=>rfl
  | some i=>rfl
 ·have:=hm.len;subst ht;exact⟨_,zJ (by rw[List.length_map];omega) _,by simp⟩
 ·subst ht;have hp:(q.map (·.2)).Perm l:=by
   have:=(hq.trans hm).map (·.2);rw[List.map_map] at this;simpa[Function.comp_def,ent] using this
  show(yk _ _).wp _;rw[zJ (by rw[hp.length_eq];omega)];refine srt_wpM fun s h1 h2=>?_
  show s=l;have h3:=h1.trans hp;exact uIa (srtM_of ((h3.map (·.dev)).nodup_iff.2 (xja hs)) h2) hs fun d=>h3.mem_iff
def zM : TMember:=⟨0,0,0⟩
def fnd(p:TMember->Bool)(l:List TMember):TMember×Bool:=match l.find? p with | some x=>(x,true) | none=>(zM,false)
def atS(s:Int)(x:TMember):Bool:=decide (x.slot=s)
theorem Yqa{body:Int->M (Step Int (Ex Unit (TMember×Bool)))}(l:List TMember)(p:TMember->Bool)(hl:l.length<=1000000000)
  (hb:∀ i:Int,body i=cond (decide (i < (l.length:Int))) ((idx l i).bind fun x=>cond (p x) (pure (.done (.ret (x,true)))) (pure (.next (IntKind.i64.wrap (i+1))))) (pure (.done (.brk ())))) :
  (loop body 0).bind (exk fun _=>pure (zM,false))=pure (fnd p l):=by
 rw[yba (body:=body) l p (fun x=>(x,true)) (fun i x hx hi=>?_) ?_]
 ·rw[zA];unfold fnd
  cases l.find? p <;> rfl
 ·rw[hb,decide_eq_false (by omega),cond_false]
 ·rw[hb,decide_eq_true (by omega),cond_true,zR hx,zA,yM (by omega)]
  cases p x <;> rfl
theorem Of_eq{e la:Int}{A:A16}{nl:Bool}{m:List (Int×TMember)}{l:List TMember}(he:1<=e)(hm:Holds m l)(hs:wUa l)(hl:l.length<=1000000000)(s:Int):xr s e la A nl m=pure (fnd (atS s) l):=by
 unfold xr;rw[Members_eq he hm hs hl,zB,zA];exact Yqa l (atS s) hl fun i=>rfl
theorem has_eq{m:List (Int×TMember)}{l:List TMember}(hm:Holds m l)(hs:wUa l)(d:Int):AL.has m d=(fnd (atD d) l).2:=by
 unfold AL.has fnd;rw[hm.get hs]
 cases l.find? (atD d) <;> rfl
structure Rep(n:Nat)(x:R26Roster)(m:List (Int×TMember)):Prop where
 e1:1<=x.epoch
 e2:x.epoch<=1000000000000000000
 l1:0<=x.last
 l2:x.last<=65535
 hm:Holds m x.l
 hs:wUa x.l
 hb:∀ a∈x.l,1<=a.dev/\a.dev<=x.last
 len:x.l.length<=n
 n9:n<=1000
theorem Epoch_eq{n:Nat}{x:R26Roster}{m:List (Int×TMember)}(h:Rep n x m):xu x.epoch x.last x.tries false m=pure x.epoch:=by
 unfold xu;rw[yda h.e1,zB,zA,cond_false]
theorem Last_eq{n:Nat}{x:R26Roster}{m:List (Int×TMember)}(h:Rep n x m):wW x.epoch x.last x.tries false m=pure x.last:=by
 unfold wW;rw[yda h.e1,zB,zA,cond_false]
theorem jG(l:List Int)(h:l.length<=1000000000):yh l=pure l:=by
 unfold yh;refine Zx ⟨⟨false,fun h=>by cases h⟩,fun b hb=>?_⟩
 cases b with
 | true=>rw[hb rfl];rfl
 | false=>
  show(yk _ _).wp _;rw[zJ (by simp;omega),List.nil_append]
  rfl
theorem Tries_eq{n:Nat}{x:R26Roster}{m:List (Int×TMember)}(h:Rep n x m):xv x.epoch x.last x.tries false m=pure (AR.l x.tries):=by
 unfold xv;rw[yda h.e1,zB,zA,cond_false,jG _ (by rw[AR.l_len];omega),zB,zA]
theorem Same_eq(l:List TMember)(hl:l.length<=1000000000):Jz l l=pure true:=by
 unfold Jz;rw[decide_eq_true rfl,Bool.not_true,cond_false];rw[yba (body:=QC l l) l (fun _=>false) (fun _=>false) (fun i x hx hi=>?_) ?_]
 ·have:l.find? (fun _=>false)=none:=List.find?_eq_none.2 (by simp);rw[this];rfl
 ·show cond (decide ((l.length:Int) < (l.length:Int))) _ _=_;rw[decide_eq_false (by omega)];rfl
 ·show cond (decide ((i:Int) < (l.length:Int))) _ _=_;rw[decide_eq_true (by omega),cond_true,zR hx,zA,zA];simp[yM (show i < 9223372036854775807 by omega)]
def z16 : A16:=(0,0,0,0,0,0,0,0,0,0,0,0,0,0,0,0)
def newR(e la:Int)(A:A16):R26Roster:=⟨e,la,[],A⟩
theorem rep_new{e la:Int}{A:A16}(h1:1<=e)(h2:e<=1000000000000000000)(h3:0<=la)(h4:la<=65535):Rep 0 (newR e la A) []:=
 ⟨h1,h2,h3,h4,List.Perm.refl _,List.Pairwise.nil,fun a (ha:a∈[])=>absurd ha List.not_mem_nil,Nat.le_refl _,by omega⟩
theorem loopB{ε σ β ρ τ:Type}{body:σ->M (Step σ (Ex β ρ))}(l:List ε)(mk:Nat->τ->σ)(g:τ->β)(bad:Nat->ε->Bool)(r:ρ)(I:Nat->τ->Prop)
  (h1:∀ (i:Nat) (x:ε) (t:τ),l[i]?=some x->i < l.length->I i t->(bad i x=true->body (mk i t)=pure (.done (.ret r)))/\(bad i x=false->∃ t',body (mk i t)=pure (.next (mk (i+1) t'))/\I (i+1) t'))
  (h2:∀ t,I l.length t->body (mk l.length t)=pure (.done (.brk (g t)))) (t0:τ) (h0:I 0 t0) :
  (l.zipIdx.any (fun y=>bad y.2 y.1)=true/\loop body (mk 0 t0)=pure (.ret r))\/(l.zipIdx.any (fun y=>bad y.2 y.1)=false/\∃ t,loop body (mk 0 t0)=pure (.brk (g t))/\I l.length t):=by
 have key:∀ k i t,i+k=l.length->I i t->(((l.drop i).zipIdx i).any (fun y=>bad y.2 y.1)=true/\loop body (mk i t)=pure (.ret r))\/(((l.drop i).zipIdx i).any (fun y=>bad y.2 y.1)=false/\∃ t',loop body (mk i t)=pure (.brk (g t'))/\I l.length t'):=by
  intro k
  induction k with
  | zero=>
   intro i t hi hI;have:i=l.length:=by omega
   subst this;rw[List.drop_length];exact .inr ⟨rfl,t,zT (h2 t hI),hI⟩
  | succ k ih=>
   intro i t hi hI;have hlt:i < l.length:=by omega
   obtain⟨h3,h4⟩:=h1 i l[i] t (List.getElem?_eq_getElem hlt) hlt hI;rw[List.drop_eq_getElem_cons hlt,List.zipIdx_cons,List.any_cons]
   cases hp:bad i l[i] with
   | true=>exact .inl ⟨rfl,zT (h3 hp)⟩
   | false=>
    obtain⟨t',h5,h6⟩:=h4 hp;rw[zi h5,Bool.false_or];exact ih (i+1) t' (by omega) h6
 simpa using key l.length 0 t0 (by omega) h0
theorem over_l{A:A16}{L:List Int}(h:L.length=16):AR.l (AR.over A L)=L:=by
 rw[AR.l_over,List.take_of_length_le (by omega),h,List.drop_eq_nil_of_le (by rw[AR.l_len];omega),List.append_nil]
theorem over_get{A:A16}{L:List Int}(h:L.length=16)(i:Nat):AR.get (AR.over A L) i=L.getD i 0:=by
 unfold AR.get;rw[over_l h]
def bad1(la:Int)(l:List TMember)(i:Nat)(x:TMember):Bool:=decide (x.dev=0)||(decide (la < x.dev)||(decide (0 < i)&&decide (x.dev<=(l.getD (i - 1) zM).dev)))
def bad2(tr:List Int)(x:TMember):Bool:=decide (16<=x.slot)||(decide (x.try_=0)||!decide (tr.getD x.slot.toNat 0=x.try_))
def zQa(la:Int)(l:List TMember)(tr:List Int)(i:Nat)(x:TMember):Bool:=bad1 la l i x||(bad2 tr x||(fnd (atS x.slot) (l.take i)).2)
def head0(e:Int)(tr:List Int):Bool:=decide (e=0)||(decide (281474976710655 < e)||!decide ((tr.length:Int)=16))
def fromB(e la:Int)(l:List TMember)(tr:List Int):Bool:=!(head0 e tr)&&!(l.zipIdx.any fun y=>zQa la l tr y.2 y.1)
theorem Yra(a b c:Bool):(cond a (pure true) (cond b (pure true) (pure c)):M Bool)=pure (a||(b||c)):=by cases a <;> cases b <;> rfl
theorem ZF{ε:Type}{l:List ε}{i:Nat}{x:ε}(h:l[i]?=some x):l.take (i+1)=l.take i++[x]:=by
 obtain⟨hlt,rfl⟩:=List.getElem?_eq_some_iff.1 h;exact List.take_append_getElem hlt▸rfl
theorem b1_eq{la:Int}{l:List TMember}{i:Nat}{x:TMember}(hi:i < l.length)(hl:l.length<=1000){c:M Bool} :
  (cond (decide (x.dev=0)) (pure true) (cond (decide (la < x.dev)) (pure true) (cond (decide ((0:Int) < (i:Int))) ((idx l (IntKind.i64.wrap ((i:Int) - 1))).bind fun x61=>cond (decide (x.dev<=x61.dev)) (pure true) c) c)):M Bool)=cond (bad1 la l i x) (pure true) c:=by
 unfold bad1
 cases decide (x.dev=0) with
 | true=>rfl
 | false=>
  cases decide (la < x.dev) with
  | true=>rfl
  | false=>
   rw[cond_false,cond_false,Bool.false_or,Bool.false_or]
   by_cases h0:0 < i
   ·have hw:IntKind.i64.wrap ((i:Int) - 1)=((i - 1:Nat):Int):=by rw[uV (by omega) (by omega)];omega
    have hg:l[i - 1]?=some (l.getD (i - 1) zM):=by
     rw[List.getD_eq_getElem?_getD,List.getElem?_eq_getElem (by omega)];rfl
    rw[decide_eq_true (by omega),decide_eq_true h0,cond_true,hw,zR hg,zA,Bool.true_and]
   ·rw[decide_eq_false (by omega),decide_eq_false h0,cond_false,Bool.false_and,cond_false]
theorem rFrom_eq{e la:Int}{l:List TMember}{tr:List Int}(hl:l.length<=1000)(hsl:∀ x∈l,0<=x.slot):Jp e la l tr=pure (fromB e la l tr):=by
 unfold Jp fromB head0;rw[Yra,zA]
 cases hh:decide (e=0)||(decide (281474976710655 < e)||!decide ((tr.length:Int)=16)) with
 | true=>rfl
 | false=>
  have h16:tr.length=16:=by
   rw[Bool.or_eq_false_iff,Bool.or_eq_false_iff,Bool.not_eq_false'] at hh;have:=of_decide_eq_true hh.2.2;omega
  rw[cond_false,Bool.not_false,Bool.true_and];have key:=loopB (body:=UK l la tr) l (fun i (_:Unit)=>(i:Int)) (fun _=>()) (zQa la l tr) false (fun _ _=>True) (fun i x t hx hi _=>?_) (fun t _=>?_) () trivial
  ·rcases key with⟨h1,h2⟩ | ⟨h1,t,h2,_⟩
   ·rw[show((0:Nat):Int)=0 from rfl] at h2;rw[h2,h1];rfl
   ·rw[show((0:Nat):Int)=0 from rfl] at h2;rw[h2,h1];rfl
  ·have hs:=hsl x (List.mem_of_getElem? hx);have hb2:(cond (decide (16<=x.slot)) (pure true) (cond (decide (x.try_=0)) (pure true) ((idx tr x.slot).bind fun x89=>pure (!decide (x89=x.try_)))):M Bool)=pure (bad2 tr x):=by
    unfold bad2
    cases hc:decide (16<=x.slot) with
    | true=>rfl
    | false=>
     have:=of_decide_eq_false hc;have hg:tr[x.slot.toNat]?=some (tr.getD x.slot.toNat 0):=by
      rw[List.getD_eq_getElem?_getD,List.getElem?_eq_getElem (by omega)];rfl
     rw[cond_false,Yz hs hg,zA,WO,Bool.false_or]
   have hbody:UK l la tr (i:Int)=M.bind (cond (zQa la l tr i x) (pure (.ret (.done (.ret false)))) (pure (.brk ()))) (exk fun _=>pure (.next (IntKind.i64.wrap ((i:Int)+1)))):=by
    show cond (decide ((i:Int) < (l.length:Int))) _ _=_;rw[decide_eq_true (by omega),cond_true,zR hx,zA];refine congrArg (fun z=>M.bind z _) ?_;rw[hb2,b1_eq hi hl];unfold zQa
    cases bad1 la l i x with
    | true=>rfl
    | false=>
     rw[cond_false,zA]
     cases bad2 tr x with
     | true=>rfl
     | false=>
      rw[cond_false,Bool.false_or,Bool.false_or];have hti:(l.take i).length=i:=by rw[List.length_take];omega
      rw[yba (body:=qx (i:Int) l x) (l.take i) (atS x.slot) (fun _=>.done (.ret false)) (fun k y hy hk=>?_) ?_]
      ·unfold fnd
       cases (l.take i).find? (atS x.slot) <;> rfl
      ·rw[hti];show cond (decide ((i:Int) < (i:Int))) _ _=_;rw[decide_eq_false (by omega)];rfl
      ·rw[hti] at hk;rw[List.getElem?_take,if_pos hk] at hy;show cond (decide ((k:Int) < (i:Int))) _ _=_;rw[decide_eq_true (by omega),cond_true,zR hy,zA,yM (by omega)];show cond (atS x.slot y) _ _=_
       cases atS x.slot y <;> rfl
   rw[hbody]
   constructor
   ·intro h;rw[h];rfl
   ·intro h;rw[h];exact⟨(),by rw[cond_false,zA,ZH,yM (by omega)],trivial⟩
  ·show cond (decide ((l.length:Int) < (l.length:Int))) _ _=_;rw[decide_eq_false (by omega)];rfl
theorem From_eq{e la:Int}{l:List TMember}{tr:List Int}(he:0<=e)(h0:0<=la)(h1:la<=65535)(hl:l.length<=900)(hd:∀ x∈l,0<=x.dev/\0<=x.slot) :
  (fromB e la l tr=false/\uK e la l tr=pure (.inl ()))\/(fromB e la l tr=true/\tr.length=16/\∃ m,uK e la l tr=pure (.inr (e,la,AR.over z16 tr,false,m))/\Rep l.length ⟨e,la,l,AR.over z16 tr⟩ m):=by
 unfold uK fromB head0;rw[Yra,zA]
 cases hh:decide (e=0)||(decide (281474976710655 < e)||!decide ((tr.length:Int)=16)) with
 | true=>exact .inl ⟨rfl,rfl⟩
 | false=>
  rw[Bool.or_eq_false_iff,Bool.or_eq_false_iff,Bool.not_eq_false'] at hh;have h16:tr.length=16:=by
   have:=of_decide_eq_true hh.2.2;omega
  have he0:=of_decide_eq_false hh.1;have he1:=of_decide_eq_false hh.2.1;rw[cond_false,Bool.not_false,Bool.true_and,show uy=pure (1,0,z16,false,[]) from rfl,zB,zA];have key:=loopB (body:=ZI l la (1,0,z16,false,[]) tr e) l (fun i (m:List (Int×TMember))=>((i:Int),m)) (fun m=>m) (zQa la l tr) (.inl ())
   (fun i m=>Holds m (l.take i)/\wUa (l.take i)/\∀ a∈l.take i,1<=a.dev/\a.dev<=la) (fun i x m hx hi hI=>?_) (fun m _=>?_) [] ⟨List.Perm.refl _,by rw[List.take_zero];exact List.Pairwise.nil,fun a ha=>by rw[List.take_zero] at ha;cases ha⟩
  ·rcases key with⟨k1,k2⟩ | ⟨k1,m,k2,k3,k4,k5⟩
   ·refine .inl ⟨by rw[k1];rfl,?_⟩;rw[show((0:Nat):Int)=0 from rfl] at k2;show M.bind (loop _ (0,[])) _=_;rw[k2];rfl
   ·rw[List.take_length] at k3 k4 k5;refine .inr ⟨by rw[k1];rfl,h16,m,?_,by show 1<=e;omega,by show e<=_;omega,h0,h1,k3,k4,k5,Nat.le_refl _,by show l.length<=1000;omega⟩;rw[show((0:Nat):Int)=0 from rfl] at k2;show M.bind (loop _ (0,[])) _=_;rw[k2];rfl
  ·obtain⟨hm,hs,hb⟩:=hI;have hx2:=hd x (List.mem_of_getElem? hx);have hti:(l.take i).length=i:=by rw[List.length_take];omega
   have hbody:ZI l la (1,0,z16,false,[]) tr e ((i:Int),m)=cond (zQa la l tr i x) (pure (.done (.ret (.inl ())))) (pure (.next (((i+1:Nat):Int),AL.set m x.dev x))):=by
    show cond (decide ((i:Int) < (l.length:Int))) _ _=_;rw[decide_eq_true (by omega),cond_true,zR hx,zA];have hb1:=b1_eq (la:=la) (x:=x) hi (by omega) (c:=pure false);have hb2:(cond (decide (16<=x.slot)) (pure true) (cond (decide (x.try_=0)) (pure true) (yk ((0:Int)<=x.slot/\x.slot < ((16:Nat):Int)) (pure (!decide (AR.get (AR.over z16 tr) x.slot.toNat=x.try_))))):M Bool)=pure (bad2 tr x):=by
     unfold bad2
     cases hc:decide (16<=x.slot) with
     | true=>rfl
     | false=>
      have:=of_decide_eq_false hc;rw[cond_false,zJ ⟨hx2.2,by omega⟩,over_get h16,WO,Bool.false_or]
    have hb1':(cond (decide (x.dev=0)) (pure true) (cond (decide (la < x.dev)) (pure true) (cond (decide ((0:Int) < (i:Int))) ((idx l (IntKind.i64.wrap ((i:Int) - 1))).bind fun x61=>pure (decide (x.dev<=x61.dev))) (pure false))):M Bool)=pure (bad1 la l i x):=by
     rw[show(cond (bad1 la l i x) (pure true) (pure false):M Bool)=pure (bad1 la l i x) by cases bad1 la l i x <;> rfl] at hb1;rw[<- hb1]
     congr 3
     refine congrArg (fun z=>M.bind _ z) (funext fun y=>?_)
     cases decide (x.dev<=y.dev) <;> rfl
    show M.bind (cond (decide (x.dev=0)) _ _) _=_;rw[hb1',zA];unfold zQa
    cases bad1 la l i x with
    | true=>rfl
    | false=>
     show M.bind (cond (decide (16<=x.slot)) _ _) _=_;rw[hb2,zA]
     cases bad2 tr x with
     | true=>rfl
     | false=>
      show M.bind (det (xr _ _ _ _ _ _)) _=_;rw[Of_eq (by omega) hm hs (by rw[hti];omega),zB,zA];show cond (fnd (atS x.slot) (l.take i)).2 _ _=_;rw[zJ rfl,yM (by omega)]
      rfl
   rw[hbody]
   constructor
   ·intro h;rw[h];rfl
   ·intro h;rw[h];refine⟨AL.set m x.dev x,rfl,?_⟩;unfold zQa bad1 at h;simp only[Bool.or_eq_false_iff] at h;have d0:=of_decide_eq_false h.1.1;have d1:=of_decide_eq_false h.1.2.1;have d2:=h.1.2.2;have hlast:∀ y∈l.take i,y.dev < x.dev:=fun y hy=>by
     have hi0:0 < i:=by
      rcases Nat.eq_zero_or_pos i with h | h
      ·subst h;rw[List.take_zero] at hy;cases hy
      ·exact h
     rw[decide_eq_true hi0,Bool.true_and] at d2;have d3:=of_decide_eq_false d2;have hg:l[i - 1]?=some (l.getD (i - 1) zM):=by
      rw[List.getD_eq_getElem?_getD,List.getElem?_eq_getElem (by omega)];rfl
     have e1:=ZF hg;rw[Nat.sub_add_cancel hi0] at e1;rw[e1] at hy hs;rcases List.mem_append.1 hy with hy | hy
     ·have:=(List.pairwise_append.1 hs).2.2 y hy _ (List.mem_singleton.2 rfl);omega
     ·rw[List.mem_singleton.1 hy];omega
    rw[ZF hx];exact⟨hm.snoc hs hlast,xka hs hlast,fun a ha=>by
     rcases List.mem_append.1 ha with ha | ha
     ·exact hb a ha
     ·rw[List.mem_singleton.1 ha];omega⟩
  ·show cond (decide ((l.length:Int) < (l.length:Int))) _ _=_;rw[decide_eq_false (by omega)];rfl
theorem copy_loop{body:Int×A16->M (Step (Int×A16) A16)}(tr:List Int)(h16:tr.length=16)
  (hb:∀ (i:Int) (A:A16),body (i,A)=cond (decide (i < 16)) ((idx tr i).bind fun x=>yk ((0:Int)<=i/\i < ((16:Nat):Int)) (pure (.next (IntKind.i64.wrap (i+1),AR.set A i.toNat x)))) (pure (.done A))):loop body (0,z16)=pure (AR.over z16 tr):=by
 have key:=loopE (body:=body) tr (fun i (A:A16)=>((i:Int),A)) (fun i A=>∀ j,j < i->AR.get A j=tr.getD j 0) (fun A=>AR.l A=tr) (fun i x A hx hi hI=>?_) (fun A hI=>?_) z16 (fun j hj=>by omega)
 ·obtain⟨r,h1,h2⟩:=key;rw[show((0:Int),z16)=(((0:Nat):Int),z16) from rfl,h1]
  congr 1
  exact AR.l_inj (by rw[h2,over_l h16])
 ·refine⟨AR.set A i x,?_,fun j hj=>?_⟩
  ·show body ((i:Int),A)=_;rw[hb,decide_eq_true (by omega),cond_true,zR hx,zA,zJ (by omega),yM (by omega),Int.toNat_natCast]
  ·rw[AR.get_set (by omega)]
   by_cases hij:i=j
   ·rw[if_pos hij,<- hij,List.getD_eq_getElem?_getD,hx];rfl
   ·rw[if_neg hij];exact hI j (by omega)
 ·refine⟨A,?_,?_⟩
  ·show body ((tr.length:Int),A)=_;rw[hb,decide_eq_false (by omega),cond_false]
  ·refine List.ext_getElem? fun j=>?_
   by_cases hj:j < 16
   ·rw[AR.get_lt hj,hI j (by omega),List.getD_eq_getElem?_getD,List.getElem?_eq_getElem (by omega)];rfl
   ·rw[List.getElem?_eq_none (by rw[AR.l_len];omega),List.getElem?_eq_none (by omega)]
structure Gone(g:List Bool)(x:R26Roster):Prop where
 len:g.length=65536
 on:∀ d:Nat,g[d]?=some true->(d:Int)<=x.last/\∀ a∈x.l,a.dev≠d
theorem Gone.sub{g:List Bool}{x x':R26Roster}(h:Gone g x)(h1:x.last<=x'.last)(h2:∀ a∈x'.l,a∈x.l\/x.last < a.dev):Gone g x':=
 ⟨h.len,fun d hd=>by
  obtain⟨h3,h4⟩:=h.on d hd;refine⟨by omega,fun a ha=>?_⟩;rcases h2 a ha with h5 | h5
  ·exact h4 a h5
  ·omega⟩
theorem Gone.put{g:List Bool}{x':R26Roster}(h:Gone g x'){d:Int}(h0:0<=d)(h1:d<=x'.last)(h2:∀ a∈x'.l,a.dev≠d):Gone (g.set d.toNat true) x':=
 ⟨by rw[List.length_set];exact h.len,fun q hq=>by
  rw[List.getElem?_set] at hq
  split at hq
  ·rename_i e;subst e
   refine⟨by omega,fun a ha e=>h2 a ha (by omega)⟩
  ·exact h.on q hq⟩
end Go.Ep.M.H
namespace Go.Ep.M.V
open Go
def xA(d:DT):Bool:=decide (1<=d.dev)&&(decide (1<=d.n)&&decide (d.n<=281474976710655))
theorem YR{d:DT}:xA d=true↔1<=d.dev/\1<=d.n/\d.n<=281474976710655:=by simp[xA]
theorem YS(d:DT):Yi d=pure (xA d):=by
 unfold Yi;rw[yP,yP,zA];refine congrArg pure ?_;rw[Bool.eq_iff_iff,YR];simp only[Bool.and_eq_true,decide_eq_true_eq];omega
theorem ue(d:DT):uq d=pure (xA d):=by
 unfold uq;rw[yP,yP,zA];refine congrArg pure ?_;rw[Bool.eq_iff_iff,YR];simp only[Bool.and_eq_true,decide_eq_true_eq];omega
theorem vHa(a b:List DT)(h:a.length<=1000000000000):qA a b=pure (decide (a=b)):=by
 unfold qA
 by_cases hl:(a.length:Int)=b.length
 ·simp only[hl,decide_true,Bool.not_true,cond_false];have:=vq (body:=Xo a b) a (fun i=>(i:Int)) (fun i x=>decide (b[i]?=some x)) (.brk ()) (.ret false) (fun i x hx hi=>by
   have hb:i < b.length:=by omega
   unfold Xo;rw[zR hx,zR (List.getElem?_eq_getElem hb),yM (by omega)];simp only[zA,List.getElem?_eq_getElem hb,Option.some.injEq];have:decide ((i:Int) < (a.length:Int))=true:=by simpa using hi
   rw[this,cond_true]
   by_cases he:b[i]=x
   ·subst he;simp
   ·rw[if_neg (by simpa using he)];have:(decide (x.dev=b[i].dev)&&decide (x.n=b[i].n))=false:=by
     rw[Bool.eq_false_iff];intro hc;simp at hc;apply he
     cases x;cases hh:b[i];simp_all
    rw[this];rfl) (by
   unfold Xo;simp)
  rw[show(0:Int)=((0:Nat):Int) from rfl,this]
  by_cases he:a=b
  ·subst he;rw[if_pos]
   ·simp[zA,ZH]
   ·rw[List.all_eq_true];intro ⟨x,i⟩ hx;rw[List.mk_mem_zipIdx_iff_getElem?] at hx;simpa using hx
  ·rw[if_neg]
   ·simp[he,zA,qh]
   ·intro hall;rw[List.all_eq_true] at hall;apply he;apply List.ext_getElem (by omega);intro i h1 h2;have:=hall (a[i],i) (by rw[List.mk_mem_zipIdx_iff_getElem?];exact List.getElem?_eq_getElem h1);simp[h2] at this;exact this.symm
 ·have hne:a≠b:=fun e=>hl (by rw[e])
  simp[hl,hne]
def ofV : List DT->Int->Int
 | [],_=>0
 | d::r,dev=>if d.dev=dev/\xA d=true then max d.n (ofV r dev) else ofV r dev
theorem Ysa(v:List DT)(dev:Int):0<=ofV v dev/\ofV v dev<=281474976710655:=by
 induction v with
 | nil=>simp[ofV]
 | cons d r ih=>
  simp only[ofV]
  split
  ·rename_i h;have:=YR.1 h.2;omega
  ·exact ih
theorem ofV_pos{v:List DT}{dev:Int}:0 < ofV v dev↔∃ d∈v,d.dev=dev/\xA d=true:=by
 induction v with
 | nil=>simp[ofV]
 | cons d r ih=>
  simp only[ofV,List.mem_cons,exists_eq_or_imp]
  split
  ·rename_i h
   have:=YR.1 h.2
   constructor
   ·intro _;exact .inl h
   ·intro _;omega
  ·rename_i h
   rw[ih]
   constructor
   ·exact .inr
   ·rintro(hh | hh)
    ·exact absurd hh h
    ·exact hh
def zFa : List Int->Int->List Int
 | [],k=>[k]
 | a::r,k=>if k < a then k::a::r else if k=a then a::r else a::zFa r k
theorem qE{l:List Int}{k q:Int}:q∈zFa l k↔q=k\/q∈l:=by
 induction l with
 | nil=>simp[zFa]
 | cons a r ih=>
  unfold zFa
  split
  ·simp
  ·split
   ·rename_i h;subst h;simp
   ·simp only[List.mem_cons,ih];constructor
    ·rintro(h | h | h) <;> simp[h]
    ·rintro(h | h | h) <;> simp[h]
theorem YT{l:List Int}(h:l.Pairwise (· < ·))(k:Int):(zFa l k).Pairwise (· < ·):=by
 induction l with
 | nil=>simp[zFa]
 | cons a r ih=>
  obtain⟨h1,h2⟩:=List.pairwise_cons.1 h;unfold zFa
  split
  ·rename_i hk
   refine List.pairwise_cons.2 ⟨fun x hx=>?_,h⟩;rcases List.mem_cons.1 hx with rfl | hx
   ·exact hk
   ·have:=h1 x hx;omega
  ·split
   ·exact h
   ·refine List.pairwise_cons.2 ⟨fun x hx=>?_,ih h2⟩;rcases qE.1 hx with rfl | hx
    ·omega
    ·exact h1 x hx
theorem jH(l : List Int)(k : Int) : (zFa l k).length<=l.length+1 := by
  induction l with
  | nil => simp[zFa]
  | cons a r ih => unfold zFa; split <;> try split
                   all_goals simp_all
def Xt(l:List Int)(d:DT):List Int:=if xA d then zFa l d.dev else l
def devsL(v:List DT):List Int:=v.foldl Xt []
theorem jI(v:List DT):∀ l:List Int,l.Pairwise (· < ·)->(v.foldl Xt l).Pairwise (· < ·)/\(∀ k,k∈v.foldl Xt l↔k∈l\/∃ d∈v,d.dev=k/\xA d=true)/\(v.foldl Xt l).length<=l.length+v.length:=by
 induction v with
 | nil=>intro l h;simp[h]
 | cons d r ih=>
  intro l h;simp only[List.foldl_cons];unfold Xt
  split
  ·rename_i hg
   obtain⟨h1,h2,h3⟩:=ih _ (YT h d.dev);refine⟨h1,fun k=>?_,?_⟩
   ·have:=h2 k;unfold Xt at this;rw[this,qE]
    constructor
    ·rintro((rfl | h) | ⟨e,he,h⟩)
     ·exact .inr ⟨d,by simp,rfl,hg⟩
     ·exact .inl h
     ·exact .inr ⟨e,by simp[he],h⟩
    ·rintro(h | ⟨e,he,h⟩)
     ·exact .inl (.inr h)
     ·rcases List.mem_cons.1 he with rfl | he
      ·exact .inl (.inl h.1.symm)
      ·exact .inr ⟨e,he,h⟩
   ·have:=jH l d.dev;simp only[List.length_cons];unfold Xt at h3;omega
  ·rename_i hg
   obtain⟨h1,h2,h3⟩:=ih _ h;refine⟨h1,fun k=>?_,?_⟩
   ·have:=h2 k;unfold Xt at this;rw[this]
    constructor
    ·rintro(h | ⟨e,he,h⟩)
     ·exact .inl h
     ·exact .inr ⟨e,by simp[he],h⟩
    ·rintro(h | ⟨e,he,h⟩)
     ·exact .inl h
     ·rcases List.mem_cons.1 he with rfl | he
      ·exact absurd h.2 hg
      ·exact .inr ⟨e,he,h⟩
   ·simp only[List.length_cons];unfold Xt at h3;omega
theorem uQ{v:List DT}{k:Int}:k∈devsL v↔0 < ofV v k:=by rw[ofV_pos];simpa[devsL] using (jI v [] List.Pairwise.nil).2.1 k
def Zl(m:List (Int×Int))(d:DT):List (Int×Int):=if xA d then AL.set m d.dev (max (AL.getZ m d.dev 0) d.n) else m
def Wm(v:List DT):List (Int×Int):=v.foldl Zl []
theorem yea(v:List DT):∀ m:List (Int×Int),(m.map (·.1)).Nodup->((v.foldl Zl m).map (·.1)).Nodup/\((∀ k,0<=AL.getZ m k 0)->∀ k,AL.getZ (v.foldl Zl m) k 0=max (AL.getZ m k 0) (ofV v k))/\(v.foldl Zl m).length<=m.length+v.length/\(∀ k,k∈(v.foldl Zl m).map (·.1)->k∈m.map (·.1)\/0 < ofV v k):=by
 induction v with
 | nil=>
  intro m h;refine⟨h,fun h0 k=>?_,by simp,fun k hk=>.inl hk⟩;have:=h0 k;simp only[List.foldl_nil,ofV];omega
 | cons d r ih=>
  intro m h;simp only[List.foldl_cons]
  by_cases hg:xA d=true
  ·have hd:=YR.1 hg;have e:Zl m d=AL.set m d.dev (max (AL.getZ m d.dev 0) d.n):=by simp[Zl,hg]
   rw[e];obtain⟨h1,h2,h3,h4⟩:=ih _ (AL.nodup_set h d.dev (max (AL.getZ m d.dev 0) d.n));refine⟨h1,fun h0 k=>?_,?_,fun k hk=>?_⟩
   ·rw[h2 (fun q=>by rw[AL.getZ_set];have:=h0 q;have:=h0 d.dev;split <;> omega),AL.getZ_set];simp only[ofV]
    by_cases hk:d.dev=k
    ·subst hk;simp only[if_true,hg,and_self];omega
    ·simp[hk]
   ·have:=AL.len_set m d.dev (max (AL.getZ m d.dev 0) d.n);simp only[List.length_cons];omega
   ·simp only[ofV];rcases h4 k hk with h5 | h5
    ·rw[AL.keys_set] at h5
     split at h5
     ·exact .inl h5
     ·rcases List.mem_append.1 h5 with h5 | h5
      ·exact .inl h5
      ·right
       rw[List.mem_singleton.1 h5,if_pos ⟨rfl,hg⟩];omega
    ·right;split <;> omega
  ·have e:Zl m d=m:=by simp[Zl,hg]
   rw[e];obtain⟨h1,h2,h3,h4⟩:=ih m h;have e2:∀ k,ofV (d::r) k=ofV r k:=fun k=>by simp only[ofV];rw[if_neg (fun hh=>hg hh.2)]
   exact⟨h1,fun h0 k=>by rw[h2 h0,e2],by simp only[List.length_cons];omega,fun k hk=>by rw[e2];exact h4 k hk⟩
theorem Va(v:List DT):((Wm v).map (·.1)).Nodup:=(yea v [] (by simp)).1
theorem jJ(v:List DT)(k:Int):AL.getZ (Wm v) k 0=ofV v k:=by
 have:=(yea v [] (by simp)).2.1 (fun _=>Int.le_refl _) k;have h2:=Ysa v k;rw[Wm,this];show max 0 (ofV v k)=_;omega
theorem yfa{v:List DT}{k n:Int}(h:(k,n)∈Wm v):n=ofV v k/\0 < n:=by
 have h1:=AL.mem_get (Va v) h;have h2:AL.getZ (Wm v) k 0=n:=by simp[AL.getZ,h1]
 rw[jJ] at h2;have h3:=(yea v [] (by simp)).2.2.2 k (List.mem_map.2 ⟨_,h,rfl⟩);simp at h3;omega
def wVa(a b:DT):Int:=if a=b then 0 else if zr a b then -1 else 1
theorem Zs(a b:DT):ZK a b=pure (wVa a b):=by
 unfold ZK wVa;have h1:(decide (a.dev=b.dev)&&decide (a.n=b.n))=decide (a=b):=by
  rw[Bool.eq_iff_iff];cases a;cases b;simp
 have h2:(cond (decide (a.dev < b.dev)) (pure true) (cond (decide (a.dev=b.dev)) (pure (decide (a.n < b.n))) (pure false)):M Bool)=pure (zr a b):=by
  rw[yP,WO];rfl
 rw[h1,h2,wx,zA]
 split
 ·rfl
 ·cases zr a b <;> rfl
theorem qG{a b:DT}:wVa a b < 0↔zr a b=true:=by
 unfold wVa
 split
 ·rename_i h;subst h;simp[zr]
 ·split <;> simp_all
theorem cmpD_pos{a b:DT}:0 < wVa a b↔zr b a=true:=by
 unfold wVa
 by_cases h:a=b
 ·subst h;simp[zr]
 ·rw[if_neg h]
  cases a;cases b
  simp only[DT.mk.injEq] at h;simp only[zr,Bool.or_eq_true,Bool.and_eq_true,decide_eq_true_eq]
  split <;> omega
theorem jv(l:List DT)(d:DT)(h:l.length<=1000000000000):Yt l d=pure ((l.filter fun x=>zr x d)++[d]++(l.filter fun x=>zr d x)):=by
 unfold Yt;have c0:∀ o:List DT,o.length<=1000000000000->True:=fun _ _=>trivial
 have h1:=XP (body:=VI l d) l (fun i (o:List DT)=>((i:Int),o)) (fun o x=>if zr x d then o++[x] else o) (fun o=>pure o) (fun i o=>o.length<=i) (fun i x o hx hi ho=>by
  have h1:decide ((i:Int) < (l.length:Int))=true:=by simpa using hi
  unfold VI;simp only[h1,cond_true,zR hx,zA,Zs,zB,yM (show i < 9223372036854775807 by omega),wx,qG]
  split
  ·rw[zJ (by simp;omega)];exact⟨rfl,by simp;omega⟩
  ·exact⟨rfl,by omega⟩) (fun o _=>by unfold VI;simp[zA]) [] (by simp)
 have h2:∀ o0:List DT,o0.length<=1000000000001->loop (XE l d) (0,o0)=pure (l.foldl (fun o x=>if zr d x then o++[x] else o) o0):=fun o0 ho0=>by
  have:=XP (body:=XE l d) l (fun i (o:List DT)=>((i:Int),o)) (fun o x=>if zr d x then o++[x] else o) (fun o=>pure o) (fun i o=>o.length<=o0.length+i) (fun i x o hx hi ho=>by
   have h1:decide ((i:Int) < (l.length:Int))=true:=by simpa using hi
   unfold XE;simp only[h1,cond_true,zR hx,zA,Zs,zB,yM (show i < 9223372036854775807 by omega),wx,cmpD_pos]
   split
   ·rw[zJ (by simp;omega)];exact⟨rfl,by simp;omega⟩
   ·exact⟨rfl,by omega⟩) (fun o _=>by unfold XE;simp[zA]) o0 (by simp)
  exact this
 have hf:∀ (p:DT->Bool) (l o:List DT),l.foldl (fun o x=>if p x then o++[x] else o) o=o++l.filter p:=by
  intro p l
  induction l with
  | nil=>simp
  | cons x r ih=>
   intro o;rw[List.foldl_cons,ih,List.filter_cons]
   split <;> simp
 rw[show((0:Int),([]:List DT))=(((0:Nat):Int),[]) from rfl,h1,hf,zA,zJ,h2,hf,zA]
 ·rfl
 ·have:=List.length_filter_le (fun x=>zr x d) l;simp;omega
 ·have:=List.length_filter_le (fun x=>zr x d) l;simp;omega
def Vo(l:List Int):List DT:=l.map fun k=>⟨k,1⟩
theorem uJa{l:List Int}(h:l.Pairwise (· < ·))(k:Int):((Vo l).filter fun x=>zr x ⟨k,1⟩)++[⟨k,1⟩]++((Vo l).filter fun x=>zr ⟨k,1⟩ x)=Vo (zFa l k):=by
 induction l with
 | nil=>rfl
 | cons a r ih=>
  obtain⟨h1,h2⟩:=List.pairwise_cons.1 h;have i2:=ih h2;unfold zFa
  by_cases c1:k < a
  ·rw[if_pos c1];have e1:(Vo (a::r)).filter (fun x=>zr x ⟨k,1⟩)=[]:=by
    rw[List.filter_eq_nil_iff];intro x hx;simp only[Vo,List.map_cons,List.mem_cons,List.mem_map] at hx;rcases hx with rfl | ⟨b,hb,rfl⟩
    ·simp[zr];omega
    ·have:=h1 b hb;simp[zr];omega
   have e2:(Vo (a::r)).filter (fun x=>zr ⟨k,1⟩ x)=Vo (a::r):=by
    rw[List.filter_eq_self];intro x hx;simp only[Vo,List.map_cons,List.mem_cons,List.mem_map] at hx;rcases hx with rfl | ⟨b,hb,rfl⟩
    ·simp[zr];omega
    ·have:=h1 b hb;simp[zr];omega
   rw[e1,e2];rfl
  ·rw[if_neg c1]
   by_cases c2:k=a
   ·subst c2;rw[if_pos rfl];have e1:(Vo (k::r)).filter (fun x=>zr x ⟨k,1⟩)=[]:=by
     rw[List.filter_eq_nil_iff];intro x hx;simp only[Vo,List.map_cons,List.mem_cons,List.mem_map] at hx;rcases hx with rfl | ⟨b,hb,rfl⟩
     ·simp[zr]
     ·have:=h1 b hb;simp[zr];omega
    have e2:(Vo (k::r)).filter (fun x=>zr ⟨k,1⟩ x)=Vo r:=by
     show List.filter _ (⟨k,1⟩::Vo r)=_;rw[List.filter_cons,if_neg (by simp[zr]),List.filter_eq_self];intro x hx;simp only[Vo,List.mem_map] at hx;obtain⟨b,hb,rfl⟩:=hx;have:=h1 b hb;simp[zr];omega
    rw[e1,e2];rfl
   ·rw[if_neg c2];show(List.filter _ (⟨a,1⟩::Vo r))++_++(List.filter _ (⟨a,1⟩::Vo r))=⟨a,1⟩::Vo (zFa r k);rw[List.filter_cons,if_pos (by simp[zr];omega),List.filter_cons,if_neg (by simp[zr];omega),<- i2]
    rfl
end Go.Ep.M.V
namespace Go.Ep.M.R
open Go
def WG(x:RN):Bool:=decide (1<=x.lo)&&(decide (x.lo<=x.hi)&&decide (x.hi<=281474976710655))
theorem yN{x:RN}:WG x=true↔1<=x.lo/\x.lo<=x.hi/\x.hi<=281474976710655:=by simp[WG]
def inR(n:Int)(x:RN):Bool:=WG x&&(decide (x.lo<=n)&&decide (n<=x.hi))
theorem ZQ{n:Int}{x:RN}:inR n x=true↔(1<=x.lo/\x.lo<=x.hi/\x.hi<=281474976710655)/\x.lo<=n/\n<=x.hi:=by simp[inR,WG]
def wA(l:List RN)(n:Int):Bool:=l.any (inR n)
theorem vP{l:List RN}{n:Int}:wA l n=true↔∃ x∈l,WG x=true/\x.lo<=n/\n<=x.hi:=by
 unfold wA;rw[List.any_eq_true];simp[inR]
@[simp] theorem uKa(n:Int):wA [] n=false:=rfl
theorem YU(x:RN)(l:List RN)(n:Int):wA (x::l) n=(inR n x||wA l n):=rfl
theorem Yo(a b:List RN)(n:Int):wA (a++b) n=(wA a n||wA b n):=by simp[wA]
theorem Yp(x:RN)(n:Int):wA [x] n=inR n x:=by simp[wA]
theorem xla{a b:List RN}(h:a.Perm b)(n:Int):wA a n=wA b n:=by
 rw[Bool.eq_iff_iff,vP,vP];simp only[h.mem_iff]
theorem vIa(l:List RN)(n:Int):wA (l.filter WG) n=wA l n:=by
 rw[Bool.eq_iff_iff,vP,vP];simp only[List.mem_filter];exact⟨fun⟨x,⟨h1,_⟩,h3⟩=>⟨x,h1,h3⟩,fun⟨x,h1,h2,h3⟩=>⟨x,⟨h1,h2⟩,h2,h3⟩⟩
theorem ZUa{l:List RN}{n:Int}(h:wA l n=true):1<=n/\n<=281474976710655:=by
 obtain⟨x,_,h2,h3,h4⟩:=vP.1 h;have:=yN.1 h2;omega
def Nf : List RN->Prop
 | []=>True
 | x::r=>WG x=true/\(∀ y∈r,x.hi+1 < y.lo)/\Nf r
theorem Nf.may{l:List RN}(h:Nf l):∀ x∈l,WG x=true:=by
 induction l with
 | nil=>simp
 | cons y r ih=>
  intro x hx;rcases List.mem_cons.1 hx with rfl | hx
  ·exact h.1
  ·exact ih h.2.2 x hx
theorem Wn{l:List RN}{z:RN}:Nf (l++[z])↔Nf l/\WG z=true/\∀ p∈l,p.hi+1 < z.lo:=by
 induction l with
 | nil=>simp[Nf]
 | cons x r ih=>
  simp only[List.cons_append,Nf,ih,List.mem_append,List.mem_cons,List.not_mem_nil,or_false]
  constructor
  ·rintro⟨h1,h2,h3,h4,h5⟩;refine⟨⟨h1,fun y hy=>h2 y (.inl hy),h3⟩,h4,fun p hp=>?_⟩;rcases hp with rfl | hp
   ·exact h2 z (.inr rfl)
   ·exact h5 p hp
  ·rintro⟨⟨h1,h2,h3⟩,h4,h5⟩;refine⟨h1,fun y hy=>?_,h3,h4,fun p hp=>h5 p (.inr hp)⟩;rcases hy with hy | rfl
   ·exact h2 y hy
   ·exact h5 x (.inl rfl)
theorem uLa{x:RN}{r:List RN}(h:Nf (x::r)){n:Int}(hn:wA r n=true):x.hi+1 < n:=by
 obtain⟨y,h1,_,h3,_⟩:=vP.1 hn;have:=h.2.1 y h1;omega
theorem jw{x:RN}{r:List RN}(h:Nf (x::r)):wA (x::r) x.lo=true:=by
 rw[YU];have:=yN.1 h.1;rw[Bool.or_eq_true];exact .inl (ZQ.2 ⟨this,by omega,by omega⟩)
theorem qH{x:RN}{r:List RN}(h:Nf (x::r)){n:Int}(hn:wA (x::r) n=true):x.lo<=n:=by
 rw[YU,Bool.or_eq_true] at hn;rcases hn with hn | hn
 ·exact(ZQ.1 hn).2.1
 ·have:=uLa h hn;have:=yN.1 h.1;omega
theorem vJa{x:RN}{r:List RN}(h:Nf (x::r)){n:Int}(h1:x.lo<=n):wA (x::r) n=true↔n<=x.hi\/wA r n=true:=by
 rw[YU,Bool.or_eq_true,ZQ];have:=yN.1 h.1
 constructor
 ·rintro(h2 | h2)
  ·exact .inl h2.2.2
  ·exact .inr h2
 ·rintro(h2 | h2)
  ·exact .inl ⟨this,h1,h2⟩
  ·exact .inr h2
theorem zka : ∀ {a b:List RN},Nf a->Nf b->(∀ n,wA a n=wA b n)->a=b
 | [],[],_,_,_=>rfl
 | [],y::s,_,hb,h=>by have:=h y.lo;rw[jw hb] at this;simp at this
 | x::r,[],ha,_,h=>by have:=h x.lo;rw[jw ha] at this;simp at this
 | x::r,y::s,ha,hb,h=>by
  have h1:x.lo=y.lo:=by
   have h2:=qH hb (by rw[<- h];exact jw ha);have h3:=qH ha (by rw[h];exact jw hb);omega
  have hx:=yN.1 ha.1;have hy:=yN.1 hb.1;have hle:∀ {x y:RN} {r s:List RN},Nf (x::r)->Nf (y::s)->(∀ n,wA (x::r) n=wA (y::s) n)->x.lo=y.lo->y.hi<=x.hi:=by
   intro x y r s ha hb h h1;have hx:=yN.1 ha.1;refine Classical.byContradiction fun hc=>?_
   have h2:wA (y::s) (x.hi+1)=true:=(vJa hb (by omega)).2 (.inl (by omega));rw[<- h,vJa ha (by omega)] at h2;rcases h2 with h2 | h2
   ·omega
   ·have:=uLa ha h2;omega
  have h2:x.hi=y.hi:=by
   have:=hle ha hb h h1;have:=hle hb ha (fun n=>(h n).symm) h1.symm;omega
  have he:x=y:=by cases x;cases y;simp_all
  subst he;rw[zka ha.2.2 hb.2.2 fun n=>?_];rw[Bool.eq_iff_iff];have h3:=h n
  constructor
  ·intro hn;have:=uLa ha hn;have h4:wA (x::r) n=true:=(vJa ha (by omega)).2 (.inr hn);rw[h3,vJa hb (by omega)] at h4;rcases h4 with h4 | h4
   ·omega
   ·exact h4
  ·intro hn;have:=uLa hb hn;have h4:wA (x::s) n=true:=(vJa hb (by omega)).2 (.inr hn);rw[<- h3,vJa ha (by omega)] at h4;rcases h4 with h4 | h4
   ·omega
   ·exact h4
def jK(n:Int)(s:Bool×List Int)(x:Int):Bool×List Int:=
 let t:=if s.1=false/\n<=x then (true,s.2++[n]) else s
 if x=n then t else (t.1,t.2++[x])
def putP(l:List Int)(n:Int):List Int:=let t:=l.foldl (jK n) (false,[]);if t.1 then t.2 else t.2++[n]
abbrev Up(l:List Int):Prop:=l.Pairwise (· < ·)
theorem QS{l:List Int}{z:Int}:Up (l++[z])↔Up l/\∀ p∈l,p < z:=by
 unfold Up;rw[List.pairwise_append];simp
theorem jL(n:Int):∀ (l:List Int) (s:Bool×List Int),Up l->Up s.2->(∀ p∈s.2,∀ x∈l,p < x\/(p=n/\s.1=true/\p<=x))->(s.1=true->n∈s.2)->(s.1=false->∀ p∈s.2,p < n) ->
  Up (l.foldl (jK n) s).2/\(∀ m,m∈(l.foldl (jK n) s).2↔m∈s.2\/(m∈l/\m≠n)\/(m=n/\(l.foldl (jK n) s).1=true))/\((l.foldl (jK n) s).1=false->∀ p∈(l.foldl (jK n) s).2,p < n)/\(l.foldl (jK n) s).2.length<=s.2.length+l.length+(if s.1 then 0 else 1)/\((l.foldl (jK n) s).1=false->(l.foldl (jK n) s).2.length<=s.2.length+l.length)
 | [],s,_,hs,_,h2,h3=>by
  refine⟨hs,fun m=>?_,h3,by simp,by simp⟩;simp only[List.foldl_nil,List.not_mem_nil,false_and,false_or];exact⟨fun h=>.inl h,fun h=>h.elim id fun⟨e,h⟩=>e▸h2 h⟩
 | x::r,(d,out),hl,hs,h1,h2,h3=>by
  rw[List.foldl_cons];have hl':=List.pairwise_cons.1 hl;simp only at hs h1 h2 h3
  by_cases hc:d=false/\n<=x
  ·obtain⟨rfl,hnx⟩:=hc
   by_cases hx:x=n
   ·have e:jK n (false,out) x=(true,out++[n]):=by simp[jK,hx]
    rw[e];obtain⟨i1,i2,i3,i4,i5⟩:=jL n r (true,out++[n]) hl'.2 (QS.2 ⟨hs,h3 rfl⟩) (fun p hp y hy=>by
     have:=hl'.1 y hy;rcases List.mem_append.1 hp with hp | hp
     ·have:=h3 rfl p hp;left;omega
     ·simp at hp;left;omega) (fun _=>by simp) (fun h=>by cases h)
    refine⟨i1,fun m=>?_,i3,?_,?_⟩
    ·rw[i2];simp only[List.mem_append,List.mem_cons,List.not_mem_nil,or_false]
     constructor
     ·rintro((h | h) | h | h)
      ·exact .inl h
      ·refine .inr (.inr ⟨h,?_⟩)
       cases hb:(r.foldl (jK n) (true,out++[n])).1 with
       | true=>rfl
       | false=>have:=i3 hb n ((i2 n).2 (.inl (by simp)));omega
      ·exact .inr (.inl ⟨.inr h.1,h.2⟩)
      ·exact .inr (.inr h)
     ·rintro(h | ⟨h | h,h'⟩ | h)
      ·exact .inl (.inl h)
      ·exact absurd (h.trans hx) h'
      ·exact .inr (.inl ⟨h,h'⟩)
      ·exact .inr (.inr h)
    ·simp at i4 ⊢;omega
    ·intro hf;have:=i5 hf;simp at this ⊢;omega
   ·have e:jK n (false,out) x=(true,out++[n]++[x]):=by simp[jK,hx,hnx]
    rw[e];obtain⟨i1,i2,i3,i4,i5⟩:=jL n r (true,out++[n]++[x]) hl'.2 (QS.2 ⟨QS.2 ⟨hs,h3 rfl⟩,fun p hp=>by
     rcases List.mem_append.1 hp with hp | hp
     ·have:=h3 rfl p hp;omega
     ·simp at hp;omega⟩) (fun p hp y hy=>by
     have:=hl'.1 y hy;simp only[List.mem_append,List.mem_singleton] at hp;rcases hp with(hp | hp) | hp
     ·have:=h3 rfl p hp;left;omega
     ·left;omega
     ·left;omega) (fun _=>by simp) (fun h=>by cases h)
    refine⟨i1,fun m=>?_,i3,?_,?_⟩
    ·rw[i2];simp only[List.mem_append,List.mem_cons,List.not_mem_nil,or_false]
     constructor
     ·rintro(((h | h) | h) | h | h)
      ·exact .inl h
      ·refine .inr (.inr ⟨h,?_⟩)
       cases hb:(r.foldl (jK n) (true,out++[n]++[x])).1 with
       | true=>rfl
       | false=>have:=i3 hb n ((i2 n).2 (.inl (by simp)));omega
      ·exact .inr (.inl ⟨.inl h,fun e=>hx (h.symm.trans e)⟩)
      ·exact .inr (.inl ⟨.inr h.1,h.2⟩)
      ·exact .inr (.inr h)
     ·rintro(h | ⟨h | h,h'⟩ | h)
      ·exact .inl (.inl (.inl h))
      ·exact .inl (.inr h)
      ·exact .inr (.inl ⟨h,h'⟩)
      ·exact .inr (.inr h)
    ·simp at i4 ⊢;omega
    ·intro hf;have:=i5 hf;simp at this ⊢;exfalso;have:=i3 hf n ((i2 n).2 (.inl (by simp)));omega
  ·by_cases hx:x=n
   ·have hd:d=true:=by cases d with | true=>rfl | false=>exact absurd ⟨rfl,by omega⟩ hc
    subst hd;have e:jK n (true,out) x=(true,out):=by simp[jK,hx]
    rw[e];obtain⟨i1,i2,i3,i4,i5⟩:=jL n r (true,out) hl'.2 hs (fun p hp y hy=>h1 p hp y (List.mem_cons_of_mem _ hy)) h2 h3;refine⟨i1,fun m=>?_,i3,?_,?_⟩
    ·rw[i2];simp only[List.mem_cons]
     constructor
     ·rintro(h | h | h)
      ·exact .inl h
      ·exact .inr (.inl ⟨.inr h.1,h.2⟩)
      ·exact .inr (.inr h)
     ·rintro(h | ⟨h | h,h'⟩ | h)
      ·exact .inl h
      ·exact absurd (h.trans hx) h'
      ·exact .inr (.inl ⟨h,h'⟩)
      ·exact .inr (.inr h)
    ·simp at i4 ⊢;omega
    ·intro hf;have:=i5 hf;simp at this ⊢;omega
   ·have e:jK n (d,out) x=(d,out++[x]):=by
     unfold jK;simp only[hc,if_false,hx]
    rw[e];have hlt:d=false->x < n:=fun h=>by
     have:¬ n<=x:=fun h'=>hc ⟨h,h'⟩
     omega
    obtain⟨i1,i2,i3,i4,i5⟩:=jL n r (d,out++[x]) hl'.2 (QS.2 ⟨hs,fun p hp=>by
     rcases h1 p hp x (by simp) with h | h
     ·exact h
     ·omega⟩) (fun p hp y hy=>by
     rcases List.mem_append.1 hp with hp | hp
     ·exact h1 p hp y (List.mem_cons_of_mem _ hy)
     ·simp at hp;have:=hl'.1 y hy;left;omega) (fun h=>List.mem_append_left _ (h2 h)) (fun h p hp=>by
     rcases List.mem_append.1 hp with hp | hp
     ·exact h3 h p hp
     ·simp at hp;rw[hp];exact hlt h)
    refine⟨i1,fun m=>?_,i3,?_,?_⟩
    ·rw[i2];simp only[List.mem_append,List.mem_cons,List.not_mem_nil,or_false]
     constructor
     ·rintro((h | h) | h | h)
      ·exact .inl h
      ·exact .inr (.inl ⟨.inl h,fun e=>hx (h.symm.trans e)⟩)
      ·exact .inr (.inl ⟨.inr h.1,h.2⟩)
      ·exact .inr (.inr h)
     ·rintro(h | ⟨h | h,h'⟩ | h)
      ·exact .inl (.inl h)
      ·exact .inl (.inr h)
      ·exact .inr (.inl ⟨h,h'⟩)
      ·exact .inr (.inr h)
    ·simp at i4 ⊢;omega
    ·intro hf;have:=i5 hf;simp at this ⊢;omega
theorem jx{l:List Int}(h:Up l)(n:Int):Up (putP l n)/\(∀ m,m∈putP l n↔m∈l\/m=n)/\(putP l n).length<=l.length+1:=by
 obtain⟨i1,i2,i3,i4,i5⟩:=jL n l (false,[]) h (by simp[Up]) (by simp) (by simp) (by simp);unfold putP;simp only
 cases hb:(l.foldl (jK n) (false,[])).1 with
 | true=>
  simp only[if_true];refine⟨i1,fun m=>?_,by simpa using i4⟩;rw[i2,hb];simp only[List.not_mem_nil,false_or,and_true]
  constructor
  ·rintro(h | h)
   ·exact .inl h.1
   ·exact .inr h
  ·rintro(h | h)
   ·by_cases e:m=n
    ·exact .inr e
    ·exact .inl ⟨h,e⟩
   ·exact .inr h
 | false=>
  have:=i5 hb;rw[if_neg (by simp)];refine⟨QS.2 ⟨i1,i3 hb⟩,fun m=>?_,by simp at this ⊢;omega⟩;simp only[List.mem_append,List.mem_singleton,i2,hb,List.not_mem_nil,false_or]
  constructor
  ·rintro((h | h) | h)
   ·exact .inl h.1
   ·cases h.2
   ·exact .inr h
  ·rintro(h | h)
   ·by_cases e:m=n
    ·exact .inr e
    ·exact .inl (.inl ⟨h,e⟩)
   ·exact .inr h
def ptS(out:List Int)(x:RN):List Int:=if WG x then putP (putP out x.lo) (x.hi+1) else out
def yga(l:List RN):List Int:=l.foldl ptS []
theorem yha : ∀ (l:List RN) (out:List Int),Up out->Up (l.foldl ptS out)/\(∀ m,m∈l.foldl ptS out↔m∈out\/∃ x∈l,WG x=true/\(m=x.lo\/m=x.hi+1))/\(l.foldl ptS out).length<=out.length+2*l.length
 | [],out,h=>⟨h,fun m=>by simp,by simp⟩
 | x::r,out,h=>by
  rw[List.foldl_cons];obtain⟨j1,j2,j3⟩:=jx h x.lo;obtain⟨k1,k2,k3⟩:=jx j1 (x.hi+1)
  by_cases hm:WG x=true
  ·have e:ptS out x=putP (putP out x.lo) (x.hi+1):=by simp[ptS,hm]
   rw[e];obtain⟨i1,i2,i3⟩:=yha r _ k1;refine⟨i1,fun m=>?_,by simp;omega⟩;rw[i2,k2,j2]
   constructor
   ·rintro(((h | h) | h) | ⟨y,h1,h2⟩)
    ·exact .inl h
    ·exact .inr ⟨x,by simp,hm,.inl h⟩
    ·exact .inr ⟨x,by simp,hm,.inr h⟩
    ·exact .inr ⟨y,by simp[h1],h2⟩
   ·rintro(h | ⟨y,h1,h2,h3⟩)
    ·exact .inl (.inl (.inl h))
    ·rcases List.mem_cons.1 h1 with rfl | h1
     ·rcases h3 with h3 | h3
      ·exact .inl (.inl (.inr h3))
      ·exact .inl (.inr h3)
     ·exact .inr ⟨y,h1,h2,h3⟩
  ·have e:ptS out x=out:=by simp[ptS,hm]
   rw[e];obtain⟨i1,i2,i3⟩:=yha r _ h;refine⟨i1,fun m=>?_,by simp;omega⟩;rw[i2]
   constructor
   ·rintro(h | ⟨y,h1,h2⟩)
    ·exact .inl h
    ·exact .inr ⟨y,by simp[h1],h2⟩
   ·rintro(h | ⟨y,h1,h2,h3⟩)
    ·exact .inl h
    ·rcases List.mem_cons.1 h1 with rfl | h1
     ·exact absurd h2 hm
     ·exact .inr ⟨y,h1,h2,h3⟩
theorem zla(l:List RN):Up (yga l)/\(∀ m,m∈yga l↔∃ x∈l,WG x=true/\(m=x.lo\/m=x.hi+1))/\(yga l).length<=2*l.length:=by
 obtain⟨h1,h2,h3⟩:=yha l [] (by simp[Up]);exact⟨h1,fun m=>by rw[yga,h2];simp,by simpa[yga] using h3⟩
def uMa(out:List RN)(p:Int)(z:RN->RN)(x:RN):List RN:=match out.getLast? with
 | some y=>if y.hi+1=p then out.dropLast++[z y] else out++[x]
 | none=>out++[x]
def uNa(op:Bool->Bool->Bool)(a b:List RN)(out:List RN)(pq:Int×Int):List RN:=
 if op (wA a pq.1) (wA b pq.1) then uMa out pq.1 (fun y=>⟨y.lo,pq.2 - 1⟩) ⟨pq.1,pq.2 - 1⟩ else out
def vr(l:List Int):List (Int×Int):=l.zip l.tail
def Vb(op:Bool->Bool->Bool)(a b:List RN):List RN:=(vr (yga (a++b))).foldl (uNa op a b) []
theorem ZVa(p:Int)(z:RN->RN)(x:RN):uMa [] p z x=[x]:=rfl
theorem QT(l:List RN)(y:RN)(p:Int)(z:RN->RN)(x:RN):uMa (l++[y]) p z x=if y.hi+1=p then l++[z y] else l++[y]++[x]:=by simp[uMa]
theorem xm{α:Type}(l:List α):l=[]\/∃ r y,l=r++[y]:=by
 rcases List.eq_nil_or_concat l with h | ⟨r,y,h⟩
 ·exact .inl h
 ·exact .inr ⟨r,y,by simpa using h⟩
theorem yia(op:Bool->Bool->Bool)(a b:List RN):∀ (P:List Int) (p:Int) (out:List RN),Up (p::P)->(∀ q∈p::P,1<=q/\q<=281474976710656)->Nf out->(∀ y∈out,y.hi < p) ->
  Nf ((vr (p::P)).foldl (uNa op a b) out)/\(∀ n,wA ((vr (p::P)).foldl (uNa op a b) out) n=true↔wA out n=true\/∃ pq∈vr (p::P),pq.1<=n/\n < pq.2/\op (wA a pq.1) (wA b pq.1)=true)/\((vr (p::P)).foldl (uNa op a b) out).length<=out.length+P.length
 | [],p,out,_,_,h,_=>by simp[vr,h]
 | q::P,p,out,hu,hr,h,hy=>by
  have e:vr (p::q::P)=(p,q)::vr (q::P):=rfl;rw[e,List.foldl_cons];have hu':=List.pairwise_cons.1 hu;have hpq:p < q:=hu'.1 q (by simp);have hp:=hr p (by simp);have hq:=hr q (by simp);have step:Nf (uNa op a b out (p,q))/\(∀ n,wA (uNa op a b out (p,q)) n=true↔wA out n=true\/(p<=n/\n < q/\op (wA a p) (wA b p)=true))/\(∀ y∈uNa op a b out (p,q),y.hi < q)/\(uNa op a b out (p,q)).length<=out.length+1:=by
   unfold uNa;simp only
   by_cases hop:op (wA a p) (wA b p)=true
   ·rw[if_pos hop];rcases xm out with rfl | ⟨l,y,rfl⟩
    ·rw[ZVa];have hm:WG (⟨p,q - 1⟩:RN)=true:=yN.2 ⟨hp.1,by simp only;omega,by simp only;omega⟩;refine⟨⟨hm,by simp,trivial⟩,fun n=>?_,fun y hy=>?_,by simp⟩
     ·rw[Yp,ZQ];have:=yN.1 hm;simp only at this ⊢;simp only[uKa,Bool.false_eq_true,false_or,hop,and_true];omega
     ·simp at hy;subst hy;simp only;omega
    ·rw[QT];obtain⟨n1,n2,n3⟩:=Wn.1 h;have hym:=yN.1 n2;have hyp:=hy y (by simp)
     by_cases hadj:y.hi+1=p
     ·rw[if_pos hadj];have hm:WG (⟨y.lo,q - 1⟩:RN)=true:=yN.2 ⟨hym.1,by simp only;omega,by simp only;omega⟩;refine⟨Wn.2 ⟨n1,hm,n3⟩,fun n=>?_,fun z hz=>?_,by simp⟩
      ·rw[Yo,Yo,Yp,Yp,Bool.or_eq_true,Bool.or_eq_true,ZQ,ZQ];have:=yN.1 hm;simp only at this ⊢;simp only[hop,and_true]
       constructor
       ·rintro(h | h)
        ·exact .inl (.inl h)
        ·by_cases hc:n<=y.hi
         ·exact .inl (.inr ⟨hym,h.2.1,hc⟩)
         ·right;omega
       ·rintro((h | h) | h)
        ·exact .inl h
        ·right;omega
        ·right;omega
      ·rcases List.mem_append.1 hz with hz | hz
       ·have:=hy z (by simp[hz]);omega
       ·simp at hz;subst hz;simp only;omega
     ·rw[if_neg hadj];have hm:WG (⟨p,q - 1⟩:RN)=true:=yN.2 ⟨hp.1,by simp only;omega,by simp only;omega⟩;refine⟨Wn.2 ⟨h,hm,fun z hz=>?_⟩,fun n=>?_,fun z hz=>?_,by simp⟩
      ·simp only;rcases List.mem_append.1 hz with hz | hz
       ·have:=n3 z hz;omega
       ·simp at hz;subst hz;omega
      ·rw[Yo (l++[y]),Yp,Bool.or_eq_true,ZQ];have:=yN.1 hm;simp only at this ⊢;simp only[hop,and_true]
       constructor
       ·rintro(h | h)
        ·exact .inl h
        ·right;omega
       ·rintro(h | h)
        ·exact .inl h
        ·right;omega
      ·rcases List.mem_append.1 hz with hz | hz
       ·have:=hy z hz;omega
       ·simp at hz;subst hz;simp only;omega
   ·rw[if_neg hop];refine⟨h,fun n=>?_,fun y hy'=>by have:=hy y hy';omega,by omega⟩;exact⟨fun h=>.inl h,fun h=>h.elim id fun h=>absurd h.2.2 hop⟩
  obtain⟨s1,s2,s3,s4⟩:=step;obtain⟨i1,i2,i3⟩:=yia op a b P q _ hu'.2 (fun z hz=>hr z (List.mem_cons_of_mem _ hz)) s1 s3;refine⟨i1,fun n=>?_,by simp;omega⟩;rw[i2,s2];simp only[List.mem_cons,exists_eq_or_imp]
  constructor
  ·rintro((h | h) | h)
   ·exact .inl h
   ·exact .inr (.inl h)
   ·exact .inr (.inr h)
  ·rintro(h | h | h)
   ·exact .inl (.inl h)
   ·exact .inl (.inr h)
   ·exact .inr h
theorem jy : ∀ {P:List Int},Up P->∀ pq∈vr P,pq.1∈P/\pq.2∈P/\pq.1 < pq.2/\∀ m∈P,m<=pq.1\/pq.2<=m
 | [],_,pq,h=>by simp[vr] at h
 | [p],_,pq,h=>by simp[vr] at h
 | p::q::P,hu,pq,h=>by
  have e:vr (p::q::P)=(p,q)::vr (q::P):=rfl;rw[e] at h;have hu':=List.pairwise_cons.1 hu;rcases List.mem_cons.1 h with rfl | h
  ·refine⟨by simp,by simp,hu'.1 q (by simp),fun m hm=>?_⟩;rcases List.mem_cons.1 hm with rfl | hm
   ·simp
   ·right
    rcases List.mem_cons.1 hm with rfl | hm
    ·simp
    ·have:=(List.pairwise_cons.1 hu'.2).1 m hm;simp only;omega
  ·obtain⟨h1,h2,h3,h4⟩:=jy hu'.2 pq h;refine⟨List.mem_cons_of_mem _ h1,List.mem_cons_of_mem _ h2,h3,fun m hm=>?_⟩;rcases List.mem_cons.1 hm with rfl | hm
   ·left;have:=hu'.1 _ h1;omega
   ·exact h4 m hm
theorem zma : ∀ {P:List Int},Up P->∀ {u v n:Int},u∈P->v∈P->u<=n->n < v->∃ pq∈vr P,pq.1<=n/\n < pq.2
 | [],_,_,_,_,h,_,_,_=>by simp at h
 | [p],_,u,v,n,h1,h2,h3,h4=>by simp at h1 h2;omega
 | p::q::P,hu,u,v,n,h1,h2,h3,h4=>by
  have e:vr (p::q::P)=(p,q)::vr (q::P):=rfl;have hu':=List.pairwise_cons.1 hu
  by_cases hc:n < q
  ·refine⟨(p,q),by rw[e];simp,?_,hc⟩;rcases List.mem_cons.1 h1 with rfl | h1
   ·exact h3
   ·have:q<=u:=by
     rcases List.mem_cons.1 h1 with rfl | h1
     ·omega
     ·have:=(List.pairwise_cons.1 hu'.2).1 u h1;omega
    simp only;omega
  ·have hv:v∈q::P:=by
    rcases List.mem_cons.1 h2 with rfl | h2
    ·have:=hu'.1 q (by simp);omega
    ·exact h2
   obtain⟨pq,h5,h6⟩:=zma hu'.2 (u:=q) (by simp) hv (by omega) h4;exact⟨pq,by rw[e];exact List.mem_cons_of_mem _ h5,h6⟩
theorem Yta(P:List Int):(vr P).length=P.length - 1:=by simp[vr]
theorem Xu{l:List RN}{P:List Int}(hP:∀ x∈l,WG x=true->x.lo∈P/\x.hi+1∈P){p q n:Int}(h1:∀ m∈P,m<=p\/q<=m)(h2:p<=n)(h3:n < q):wA l n=wA l p:=by
 rw[Bool.eq_iff_iff,vP,vP]
 constructor
 ·rintro⟨x,hx,hm,h4,h5⟩;obtain⟨h6,h7⟩:=hP x hx hm;have:=h1 _ h6;have:=h1 _ h7;exact⟨x,hx,hm,by omega,by omega⟩
 ·rintro⟨x,hx,hm,h4,h5⟩;obtain⟨h6,h7⟩:=hP x hx hm;have:=h1 _ h6;have:=h1 _ h7;exact⟨x,hx,hm,by omega,by omega⟩
theorem xJ(op:Bool->Bool->Bool)(h0:op false false=false)(a b:List RN):Nf (Vb op a b)/\(∀ n,wA (Vb op a b) n=op (wA a n) (wA b n))/\(Vb op a b).length<=2*(a.length+b.length):=by
 obtain⟨p1,p2,p3⟩:=zla (a++b);have hrange:∀ q∈yga (a++b),1<=q/\q<=281474976710656:=fun q hq=>by
  obtain⟨x,_,h2,h3⟩:=(p2 q).1 hq;have:=yN.1 h2;omega
 have main:Nf (Vb op a b)/\(∀ n,wA (Vb op a b) n=true↔∃ pq∈vr (yga (a++b)),pq.1<=n/\n < pq.2/\op (wA a pq.1) (wA b pq.1)=true)/\(Vb op a b).length<=(yga (a++b)).length:=by
  unfold Vb
  generalize hP:yga (a++b)=P at p1 hrange
  cases P with
  | nil=>simp[vr,Nf]
  | cons p P=>
   obtain⟨i1,i2,i3⟩:=yia op a b P p [] p1 hrange trivial (by simp);exact⟨i1,fun n=>by rw[i2];simp,by simp at i3 ⊢;omega⟩
 obtain⟨m1,m2,m3⟩:=main;refine⟨m1,fun n=>?_,by simp at p3;omega⟩;have hPa:∀ x∈a,WG x=true->x.lo∈yga (a++b)/\x.hi+1∈yga (a++b):=fun x hx hm=>⟨(p2 _).2 ⟨x,by simp[hx],hm,.inl rfl⟩,(p2 _).2 ⟨x,by simp[hx],hm,.inr rfl⟩⟩
 have hPb:∀ x∈b,WG x=true->x.lo∈yga (a++b)/\x.hi+1∈yga (a++b):=fun x hx hm=>⟨(p2 _).2 ⟨x,by simp[hx],hm,.inl rfl⟩,(p2 _).2 ⟨x,by simp[hx],hm,.inr rfl⟩⟩
 rw[Bool.eq_iff_iff,m2]
 constructor
 ·rintro⟨pq,h1,h2,h3,h4⟩;obtain⟨_,_,_,h5⟩:=jy p1 pq h1
  rwa [Xu hPa h5 h2 h3,Xu hPb h5 h2 h3]
 ·intro h;have hex:∃ u∈yga (a++b),∃ v∈yga (a++b),u<=n/\n < v:=by
   cases ha:wA a n with
   | true=>
    obtain⟨x,h1,h2,h3,h4⟩:=vP.1 ha;exact⟨_,(hPa x h1 h2).1,_,(hPa x h1 h2).2,h3,by omega⟩
   | false=>
    cases hb:wA b n with
    | true=>
     obtain⟨x,h1,h2,h3,h4⟩:=vP.1 hb;exact⟨_,(hPb x h1 h2).1,_,(hPb x h1 h2).2,h3,by omega⟩
    | false=>rw[ha,hb,h0] at h;cases h
  obtain⟨u,hu,v,hv,h1,h2⟩:=hex;obtain⟨pq,h3,h4,h5⟩:=zma p1 hu hv h1 h2;obtain⟨_,_,_,h6⟩:=jy p1 pq h3;exact⟨pq,h3,h4,h5,by rwa [<- Xu hPa h6 h4 h5,<- Xu hPb h6 h4 h5]⟩
def nrm(l:List RN):List RN:=Vb (·||·) l []
theorem QU(l:List RN):Nf (nrm l):=(xJ _ rfl l []).1
theorem YV(l:List RN)(n:Int):wA (nrm l) n=wA l n:=by rw[nrm,(xJ _ rfl l []).2.1];simp
theorem US(l:List RN):(nrm l).length<=2*l.length:=by
 have:=(xJ (·||·) rfl l []).2.2;rw[List.length_nil,Nat.add_zero] at this;exact this
theorem nrm_of{l r:List RN}(h:Nf r)(h2:∀ n,wA r n=wA l n):r=nrm l:=zka h (QU l) fun n=>by rw[h2,YV]
theorem uOa{l:List RN}(h:Nf l):nrm l=l:=(nrm_of h fun _=>rfl).symm
theorem Yua(x y:RN):(decide (x.lo=y.lo)&&decide (x.hi=y.hi))=decide (x=y):=by
 rw[Bool.eq_iff_iff]
 cases x;cases y
 simp
theorem eqLoop{body:Int->M (Step Int (Ex Unit Bool))}(a b:List RN)(hl:a.length=b.length)(hn:a.length<=1000000000000)
  (hb:∀ i:Int,body i=cond (decide (i < (a.length:Int))) (M.bind (M.idx a i) fun x=>M.bind (M.idx b i) fun y=>cond (!(decide (x.lo=y.lo)&&decide (x.hi=y.hi))) (M.pure (.done (.ret false))) (M.pure (.next (IntKind.i64.wrap (i+1))))) (M.pure (.done (.brk ())))) :
  M.bind (M.loop body 0) (M.exk fun _=>M.pure true)=pure (decide (a=b)):=by
 have:=vq (body:=body) a (fun i=>(i:Int)) (fun i x=>decide (b[i]?=some x)) (.brk ()) (.ret false) (fun i x hx hi=>by
  have hb':i < b.length:=by omega
  rw[hb,zR hx,zR (List.getElem?_eq_getElem hb'),yM (by omega)];simp only[zA,List.getElem?_eq_getElem hb',Option.some.injEq,Yua];have:decide ((i:Int) < (a.length:Int))=true:=by simpa using hi
  rw[this,cond_true]
  by_cases he:b[i]=x
  ·subst he;simp
  ·rw[if_neg (by simpa using he)];have:decide (x=b[i])=false:=by simpa using fun h=>he h.symm
   rw[this];rfl) (by rw[hb];simp)
 rw[show(0:Int)=((0:Nat):Int) from rfl,this]
 by_cases he:a=b
 ·subst he;rw[if_pos]
  ·simp[zA,ZH]
  ·rw[List.all_eq_true];intro ⟨x,i⟩ hx;rw[List.mk_mem_zipIdx_iff_getElem?] at hx;simpa using hx
 ·rw[if_neg]
  ·simp[he,zA,qh]
  ·intro hall;rw[List.all_eq_true] at hall;apply he;apply List.ext_getElem (by omega);intro i h1 h2;have:=hall (a[i],i) (by rw[List.mk_mem_zipIdx_iff_getElem?];exact List.getElem?_eq_getElem h1);simp[h2] at this;exact this.symm
theorem req_eq(a b:List RN)(h:a.length<=1000000000000):v9a a b=pure (decide (a=b)):=by
 unfold v9a
 by_cases hl:(a.length:Int)=b.length
 ·simp only[hl,decide_true,Bool.not_true,cond_false];exact eqLoop a b (by omega) h fun i=>rfl
 ·have hne:a≠b:=fun e=>hl (by rw[e])
  simp[hl,hne]
theorem seq_eq(a b:List RN)(h:a.length<=1000000000000):xS a b=pure (decide (a=b)):=by
 unfold xS
 by_cases hl:(a.length:Int)=b.length
 ·simp only[hl,decide_true,Bool.not_true,cond_false];exact eqLoop a b (by omega) h fun i=>rfl
 ·have hne:a≠b:=fun e=>hl (by rw[e])
  simp[hl,hne]
theorem Yva(x:RN):qz x=pure (WG x):=by
 unfold qz;rw[yP,yP,zA]
 rfl
theorem vKa(l:List RN)(n:Int)(h:l.length<=1000000000000):jf l n=pure (wA l n):=by
 unfold jf;have:=vq (body:=VJ l n) l (fun i=>(i:Int)) (fun _ x=>!inR n x) (.brk ()) (.ret true) (fun i x hx hi=>by
  unfold VJ;have h1:decide ((i:Int) < (l.length:Int))=true:=by simpa using hi
  simp only[h1,cond_true,zR hx,zA,Yva,zB,yM (show i < 9223372036854775807 by omega),yP];unfold inR
  cases WG x <;> cases decide (x.lo<=n) <;> cases decide (n<=x.hi) <;> rfl) (by unfold VJ;simp)
 rw[show(0:Int)=((0:Nat):Int) from rfl,this,zA];have e:l.zipIdx.all (fun y=>!inR n y.1)=!wA l n:=by
  unfold wA;rw[Bool.eq_iff_iff];simp only[List.all_eq_true,Bool.not_eq_true',List.any_eq_false]
  constructor
  ·intro h x hx;obtain⟨i,hi,he⟩:=List.getElem_of_mem hx;have:=h (x,i) (by rw[List.mk_mem_zipIdx_iff_getElem?];rw[List.getElem?_eq_getElem hi,he]);simpa using this
  ·intro h y hy;have:=List.fst_mem_of_mem_zipIdx hy;have:=h _ this;simpa using this
 simp only[e]
 cases wA l n <;> rfl
theorem Ywa(l:List Int)(n:Int)(h:l.length<=100000000000):QA l n=pure (putP l n):=by
 unfold QA;have:=XP (body:=VK l n) l (fun i (t:Bool×List Int)=>(t.1,(i:Int),t.2)) (jK n) (fun t=>pure t) (fun i t=>t.2.length<=2*i) (fun i x t hx hi hI=>by
  obtain⟨d,out⟩:=t;simp only at hI;have h1:decide ((i:Int) < (l.length:Int))=true:=by simpa using hi
  refine⟨?_,?_⟩
  ·unfold VK jK;simp only[h1,cond_true,zR hx,zA,yM (show i < 9223372036854775807 by omega)]
   cases d with
   | true=>
    by_cases hc:x=n
    ·simp[hc,zA]
    ·simp only[Bool.not_true,cond_false,zA,hc,decide_false,Bool.not_false,cond_true,if_false];rw[zJ (by simp;omega)];simp[zA]
   | false=>
    by_cases hc1:n<=x
    ·simp only[Bool.not_false,cond_true,zA,hc1,decide_true];rw[zJ (by simp;omega),zA]
     by_cases hc:x=n
     ·simp[hc,zA]
     ·simp only[hc,decide_false,Bool.not_false,cond_true];rw[zJ (by simp;omega)];simp[zA]
    ·simp only[Bool.not_false,cond_true,zA,hc1,decide_false,cond_false];have hc:x≠n:=by omega
     simp only[hc,decide_false,Bool.not_false,cond_true];rw[zJ (by simp;omega)];simp[zA]
  ·unfold jK;simp only
   split <;> split <;> simp <;> omega) (fun t _=>by unfold VK;simp[zA]) (false,[]) (by simp)
 rw[show((false,(0:Int),([]:List Int)):Bool×Int×List Int)=(false,((0:Nat):Int),[]) from rfl,this,zA];unfold putP;have hlen:(l.foldl (jK n) (false,[])).2.length<=2*l.length:=by
  have:∀ (l:List Int) (s:Bool×List Int),(l.foldl (jK n) s).2.length<=s.2.length+2*l.length:=by
   intro l
   induction l with
   | nil=>intro s;simp
   | cons x r ih=>
    intro s;rw[List.foldl_cons];have:=ih (jK n s x);have h2:(jK n s x).2.length<=s.2.length+2:=by
     unfold jK;simp only
     split <;> split <;> simp
    simp;omega
  simpa using this l (false,[])
 generalize l.foldl (jK n) (false,[])=t at hlen
 obtain⟨d,out⟩:=t
 cases d with
 | true=>rfl
 | false=>
  simp only[Bool.not_false,cond_true];rw[zJ (by simp at hlen ⊢;omega)]
  rfl
theorem rpts_eq(a b:List RN)(h:a.length+b.length<=10000000000):VL a b=pure (yga (a++b)):=by
 unfold VL;rw[zJ (by simp;omega),zJ (by simp;omega)];have hup:∀ i,Up (((a++b).take i).foldl ptS [])/\(((a++b).take i).foldl ptS []).length<=2*(a++b).length:=fun i=>by
  obtain⟨h1,_,h3⟩:=yha ((a++b).take i) [] (by simp[Up]);refine⟨h1,?_⟩;have:((a++b).take i).length<=(a++b).length:=by simp;omega
  simp only[List.length_nil,Nat.zero_add] at h3;omega
 have:=XP (body:=Zc a b) (a++b) (fun i (t:List Int)=>(t,(i:Int))) ptS (fun t=>pure t) (fun i t=>t=((a++b).take i).foldl ptS []) (fun i x t hx hi hI=>by
  have h1:decide ((i:Int) < ((a++b).length:Int))=true:=decide_eq_true (by omega);have hlen:(a++b).length<=10000000000:=by simp;omega
  obtain⟨u1,u2⟩:=hup i;rw[<- hI] at u1 u2;refine⟨?_,?_⟩
  ·unfold Zc ptS;simp only[List.nil_append,h1,cond_true,zR hx,zA,yM (show i < 9223372036854775807 by omega),Yva,zB]
   cases hm:WG x with
   | false=>simp[zA]
   | true=>
    have hm':=yN.1 hm;have hp:=jx u1 x.lo;rw[cond_true,Ywa _ _ (by omega),zB,zA,uW (by omega) (by omega),Ywa _ _ (by omega),zB];simp[zA]
  ·rw[List.take_add_one,hx];simp[hI]) (fun t _=>by unfold Zc;simp[zA]) [] (by simp)
 rw[show(([]:List Int),(0:Int))=([],((0:Nat):Int)) from rfl,this];simp only[zA]
 rfl
theorem xma{P:List Int}{i:Nat}{pq:Int×Int}(h:(vr P)[i]?=some pq):P[i]?=some pq.1/\P[i+1]?=some pq.2:=by
 unfold vr at h;rw[List.getElem?_zip_eq_some] at h;obtain⟨h1,h2⟩:=h;rw[List.getElem?_tail] at h2;exact⟨h1,h2⟩
theorem QV(op:Bool->Bool->Bool)(how:Int)(hop:∀ x y,op x y=if how=2 then (x&&!y) else if how=1 then (x&&y) else (x||y))(_h0:op false false=false)(a b:List RN)(h:a.length+b.length<=10000000000):jg a b how=pure (Vb op a b):=by
 unfold jg;rw[rpts_eq a b h,zB,zA];obtain⟨p1,p2,p3⟩:=zla (a++b);have hrange:∀ q∈yga (a++b),1<=q/\q<=281474976710656:=fun q hq=>by
  obtain⟨x,_,h2,h3⟩:=(p2 q).1 hq;have:=yN.1 h2;omega
 unfold Vb
 generalize yga (a++b)=P at p1 hrange p3
 simp only[List.length_append] at p3;have hinv:∀ i,i<=(vr P).length->Nf (((vr P).take i).foldl (uNa op a b) [])/\(((vr P).take i).foldl (uNa op a b) []).length<=P.length:=fun i hi=>by
  cases P with
  | nil=>simp[vr,Nf]
  | cons p P=>
   have key:(vr (p::P)).take i=vr (p::P.take i):=by
    unfold vr;simp only[List.tail_cons];clear hi p1 hrange p3
    induction i generalizing p P with
    | zero=>simp
    | succ i ih=>
     cases P with
     | nil=>simp
     | cons q P=>
      simp only[List.zip_cons_cons,List.take_succ_cons];rw[ih q P]
   rw[key];have hsub:(p::P.take i).Sublist (p::P):=List.Sublist.cons_cons _ (List.take_sublist _ _);obtain⟨i1,_,i3⟩:=yia op a b (P.take i) p [] (List.Pairwise.sublist hsub p1) (fun q hq=>hrange q (hsub.subset hq)) trivial (by simp);refine⟨i1,?_⟩;simp at i3 ⊢;omega
 have:=XP (body:=VM P a b how) (vr P) (fun i (t:List RN)=>((i:Int),t)) (uNa op a b) (fun t=>pure t) (fun i t=>i<=(vr P).length/\t=((vr P).take i).foldl (uNa op a b) []) (fun i pq t hx hi hI=>by
  obtain⟨hI1,hI⟩:=hI;obtain⟨g1,g2⟩:=xma hx;have hlt:i+1 < P.length:=(List.getElem?_eq_some_iff.1 g2).1;have hPl:P.length<=20000000000:=by omega
  have h1:decide (((i+1:Nat):Int) < (P.length:Int))=true:=by rw[decide_eq_true_eq];omega
  obtain⟨v1,v2⟩:=hinv i hI1;rw[<- hI] at v1 v2;refine⟨?_,by omega,by rw[List.take_add_one,hx];simp[hI]⟩;unfold VM uNa;have e2:idx P ((i+1:Nat):Int)=pure pq.2:=zR g2;have hq:=hrange pq.2 (List.mem_of_getElem? g2);simp only[yM (show i < 9223372036854775807 by omega),h1,cond_true,zR g1,e2,zA,vKa a pq.1 (by omega),vKa b pq.1 (by omega),zB];rw[hop];have hin:∀ (x y:Bool),(M.bind (cond x (M.pure true) (M.pure y)) fun in97=>M.bind (cond (decide (how=1)) (M.bind (cond x (M.pure y) (M.pure false)) fun in101=>M.pure in101) (M.pure in97)) fun in99=>cond (decide (how=2)) (M.bind (cond x (M.pure (!y)) (M.pure false)) fun in105=>M.pure in105) (M.pure in99))=pure (if how=2 then (x&&!y) else if how=1 then (x&&y) else (x||y)):=by
   intro x y
   by_cases c2:how=2
   ·subst c2;cases x <;> cases y <;> rfl
   ·by_cases c1:how=1
    ·subst c1;cases x <;> cases y <;> rfl
    ·simp only[c1,c2,decide_false,cond_false,if_false]
     cases x <;> cases y <;> rfl
  have hin':=hin (wA a pq.1) (wA b pq.1)
  generalize (if how=2 then (wA a pq.1&&!wA b pq.1) else if how=1 then (wA a pq.1&&wA b pq.1) else (wA a pq.1||wA b pq.1))=inn at hin'
  -- the three steps are one
  have assoc:∀ (K:Bool->M (List RN)),(M.bind (cond (wA a pq.1) (M.pure true) (M.pure (wA b pq.1))) fun in97=>M.bind (cond (decide (how=1)) (M.bind (cond (wA a pq.1) (M.pure (wA b pq.1)) (M.pure false)) fun in101=>M.pure in101) (M.pure in97)) fun in99=>M.bind (cond (decide (how=2)) (M.bind (cond (wA a pq.1) (M.pure (!wA b pq.1)) (M.pure false)) fun in105=>M.pure in105) (M.pure in99)) K)=K inn:=by
   intro K;have:=congrArg (fun m=>M.bind m K) hin';exact this
  rw[assoc]
  cases inn with
  | false=>rfl
  | true=>
   simp only[cond_true,if_true];rcases xm t with rfl | ⟨l,y,rfl⟩
   ·have e:decide ((0:Int)<=IntKind.i64.wrap (((([]:List RN).length:Nat):Int) - 1))=false:=by
     rw[uV (by simp) (by simp)];simp
    rw[e];simp only[cond_false,zA];rw[zJ (by simp),uW (by omega) (by omega)]
    rfl
   ·have hy:=(Wn.1 v1).2.1;have hym:=yN.1 hy;have e0:IntKind.i64.wrap ((((l++[y]).length:Nat):Int) - 1)=(l.length:Int):=by
     simp only[List.length_append,List.length_singleton] at v2 ⊢;rw[uV (by omega) (by omega)];omega
    have e1:idx (l++[y]) (l.length:Int)=pure y:=zR (by simp);have e3:decide ((0:Int)<=(l.length:Int))=true:=by simp
    rw[e0,e3];simp only[cond_true,e1,zA,uW (show 0<=y.hi+1 by omega) (by omega),uW (show 0<=pq.2 - 1 by omega) (by omega)];rw[QT]
    by_cases hc:y.hi+1=pq.1
    ·simp only[hc,decide_true,cond_true,if_true,Int.toNat_natCast];have:(l++[y]).set l.length (⟨y.lo,pq.2 - 1⟩:RN)=l++[⟨y.lo,pq.2 - 1⟩]:=by simp
     rw[this]
     rfl
    ·simp only[hc,decide_false,cond_false,if_false];rw[zJ (by simp only[List.length_append,List.length_singleton] at v2 ⊢;omega)]
     rfl) (fun t _=>by
  unfold VM;have e:decide (IntKind.i64.wrap (((vr P).length:Int)+1) < (P.length:Int))=false:=by
   rw[Yta,uV (by omega) (by omega)];simp;omega
  simp only[e,cond_false,zA]) [] ⟨Nat.zero_le _,by simp⟩
 rw[show((0:Int),([]:List RN))=(((0:Nat):Int),[]) from rfl,this];simp only[zA]
theorem uPa(a b:List RN)(h:a.length+b.length<=10000000000):Us a b=pure (Vb (·||·) a b):=by
 unfold Us;rw[QV (·||·) 0 (fun x y=>by simp) rfl a b h,zB,zA]
theorem rmeet_eq(a b:List RN)(h:a.length+b.length<=10000000000):Jr a b=pure (Vb (·&&·) a b):=by
 unfold Jr;rw[QV (·&&·) 1 (fun x y=>by simp) rfl a b h,zB,zA]
theorem Yxa(a b:List RN)(h:a.length+b.length<=10000000000):Ut a b=pure (Vb (fun x y=>x&&!y) a b):=by
 unfold Ut;rw[QV (fun x y=>x&&!y) 2 (fun x y=>by simp) rfl a b h,zB,zA]
def xna(out:List RN)(x:RN):List RN:=match out.getLast? with
 | some y=>if x.lo<=y.hi+1 then out.dropLast++[⟨y.lo,max y.hi x.hi⟩] else out++[x]
 | none=>out++[x]
theorem yja(x:RN):xna [] x=[x]:=rfl
theorem QW(l:List RN)(y x:RN):xna (l++[y]) x=if x.lo<=y.hi+1 then l++[⟨y.lo,max y.hi x.hi⟩] else l++[y]++[x]:=by simp[xna]
theorem ZWa{out:List RN}{x:RN}(h:Nf out)(hx:WG x=true)(hlo:∀ y∈out,y.lo<=x.lo):Nf (xna out x)/\(∀ n,wA (xna out x) n=(wA out n||inR n x))/\(∀ y∈xna out x,y.lo<=x.lo)/\(xna out x).length<=out.length+1:=by
 have hxm:=yN.1 hx;rcases xm out with rfl | ⟨l,y,rfl⟩
 ·rw[yja];exact⟨⟨hx,by simp,trivial⟩,fun n=>by rw[Yp];simp,by simp,by simp⟩
 ·rw[QW];obtain⟨n1,n2,n3⟩:=Wn.1 h;have hym:=yN.1 n2;have hyx:=hlo y (by simp)
  by_cases hc:x.lo<=y.hi+1
  ·rw[if_pos hc];have hm:WG (⟨y.lo,max y.hi x.hi⟩:RN)=true:=yN.2 ⟨hym.1,by simp only;omega,by simp only;omega⟩;refine⟨Wn.2 ⟨n1,hm,n3⟩,fun n=>?_,fun z hz=>?_,by simp⟩
   ·rw[Yo,Yo,Yp,Yp,Bool.or_assoc]
    congr 1
    rw[Bool.eq_iff_iff,Bool.or_eq_true,ZQ,ZQ,ZQ];have:=yN.1 hm;simp only at this ⊢;omega
   ·rcases List.mem_append.1 hz with hz | hz
    ·exact hlo z (by simp[hz])
    ·simp at hz;subst hz;exact hyx
  ·rw[if_neg hc];refine⟨Wn.2 ⟨h,hx,fun z hz=>?_⟩,fun n=>by rw[Yo (l++[y]),Yp],fun z hz=>?_,by simp⟩
   ·rcases List.mem_append.1 hz with hz | hz
    ·have:=n3 z hz;omega
    ·simp at hz;subst hz;omega
   ·rcases List.mem_append.1 hz with hz | hz
    ·exact hlo z hz
    ·simp at hz;subst hz;exact Int.le_refl _
theorem QX : ∀ (s out:List RN),Nf out->(∀ x∈s,WG x=true)->s.Pairwise (fun x y=>x.lo<=y.lo)->(∀ y∈out,∀ x∈s,y.lo<=x.lo)->Nf (s.foldl xna out)/\(∀ n,wA (s.foldl xna out) n=(wA out n||wA s n))/\(s.foldl xna out).length<=out.length+s.length
 | [],out,h,_,_,_=>⟨h,by simp,by simp⟩
 | x::r,out,h,hm,hp,hlo=>by
  obtain⟨a1,a2,a3,a4⟩:=ZWa h (hm x (by simp)) fun y hy=>hlo y hy x (by simp)
  obtain⟨p1,p2⟩:=List.pairwise_cons.1 hp;obtain⟨i1,i2,i3⟩:=QX r _ a1 (fun y hy=>hm y (List.mem_cons_of_mem _ hy)) p2 fun y hy z hz=>by
   have:=a3 y hy;have:=p1 z hz;omega
  refine⟨i1,fun n=>?_,by simp;omega⟩;rw[List.foldl_cons,i2,a2,YU,Bool.or_assoc]
theorem Yya{l:List RN}{Q:List RN->Prop}(h:∀ s,s.Perm l->s.Pairwise (fun x y=>x.lo<=y.lo)->Q s):(srt zLa l).wp Q:=by
 refine⟨⟨l.mergeSort (fun x y=>decide (x.lo<=y.lo)),List.mergeSort_perm _ _,?_⟩,fun s ⟨h1,h2⟩=>h s h1 (h2.imp fun {x y} h=>?_)⟩
 ·refine(List.pairwise_mergeSort (fun a b c h1 h2=>?_) (fun a b=>?_) l).imp fun {x y} h=>?_
  ·simp only[decide_eq_true_eq] at h1 h2 ⊢;omega
  ·simp only[Bool.or_eq_true,decide_eq_true_eq];omega
  ·simp only[decide_eq_true_eq] at h;unfold zLa;simp only[decide_eq_false_iff_not];omega
 ·unfold zLa at h;simp only[decide_eq_false_iff_not] at h;omega
theorem vLa(l:List RN)(h:l.length<=1000000000000):ux l=pure (nrm l):=by
 unfold ux;have h1:=XP (body:=uv l) l (fun i (t:List RN)=>((i:Int),t)) (fun t x=>if WG x then t++[x] else t) (fun t=>pure t) (fun i t=>t.length<=i) (fun i x t hx hi hI=>by
  have h1:decide ((i:Int) < (l.length:Int))=true:=by simpa using hi
  refine⟨?_,by split <;> (try simp only[List.length_append,List.length_singleton]) <;> omega⟩;unfold uv;simp only[h1,cond_true,zR hx,zA,yM (show i < 9223372036854775807 by omega)];have e:(cond (decide (0 < x.lo)) (cond (decide (x.lo<=x.hi)) (M.pure (decide (x.hi<=281474976710655))) (M.pure false)) (M.pure false):M Bool)=pure (WG x):=by
   rw[yP,yP];refine congrArg pure ?_;rw[Bool.eq_iff_iff,yN];simp only[Bool.and_eq_true,decide_eq_true_eq];omega
  rw[e,zA]
  cases hm:WG x with
  | false=>simp[zA]
  | true=>
   rw[cond_true,zJ (by simp;omega)];simp[zA]) (fun t _=>by unfold uv;simp[zA]) [] (by simp)
 have hf:∀ (l t:List RN),l.foldl (fun t x=>if WG x then t++[x] else t) t=t++l.filter WG:=by
  intro l
  induction l with
  | nil=>simp
  | cons x r ih=>
   intro t;rw[List.foldl_cons,ih]
   cases hm:WG x <;> simp[hm]
 rw[hf,List.nil_append] at h1;have h1':loop (uv l) (0,[])=pure (l.filter WG):=h1;have hfl:(l.filter WG).length<=l.length:=List.length_filter_le _ _;rw[h1',zA,zJ (by omega)];refine Zx (Yya fun s hs hp=>?_);have hsl:=hs.length_eq;have hmay:∀ x∈s,WG x=true:=fun x hx=>(List.mem_filter.1 (hs.mem_iff.1 hx)).2
 have hpre:∀ i,Nf ((s.take i).foldl xna [])/\((s.take i).foldl xna []).length<=i/\∀ x,s[i]?=some x->∀ y∈(s.take i).foldl xna [],y.lo<=x.lo:=fun i=>by
  obtain⟨i1,i2,i3⟩:=QX (s.take i) [] trivial (fun x hx=>hmay x (List.mem_of_mem_take hx)) (List.Pairwise.sublist (List.take_sublist _ _) hp) (by simp);refine⟨i1,by simp at i3;omega,fun x hx y hy=>?_⟩;have hmy:=yN.1 (i1.may y hy);have:wA ((s.take i).foldl xna []) y.lo=true:=vP.2 ⟨y,hy,i1.may y hy,by omega,by omega⟩;rw[i2] at this;simp only[uKa,Bool.false_or] at this;obtain⟨z,hz,_,h3,_⟩:=vP.1 this
  -- z is ahead of x; y begins where one of those ahead begins
  have hall:∀ (s out:List RN),(∀ y∈s.foldl xna out,(∃ z∈out,y.lo=z.lo)\/∃ z∈s,y.lo=z.lo):=by
   intro s
   induction s with
   | nil=>intro out y hy;exact .inl ⟨y,hy,rfl⟩
   | cons a r ih=>
    intro out y hy;rcases ih _ y hy with⟨z,hz,e⟩ | ⟨z,hz,e⟩
    ·rcases xm out with rfl | ⟨q,w,rfl⟩
     ·rw[yja] at hz;simp at hz;subst hz;exact .inr ⟨z,by simp,e⟩
     ·rw[QW] at hz
      split at hz
      ·rcases List.mem_append.1 hz with hz | hz
       ·exact .inl ⟨z,by simp[hz],e⟩
       ·simp at hz;subst hz;exact .inl ⟨w,by simp,e⟩
      ·rcases List.mem_append.1 hz with hz | hz
       ·exact .inl ⟨z,hz,e⟩
       ·simp at hz;subst hz;exact .inr ⟨z,by simp,e⟩
    ·exact .inr ⟨z,by simp[hz],e⟩
  rcases hall _ _ y hy with⟨z,hz,_⟩ | ⟨z,hz,e⟩
  ·simp at hz
  ·obtain⟨j,hj,hje⟩:=List.getElem_of_mem hz;have hlt:=(List.getElem?_eq_some_iff.1 hx).1;have hji:j < i:=by simp at hj;omega
   have:=List.pairwise_iff_getElem.1 hp j i (by omega) hlt hji;rw[List.getElem_take] at hje;have hxe:s[i]=x:=by rw[List.getElem?_eq_getElem hlt] at hx;simpa using hx
   rw[hje,hxe] at this;omega
 have h2:=XP (body:=uw (l.filter WG) s) s (fun i (t:List RN)=>((i:Int),t)) xna (fun t=>pure t) (fun i t=>t=(s.take i).foldl xna []) (fun i x t hx hi hI=>by
  obtain⟨v1,v2,v3⟩:=hpre i;have v3:=v3 x hx;rw[<- hI] at v1 v2 v3;have hxm:=yN.1 (hmay x (List.mem_of_getElem? hx));have h1:decide ((i:Int) < ((l.filter WG).length:Int))=true:=by simp;omega
  refine⟨?_,by rw[List.take_add_one,hx];simp[hI]⟩;unfold uw;simp only[h1,cond_true,zR hx,zA,yM (show i < 9223372036854775807 by omega)];rcases xm t with rfl | ⟨q,y,rfl⟩
  ·have e:decide ((0:Int)<=IntKind.i64.wrap (((([]:List RN).length:Nat):Int) - 1))=false:=by
    rw[uV (by simp) (by simp)];simp
   rw[e];simp only[cond_false,zA];rw[zJ (by simp),yja]
   rfl
  ·have hy:=(Wn.1 v1).2.1;have hym:=yN.1 hy;have e0:IntKind.i64.wrap ((((q++[y]).length:Nat):Int) - 1)=(q.length:Int):=by
    simp only[List.length_append,List.length_singleton] at v2 ⊢;rw[uV (by omega) (by omega)];omega
   have e1:idx (q++[y]) (q.length:Int)=pure y:=zR (by simp);have e3:decide ((0:Int)<=(q.length:Int))=true:=by simp
   rw[e0,e3];simp only[cond_true,e1,zA,uW (show 0<=y.hi+1 by omega) (by omega)];rw[QW]
   by_cases hc:x.lo<=y.hi+1
   ·simp only[hc,decide_true,cond_true,if_true,Int.toNat_natCast];have:(q++[y]).set q.length (⟨y.lo,max y.hi x.hi⟩:RN)=q++[⟨y.lo,max y.hi x.hi⟩]:=by simp
    rw[this]
    rfl
   ·simp only[hc,decide_false,cond_false,if_false];rw[zJ (by simp only[List.length_append,List.length_singleton] at v2 ⊢;omega)]
    rfl) (fun t _=>by
  unfold uw;have e:decide ((s.length:Int) < ((l.filter WG).length:Int))=false:=by simp;omega
  simp only[e,cond_false,zA]) [] (by simp)
 show(M.bind (M.loop (uw (l.filter WG) s) (0,[])) fun out38=>M.pure out38).wp (·=nrm l);rw[show((0:Int),([]:List RN))=(((0:Nat):Int),[]) from rfl,h2];obtain⟨i1,i2,_⟩:=QX s [] trivial hmay hp (by simp);exact nrm_of i1 fun n=>by rw[i2,xla hs,vIa];simp
def Vo(nums:List Int):List RN:=nums.map fun n=>⟨n,n⟩
def Yza(x y:Int):Int:=if x < y then -1 else if y < x then 1 else 0
theorem Y0a(x y:Int):xp x y=pure (Yza x y):=by
 unfold xp uB Yza;simp only[decide_true,Bool.not_true,zB,zA,cond_false,wx]
 split
 ·rfl
 ·split <;> rfl
theorem Y1a(x:RN)(n:Int):Zz x n=pure (Yza x.hi n):=by
 unfold Zz;rw[Y0a,zB,zA]
def yka : List RN->Int->Nat
 | [],_=>0
 | x::r,n=>if x.hi < n then yka r n+1 else 0
theorem xoa : ∀ {v:List RN} {n:Int} {c:Nat},c<=v.length->(∀ (k:Nat) (x:RN),k < c->v[k]?=some x->x.hi < n)->(∀ (k:Nat) (x:RN),c<=k->v[k]?=some x->n<=x.hi)->c=yka v n
 | [],n,c,h,_,_=>by simp at h;simp[yka,h]
 | x::r,n,0,_,_,h2=>by
  have:=h2 0 x (by omega) rfl;simp only[yka];rw[if_neg (by omega)]
 | x::r,n,c+1,h,h1,h2=>by
  have:=h1 0 x (by omega) rfl;simp only[yka];rw[if_pos this,<- xoa (v:=r) (n:=n) (c:=c) (by simpa using h) (fun k y hk hy=>h1 (k+1) y (by omega) (by simpa using hy)) (fun k y hk hy=>h2 (k+1) y (by omega) (by simpa using hy))]
theorem Y2a{v:List RN}(h:Nf v):∀ {i j:Nat} {x y:RN},i < j->v[i]?=some x->v[j]?=some y->x.hi < y.hi:=by
 induction v with
 | nil=>intro i j x y _ hx;simp at hx
 | cons z r ih=>
  intro i j x y hij hx hy
  cases j with
  | zero=>omega
  | succ j=>
   have hyr:r[j]?=some y:=by simpa using hy
   have hym:=List.mem_of_getElem? hyr
   cases i with
   | zero=>
    simp at hx;subst hx;have:=h.2.1 y hym;have:=yN.1 (h.2.2.may y hym);omega
   | succ i=>exact ih h.2.2 (show i < j by omega) (by simpa using hx) hyr
theorem bs_loop(v:List RN)(n:Int)(hv:Nf v)(hl:v.length<=1000000000000):loop (zo v n) (0,(v.length:Int))=pure (yka v n:Int):=by
 refine Zx (loop_inv (fun s=>∃ i j:Nat,s=((i:Int),(j:Int))/\i<=j/\j<=v.length/\(∀ (k:Nat) (x:RN),k < i->v[k]?=some x->x.hi < n)/\(∀ (k:Nat) (x:RN),j<=k->v[k]?=some x->n<=x.hi)) (fun s=>(s.2 - s.1).toNat) ?_ _ ⟨0,v.length,rfl,Nat.zero_le _,Nat.le_refl _,fun k x hk=>absurd hk (Nat.not_lt_zero _),fun k x hk hx=>absurd (List.getElem?_eq_some_iff.1 hx).1 (Nat.not_lt.2 hk)⟩);rintro _ ⟨i,j,rfl,hij,hj,h1,h2⟩;unfold zo;simp only[wx]
 by_cases hc:(i:Int) < j
 ·rw[if_pos hc];have e:IntKind.i64.wrap (Int.fdiv (IntKind.u64.wrap (IntKind.i64.wrap ((i:Int)+j))) (2 ^ 1))=(((i+j) / 2:Nat):Int):=by
   rw[uV (n:=(i:Int)+j) (by omega) (by omega),uW (by omega) (by omega),Int.fdiv_eq_ediv_of_nonneg _ (by decide)];have:((i:Int)+j) / 2 ^ 1=(((i+j) / 2:Nat):Int):=by omega
   rw[this,uV (by omega) (by omega)]
  have hm:(i+j) / 2 < v.length:=by omega
  rw[e];simp only[zR (List.getElem?_eq_getElem hm),zA,Y1a,zB,yM (show(i+j) / 2 < 9223372036854775807 by omega)]
  by_cases hlt:v[(i+j) / 2].hi < n
  ·have:Yza v[(i+j) / 2].hi n < 0:=by unfold Yza;rw[if_pos hlt];decide
   rw[if_pos this];refine⟨⟨(i+j) / 2+1,j,rfl,by omega,hj,fun k x hk hx=>?_,h2⟩,?_⟩
   ·by_cases e:k=(i+j) / 2
    ·subst e;rw[List.getElem?_eq_getElem hm] at hx;cases hx;exact hlt
    ·have:=Y2a hv (show k < (i+j) / 2 by omega) hx (List.getElem?_eq_getElem hm);omega
   ·simp only;omega
  ·have:¬ Yza v[(i+j) / 2].hi n < 0:=by unfold Yza;rw[if_neg hlt];split <;> decide
   rw[if_neg this];refine⟨⟨i,(i+j) / 2,rfl,by omega,by omega,h1,fun k x hk hx=>?_⟩,?_⟩
   ·by_cases e:k=(i+j) / 2
    ·subst e;rw[List.getElem?_eq_getElem hm] at hx;cases hx;omega
    ·have:=Y2a hv (show(i+j) / 2 < k by omega) (List.getElem?_eq_getElem hm) hx;omega
   ·simp only;omega
 ·rw[if_neg hc];have hij':i=j:=by omega
  subst hij';show(i:Int)=(yka v n:Int)
  rw[<- xoa hj h1 h2]
def hitB(v:List RN)(n:Int):Bool:=match v[yka v n]? with | some x=>decide (Yza x.hi n=0) | none=>false
theorem bs_eq(v:List RN)(n:Int)(hv:Nf v)(hl:v.length<=1000000000000):zh v n=pure ((yka v n:Int),hitB v n):=by
 unfold zh hitB;rw[bs_loop v n hv hl,zA]
 by_cases hc:yka v n < v.length
 ·have:decide ((yka v n:Int) < (v.length:Int))=true:=by simpa using hc
  rw[this,cond_true,zR (List.getElem?_eq_getElem hc)];simp only[zA,Y1a,zB,List.getElem?_eq_getElem hc]
 ·have:decide ((yka v n:Int) < (v.length:Int))=false:=by simpa using hc
  rw[this,cond_false,zA,List.getElem?_eq_none (by omega)]
theorem uQa : ∀ {v:List RN} (n:Int),Nf v->wA v n=(match v[yka v n]? with | some x=>decide (x.lo<=n) | none=>false)
 | [],n,_=>rfl
 | x::r,n,h=>by
  by_cases hc:x.hi < n
  ·simp only[yka,if_pos hc,List.getElem?_cons_succ];rw[<- uQa n h.2.2,YU];have:inR n x=false:=by
    rw[Bool.eq_false_iff];intro h;have:=(ZQ.1 h).2.2;omega
   rw[this,Bool.false_or]
  ·simp only[yka,if_neg hc,List.getElem?_cons_zero];rw[Bool.eq_iff_iff,decide_eq_true_eq]
   constructor
   ·exact qH h
   ·intro hle;exact(vJa h hle).2 (.inl (by omega))
theorem has_eq(l:List RN)(n:Int)(h:l.length<=100000000000):Jl l n=pure (wA l n):=by
 unfold Jl;have hl:=US l;rw[vLa l (by omega),zB,zA,bs_eq _ n (QU l) (by omega),zB,zA,<- YV l n,uQa n (QU l)]
 generalize nrm l=v
 by_cases hc:yka v n < v.length
 ·have:decide ((yka v n:Int) < (v.length:Int))=true:=by simpa using hc
  simp only[this,cond_true,zR (List.getElem?_eq_getElem hc),zA,List.getElem?_eq_getElem hc]
 ·have:decide ((yka v n:Int) < (v.length:Int))=false:=by simpa using hc
  simp only[this,cond_false,zA,List.getElem?_eq_none (show v.length<=yka v n by omega)]
theorem jM(l:List Int):(Vo l).length=l.length:=by simp[Vo]
end Go.Ep.M.R

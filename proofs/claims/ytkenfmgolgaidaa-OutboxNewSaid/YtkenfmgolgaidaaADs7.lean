/- Texts that the walks and laws lean on, side by side. -/
import Derived.ProofKit
import Derived.Deep.Slices
import Derived.Test.YtkenfmgolgaidaaProg
import Derived.KernelRfl
import Derived.Test.YtkenfmgolgaidaaADs2
import Derived.Test.YtkenfmgolgaidaaADs3
import Derived.Test.YtkenfmgolgaidaaADs6
set_option linter.unusedVariables false
set_option linter.unusedSimpArgs false
namespace Go.Ep.M.D
open Go
theorem lt_iff{a b:TDot}:ltDot a b=true↔a.dev < b.dev ∨ (a.dev=b.dev ∧ a.n < b.n):=by simp[ltDot]
theorem lt_irr(a:TDot):ltDot a a=false:=by
 cases h:ltDot a a with
 | false=>rfl
 | true=>rw[lt_iff] at h;omega
theorem lt_trans{a b c:TDot}(h1:ltDot a b=true)(h2:ltDot b c=true):ltDot a c=true:=by rw[lt_iff] at *;omega
theorem lt_asym{a b:TDot}(h:ltDot a b=true):ltDot b a=false:=by
 cases h2:ltDot b a with
 | false=>rfl
 | true=>rw[lt_iff] at h h2;omega
theorem lt_tri{a b:TDot}(h1:ltDot a b=false)(h2:ltDot b a=false):a=b:=by
 have h3:¬ (ltDot a b=true):=by simp[h1]
 have h4:¬ (ltDot b a=true):=by simp[h2]
 rw[lt_iff] at h3 h4
 cases a;cases b
 simp only[TDot.mk.injEq] at *
 omega
abbrev Srt(l:List TDot):Prop:=l.Pairwise fun x y=>ltDot x y=true
theorem srt_ext : ∀ {l l':List TDot},Srt l → Srt l' → (∀ d,d∈l↔d∈l') → l=l'
 | [],[],_,_,_=>rfl
 | [],y::r,_,_,h=>by have:=(h y).2 (by simp);simp at this
 | x::r,[],_,_,h=>by have:=(h x).1 (by simp);simp at this
 | x::r,y::t,h1,h2,h=>by
  have hx:=(h x).1 (by simp);have hy:=(h y).2 (by simp);have e:x=y:=by
   rcases List.mem_cons.1 hx with e | hx
   ·exact e
   ·rcases List.mem_cons.1 hy with e | hy
    ·exact e.symm
    ·have a1:=(List.pairwise_cons.1 h2).1 x hx;have a2:=(List.pairwise_cons.1 h1).1 y hy;rw[lt_asym a1] at a2;cases a2
  subst e
  congr 1
  refine srt_ext (List.pairwise_cons.1 h1).2 (List.pairwise_cons.1 h2).2 fun d=>?_
  have h3:=h d;simp only[List.mem_cons] at h3
  constructor
  ·intro hd;rcases h3.1 (.inr hd) with e | h4
   ·have:=(List.pairwise_cons.1 h1).1 d hd;rw[e,lt_irr] at this;cases this
   ·exact h4
  ·intro hd;rcases h3.2 (.inr hd) with e | h4
   ·have:=(List.pairwise_cons.1 h2).1 d hd;rw[e,lt_irr] at this;cases this
   ·exact h4
def insD(s:List TDot)(d:TDot):List TDot:=(s.filter fun x=>ltDot x d)++[d]++(s.filter fun x=>ltDot d x)
theorem ins_mem{s:List TDot}{d x:TDot}:x∈insD s d↔x=d ∨ x∈s:=by
 simp only[insD,List.mem_append,List.mem_filter,List.mem_singleton]
 constructor
 ·rintro((h | h) | h)
  ·exact .inr h.1
  ·exact .inl h
  ·exact .inr h.1
 ·rintro(h | h)
  ·exact .inl (.inr h)
  ·cases h1:ltDot x d with
   | true=>exact .inl (.inl ⟨h,rfl⟩)
   | false=>
    cases h2:ltDot d x with
    | true=>exact .inr ⟨h,rfl⟩
    | false=>exact .inl (.inr (lt_tri h1 h2))
theorem ins_srt{s:List TDot}(h:Srt s)(d:TDot):Srt (insD s d):=by
 unfold Srt insD;rw[List.pairwise_append,List.pairwise_append];refine⟨⟨h.filter _,by simp,fun a ha b hb=>?_⟩,h.filter _,fun a ha b hb=>?_⟩
 ·rw[List.mem_singleton.1 hb];exact(List.mem_filter.1 ha).2
 ·have hb:=(List.mem_filter.1 hb).2;rcases List.mem_append.1 ha with ha | ha
  ·exact lt_trans (List.mem_filter.1 ha).2 hb
  ·rw[List.mem_singleton.1 ha];exact hb
theorem ins_len(s:List TDot)(d:TDot):(insD s d).length ≤ s.length+1:=by
 unfold insD;have h:∀ l:List TDot,(l.filter fun x=>ltDot x d).length+(l.filter fun x=>ltDot d x).length ≤ l.length:=by
  intro l
  induction l with
  | nil=>simp
  | cons x r ih=>
   cases h1:ltDot x d with
   | true=>simp[h1,lt_asym h1];omega
   | false=>
    cases h2:ltDot d x with
    | true=>simp[h1,h2];omega
    | false=>simp[h1,h2];omega
 have:=h s;simp;omega
def sortD(l:List TDot):List TDot:=l.foldl insD []
theorem sort_gen : ∀ (l s:List TDot),Srt s → Srt (l.foldl insD s) ∧ (∀ d,d∈l.foldl insD s↔d∈s ∨ d∈l) ∧ (l.foldl insD s).length ≤ s.length+l.length
 | [],s,h=>⟨h,by simp,by simp⟩
 | x::r,s,h=>by
  obtain⟨h1,h2,h3⟩:=sort_gen r (insD s x) (ins_srt h x);refine⟨h1,fun d=>?_,?_⟩
  ·rw[List.foldl_cons,h2 d,ins_mem,List.mem_cons]
   constructor
   ·rintro((h | h) | h)
    ·exact .inr (.inl h)
    ·exact .inl h
    ·exact .inr (.inr h)
   ·rintro(h | h | h)
    ·exact .inl (.inr h)
    ·exact .inl (.inl h)
    ·exact .inr h
  ·have:=ins_len s x;rw[List.foldl_cons,List.length_cons];omega
theorem sort_srt(l:List TDot):Srt (sortD l):=(sort_gen l [] List.Pairwise.nil).1
theorem sort_mem{l:List TDot}{d:TDot}:d∈sortD l↔d∈l:=by simpa[sortD] using (sort_gen l [] List.Pairwise.nil).2.1 d
theorem sort_len(l:List TDot):(sortD l).length ≤ l.length:=by simpa[sortD] using (sort_gen l [] List.Pairwise.nil).2.2
theorem rPut_eq(s:List TDot)(d:TDot)(h:s.length ≤ 1000000000000):r07_Put s d=pure (insD s d):=V.r07_Put_eq s d h
def ddS(out:List TDot)(x:TDot):List TDot:=if out.getLast?=some x then out else out++[x]
def dd(l:List TDot):List TDot:=l.foldl ddS []
theorem dd_snoc(l:List TDot)(x:TDot):dd (l++[x])=ddS (dd l) x:=by simp[dd]
theorem dd_last(l:List TDot):(dd l).getLast?=l.getLast?:=by
 rcases R.snoc_cases l with rfl | ⟨r,y,rfl⟩
 ·rfl
 ·rw[dd_snoc];unfold ddS
  by_cases c:(dd r).getLast?=some y
  ·rw[if_pos c,c];simp
  ·rw[if_neg c];simp
theorem dd_mem{l:List TDot}{d:TDot}:d∈dd l↔d∈l:=by
 have:∀ (l s:List TDot),d∈l.foldl ddS s↔d∈s ∨ d∈l:=by
  intro l
  induction l with
  | nil=>intro s;simp
  | cons x r ih=>
   intro s;rw[List.foldl_cons,ih];have h2:d∈ddS s x↔d∈s ∨ d=x:=by
    unfold ddS
    split
    ·rename_i h
     exact⟨.inl,fun h3=>h3.elim id fun e=>by rw[e];exact List.mem_of_getLast? h⟩
    ·simp
   rw[h2,List.mem_cons];exact or_assoc
 simpa[dd] using this l []
theorem dd_srt{l:List TDot}(h:l.Pairwise fun x y=>ltDot y x=false):Srt (dd l):=by
 have:∀ (n:Nat) (l:List TDot),l.length=n → (l.Pairwise fun x y=>ltDot y x=false) → Srt (dd l):=by
  intro n
  induction n with
  | zero=>intro l hl _;have:=List.eq_nil_of_length_eq_zero hl;subst this;exact List.Pairwise.nil
  | succ n ih=>
   intro l hl h;rcases R.snoc_cases l with rfl | ⟨r,y,rfl⟩
   ·simp at hl
   ·rw[List.pairwise_append] at h;have hr:=ih r (by simpa using hl) h.1;rw[dd_snoc];unfold ddS
    split
    ·exact hr
    ·rename_i hne
     unfold Srt;rw[List.pairwise_append];refine⟨hr,by simp,fun a ha b hb=>?_⟩;rw[List.mem_singleton.1 hb];have ha':=dd_mem.1 ha;have h1:=h.2.2 a ha' y (by simp)
     cases h2:ltDot a y with
     | true=>rfl
     | false=>
      exfalso;have e:=lt_tri h2 h1;subst e;rw[dd_last] at hne;rcases R.snoc_cases r with rfl | ⟨q,z,rfl⟩
      ·simp at ha'
      ·have hz:ltDot a z=false:=h.2.2 z (by simp) a (by simp);rcases List.mem_append.1 ha' with h5 | h5
       ·have h6:ltDot z a=false:=by
         have:=(List.pairwise_append.1 h.1).2.2 a h5 z (by simp);exact this
        have:=lt_tri hz h6;subst this;simp at hne
       ·rw[List.mem_singleton.1 h5] at hne;simp at hne
 exact this l.length l rfl h
theorem Clone_eq(l:List TDot)(h:l.length ≤ 1000000000000):slices_Clone_sl_Dot_Dot l=pure l:=by
 unfold slices_Clone_sl_Dot_Dot;refine eq_pure ⟨⟨false,fun h=>by cases h⟩,fun b hb=>?_⟩
 cases b with
 | true=>show([]:List TDot)=l;exact(hb rfl).symm
 | false=>
  show _ ∧ ([]++l=l)
  exact⟨by simp;omega,List.nil_append l⟩
theorem dotEq(x y:TDot):(decide (x.dev=y.dev)&&decide (x.n=y.n))=decide (x=y):=by
 cases x;cases y;simp[Bool.decide_and]
theorem take_snoc{l:List TDot}{m:Nat}{x:TDot}(h:l[m]?=some x):l.take (m+1)=l.take m++[x]:=by
 rw[List.take_add_one,h];rfl
theorem last_take{l:List TDot}{m:Nat}{x:TDot}(h:l[m]?=some x):(l.take (m+1)).getLast?=some x:=by rw[take_snoc h];simp
theorem inner_loop(s:List TDot)(k:Nat)(hk:k < s.length)(hl:s.length ≤ 1000000000000):∀ (d k2 kk:Nat) (v:List TDot),k+k2+d=s.length → 1 ≤ k2 → v.length=s.length → kk+1 ≤ k+k2 → v.take kk=dd (s.take (k+k2)) → v.drop (k+k2 - 1)=s.drop (k+k2 - 1) →
  ∃ (kk':Nat) (v':List TDot),loop (slices_Compact_sl_Dot_Dot_o_l0 s (k:Int)) ((kk:Int),(k2:Int),v)=pure ((kk':Int),v') ∧ v'.length=s.length ∧ kk' ≤ s.length ∧ v'.take kk'=dd s
 | 0,k2,kk,v,hd,h1,hv,hkk,ht,_=>by
  refine⟨kk,v,loop_done ?_,hv,by omega,by rw[ht,show k+k2=s.length by omega,List.take_length]⟩;unfold slices_Compact_sl_Dot_Dot_o_l0;have:decide ((k2:Int) < (((s.length - (k:Int).toNat:Nat)):Int))=false:=by simp;omega
  simp only[this,cond_false]
 | d+1,k2,kk,v,hd,h1,hv,hkk,ht,hdr=>by
  have hvg:∀ j,k+k2 - 1 ≤ j → v[j]?=s[j]?:=fun j hj=>by
   have:=congrArg (fun l=>l[j - (k+k2 - 1)]?) hdr;simp only[List.getElem?_drop] at this;rw[show k+k2 - 1+(j - (k+k2 - 1))=j by omega] at this;exact this
  obtain⟨x,hx⟩:∃ x,s[k+k2]?=some x:=⟨_,List.getElem?_eq_getElem (by omega)⟩
  obtain⟨y,hy⟩:∃ y,s[k+k2 - 1]?=some y:=⟨_,List.getElem?_eq_getElem (by omega)⟩
  have hlast:(dd (s.take (k+k2))).getLast?=some y:=by
   rw[dd_last];have:=last_take hy
   rwa [show k+k2 - 1+1=k+k2 by omega] at this
  have hdd:dd (s.take (k+k2+1))=if y=x then dd (s.take (k+k2)) else dd (s.take (k+k2))++[x]:=by
   rw[take_snoc hx,dd_snoc];unfold ddS;rw[hlast]
   by_cases c:y=x
   ·rw[if_pos c,if_pos (by rw[c])]
   ·rw[if_neg c,if_neg (by intro e;exact c (Option.some.inj e))]
  have hb:slices_Compact_sl_Dot_Dot_o_l0 s (k:Int) ((kk:Int),(k2:Int),v)=pure (.next (if y=x then ((kk:Int),((k2+1:Nat):Int),v) else (((kk+1:Nat):Int),((k2+1:Nat):Int),v.set kk x))):=by
   unfold slices_Compact_sl_Dot_Dot_o_l0;have hc:decide ((k2:Int) < (((s.length - (k:Int).toNat:Nat)):Int))=true:=by simp;omega
   have e1:IntKind.i64.wrap ((k2:Int) - 1)=((k2 - 1:Nat):Int):=by rw[wI64 (by omega) (by omega)];omega
   have i1:idx v ((((k:Int).toNat+(k2:Int).toNat:Nat)):Int)=pure x:=idx_nat (by rw[Int.toNat_natCast,Int.toNat_natCast,hvg _ (by omega)];exact hx);have i2:idx v ((((k:Int).toNat+(((k2 - 1:Nat):Int)).toNat:Nat)):Int)=pure y:=idx_nat (by rw[Int.toNat_natCast,Int.toNat_natCast,hvg _ (by omega),show k+(k2 - 1)=k+k2 - 1 by omega];exact hy);obtain⟨z,hz⟩:∃ z,v[kk]?=some z:=⟨_,List.getElem?_eq_getElem (by omega)⟩
   have i3:idx v (kk:Int)=pure z:=idx_nat hz;simp only[hc,cond_true,e1];rw[need_true (by simp;omega),i1,pure_bind,need_true (by simp;omega),i2,pure_bind];simp only[dotEq]
   by_cases c:y=x
   ·have c1:decide (x=y)=true:=decide_eq_true c.symm;simp only[c1,Bool.not_true,cond_false,pure_bind,wSucc (show k2 < 9223372036854775807 by omega),if_pos c]
   ·have c1:decide (x=y)=false:=decide_eq_false (fun e=>c e.symm);simp only[c1,Bool.not_false,cond_true,if_neg c];rw[need_true (by simp;omega),i3];simp only[pure_bind,wSucc (show k2 < 9223372036854775807 by omega),wSucc (show kk < 9223372036854775807 by omega),Int.toNat_natCast]
  by_cases c:y=x
  ·rw[if_pos c] at hb hdd;rw[loop_next hb];refine inner_loop s k hk hl d (k2+1) kk v (by omega) (by omega) hv (by omega) (by rw[ht,← hdd];rfl) ?_;have:=congrArg (List.drop 1) hdr;rw[List.drop_drop,List.drop_drop,show k+k2 - 1+1=k+(k2+1) - 1 by omega] at this;exact this
  ·rw[if_neg c] at hb hdd;rw[loop_next hb];refine inner_loop s k hk hl d (k2+1) (kk+1) (v.set kk x) (by omega) (by omega) (by simpa using hv) (by omega) ?_ ?_
   ·have h5:(v.set kk x)[kk]?=some x:=by rw[List.getElem?_set];simp;omega
    rw[take_snoc h5,List.take_set,List.set_eq_of_length_le (by rw[List.length_take];omega),ht,← hdd];rfl
   ·rw[List.drop_set,if_pos (by omega)];have:=congrArg (List.drop 1) hdr;rw[List.drop_drop,List.drop_drop,show k+k2 - 1+1=k+(k2+1) - 1 by omega] at this;exact this
theorem Compact_eq(s:List TDot)(hl:s.length ≤ 1000000000000):slices_Compact_sl_Dot_Dot_o s=pure (dd s):=by
 unfold slices_Compact_sl_Dot_Dot_o
 by_cases h2:s.length < 2
 ·have:decide ((s.length:Int) < 2)=true:=by simp;omega
  rw[this,cond_true]
  match s,h2 with
  | [],_=>rfl
  | [x],_=>rfl
 ·have:decide ((s.length:Int) < 2)=false:=by simp;omega
  rw[this,cond_false];have key:∀ d k,k+d=s.length → 1 ≤ k → dd (s.take k)=s.take k → (loop (slices_Compact_sl_Dot_Dot_o_l1 s) (k:Int)).bind (exk fun _=>pure s)=pure (dd s):=by
   intro d
   induction d with
   | zero=>
    intro k hk h1 hd;rw[loop_done (r:=.brk ()) (by
     unfold slices_Compact_sl_Dot_Dot_o_l1;have:decide ((k:Int) < (s.length:Int))=false:=by simp;omega
     simp only[this,cond_false])]
    rw[show k=s.length by omega,List.take_length] at hd;show pure s=pure (dd s);rw[hd]
   | succ d ih=>
    intro k hk h1 hd;obtain⟨x,hx⟩:∃ x,s[k]?=some x:=⟨_,List.getElem?_eq_getElem (by omega)⟩
    obtain⟨y,hy⟩:∃ y,s[k - 1]?=some y:=⟨_,List.getElem?_eq_getElem (by omega)⟩
    have hlast:(dd (s.take k)).getLast?=some y:=by
     rw[dd_last];have:=last_take hy
     rwa [show k - 1+1=k by omega] at this
    have hc:decide ((k:Int) < (s.length:Int))=true:=by simp;omega
    have i1:idx s (k:Int)=pure x:=idx_nat hx;have i2:idx s (IntKind.i64.wrap ((k:Int) - 1))=pure y:=by
     rw[wI64 (by omega) (by omega)];exact idx_eq (by omega) (by rw[show((k:Int) - 1).toNat=k - 1 by omega];exact hy)
    by_cases c:x=y
    ·subst c;obtain⟨kk,v,h5,h6,h7,h8⟩:=inner_loop s k (by omega) hl d 1 k s (by omega) (by omega) rfl (by omega) (by
      rw[take_snoc hx,dd_snoc,ddS,if_pos hlast,hd]) (by rw[show k+1 - 1=k by omega])
     rw[loop_done (r:=.ret (dd s)) (by
      unfold slices_Compact_sl_Dot_Dot_o_l1;simp only[hc,cond_true,i1,i2,pure_bind,dotEq,decide_true];rw[need_true (by omega),show(1:Int)=((1:Nat):Int) from rfl,h5,pure_bind];simp only[];rw[need_true (by omega),need_true (by simp;omega),need_true (by
       simp only[List.length_append,List.length_take,List.length_replicate,List.length_drop,Int.toNat_natCast];omega),pure_bind,exk_ret]
      congr 3
      rw[Int.toNat_natCast,List.append_assoc,List.take_append_of_le_length (by rw[List.length_take];omega),List.take_take,Nat.min_self,h8])]
     rfl
    ·have c1:decide (x=y)=false:=decide_eq_false c;rw[loop_next (s':=((k+1:Nat):Int)) (by
      unfold slices_Compact_sl_Dot_Dot_o_l1;simp only[hc,cond_true,i1,i2,pure_bind,dotEq,c1,cond_false,exk_brk,wSucc (show k < 9223372036854775807 by omega)])]
     refine ih (k+1) (by omega) (by omega) ?_;rw[take_snoc hx,dd_snoc,ddS,if_neg (by rw[hlast];intro e;exact c (Option.some.inj e).symm),hd]
  have:=key (s.length - 1) 1 (by omega) (by omega) (by
   obtain⟨x,r,rfl⟩:∃ x r,s=x::r:=by
    cases s with
    | nil=>simp at h2
    | cons x r=>exact⟨x,r,rfl⟩
   rfl)
  exact this
theorem srt_wp{l:List TDot}{Q:List TDot → Prop}(h:∀ s,s.Perm l → (s.Pairwise fun x y=>ltDot y x=false) → Q s):(srt ltDot l).wp Q:=by
 refine⟨⟨l.mergeSort (fun x y=>!ltDot y x),List.mergeSort_perm _ _,?_⟩,fun s ⟨h1,h2⟩=>h s h1 h2⟩;refine(List.pairwise_mergeSort (fun a b c h1 h2=>?_) (fun a b=>?_) l).imp fun {x y} h=>by simpa using h
 ·simp only[Bool.not_eq_true'] at h1 h2 ⊢
  cases h3:ltDot c a with
  | false=>rfl
  | true=>
   rw[lt_iff] at h3;have h4:¬ (ltDot b a=true):=by simp[h1]
   have h5:¬ (ltDot c b=true):=by simp[h2]
   rw[lt_iff] at h4 h5;omega
 ·cases h1:ltDot b a with
  | false=>rfl
  | true=>rw[lt_asym h1];rfl
theorem Sort_eq(l:List TDot)(h:l.length ≤ 1000000000000):dot_Sort l=pure (sortD l):=by
 unfold dot_Sort;rw[Clone_eq l h,det_pure,pure_bind,need_true (by omega)];refine eq_pure (srt_wp fun s hs hp=>?_);show(bind (det (slices_Compact_sl_Dot_Dot_o s)) fun y8=>pure y8).wp _;rw[Compact_eq s (by rw[hs.length_eq];exact h),det_pure,pure_bind];exact srt_ext (dd_srt hp) (sort_srt l) fun d=>by rw[dd_mem,sort_mem];exact hs.mem_iff
structure OkD(d:TDot):Prop where
 d0:0 ≤ d.dev
 d1:d.dev ≤ 65535
 n0:0 ≤ d.n
 n1:d.n ≤ 18446744073709551615
def encR(x:TRun):List Int:=N.encI x.lo++N.encI x.hi
def encP(p:TPart):List Int:=N.encI p.dev++(N.encI p.runs.length++p.runs.flatMap encR)
def encN(c:List TPart):List Int:=N.encI c.length++c.flatMap encP
structure OkP(p:TPart):Prop where
 d0:0 ≤ p.dev
 d1:p.dev ≤ 65535
 r:∀ x∈p.runs,(0 ≤ x.lo ∧ x.lo ≤ 18446744073709551615) ∧ 0 ≤ x.hi ∧ x.hi ≤ 18446744073709551615
open N (RS Ok numS uptoS failS OkB Sim)
def bad4(c:Bool)(s:RS):RS:=if c=true then failS 4 s else s
def fin{α:Type}(z x:α)(t:RS):α×RS:=if t.2≠0 then (z,t) else (x,t)
def dotR(s:RS):TDot:=⟨(uptoS 65535 s).1,(numS (uptoS 65535 s).2).1⟩
def dotT(s:RS):RS:=bad4 (!V.goodD (dotR s)) (numS (uptoS 65535 s).2).2
def dotS(s:RS):TDot×RS:=fin ⟨0,0⟩ (dotR s) (dotT s)
variable{B:List Int}{a:Int}{s:RS}
def lastGe(out:List TDot)(x:TDot):Bool:=match out.getLast? with | some y=>decide (0 ≤ V.cmpD y x) | none=>false
def dotsT(out:List TDot)(s:RS):RS:=bad4 (lastGe out (dotS s).1) (dotS s).2
def dotsL : Nat → List TDot → RS → List TDot×RS
 | 0,out,s=>(out,s)
 | k+1,out,s=>if (dotsT out s).2≠0 then ([],dotsT out s) else dotsL k (out++[(dotS s).1]) (dotsT out s)
def dotsS(most:Int)(s:RS):List TDot×RS:=if max most 0 < (numS s).1 then ([],failS 3 (numS s).2) else dotsL (numS s).1.toNat [] (numS s).2
open N (RS Ok numS uptoS failS OkB Sim)
variable{B:List Int}{a:Int}{s:RS}
open N (RS Ok numS uptoS failS OkB Sim)
def riseB : List TDot → Bool
 | []=>true
 | x::r=>(match r with | []=>true | y::_=>ltDot x y)&&riseB r
theorem rise_iff : ∀ {l:List TDot},riseB l=true↔Srt l
 | []=>⟨fun _=>List.Pairwise.nil,fun _=>rfl⟩
 | [x]=>⟨fun _=>by simp[Srt],fun _=>rfl⟩
 | x::y::r=>by
  show(ltDot x y&&riseB (y::r))=true↔_;rw[Bool.and_eq_true,rise_iff (l:=y::r)];unfold Srt;rw[List.pairwise_cons (a:=x)]
  constructor
  ·rintro⟨h1,h2⟩;refine⟨fun z hz=>?_,h2⟩;rcases List.mem_cons.1 hz with rfl | hz
   ·exact h1
   ·exact lt_trans h1 ((List.pairwise_cons.1 h2).1 z hz)
  ·rintro⟨h1,h2⟩;exact⟨h1 y (by simp),h2⟩
theorem cmp_ge(x y:TDot):decide (0 ≤ V.cmpD x y)=!ltDot x y:=by
 by_cases h:ltDot x y=true
 ·have:=V.cmpD_neg.2 h;rw[h];simp;omega
 ·have h2:¬ V.cmpD x y < 0:=fun e=>h (V.cmpD_neg.1 e)
  simp only[Bool.not_eq_true] at h;rw[h];simp;omega
theorem rRising_eq(l:List TDot)(hl:l.length ≤ 1000000000000):r07_Rising l=pure (riseB l):=by
 unfold r07_Rising;have key:∀ (k i:Nat) (x:TDot) (r:List TDot),i+k=l.length → l.drop i=r → i≠0 → l[i - 1]?=some x → loop (r07_Rising_l0 l) (i:Int)=pure (if riseB (x::r)=true then .brk () else .ret false):=by
  intro k
  induction k with
  | zero=>
   intro i x r hi hr h1 hx;have:r=[]:=by rw[← hr];exact List.drop_eq_nil_of_le (by omega)
   subst this;exact loop_done (by
    unfold r07_Rising_l0;have:decide ((i:Int) < (l.length:Int))=false:=by simp;omega
    simp only[this,cond_false];rfl)
  | succ k ih=>
   intro i x r hi hr h1 hx;have hlt:i < l.length:=by omega
   have hr2:r=l[i]::l.drop (i+1):=by rw[← hr];exact List.drop_eq_getElem_cons hlt
   have hy:=List.getElem?_eq_getElem hlt;have hi1:idx l (IntKind.i64.wrap ((i:Int) - 1))=pure x:=by
    rw[wI64 (by omega) (by omega)];exact idx_eq (by omega) (by rw[show((i:Int) - 1).toNat=i - 1 by omega];exact hx)
   have hb:r07_Rising_l0 l (i:Int)=cond (!ltDot x l[i]) (pure (.done (.ret false))) (pure (.next ((i+1:Nat):Int))):=by
    unfold r07_Rising_l0;have:decide ((i:Int) < (l.length:Int))=true:=by simp;omega
    simp only[this,cond_true,hi1,idx_nat hy,pure_bind,V.r07_Cmp_eq,det_pure,cmp_ge,wSucc (show i < 9223372036854775807 by omega)]
   rw[hr2];show _=(pure (if (ltDot x l[i]&&riseB (l[i]::l.drop (i+1)))=true then Ex.brk () else Ex.ret false):M (Ex Unit Bool))
   cases c:ltDot x l[i] with
   | true=>
    rw[c] at hb;rw[loop_next hb,Bool.true_and];exact ih (i+1) l[i] _ (by omega) rfl (by omega) hy
   | false=>
    rw[c] at hb;rw[loop_done hb];rfl
 cases l with
 | nil=>
  rw[loop_done (r:=.brk ()) (by unfold r07_Rising_l0;rfl)];rfl
 | cons x r=>
  have:=key r.length 1 x r (by simp;omega) rfl (by decide) rfl;rw[show((1:Nat):Int)=1 from rfl] at this;rw[this,pure_bind]
  cases riseB (x::r) <;> rfl
open N (RS Ok numS uptoS failS OkB Sim)
end Go.Ep.M.D
namespace Go.Ep.M.E
open Go
theorem bytes_len(s:ByteArray):(bytesL s).length=s.size:=by simp[bytesL]
def cidD(v:Int):TDot:=⟨v / 281474976710656,v % 281474976710656⟩
theorem rSplit_eq{v:Int}(h0:0 ≤ v)(h:v ≤ 18446744073709551615):r01_Split v=pure ((cidD v).dev,(cidD v).n):=by
 unfold r01_Split cidD;rw[Int.tdiv_eq_ediv_of_nonneg h0,Int.tmod_eq_emod_of_nonneg h0,wU64 (by omega) (by omega),wU16 (by omega) (by omega)]
def goodC(v:Int):Bool:=V.goodD (cidD v)
theorem rUnpack_eq{v:Int}(h0:0 ≤ v)(h:v ≤ 18446744073709551615):r07_Unpack v=pure (if goodC v=true then cidD v else ⟨0,0⟩,goodC v):=by
 unfold r07_Unpack;rw[rSplit_eq h0 h,det_pure,pure_bind,V.r07_Good_eq,det_pure,pure_bind];show cond (!goodC v) _ _=_
 cases goodC v <;> rfl
def goodF(f:Int):Bool:=decide (1 ≤ f)&&decide (f ≤ 5)
theorem rField_eq(f:Int):r11_Good f=pure (goodF f):=by unfold r11_Good goodF;rw[cond_pure_and];rfl
def okB(x:Int):Bool:=decide (32 ≤ x)&&decide (x ≤ 126)
def goodT(s:ByteArray):Bool:=decide (s.size ≤ 60)&&(bytesL s).all okB
theorem all_zip{α:Type}(l:List α)(p:α → Bool):(l.zipIdx.all fun y=>p y.1)=l.all p:=by
 rw[Bool.eq_iff_iff,List.all_eq_true,List.all_eq_true]
 constructor
 ·intro h x hx;obtain⟨i,hi⟩:=List.getElem?_of_mem hx;exact h (x,i) (by rw[List.mk_mem_zipIdx_iff_getElem?];exact hi)
 ·intro h y hy;exact h y.1 (List.fst_mem_of_mem_zipIdx hy)
theorem okB_eq(x:Int)(f:M Bool)(hf:f=pure (decide (126 < x))):(cond (decide (x < 32)) (pure true) f:M Bool)=pure (!okB x):=by
 rw[hf];unfold okB
 by_cases h1:x < 32
 ·have:¬ 32 ≤ x:=by omega
  simp[h1,this]
 ·have:32 ≤ x:=by omega
  by_cases h2:126 < x
  ·have:¬ x ≤ 126:=by omega
   simp[h1,h2,this]
  ·have:x ≤ 126:=by omega
   simp[h1,h2, *]
theorem rtext_loop(s:ByteArray)(hs:s.size ≤ 1000000000000):loop (r11_Text_l0 s) 0=pure (if (bytesL s).all okB=true then Ex.brk () else Ex.ret false):=by
 have:=loopAll (body:=r11_Text_l0 s) (bytesL s) (fun i=>(i:Int)) (fun _ x=>okB x) (Ex.brk ()) (Ex.ret false) (fun i x hx hi=>by
  have hd:decide ((i:Int) < (s.size:Int))=true:=by rw[← bytes_len];simpa using hi
  have hi2:i < s.size:=by rw[← bytes_len];exact hi
  unfold r11_Text_l0;simp only[hd,cond_true,idx_nat hx,pure_bind,okB_eq x _ rfl,wSucc (show i < 9223372036854775807 by omega)]
  cases okB x <;> rfl) (by
  unfold r11_Text_l0;simp[bytes_len])
 rw[show(0:Int)=((0:Nat):Int) from rfl,this,all_zip]
theorem rText_eq(s:ByteArray)(hs:s.size ≤ 1000000000000):r11_Text s=pure (goodT s):=by
 unfold r11_Text goodT;rw[rtext_loop s hs,pure_bind]
 cases (bytesL s).all okB with
 | false=>rw[Bool.and_false];rfl
 | true=>
  rw[if_pos rfl,exk_brk,Bool.and_true]
  congr 1
  by_cases h:s.size ≤ 60
  ·rw[decide_eq_true h];simp;omega
  ·rw[decide_eq_false h];simp;omega
structure OkE(e:TEvent):Prop where
 dot:D.OkD e.dot
 kind:0 ≤ e.kind ∧ e.kind ≤ 255
 cid:0 ≤ e.cid ∧ e.cid ≤ 18446744073709551615
 field:0 ≤ e.field ∧ e.field ≤ 255
 text:e.text.size ≤ 1000000000
 kills:∀ d∈e.kills,D.OkD d
 klen:e.kills.length ≤ 1000000000
def noText(s:ByteArray):Bool:=decide (s=⟨#[]⟩)
def goodK(e:TEvent):Bool:=(decide (e.kind=1)&&(goodF e.field&&goodT e.text))||(decide (e.kind=2)&&(decide (e.field=0)&&noText e.text))
def goodL(e:TEvent):Bool:=decide (e.kills.length ≤ 256)&&(D.riseB e.kills&&e.kills.all fun d=>V.goodD d&&!decide (d=e.dot))
def goodE(e:TEvent):Bool:=(goodC e.cid&&V.goodD e.dot)&&(goodK e&&goodL e)
theorem rHas_eq(l:List TDot)(d:TDot)(hl:l.length ≤ 1000000000000):r07_Has l d=pure (l.any fun x=>decide (x=d)):=by
 unfold r07_Has;have:=loopAll (body:=r07_Has_l0 l d) l (fun i=>(i:Int)) (fun _ x=>!decide (x=d)) (Ex.brk ()) (Ex.ret true) (fun i x hx hi=>by
  have hd:decide ((i:Int) < (l.length:Int))=true:=by simpa using hi
  unfold r07_Has_l0;simp only[hd,cond_true,idx_nat hx,pure_bind,D.dotEq,wSucc (show i < 9223372036854775807 by omega)]
  cases decide (x=d) <;> rfl) (by
  unfold r07_Has_l0;simp)
 rw[show(0:Int)=((0:Nat):Int) from rfl,this,pure_bind,all_zip l fun x=>!decide (x=d)];have e:(l.any fun x=>decide (x=d))=!(l.all fun x=>!decide (x=d)):=by simp[List.all_eq_not_any_not]
 rw[e]
 cases l.all fun x=>!decide (x=d) <;> rfl
theorem rgood_loop(e:TEvent)(hl:e.kills.length ≤ 1000000000000):loop (r13_Good_l0 e) 0=pure (if e.kills.all V.goodD=true then Ex.brk () else Ex.ret false):=by
 have:=loopAll (body:=r13_Good_l0 e) e.kills (fun i=>(i:Int)) (fun _ d=>V.goodD d) (Ex.brk ()) (Ex.ret false) (fun i x hx hi=>by
  have hd:decide ((i:Int) < (e.kills.length:Int))=true:=by simpa using hi
  unfold r13_Good_l0;simp only[hd,cond_true,idx_nat hx,pure_bind,V.r07_Good_eq,det_pure,wSucc (show i < 9223372036854775807 by omega)]
  cases V.goodD x <;> rfl) (by
  unfold r13_Good_l0;simp)
 rw[show(0:Int)=((0:Nat):Int) from rfl,this,all_zip e.kills V.goodD]
theorem rGood_eq{e:TEvent}(h:OkE e):r13_Good e=pure (goodE e):=by
 have hk:=h.klen;have ht:=h.text;unfold r13_Good goodE;rw[rUnpack_eq h.cid.1 h.cid.2,det_pure,pure_bind,V.r07_Good_eq,det_pure,pure_bind,rgood_loop e (by omega),D.rRising_eq e.kills (by omega),rField_eq,rText_eq e.text (by omega),rHas_eq e.kills e.dot (by omega)];simp only[]
 cases goodC e.cid with
 | false=>rfl
 | true=>
  cases V.goodD e.dot with
  | false=>rfl
  | true=>
   have hl:decide ((e.kills.length:Int) ≤ 256)=decide (e.kills.length ≤ 256):=by
    by_cases c:e.kills.length ≤ 256
    ·rw[decide_eq_true c];simp;omega
    ·rw[decide_eq_false c];simp;omega
   have hall:(e.kills.all fun d=>V.goodD d&&!decide (d=e.dot))=(e.kills.all V.goodD&&!(e.kills.any fun x=>decide (x=e.dot))):=by
    rw[Bool.eq_iff_iff,Bool.and_eq_true,List.all_eq_true,List.all_eq_true,Bool.not_eq_true',List.any_eq_false]
    constructor
    ·intro h;exact⟨fun x hx=>by have:=h x hx;rw[Bool.and_eq_true] at this;exact this.1,fun x hx=>by have:=h x hx;rw[Bool.and_eq_true] at this;simpa using this.2⟩
    ·rintro⟨h1,h2⟩ x hx;rw[Bool.and_eq_true];exact⟨h1 x hx,by simpa using h2 x hx⟩
   have tail:((pure (if e.kills.all V.goodD=true then Ex.brk () else Ex.ret false):M (Ex Unit Bool)).bind (exk fun _=>(cond (decide ((e.kills.length:Int) ≤ 256)) ((det (pure (D.riseB e.kills))).bind fun v46=>cond v46 ((det (pure (e.kills.any fun x=>decide (x=e.dot)))).bind fun v49=>pure (!v49)) (pure false)) (pure false)).bind fun v44=>pure v44))=pure (goodL e):=by
    unfold goodL;rw[hl,hall];simp only[det_pure,pure_bind]
    cases e.kills.all V.goodD with
    | false=>cases decide (e.kills.length ≤ 256) <;> cases D.riseB e.kills <;> rfl
    | true=>cases decide (e.kills.length ≤ 256) <;> cases D.riseB e.kills <;> cases e.kills.any fun x=>decide (x=e.dot) <;> rfl
   simp only[Bool.not_true,cond_false,pure_bind,det_pure,Bool.true_and] at tail ⊢;unfold goodK noText
   by_cases k1:e.kind=1
   ·have k2:decide (e.kind=2)=false:=by rw[k1];rfl
    rw[decide_eq_true k1,k2];simp only[Bool.not_true,cond_false,cond_true,pure_bind,Bool.true_and,Bool.false_and,Bool.or_false]
    cases goodF e.field with
    | false=>rfl
    | true=>
     cases goodT e.text with
     | false=>rfl
     | true=>exact tail
   ·rw[decide_eq_false k1];simp only[Bool.not_false,cond_true,pure_bind,Bool.false_and,Bool.false_or]
    by_cases k2:e.kind=2
    ·rw[decide_eq_true k2];simp only[Bool.not_true,cond_false,cond_true,Bool.true_and]
     cases decide (e.field=0) with
     | false=>rfl
     | true=>
      cases decide (e.text=(⟨#[]⟩:ByteArray)) with
      | false=>rfl
      | true=>exact tail
    ·rw[decide_eq_false k2];rfl
def fewE(l:List TEvent)(most:Nat):Bool:=decide (l.length ≤ most)&&l.all fun e=>decide (e.kills.length ≤ 300)&&decide (e.text.size ≤ 200)
theorem rFew_eq(l:List TEvent)(most:Nat)(hm:most ≤ 1000000):r13_Few l (most:Int)=pure (fewE l most):=by
 unfold r13_Few fewE
 by_cases h:l.length ≤ most
 ·have hd:decide ((most:Int) < (l.length:Int))=false:=by simp;omega
  have:=loopAll (body:=r13_Few_l0 l) l (fun i=>(i:Int)) (fun _ e=>decide (e.kills.length ≤ 300)&&decide (e.text.size ≤ 200)) (Ex.brk ()) (Ex.ret false) (fun i x hx hi=>by
   have hd:decide ((i:Int) < (l.length:Int))=true:=by simpa using hi
   unfold r13_Few_l0;simp only[hd,cond_true,idx_nat hx,pure_bind,wSucc (show i < 9223372036854775807 by omega)]
   by_cases c:x.kills.length ≤ 300
   ·have h1:decide ((300:Int) < (x.kills.length:Int))=false:=by simp;omega
    rw[h1,cond_false,decide_eq_true c,Bool.true_and,pure_bind]
    by_cases c2:x.text.size ≤ 200
    ·have h2:decide ((200:Int) < (x.text.size:Int))=false:=by simp;omega
     rw[h2,decide_eq_true c2];rfl
    ·have h2:decide ((200:Int) < (x.text.size:Int))=true:=by simp;omega
     rw[h2,decide_eq_false c2];rfl
   ·have h1:decide ((300:Int) < (x.kills.length:Int))=true:=by simp;omega
    rw[h1,cond_true,decide_eq_false c,Bool.false_and];rfl) (by
   unfold r13_Few_l0;simp)
  rw[hd,cond_false,decide_eq_true h,Bool.true_and,show(0:Int)=((0:Nat):Int) from rfl,this,pure_bind,all_zip l fun e=>decide (e.kills.length ≤ 300)&&decide (e.text.size ≤ 200)]
  cases l.all fun e=>decide (e.kills.length ≤ 300)&&decide (e.text.size ≤ 200) <;> rfl
 ·have hd:decide ((most:Int) < (l.length:Int))=true:=by simp;omega
  rw[hd,cond_true,decide_eq_false h,Bool.false_and]
theorem few_mem{l:List TEvent}{most:Nat}(h:fewE l most=true):l.length ≤ most ∧ ∀ e∈l,e.kills.length ≤ 300 ∧ e.text.size ≤ 200:=by
 unfold fewE at h;rw[Bool.and_eq_true,List.all_eq_true] at h;exact⟨by simpa using h.1,fun e he=>by simpa using h.2 e he⟩
theorem rSame_eq(a b:TEvent)(h:a.kills.length ≤ 1000000000000):r13_Same a b=pure (decide (a=b)):=by
 unfold r13_Same;rw[D.dotEq,V.r07_Same_eq a.kills b.kills h,det_pure,pure_bind];have e:decide (a=b)=(decide (a.dot=b.dot)&&(decide (a.kind=b.kind)&&(decide (a.cid=b.cid)&&(decide (a.field=b.field)&&(decide (a.text=b.text)&&decide (a.kills=b.kills)))))):=by
  cases a;cases b;simp only[TEvent.mk.injEq,Bool.decide_and]
 rw[e]
 cases decide (a.dot=b.dot) <;> cases decide (a.kind=b.kind) <;> cases decide (a.cid=b.cid) <;> cases decide (a.field=b.field) <;> cases decide (a.text=b.text) <;> rfl
theorem rAll_eq(a b:List TEvent)(ha:a.length ≤ 1000000000000)(hk:∀ e∈a,e.kills.length ≤ 1000000000000):r13_All a b=pure (decide (a=b)):=by
 unfold r13_All
 by_cases hlen:a.length=b.length
 ·have h1:decide ((a.length:Int)=(b.length:Int))=true:=by simp[hlen]
  rw[h1,Bool.not_true,cond_false];have:=loopAll (body:=r13_All_l0 a b) a (fun i=>(i:Int)) (fun i x=>decide (b[i]?=some x)) (Ex.brk ()) (Ex.ret false) (fun i x hx hi=>by
   have hd:decide ((i:Int) < (a.length:Int))=true:=by simpa using hi
   obtain⟨y,hy⟩:∃ y,b[i]?=some y:=⟨_,List.getElem?_eq_getElem (by omega)⟩
   unfold r13_All_l0;simp only[hd,cond_true,idx_nat hx,idx_nat hy,pure_bind,rSame_eq x y (hk x (List.mem_of_getElem? hx)),det_pure,wSucc (show i < 9223372036854775807 by omega),hy]
   by_cases c:x=y
   ·subst c;simp
   ·have:¬ some y=some x:=fun e=>c (Option.some.inj e).symm
    simp[c,this]) (by
   unfold r13_All_l0;simp)
  rw[show(0:Int)=((0:Nat):Int) from rfl,this,pure_bind];have e:(a.zipIdx.all fun y=>decide (b[y.2]?=some y.1))=decide (a=b):=by
   rw[Bool.eq_iff_iff,List.all_eq_true,decide_eq_true_eq]
   constructor
   ·intro h;apply List.ext_getElem?;intro i
    by_cases hi:i < a.length
    ·have:=h (a[i],i) (by rw[List.mk_mem_zipIdx_iff_getElem?];exact List.getElem?_eq_getElem hi);simp only[decide_eq_true_eq] at this;rw[this,List.getElem?_eq_getElem hi]
    ·rw[List.getElem?_eq_none (by omega),List.getElem?_eq_none (by omega)]
   ·intro h y hy;subst h;rw[List.mem_zipIdx_iff_getElem?] at hy;simpa using hy
  rw[e]
  cases decide (a=b) <;> rfl
 ·have h1:decide ((a.length:Int)=(b.length:Int))=false:=by simp;omega
  have h2:decide (a=b)=false:=decide_eq_false fun e=>hlen (by rw[e])
  rw[h1,Bool.not_false,cond_true,h2]
open N (RS Ok numS uptoS byteS textS failS OkB Sim)
open D (bad4 fin)
def s1(s:RS):RS:=(D.dotS s).2
def s2(s:RS):RS:=(byteS (s1 s)).2
def s3(s:RS):RS:=(numS (s2 s)).2
def s4(s:RS):RS:=(byteS (s3 s)).2
def s5(s:RS):RS:=(textS 60 (s4 s)).2
def s6(s:RS):RS:=(D.dotsS 256 (s5 s)).2
def getE(s:RS):TEvent:=⟨(D.dotS s).1,(byteS (s1 s)).1,(numS (s2 s)).1,(byteS (s3 s)).1,(textS 60 (s4 s)).1,(D.dotsS 256 (s5 s)).1⟩
def noE : TEvent:=⟨⟨0,0⟩,0,0,0,⟨#[]⟩,[]⟩
def getT(s:RS):RS:=bad4 (!goodE (getE s)) (s6 s)
def getS(s:RS):TEvent×RS:=fin noE (getE s) (getT s)
variable{B:List Int}{a:Int}{s:RS}
open N (RS Ok numS uptoS byteS textS failS OkB Sim)
open D (bad4 fin)
variable{B:List Int}{a:Int}{s:RS}
theorem Copy_eq(e:TEvent)(h:e.kills.length ≤ 1000000000000):event_Copy e=pure e:=by
 unfold event_Copy;rw[D.Clone_eq _ h,det_pure,pure_bind]
def nB(l:List TEvent):Nat:=(l.length+3) / 4
def kB(l:List TEvent)(pick:Int):Nat:=(pick % (nB l:Int)).toNat
def batch(l:List TEvent)(pick:Int):List TEvent:=if nB l=0 then [] else (l.drop (4*kB l pick)).take 4
theorem kB_lt{l:List TEvent}(h:nB l≠0)(pick:Int):kB l pick < nB l:=by
 unfold kB;have h1:=Int.emod_lt_of_pos pick (show(0:Int) < (nB l:Int) by omega);have h2:=Int.emod_nonneg pick (show(nB l:Int)≠0 by omega);omega
theorem kB_cast{l:List TEvent}(h:nB l≠0)(pick:Int):((kB l pick:Nat):Int)=pick % (nB l:Int):=by
 unfold kB;have h2:=Int.emod_nonneg pick (show(nB l:Int)≠0 by omega);omega
theorem Batches_eq(l:List TEvent)(h:l.length ≤ 1000000000):outbox_Batches l=pure (nB l:Int):=by
 unfold outbox_Batches nB;rw[wI64 (n:=(l.length:Int)+4) (by omega) (by omega),wI64 (n:=(l.length:Int)+4 - 1) (by omega) (by omega),Int.tdiv_eq_ediv_of_nonneg (by omega),wI64 (by omega) (by omega),show(l.length:Int)+4 - 1=((l.length+3:Nat):Int) by omega]
 rfl
theorem tmod_abs(a n:Int)(h:0 < n):-n < Int.tmod a n ∧ Int.tmod a n < n:=by
 rw[Int.tmod_eq_emod];have h1:=Int.emod_lt_of_pos a h;have h2:=Int.emod_nonneg a (show n≠0 by omega);have h3:(n.natAbs:Int)=n:=by omega
 split <;> omega
theorem tmod_neg(a n:Int)(h:0 < n):(if Int.tmod a n < 0 then Int.tmod a n+n else Int.tmod a n)=a % n:=by
 have h1:=Int.emod_lt_of_pos a h;have h2:=Int.emod_nonneg a (show n≠0 by omega);have h3:(n.natAbs:Int)=n:=by omega
 have h4:=Int.tmod_eq_emod (a:=a) (b:=n)
 split at h4
 ·rw[h4];split <;> omega
 ·rename_i c
  have h5:a % n≠0:=fun e=>c (Or.inr (Int.dvd_of_emod_eq_zero e))
  rw[h4];split <;> omega
theorem foldl_snoc(l t:List TEvent):l.foldl (fun t x=>t++[x]) t=t++l:=by
 induction l generalizing t with
 | nil=>simp
 | cons x r ih=>rw[List.foldl_cons,ih,List.append_assoc];rfl
theorem Batch_eq(l:List TEvent)(pick:Int)(h:l.length ≤ 1000000000)(hk:∀ e∈l,e.kills.length ≤ 1000000000000):outbox_Batch l pick=pure (batch l pick):=by
 unfold outbox_Batch;rw[Batches_eq l h,det_pure,pure_bind]
 by_cases c:nB l=0
 ·have:decide ((nB l:Int)=0)=true:=by simp[c]
  rw[this,cond_true,batch,if_pos c]
 ·have hd:decide ((nB l:Int)=0)=false:=by simp[c]
  have hp:(0:Int) < (nB l:Int):=by omega
  have hn:nB l ≤ 1000000000:=by unfold nB;omega
  have hlt:=kB_lt c pick;have h4:4*kB l pick < l.length:=by unfold nB at hlt;omega
  rw[hd,cond_false,need_true (by omega)];have e1:(cond (decide (Int.tmod pick (nB l:Int) < 0)) (pure (IntKind.i64.wrap (Int.tmod pick (nB l:Int)+(nB l:Int)))) (pure (Int.tmod pick (nB l:Int))):M Int)=pure ((kB l pick:Nat):Int):=by
   have h1:=tmod_abs pick _ hp;have h2:=tmod_neg pick _ hp;rw[kB_cast c,← h2,wI64 (by omega) (by omega)]
   by_cases c2:Int.tmod pick (nB l:Int) < 0
   ·rw[decide_eq_true c2,cond_true,if_pos c2]
   ·rw[decide_eq_false c2,cond_false,if_neg c2]
  rw[e1,pure_bind];have w1:IntKind.i64.wrap (((kB l pick:Nat):Int)*4)=((4*kB l pick:Nat):Int):=by rw[wI64 (by omega) (by omega)];omega
  have w2:IntKind.i64.wrap (IntKind.i64.wrap (((kB l pick:Nat):Int)+1)*4)=((4*kB l pick+4:Nat):Int):=by rw[wI64 (n:=_+1) (by omega) (by omega),wI64 (by omega) (by omega)];omega
  have w3:min (((4*kB l pick+4:Nat):Int)) (l.length:Int)=((min (4*kB l pick+4) l.length:Nat):Int):=by omega
  have es:List.drop (4*kB l pick) (List.take (min (4*kB l pick+4) l.length) l)=(l.drop (4*kB l pick)).take 4:=by
   rw[List.drop_take];refine List.take_eq_take_iff.2 ?_;rw[List.length_drop];omega
  rw[need_true (by rw[w1,w2,w3];omega)];have hm:∀ e∈(l.drop (4*kB l pick)).take 4,e∈l:=fun e he=>List.mem_of_mem_drop (List.mem_of_mem_take he)
  have hl4:((l.drop (4*kB l pick)).take 4).length ≤ 4:=by rw[List.length_take];omega
  have hb:batch l pick=(l.drop (4*kB l pick)).take 4:=if_neg c;have:=loopL (body:=outbox_Batch_l0 (kB l pick:Int) l) ((l.drop (4*kB l pick)).take 4) (fun i t=>((i:Int),t)) (fun t x=>t++[x]) (fun t=>pure t) (fun i t=>t.length=i) (fun i x t hx hi hI=>by
   refine⟨?_,by simp[hI]⟩;unfold outbox_Batch_l0;simp only[w1,w2,w3,Int.toNat_natCast,es];have hd:decide ((i:Int) < (((l.drop (4*kB l pick)).take 4).length:Int))=true:=by simpa using hi
   rw[hd,cond_true,idx_nat hx,pure_bind,Copy_eq x (hk x (hm x (List.mem_of_getElem? hx))),det_pure,pure_bind,need_true (by simp;omega),wSucc (by omega)]) (fun t _=>by
   unfold outbox_Batch_l0;simp only[w1,w2,w3,Int.toNat_natCast,es];simp[pure_bind]) [] rfl
  rw[show(0:Int)=((0:Nat):Int) from rfl,this,pure_bind,foldl_snoc,List.nil_append,hb]
def keepK(l:List TDot)(c:List TPart):List TDot:=D.sortD (l.filter fun d=>C.hasC c d.dev d.n)
theorem Keep_eq(l : List TDot)(c : List TPart)(hl : l.length ≤ 1000000000)(hc : C.Sm c) : kills_Keep l c=pure (keepK l c) := by
  unfold kills_Keep kills_part;have := loopL (body := kills_part_l0 l c true) l (fun i t => ((i : Int), t)) (fun t d => if C.hasC c d.dev d.n=true then t++[d] else t) (fun t => pure t) (fun i t => t.length ≤ i) (fun i x t hx hi hI => by
    have hd : decide ((i : Int) < (l.length : Int))=true := by simpa using hi
    refine ⟨?_, by split
                   · simp; omega
                   · omega⟩
    unfold kills_part_l0;simp only[hd, cond_true, idx_nat hx, pure_bind, C.Has_eq c x hc, det_pure, wSucc (show i < 9223372036854775807 by omega)]
    by_cases c : C.hasC c x.dev x.n=true
    · rw[c, show(true==true)=true from rfl, cond_true, need_true (by simp; omega), pure_bind, if_pos rfl]
    · simp only[Bool.not_eq_true] at c;rw[c, show(false==true)=false from rfl, cond_false, pure_bind]; rfl) (fun t _ => by
    unfold kills_part_l0;simp[pure_bind]) [] (by simp)
  have key : ∀ (l t : List TDot), l.foldl (fun t d => if C.hasC c d.dev d.n=true then t++[d] else t) t=t++l.filter fun d => C.hasC c d.dev d.n := by
    intro l
    induction l with
    | nil => intro t; simp
    | cons x r ih =>
      intro t;rw[List.foldl_cons, ih]
      by_cases h : C.hasC c x.dev x.n=true
      · rw[if_pos h, List.filter_cons, if_pos h, List.append_assoc]; rfl
      · rw[if_neg h, List.filter_cons, if_neg h]
  rw[show(0 : Int)=((0 : Nat) : Int) from rfl, this, pure_bind, key, List.nil_append, D.Sort_eq _ (by have := List.length_filter_le (fun d : TDot => C.hasC c d.dev d.n) l; omega), det_pure, pure_bind, det_pure, pure_bind, keepK]
theorem rKeep_eq(l : List TDot)(c : List TPart)(hl : l.length ≤ 1000000000)(hc : C.Ok c) : r17_Keep l c=pure (keepK l c) := by
  unfold r17_Keep;have := loopL (body := r17_Keep_l0 l c) l (fun i t => (t, (i : Int))) (fun t d => if C.hasC c d.dev d.n=true then D.insD t d else t) (fun t => pure t) (fun i t => t.length ≤ i) (fun i x t hx hi hI => by
    have hd : decide ((i : Int) < (l.length : Int))=true := by simpa using hi
    refine ⟨?_, by split
                   · have := D.ins_len t x; omega
                   · omega⟩
    unfold r17_Keep_l0;simp only[hd, cond_true, idx_nat hx, pure_bind, C.rHas_eq c x hc, det_pure, wSucc (show i < 9223372036854775807 by omega)]
    by_cases c : C.hasC c x.dev x.n=true
    · rw[c, cond_true, D.rPut_eq t x (by omega), det_pure, pure_bind, pure_bind, if_pos rfl]
    · simp only[Bool.not_eq_true] at c;rw[c, cond_false, pure_bind]; rfl) (fun t _ => by
    unfold r17_Keep_l0;simp[pure_bind]) [] (by simp)
  have key : ∀ (l t : List TDot), l.foldl (fun t d => if C.hasC c d.dev d.n=true then D.insD t d else t) t=(l.filter fun d => C.hasC c d.dev d.n).foldl D.insD t := by
    intro l
    induction l with
    | nil => intro t; rfl
    | cons x r ih =>
      intro t;rw[List.foldl_cons, ih]
      by_cases h : C.hasC c x.dev x.n=true
      · rw[if_pos h, List.filter_cons, if_pos h]; rfl
      · rw[if_neg h, List.filter_cons, if_neg h]
  rw[show(0 : Int)=((0 : Nat) : Int) from rfl, this, pure_bind, key]; rfl
theorem keep_len(l:List TDot)(c:List TPart):(keepK l c).length ≤ l.length:=Nat.le_trans (D.sort_len _) (List.length_filter_le _ _)
def again(dev:Int)(c:List TPart)(i:Nat)(e:TEvent):TEvent:=⟨⟨dev,(i:Int)+1⟩,e.kind,e.cid,e.field,e.text,keepK e.kills c⟩
def replay(l:List TEvent)(dev:Int)(c:List TPart):List TEvent:=l.mapIdx (again dev c)
theorem wN{i:Nat}(h:i ≤ 1000000000):IntKind.u64.wrap (IntKind.u64.wrap (i:Int)+1)=(i:Int)+1:=by rw[wU64 (n:=(i:Int)) (by omega) (by omega),wU64 (by omega) (by omega)]
theorem replay_take{l:List TEvent}{i:Nat}{x:TEvent}(dev:Int)(c:List TPart)(hx:l[i]?=some x):(replay l dev c).take (i+1)=(replay l dev c).take i++[again dev c i x]:=by
 have hi:(replay l dev c)[i]?=some (again dev c i x):=by rw[replay,List.getElem?_mapIdx,hx];rfl
 rw[List.take_add_one,hi];rfl
theorem Replay_eq(l:List TEvent)(dev:Int)(c:List TPart)(h:l.length ≤ 1000000000)(hk:∀ e∈l,e.kills.length ≤ 1000000000)(hc:C.Sm c):outbox_Replay l dev c=pure (replay l dev c):=by
 unfold outbox_Replay;rw[need_true (by omega),Int.toNat_natCast];have hR:(replay l dev c).length=l.length:=by simp[replay]
 have key:∀ (k i:Nat),i+k=l.length → loop (outbox_Replay_l0 l c dev) ((i:Int),(replay l dev c).take i++List.replicate k ⟨⟨0,0⟩,0,0,0,⟨#[]⟩,[]⟩)=pure (replay l dev c):=by
  intro k
  induction k with
  | zero=>
   intro i hi;refine loop_done ?_;unfold outbox_Replay_l0;have:decide ((i:Int) < (l.length:Int))=false:=by simp;omega
   simp only[this,cond_false,List.replicate_zero,List.append_nil];rw[List.take_of_length_le (by omega)]
  | succ k ih=>
   intro i hi;obtain⟨x,hx⟩:∃ x,l[i]?=some x:=⟨_,List.getElem?_eq_getElem (by omega)⟩
   have hd:decide ((i:Int) < (l.length:Int))=true:=by simp;omega
   have hT:((replay l dev c).take i).length=i:=by rw[List.length_take];omega
   have hv:((replay l dev c).take i++List.replicate (k+1) (⟨⟨0,0⟩,0,0,0,⟨#[]⟩,[]⟩:TEvent))[i]?=some ⟨⟨0,0⟩,0,0,0,⟨#[]⟩,[]⟩:=by
    rw[List.getElem?_append_right (by omega),hT,Nat.sub_self];rfl
   have hset:((replay l dev c).take i++List.replicate (k+1) (⟨⟨0,0⟩,0,0,0,⟨#[]⟩,[]⟩:TEvent)).set i (again dev c i x)=(replay l dev c).take (i+1)++List.replicate k ⟨⟨0,0⟩,0,0,0,⟨#[]⟩,[]⟩:=by
    rw[List.set_append_right _ _ (by omega),hT,Nat.sub_self,List.replicate_succ,List.set_cons_zero,replay_take dev c hx,List.append_assoc];rfl
   rw[loop_next (s':=(((i+1:Nat):Int),(replay l dev c).take (i+1)++List.replicate k ⟨⟨0,0⟩,0,0,0,⟨#[]⟩,[]⟩)) ?_]
   ·exact ih (i+1) (by omega)
   ·unfold outbox_Replay_l0;simp only[hd,cond_true,idx_nat hx,pure_bind,Keep_eq x.kills c (hk x (List.mem_of_getElem? hx)) hc,det_pure,idx_nat hv,wN (show i ≤ 1000000000 by omega),Int.toNat_natCast,wSucc (show i < 9223372036854775807 by omega)];rw[← hset];rfl
 have:=key l.length 0 (by omega);rw[List.take_zero,List.nil_append] at this;exact(congrArg (fun m=>M.bind m fun v5=>pure v5) this).trans (pure_bind _ _)
theorem rReplay_eq(l:List TEvent)(dev:Int)(c:List TPart)(h:l.length ≤ 1000000000)(hk:∀ e∈l,e.kills.length ≤ 1000000000)(hc:C.Ok c):r29_Replay l dev c=pure (replay l dev c):=by
 unfold r29_Replay;have hR:(replay l dev c).length=l.length:=by simp[replay]
 have key:∀ (k i:Nat),i+k=l.length → loop (r29_Replay_l0 l c dev) ((i:Int),(replay l dev c).take i)=pure (replay l dev c):=by
  intro k
  induction k with
  | zero=>
   intro i hi;refine loop_done ?_;unfold r29_Replay_l0;have:decide ((i:Int) < (l.length:Int))=false:=by simp;omega
   simp only[this,cond_false];rw[List.take_of_length_le (by omega)]
  | succ k ih=>
   intro i hi;obtain⟨x,hx⟩:∃ x,l[i]?=some x:=⟨_,List.getElem?_eq_getElem (by omega)⟩
   have hd:decide ((i:Int) < (l.length:Int))=true:=by simp;omega
   have hT:((replay l dev c).take i).length=i:=by rw[List.length_take];omega
   rw[loop_next (s':=(((i+1:Nat):Int),(replay l dev c).take (i+1))) ?_]
   ·exact ih (i+1) (by omega)
   ·unfold r29_Replay_l0;simp only[hd,cond_true,idx_nat hx,pure_bind,rKeep_eq x.kills c (hk x (List.mem_of_getElem? hx)) hc,det_pure,wN (show i ≤ 1000000000 by omega),wSucc (show i < 9223372036854775807 by omega)];rw[need_true (by rw[hT];simp;omega),replay_take dev c hx];rfl
 have:=key l.length 0 (by omega);rw[List.take_zero] at this;rw[show(0:Int)=((0:Nat):Int) from rfl,this,pure_bind]
def e0 : TEvent:=⟨⟨0,0⟩,0,0,0,⟨#[]⟩,[]⟩
def e4 : TEvent:=⟨⟨0,0⟩,0,0,0,⟨#[101]⟩,[]⟩
def six : List TEvent:=[e0,e0,e0,e0,e4,e0]
theorem works29 : l29_works=pure true:=by
 have hk:∀ e∈six,e.kills.length ≤ 1000000000000:=fun e he=>by
  simp only[six,List.mem_cons,List.not_mem_nil,or_false] at he;rcases he with rfl | rfl | rfl | rfl | rfl | rfl <;> exact Nat.zero_le _
 have b1:∀ p,outbox_Batch six p=pure (batch six p):=fun p=>Batch_eq six p (by decide) hk
 have b0:outbox_Batches six=pure 2:=Batches_eq six (by decide);have i0:idx (List.replicate (Int.toNat 6) e0) 4=pure e0:=idx_nat (i:=4) rfl;have i4:idx six 4=pure e4:=idx_nat (i:=4) rfl;have p1:batch six 1=[e4,e0]:=rfl;have p3:batch six 3=[e4,e0]:=rfl;have p0:batch six 0=[e0,e0,e0,e0]:=rfl;have j0:idx [e4,e0] 0=pure e4:=idx_nat (i:=0) rfl;have hs:List.set (List.replicate (Int.toNat 6) e0) (Int.toNat 4) e4=six:=rfl;unfold l29_works;rw[need_true (by decide)];show(idx (List.replicate (Int.toNat 6) e0) 4).bind _=_;rw[i0,pure_bind];show((det (outbox_Batches six)).bind fun v5=>cond (decide (v5=2)) ((det (outbox_Batch six 1)).bind fun v8=>cond (decide ((v8.length:Int)=2)) ((det (outbox_Batch six 3)).bind fun v11=>cond (decide ((v11.length:Int)=2)) ((det (outbox_Batch six 0)).bind fun v14=>cond (decide ((v14.length:Int)=4)) ((det (outbox_Batch six 3)).bind fun v17=>(idx v17 0).bind fun x19=>(idx six 4).bind fun x21=>(det (r13_Same x19 x21)).bind fun v23=>pure v23) (pure false)) (pure false)) (pure false)) (pure false)).bind (fun v4=>pure v4)=_;rw[b0,b1,b1,b1,p1,p3,p0];simp only[det_pure,pure_bind,j0,i4];rw[rSame_eq e4 e4 (Nat.zero_le _),det_pure,pure_bind]
 rfl
end Go.Ep.M.E
namespace Go.Ep.M.E
open Go Go.Proofs
theorem nil_of_len{α:Type}{l:List α}(h:decide ((l.length:Int) > 0)=false):l=[]:=by
 have:=of_decide_eq_false h;exact List.length_eq_zero_iff.1 (by omega)
theorem hasC_none{c:List TPart}{k:Int}(h:R.nrm (C.rawC c k)=[])(n:Int):C.hasC c k n=false:=by
 unfold C.hasC;rw[← R.nrm_has,h];rfl
theorem keep_mem{l:List TDot}{c:List TPart}{d:TDot}(h:d∈keepK l c):d∈l ∧ C.hasC c d.dev d.n=true:=by
 have:=D.sort_mem.1 h
 rwa [List.mem_filter] at this
theorem good_again{dev:Int}{c:List TPart}{i:Nat}{e:TEvent}(h1:1 ≤ dev)(hi:i ≤ 1000000)(hn:∀ n,C.hasC c dev n=false)(h:goodE e=true):goodE (again dev c i e)=true:=by
 unfold goodE at h ⊢;simp only[Bool.and_eq_true] at h ⊢;obtain⟨⟨g1,_⟩,g3,g4⟩:=h;refine⟨⟨g1,V.goodD_iff.2 ⟨h1,by show(1:Int) ≤ (i:Int)+1;omega,by show(i:Int)+1 ≤ _;omega⟩⟩,g3,?_⟩;unfold goodL at g4 ⊢;simp only[Bool.and_eq_true,decide_eq_true_eq,List.all_eq_true] at g4 ⊢;obtain⟨q1,_,q3⟩:=g4;refine⟨Nat.le_trans (keep_len _ _) q1,D.rise_iff.2 (D.sort_srt _),fun d hd=>?_⟩;obtain⟨m1,m2⟩:=keep_mem hd;refine⟨(q3 d m1).1,?_⟩;have:d≠(again dev c i e).dot:=fun e2=>by
  rw[e2] at m2;have:=hn (again dev c i e).dot.n;rw[show(again dev c i e).dot.dev=dev from rfl] at m2;rw[this] at m2;cases m2
 simp[this]
theorem ok_again{dev:Int}{c:List TPart}{i:Nat}{e:TEvent}(h1:0 ≤ dev ∧ dev ≤ 65535)(hi:i ≤ 1000000)(h:OkE e):OkE (again dev c i e):=
 ⟨⟨h1.1,h1.2,by show(0:Int) ≤ (i:Int)+1;omega,by show(i:Int)+1 ≤ _;omega⟩,h.kind,h.cid,h.field,h.text,fun d hd=>h.kills d (keep_mem hd).1,Nat.le_trans (keep_len _ _) h.klen⟩
theorem outboxNew_eq(l:List TEvent)(dev:Int)(c:List TPart)(h:∀ e∈l,e.kills.length ≤ 300 ∧ e.text.size ≤ 200 → OkE e)(hd:0 ≤ dev ∧ dev ≤ 65535)(hc:∀ p∈c,0 ≤ p.dev):l29_OutboxNew l dev c=pure true:=by
 unfold l29_OutboxNew;rw[show r13_Few l 30=pure (fewE l 30) from rFew_eq l 30 (by decide),det_pure,pure_bind,works29,C.rFew_eq,det_pure,pure_bind]
 cases hf:fewE l 30 with
 | false=>simp only[Bool.not_false,cond_true,det_pure,pure_bind]
 | true=>
  simp only[Bool.not_true,cond_false]
  cases hg:(decide (c.length ≤ 30)&&c.all fun p=>decide (p.runs.length ≤ 30)) with
  | false=>simp only[Bool.not_false,cond_true,det_pure,pure_bind]
  | true=>
   obtain⟨h1,h2⟩:=few_mem hf;have hcc:=C.few_tot hg;have ho:=C.ok_few hc hcc;simp only[Bool.not_true,cond_false]
   by_cases d0:dev=0
   ·simp only[decide_eq_true d0,cond_true,det_pure,pure_bind]
   rw[decide_eq_false d0,cond_false,C.rRuns_eq c dev hd.1 ho.len ho.tot,det_pure,pure_bind]
   cases hr:decide (((R.nrm (C.rawC c dev)).length:Int) > 0) with
   | true=>simp only[cond_true,det_pure,pure_bind]
   | false=>
    have hn:=hasC_none (nil_of_len hr);have hk:∀ e∈l,e.kills.length ≤ 1000000000:=fun e he=>by have:=(h2 e he).1;omega
    have hrl:(replay l dev c).length=l.length:=by simp[replay]
    have hok:∀ e∈l,OkE e:=fun e he=>h e he (h2 e he)
    have hrk:∀ e∈replay l dev c,e.kills.length ≤ 1000000000000:=fun e he=>by
     obtain⟨i,hi⟩:=List.mem_iff_getElem?.1 he;rw[replay,List.getElem?_mapIdx] at hi
     cases hx:l[i]? with
     | none=>rw[hx] at hi;cases hi
     | some x=>
      rw[hx] at hi
      cases hi
      have h3:=keep_len x.kills c;have h4:=hk x (List.mem_of_getElem? hx);show(keepK x.kills c).length ≤ _;omega
    have hC:l.length=(replay l dev c).length ∧ ∀ i a b,l[i]?=some a → (replay l dev c)[i]?=some b → Chk dev c i a b:=by
     refine⟨hrl.symm,fun i a b ha hb=>?_⟩;rw[replay,List.getElem?_mapIdx,ha] at hb;simp only[Option.map_some,Option.some.injEq] at hb;subst hb;have hi:i < l.length:=(List.getElem?_eq_some_iff.1 ha).1;have oa:=hok a (List.mem_of_getElem? ha);refine⟨rfl,rfl,rfl,rfl,rfl,(wN (by omega)).symm,⟨goodE a,by rw[rGood_eq oa];rfl,fun hg=>by rw[rGood_eq (ok_again hd (by omega) oa)];exact good_again (by omega) (by omega) hn hg⟩,fun d hd=>?_⟩;rw[C.rHas_eq c d ho];exact(keep_mem hd).2
    simp only[pure_bind,cond_false];rw[Replay_eq l dev c (by omega) hk ho.sm,det_pure,pure_bind,need_true hC,rReplay_eq l dev c (by omega) hk ho,det_pure,pure_bind,rAll_eq _ _ (by omega) hrk];simp only[det_pure,pure_bind,decide_true,cond_true]
end Go.Ep.M.E
namespace Go.Ep
open Go.RowKit Go.ChangeShapes Go.WideShapes
abbrev All : Nat → Prop:=fun _=>True
mutual
def bulk{H:Type}:DataW H → Nat
 | .lit (.string bytes)=>bytes.length+1
 | .lit _=>1
 | .nil=>1
 | .ptr d=>bulk d+1
 | .slice elems spare=>bulkAll elems+bulkAll spare+1
 | .agg parts=>bulkAll parts+1
 | .iface _ d=>bulk d+1
 | .map entries=>bulkEntries entries+1
 | .held _=>1
def bulkAll{H:Type}:List (DataW H) → Nat
 | []=>0
 | d::r=>bulk d+bulkAll r
def bulkEntries{H:Type}:List (Lit×DataW H) → Nat
 | []=>0
 | x::r=>bulkEntry x+bulkEntries r
def bulkEntry{H:Type}:Lit×DataW H → Nat
 | (.string bytes,d)=>bytes.length+bulk d+1
 | (_,d)=>bulk d+1
end
theorem one_bulk{H:Type}(d:DataW H):1 ≤ bulk d:=by
 cases d with
 | lit l=>cases l <;> simp[bulk]
 | nil=>simp[bulk]
 | ptr d=>simp[bulk]
 | slice elems spare=>simp[bulk]
 | agg parts=>simp[bulk]
 | iface t d=>simp[bulk]
 | map entries=>simp[bulk]
 | held h=>simp[bulk]
theorem bulkAll_app{H:Type}(l r:List (DataW H)):bulkAll (l++r)=bulkAll l+bulkAll r:=by
 induction l with
 | nil=>simp[bulkAll]
 | cons x l ih=>simp only[List.cons_append,bulkAll,ih];omega
def szL{α:Type}(sz:α → Nat):List α → Nat
 | []=>0
 | a::r=>sz a+szL sz r
theorem szL_app{α:Type}(sz:α → Nat)(l r:List α):szL sz (l++r)=szL sz l+szL sz r:=by
 induction l with
 | nil=>simp[szL]
 | cons x l ih=>simp only[List.cons_append,szL,ih];omega
structure Opn(P:Program)(t:TypeId)(k:Nat){α:Type}(enc:α → List DV)(ok:α → Prop)(sz:α → Nat):Prop where
 cells:P.cellsOf t=k
 op:∀ {H:Type} {en:TypeId×Value → H} {w:World} {fuel:Nat} {cs:List Value} {x:DataW H×List MemPlace},DataW.trod en P w 0 (fun _=>true) true fuel t cs=some x →
  ∃ a,ok a ∧ cs.length=k ∧ (enc a).length=k ∧ (∀ (j:Nat) (y:DV) (u:Value),(enc a)[j]?=some y → cs[j]?=some u → DRd w All y u) ∧ sz a ≤ bulk x.1
section
variable{P:Program}{t:TypeId}
theorem Opn.map{k:Nat}{α β:Type}{enc:α → List DV}{enc':β → List DV}{ok:α → Prop}{ok':β → Prop}{sz:α → Nat}{sz':β → Nat}(h:Opn P t k enc ok sz)(f:α → β)(he:∀ a,ok a → enc' (f a)=enc a)(ho:∀ a,ok a → ok' (f a))(hz:∀ a,sz' (f a) ≤ sz a):Opn P t k enc' ok' sz':=
 ⟨h.cells,fun hx=>let ⟨a,h1,h2,h3,h4,h5⟩:=h.op hx;⟨f a,ho a h1,h2,by rw[he a h1];exact h3,by rw[he a h1];exact h4,Nat.le_trans (hz a) h5⟩⟩
theorem one_get{w:World}{y:DV}{u:Value}(h:DRd w All y u):∀ (j:Nat) (y':DV) (u':Value),[y][j]?=some y' → [u][j]?=some u' → DRd w All y' u':=by
 intro j y' u' h1 h2
 cases j with
 | zero=>simp at h1 h2;subst h1;subst h2;exact h
 | succ j=>simp at h1
def okK(k:IntKind)(n:Int):Prop:=(Lit.int k n).wf=true
theorem Opn.int{k:IntKind}(hu:P.underlying t=some (.int k))(hc:P.cellsOf t=1):Opn P t 1 (eK k) (okK k) (fun _=>1):=by
 refine⟨hc,fun {H en w fuel cs x} h=>?_⟩
 cases fuel with
 | zero=>simp[DataW.trod] at h
 | succ fuel=>
  unfold DataW.trod at h;rw[hu] at h
  split at h <;> simp_all
  case h_2 n _=>
   obtain⟨⟨h1,h2⟩,_⟩:=h;subst h1;refine⟨n,h2,rfl,?_,one_bulk _⟩;intro j y u h1 h3;exact one_get (.v _ rfl) j y u h1 h3
theorem okU64{n:Int}(h:okK .u64 n):0 ≤ n ∧ n < 18446744073709551616:=by
 simp[okK,Lit.wf,IntKind.min,IntKind.max,IntKind.signed,IntKind.bits] at h;omega
theorem okU16{n:Int}(h:okK .u16 n):0 ≤ n ∧ n < 65536:=by
 simp[okK,Lit.wf,IntKind.min,IntKind.max,IntKind.signed,IntKind.bits] at h;omega
theorem okU8{n:Int}(h:okK .u8 n):0 ≤ n ∧ n < 256:=by
 simp[okK,Lit.wf,IntKind.min,IntKind.max,IntKind.signed,IntKind.bits] at h;omega
theorem Opn.str(hu:P.underlying t=some .string)(hc:P.cellsOf t=1):Opn P t 1 eS (fun s=>s.size ≤ 9223372036854775807) (fun s=>s.size+1):=by
 refine⟨hc,fun {H en w fuel cs x} h=>?_⟩
 cases fuel with
 | zero=>simp[DataW.trod] at h
 | succ fuel=>
  unfold DataW.trod at h;rw[hu] at h
  split at h <;> simp_all
  case h_4=>
   rename_i s
   obtain⟨h1,h2⟩:=h;refine⟨s,by have:=h1;unfold maxLen at this;exact this,rfl,?_,?_⟩
   ·intro j y u h1 h2;exact one_get (.v _ rfl) j y u h1 h2
   ·subst h2;have e:s.data.toList.length=s.size:=Array.length_toList;show s.size+1 ≤ bulk (DataW.lit (Lit.string s.data.toList));unfold bulk;omega
theorem Opn.slice{e:TypeId}{k:Nat}{α:Type}{enc:α → List DV}{ok:α → Prop}{sz:α → Nat}(h:Opn P e k enc ok sz)(hu:P.underlying t=some (.slice e))(hc:P.cellsOf t=1)(hk:0 < k) :
  Opn P t 1 (eL enc) (fun l=>l.length ≤ 9223372036854775807 ∧ ∀ a∈l,ok a) (fun l=>szL sz l+1):=by
 refine⟨hc,fun {H en w fuel cs x} hx=>?_⟩;rcases Deep.open_slice hu hx with⟨rfl,_⟩ | ⟨a,len,cap,m,n,D,Pl,rfl,_,hl,hm,hmm,hxD,hel⟩
 ·exact⟨[],⟨Nat.zero_le _,by simp⟩,rfl,rfl,one_get (.nil none 0 (Nat.zero_le _) (fun _=>rfl)),one_bulk _⟩
 simp only[if_true] at hmm;subst hmm;rw[h.cells] at hel;have hcut:∀ n0,n0 ≤ len → ∃ l:List α,l.length=n0 ∧ (∀ a∈l,ok a) ∧ szL sz l ≤ bulkAll ((List.range n0).map D) ∧ ∀ (i:Nat) (b:α),l[i]?=some b → (enc b).length=k ∧ ∀ (j:Nat) (y:DV),(enc b)[j]?=some y → ∃ u,w.cell? (a.add (i*k+j))=some u ∧ DRd w All y u:=by
  intro n0
  induction n0 with
  | zero=>intro _;exact⟨[],rfl,by simp,by simp[szL],by simp⟩
  | succ n0 ih=>
   intro hn;obtain⟨l,h1,h2,hz,h3⟩:=ih (by omega);obtain⟨cs',hc',ht'⟩:=hel n0 (by omega);obtain⟨b,hb1,hb2,hb3,hb4,hb5⟩:=h.op ht';obtain⟨_,_,hcell⟩:=World.cells?_some hc';refine⟨l++[b],by simp[h1],?_,by rw[szL_app,List.range_succ,List.map_append,bulkAll_app];simp only[szL,List.map_cons,List.map_nil,bulkAll];simp only at hb5;omega,?_⟩
   ·intro a ha;rcases List.mem_append.1 ha with ha | ha
    ·exact h2 a ha
    ·simp at ha;subst ha;exact hb1
   ·intro i b' hi;rw[List.getElem?_append] at hi
    split at hi
    ·exact h3 i b' hi
    ·rename_i hge
     have hi0:i=n0:=by
      have:i - l.length < 1:=by simpa using (List.getElem?_eq_some_iff.1 hi).1
      omega
     subst hi0;simp[h1] at hi;subst hi;refine⟨hb3,fun j y hy=>?_⟩;have hj:j < k:=by rw[← hb3];exact(List.getElem?_eq_some_iff.1 hy).1
     have hcj:=hcell j hj;rw[Deep.add_add] at hcj;have hu':cs'[j]?=some (cs'[j]'(by omega)):=List.getElem?_eq_getElem (by omega);exact⟨_,by rw[hcj,hu'],hb4 j y _ hy hu'⟩
 obtain⟨l,h1,h2,hz,h3⟩:=hcut len (Nat.le_refl _);refine⟨l,⟨by unfold maxLen at hm;omega,h2⟩,rfl,rfl,one_get ?_,?_⟩
 rotate_left
 ·rw[hxD];simp only[bulk];omega
 by_cases h0:len=0
 ·have:l=[]:=List.eq_nil_of_length_eq_zero (by omega);subst this;subst h0;exact .nil _ _ hm (fun e=>by cases e)
 ·-- the first cell tells that the address is a plain one
  have hl0:0 < l.length:=by omega
  obtain⟨hk0,hc0⟩:=h3 0 _ (List.getElem?_eq_getElem hl0);obtain⟨u0,hu0,_⟩:=hc0 0 _ (List.getElem?_eq_getElem (by omega:0 < (enc l[0]).length));have hspot:a.spot=none:=by simpa[Addr.add] using World.cell?_spot hu0
  obtain⟨b,off,spot⟩:=a;simp only at hspot;subst hspot;have hb:b < w.heap.size:=by
   rw[Addr.add_lit] at hu0;unfold World.cell? at hu0
   cases hh:w.heap[b]? with
   | none=>simp[hh] at hu0
   | some o=>exact(Array.getElem?_eq_some_iff.1 hh).1
  have hlen:(l.map enc).length=len:=by simp[h1]
  rw[← hlen];refine .sl _ b off m k (fun i j=>(w.cell? ⟨b,off+(i*k+j),none⟩).getD undef) (by omega) hm trivial hb ?_ ?_ ?_
  ·intro i cs hi;rw[List.getElem?_map] at hi
   cases hx:l[i]? with
   | none=>simp[hx] at hi
   | some y=>simp[hx] at hi;subst hi;exact(h3 i y hx).1
  ·intro i j hi hj;have hil:i < l.length:=by simpa using hi
   obtain⟨e1,e2⟩:=h3 i _ (List.getElem?_eq_getElem hil);obtain⟨u,hu,_⟩:=e2 j _ (List.getElem?_eq_getElem (by omega:j < (enc l[i]).length));rw[Addr.add_lit] at hu;simp[hu]
  ·intro i cs j x hi hx;rw[List.getElem?_map] at hi
   cases hy:l[i]? with
   | none=>simp[hy] at hi
   | some y=>
    simp[hy] at hi;subst hi;obtain⟨u,hu,hd⟩:=(h3 i y hy).2 j x hx;rw[Addr.add_lit] at hu;simpa[hu] using hd
structure OpnF(P:Program)(fs:List Field)(off k:Nat){α:Type}(enc:α → List DV)(ok:α → Prop)(sz:α → Nat):Prop where
 op:∀ {H:Type} {en:TypeId×Value → H} {w:World} {n:Nat} {cs:List Value} {xs:List (DataW H×List MemPlace)},xs.length=fs.length →
  (∀ (i:Nat) (f:Field),fs[i]?=some f → DataW.trod en P w 0 (fun _=>true) true n f.type ((cs.drop f.offset).take (P.cellsOf f.type))=xs[i]?) →
  ∃ a,ok a ∧ (enc a).length=k ∧ (∀ (j:Nat) (y:DV) (u:Value),(enc a)[j]?=some y → cs[off+j]?=some u → DRd w All y u) ∧ sz a ≤ bulkAll (xs.map (·.1))
theorem OpnF.nil(off:Nat):OpnF P [] off 0 (fun _:Unit=>[]) (fun _=>True) (fun _=>0):=⟨fun _ _=>⟨(),trivial,rfl,by simp,Nat.zero_le _⟩⟩
theorem OpnF.cons{f:Field}{fs:List Field}{off k1 k2:Nat}{α β:Type}{e1:α → List DV}{o1:α → Prop}{e2:β → List DV}{o2:β → Prop}{z1:α → Nat}{z2:β → Nat}(h1:Opn P f.type k1 e1 o1 z1)(ho:f.offset=off)(h2:OpnF P fs (off+k1) k2 e2 o2 z2) :
  OpnF P (f::fs) off (k1+k2) (fun p:α×β=>e1 p.1++e2 p.2) (fun p=>o1 p.1 ∧ o2 p.2) (fun p=>z1 p.1+z2 p.2):=by
 refine⟨fun {H en w n cs xs} hlen hx=>?_⟩
 cases xs with
 | nil=>simp at hlen
 | cons x xs=>
  have hx0:=hx 0 f rfl;simp only[List.getElem?_cons_zero] at hx0;obtain⟨a,ha1,ha2,ha3,ha4,ha5⟩:=h1.op hx0;obtain⟨b,hb1,hb2,hb3,hb4⟩:=h2.op (xs:=xs) (by simpa using hlen) (fun i f' hf=>by have:=hx (i+1) f' (by simpa using hf);simpa using this);refine⟨(a,b),⟨ha1,hb1⟩,by simp[ha3,hb2],?_,by simp only[List.map_cons,bulkAll];omega⟩;intro j y u hy hu;simp only[List.getElem?_append] at hy
  by_cases hj:j < k1
  ·rw[if_pos (by omega)] at hy;refine ha4 j y u hy ?_;rw[List.getElem?_take,h1.cells,if_pos hj,List.getElem?_drop,ho];exact hu
  ·rw[if_neg (by omega),ha3] at hy;refine hb3 (j - k1) y u hy ?_;rw[← hu]
   congr 1
   omega
theorem Opn.struct{fs:List Field}{k:Nat}{α:Type}{enc:α → List DV}{ok:α → Prop}{sz:α → Nat}(hu:P.underlying t=some (.struct fs.toArray))(hc:P.cellsOf t=k)(h:OpnF P fs 0 k enc ok sz):Opn P t k enc ok (fun a=>sz a+1):=by
 refine⟨hc,fun {H en w fuel cs x} hx=>?_⟩;obtain⟨xs,n,_,hxe,hlen,hxl,hf⟩:=DataW.trod_struct hu hx;obtain⟨a,h1,h2,h3,h4⟩:=h.op (cs:=cs) (xs:=xs) (by simpa using hxl) (fun i f hi=>hf i f (by simpa using hi));exact⟨a,h1,by rw[hlen,hc],h2,fun j y u hy hu=>h3 j y u hy (by simpa using hu),by rw[hxe];simp only[bulk];omega⟩
theorem Opn.arg{H:Type}{en:TypeId×Value → H}{w:World}{v:Value}{d:DataW H}{ps:List MemPlace}{α:Type}{enc:α → DV}{ok:α → Prop}{sz:α → Nat}(h:Opn P t 1 (fun a=>[enc a]) ok sz)
  (hx:DataW.Trod en P w 0 (fun _=>true) true t v d ps) (h1:v.oneCell'=true):∃ a,ok a ∧ Rd w g0 All (.d (enc a)) v ∧ sz a ≤ bulk d:=by
 obtain⟨fuel,hf⟩:=hx;obtain⟨a,ha,_,_,hr,hz⟩:=h.op hf;have hcs:v.cells.toList=[v]:=by cases v <;> first | rfl | (simp[Value.oneCell'] at h1;done)
 exact⟨a,ha,.d (hr 0 _ v rfl (by rw[hcs];rfl)),hz⟩
theorem trodAll_below{H:Type}{en:TypeId×Value → H}(hl:laidOutB P=true){W W':World}(hb:Below W.heap.size W W'):∀ {ts:List TypeId} {vs:List Value} {ds:List (DataW H)} {ps:List MemPlace},
  (∀ t∈ts,P.readableRec t=true ∧ t < P.types.size) → DataW.TrodAll en P W 0 (fun _=>true) true ts vs ds ps → (∀ x∈ps,x.block < W.heap.size) → DataW.TrodAll en P W' 0 (fun b=>decide (b < W.heap.size)) true ts vs ds ps
 | [],[],[],ps,_,h,_=>h
 | t::ts,v::vs,d::ds,ps,hr,h,hlt=>by
  obtain⟨p,q,h1,h2,rfl⟩:=h;have hrt:=hr t (by simp);exact⟨p,q,Below.trod hl hrt.1 hrt.2 h1 hb (fun x hx=>hlt x (List.mem_append.2 (.inl hx))),trodAll_below hl hb (fun t ht=>hr t (by simp[ht])) h2 (fun x hx=>hlt x (List.mem_append.2 (.inr hx))),rfl⟩
 | [],[],_::_,_,_,h,_=>h.elim
 | [],_::_,_,_,_,h,_=>h.elim
 | _::_,[],_,_,_,h,_=>h.elim
 | _::_,_::_,[],_,_,h,_=>h.elim
theorem trodAll_len{H:Type}{en:TypeId×Value → H}{w:World}{base:Nat}{sp:Nat → Bool}{hd:Bool}:∀ {ts:List TypeId} {vs:List Value} {ds:List (DataW H)} {ps:List MemPlace},DataW.TrodAll en P w base sp hd ts vs ds ps → ds.length=ts.length
 | [],[],[],_,_=>rfl
 | _::_,_::_,_::_,_,h=>by
  obtain⟨_,_,_,h2,_⟩:=h;simp[trodAll_len h2]
 | [],[],_::_,_,h=>h.elim
 | [],_::_,_,_,h=>h.elim
 | _::_,[],_,_,h=>h.elim
 | _::_,_::_,[],_,h=>h.elim
theorem post_true{H:Type}{en:TypeId×Value → H}{fn:Func}{s:ChangeSpec}{tb:TypeId}{W W':World}{args:Array Value}{ds gs:List (DataW H)}{before:List MemPlace}(hl:laidOutB P=true)
  (hW:DataW.Whole en P fn.params.toList s.vars false W args.toList ds gs before) (hv:s.vars=[]) (hs:∀ ds:List (DataW H),ds.length=fn.params.size → (s.fn H ds).results=[.lit (.bool true)] ∧ (s.fn H ds).args=ds ∧ (s.fn H ds).vars=[])
  (hres:fn.resultTypes=#[tb]) (htb:P.underlying tb=some .bool) (hr:∀ t∈fn.params.toList,P.readableRec t=true ∧ t < P.types.size) (hb:Below W.heap.size W W') :
  s.post en P fn false true false false W args (.bool true) W':=by
 have hW':=hW;obtain⟨p,q,hA,hV,hpq,hfz,hnd⟩:=hW;rw[hv] at hV;obtain⟨rfl,rfl⟩:=trodVars_none hV;simp only[List.append_nil] at hpq;subst hpq;have hlt:∀ x∈before,x.block < W.heap.size:=fun x hx=>by simpa using hW'.lt x hx
 have hlen:ds.length=fn.params.size:=by simpa using trodAll_len hA
 obtain⟨e1,e2,e3⟩:=hs (ds++[]) (by simpa using hlen);refine⟨ds,[],before,[],before,[],hW',?_,?_,?_,hb.frame _,fun h=>by cases h⟩
 ·rw[e1,hres];exact trodAll_mk1 (shut_bool htb true)
 ·rw[e2,List.append_nil];exact trodAll_below hl hb hr hA hlt
 ·rw[e3,hv];rfl
end
end Go.Ep
namespace Go.Ep
set_option linter.unusedVariables false
def TDot.ok(x:TDot):Prop:=okK .u16 x.dev ∧ okK .u64 x.n
def TDot.sz(x:TDot):Nat:=(1+(1+0))+1
def TRun.ok(x:TRun):Prop:=okK .u64 x.lo ∧ okK .u64 x.hi
def TRun.sz(x:TRun):Nat:=(1+(1+0))+1
def TPart.ok(x:TPart):Prop:=okK .u16 x.dev ∧ (List.length x.runs ≤ 9223372036854775807 ∧ ∀ a∈x.runs,TRun.ok a)
def TPart.sz(x:TPart):Nat:=(1+((szL TRun.sz x.runs+1)+0))+1
def TEvent.ok(x:TEvent):Prop:=TDot.ok x.dot ∧ okK .u8 x.kind ∧ okK .u64 x.cid ∧ okK .u8 x.field ∧ ByteArray.size x.text ≤ 9223372036854775807 ∧ (List.length x.kills ≤ 9223372036854775807 ∧ ∀ a∈x.kills,TDot.ok a)
def TEvent.sz(x:TEvent):Nat:=(TDot.sz x.dot+(1+(1+(1+((ByteArray.size x.text+1)+((szL TDot.sz x.kills+1)+0))))))+1
end Go.Ep
namespace Go.Proofs
open Go.Ep
set_option maxRecDepth 100000
theorem opnTDot : Opn Try.prog 34 2 TDot.e TDot.ok TDot.sz:=(Opn.struct Try.underlying34 (by kernel_rfl) (OpnF.cons (Opn.int Try.underlying23 (by kernel_rfl)) rfl (OpnF.cons (Opn.int Try.underlying32 (by kernel_rfl)) rfl (OpnF.nil _)))).map (fun p=>⟨p.1,p.2.1⟩) (fun _ _=>rfl) (fun p h=>⟨h.1,h.2.1⟩) (fun _=>Nat.le_refl _)
theorem opnTRun : Opn Try.prog 66 2 TRun.e TRun.ok TRun.sz:=(Opn.struct Try.underlying66 (by kernel_rfl) (OpnF.cons (Opn.int Try.underlying32 (by kernel_rfl)) rfl (OpnF.cons (Opn.int Try.underlying32 (by kernel_rfl)) rfl (OpnF.nil _)))).map (fun p=>⟨p.1,p.2.1⟩) (fun _ _=>rfl) (fun p h=>⟨h.1,h.2.1⟩) (fun _=>Nat.le_refl _)
theorem opnTPart : Opn Try.prog 43 2 TPart.e TPart.ok TPart.sz:=(Opn.struct Try.underlying43 (by kernel_rfl) (OpnF.cons (Opn.int Try.underlying23 (by kernel_rfl)) rfl (OpnF.cons (opnTRun.slice Try.underlying28 (by kernel_rfl) (by decide)) rfl (OpnF.nil _)))).map (fun p=>⟨p.1,p.2.1⟩) (fun _ _=>rfl) (fun p h=>⟨h.1,h.2.1⟩) (fun _=>Nat.le_refl _)
theorem opnTEvent : Opn Try.prog 37 7 TEvent.e TEvent.ok TEvent.sz:=(Opn.struct Try.underlying37 (by kernel_rfl) (OpnF.cons opnTDot rfl (OpnF.cons (Opn.int Try.underlying5 (by kernel_rfl)) rfl (OpnF.cons (Opn.int Try.underlying32 (by kernel_rfl)) rfl (OpnF.cons (Opn.int Try.underlying5 (by kernel_rfl)) rfl (OpnF.cons (Opn.str Try.underlying9 (by kernel_rfl)) rfl (OpnF.cons (opnTDot.slice Try.underlying35 (by kernel_rfl) (by decide)) rfl (OpnF.nil _)))))))).map (fun p=>⟨p.1,p.2.1,p.2.2.1,p.2.2.2.1,p.2.2.2.2.1,p.2.2.2.2.2.1⟩) (fun _ _=>rfl) (fun p h=>⟨h.1,h.2.1,h.2.2.1,h.2.2.2.1,h.2.2.2.2.1,h.2.2.2.2.2.1⟩) (fun _=>Nat.le_refl _)
end Go.Proofs

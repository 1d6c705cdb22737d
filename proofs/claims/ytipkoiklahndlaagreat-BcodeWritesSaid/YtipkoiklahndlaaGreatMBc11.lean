/- Texts that the walks and laws lean on, side by side. -/
import Derived.Test.YtipkoiklahndlaaGreatMBc10
set_option linter.unusedVariables false
set_option linter.unusedSimpArgs false
namespace Go.Ep.M.D
open Go

theorem Wq {a b:TDot}:zL a b = true ↔ a.dev < b.dev ∨ (a.dev = b.dev ∧ a.n < b.n):=by simp [zL]
theorem Yr (a:TDot):zL a a = false:=by
 cases h:zL a a with
 | false=>rfl
 | true=>rw [Wq] at h;omega
theorem Yh {a b c:TDot} (h1:zL a b = true) (h2:zL b c = true):zL a c = true:=by rw [Wq] at *;omega
theorem ZN {a b:TDot} (h:zL a b = true):zL b a = false:=by
 cases h2:zL b a with
 | false=>rfl
 | true=>rw [Wq] at h h2;omega
theorem jI {a b:TDot} (h1:zL a b = false) (h2:zL b a = false):a = b:=by
 have h3:¬ (zL a b = true):=by simp [h1]
 have h4:¬ (zL b a = true):=by simp [h2]
 rw [Wq] at h3 h4
 cases a;cases b
 simp only [TDot.mk.injEq] at *
 omega
abbrev Srt (l:List TDot):Prop:=l.Pairwise fun x y=>zL x y = true
theorem xxa : ∀ {l l':List TDot},Srt l → Srt l' → (∀ d,d ∈ l ↔ d ∈ l') → l = l'
 | [],[],_,_,_=>rfl
 | [],y :: r,_,_,h=>by have:=(h y).2 (by simp);simp at this
 | x :: r,[],_,_,h=>by have:=(h x).1 (by simp);simp at this
 | x :: r,y :: t,h1,h2,h=>by
  have hx:=(h x).1 (by simp);have hy:=(h y).2 (by simp);have e:x = y:=by
   rcases List.mem_cons.1 hx with e | hx
   ·exact e
   ·rcases List.mem_cons.1 hy with e | hy
    ·exact e.symm
    ·have a1:=(List.pairwise_cons.1 h2).1 x hx;have a2:=(List.pairwise_cons.1 h1).1 y hy;rw [ZN a1] at a2;cases a2
  subst e
  congr 1
  refine xxa (List.pairwise_cons.1 h1).2 (List.pairwise_cons.1 h2).2 fun d=>?_
  have h3:=h d;simp only [List.mem_cons] at h3
  constructor
  ·intro hd;rcases h3.1 (.inr hd) with e | h4
   ·have:=(List.pairwise_cons.1 h1).1 d hd;rw [e,Yr] at this;cases this
   ·exact h4
  ·intro hd;rcases h3.2 (.inr hd) with e | h4
   ·have:=(List.pairwise_cons.1 h2).1 d hd;rw [e,Yr] at this;cases this
   ·exact h4

def insD (s:List TDot) (d:TDot):List TDot:=(s.filter fun x=>zL x d) ++ [d] ++ (s.filter fun x=>zL d x)
theorem ins_mem {s:List TDot} {d x:TDot}:x ∈ insD s d ↔ x = d ∨ x ∈ s:=by
 simp only [insD,List.mem_append,List.mem_filter,List.mem_singleton]
 constructor
 ·rintro ((h | h) | h)
  ·exact .inr h.1
  ·exact .inl h
  ·exact .inr h.1
 ·rintro (h | h)
  ·exact .inl (.inr h)
  ·cases h1:zL x d with
   | true=>exact .inl (.inl ⟨h,rfl⟩)
   | false=>
    cases h2:zL d x with
    | true=>exact .inr ⟨h,rfl⟩
    | false=>exact .inl (.inr (jI h1 h2))
theorem ins_srt {s:List TDot} (h:Srt s) (d:TDot):Srt (insD s d):=by
 unfold Srt insD;rw [List.pairwise_append,List.pairwise_append];refine ⟨⟨h.filter _,by simp,fun a ha b hb=>?_⟩,h.filter _,fun a ha b hb=>?_⟩
 ·rw [List.mem_singleton.1 hb];exact (List.mem_filter.1 ha).2
 ·have hb:=(List.mem_filter.1 hb).2;rcases List.mem_append.1 ha with ha | ha
  ·exact Yh (List.mem_filter.1 ha).2 hb
  ·rw [List.mem_singleton.1 ha];exact hb
theorem JW (s:List TDot) (d:TDot):(insD s d).length ≤ s.length + 1:=by
 unfold insD;have h:∀ l:List TDot,(l.filter fun x=>zL x d).length + (l.filter fun x=>zL d x).length ≤ l.length:=by
  intro l
  induction l with
  | nil=>simp
  | cons x r ih=>
   cases h1:zL x d with
   | true=>simp [h1,ZN h1];omega
   | false=>
    cases h2:zL d x with
    | true=>simp [h1,h2];omega
    | false=>simp [h1,h2];omega
 have:=h s;simp;omega
def yv (l:List TDot):List TDot:=l.foldl insD []
theorem VQ : ∀ (l s:List TDot),Srt s → Srt (l.foldl insD s) ∧ (∀ d,d ∈ l.foldl insD s ↔ d ∈ s ∨ d ∈ l) ∧ (l.foldl insD s).length ≤ s.length + l.length
 | [],s,h=>⟨h,by simp,by simp⟩
 | x :: r,s,h=>by
  obtain ⟨h1,h2,h3⟩:=VQ r (insD s x) (ins_srt h x);refine ⟨h1,fun d=>?_,?_⟩
  ·rw [List.foldl_cons,h2 d,ins_mem,List.mem_cons]
   constructor
   ·rintro ((h | h) | h)
    ·exact .inr (.inl h)
    ·exact .inl h
    ·exact .inr (.inr h)
   ·rintro (h | h | h)
    ·exact .inl (.inr h)
    ·exact .inl (.inl h)
    ·exact .inr h
  ·have:=JW s x;rw [List.foldl_cons,List.length_cons];omega
theorem sort_srt (l:List TDot):Srt (yv l):=(VQ l [] List.Pairwise.nil).1
theorem uO {l:List TDot} {d:TDot}:d ∈ yv l ↔ d ∈ l:=by simpa [yv] using (VQ l [] List.Pairwise.nil).2.1 d
theorem VR (l:List TDot):(yv l).length ≤ l.length:=by simpa [yv] using (VQ l [] List.Pairwise.nil).2.2
theorem UN (s:List TDot) (d:TDot) (h:s.length ≤ 1000000000000):up s d = pure (insD s d):=V.WU s d h

def ddS (out:List TDot) (x:TDot):List TDot:=if out.getLast? = some x then out else out ++ [x]
def dd (l:List TDot):List TDot:=l.foldl ddS []
theorem UO (l:List TDot) (x:TDot):dd (l ++ [x]) = ddS (dd l) x:=by simp [dd]
theorem Qk (l:List TDot):(dd l).getLast? = l.getLast?:=by
 rcases R.xh l with rfl | ⟨r,y,rfl⟩
 ·rfl
 ·rw [UO];unfold ddS
  by_cases c:(dd r).getLast? = some y
  ·rw [if_pos c,c];simp
  ·rw [if_neg c];simp
theorem dd_mem {l:List TDot} {d:TDot}:d ∈ dd l ↔ d ∈ l:=by
 have:∀ (l s:List TDot),d ∈ l.foldl ddS s ↔ d ∈ s ∨ d ∈ l:=by
  intro l
  induction l with
  | nil=>intro s;simp
  | cons x r ih=>
   intro s;rw [List.foldl_cons,ih];have h2:d ∈ ddS s x ↔ d ∈ s ∨ d = x:=by
    unfold ddS
    split
    ·rename_i h
     exact ⟨.inl,fun h3=>h3.elim id fun e=>by rw [e];exact List.mem_of_getLast? h⟩
    ·simp
   rw [h2,List.mem_cons];exact or_assoc
 simpa [dd] using this l []
theorem dd_srt {l:List TDot} (h:l.Pairwise fun x y=>zL y x = false):Srt (dd l):=by
 have:∀ (n:Nat) (l:List TDot),l.length = n → (l.Pairwise fun x y=>zL y x = false) → Srt (dd l):=by
  intro n
  induction n with
  | zero=>intro l hl _;have:=List.eq_nil_of_length_eq_zero hl;subst this;exact List.Pairwise.nil
  | succ n ih=>
   intro l hl h;rcases R.xh l with rfl | ⟨r,y,rfl⟩
   ·simp at hl
   ·rw [List.pairwise_append] at h;have hr:=ih r (by simpa using hl) h.1;rw [UO];unfold ddS
    split
    ·exact hr
    ·rename_i hne
     unfold Srt;rw [List.pairwise_append];refine ⟨hr,by simp,fun a ha b hb=>?_⟩;rw [List.mem_singleton.1 hb];have ha':=dd_mem.1 ha;have h1:=h.2.2 a ha' y (by simp)
     cases h2:zL a y with
     | true=>rfl
     | false=>
      exfalso;have e:=jI h2 h1;subst e;rw [Qk] at hne;rcases R.xh r with rfl | ⟨q,z,rfl⟩
      ·simp at ha'
      ·have hz:zL a z = false:=h.2.2 z (by simp) a (by simp);rcases List.mem_append.1 ha' with h5 | h5
       ·have h6:zL z a = false:=by
         have:=(List.pairwise_append.1 h.1).2.2 a h5 z (by simp);exact this
        have:=jI hz h6;subst this;simp at hne
       ·rw [List.mem_singleton.1 h5] at hne;simp at hne
 exact this l.length l rfl h

theorem JX (l:List TDot) (h:l.length ≤ 1000000000000):zn l = pure l:=by
 unfold zn;refine uk ⟨⟨false,fun h=>by cases h⟩,fun b hb=>?_⟩
 cases b with
 | true=>show ([]:List TDot) = l;exact (hb rfl).symm
 | false=>
  show _ ∧ ([] ++ l = l)
  exact ⟨by simp;omega,List.nil_append l⟩
theorem qf (x y:TDot):(decide (x.dev = y.dev) && decide (x.n = y.n)) = decide (x = y):=by
 cases x;cases y;simp [Bool.decide_and]
theorem Zs {l:List TDot} {m:Nat} {x:TDot} (h:l[m]? = some x):l.take (m + 1) = l.take m ++ [x]:=by
 rw [List.take_add_one,h];rfl
theorem qg {l:List TDot} {m:Nat} {x:TDot} (h:l[m]? = some x):(l.take (m + 1)).getLast? = some x:=by rw [Zs h];simp
theorem We (s:List TDot) (k:Nat) (hk:k < s.length) (hl:s.length ≤ 1000000000000):∀ (d k2 kk:Nat) (v:List TDot),k + k2 + d = s.length → 1 ≤ k2 → v.length = s.length → kk + 1 ≤ k + k2 → v.take kk = dd (s.take (k + k2)) → v.drop (k + k2 - 1) = s.drop (k + k2 - 1) →
  ∃ (kk':Nat) (v':List TDot),loop (zY s (k:Int)) ((kk:Int),(k2:Int),v) = pure ((kk':Int),v') ∧ v'.length = s.length ∧ kk' ≤ s.length ∧ v'.take kk' = dd s
 | 0,k2,kk,v,hd,h1,hv,hkk,ht,_=>by
  refine ⟨kk,v,ze ?_,hv,by omega,by rw [ht,show k + k2 = s.length by omega,List.take_length]⟩;unfold zY;have:decide ((k2:Int) < (((s.length - (k:Int).toNat:Nat)):Int)) = false:=by simp;omega
  simp only [this,cond_false]
 | d + 1,k2,kk,v,hd,h1,hv,hkk,ht,hdr=>by
  have hvg:∀ j,k + k2 - 1 ≤ j → v[j]? = s[j]?:=fun j hj=>by
   have:=congrArg (fun l=>l[j - (k + k2 - 1)]?) hdr;simp only [List.getElem?_drop] at this;rw [show k + k2 - 1 + (j - (k + k2 - 1)) = j by omega] at this;exact this
  obtain ⟨x,hx⟩:∃ x,s[k + k2]? = some x:=⟨_,List.getElem?_eq_getElem (by omega)⟩
  obtain ⟨y,hy⟩:∃ y,s[k + k2 - 1]? = some y:=⟨_,List.getElem?_eq_getElem (by omega)⟩
  have hlast:(dd (s.take (k + k2))).getLast? = some y:=by
   rw [Qk];have:=qg hy
   rwa [show k + k2 - 1 + 1 = k + k2 by omega] at this
  have hdd:dd (s.take (k + k2 + 1)) = if y = x then dd (s.take (k + k2)) else dd (s.take (k + k2)) ++ [x]:=by
   rw [Zs hx,UO];unfold ddS;rw [hlast]
   by_cases c:y = x
   ·rw [if_pos c,if_pos (by rw [c])]
   ·rw [if_neg c,if_neg (by intro e;exact c (Option.some.inj e))]
  have hb:zY s (k:Int) ((kk:Int),(k2:Int),v) = pure (.next (if y = x then ((kk:Int),((k2 + 1:Nat):Int),v) else (((kk + 1:Nat):Int),((k2 + 1:Nat):Int),v.set kk x))):=by
   unfold zY;have hc:decide ((k2:Int) < (((s.length - (k:Int).toNat:Nat)):Int)) = true:=by simp;omega
   have e1:IntKind.i64.wrap ((k2:Int) - 1) = ((k2 - 1:Nat):Int):=by rw [wI64 (by omega) (by omega)];omega
   have i1:idx v ((((k:Int).toNat + (k2:Int).toNat:Nat)):Int) = pure x:=zE (by rw [Int.toNat_natCast,Int.toNat_natCast,hvg _ (by omega)];exact hx);have i2:idx v ((((k:Int).toNat + (((k2 - 1:Nat):Int)).toNat:Nat)):Int) = pure y:=zE (by rw [Int.toNat_natCast,Int.toNat_natCast,hvg _ (by omega),show k + (k2 - 1) = k + k2 - 1 by omega];exact hy);obtain ⟨z,hz⟩:∃ z,v[kk]? = some z:=⟨_,List.getElem?_eq_getElem (by omega)⟩
   have i3:idx v (kk:Int) = pure z:=zE hz;simp only [hc,cond_true,e1];rw [zD (by simp;omega),i1,zA,zD (by simp;omega),i2,zA];simp only [qf]
   by_cases c:y = x
   ·have c1:decide (x = y) = true:=decide_eq_true c.symm;simp only [c1,Bool.not_true,cond_false,zA,zc (show k2 < 9223372036854775807 by omega),if_pos c]
   ·have c1:decide (x = y) = false:=decide_eq_false (fun e=>c e.symm);simp only [c1,Bool.not_false,cond_true,if_neg c];rw [zD (by simp;omega),i3];simp only [zA,zc (show k2 < 9223372036854775807 by omega),zc (show kk < 9223372036854775807 by omega),Int.toNat_natCast]
  by_cases c:y = x
  ·rw [if_pos c] at hb hdd;rw [zd hb];refine We s k hk hl d (k2 + 1) kk v (by omega) (by omega) hv (by omega) (by rw [ht,← hdd];rfl) ?_;have:=congrArg (List.drop 1) hdr;rw [List.drop_drop,List.drop_drop,show k + k2 - 1 + 1 = k + (k2 + 1) - 1 by omega] at this;exact this
  ·rw [if_neg c] at hb hdd;rw [zd hb];refine We s k hk hl d (k2 + 1) (kk + 1) (v.set kk x) (by omega) (by omega) (by simpa using hv) (by omega) ?_ ?_
   ·have h5:(v.set kk x)[kk]? = some x:=by rw [List.getElem?_set];simp;omega
    rw [Zs h5,List.take_set,List.set_eq_of_length_le (by rw [List.length_take];omega),ht,← hdd];rfl
   ·rw [List.drop_set,if_pos (by omega)];have:=congrArg (List.drop 1) hdr;rw [List.drop_drop,List.drop_drop,show k + k2 - 1 + 1 = k + (k2 + 1) - 1 by omega] at this;exact this
theorem yTa (s:List TDot) (hl:s.length ≤ 1000000000000):zh s = pure (dd s):=by
 unfold zh
 by_cases h2:s.length < 2
 ·have:decide ((s.length:Int) < 2) = true:=by simp;omega
  rw [this,cond_true]
  match s,h2 with
  | [],_=>rfl
  | [x],_=>rfl
 ·have:decide ((s.length:Int) < 2) = false:=by simp;omega
  rw [this,cond_false];have key:∀ d k,k + d = s.length → 1 ≤ k → dd (s.take k) = s.take k → (loop (zZ s) (k:Int)).bind (exk fun _=>pure s) = pure (dd s):=by
   intro d
   induction d with
   | zero=>
    intro k hk h1 hd;rw [ze (r:=.brk ()) (by
     unfold zZ;have:decide ((k:Int) < (s.length:Int)) = false:=by simp;omega
     simp only [this,cond_false])]
    rw [show k = s.length by omega,List.take_length] at hd;show pure s = pure (dd s);rw [hd]
   | succ d ih=>
    intro k hk h1 hd;obtain ⟨x,hx⟩:∃ x,s[k]? = some x:=⟨_,List.getElem?_eq_getElem (by omega)⟩
    obtain ⟨y,hy⟩:∃ y,s[k - 1]? = some y:=⟨_,List.getElem?_eq_getElem (by omega)⟩
    have hlast:(dd (s.take k)).getLast? = some y:=by
     rw [Qk];have:=qg hy
     rwa [show k - 1 + 1 = k by omega] at this
    have hc:decide ((k:Int) < (s.length:Int)) = true:=by simp;omega
    have i1:idx s (k:Int) = pure x:=zE hx;have i2:idx s (IntKind.i64.wrap ((k:Int) - 1)) = pure y:=by
     rw [wI64 (by omega) (by omega)];exact Wn (by omega) (by rw [show ((k:Int) - 1).toNat = k - 1 by omega];exact hy)
    by_cases c:x = y
    ·subst c;obtain ⟨kk,v,h5,h6,h7,h8⟩:=We s k (by omega) hl d 1 k s (by omega) (by omega) rfl (by omega) (by
      rw [Zs hx,UO,ddS,if_pos hlast,hd]) (by rw [show k + 1 - 1 = k by omega])
     rw [ze (r:=.ret (dd s)) (by
      unfold zZ;simp only [hc,cond_true,i1,i2,zA,qf,decide_true];rw [zD (by omega),show (1:Int) = ((1:Nat):Int) from rfl,h5,zA];simp only [];rw [zD (by omega),zD (by simp;omega),zD (by
       simp only [List.length_append,List.length_take,List.length_replicate,List.length_drop,Int.toNat_natCast];omega),zA,Vd]
      congr 3
      rw [Int.toNat_natCast,List.append_assoc,List.take_append_of_le_length (by rw [List.length_take];omega),List.take_take,Nat.min_self,h8])]
     rfl
    ·have c1:decide (x = y) = false:=decide_eq_false c;rw [zd (s':=((k + 1:Nat):Int)) (by
      unfold zZ;simp only [hc,cond_true,i1,i2,zA,qf,c1,cond_false,uQ,zc (show k < 9223372036854775807 by omega)])]
     refine ih (k + 1) (by omega) (by omega) ?_;rw [Zs hx,UO,ddS,if_neg (by rw [hlast];intro e;exact c (Option.some.inj e).symm),hd]
  have:=key (s.length - 1) 1 (by omega) (by omega) (by
   obtain ⟨x,r,rfl⟩:∃ x r,s = x :: r:=by
    cases s with
    | nil=>simp at h2
    | cons x r=>exact ⟨x,r,rfl⟩
   rfl)
  exact this
theorem xca {l:List TDot} {Q:List TDot → Prop} (h:∀ s,s.Perm l → (s.Pairwise fun x y=>zL y x = false) → Q s):(srt zL l).wp Q:=by
 refine ⟨⟨l.mergeSort (fun x y=>!zL y x),List.mergeSort_perm _ _,?_⟩,fun s ⟨h1,h2⟩=>h s h1 h2⟩;refine (List.pairwise_mergeSort (fun a b c h1 h2=>?_) (fun a b=>?_) l).imp fun {x y} h=>by simpa using h
 ·simp only [Bool.not_eq_true'] at h1 h2 ⊢
  cases h3:zL c a with
  | false=>rfl
  | true=>
   rw [Wq] at h3;have h4:¬ (zL b a = true):=by simp [h1]
   have h5:¬ (zL c b = true):=by simp [h2]
   rw [Wq] at h4 h5;omega
 ·cases h1:zL b a with
  | false=>rfl
  | true=>rw [ZN h1];rfl
theorem Ql (l:List TDot) (h:l.length ≤ 1000000000000):YD l = pure (yv l):=by
 unfold YD;rw [JX l h,zB,zA,zD (by omega)];refine uk (xca fun s hs hp=>?_);show (bind (det (zh s)) fun y8=>pure y8).wp _;rw [yTa s (by rw [hs.length_eq];exact h),zB,zA];exact xxa (dd_srt hp) (sort_srt l) fun d=>by rw [dd_mem,uO];exact hs.mem_iff

theorem cmp16_eq (x y:Int):yr x y = pure (R.cmp3 x y):=by
 unfold yr xa R.cmp3;simp only [decide_true,Bool.not_true,zB,zA,cond_false,yP]
 split
 ·rfl
 ·split <;> rfl
theorem Cmp_eq (a b:TDot):Yx a b = pure (V.cmpD a b):=by
 unfold Yx;rw [cmp16_eq,zB,zA,R.xda,zB,zA];unfold V.cmpD R.cmp3
 cases a with | mk d n=>cases b with | mk e m=>
 simp only [TDot.mk.injEq,zL]
 by_cases h1:d < e
 ·have:¬ d = e:=by omega
  simp [h1,this]
 ·by_cases h2:e < d
  ·have:¬ d = e:=by omega
   simp [h1,h2,this]
  ·have h3:d = e:=by omega
   subst h3
   by_cases h4:n < m
   ·have:¬ n = m:=by omega
    simp [h4,this]
   ·by_cases h5:m < n
    ·have:¬ n = m:=by omega
     simp [h4,h5,this]
    ·have:n = m:=by omega
     simp [this]


theorem ZO {σ ρ ε:Type} {body:σ → M (Step σ ρ)} (l:List ε) (f:ε → List Int) (row:List Int) (N:Nat) (mk:Nat → List Int → σ) (g:List Int → M ρ) (hN:row.length + (l.flatMap f).length ≤ N)
  (h1:∀ (i:Nat) (x:ε) (out:List Int),l[i]? = some x → i < l.length → out.length + (f x).length ≤ N → body (mk i out) = pure (.next (mk (i + 1) (out ++ f x))))
  (h2:∀ out,body (mk l.length out) = (g out).bind fun r=>pure (.done r)):loop body (mk 0 row) = g (row ++ l.flatMap f):=by
 have key:∀ (k i:Nat) (out:List Int),i + k = l.length → out.length + ((l.drop i).flatMap f).length ≤ N → loop body (mk i out) = g (out ++ (l.drop i).flatMap f):=by
  intro k
  induction k with
  | zero=>
   intro i out hi _;have:i = l.length:=by omega
   subst this;rw [Ve,h2,List.drop_length];simp only [List.flatMap_nil,List.append_nil]
   rfl
  | succ k ih=>
   intro i out hi hl;have hlt:i < l.length:=by omega
   rw [List.drop_eq_getElem_cons hlt,List.flatMap_cons,List.length_append] at hl;rw [zd (h1 i l[i] out (List.getElem?_eq_getElem hlt) hlt (by omega)),ih (i + 1) _ (by omega) (by rw [List.length_append];omega),List.drop_eq_getElem_cons hlt,List.flatMap_cons,List.append_assoc]
 simpa using key l.length 0 row (by omega) (by simpa using hN)
theorem uP {ε:Type} (l:List ε) (f:ε → List Int) (k:Nat) (h:∀ x ∈ l,(f x).length ≤ k):(l.flatMap f).length ≤ k * l.length:=by
 induction l with
 | nil=>simp
 | cons x r ih=>
  have h1:=h x (by simp);have h2:=ih fun y hy=>h y (by simp [hy])
  rw [List.flatMap_cons,List.length_append,List.length_cons,Nat.mul_add];omega

structure OkD (d:TDot):Prop where
 d0:0 ≤ d.dev
 d1:d.dev ≤ 65535
 n0:0 ≤ d.n
 n1:d.n ≤ 18446744073709551615
def encD (d:TDot):List Int:=N.encI d.dev ++ N.encI d.n
theorem Yi {d:TDot} (h:OkD d):(encD d).length ≤ 18:=by
 have h1:=N.zb (v:=d.dev) (by have:=h.d1;omega);have h2:=N.zb (v:=d.n) h.n1;rw [encD,List.length_append];omega
theorem qh {d:TDot} (h:OkD d) (row:List Int) (hr:row.length ≤ 1000000000000):xV d row = pure (row ++ encD d):=by
 have h1:=N.zb (v:=d.dev) (by have:=h.d1;omega);unfold xV;rw [wU64 h.d0 (by have:=h.d1;omega),N.vt row h.d0 (by have:=h.d1;omega) (by omega),zB,zA,N.vt _ h.n0 h.n1 (by rw [List.length_append];omega),zB,zA,encD,List.append_assoc]
theorem jJ {d:TDot} (h:OkD d) (row:List Int) (hr:row.length ≤ 1000000000000):uZ row d = pure (row ++ encD d):=by
 have h1:=N.zb (v:=d.dev) (by have:=h.d1;omega);unfold uZ;rw [wU64 h.d0 (by have:=h.d1;omega),N.yh row h.d0 (by have:=h.d1;omega) (by omega),zB,zA,N.yh _ h.n0 h.n1 (by rw [List.length_append];omega),zB,zA,encD,List.append_assoc]
def xu (l:List TDot):List TDot:=l.filter V.zk
def Qm (l:List TDot):List Int:=N.encI (yv (xu l)).length ++ (yv (xu l)).flatMap encD
theorem xya (l : List TDot) (hl : l.length ≤ 1000000000000) : loop (yX l) (0, []) = pure (xu l) := by
  have := vz (body := yX l) l (fun i t => ((i : Int), t)) (fun t d => if V.zk d = true then t ++ [d] else t) (fun t => pure t) (fun i t => t.length ≤ i) (fun i x t hx hi hI => by
    have hd : decide ((i : Int) < (l.length : Int)) = true := by simpa using hi
    refine ⟨?_, by split
                   · simp; omega
                   · omega⟩
    unfold yX;simp only [hd, cond_true, zE hx, zA, V.ZF, zB, zc (show i < 9223372036854775807 by omega)]
    by_cases c : V.zk x = true
    · rw [c, cond_true, zD (by simp; omega), zA, if_pos rfl]
    · simp only [Bool.not_eq_true] at c;rw [c, cond_false, zA]; rfl) (fun t _ => by
    unfold yX;simp [zA]) [] (by simp)
  rw [show (0 : Int) = ((0 : Nat) : Int) from rfl, this]
  congr 1
  have key : ∀ (l t : List TDot), l.foldl (fun t d => if V.zk d = true then t ++ [d] else t) t = t ++ xu l := by
    intro l
    induction l with
    | nil => intro t; simp [xu]
    | cons x r ih =>
      intro t;rw [List.foldl_cons, ih];unfold xu
      by_cases c : V.zk x = true
      · rw [if_pos c, List.filter_cons_of_pos c, List.append_assoc]; rfl
      · rw [if_neg c, List.filter_cons_of_neg c]
  simpa using key l []
theorem good_mem {l:List TDot} {d:TDot}:d ∈ yv (xu l) ↔ d ∈ l ∧ V.zk d = true:=by rw [uO,xu,List.mem_filter]
theorem VS (l:List TDot):(yv (xu l)).length ≤ l.length:=Nat.le_trans (VR _) (List.length_filter_le _ _)
theorem WA {l:List TDot} (h:∀ d ∈ l,OkD d):∀ d ∈ yv (xu l),OkD d:=fun d hd=>h d (good_mem.1 hd).1
theorem xza {l:List TDot} (h:∀ d ∈ l,OkD d) (hl:l.length ≤ 1000000000000):(Qm l).length ≤ 9 + 18 * l.length:=by
 have h1:=N.zb (v:=((yv (xu l)).length:Int)) (by have:=VS l;omega);have h2:=uP (yv (xu l)) encD 18 fun x hx=>Yi (WA h x hx)
 have h3:=VS l;rw [Qm,List.length_append];omega
theorem yUa {l:List TDot} (h:∀ d ∈ l,OkD d) (hl:l.length ≤ 1000000000) (row:List Int) (hr:row.length ≤ 100000000000):xl l row = pure (row ++ Qm l):=by
 have h3:=VS l;have h1:=N.zb (v:=((yv (xu l)).length:Int)) (by omega);have h2:=uP (yv (xu l)) encD 18 fun x hx=>Yi (WA h x hx)
 unfold xl;rw [xya l (by omega),zA,Ql _ (by have:=List.length_filter_le V.zk l;unfold xu;omega),zB,zA,wU64 (by omega) (by omega),N.vt row (by omega) (by omega) (by omega),zB,zA];have:=ZO (body:=yu (yv (xu l))) (yv (xu l)) encD (row ++ N.encI ((yv (xu l)).length:Int)) 1000000000000 (fun i out=>((i:Int),out)) (fun t=>pure t) (by rw [List.length_append];omega) (fun i x out hx hi ho=>by
  have hd:decide ((i:Int) < ((yv (xu l)).length:Int)) = true:=by simpa using hi
  unfold yu;simp only [hd,cond_true,zE hx,zA,qh (WA h x (List.mem_of_getElem? hx)) out (by omega),zB,zc (show i < 9223372036854775807 by omega)]) (fun out=>by
  unfold yu;simp [zA])
 rw [show (0:Int) = ((0:Nat):Int) from rfl,this,Qm,List.append_assoc]
theorem Wf (l : List TDot) (hl : l.length ≤ 1000000000000) : loop (xW l) ([], 0) = pure (yv (xu l)) := by
  have := vz (body := xW l) l (fun i t => (t, (i : Int))) (fun t d => if V.zk d = true then insD t d else t) (fun t => pure t) (fun i t => t.length ≤ i) (fun i x t hx hi hI => by
    have hd : decide ((i : Int) < (l.length : Int)) = true := by simpa using hi
    refine ⟨?_, by split
                   · have := JW t x; omega
                   · omega⟩
    unfold xW;simp only [hd, cond_true, zE hx, zA, V.wW, zB, zc (show i < 9223372036854775807 by omega)]
    by_cases c : V.zk x = true
    · rw [c, cond_true, UN t x (by omega), zB, zA, zA, if_pos rfl]
    · simp only [Bool.not_eq_true] at c;rw [c, cond_false, zA]; rfl) (fun t _ => by
    unfold xW;simp [zA]) [] (by simp)
  rw [show (0 : Int) = ((0 : Nat) : Int) from rfl, this]
  congr 1
  have key : ∀ (l t : List TDot), l.foldl (fun t d => if V.zk d = true then insD t d else t) t = (xu l).foldl insD t := by
    intro l
    induction l with
    | nil => intro t; rfl
    | cons x r ih =>
      intro t;rw [List.foldl_cons, ih];unfold xu
      by_cases c : V.zk x = true
      · rw [if_pos c, List.filter_cons_of_pos c]; rfl
      · rw [if_neg c, List.filter_cons_of_neg c]
  exact key l []
theorem Qn {l:List TDot} (h:∀ d ∈ l,OkD d) (hl:l.length ≤ 1000000000) (row:List Int) (hr:row.length ≤ 100000000000):uz row l = pure (row ++ Qm l):=by
 have h3:=VS l;have h1:=N.zb (v:=((yv (xu l)).length:Int)) (by omega);have h2:=uP (yv (xu l)) encD 18 fun x hx=>Yi (WA h x hx)
 unfold uz;rw [Wf l (by omega),zA,wU64 (by omega) (by omega),N.yh row (by omega) (by omega) (by omega),zB,zA];have:=ZO (body:=we (yv (xu l))) (yv (xu l)) encD (row ++ N.encI ((yv (xu l)).length:Int)) 1000000000000 (fun i out=>(out,(i:Int))) (fun t=>pure t) (by rw [List.length_append];omega) (fun i x out hx hi ho=>by
  have hd:decide ((i:Int) < ((yv (xu l)).length:Int)) = true:=by simpa using hi
  unfold we;simp only [hd,cond_true,zE hx,zA,jJ (WA h x (List.mem_of_getElem? hx)) out (by omega),zB,zc (show i < 9223372036854775807 by omega)]) (fun out=>by
  unfold we;simp [zA])
 rw [show (0:Int) = ((0:Nat):Int) from rfl,this,zA,Qm,List.append_assoc]

def encR (x:TRun):List Int:=N.encI x.lo ++ N.encI x.hi
def encP (p:TPart):List Int:=N.encI p.dev ++ (N.encI p.runs.length ++ p.runs.flatMap encR)
def encN (c:List TPart):List Int:=N.encI c.length ++ c.flatMap encP
def encC (c:List TPart):List Int:=encN (C.zP c)
structure OkP (p:TPart):Prop where
 d0:0 ≤ p.dev
 d1:p.dev ≤ 65535
 r:∀ x ∈ p.runs,(0 ≤ x.lo ∧ x.lo ≤ 18446744073709551615) ∧ 0 ≤ x.hi ∧ x.hi ≤ 18446744073709551615
theorem JY {x:TRun} (h:(0 ≤ x.lo ∧ x.lo ≤ 18446744073709551615) ∧ 0 ≤ x.hi ∧ x.hi ≤ 18446744073709551615):(encR x).length ≤ 18:=by
 have h1:=N.zb h.1.2;have h2:=N.zb h.2.2;rw [encR,List.length_append];omega
theorem encP_len {p:TPart} (h:OkP p) (hl:p.runs.length ≤ 1000000000000):(encP p).length ≤ 18 + 18 * p.runs.length:=by
 have h1:=N.zb (v:=p.dev) (by have:=h.d1;omega);have h2:=N.zb (v:=(p.runs.length:Int)) (by omega);have h3:=uP p.runs encR 18 fun x hx=>JY (h.r x hx)
 rw [encP,List.length_append,List.length_append];omega
theorem UP (c:List TPart) (h:∀ p ∈ c,OkP p) (hl:C.totC c ≤ 1000000000000):(c.flatMap encP).length ≤ 18 * c.length + 18 * C.totC c:=by
 induction c with
 | nil=>simp
 | cons p r ih=>
  have e:C.totC (p :: r) = p.runs.length + C.totC r:=by simp [C.totC]
  have h1:=encP_len (h p (by simp)) (by omega);have h2:=ih (fun q hq=>h q (by simp [hq])) (by omega);rw [List.flatMap_cons,List.length_append,List.length_cons,e];omega
theorem JZ {c:List TPart} (h:∀ p ∈ c,OkP p) (hc:c.length ≤ 1000000000000) (hl:C.totC c ≤ 1000000000000):(encN c).length ≤ 9 + 18 * c.length + 18 * C.totC c:=by
 have h1:=N.zb (v:=(c.length:Int)) (by omega);have h2:=UP c h hl;rw [encN,List.length_append];omega
theorem VT {c:List TPart} (h:∀ p ∈ c,p.dev ≤ 65535):∀ p ∈ C.zP c,OkP p:=fun p hp=>by
 have h1:=(C.zx c).nf p hp;refine ⟨by omega,?_,fun x hx=>?_⟩
 ·have h2:=(C.wY.1 hp).1;obtain ⟨q,hq,e⟩:=(C.wg.1 h2).1;rw [← e];exact h q hq
 ·have:=R.zf.1 (h1.2.2.may x hx);omega


theorem WB {c:List TPart} (ho:C.Ok c) (h:∀ p ∈ c,p.dev ≤ 65535) (hs:c.length ≤ 100000000 ∧ C.totC c ≤ 100000000) (row:List Int) (hr:row.length ≤ 100000000000):yb c row = pure (row ++ encC c):=by
 have hn:=C.xC c;have ht:=C.xD c;have hp:=VT h;have hl:=JZ hp (by omega) (by omega);have h9:=N.zb (v:=((C.zP c).length:Int)) (by omega);have hf:=UP (C.zP c) hp (by omega);unfold yb;rw [C.XJ c ho.sm,zB,zA,wU64 (by omega) (by omega),N.vt row (by omega) (by omega) (by omega),zB,zA];have:=ZO (body:=xG (C.zP c)) (C.zP c) encP (row ++ N.encI ((C.zP c).length:Int)) 1000000000000 (fun i out=>((i:Int),out)) (fun t=>pure t) (by rw [List.length_append];omega) (fun i p out hx hi hout=>by
  have hd:decide ((i:Int) < ((C.zP c).length:Int)) = true:=by simpa using hi
  have hm:=List.mem_of_getElem? hx;have hpp:=hp p hm;have hrl:p.runs.length ≤ 1000000000:=by have:=C.jG p hm;omega
  have e1:=N.zb (v:=p.dev) (by have:=hpp.d1;omega);have e2:=N.zb (v:=(p.runs.length:Int)) (by omega);have e3:=uP p.runs encR 18 fun x hx=>JY (hpp.r x hx)
  unfold xG;simp only [hd,cond_true,zE hx,zA];rw [wU64 hpp.d0 (by have:=hpp.d1;omega),N.vt out hpp.d0 (by have:=hpp.d1;omega) (by omega),zB,zA,wU64 (by omega) (by omega),N.vt _ (by omega) (by omega) (by rw [List.length_append];omega),zB,zA];have:=ZO (body:=xF p) p.runs encR (out ++ N.encI p.dev ++ N.encI (p.runs.length:Int)) 2000000000000 (fun i out=>((i:Int),out)) (fun t=>pure t) (by rw [List.length_append,List.length_append];omega) (fun j x out2 hx2 hj hout2=>by
   have hd2:decide ((j:Int) < (p.runs.length:Int)) = true:=by simpa using hj
   have hxr:=hpp.r x (List.mem_of_getElem? hx2);have e4:=N.zb hxr.1.2;unfold xF;simp only [hd2,cond_true,zE hx2,zA];rw [N.vt out2 hxr.1.1 hxr.1.2 (by omega),zB,zA,N.vt _ hxr.2.1 hxr.2.2 (by rw [List.length_append];omega),zB,zA,zc (show j < 9223372036854775807 by omega),encR,List.append_assoc]) (fun out=>by
   unfold xF;simp [zA])
  rw [show (0:Int) = ((0:Nat):Int) from rfl,this,zA,zc (show i < 9223372036854775807 by omega),encP];simp only [List.append_assoc]) (fun out=>by
  unfold xG;simp [zA])
 rw [show (0:Int) = ((0:Nat):Int) from rfl,this,encC,encN,List.append_assoc]
theorem Wg {c:List TPart} (ho:C.Ok c) (h:∀ p ∈ c,p.dev ≤ 65535) (hs:c.length ≤ 100000000 ∧ C.totC c ≤ 100000000) (row:List Int) (hr:row.length ≤ 100000000000):xJ row c = pure (row ++ encC c):=by
 have hn:=C.xC c;have ht:=C.xD c;have hp:=VT h;have hl:=JZ hp (by omega) (by omega);have h9:=N.zb (v:=((C.zP c).length:Int)) (by omega);have hf:=UP (C.zP c) hp (by omega);unfold xJ;rw [C.uN c ho,zB,zA,wU64 (by omega) (by omega),N.yh row (by omega) (by omega) (by omega),zB,zA];have:=ZO (body:=vR (C.zP c)) (C.zP c) encP (row ++ N.encI ((C.zP c).length:Int)) 1000000000000 (fun i out=>(out,(i:Int))) (fun t=>pure t) (by rw [List.length_append];omega) (fun i p out hx hi hout=>by
  have hd:decide ((i:Int) < ((C.zP c).length:Int)) = true:=by simpa using hi
  have hm:=List.mem_of_getElem? hx;have hpp:=hp p hm;have hrl:p.runs.length ≤ 1000000000:=by have:=C.jG p hm;omega
  have e1:=N.zb (v:=p.dev) (by have:=hpp.d1;omega);have e2:=N.zb (v:=(p.runs.length:Int)) (by omega);have e3:=uP p.runs encR 18 fun x hx=>JY (hpp.r x hx)
  unfold vR;simp only [hd,cond_true,zE hx,zA];rw [wU64 hpp.d0 (by have:=hpp.d1;omega),N.yh out hpp.d0 (by have:=hpp.d1;omega) (by omega),zB,zA,wU64 (by omega) (by omega),N.yh _ (by omega) (by omega) (by rw [List.length_append];omega),zB,zA];have:=ZO (body:=vQ (C.zP c) (i:Int)) p.runs encR (out ++ N.encI p.dev ++ N.encI (p.runs.length:Int)) 2000000000000 (fun i out=>(out,(i:Int))) (fun t=>pure t) (by rw [List.length_append,List.length_append];omega) (fun j x out2 hx2 hj hout2=>by
   have hd2:decide ((j:Int) < (p.runs.length:Int)) = true:=by simpa using hj
   have hxr:=hpp.r x (List.mem_of_getElem? hx2);have e4:=N.zb hxr.1.2;unfold vQ;simp only [hd2,cond_true,zE hx,zE hx2,zA];rw [N.yh out2 hxr.1.1 hxr.1.2 (by omega),zB,zA,N.yh _ hxr.2.1 hxr.2.2 (by rw [List.length_append];omega),zB,zA,zc (show j < 9223372036854775807 by omega),encR,List.append_assoc]) (fun out=>by
   unfold vQ;simp [zE hx,zA])
  rw [show (0:Int) = ((0:Nat):Int) from rfl,this,zA,zc (show i < 9223372036854775807 by omega),encP];simp only [List.append_assoc]) (fun out=>by
  unfold vR;simp [zA])
 rw [show (0:Int) = ((0:Nat):Int) from rfl,this,zA,encC,encN,List.append_assoc]
open N (RS Ok numS Wc ZM endS OkB Sim)

def bad4 (c:Bool) (s:RS):RS:=if c = true then ZM 4 s else s
def fin {α:Type} (z x:α) (t:RS):α × RS:=if t.2 ≠ 0 then (z,t) else (x,t)
theorem x0a {s:RS} (h:Ok s) (c:Bool):Ok (bad4 c s):=by unfold bad4;split;exact N.JU h _;exact h
theorem fin_ok {α:Type} {z x:α} {t:RS} (h:t.2 = 0):fin z x t = (x,t):=if_neg (by simp [h])
theorem fin_bad {α:Type} {z x:α} {t:RS} (h:t.2 ≠ 0):fin z x t = (z,t):=if_pos h
def dotR (s:RS):TDot:=⟨(Wc 65535 s).1,(numS (Wc 65535 s).2).1⟩
def dotT (s:RS):RS:=bad4 (!V.zk (dotR s)) (numS (Wc 65535 s).2).2
def dotS (s:RS):TDot × RS:=fin ⟨0,0⟩ (dotR s) (dotT s)
theorem ok_dot {s:RS} (h:Ok s):Ok (dotS s).2 ∧ OkD (dotS s).1 ∧ OkD (dotR s):=by
 obtain ⟨h1,h2,h3⟩:=N.ok_upto h (m:=65535) (by decide);obtain ⟨h4,h5,h6⟩:=N.xva h1;have ht:Ok (dotT s):=x0a h4 _;have hr:OkD (dotR s):=⟨h2,h3,h5,h6⟩
 unfold dotS
 by_cases c:(dotT s).2 = 0
 ·rw [fin_ok c];exact ⟨ht,hr,hr⟩
 ·rw [fin_bad c];exact ⟨ht,⟨Int.le_refl _,by simp,Int.le_refl _,by simp⟩,hr⟩
variable {B:List Int} {a:Int} {s:RS}
def lastGe (out:List TDot) (x:TDot):Bool:=match out.getLast? with | some y=>decide (0 ≤ V.cmpD y x) | none=>false
def Ja (out:List TDot) (s:RS):RS:=bad4 (lastGe out (dotS s).1) (dotS s).2
def yB : Nat → List TDot → RS → List TDot × RS
 | 0,out,s=>(out,s)
 | k + 1,out,s=>if (Ja out s).2 ≠ 0 then ([],Ja out s) else yB k (out ++ [(dotS s).1]) (Ja out s)
def dotsS (most:Int) (s:RS):List TDot × RS:=if max most 0 < (numS s).1 then ([],ZM 3 (numS s).2) else yB (numS s).1.toNat [] (numS s).2
theorem x1a {k:Nat} {out:List TDot} {s:RS} (h:(Ja out s).2 ≠ 0):yB (k + 1) out s = ([],Ja out s):=if_pos h
theorem yVa {k:Nat} {out:List TDot} {s:RS} (h:(Ja out s).2 = 0):yB (k + 1) out s = yB k (out ++ [(dotS s).1]) (Ja out s):=if_neg (by simp [h])
theorem zoa {s:RS} (h:Ok s) (out:List TDot):Ok (Ja out s):=x0a (ok_dot h).1 _
theorem zpa : ∀ (k:Nat) (out:List TDot) (s:RS),Ok s → Ok (yB k out s).2
 | 0,_,_,h=>h
 | k + 1,out,s,h=>by
  by_cases c:(Ja out s).2 = 0
  ·rw [yVa c];exact zpa k _ _ (zoa h out)
  ·rw [x1a c];exact zoa h out
theorem Qj {s:RS} (h:Ok s) (most:Int):Ok (dotsS most s).2:=by
 have h1:=N.xva h;unfold dotsS
 split
 ·exact N.JU h1.1 _
 ·exact zpa _ _ _ h1.1
open N (RS Ok numS Wc ZM endS OkB Sim)

variable {B:List Int} {a:Int} {s:RS}
open N (RS Ok numS Wc ZM endS OkB Sim)

def Zt : List TDot → Bool
 | []=>true
 | x :: r=>(match r with | []=>true | y :: _=>zL x y) && Zt r
theorem zqa : ∀ {l:List TDot},Zt l = true ↔ Srt l
 | []=>⟨fun _=>List.Pairwise.nil,fun _=>rfl⟩
 | [x]=>⟨fun _=>by simp [Srt],fun _=>rfl⟩
 | x :: y :: r=>by
  show (zL x y && Zt (y :: r)) = true ↔ _;rw [Bool.and_eq_true,zqa (l:=y :: r)];unfold Srt;rw [List.pairwise_cons (a:=x)]
  constructor
  ·rintro ⟨h1,h2⟩;refine ⟨fun z hz=>?_,h2⟩;rcases List.mem_cons.1 hz with rfl | hz
   ·exact h1
   ·exact Yh h1 ((List.pairwise_cons.1 h2).1 z hz)
  ·rintro ⟨h1,h2⟩;exact ⟨h1 y (by simp),h2⟩
theorem cmp_ge (x y:TDot):decide (0 ≤ V.cmpD x y) = !zL x y:=by
 by_cases h:zL x y = true
 ·have:=V.ZI.2 h;rw [h];simp;omega
 ·have h2:¬ V.cmpD x y < 0:=fun e=>h (V.ZI.1 e)
  simp only [Bool.not_eq_true] at h;rw [h];simp;omega
theorem yWa (l:List TDot) (hl:l.length ≤ 1000000000000):YN l = pure (Zt l):=by
 unfold YN;have key:∀ (k i:Nat) (x:TDot) (r:List TDot),i + k = l.length → l.drop i = r → i ≠ 0 → l[i - 1]? = some x → loop (xI l) (i:Int) = pure (if Zt (x :: r) = true then .brk () else .ret false):=by
  intro k
  induction k with
  | zero=>
   intro i x r hi hr h1 hx;have:r = []:=by rw [← hr];exact List.drop_eq_nil_of_le (by omega)
   subst this;exact ze (by
    unfold xI;have:decide ((i:Int) < (l.length:Int)) = false:=by simp;omega
    simp only [this,cond_false];rfl)
  | succ k ih=>
   intro i x r hi hr h1 hx;have hlt:i < l.length:=by omega
   have hr2:r = l[i] :: l.drop (i + 1):=by rw [← hr];exact List.drop_eq_getElem_cons hlt
   have hy:=List.getElem?_eq_getElem hlt;have hi1:idx l (IntKind.i64.wrap ((i:Int) - 1)) = pure x:=by
    rw [wI64 (by omega) (by omega)];exact Wn (by omega) (by rw [show ((i:Int) - 1).toNat = i - 1 by omega];exact hx)
   have hb:xI l (i:Int) = cond (!zL x l[i]) (pure (.done (.ret false))) (pure (.next ((i + 1:Nat):Int))):=by
    unfold xI;have:decide ((i:Int) < (l.length:Int)) = true:=by simp;omega
    simp only [this,cond_true,hi1,zE hy,zA,V.Ye,zB,cmp_ge,zc (show i < 9223372036854775807 by omega)]
   rw [hr2];show _ = (pure (if (zL x l[i] && Zt (l[i] :: l.drop (i + 1))) = true then Ex.brk () else Ex.ret false):M (Ex Unit Bool))
   cases c:zL x l[i] with
   | true=>
    rw [c] at hb;rw [zd hb,Bool.true_and];exact ih (i + 1) l[i] _ (by omega) rfl (by omega) hy
   | false=>
    rw [c] at hb;rw [ze hb];rfl
 cases l with
 | nil=>
  rw [ze (r:=.brk ()) (by unfold xI;rfl)];rfl
 | cons x r=>
  have:=key r.length 1 x r (by simp;omega) rfl (by decide) rfl;rw [show ((1:Nat):Int) = 1 from rfl] at this;rw [this,zA]
  cases Zt (x :: r) <;> rfl

open N (RS Ok numS Wc ZM endS OkB Sim)

end Go.Ep.M.D

namespace Go.Ep.M.E
open Go

theorem xE (s:ByteArray):(yQ s).length = s.size:=by simp [yQ]
def cidD (v:Int):TDot:=⟨v / 281474976710656,v % 281474976710656⟩
theorem band48 {v:Int} (h0:0 ≤ v) (h:v ≤ 18446744073709551615):bAnd .u64 v 281474976710655 = v % 281474976710656:=by
 obtain ⟨n,rfl⟩:=Int.eq_ofNat_of_zero_le h0;unfold bAnd;have bv:∀ q:Nat,q < 18446744073709551616 → (BitVec.ofInt IntKind.u64.bits (q:Int)).toNat = q:=fun q hq=>by
  show (BitVec.ofInt 64 (q:Int)).toNat = q;rw [BitVec.toNat_ofInt];omega
 have e:(281474976710655:Int) = ((281474976710655:Nat):Int):=rfl;rw [e,BitVec.toNat_and,bv n (by omega),bv _ (by decide)];have h2:n &&& 281474976710655 = n % 281474976710656:=Nat.and_two_pow_sub_one_eq_mod n 48;rw [h2,wU64 (by omega) (by omega)];omega
theorem Split_eq {v:Int} (h0:0 ≤ v) (h:v ≤ 18446744073709551615):ux v = pure ((cidD v).dev,(cidD v).n):=by
 unfold ux cidD;have e:(2 ^ 48:Int) = 281474976710656:=rfl;rw [band48 h0 h,Int.fdiv_eq_ediv_of_nonneg _ (by decide),e,wU16 (by omega) (by omega)]
theorem x2a {v:Int} (h0:0 ≤ v) (h:v ≤ 18446744073709551615):XX v = pure ((cidD v).dev,(cidD v).n):=by
 unfold XX cidD;rw [Int.tdiv_eq_ediv_of_nonneg h0,Int.tmod_eq_emod_of_nonneg h0,wU64 (by omega) (by omega),wU16 (by omega) (by omega)]
def Wr (v:Int):Bool:=V.zk (cidD v)
theorem x3a {v:Int} (h0:0 ≤ v) (h:v ≤ 18446744073709551615):YR v = pure (if Wr v = true then cidD v else ⟨0,0⟩,Wr v):=by
 unfold YR;rw [Split_eq h0 h,zB,zA,V.ZF,zB,zA];show cond (!Wr v) _ _ = _
 cases Wr v <;> rfl
theorem yXa {v:Int} (h0:0 ≤ v) (h:v ≤ 18446744073709551615):YM v = pure (if Wr v = true then cidD v else ⟨0,0⟩,Wr v):=by
 unfold YM;rw [x2a h0 h,zB,zA,V.wW,zB,zA];show cond (!Wr v) _ _ = _
 cases Wr v <;> rfl

def Qo (f:Int):Bool:=decide (1 ≤ f) && decide (f ≤ 5)
theorem Field_eq (f:Int):YS f = pure (Qo f):=by unfold YS Qo;rw [zW];rfl
theorem x4a (f:Int):Wz f = pure (Qo f):=by unfold Wz Qo;rw [zW];rfl
def okB (x:Int):Bool:=decide (32 ≤ x) && decide (x ≤ 126)
def qi (s:ByteArray):Bool:=decide (s.size ≤ 60) && (yQ s).all okB
theorem Zu {α:Type} (l:List α) (p:α → Bool):(l.zipIdx.all fun y=>p y.1) = l.all p:=by
 rw [Bool.eq_iff_iff,List.all_eq_true,List.all_eq_true]
 constructor
 ·intro h x hx;obtain ⟨i,hi⟩:=List.getElem?_of_mem hx;exact h (x,i) (by rw [List.mk_mem_zipIdx_iff_getElem?];exact hi)
 ·intro h y hy;exact h y.1 (List.fst_mem_of_mem_zipIdx hy)
theorem okB_eq (x:Int) (f:M Bool) (hf:f = pure (decide (126 < x))):(cond (decide (x < 32)) (pure true) f:M Bool) = pure (!okB x):=by
 rw [hf];unfold okB
 by_cases h1:x < 32
 ·have:¬ 32 ≤ x:=by omega
  simp [h1,this]
 ·have:32 ≤ x:=by omega
  by_cases h2:126 < x
  ·have:¬ x ≤ 126:=by omega
   simp [h1,h2,this]
  ·have:x ≤ 126:=by omega
   simp [h1,h2, *]
theorem x5a (s:ByteArray) (hs:s.size ≤ 1000000000000):loop (xm s) 0 = pure (if (yQ s).all okB = true then Ex.brk () else Ex.ret false):=by
 have:=xS (body:=xm s) (yQ s) (fun i=>(i:Int)) (fun _ x=>okB x) (Ex.brk ()) (Ex.ret false) (fun i x hx hi=>by
  have hd:decide ((i:Int) < (s.size:Int)) = true:=by rw [← xE];simpa using hi
  have hi2:i < s.size:=by rw [← xE];exact hi
  unfold xm;simp only [hd,cond_true,zE hx,zA,okB_eq x _ rfl,zc (show i < 9223372036854775807 by omega)]
  cases okB x <;> rfl) (by
  unfold xm;simp [xE])
 rw [show (0:Int) = ((0:Nat):Int) from rfl,this,Zu]
theorem yYa (s:ByteArray) (hs:s.size ≤ 1000000000000):loop (ve s) 0 = pure (if (yQ s).all okB = true then Ex.brk () else Ex.ret false):=by
 have:=xS (body:=ve s) (yQ s) (fun i=>(i:Int)) (fun _ x=>okB x) (Ex.brk ()) (Ex.ret false) (fun i x hx hi=>by
  have hd:decide ((i:Int) < (s.size:Int)) = true:=by rw [← xE];simpa using hi
  have hi2:i < s.size:=by rw [← xE];exact hi
  unfold ve;simp only [hd,cond_true,zE hx,zA,okB_eq x _ rfl,zc (show i < 9223372036854775807 by omega)]
  cases okB x <;> rfl) (by
  unfold ve;simp [xE])
 rw [show (0:Int) = ((0:Nat):Int) from rfl,this,Zu]
theorem Text_eq (s:ByteArray) (hs:s.size ≤ 1000000000000):YT s = pure (qi s):=by
 unfold YT qi;rw [x5a s hs]
 by_cases h:s.size ≤ 60
 ·have:decide ((60:Int) < (s.size:Int)) = false:=by simp;omega
  rw [this,cond_false,zA,decide_eq_true h,Bool.true_and]
  cases (yQ s).all okB <;> rfl
 ·have:decide ((60:Int) < (s.size:Int)) = true:=by simp;omega
  rw [this,cond_true,decide_eq_false h,Bool.false_and]
theorem rText_eq (s:ByteArray) (hs:s.size ≤ 1000000000000):VA s = pure (qi s):=by
 unfold VA qi;rw [yYa s hs,zA]
 cases (yQ s).all okB with
 | false=>rw [Bool.and_false];rfl
 | true=>
  rw [if_pos rfl,uQ,Bool.and_true]
  congr 1
  by_cases h:s.size ≤ 60
  ·rw [decide_eq_true h];simp;omega
  ·rw [decide_eq_false h];simp;omega

structure OkE (e:TEvent):Prop where
 dot:D.OkD e.dot
 kind:0 ≤ e.kind ∧ e.kind ≤ 255
 cid:0 ≤ e.cid ∧ e.cid ≤ 18446744073709551615
 field:0 ≤ e.field ∧ e.field ≤ 255
 text:e.text.size ≤ 1000000000
 kills:∀ d ∈ e.kills,D.OkD d
 klen:e.kills.length ≤ 1000000000
def zra (s:ByteArray):Bool:=decide (s = ⟨#[]⟩)
def x6a (e:TEvent):Bool:=(decide (e.kind = 1) && (Qo e.field && qi e.text)) || (decide (e.kind = 2) && (decide (e.field = 0) && zra e.text))
def yZa (e:TEvent):Bool:=decide (e.kills.length ≤ 256) && (D.Zt e.kills && e.kills.all fun d=>V.zk d && !decide (d = e.dot))
def yS (e:TEvent):Bool:=(Wr e.cid && V.zk e.dot) && (x6a e && yZa e)
theorem x7a (l:List TDot) (hl:l.length ≤ 1000000000000):YU l = pure (D.Zt l):=by
 unfold YU;have key:∀ (k i:Nat) (x:TDot) (r:List TDot),i + k = l.length → l.drop i = r → i ≠ 0 → l[i - 1]? = some x → loop (yY l) (i:Int) = pure (if D.Zt (x :: r) = true then Ex.brk () else Ex.ret false):=by
  intro k
  induction k with
  | zero=>
   intro i x r hi hr h1 hx;have:r = []:=by rw [← hr];exact List.drop_eq_nil_of_le (by omega)
   subst this;exact ze (by
    unfold yY;have:decide ((i:Int) < (l.length:Int)) = false:=by simp;omega
    simp only [this,cond_false];rfl)
  | succ k ih=>
   intro i x r hi hr h1 hx;have hlt:i < l.length:=by omega
   have hr2:r = l[i] :: l.drop (i + 1):=by rw [← hr];exact List.drop_eq_getElem_cons hlt
   have hy:=List.getElem?_eq_getElem hlt;have hi1:idx l (IntKind.i64.wrap ((i:Int) - 1)) = pure x:=by
    rw [wI64 (by omega) (by omega)];exact Wn (by omega) (by rw [show ((i:Int) - 1).toNat = i - 1 by omega];exact hx)
   have hb:yY l (i:Int) = cond (!zL x l[i]) (pure (.done (.ret false))) (pure (.next ((i + 1:Nat):Int))):=by
    unfold yY;have h2:decide ((i:Int) < (l.length:Int)) = true:=by simp;omega
    have h3:decide ((0:Int) < (i:Int)) = true:=by simp;omega
    simp only [h2,h3,cond_true,hi1,zE hy,zA,D.Cmp_eq,zB,D.cmp_ge,zc (show i < 9223372036854775807 by omega)]
   rw [hr2];show _ = (pure (if (zL x l[i] && D.Zt (l[i] :: l.drop (i + 1))) = true then Ex.brk () else Ex.ret false):M (Ex Unit Bool))
   cases c:zL x l[i] with
   | true=>
    rw [c] at hb;rw [zd hb,Bool.true_and];exact ih (i + 1) l[i] _ (by omega) rfl (by omega) hy
   | false=>
    rw [c] at hb;rw [ze hb];rfl
 cases l with
 | nil=>
  rw [ze (r:=Ex.brk ()) (by unfold yY;rfl)];rfl
 | cons x r=>
  have h0:yY (x :: r) 0 = pure (.next 1):=by
   unfold yY;have h2:decide ((0:Int) < ((x :: r).length:Int)) = true:=decide_eq_true (by rw [List.length_cons];omega);simp only [h2,cond_true,show decide ((0:Int) < 0) = false from rfl,cond_false,zA];rw [wI64 (by omega) (by omega)]
   rfl
  have:=key r.length 1 x r (by simp;omega) rfl (by decide) rfl;rw [show ((1:Nat):Int) = 1 from rfl] at this;rw [zd h0,this,zA]
  cases D.Zt (x :: r) <;> rfl
theorem yaa (e:TEvent) (hl:e.kills.length ≤ 1000000000000):loop (xn e) 0 = pure (if (e.kills.all fun d=>V.zk d && !decide (d = e.dot)) = true then Ex.brk () else Ex.ret false):=by
 have:=xS (body:=xn e) e.kills (fun i=>(i:Int)) (fun _ d=>V.zk d && !decide (d = e.dot)) (Ex.brk ()) (Ex.ret false) (fun i x hx hi=>by
  have hd:decide ((i:Int) < (e.kills.length:Int)) = true:=by simpa using hi
  unfold xn;simp only [hd,cond_true,zE hx,zA,V.ZF,zB,D.qf,zc (show i < 9223372036854775807 by omega)]
  cases V.zk x <;> cases decide (x = e.dot) <;> rfl) (by
  unfold xn;simp)
 rw [show (0:Int) = ((0:Nat):Int) from rfl,this,Zu e.kills fun d=>V.zk d && !decide (d = e.dot)]
theorem Zq {e:TEvent} (h:OkE e):xz e = pure (yS e):=by
 have hk:=h.klen;have ht:=h.text;unfold xz yS;rw [x3a h.cid.1 h.cid.2,zB,zA,V.ZF,zB,zA,yaa e (by omega),x7a e.kills (by omega),Field_eq,Text_eq e.text (by omega)];simp only []
 cases Wr e.cid with
 | false=>rfl
 | true=>
  cases V.zk e.dot with
  | false=>rfl
  | true=>
   have hl:decide ((256:Int) < (e.kills.length:Int)) = !decide (e.kills.length ≤ 256):=by
    by_cases c:e.kills.length ≤ 256
    ·rw [decide_eq_true c];simp;omega
    ·rw [decide_eq_false c];simp;omega
   have tail:(cond (decide ((256:Int) < (e.kills.length:Int))) (pure true) ((det (pure (D.Zt e.kills))).bind fun v23=>pure (!v23))).bind (fun v21=>cond v21 (pure false) ((pure (if (e.kills.all fun d=>V.zk d && !decide (d = e.dot)) = true then Ex.brk () else Ex.ret false)).bind (exk fun _=>pure true))) = pure (yZa e):=by
    unfold yZa;rw [hl,zB,zA]
    cases decide (e.kills.length ≤ 256) with
    | false=>rfl
    | true=>
     cases D.Zt e.kills with
     | false=>rfl
     | true=>cases e.kills.all fun d=>V.zk d && !decide (d = e.dot) <;> rfl
   simp only [Bool.not_true,cond_false,zA,zB,Bool.true_and] at tail ⊢;unfold x6a zra
   by_cases k1:e.kind = 1
   ·have k2:decide (e.kind = 2) = false:=by rw [k1];rfl
    rw [decide_eq_true k1,cond_true,k2,Bool.true_and,Bool.false_and,Bool.or_false]
    cases Qo e.field with
    | false=>rfl
    | true=>
     cases qi e.text with
     | false=>rfl
     | true=>exact tail
   ·rw [decide_eq_false k1,cond_false,Bool.false_and,Bool.false_or]
    by_cases k2:e.kind = 2
    ·rw [decide_eq_true k2,cond_true,Bool.true_and]
     cases decide (e.field = 0) with
     | false=>rfl
     | true=>
      cases decide (e.text = (⟨#[]⟩:ByteArray)) with
      | false=>rfl
      | true=>exact tail
    ·rw [decide_eq_false k2];rfl
theorem Wa (l:List TDot) (d:TDot) (hl:l.length ≤ 1000000000000):WM l d = pure (l.any fun x=>decide (x = d)):=by
 unfold WM;have:=xS (body:=YL l d) l (fun i=>(i:Int)) (fun _ x=>!decide (x = d)) (Ex.brk ()) (Ex.ret true) (fun i x hx hi=>by
  have hd:decide ((i:Int) < (l.length:Int)) = true:=by simpa using hi
  unfold YL;simp only [hd,cond_true,zE hx,zA,D.qf,zc (show i < 9223372036854775807 by omega)]
  cases decide (x = d) <;> rfl) (by
  unfold YL;simp)
 rw [show (0:Int) = ((0:Nat):Int) from rfl,this,zA,Zu l fun x=>!decide (x = d)];have e:(l.any fun x=>decide (x = d)) = !(l.all fun x=>!decide (x = d)):=by simp [List.all_eq_not_any_not]
 rw [e]
 cases l.all fun x=>!decide (x = d) <;> rfl
theorem Wf (e:TEvent) (hl:e.kills.length ≤ 1000000000000):loop (vf e) 0 = pure (if e.kills.all V.zk = true then Ex.brk () else Ex.ret false):=by
 have:=xS (body:=vf e) e.kills (fun i=>(i:Int)) (fun _ d=>V.zk d) (Ex.brk ()) (Ex.ret false) (fun i x hx hi=>by
  have hd:decide ((i:Int) < (e.kills.length:Int)) = true:=by simpa using hi
  unfold vf;simp only [hd,cond_true,zE hx,zA,V.wW,zB,zc (show i < 9223372036854775807 by omega)]
  cases V.zk x <;> rfl) (by
  unfold vf;simp)
 rw [show (0:Int) = ((0:Nat):Int) from rfl,this,Zu e.kills V.zk]
theorem Xz {e:TEvent} (h:OkE e):XY e = pure (yS e):=by
 have hk:=h.klen;have ht:=h.text;unfold XY yS;rw [yXa h.cid.1 h.cid.2,zB,zA,V.wW,zB,zA,Wf e (by omega),D.yWa e.kills (by omega),x4a,rText_eq e.text (by omega),Wa e.kills e.dot (by omega)];simp only []
 cases Wr e.cid with
 | false=>rfl
 | true=>
  cases V.zk e.dot with
  | false=>rfl
  | true=>
   have hl:decide ((e.kills.length:Int) ≤ 256) = decide (e.kills.length ≤ 256):=by
    by_cases c:e.kills.length ≤ 256
    ·rw [decide_eq_true c];simp;omega
    ·rw [decide_eq_false c];simp;omega
   have hall:(e.kills.all fun d=>V.zk d && !decide (d = e.dot)) = (e.kills.all V.zk && !(e.kills.any fun x=>decide (x = e.dot))):=by
    rw [Bool.eq_iff_iff,Bool.and_eq_true,List.all_eq_true,List.all_eq_true,Bool.not_eq_true',List.any_eq_false]
    constructor
    ·intro h;exact ⟨fun x hx=>by have:=h x hx;rw [Bool.and_eq_true] at this;exact this.1,fun x hx=>by have:=h x hx;rw [Bool.and_eq_true] at this;simpa using this.2⟩
    ·rintro ⟨h1,h2⟩ x hx;rw [Bool.and_eq_true];exact ⟨h1 x hx,by simpa using h2 x hx⟩
   have tail:((pure (if e.kills.all V.zk = true then Ex.brk () else Ex.ret false):M (Ex Unit Bool)).bind (exk fun _=>(cond (decide ((e.kills.length:Int) ≤ 256)) ((det (pure (D.Zt e.kills))).bind fun v46=>cond v46 ((det (pure (e.kills.any fun x=>decide (x = e.dot)))).bind fun v49=>pure (!v49)) (pure false)) (pure false)).bind fun v44=>pure v44)) = pure (yZa e):=by
    unfold yZa;rw [hl,hall];simp only [zB,zA]
    cases e.kills.all V.zk with
    | false=>cases decide (e.kills.length ≤ 256) <;> cases D.Zt e.kills <;> rfl
    | true=>cases decide (e.kills.length ≤ 256) <;> cases D.Zt e.kills <;> cases e.kills.any fun x=>decide (x = e.dot) <;> rfl
   simp only [Bool.not_true,cond_false,zA,zB,Bool.true_and] at tail ⊢;unfold x6a zra
   by_cases k1:e.kind = 1
   ·have k2:decide (e.kind = 2) = false:=by rw [k1];rfl
    rw [decide_eq_true k1,k2];simp only [Bool.not_true,cond_false,cond_true,zA,Bool.true_and,Bool.false_and,Bool.or_false]
    cases Qo e.field with
    | false=>rfl
    | true=>
     cases qi e.text with
     | false=>rfl
     | true=>exact tail
   ·rw [decide_eq_false k1];simp only [Bool.not_false,cond_true,zA,Bool.false_and,Bool.false_or]
    by_cases k2:e.kind = 2
    ·rw [decide_eq_true k2];simp only [Bool.not_true,cond_false,cond_true,Bool.true_and]
     cases decide (e.field = 0) with
     | false=>rfl
     | true=>
      cases decide (e.text = (⟨#[]⟩:ByteArray)) with
      | false=>rfl
      | true=>exact tail
    ·rw [decide_eq_false k2];rfl


def fewE (l:List TEvent) (most:Nat):Bool:=decide (l.length ≤ most) && l.all fun e=>decide (e.kills.length ≤ 300) && decide (e.text.size ≤ 200)
theorem Wb (l:List TEvent) (most:Nat) (hm:most ≤ 1000000):Yw l (most:Int) = pure (fewE l most):=by
 unfold Yw fewE
 by_cases h:l.length ≤ most
 ·have hd:decide ((most:Int) < (l.length:Int)) = false:=by simp;omega
  have:=xS (body:=Zz l) l (fun i=>(i:Int)) (fun _ e=>decide (e.kills.length ≤ 300) && decide (e.text.size ≤ 200)) (Ex.brk ()) (Ex.ret false) (fun i x hx hi=>by
   have hd:decide ((i:Int) < (l.length:Int)) = true:=by simpa using hi
   unfold Zz;simp only [hd,cond_true,zE hx,zA,zc (show i < 9223372036854775807 by omega)]
   by_cases c:x.kills.length ≤ 300
   ·have h1:decide ((300:Int) < (x.kills.length:Int)) = false:=by simp;omega
    rw [h1,cond_false,decide_eq_true c,Bool.true_and,zA]
    by_cases c2:x.text.size ≤ 200
    ·have h2:decide ((200:Int) < (x.text.size:Int)) = false:=by simp;omega
     rw [h2,decide_eq_true c2];rfl
    ·have h2:decide ((200:Int) < (x.text.size:Int)) = true:=by simp;omega
     rw [h2,decide_eq_false c2];rfl
   ·have h1:decide ((300:Int) < (x.kills.length:Int)) = true:=by simp;omega
    rw [h1,cond_true,decide_eq_false c,Bool.false_and];rfl) (by
   unfold Zz;simp)
  rw [hd,cond_false,decide_eq_true h,Bool.true_and,show (0:Int) = ((0:Nat):Int) from rfl,this,zA,Zu l fun e=>decide (e.kills.length ≤ 300) && decide (e.text.size ≤ 200)]
  cases l.all fun e=>decide (e.kills.length ≤ 300) && decide (e.text.size ≤ 200) <;> rfl
 ·have hd:decide ((most:Int) < (l.length:Int)) = true:=by simp;omega
  rw [hd,cond_true,decide_eq_false h,Bool.false_and]
theorem Qp {l:List TEvent} {most:Nat} (h:fewE l most = true):l.length ≤ most ∧ ∀ e ∈ l,e.kills.length ≤ 300 ∧ e.text.size ≤ 200:=by
 unfold fewE at h;rw [Bool.and_eq_true,List.all_eq_true] at h;exact ⟨by simpa using h.1,fun e he=>by simpa using h.2 e he⟩
theorem zla (a b:TEvent) (h:a.kills.length ≤ 1000000000000):jd a b = pure (decide (a = b)):=by
 unfold jd;rw [D.qf,V.UB a.kills b.kills h,zB,zA];have e:decide (a = b) = (decide (a.dot = b.dot) && (decide (a.kind = b.kind) && (decide (a.cid = b.cid) && (decide (a.field = b.field) && (decide (a.text = b.text) && decide (a.kills = b.kills)))))):=by
  cases a;cases b;simp only [TEvent.mk.injEq,Bool.decide_and]
 rw [e]
 cases decide (a.dot = b.dot) <;> cases decide (a.kind = b.kind) <;> cases decide (a.cid = b.cid) <;> cases decide (a.field = b.field) <;> cases decide (a.text = b.text) <;> rfl
theorem Qq (a b:List TEvent) (ha:a.length ≤ 1000000000000) (hk:∀ e ∈ a,e.kills.length ≤ 1000000000000):Vm a b = pure (decide (a = b)):=by
 unfold Vm
 by_cases hlen:a.length = b.length
 ·have h1:decide ((a.length:Int) = (b.length:Int)) = true:=by simp [hlen]
  rw [h1,Bool.not_true,cond_false];have:=xS (body:=YY a b) a (fun i=>(i:Int)) (fun i x=>decide (b[i]? = some x)) (Ex.brk ()) (Ex.ret false) (fun i x hx hi=>by
   have hd:decide ((i:Int) < (a.length:Int)) = true:=by simpa using hi
   obtain ⟨y,hy⟩:∃ y,b[i]? = some y:=⟨_,List.getElem?_eq_getElem (by omega)⟩
   unfold YY;simp only [hd,cond_true,zE hx,zE hy,zA,zla x y (hk x (List.mem_of_getElem? hx)),zB,zc (show i < 9223372036854775807 by omega),hy]
   by_cases c:x = y
   ·subst c;simp
   ·have:¬ some y = some x:=fun e=>c (Option.some.inj e).symm
    simp [c,this]) (by
   unfold YY;simp)
  rw [show (0:Int) = ((0:Nat):Int) from rfl,this,zA];have e:(a.zipIdx.all fun y=>decide (b[y.2]? = some y.1)) = decide (a = b):=by
   rw [Bool.eq_iff_iff,List.all_eq_true,decide_eq_true_eq]
   constructor
   ·intro h;apply List.ext_getElem?;intro i
    by_cases hi:i < a.length
    ·have:=h (a[i],i) (by rw [List.mk_mem_zipIdx_iff_getElem?];exact List.getElem?_eq_getElem hi);simp only [decide_eq_true_eq] at this;rw [this,List.getElem?_eq_getElem hi]
    ·rw [List.getElem?_eq_none (by omega),List.getElem?_eq_none (by omega)]
   ·intro h y hy;subst h;rw [List.mem_zipIdx_iff_getElem?] at hy;simpa using hy
  rw [e]
  cases decide (a = b) <;> rfl
 ·have h1:decide ((a.length:Int) = (b.length:Int)) = false:=by simp;omega
  have h2:decide (a = b) = false:=decide_eq_false fun e=>hlen (by rw [e])
  rw [h1,Bool.not_false,cond_true,h2]

def encT (s:ByteArray):List Int:=N.encI s.size ++ yQ s
def encE (e:TEvent):List Int:=D.encD e.dot ++ ([e.kind] ++ (N.encI e.cid ++ ([e.field] ++ (encT e.text ++ D.Qm e.kills))))
theorem Jb {s:ByteArray} (h:s.size ≤ 1000000000):(encT s).length ≤ 9 + s.size:=by
 have:=N.zb (v:=(s.size:Int)) (by omega);rw [encT,List.length_append,xE];omega
theorem encE_len {e:TEvent} (h:OkE e):(encE e).length ≤ 47 + e.text.size + 18 * e.kills.length:=by
 have h1:=D.Yi h.dot;have h2:=N.zb h.cid.2;have h3:=Jb h.text;have h4:=D.xza h.kills (by have:=h.klen;omega);simp only [encE,List.length_append,List.length_singleton];omega
theorem yba {s:ByteArray} (h:s.size ≤ 1000000000) (row:List Int) (hr:row.length ≤ 1000000000000):yt s row = pure (row ++ encT s):=by
 have:=N.zb (v:=(s.size:Int)) (by omega);unfold yt;rw [wU64 (by omega) (by omega),N.vt row (by omega) (by omega) (by omega),zB,zA,zD (by omega),N.xwa _ _ (by rw [List.length_append,xE];omega),zB,zA,encT,List.append_assoc]
theorem Qr {s:ByteArray} (h:s.size ≤ 1000000000) (row:List Int) (hr:row.length ≤ 1000000000000):VH row s = pure (row ++ encT s):=by
 have h9:=N.zb (v:=(s.size:Int)) (by omega);unfold VH;rw [wU64 (by omega) (by omega),N.yh row (by omega) (by omega) (by omega),zB,zA];have:=D.ZO (body:=uy s) (yQ s) (fun x=>[x]) (row ++ N.encI (s.size:Int)) 2000000000000 (fun i out=>((i:Int),out)) (fun t=>pure t) (by
  have:=D.uP (yQ s) (fun x=>[x]) 1 (by simp);rw [xE] at this;rw [List.length_append];omega) (fun i x out hx hi ho=>by
  have hi2:i < s.size:=by rw [← xE];exact hi
  have hd:decide ((i:Int) < (s.size:Int)) = true:=by simpa using hi2
  unfold uy;simp only [hd,cond_true,zE hx,zA];rw [zD (by simp at ho ⊢;omega),zc (show i < 9223372036854775807 by omega)]) (fun out=>by
  unfold uy;simp [xE,zA])
 rw [show (0:Int) = ((0:Nat):Int) from rfl,this,zA,encT,List.append_assoc];have e:∀ l:List Int,(l.flatMap fun x=>[x]) = l:=by
  intro l
  induction l with
  | nil=>rfl
  | cons x r ih=>rw [List.flatMap_cons,ih];rfl
 rw [e]
theorem Put_eq {e:TEvent} (h:OkE e) (row:List Int) (hr:row.length ≤ 10000000000):um e row = pure (row ++ encE e):=by
 have h1:=D.Yi h.dot;have h2:=N.zb h.cid.2;have h3:=Jb h.text;have ht:=h.text;have hk:=h.klen;unfold um;rw [D.qh h.dot row (by omega),zB,zA,N.zna _ _ (by rw [List.length_append];omega),zB,zA,N.vt _ h.cid.1 h.cid.2 (by simp only [List.length_append,List.length_singleton];omega),zB,zA,
  N.zna _ _ (by simp only [List.length_append,List.length_singleton];omega),zB,zA,yba h.text _ (by simp only [List.length_append,List.length_singleton];omega),zB,zA,
  D.yUa h.kills (by omega) _ (by simp only [List.length_append,List.length_singleton];omega),zB,zA]
 simp only [encE,List.append_assoc]
theorem UN {e:TEvent} (h:OkE e) (row:List Int) (hr:row.length ≤ 10000000000):jc row e = pure (row ++ encE e):=by
 have h1:=D.Yi h.dot;have h2:=N.zb h.cid.2;have h3:=Jb h.text;have ht:=h.text;have hk:=h.klen;unfold jc;rw [D.jJ h.dot row (by omega),zB,zA,zD (by simp only [List.length_append,List.length_singleton];omega),N.yh _ h.cid.1 h.cid.2 (by simp only [List.length_append,List.length_singleton];omega),zB,zA,
  zD (by simp only [List.length_append,List.length_singleton];omega),Qr h.text _ (by simp only [List.length_append,List.length_singleton];omega),zB,zA,
  D.Qn h.kills (by omega) _ (by simp only [List.length_append,List.length_singleton];omega),zB,zA]
 simp only [encE,List.append_assoc]
def Wh (l:List TEvent):List Int:=N.encI l.length ++ l.flatMap encE
theorem UQ {l:List TEvent} (h:∀ e ∈ l,OkE e) (hl:l.length ≤ 1000000000) (row:List Int) (hr:row.length + (l.flatMap encE).length ≤ 1000000000):yn l row = pure (row ++ Wh l):=by
 have h9:=N.zb (v:=(l.length:Int)) (by omega);unfold yn;rw [wU64 (by omega) (by omega),N.vt row (by omega) (by omega) (by omega),zB,zA];have:=D.ZO (body:=xH l) l encE (row ++ N.encI (l.length:Int)) 2000000000 (fun i out=>((i:Int),out)) (fun t=>pure t) (by rw [List.length_append];omega) (fun i x out hx hi ho=>by
  have hd:decide ((i:Int) < (l.length:Int)) = true:=by simpa using hi
  unfold xH;simp only [hd,cond_true,zE hx,zA,Put_eq (h x (List.mem_of_getElem? hx)) out (by omega),zB,zc (show i < 9223372036854775807 by omega)]) (fun out=>by
  unfold xH;simp [zA])
 rw [show (0:Int) = ((0:Nat):Int) from rfl,this,Wh,List.append_assoc]
theorem jK {l:List TEvent} (h:∀ e ∈ l,OkE e) (hl:l.length ≤ 1000000000) (row:List Int) (hr:row.length + (l.flatMap encE).length ≤ 1000000000):ua row l = pure (row ++ Wh l):=by
 have h9:=N.zb (v:=(l.length:Int)) (by omega);unfold ua;rw [wU64 (by omega) (by omega),N.yh row (by omega) (by omega) (by omega),zB,zA];have:=D.ZO (body:=vP l) l encE (row ++ N.encI (l.length:Int)) 2000000000 (fun i out=>(out,(i:Int))) (fun t=>pure t) (by rw [List.length_append];omega) (fun i x out hx hi ho=>by
  have hd:decide ((i:Int) < (l.length:Int)) = true:=by simpa using hi
  unfold vP;simp only [hd,cond_true,zE hx,zA,UN (h x (List.mem_of_getElem? hx)) out (by omega),zB,zc (show i < 9223372036854775807 by omega)]) (fun out=>by
  unfold vP;simp [zA])
 rw [show (0:Int) = ((0:Nat):Int) from rfl,this,zA,Wh,List.append_assoc]
theorem qj {l:List TEvent} (h:∀ e ∈ l,OkE e) (hf:∀ e ∈ l,e.kills.length ≤ 300 ∧ e.text.size ≤ 200):(l.flatMap encE).length ≤ 6000 * l.length:=
 D.uP l encE 6000 fun e he=>by have:=encE_len (h e he);have:=hf e he;omega
open N (RS Ok numS Wc ySa textS ZM endS OkB Sim)
open D (bad4 fin)

def s1 (s:RS):RS:=(D.dotS s).2
def s2 (s:RS):RS:=(ySa (s1 s)).2
def s3 (s:RS):RS:=(numS (s2 s)).2
def s4 (s:RS):RS:=(ySa (s3 s)).2
def s5 (s:RS):RS:=(textS 60 (s4 s)).2
def s6 (s:RS):RS:=(D.dotsS 256 (s5 s)).2
def getE (s:RS):TEvent:=⟨(D.dotS s).1,(ySa (s1 s)).1,(numS (s2 s)).1,(ySa (s3 s)).1,(textS 60 (s4 s)).1,(D.dotsS 256 (s5 s)).1⟩
def noE : TEvent:=⟨⟨0,0⟩,0,0,0,⟨#[]⟩,[]⟩
def getT (s:RS):RS:=bad4 (!yS (getE s)) (s6 s)
def getS (s:RS):TEvent × RS:=fin noE (getE s) (getT s)
variable {B:List Int} {a:Int} {s:RS}
open N (RS Ok numS Wc ySa textS ZM endS OkB Sim)
open D (bad4 fin)

variable {B:List Int} {a:Int} {s:RS}
abbrev SrtE (l:List TEvent):Prop:=l.Pairwise fun x y=>zL x.dot y.dot = true
theorem Jc (e:TEvent) (h:e.kills.length ≤ 1000000000000):yT e = pure e:=by
 unfold yT;rw [D.JX _ h,zB,zA]
def keepK (l:List TDot) (c:List TPart):List TDot:=D.yv (l.filter fun d=>C.hasC c d.dev d.n)
def again (dev:Int) (c:List TPart) (i:Nat) (e:TEvent):TEvent:=⟨⟨dev,(i:Int) + 1⟩,e.kind,e.cid,e.field,e.text,keepK e.kills c⟩
def e0 : TEvent:=⟨⟨0,0⟩,0,0,0,⟨#[]⟩,[]⟩
def e4 : TEvent:=⟨⟨0,0⟩,0,0,0,⟨#[101]⟩,[]⟩
end Go.Ep.M.E

namespace Go.Ep.M.F
open Go
open E (OkE yS)

def hasD (l:List TDot) (d:TDot):Bool:=l.any fun x=>decide (x = d)
theorem jF (l:List TDot) (d:TDot) (hl:l.length ≤ 1000000000000):ja l d = pure (hasD l d):=by
 unfold ja yR yi;have:=loopF (body:=zr l d) l (fun i=>(i:Int)) (fun _ x=>decide (x = d)) (fun i _=>Ex.ret (i:Int)) (pure (Ex.brk ())) (fun i x hx hi=>by
  have hd:decide ((i:Int) < (l.length:Int)) = true:=by simpa using hi
  unfold zr;simp only [hd,cond_true,zE hx,zA,D.qf,zc (show i < 9223372036854775807 by omega),yP,eq_comm (a:=d) (b:=x),decide_eq_true_eq]) (by
  unfold zr;simp [zA])
 rw [show (0:Int) = ((0:Nat):Int) from rfl,this];have hf:(l.zipIdx.find? fun y=>decide (y.1 = d)).isSome = hasD l d:=by
  rw [List.isSome_find?];unfold hasD;rw [Bool.eq_iff_iff,List.any_eq_true,List.any_eq_true]
  constructor
  ·rintro ⟨y,hy,h⟩;exact ⟨y.1,List.fst_mem_of_mem_zipIdx hy,h⟩
  ·rintro ⟨x,hx,h⟩;obtain ⟨i,hi⟩:=List.getElem?_of_mem hx;exact ⟨(x,i),by rw [List.mk_mem_zipIdx_iff_getElem?];exact hi,h⟩
 rw [← hf]
 cases l.zipIdx.find? fun y=>decide (y.1 = d) with
 | none=>simp only [zA,zB,uQ];rfl
 | some y=>simp only [zA,zB,Vd];simp
def uA (l:List TEvent) (d:TDot):Bool:=l.any fun e=>hasD e.kills d
theorem Dead_eq (l:List TEvent) (d:TDot) (hl:l.length ≤ 1000000000000) (hk:∀ e ∈ l,e.kills.length ≤ 1000000000000):wA l d = pure (uA l d):=by
 unfold wA;have:=xS (body:=vL l d) l (fun i=>(i:Int)) (fun _ x=>!hasD x.kills d) (Ex.brk ()) (Ex.ret true) (fun i x hx hi=>by
  have hd:decide ((i:Int) < (l.length:Int)) = true:=by simpa using hi
  unfold vL Yz;simp only [hd,cond_true,zE hx,zA,jF x.kills d (hk x (List.mem_of_getElem? hx)),zB,zc (show i < 9223372036854775807 by omega)]
  cases hasD x.kills d <;> rfl) (by
  unfold vL;simp)
 rw [show (0:Int) = ((0:Nat):Int) from rfl,this,zA,E.Zu l fun x=>!hasD x.kills d];have e:uA l d = !(l.all fun x=>!hasD x.kills d):=by simp [uA,List.all_eq_not_any_not]
 rw [e]
 cases l.all fun x=>!hasD x.kills d <;> rfl
def Wi (l:List TDot) (c:List TPart):List TDot:=D.yv (l.filter fun d=>!C.hasC c d.dev d.n)
theorem Drop_eq (l : List TDot) (c : List TPart) (hl : l.length ≤ 1000000000) (hc : C.Sm c) : YV l c = pure (Wi l c) := by
  unfold YV WN;have := vz (body := vM l c false) l (fun i t => ((i : Int), t)) (fun t d => if C.hasC c d.dev d.n = true then t else t ++ [d]) (fun t => pure t) (fun i t => t.length ≤ i) (fun i x t hx hi hI => by
    have hd : decide ((i : Int) < (l.length : Int)) = true := by simpa using hi
    refine ⟨?_, by split
                   · omega
                   · simp; omega⟩
    unfold vM;simp only [hd, cond_true, zE hx, zA, C.jF c x hc, zB, zc (show i < 9223372036854775807 by omega)]
    by_cases c : C.hasC c x.dev x.n = true
    · rw [c, show (true == false) = false from rfl, cond_false, zA, if_pos rfl]
    · simp only [Bool.not_eq_true] at c;rw [c, show (false == false) = true from rfl, cond_true, zD (by simp; omega), zA]; rfl) (fun t _ => by
    unfold vM;simp [zA]) [] (by simp)
  have key : ∀ (l t : List TDot), l.foldl (fun t d => if C.hasC c d.dev d.n = true then t else t ++ [d]) t = t ++ l.filter fun d => !C.hasC c d.dev d.n := by
    intro l
    induction l with
    | nil => intro t; simp
    | cons x r ih =>
      intro t;rw [List.foldl_cons, ih]
      by_cases h : C.hasC c x.dev x.n = true
      · rw [if_pos h, List.filter_cons, if_neg (by simp [h])]
      · rw [if_neg h, List.filter_cons, if_pos (by simp [h]), List.append_assoc]; rfl
  rw [show (0 : Int) = ((0 : Nat) : Int) from rfl, this, zA, key, List.nil_append, D.Ql _ (by have := List.length_filter_le (fun d : TDot => !C.hasC c d.dev d.n) l; omega), zB, zA, zB, zA, Wi]
def yB (l:List TEvent):List TDot:=l.flatMap fun e=>e.dot :: e.kills
def yC (l:List TEvent):List TDot:=D.yv (yB l)
theorem wh (l:List TEvent) (k:Nat) (h:∀ e ∈ l,e.kills.length ≤ k):(yB l).length ≤ l.length * (k + 1):=by
 induction l with
 | nil=>simp [yB]
 | cons e r ih=>
  have h1:=ih fun x hx=>h x (by simp [hx])
  have h2:=h e (by simp);have e1:(yB (e :: r)).length = e.kills.length + 1 + (yB r).length:=by simp [yB];omega
  rw [e1,List.length_cons,Nat.add_mul];omega
theorem UR {l:List TEvent} {i:Nat} {x:TEvent} (h:l[i]? = some x):yB (l.take (i + 1)) = yB (l.take i) ++ x.dot :: x.kills:=by
 rw [List.take_add_one,h];simp [yB]
theorem ql (l:List TEvent) (i:Nat):(yB (l.take i)).length ≤ (yB l).length:=by
 have:yB l = yB (l.take i) ++ yB (l.drop i):=by unfold yB;rw [← List.flatMap_append,List.take_append_drop]
 rw [this,List.length_append];omega
theorem US (l:List TEvent) (hl:l.length ≤ 1000000000) (hs:(yB l).length ≤ 1000000000):wG l = pure (yC l):=by
 unfold wG;have key:∀ (k i:Nat),i + k = l.length → loop (vN l) ((i:Int),yB (l.take i)) = pure (yB l):=by
  intro k
  induction k with
  | zero=>
   intro i hi;refine ze ?_;unfold vN;have:decide ((i:Int) < (l.length:Int)) = false:=by simp;omega
   simp only [this,cond_false];rw [List.take_of_length_le (by omega)]
  | succ k ih=>
   intro i hi;obtain ⟨x,hx⟩:∃ x,l[i]? = some x:=⟨_,List.getElem?_eq_getElem (by omega)⟩
   have hd:decide ((i:Int) < (l.length:Int)) = true:=by simp;omega
   have h1:=ql l (i + 1);rw [UR hx,List.length_append,List.length_cons] at h1;rw [zd (s':=(((i + 1:Nat):Int),yB (l.take (i + 1)))) ?_]
   ·exact ih (i + 1) (by omega)
   ·unfold vN;simp only [hd,cond_true,zE hx,zA,zc (show i < 9223372036854775807 by omega)];rw [zD (by simp;omega),zD (by simp;omega),UR hx,List.append_assoc];rfl
 have:=key l.length 0 (by omega);rw [show yB (l.take 0) = [] from rfl] at this;rw [show (0:Int) = ((0:Nat):Int) from rfl,this,zA,D.Ql _ (by omega),zB,zA,yC]
theorem rdots_in (l:List TEvent) {i:Nat} {x:TEvent} (hx:l[i]? = some x) (hk:x.kills.length ≤ 1000000000) (s:List TDot) (hs:s.length ≤ 1000000000):loop (vg l (i:Int)) (s,0) = pure (x.kills.foldl D.insD s):=by
 have:=vz (body:=vg l (i:Int)) x.kills (fun k t=>(t,(k:Int))) D.insD (fun t=>pure t) (fun k t=>t.length ≤ 1000000000 + k) (fun k d t hd hi hI=>by
  have hc:decide ((k:Int) < (x.kills.length:Int)) = true:=by simpa using hi
  refine ⟨?_,by have:=D.JW t d;omega⟩;unfold vg;simp only [zE hx,zA,hc,cond_true,zE hd,D.UN t d (by omega),zB,zc (show k < 9223372036854775807 by omega)]) (fun t _=>by
  unfold vg;simp [zE hx,zA]) s (by omega)
 exact this
theorem Jd (l:List TEvent) (hl:l.length ≤ 1000000) (hk:∀ e ∈ l,e.kills.length ≤ 300):YO l = pure (yC l):=by
 unfold YO;have key:∀ (k i:Nat),i + k = l.length → loop (ut l) (D.yv (yB (l.take i)),(i:Int)) = pure (yC l):=by
  intro k
  induction k with
  | zero=>
   intro i hi;refine ze ?_;unfold ut;have:decide ((i:Int) < (l.length:Int)) = false:=by simp;omega
   simp only [this,cond_false];rw [List.take_of_length_le (by omega)];rfl
  | succ k ih=>
   intro i hi;obtain ⟨x,hx⟩:∃ x,l[i]? = some x:=⟨_,List.getElem?_eq_getElem (by omega)⟩
   have hd:decide ((i:Int) < (l.length:Int)) = true:=by simp;omega
   have h1:=ql l i;have h2:=wh l 300 hk;have h3:=D.VR (yB (l.take i));have h4:=D.JW (D.yv (yB (l.take i))) x.dot;have h5:=hk x (List.mem_of_getElem? hx);rw [zd (s':=(D.yv (yB (l.take (i + 1))),((i + 1:Nat):Int))) ?_]
   ·exact ih (i + 1) (by omega)
   ·unfold ut;simp only [hd,cond_true,zE hx,zA,D.UN _ x.dot (show (D.yv (yB (l.take i))).length ≤ 1000000000000 by omega),zB,rdots_in l hx (show x.kills.length ≤ 1000000000 by omega) _ (show (D.insD (D.yv (yB (l.take i))) x.dot).length ≤ 1000000000 by omega),zc (show i < 9223372036854775807 by omega)];rw [UR hx];unfold D.yv;rw [List.foldl_append];rfl
 have:=key l.length 0 (by omega);rw [show D.yv (yB (l.take 0)) = [] from rfl] at this;rw [show (0:Int) = ((0:Nat):Int) from rfl,this,zA]

def ZT (l:List TEvent) (i:Nat) (x:TEvent):Bool:=decide (0 < i) && match l[i - 1]? with | some y=>decide (0 ≤ V.cmpD y.dot x.dot) | none=>false
theorem prev_eq {β:Type} {l:List TEvent} {i:Nat} {x:TEvent} (hi:i < l.length) (hl:l.length ≤ 1000000000) (f:TDot → TDot → M Int) (hf:∀ a b,f a b = pure (V.cmpD a b)) (K:Bool → M β) :
  (cond (decide (0 < (i:Int))) ((idx l (IntKind.i64.wrap ((i:Int) - 1))).bind fun y=>(det (f y.dot x.dot)).bind fun v=>K (decide (0 ≤ v))) (K false)) = K (ZT l i x):=by
 unfold ZT
 by_cases h:0 < i
 ·obtain ⟨y,hy⟩:∃ y,l[i - 1]? = some y:=⟨_,List.getElem?_eq_getElem (by omega)⟩
  have e:IntKind.i64.wrap ((i:Int) - 1) = ((i - 1:Nat):Int):=by rw [wI64 (by omega) (by omega)];omega
  have hd:decide (0 < (i:Int)) = true:=by simp;omega
  rw [hd,cond_true,e,zE hy,zA,hf,zB,zA,decide_eq_true h,Bool.true_and,hy]
 ·have hd:decide (0 < (i:Int)) = false:=by simp;omega
  rw [hd,cond_false,decide_eq_false h,Bool.false_and]
def bad1 (d:TDelta) (i:Nat) (e:TEvent):Bool:=!yS e || (ZT d.events i e || (C.hasC d.from_ e.dot.dev e.dot.n || (decide (e.kind = 1) && uA d.events e.dot)))
def x8a (d:TDelta):Bool:=decide (d.from_ = C.zP d.from_) && (decide (d.to_ = C.zP d.to_) && (decide (C.opC (fun x y=>x && !y) d.from_ d.to_ = []) && (decide (d.events.length ≤ 4096) && ((d.events.zipIdx.all fun y=>!bad1 d y.2 y.1) && decide (Wi (yC d.events) d.to_ = [])))))
structure OkD (d:TDelta):Prop where
 from_:C.Ok d.from_
 to_:C.Ok d.to_
 evs:∀ e ∈ d.events,OkE e
 len:d.events.length ≤ 1000000
 kills:∀ e ∈ d.events,e.kills.length ≤ 300
open E (OkE yS)

def Wr (c:List TPart):Bool:=decide (c = C.zP c)
set_option maxHeartbeats 4000000 in
theorem eSame_eq (a b:TEvent) (h:a.kills.length ≤ 1000000000000):WO a b = pure (decide (a = b)):=by
 unfold WO;rw [D.qf,V.Qc a.kills b.kills h,zB,zA];have e:decide (a = b) = (decide (a.dot = b.dot) && (decide (a.kind = b.kind) && (decide (a.cid = b.cid) && (decide (a.field = b.field) && (decide (a.text = b.text) && decide (a.kills = b.kills)))))):=by
  cases a;cases b;simp only [TEvent.mk.injEq,Bool.decide_and]
 rw [e]
 cases decide (a.dot = b.dot) <;> cases decide (a.kind = b.kind) <;> cases decide (a.cid = b.cid) <;> cases decide (a.field = b.field) <;> cases decide (a.text = b.text) <;> rfl
theorem eAll_eq (a b:List TEvent) (ha:a.length ≤ 1000000000000) (hk:∀ e ∈ a,e.kills.length ≤ 1000000000000):Vo a b = pure (decide (a = b)):=by
 unfold Vo za
 by_cases hlen:a.length = b.length
 ·have h1:decide ((a.length:Int) = (b.length:Int)) = true:=by simp [hlen]
  rw [h1,Bool.not_true,cond_false];have:=xS (body:=zH a b) a (fun i=>(i:Int)) (fun i x=>decide (b[i]? = some x)) (Ex.brk ()) (Ex.ret false) (fun i x hx hi=>by
   have hd:decide ((i:Int) < (a.length:Int)) = true:=by simpa using hi
   obtain ⟨y,hy⟩:∃ y,b[i]? = some y:=⟨_,List.getElem?_eq_getElem (by omega)⟩
   unfold zH;simp only [hd,cond_true,zE hx,zE hy,zA,eSame_eq x y (hk x (List.mem_of_getElem? hx)),zB,zc (show i < 9223372036854775807 by omega),hy]
   by_cases c:x = y
   ·subst c;simp
   ·have:¬ some y = some x:=fun e=>c (Option.some.inj e).symm
    simp [c,this]) (by
   unfold zH;simp)
  rw [show (0:Int) = ((0:Nat):Int) from rfl,this,zA];have e:(a.zipIdx.all fun y=>decide (b[y.2]? = some y.1)) = decide (a = b):=by
   rw [Bool.eq_iff_iff,List.all_eq_true,decide_eq_true_eq]
   constructor
   ·intro h;apply List.ext_getElem?;intro i
    by_cases hi:i < a.length
    ·have:=h (a[i],i) (by rw [List.mem_zipIdx_iff_getElem?];exact List.getElem?_eq_getElem hi);simp only [decide_eq_true_eq] at this;rw [this,List.getElem?_eq_getElem hi]
    ·rw [List.getElem?_eq_none (by omega),List.getElem?_eq_none (by omega)]
   ·rintro rfl y hy;rw [List.mem_zipIdx_iff_getElem?] at hy;simpa using hy
  rw [e]
  cases decide (a = b) <;> simp [zB,exk,zA]
 ·have h1:decide ((a.length:Int) = (b.length:Int)) = false:=by simp;omega
  have h2:decide (a = b) = false:=decide_eq_false fun e=>hlen (by rw [e])
  rw [h1,Bool.not_false,cond_true,zB,zA,h2]
def fewC (c:List TPart):Bool:=decide (c.length ≤ 30) && c.all fun p=>decide (p.runs.length ≤ 30)
end Go.Ep.M.F


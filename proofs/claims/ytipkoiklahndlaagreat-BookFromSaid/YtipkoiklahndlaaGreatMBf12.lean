/- Texts that the walks and laws lean on, side by side. -/
import Derived.Test.YtipkoiklahndlaaGreatMBf11
set_option linter.unusedVariables false
set_option linter.unusedSimpArgs false
namespace Go.Ep.M.D
open Go

theorem WW {a b:TDot}:zL a b = true ↔ a.dev < b.dev ∨ (a.dev = b.dev ∧ a.n < b.n):=by simp [zL]
theorem Yk (a:TDot):zL a a = false:=by
 cases h:zL a a with
 | false=>rfl
 | true=>rw [WW] at h;omega
theorem Ya {a b c:TDot} (h1:zL a b = true) (h2:zL b c = true):zL a c = true:=by rw [WW] at *;omega
theorem ZT {a b:TDot} (h:zL a b = true):zL b a = false:=by
 cases h2:zL b a with
 | false=>rfl
 | true=>rw [WW] at h h2;omega
theorem Uq {a b:TDot} (h1:zL a b = false) (h2:zL b a = false):a = b:=by
 have h3:¬ (zL a b = true):=by simp [h1]
 have h4:¬ (zL b a = true):=by simp [h2]
 rw [WW] at h3 h4
 cases a;cases b
 simp only [TDot.mk.injEq] at *
 omega
abbrev Srt (l:List TDot):Prop:=l.Pairwise fun x y=>zL x y = true
theorem xKa : ∀ {l l':List TDot},Srt l → Srt l' → (∀ d,d ∈ l ↔ d ∈ l') → l = l'
 | [],[],_,_,_=>rfl
 | [],y :: r,_,_,h=>by have:=(h y).2 (by simp);simp at this
 | x :: r,[],_,_,h=>by have:=(h x).1 (by simp);simp at this
 | x :: r,y :: t,h1,h2,h=>by
  have hx:=(h x).1 (by simp);have hy:=(h y).2 (by simp);have e:x = y:=by
   rcases List.mem_cons.1 hx with e | hx
   ·exact e
   ·rcases List.mem_cons.1 hy with e | hy
    ·exact e.symm
    ·have a1:=(List.pairwise_cons.1 h2).1 x hx;have a2:=(List.pairwise_cons.1 h1).1 y hy;rw [ZT a1] at a2;cases a2
  subst e
  congr 1
  refine xKa (List.pairwise_cons.1 h1).2 (List.pairwise_cons.1 h2).2 fun d=>?_
  have h3:=h d;simp only [List.mem_cons] at h3
  constructor
  ·intro hd;rcases h3.1 (.inr hd) with e | h4
   ·have:=(List.pairwise_cons.1 h1).1 d hd;rw [e,Yk] at this;cases this
   ·exact h4
  ·intro hd;rcases h3.2 (.inr hd) with e | h4
   ·have:=(List.pairwise_cons.1 h2).1 d hd;rw [e,Yk] at this;cases this
   ·exact h4

def insD (s:List TDot) (d:TDot):List TDot:=(s.filter fun x=>zL x d) ++ [d] ++ (s.filter fun x=>zL d x)
theorem ins_mem {s:List TDot} {d x:TDot}:x ∈ insD s d ↔ x = d ∨ x ∈ s:=by
 simp only [insD,List.mem_append,List.mem_filter,List.mem_singleton]
 constructor
 ·rintro ((h | h) | h)
  ·exact .inr h.1
  ·exact .inl h
  ·exact .inr h.1
 ·rintro (h | h)
  ·exact .inl (.inr h)
  ·cases h1:zL x d with
   | true=>exact .inl (.inl ⟨h,rfl⟩)
   | false=>
    cases h2:zL d x with
    | true=>exact .inr ⟨h,rfl⟩
    | false=>exact .inl (.inr (Uq h1 h2))
theorem ins_srt {s:List TDot} (h:Srt s) (d:TDot):Srt (insD s d):=by
 unfold Srt insD;rw [List.pairwise_append,List.pairwise_append];refine ⟨⟨h.filter _,by simp,fun a ha b hb=>?_⟩,h.filter _,fun a ha b hb=>?_⟩
 ·rw [List.mem_singleton.1 hb];exact (List.mem_filter.1 ha).2
 ·have hb:=(List.mem_filter.1 hb).2;rcases List.mem_append.1 ha with ha | ha
  ·exact Ya (List.mem_filter.1 ha).2 hb
  ·rw [List.mem_singleton.1 ha];exact hb
theorem UC (s:List TDot) (d:TDot):(insD s d).length ≤ s.length + 1:=by
 unfold insD;have h:∀ l:List TDot,(l.filter fun x=>zL x d).length + (l.filter fun x=>zL d x).length ≤ l.length:=by
  intro l
  induction l with
  | nil=>simp
  | cons x r ih=>
   cases h1:zL x d with
   | true=>simp [h1,ZT h1];omega
   | false=>
    cases h2:zL d x with
    | true=>simp [h1,h2];omega
    | false=>simp [h1,h2];omega
 have:=h s;simp;omega
def xq (l:List TDot):List TDot:=l.foldl insD []
theorem Wx : ∀ (l s:List TDot),Srt s → Srt (l.foldl insD s) ∧ (∀ d,d ∈ l.foldl insD s ↔ d ∈ s ∨ d ∈ l) ∧ (l.foldl insD s).length ≤ s.length + l.length
 | [],s,h=>⟨h,by simp,by simp⟩
 | x :: r,s,h=>by
  obtain ⟨h1,h2,h3⟩:=Wx r (insD s x) (ins_srt h x);refine ⟨h1,fun d=>?_,?_⟩
  ·rw [List.foldl_cons,h2 d,ins_mem,List.mem_cons]
   constructor
   ·rintro ((h | h) | h)
    ·exact .inr (.inl h)
    ·exact .inl h
    ·exact .inr (.inr h)
   ·rintro (h | h | h)
    ·exact .inl (.inr h)
    ·exact .inl (.inl h)
    ·exact .inr h
  ·have:=UC s x;rw [List.foldl_cons,List.length_cons];omega
theorem sort_srt (l:List TDot):Srt (xq l):=(Wx l [] List.Pairwise.nil).1
theorem Yb {l:List TDot} {d:TDot}:d ∈ xq l ↔ d ∈ l:=by simpa [xq] using (Wx l [] List.Pairwise.nil).2.1 d
theorem Xn (l:List TDot):(xq l).length ≤ l.length:=by simpa [xq] using (Wx l [] List.Pairwise.nil).2.2
theorem UD (s:List TDot) (d:TDot) (h:s.length ≤ 1000000000000):uU s d = pure (insD s d):=V.WF s d h

def ddS (out:List TDot) (x:TDot):List TDot:=if out.getLast? = some x then out else out ++ [x]
def dd (l:List TDot):List TDot:=l.foldl ddS []
theorem UE (l:List TDot) (x:TDot):dd (l ++ [x]) = ddS (dd l) x:=by simp [dd]
theorem QF (l:List TDot):(dd l).getLast? = l.getLast?:=by
 rcases R.xb l with rfl | ⟨r,y,rfl⟩
 ·rfl
 ·rw [UE];unfold ddS
  by_cases c:(dd r).getLast? = some y
  ·rw [if_pos c,c];simp
  ·rw [if_neg c];simp
theorem dd_mem {l:List TDot} {d:TDot}:d ∈ dd l ↔ d ∈ l:=by
 have:∀ (l s:List TDot),d ∈ l.foldl ddS s ↔ d ∈ s ∨ d ∈ l:=by
  intro l
  induction l with
  | nil=>intro s;simp
  | cons x r ih=>
   intro s;rw [List.foldl_cons,ih];have h2:d ∈ ddS s x ↔ d ∈ s ∨ d = x:=by
    unfold ddS
    split
    ·rename_i h
     exact ⟨.inl,fun h3=>h3.elim id fun e=>by rw [e];exact List.mem_of_getLast? h⟩
    ·simp
   rw [h2,List.mem_cons];exact or_assoc
 simpa [dd] using this l []
theorem dd_srt {l:List TDot} (h:l.Pairwise fun x y=>zL y x = false):Srt (dd l):=by
 have:∀ (n:Nat) (l:List TDot),l.length = n → (l.Pairwise fun x y=>zL y x = false) → Srt (dd l):=by
  intro n
  induction n with
  | zero=>intro l hl _;have:=List.eq_nil_of_length_eq_zero hl;subst this;exact List.Pairwise.nil
  | succ n ih=>
   intro l hl h;rcases R.xb l with rfl | ⟨r,y,rfl⟩
   ·simp at hl
   ·rw [List.pairwise_append] at h;have hr:=ih r (by simpa using hl) h.1;rw [UE];unfold ddS
    split
    ·exact hr
    ·rename_i hne
     unfold Srt;rw [List.pairwise_append];refine ⟨hr,by simp,fun a ha b hb=>?_⟩;rw [List.mem_singleton.1 hb];have ha':=dd_mem.1 ha;have h1:=h.2.2 a ha' y (by simp)
     cases h2:zL a y with
     | true=>rfl
     | false=>
      exfalso;have e:=Uq h2 h1;subst e;rw [QF] at hne;rcases R.xb r with rfl | ⟨q,z,rfl⟩
      ·simp at ha'
      ·have hz:zL a z = false:=h.2.2 z (by simp) a (by simp);rcases List.mem_append.1 ha' with h5 | h5
       ·have h6:zL z a = false:=by
         have:=(List.pairwise_append.1 h.1).2.2 a h5 z (by simp);exact this
        have:=Uq hz h6;subst this;simp at hne
       ·rw [List.mem_singleton.1 h5] at hne;simp at hne
 exact this l.length l rfl h

theorem ju (l:List TDot) (h:l.length ≤ 1000000000000):zp l = pure l:=by
 unfold zp;refine uS ⟨⟨false,fun h=>by cases h⟩,fun b hb=>?_⟩
 cases b with
 | true=>show ([]:List TDot) = l;exact (hb rfl).symm
 | false=>
  show _ ∧ ([] ++ l = l)
  exact ⟨by simp;omega,List.nil_append l⟩
theorem Js (x y:TDot):(decide (x.dev = y.dev) && decide (x.n = y.n)) = decide (x = y):=by
 cases x;cases y;simp [Bool.decide_and]
theorem Zq {l:List TDot} {m:Nat} {x:TDot} (h:l[m]? = some x):l.take (m + 1) = l.take m ++ [x]:=by
 rw [List.take_add_one,h];rfl
theorem Jt {l:List TDot} {m:Nat} {x:TDot} (h:l[m]? = some x):(l.take (m + 1)).getLast? = some x:=by rw [Zq h];simp
theorem WM (s:List TDot) (k:Nat) (hk:k < s.length) (hl:s.length ≤ 1000000000000):∀ (d k2 kk:Nat) (v:List TDot),k + k2 + d = s.length → 1 ≤ k2 → v.length = s.length → kk + 1 ≤ k + k2 → v.take kk = dd (s.take (k + k2)) → v.drop (k + k2 - 1) = s.drop (k + k2 - 1) →
  ∃ (kk':Nat) (v':List TDot),loop (za s (k:Int)) ((kk:Int),(k2:Int),v) = pure ((kk':Int),v') ∧ v'.length = s.length ∧ kk' ≤ s.length ∧ v'.take kk' = dd s
 | 0,k2,kk,v,hd,h1,hv,hkk,ht,_=>by
  refine ⟨kk,v,zi ?_,hv,by omega,by rw [ht,show k + k2 = s.length by omega,List.take_length]⟩;unfold za;have:decide ((k2:Int) < (((s.length - (k:Int).toNat:Nat)):Int)) = false:=by simp;omega
  simp only [this,cond_false]
 | d + 1,k2,kk,v,hd,h1,hv,hkk,ht,hdr=>by
  have hvg:∀ j,k + k2 - 1 ≤ j → v[j]? = s[j]?:=fun j hj=>by
   have:=congrArg (fun l=>l[j - (k + k2 - 1)]?) hdr;simp only [List.getElem?_drop] at this;rw [show k + k2 - 1 + (j - (k + k2 - 1)) = j by omega] at this;exact this
  obtain ⟨x,hx⟩:∃ x,s[k + k2]? = some x:=⟨_,List.getElem?_eq_getElem (by omega)⟩
  obtain ⟨y,hy⟩:∃ y,s[k + k2 - 1]? = some y:=⟨_,List.getElem?_eq_getElem (by omega)⟩
  have hlast:(dd (s.take (k + k2))).getLast? = some y:=by
   rw [QF];have:=Jt hy
   rwa [show k + k2 - 1 + 1 = k + k2 by omega] at this
  have hdd:dd (s.take (k + k2 + 1)) = if y = x then dd (s.take (k + k2)) else dd (s.take (k + k2)) ++ [x]:=by
   rw [Zq hx,UE];unfold ddS;rw [hlast]
   by_cases c:y = x
   ·rw [if_pos c,if_pos (by rw [c])]
   ·rw [if_neg c,if_neg (by intro e;exact c (Option.some.inj e))]
  have hb:za s (k:Int) ((kk:Int),(k2:Int),v) = pure (.next (if y = x then ((kk:Int),((k2 + 1:Nat):Int),v) else (((kk + 1:Nat):Int),((k2 + 1:Nat):Int),v.set kk x))):=by
   unfold za;have hc:decide ((k2:Int) < (((s.length - (k:Int).toNat:Nat)):Int)) = true:=by simp;omega
   have e1:IntKind.i64.wrap ((k2:Int) - 1) = ((k2 - 1:Nat):Int):=by rw [wI64 (by omega) (by omega)];omega
   have i1:idx v ((((k:Int).toNat + (k2:Int).toNat:Nat)):Int) = pure x:=zG (by rw [Int.toNat_natCast,Int.toNat_natCast,hvg _ (by omega)];exact hx);have i2:idx v ((((k:Int).toNat + (((k2 - 1:Nat):Int)).toNat:Nat)):Int) = pure y:=zG (by rw [Int.toNat_natCast,Int.toNat_natCast,hvg _ (by omega),show k + (k2 - 1) = k + k2 - 1 by omega];exact hy);obtain ⟨z,hz⟩:∃ z,v[kk]? = some z:=⟨_,List.getElem?_eq_getElem (by omega)⟩
   have i3:idx v (kk:Int) = pure z:=zG hz;simp only [hc,cond_true,e1];rw [zE (by simp;omega),i1,zA,zE (by simp;omega),i2,zA];simp only [Js]
   by_cases c:y = x
   ·have c1:decide (x = y) = true:=decide_eq_true c.symm;simp only [c1,Bool.not_true,cond_false,zA,zg (show k2 < 9223372036854775807 by omega),if_pos c]
   ·have c1:decide (x = y) = false:=decide_eq_false (fun e=>c e.symm);simp only [c1,Bool.not_false,cond_true,if_neg c];rw [zE (by simp;omega),i3];simp only [zA,zg (show k2 < 9223372036854775807 by omega),zg (show kk < 9223372036854775807 by omega),Int.toNat_natCast]
  by_cases c:y = x
  ·rw [if_pos c] at hb hdd;rw [zh hb];refine WM s k hk hl d (k2 + 1) kk v (by omega) (by omega) hv (by omega) (by rw [ht,← hdd];rfl) ?_;have:=congrArg (List.drop 1) hdr;rw [List.drop_drop,List.drop_drop,show k + k2 - 1 + 1 = k + (k2 + 1) - 1 by omega] at this;exact this
  ·rw [if_neg c] at hb hdd;rw [zh hb];refine WM s k hk hl d (k2 + 1) (kk + 1) (v.set kk x) (by omega) (by omega) (by simpa using hv) (by omega) ?_ ?_
   ·have h5:(v.set kk x)[kk]? = some x:=by rw [List.getElem?_set];simp;omega
    rw [Zq h5,List.take_set,List.set_eq_of_length_le (by rw [List.length_take];omega),ht,← hdd];rfl
   ·rw [List.drop_set,if_pos (by omega)];have:=congrArg (List.drop 1) hdr;rw [List.drop_drop,List.drop_drop,show k + k2 - 1 + 1 = k + (k2 + 1) - 1 by omega] at this;exact this
theorem zsa (s:List TDot) (hl:s.length ≤ 1000000000000):ze s = pure (dd s):=by
 unfold ze
 by_cases h2:s.length < 2
 ·have:decide ((s.length:Int) < 2) = true:=by simp;omega
  rw [this,cond_true]
  match s,h2 with
  | [],_=>rfl
  | [x],_=>rfl
 ·have:decide ((s.length:Int) < 2) = false:=by simp;omega
  rw [this,cond_false];have key:∀ d k,k + d = s.length → 1 ≤ k → dd (s.take k) = s.take k → (loop (zb s) (k:Int)).bind (exk fun _=>pure s) = pure (dd s):=by
   intro d
   induction d with
   | zero=>
    intro k hk h1 hd;rw [zi (r:=.brk ()) (by
     unfold zb;have:decide ((k:Int) < (s.length:Int)) = false:=by simp;omega
     simp only [this,cond_false])]
    rw [show k = s.length by omega,List.take_length] at hd;show pure s = pure (dd s);rw [hd]
   | succ d ih=>
    intro k hk h1 hd;obtain ⟨x,hx⟩:∃ x,s[k]? = some x:=⟨_,List.getElem?_eq_getElem (by omega)⟩
    obtain ⟨y,hy⟩:∃ y,s[k - 1]? = some y:=⟨_,List.getElem?_eq_getElem (by omega)⟩
    have hlast:(dd (s.take k)).getLast? = some y:=by
     rw [QF];have:=Jt hy
     rwa [show k - 1 + 1 = k by omega] at this
    have hc:decide ((k:Int) < (s.length:Int)) = true:=by simp;omega
    have i1:idx s (k:Int) = pure x:=zG hx;have i2:idx s (IntKind.i64.wrap ((k:Int) - 1)) = pure y:=by
     rw [wI64 (by omega) (by omega)];exact WR (by omega) (by rw [show ((k:Int) - 1).toNat = k - 1 by omega];exact hy)
    by_cases c:x = y
    ·subst c;obtain ⟨kk,v,h5,h6,h7,h8⟩:=WM s k (by omega) hl d 1 k s (by omega) (by omega) rfl (by omega) (by
      rw [Zq hx,UE,ddS,if_pos hlast,hd]) (by rw [show k + 1 - 1 = k by omega])
     rw [zi (r:=.ret (dd s)) (by
      unfold zb;simp only [hc,cond_true,i1,i2,zA,Js,decide_true];rw [zE (by omega),show (1:Int) = ((1:Nat):Int) from rfl,h5,zA];simp only [];rw [zE (by omega),zE (by simp;omega),zE (by
       simp only [List.length_append,List.length_take,List.length_replicate,List.length_drop,Int.toNat_natCast];omega),zA,VL]
      congr 3
      rw [Int.toNat_natCast,List.append_assoc,List.take_append_of_le_length (by rw [List.length_take];omega),List.take_take,Nat.min_self,h8])]
     rfl
    ·have c1:decide (x = y) = false:=decide_eq_false c;rw [zh (s':=((k + 1:Nat):Int)) (by
      unfold zb;simp only [hc,cond_true,i1,i2,zA,Js,c1,cond_false,vZ,zg (show k < 9223372036854775807 by omega)])]
     refine ih (k + 1) (by omega) (by omega) ?_;rw [Zq hx,UE,ddS,if_neg (by rw [hlast];intro e;exact c (Option.some.inj e).symm),hd]
  have:=key (s.length - 1) 1 (by omega) (by omega) (by
   obtain ⟨x,r,rfl⟩:∃ x r,s = x :: r:=by
    cases s with
    | nil=>simp at h2
    | cons x r=>exact ⟨x,r,rfl⟩
   rfl)
  exact this
theorem y1a {l:List TDot} {Q:List TDot → Prop} (h:∀ s,s.Perm l → (s.Pairwise fun x y=>zL y x = false) → Q s):(srt zL l).wp Q:=by
 refine ⟨⟨l.mergeSort (fun x y=>!zL y x),List.mergeSort_perm _ _,?_⟩,fun s ⟨h1,h2⟩=>h s h1 h2⟩;refine (List.pairwise_mergeSort (fun a b c h1 h2=>?_) (fun a b=>?_) l).imp fun {x y} h=>by simpa using h
 ·simp only [Bool.not_eq_true'] at h1 h2 ⊢
  cases h3:zL c a with
  | false=>rfl
  | true=>
   rw [WW] at h3;have h4:¬ (zL b a = true):=by simp [h1]
   have h5:¬ (zL c b = true):=by simp [h2]
   rw [WW] at h4 h5;omega
 ·cases h1:zL b a with
  | false=>rfl
  | true=>rw [ZT h1];rfl
theorem xLa (l:List TDot) (h:l.length ≤ 1000000000000):XK l = pure (xq l):=by
 unfold XK;rw [ju l h,zB,zA,zE (by omega)];refine uS (y1a fun s hs hp=>?_);show (bind (det (ze s)) fun y8=>pure y8).wp _;rw [zsa s (by rw [hs.length_eq];exact h),zB,zA];exact xKa (dd_srt hp) (sort_srt l) fun d=>by rw [dd_mem,Yb];exact hs.mem_iff

theorem cmp16_eq (x y:Int):xB x y = pure (R.cmp3 x y):=by
 unfold xB xW R.cmp3;simp only [decide_true,Bool.not_true,zB,zA,cond_false,yZ]
 split
 ·rfl
 ·split <;> rfl
theorem Cmp_eq (a b:TDot):Yn a b = pure (V.cmpD a b):=by
 unfold Yn;rw [cmp16_eq,zB,zA,R.y2a,zB,zA];unfold V.cmpD R.cmp3
 cases a with | mk d n=>cases b with | mk e m=>
 simp only [TDot.mk.injEq,zL]
 by_cases h1:d < e
 ·have:¬ d = e:=by omega
  simp [h1,this]
 ·by_cases h2:e < d
  ·have:¬ d = e:=by omega
   simp [h1,h2,this]
  ·have h3:d = e:=by omega
   subst h3
   by_cases h4:n < m
   ·have:¬ n = m:=by omega
    simp [h4,this]
   ·by_cases h5:m < n
    ·have:¬ n = m:=by omega
     simp [h4,h5,this]
    ·have:n = m:=by omega
     simp [this]


theorem xMa {σ ρ ε:Type} {body:σ → M (Step σ ρ)} (l:List ε) (f:ε → List Int) (row:List Int) (N:Nat) (mk:Nat → List Int → σ) (g:List Int → M ρ) (hN:row.length + (l.flatMap f).length ≤ N)
  (h1:∀ (i:Nat) (x:ε) (out:List Int),l[i]? = some x → i < l.length → out.length + (f x).length ≤ N → body (mk i out) = pure (.next (mk (i + 1) (out ++ f x))))
  (h2:∀ out,body (mk l.length out) = (g out).bind fun r=>pure (.done r)):loop body (mk 0 row) = g (row ++ l.flatMap f):=by
 have key:∀ (k i:Nat) (out:List Int),i + k = l.length → out.length + ((l.drop i).flatMap f).length ≤ N → loop body (mk i out) = g (out ++ (l.drop i).flatMap f):=by
  intro k
  induction k with
  | zero=>
   intro i out hi _;have:i = l.length:=by omega
   subst this;rw [VM,h2,List.drop_length];simp only [List.flatMap_nil,List.append_nil]
   rfl
  | succ k ih=>
   intro i out hi hl;have hlt:i < l.length:=by omega
   rw [List.drop_eq_getElem_cons hlt,List.flatMap_cons,List.length_append] at hl;rw [zh (h1 i l[i] out (List.getElem?_eq_getElem hlt) hlt (by omega)),ih (i + 1) _ (by omega) (by rw [List.length_append];omega),List.drop_eq_getElem_cons hlt,List.flatMap_cons,List.append_assoc]
 simpa using key l.length 0 row (by omega) (by simpa using hN)
theorem zIa {ε:Type} (l:List ε) (f:ε → List Int) (k:Nat) (h:∀ x ∈ l,(f x).length ≤ k):(l.flatMap f).length ≤ k * l.length:=by
 induction l with
 | nil=>simp
 | cons x r ih=>
  have h1:=h x (by simp);have h2:=ih fun y hy=>h y (by simp [hy])
  rw [List.flatMap_cons,List.length_append,List.length_cons,Nat.mul_add];omega

structure OkD (d:TDot):Prop where
 d0:0 ≤ d.dev
 d1:d.dev ≤ 65535
 n0:0 ≤ d.n
 n1:d.n ≤ 18446744073709551615
def encD (d:TDot):List Int:=N.encI d.dev ++ N.encI d.n
theorem zJa {d:TDot} (h:OkD d):(encD d).length ≤ 18:=by
 have h1:=N.ZR (v:=d.dev) (by have:=h.d1;omega);have h2:=N.ZR (v:=d.n) h.n1;rw [encD,List.length_append];omega
theorem Ur {d:TDot} (h:OkD d) (row:List Int) (hr:row.length ≤ 1000000000000):YR row d = pure (row ++ encD d):=by
 have h1:=N.ZR (v:=d.dev) (by have:=h.d1;omega);unfold YR;rw [wU64 h.d0 (by have:=h.d1;omega),N.ul row h.d0 (by have:=h.d1;omega) (by omega),zB,zA,N.ul _ h.n0 h.n1 (by rw [List.length_append];omega),zB,zA,encD,List.append_assoc]
def Yz (l:List TDot):List TDot:=l.filter V.zt
def encDs (l:List TDot):List Int:=N.encI (xq (Yz l)).length ++ (xq (Yz l)).flatMap encD
theorem good_mem {l:List TDot} {d:TDot}:d ∈ xq (Yz l) ↔ d ∈ l ∧ V.zt d = true:=by rw [Yb,Yz,List.mem_filter]
theorem good_len (l:List TDot):(xq (Yz l)).length ≤ l.length:=Nat.le_trans (Xn _) (List.length_filter_le _ _)
theorem zKa {l:List TDot} (h:∀ d ∈ l,OkD d):∀ d ∈ xq (Yz l),OkD d:=fun d hd=>h d (good_mem.1 hd).1
theorem WN (l : List TDot) (hl : l.length ≤ 1000000000000) : loop (xT l) ([], 0) = pure (xq (Yz l)) := by
  have := uF (body := xT l) l (fun i t => (t, (i : Int))) (fun t d => if V.zt d = true then insD t d else t) (fun t => pure t) (fun i t => t.length ≤ i) (fun i x t hx hi hI => by
    have hd : decide ((i : Int) < (l.length : Int)) = true := by simpa using hi
    refine ⟨?_, by split
                   · have := UC t x; omega
                   · omega⟩
    unfold xT;simp only [hd, cond_true, zG hx, zA, V.wO, zB, zg (show i < 9223372036854775807 by omega)]
    by_cases c : V.zt x = true
    · rw [c, cond_true, UD t x (by omega), zB, zA, zA, if_pos rfl]
    · simp only [Bool.not_eq_true] at c;rw [c, cond_false, zA]; rfl) (fun t _ => by
    unfold xT;simp [zA]) [] (by simp)
  rw [show (0 : Int) = ((0 : Nat) : Int) from rfl, this]
  congr 1
  have key : ∀ (l t : List TDot), l.foldl (fun t d => if V.zt d = true then insD t d else t) t = (Yz l).foldl insD t := by
    intro l
    induction l with
    | nil => intro t; rfl
    | cons x r ih =>
      intro t;rw [List.foldl_cons, ih];unfold Yz
      by_cases c : V.zt x = true
      · rw [if_pos c, List.filter_cons_of_pos c]; rfl
      · rw [if_neg c, List.filter_cons_of_neg c]
  exact key l []
theorem QG {l:List TDot} (h:∀ d ∈ l,OkD d) (hl:l.length ≤ 1000000000) (row:List Int) (hr:row.length ≤ 100000000000):Yq row l = pure (row ++ encDs l):=by
 have h3:=good_len l;have h1:=N.ZR (v:=((xq (Yz l)).length:Int)) (by omega);have h2:=zIa (xq (Yz l)) encD 18 fun x hx=>zJa (zKa h x hx)
 unfold Yq;rw [WN l (by omega),zA,wU64 (by omega) (by omega),N.ul row (by omega) (by omega) (by omega),zB,zA];have:=xMa (body:=wb (xq (Yz l))) (xq (Yz l)) encD (row ++ N.encI ((xq (Yz l)).length:Int)) 1000000000000 (fun i out=>(out,(i:Int))) (fun t=>pure t) (by rw [List.length_append];omega) (fun i x out hx hi ho=>by
  have hd:decide ((i:Int) < ((xq (Yz l)).length:Int)) = true:=by simpa using hi
  unfold wb;simp only [hd,cond_true,zG hx,zA,Ur (zKa h x (List.mem_of_getElem? hx)) out (by omega),zB,zg (show i < 9223372036854775807 by omega)]) (fun out=>by
  unfold wb;simp [zA])
 rw [show (0:Int) = ((0:Nat):Int) from rfl,this,zA,encDs,List.append_assoc]

def encR (x:TRun):List Int:=N.encI x.lo ++ N.encI x.hi
def encP (p:TPart):List Int:=N.encI p.dev ++ (N.encI p.runs.length ++ p.runs.flatMap encR)
def encN (c:List TPart):List Int:=N.encI c.length ++ c.flatMap encP
def encC (c:List TPart):List Int:=encN (C.zR c)
structure OkP (p:TPart):Prop where
 d0:0 ≤ p.dev
 d1:p.dev ≤ 65535
 r:∀ x ∈ p.runs,(0 ≤ x.lo ∧ x.lo ≤ 18446744073709551615) ∧ 0 ≤ x.hi ∧ x.hi ≤ 18446744073709551615
open N (RS Ok numS WL ZS endS OkB Sim)

def bad4 (c:Bool) (s:RS):RS:=if c = true then ZS 4 s else s
def fin {α:Type} (z x:α) (t:RS):α × RS:=if t.2 ≠ 0 then (z,t) else (x,t)
theorem xNa {s:RS} (h:Ok s) (c:Bool):Ok (bad4 c s):=by unfold bad4;split;exact N.jt h _;exact h
theorem fin_ok {α:Type} {z x:α} {t:RS} (h:t.2 = 0):fin z x t = (x,t):=if_neg (by simp [h])
theorem fin_bad {α:Type} {z x:α} {t:RS} (h:t.2 ≠ 0):fin z x t = (z,t):=if_pos h
def dotR (s:RS):TDot:=⟨(WL 65535 s).1,(numS (WL 65535 s).2).1⟩
def dotT (s:RS):RS:=bad4 (!V.zt (dotR s)) (numS (WL 65535 s).2).2
def dotS (s:RS):TDot × RS:=fin ⟨0,0⟩ (dotR s) (dotT s)
theorem ok_dot {s:RS} (h:Ok s):Ok (dotS s).2 ∧ OkD (dotS s).1 ∧ OkD (dotR s):=by
 obtain ⟨h1,h2,h3⟩:=N.ok_upto h (m:=65535) (by decide);obtain ⟨h4,h5,h6⟩:=N.xJa h1;have ht:Ok (dotT s):=xNa h4 _;have hr:OkD (dotR s):=⟨h2,h3,h5,h6⟩
 unfold dotS
 by_cases c:(dotT s).2 = 0
 ·rw [fin_ok c];exact ⟨ht,hr,hr⟩
 ·rw [fin_bad c];exact ⟨ht,⟨Int.le_refl _,by simp,Int.le_refl _,by simp⟩,hr⟩
variable {B:List Int} {a:Int} {s:RS}
def lastGe (out:List TDot) (x:TDot):Bool:=match out.getLast? with | some y=>decide (0 ≤ V.cmpD y x) | none=>false
def jv (out:List TDot) (s:RS):RS:=bad4 (lastGe out (dotS s).1) (dotS s).2
def yB : Nat → List TDot → RS → List TDot × RS
 | 0,out,s=>(out,s)
 | k + 1,out,s=>if (jv out s).2 ≠ 0 then ([],jv out s) else yB k (out ++ [(dotS s).1]) (jv out s)
def dotsS (most:Int) (s:RS):List TDot × RS:=if max most 0 < (numS s).1 then ([],ZS 3 (numS s).2) else yB (numS s).1.toNat [] (numS s).2
theorem xOa {k:Nat} {out:List TDot} {s:RS} (h:(jv out s).2 ≠ 0):yB (k + 1) out s = ([],jv out s):=if_pos h
theorem zta {k:Nat} {out:List TDot} {s:RS} (h:(jv out s).2 = 0):yB (k + 1) out s = yB k (out ++ [(dotS s).1]) (jv out s):=if_neg (by simp [h])
theorem zLa {s:RS} (h:Ok s) (out:List TDot):Ok (jv out s):=xNa (ok_dot h).1 _
theorem zMa : ∀ (k:Nat) (out:List TDot) (s:RS),Ok s → Ok (yB k out s).2
 | 0,_,_,h=>h
 | k + 1,out,s,h=>by
  by_cases c:(jv out s).2 = 0
  ·rw [zta c];exact zMa k _ _ (zLa h out)
  ·rw [xOa c];exact zLa h out
theorem jr {s:RS} (h:Ok s) (most:Int):Ok (dotsS most s).2:=by
 have h1:=N.xJa h;unfold dotsS
 split
 ·exact N.jt h1.1 _
 ·exact zMa _ _ _ h1.1
open N (RS Ok numS WL ZS endS OkB Sim)

variable {B:List Int} {a:Int} {s:RS}
open N (RS Ok numS WL ZS endS OkB Sim)

def Zr : List TDot → Bool
 | []=>true
 | x :: r=>(match r with | []=>true | y :: _=>zL x y) && Zr r
theorem zNa : ∀ {l:List TDot},Zr l = true ↔ Srt l
 | []=>⟨fun _=>List.Pairwise.nil,fun _=>rfl⟩
 | [x]=>⟨fun _=>by simp [Srt],fun _=>rfl⟩
 | x :: y :: r=>by
  show (zL x y && Zr (y :: r)) = true ↔ _;rw [Bool.and_eq_true,zNa (l:=y :: r)];unfold Srt;rw [List.pairwise_cons (a:=x)]
  constructor
  ·rintro ⟨h1,h2⟩;refine ⟨fun z hz=>?_,h2⟩;rcases List.mem_cons.1 hz with rfl | hz
   ·exact h1
   ·exact Ya h1 ((List.pairwise_cons.1 h2).1 z hz)
  ·rintro ⟨h1,h2⟩;exact ⟨h1 y (by simp),h2⟩
theorem cmp_ge (x y:TDot):decide (0 ≤ V.cmpD x y) = !zL x y:=by
 by_cases h:zL x y = true
 ·have:=V.ZO.2 h;rw [h];simp;omega
 ·have h2:¬ V.cmpD x y < 0:=fun e=>h (V.ZO.1 e)
  simp only [Bool.not_eq_true] at h;rw [h];simp;omega
theorem zua (l:List TDot) (hl:l.length ≤ 1000000000000):YI l = pure (Zr l):=by
 unfold YI;have key:∀ (k i:Nat) (x:TDot) (r:List TDot),i + k = l.length → l.drop i = r → i ≠ 0 → l[i - 1]? = some x → loop (xL l) (i:Int) = pure (if Zr (x :: r) = true then .brk () else .ret false):=by
  intro k
  induction k with
  | zero=>
   intro i x r hi hr h1 hx;have:r = []:=by rw [← hr];exact List.drop_eq_nil_of_le (by omega)
   subst this;exact zi (by
    unfold xL;have:decide ((i:Int) < (l.length:Int)) = false:=by simp;omega
    simp only [this,cond_false];rfl)
  | succ k ih=>
   intro i x r hi hr h1 hx;have hlt:i < l.length:=by omega
   have hr2:r = l[i] :: l.drop (i + 1):=by rw [← hr];exact List.drop_eq_getElem_cons hlt
   have hy:=List.getElem?_eq_getElem hlt;have hi1:idx l (IntKind.i64.wrap ((i:Int) - 1)) = pure x:=by
    rw [wI64 (by omega) (by omega)];exact WR (by omega) (by rw [show ((i:Int) - 1).toNat = i - 1 by omega];exact hx)
   have hb:xL l (i:Int) = cond (!zL x l[i]) (pure (.done (.ret false))) (pure (.next ((i + 1:Nat):Int))):=by
    unfold xL;have:decide ((i:Int) < (l.length:Int)) = true:=by simp;omega
    simp only [this,cond_true,hi1,zG hy,zA,V.uk,zB,cmp_ge,zg (show i < 9223372036854775807 by omega)]
   rw [hr2];show _ = (pure (if (zL x l[i] && Zr (l[i] :: l.drop (i + 1))) = true then Ex.brk () else Ex.ret false):M (Ex Unit Bool))
   cases c:zL x l[i] with
   | true=>
    rw [c] at hb;rw [zh hb,Bool.true_and];exact ih (i + 1) l[i] _ (by omega) rfl (by omega) hy
   | false=>
    rw [c] at hb;rw [zi hb];rfl
 cases l with
 | nil=>
  rw [zi (r:=.brk ()) (by unfold xL;rfl)];rfl
 | cons x r=>
  have:=key r.length 1 x r (by simp;omega) rfl (by decide) rfl;rw [show ((1:Nat):Int) = 1 from rfl] at this;rw [this,zA]
  cases Zr (x :: r) <;> rfl

open N (RS Ok numS WL ZS endS OkB Sim)

end Go.Ep.M.D

namespace Go.Ep.M.E
open Go

theorem xU (s:ByteArray):(xa s).length = s.size:=by simp [xa]
def cidD (v:Int):TDot:=⟨v / 281474976710656,v % 281474976710656⟩
theorem band48 {v:Int} (h0:0 ≤ v) (h:v ≤ 18446744073709551615):bAnd .u64 v 281474976710655 = v % 281474976710656:=by
 obtain ⟨n,rfl⟩:=Int.eq_ofNat_of_zero_le h0;unfold bAnd;have bv:∀ q:Nat,q < 18446744073709551616 → (BitVec.ofInt IntKind.u64.bits (q:Int)).toNat = q:=fun q hq=>by
  show (BitVec.ofInt 64 (q:Int)).toNat = q;rw [BitVec.toNat_ofInt];omega
 have e:(281474976710655:Int) = ((281474976710655:Nat):Int):=rfl;rw [e,BitVec.toNat_and,bv n (by omega),bv _ (by decide)];have h2:n &&& 281474976710655 = n % 281474976710656:=Nat.and_two_pow_sub_one_eq_mod n 48;rw [h2,wU64 (by omega) (by omega)];omega
theorem Split_eq {v:Int} (h0:0 ≤ v) (h:v ≤ 18446744073709551615):ZD v = pure ((cidD v).dev,(cidD v).n):=by
 unfold ZD cidD;have e:(2 ^ 48:Int) = 281474976710656:=rfl;rw [band48 h0 h,Int.fdiv_eq_ediv_of_nonneg _ (by decide),e,wU16 (by omega) (by omega)]
theorem xPa {v:Int} (h0:0 ≤ v) (h:v ≤ 18446744073709551615):XO v = pure ((cidD v).dev,(cidD v).n):=by
 unfold XO cidD;rw [Int.tdiv_eq_ediv_of_nonneg h0,Int.tmod_eq_emod_of_nonneg h0,wU64 (by omega) (by omega),wU16 (by omega) (by omega)]
def WX (v:Int):Bool:=V.zt (cidD v)
theorem xQa {v:Int} (h0:0 ≤ v) (h:v ≤ 18446744073709551615):YL v = pure (if WX v = true then cidD v else ⟨0,0⟩,WX v):=by
 unfold YL;rw [Split_eq h0 h,zB,zA,V.Yw,zB,zA];show cond (!WX v) _ _ = _
 cases WX v <;> rfl
theorem zva {v:Int} (h0:0 ≤ v) (h:v ≤ 18446744073709551615):YH v = pure (if WX v = true then cidD v else ⟨0,0⟩,WX v):=by
 unfold YH;rw [xPa h0 h,zB,zA,V.wO,zB,zA];show cond (!WX v) _ _ = _
 cases WX v <;> rfl

def QH (f:Int):Bool:=decide (1 ≤ f) && decide (f ≤ 5)
theorem Field_eq (f:Int):YM f = pure (QH f):=by unfold YM QH;rw [zT];rfl
theorem xRa (f:Int):Wh f = pure (QH f):=by unfold Wh QH;rw [zT];rfl
def okB (x:Int):Bool:=decide (32 ≤ x) && decide (x ≤ 126)
def QI (s:ByteArray):Bool:=decide (s.size ≤ 60) && (xa s).all okB
theorem ZU {α:Type} (l:List α) (p:α → Bool):(l.zipIdx.all fun y=>p y.1) = l.all p:=by
 rw [Bool.eq_iff_iff,List.all_eq_true,List.all_eq_true]
 constructor
 ·intro h x hx;obtain ⟨i,hi⟩:=List.getElem?_of_mem hx;exact h (x,i) (by rw [List.mk_mem_zipIdx_iff_getElem?];exact hi)
 ·intro h y hy;exact h y.1 (List.fst_mem_of_mem_zipIdx hy)
theorem okB_eq (x:Int) (f:M Bool) (hf:f = pure (decide (126 < x))):(cond (decide (x < 32)) (pure true) f:M Bool) = pure (!okB x):=by
 rw [hf];unfold okB
 by_cases h1:x < 32
 ·have:¬ 32 ≤ x:=by omega
  simp [h1,this]
 ·have:32 ≤ x:=by omega
  by_cases h2:126 < x
  ·have:¬ x ≤ 126:=by omega
   simp [h1,h2,this]
  ·have:x ≤ 126:=by omega
   simp [h1,h2, *]
theorem xSa (s:ByteArray) (hs:s.size ≤ 1000000000000):loop (xd s) 0 = pure (if (xa s).all okB = true then Ex.brk () else Ex.ret false):=by
 have:=yy (body:=xd s) (xa s) (fun i=>(i:Int)) (fun _ x=>okB x) (Ex.brk ()) (Ex.ret false) (fun i x hx hi=>by
  have hd:decide ((i:Int) < (s.size:Int)) = true:=by rw [← xU];simpa using hi
  have hi2:i < s.size:=by rw [← xU];exact hi
  unfold xd;simp only [hd,cond_true,zG hx,zA,okB_eq x _ rfl,zg (show i < 9223372036854775807 by omega)]
  cases okB x <;> rfl) (by
  unfold xd;simp [xU])
 rw [show (0:Int) = ((0:Nat):Int) from rfl,this,ZU]
theorem zwa (s:ByteArray) (hs:s.size ≤ 1000000000000):loop (vb s) 0 = pure (if (xa s).all okB = true then Ex.brk () else Ex.ret false):=by
 have:=yy (body:=vb s) (xa s) (fun i=>(i:Int)) (fun _ x=>okB x) (Ex.brk ()) (Ex.ret false) (fun i x hx hi=>by
  have hd:decide ((i:Int) < (s.size:Int)) = true:=by rw [← xU];simpa using hi
  have hi2:i < s.size:=by rw [← xU];exact hi
  unfold vb;simp only [hd,cond_true,zG hx,zA,okB_eq x _ rfl,zg (show i < 9223372036854775807 by omega)]
  cases okB x <;> rfl) (by
  unfold vb;simp [xU])
 rw [show (0:Int) = ((0:Nat):Int) from rfl,this,ZU]
theorem Text_eq (s:ByteArray) (hs:s.size ≤ 1000000000000):YN s = pure (QI s):=by
 unfold YN QI;rw [xSa s hs]
 by_cases h:s.size ≤ 60
 ·have:decide ((60:Int) < (s.size:Int)) = false:=by simp;omega
  rw [this,cond_false,zA,decide_eq_true h,Bool.true_and]
  cases (xa s).all okB <;> rfl
 ·have:decide ((60:Int) < (s.size:Int)) = true:=by simp;omega
  rw [this,cond_true,decide_eq_false h,Bool.false_and]
theorem rText_eq (s:ByteArray) (hs:s.size ≤ 1000000000000):Wi s = pure (QI s):=by
 unfold Wi QI;rw [zwa s hs,zA]
 cases (xa s).all okB with
 | false=>rw [Bool.and_false];rfl
 | true=>
  rw [if_pos rfl,vZ,Bool.and_true]
  congr 1
  by_cases h:s.size ≤ 60
  ·rw [decide_eq_true h];simp;omega
  ·rw [decide_eq_false h];simp;omega

structure OkE (e:TEvent):Prop where
 dot:D.OkD e.dot
 kind:0 ≤ e.kind ∧ e.kind ≤ 255
 cid:0 ≤ e.cid ∧ e.cid ≤ 18446744073709551615
 field:0 ≤ e.field ∧ e.field ≤ 255
 text:e.text.size ≤ 1000000000
 kills:∀ d ∈ e.kills,D.OkD d
 klen:e.kills.length ≤ 1000000000
def xTa (s:ByteArray):Bool:=decide (s = ⟨#[]⟩)
def goodK (e:TEvent):Bool:=(decide (e.kind = 1) && (QH e.field && QI e.text)) || (decide (e.kind = 2) && (decide (e.field = 0) && xTa e.text))
def zxa (e:TEvent):Bool:=decide (e.kills.length ≤ 256) && (D.Zr e.kills && e.kills.all fun d=>V.zt d && !decide (d = e.dot))
def yW (e:TEvent):Bool:=(WX e.cid && V.zt e.dot) && (goodK e && zxa e)
theorem xUa (l:List TDot) (hl:l.length ≤ 1000000000000):YO l = pure (D.Zr l):=by
 unfold YO;have key:∀ (k i:Nat) (x:TDot) (r:List TDot),i + k = l.length → l.drop i = r → i ≠ 0 → l[i - 1]? = some x → loop (yf l) (i:Int) = pure (if D.Zr (x :: r) = true then Ex.brk () else Ex.ret false):=by
  intro k
  induction k with
  | zero=>
   intro i x r hi hr h1 hx;have:r = []:=by rw [← hr];exact List.drop_eq_nil_of_le (by omega)
   subst this;exact zi (by
    unfold yf;have:decide ((i:Int) < (l.length:Int)) = false:=by simp;omega
    simp only [this,cond_false];rfl)
  | succ k ih=>
   intro i x r hi hr h1 hx;have hlt:i < l.length:=by omega
   have hr2:r = l[i] :: l.drop (i + 1):=by rw [← hr];exact List.drop_eq_getElem_cons hlt
   have hy:=List.getElem?_eq_getElem hlt;have hi1:idx l (IntKind.i64.wrap ((i:Int) - 1)) = pure x:=by
    rw [wI64 (by omega) (by omega)];exact WR (by omega) (by rw [show ((i:Int) - 1).toNat = i - 1 by omega];exact hx)
   have hb:yf l (i:Int) = cond (!zL x l[i]) (pure (.done (.ret false))) (pure (.next ((i + 1:Nat):Int))):=by
    unfold yf;have h2:decide ((i:Int) < (l.length:Int)) = true:=by simp;omega
    have h3:decide ((0:Int) < (i:Int)) = true:=by simp;omega
    simp only [h2,h3,cond_true,hi1,zG hy,zA,D.Cmp_eq,zB,D.cmp_ge,zg (show i < 9223372036854775807 by omega)]
   rw [hr2];show _ = (pure (if (zL x l[i] && D.Zr (l[i] :: l.drop (i + 1))) = true then Ex.brk () else Ex.ret false):M (Ex Unit Bool))
   cases c:zL x l[i] with
   | true=>
    rw [c] at hb;rw [zh hb,Bool.true_and];exact ih (i + 1) l[i] _ (by omega) rfl (by omega) hy
   | false=>
    rw [c] at hb;rw [zi hb];rfl
 cases l with
 | nil=>
  rw [zi (r:=Ex.brk ()) (by unfold yf;rfl)];rfl
 | cons x r=>
  have h0:yf (x :: r) 0 = pure (.next 1):=by
   unfold yf;have h2:decide ((0:Int) < ((x :: r).length:Int)) = true:=decide_eq_true (by rw [List.length_cons];omega);simp only [h2,cond_true,show decide ((0:Int) < 0) = false from rfl,cond_false,zA];rw [wI64 (by omega) (by omega)]
   rfl
  have:=key r.length 1 x r (by simp;omega) rfl (by decide) rfl;rw [show ((1:Nat):Int) = 1 from rfl] at this;rw [zh h0,this,zA]
  cases D.Zr (x :: r) <;> rfl
theorem zya (e:TEvent) (hl:e.kills.length ≤ 1000000000000):loop (xe e) 0 = pure (if (e.kills.all fun d=>V.zt d && !decide (d = e.dot)) = true then Ex.brk () else Ex.ret false):=by
 have:=yy (body:=xe e) e.kills (fun i=>(i:Int)) (fun _ d=>V.zt d && !decide (d = e.dot)) (Ex.brk ()) (Ex.ret false) (fun i x hx hi=>by
  have hd:decide ((i:Int) < (e.kills.length:Int)) = true:=by simpa using hi
  unfold xe;simp only [hd,cond_true,zG hx,zA,V.Yw,zB,D.Js,zg (show i < 9223372036854775807 by omega)]
  cases V.zt x <;> cases decide (x = e.dot) <;> rfl) (by
  unfold xe;simp)
 rw [show (0:Int) = ((0:Nat):Int) from rfl,this,ZU e.kills fun d=>V.zt d && !decide (d = e.dot)]
theorem uY {e:TEvent} (h:OkE e):xx e = pure (yW e):=by
 have hk:=h.klen;have ht:=h.text;unfold xx yW;rw [xQa h.cid.1 h.cid.2,zB,zA,V.Yw,zB,zA,zya e (by omega),xUa e.kills (by omega),Field_eq,Text_eq e.text (by omega)];simp only []
 cases WX e.cid with
 | false=>rfl
 | true=>
  cases V.zt e.dot with
  | false=>rfl
  | true=>
   have hl:decide ((256:Int) < (e.kills.length:Int)) = !decide (e.kills.length ≤ 256):=by
    by_cases c:e.kills.length ≤ 256
    ·rw [decide_eq_true c];simp;omega
    ·rw [decide_eq_false c];simp;omega
   have tail:(cond (decide ((256:Int) < (e.kills.length:Int))) (pure true) ((det (pure (D.Zr e.kills))).bind fun v23=>pure (!v23))).bind (fun v21=>cond v21 (pure false) ((pure (if (e.kills.all fun d=>V.zt d && !decide (d = e.dot)) = true then Ex.brk () else Ex.ret false)).bind (exk fun _=>pure true))) = pure (zxa e):=by
    unfold zxa;rw [hl,zB,zA]
    cases decide (e.kills.length ≤ 256) with
    | false=>rfl
    | true=>
     cases D.Zr e.kills with
     | false=>rfl
     | true=>cases e.kills.all fun d=>V.zt d && !decide (d = e.dot) <;> rfl
   simp only [Bool.not_true,cond_false,zA,zB,Bool.true_and] at tail ⊢;unfold goodK xTa
   by_cases k1:e.kind = 1
   ·have k2:decide (e.kind = 2) = false:=by rw [k1];rfl
    rw [decide_eq_true k1,cond_true,k2,Bool.true_and,Bool.false_and,Bool.or_false]
    cases QH e.field with
    | false=>rfl
    | true=>
     cases QI e.text with
     | false=>rfl
     | true=>exact tail
   ·rw [decide_eq_false k1,cond_false,Bool.false_and,Bool.false_or]
    by_cases k2:e.kind = 2
    ·rw [decide_eq_true k2,cond_true,Bool.true_and]
     cases decide (e.field = 0) with
     | false=>rfl
     | true=>
      cases decide (e.text = (⟨#[]⟩:ByteArray)) with
      | false=>rfl
      | true=>exact tail
    ·rw [decide_eq_false k2];rfl
theorem vy (l:List TDot) (d:TDot) (hl:l.length ≤ 1000000000000):Yo l d = pure (l.any fun x=>decide (x = d)):=by
 unfold Yo;have:=yy (body:=YG l d) l (fun i=>(i:Int)) (fun _ x=>!decide (x = d)) (Ex.brk ()) (Ex.ret true) (fun i x hx hi=>by
  have hd:decide ((i:Int) < (l.length:Int)) = true:=by simpa using hi
  unfold YG;simp only [hd,cond_true,zG hx,zA,D.Js,zg (show i < 9223372036854775807 by omega)]
  cases decide (x = d) <;> rfl) (by
  unfold YG;simp)
 rw [show (0:Int) = ((0:Nat):Int) from rfl,this,zA,ZU l fun x=>!decide (x = d)];have e:(l.any fun x=>decide (x = d)) = !(l.all fun x=>!decide (x = d)):=by simp [List.all_eq_not_any_not]
 rw [e]
 cases l.all fun x=>!decide (x = d) <;> rfl
theorem WN (e:TEvent) (hl:e.kills.length ≤ 1000000000000):loop (vc e) 0 = pure (if e.kills.all V.zt = true then Ex.brk () else Ex.ret false):=by
 have:=yy (body:=vc e) e.kills (fun i=>(i:Int)) (fun _ d=>V.zt d) (Ex.brk ()) (Ex.ret false) (fun i x hx hi=>by
  have hd:decide ((i:Int) < (e.kills.length:Int)) = true:=by simpa using hi
  unfold vc;simp only [hd,cond_true,zG hx,zA,V.wO,zB,zg (show i < 9223372036854775807 by omega)]
  cases V.zt x <;> rfl) (by
  unfold vc;simp)
 rw [show (0:Int) = ((0:Nat):Int) from rfl,this,ZU e.kills V.zt]
theorem vS {e:TEvent} (h:OkE e):YJ e = pure (yW e):=by
 have hk:=h.klen;have ht:=h.text;unfold YJ yW;rw [zva h.cid.1 h.cid.2,zB,zA,V.wO,zB,zA,WN e (by omega),D.zua e.kills (by omega),xRa,rText_eq e.text (by omega),vy e.kills e.dot (by omega)];simp only []
 cases WX e.cid with
 | false=>rfl
 | true=>
  cases V.zt e.dot with
  | false=>rfl
  | true=>
   have hl:decide ((e.kills.length:Int) ≤ 256) = decide (e.kills.length ≤ 256):=by
    by_cases c:e.kills.length ≤ 256
    ·rw [decide_eq_true c];simp;omega
    ·rw [decide_eq_false c];simp;omega
   have hall:(e.kills.all fun d=>V.zt d && !decide (d = e.dot)) = (e.kills.all V.zt && !(e.kills.any fun x=>decide (x = e.dot))):=by
    rw [Bool.eq_iff_iff,Bool.and_eq_true,List.all_eq_true,List.all_eq_true,Bool.not_eq_true',List.any_eq_false]
    constructor
    ·intro h;exact ⟨fun x hx=>by have:=h x hx;rw [Bool.and_eq_true] at this;exact this.1,fun x hx=>by have:=h x hx;rw [Bool.and_eq_true] at this;simpa using this.2⟩
    ·rintro ⟨h1,h2⟩ x hx;rw [Bool.and_eq_true];exact ⟨h1 x hx,by simpa using h2 x hx⟩
   have tail:((pure (if e.kills.all V.zt = true then Ex.brk () else Ex.ret false):M (Ex Unit Bool)).bind (exk fun _=>(cond (decide ((e.kills.length:Int) ≤ 256)) ((det (pure (D.Zr e.kills))).bind fun v46=>cond v46 ((det (pure (e.kills.any fun x=>decide (x = e.dot)))).bind fun v49=>pure (!v49)) (pure false)) (pure false)).bind fun v44=>pure v44)) = pure (zxa e):=by
    unfold zxa;rw [hl,hall];simp only [zB,zA]
    cases e.kills.all V.zt with
    | false=>cases decide (e.kills.length ≤ 256) <;> cases D.Zr e.kills <;> rfl
    | true=>cases decide (e.kills.length ≤ 256) <;> cases D.Zr e.kills <;> cases e.kills.any fun x=>decide (x = e.dot) <;> rfl
   simp only [Bool.not_true,cond_false,zA,zB,Bool.true_and] at tail ⊢;unfold goodK xTa
   by_cases k1:e.kind = 1
   ·have k2:decide (e.kind = 2) = false:=by rw [k1];rfl
    rw [decide_eq_true k1,k2];simp only [Bool.not_true,cond_false,cond_true,zA,Bool.true_and,Bool.false_and,Bool.or_false]
    cases QH e.field with
    | false=>rfl
    | true=>
     cases QI e.text with
     | false=>rfl
     | true=>exact tail
   ·rw [decide_eq_false k1];simp only [Bool.not_false,cond_true,zA,Bool.false_and,Bool.false_or]
    by_cases k2:e.kind = 2
    ·rw [decide_eq_true k2];simp only [Bool.not_true,cond_false,cond_true,Bool.true_and]
     cases decide (e.field = 0) with
     | false=>rfl
     | true=>
      cases decide (e.text = (⟨#[]⟩:ByteArray)) with
      | false=>rfl
      | true=>exact tail
    ·rw [decide_eq_false k2];rfl


def fewE (l:List TEvent) (most:Nat):Bool:=decide (l.length ≤ most) && l.all fun e=>decide (e.kills.length ≤ 300) && decide (e.text.size ≤ 200)
theorem UA (l:List TEvent) (most:Nat) (hm:most ≤ 1000000):Xt l (most:Int) = pure (fewE l most):=by
 unfold Xt fewE
 by_cases h:l.length ≤ most
 ·have hd:decide ((most:Int) < (l.length:Int)) = false:=by simp;omega
  have:=yy (body:=Zx l) l (fun i=>(i:Int)) (fun _ e=>decide (e.kills.length ≤ 300) && decide (e.text.size ≤ 200)) (Ex.brk ()) (Ex.ret false) (fun i x hx hi=>by
   have hd:decide ((i:Int) < (l.length:Int)) = true:=by simpa using hi
   unfold Zx;simp only [hd,cond_true,zG hx,zA,zg (show i < 9223372036854775807 by omega)]
   by_cases c:x.kills.length ≤ 300
   ·have h1:decide ((300:Int) < (x.kills.length:Int)) = false:=by simp;omega
    rw [h1,cond_false,decide_eq_true c,Bool.true_and,zA]
    by_cases c2:x.text.size ≤ 200
    ·have h2:decide ((200:Int) < (x.text.size:Int)) = false:=by simp;omega
     rw [h2,decide_eq_true c2];rfl
    ·have h2:decide ((200:Int) < (x.text.size:Int)) = true:=by simp;omega
     rw [h2,decide_eq_false c2];rfl
   ·have h1:decide ((300:Int) < (x.kills.length:Int)) = true:=by simp;omega
    rw [h1,cond_true,decide_eq_false c,Bool.false_and];rfl) (by
   unfold Zx;simp)
  rw [hd,cond_false,decide_eq_true h,Bool.true_and,show (0:Int) = ((0:Nat):Int) from rfl,this,zA,ZU l fun e=>decide (e.kills.length ≤ 300) && decide (e.text.size ≤ 200)]
  cases l.all fun e=>decide (e.kills.length ≤ 300) && decide (e.text.size ≤ 200) <;> rfl
 ·have hd:decide ((most:Int) < (l.length:Int)) = true:=by simp;omega
  rw [hd,cond_true,decide_eq_false h,Bool.false_and]
theorem xVa {l:List TEvent} {most:Nat} (h:fewE l most = true):l.length ≤ most ∧ ∀ e ∈ l,e.kills.length ≤ 300 ∧ e.text.size ≤ 200:=by
 unfold fewE at h;rw [Bool.and_eq_true,List.all_eq_true] at h;exact ⟨by simpa using h.1,fun e he=>by simpa using h.2 e he⟩
theorem zFa (a b:TEvent) (h:a.kills.length ≤ 1000000000000):Wm a b = pure (decide (a = b)):=by
 unfold Wm;rw [D.Js,V.Vp a.kills b.kills h,zB,zA];have e:decide (a = b) = (decide (a.dot = b.dot) && (decide (a.kind = b.kind) && (decide (a.cid = b.cid) && (decide (a.field = b.field) && (decide (a.text = b.text) && decide (a.kills = b.kills)))))):=by
  cases a;cases b;simp only [TEvent.mk.injEq,Bool.decide_and]
 rw [e]
 cases decide (a.dot = b.dot) <;> cases decide (a.kind = b.kind) <;> cases decide (a.cid = b.cid) <;> cases decide (a.field = b.field) <;> cases decide (a.text = b.text) <;> rfl
theorem QJ (a b:List TEvent) (ha:a.length ≤ 1000000000000) (hk:∀ e ∈ a,e.kills.length ≤ 1000000000000):Xy a b = pure (decide (a = b)):=by
 unfold Xy
 by_cases hlen:a.length = b.length
 ·have h1:decide ((a.length:Int) = (b.length:Int)) = true:=by simp [hlen]
  rw [h1,Bool.not_true,cond_false];have:=yy (body:=YS a b) a (fun i=>(i:Int)) (fun i x=>decide (b[i]? = some x)) (Ex.brk ()) (Ex.ret false) (fun i x hx hi=>by
   have hd:decide ((i:Int) < (a.length:Int)) = true:=by simpa using hi
   obtain ⟨y,hy⟩:∃ y,b[i]? = some y:=⟨_,List.getElem?_eq_getElem (by omega)⟩
   unfold YS;simp only [hd,cond_true,zG hx,zG hy,zA,zFa x y (hk x (List.mem_of_getElem? hx)),zB,zg (show i < 9223372036854775807 by omega),hy]
   by_cases c:x = y
   ·subst c;simp
   ·have:¬ some y = some x:=fun e=>c (Option.some.inj e).symm
    simp [c,this]) (by
   unfold YS;simp)
  rw [show (0:Int) = ((0:Nat):Int) from rfl,this,zA];have e:(a.zipIdx.all fun y=>decide (b[y.2]? = some y.1)) = decide (a = b):=by
   rw [Bool.eq_iff_iff,List.all_eq_true,decide_eq_true_eq]
   constructor
   ·intro h;apply List.ext_getElem?;intro i
    by_cases hi:i < a.length
    ·have:=h (a[i],i) (by rw [List.mk_mem_zipIdx_iff_getElem?];exact List.getElem?_eq_getElem hi);simp only [decide_eq_true_eq] at this;rw [this,List.getElem?_eq_getElem hi]
    ·rw [List.getElem?_eq_none (by omega),List.getElem?_eq_none (by omega)]
   ·intro h y hy;subst h;rw [List.mem_zipIdx_iff_getElem?] at hy;simpa using hy
  rw [e]
  cases decide (a = b) <;> rfl
 ·have h1:decide ((a.length:Int) = (b.length:Int)) = false:=by simp;omega
  have h2:decide (a = b) = false:=decide_eq_false fun e=>hlen (by rw [e])
  rw [h1,Bool.not_false,cond_true,h2]

def encT (s:ByteArray):List Int:=N.encI s.size ++ xa s
def encE (e:TEvent):List Int:=D.encD e.dot ++ ([e.kind] ++ (N.encI e.cid ++ ([e.field] ++ (encT e.text ++ D.encDs e.kills))))
theorem encT_len {s:ByteArray} (h:s.size ≤ 1000000000):(encT s).length ≤ 9 + s.size:=by
 have:=N.ZR (v:=(s.size:Int)) (by omega);rw [encT,List.length_append,xU];omega
theorem QK {s:ByteArray} (h:s.size ≤ 1000000000) (row:List Int) (hr:row.length ≤ 1000000000000):jJ row s = pure (row ++ encT s):=by
 have h9:=N.ZR (v:=(s.size:Int)) (by omega);unfold jJ;rw [wU64 (by omega) (by omega),N.ul row (by omega) (by omega) (by omega),zB,zA];have:=D.xMa (body:=ZE s) (xa s) (fun x=>[x]) (row ++ N.encI (s.size:Int)) 2000000000000 (fun i out=>((i:Int),out)) (fun t=>pure t) (by
  have:=D.zIa (xa s) (fun x=>[x]) 1 (by simp);rw [xU] at this;rw [List.length_append];omega) (fun i x out hx hi ho=>by
  have hi2:i < s.size:=by rw [← xU];exact hi
  have hd:decide ((i:Int) < (s.size:Int)) = true:=by simpa using hi2
  unfold ZE;simp only [hd,cond_true,zG hx,zA];rw [zE (by simp at ho ⊢;omega),zg (show i < 9223372036854775807 by omega)]) (fun out=>by
  unfold ZE;simp [xU,zA])
 rw [show (0:Int) = ((0:Nat):Int) from rfl,this,zA,encT,List.append_assoc];have e:∀ l:List Int,(l.flatMap fun x=>[x]) = l:=by
  intro l
  induction l with
  | nil=>rfl
  | cons x r ih=>rw [List.flatMap_cons,ih];rfl
 rw [e]
theorem UD {e:TEvent} (h:OkE e) (row:List Int) (hr:row.length ≤ 10000000000):yGa row e = pure (row ++ encE e):=by
 have h1:=D.zJa h.dot;have h2:=N.ZR h.cid.2;have h3:=encT_len h.text;have ht:=h.text;have hk:=h.klen;unfold yGa;rw [D.Ur h.dot row (by omega),zB,zA,zE (by simp only [List.length_append,List.length_singleton];omega),N.ul _ h.cid.1 h.cid.2 (by simp only [List.length_append,List.length_singleton];omega),zB,zA,
  zE (by simp only [List.length_append,List.length_singleton];omega),QK h.text _ (by simp only [List.length_append,List.length_singleton];omega),zB,zA,
  D.QG h.kills (by omega) _ (by simp only [List.length_append,List.length_singleton];omega),zB,zA]
 simp only [encE,List.append_assoc]
def encEs (l:List TEvent):List Int:=N.encI l.length ++ l.flatMap encE
open N (RS Ok numS WL zra textS ZS endS OkB Sim)
open D (bad4 fin)

def s1 (s:RS):RS:=(D.dotS s).2
def s2 (s:RS):RS:=(zra (s1 s)).2
def s3 (s:RS):RS:=(numS (s2 s)).2
def s4 (s:RS):RS:=(zra (s3 s)).2
def s5 (s:RS):RS:=(textS 60 (s4 s)).2
def s6 (s:RS):RS:=(D.dotsS 256 (s5 s)).2
def getE (s:RS):TEvent:=⟨(D.dotS s).1,(zra (s1 s)).1,(numS (s2 s)).1,(zra (s3 s)).1,(textS 60 (s4 s)).1,(D.dotsS 256 (s5 s)).1⟩
def noE : TEvent:=⟨⟨0,0⟩,0,0,0,⟨#[]⟩,[]⟩
def getT (s:RS):RS:=bad4 (!yW (getE s)) (s6 s)
def getS (s:RS):TEvent × RS:=fin noE (getE s) (getT s)
variable {B:List Int} {a:Int} {s:RS}
open N (RS Ok numS WL zra textS ZS endS OkB Sim)
open D (bad4 fin)

variable {B:List Int} {a:Int} {s:RS}
abbrev SrtE (l:List TEvent):Prop:=l.Pairwise fun x y=>zL x.dot y.dot = true
theorem jw (e:TEvent) (h:e.kills.length ≤ 1000000000000):yc e = pure e:=by
 unfold yc;rw [D.ju _ h,zB,zA]
def keepK (l:List TDot) (c:List TPart):List TDot:=D.xq (l.filter fun d=>C.hasC c d.dev d.n)
def again (dev:Int) (c:List TPart) (i:Nat) (e:TEvent):TEvent:=⟨⟨dev,(i:Int) + 1⟩,e.kind,e.cid,e.field,e.text,keepK e.kills c⟩
def e0 : TEvent:=⟨⟨0,0⟩,0,0,0,⟨#[]⟩,[]⟩
def e4 : TEvent:=⟨⟨0,0⟩,0,0,0,⟨#[101]⟩,[]⟩
end Go.Ep.M.E

namespace Go.Ep.M.F
open Go
open E (OkE yW)

def hasD (l:List TDot) (d:TDot):Bool:=l.any fun x=>decide (x = d)
theorem Un (l:List TDot) (d:TDot) (hl:l.length ≤ 1000000000000):jH l d = pure (hasD l d):=by
 unfold jH yb yp;have:=loopF (body:=zw l d) l (fun i=>(i:Int)) (fun _ x=>decide (x = d)) (fun i _=>Ex.ret (i:Int)) (pure (Ex.brk ())) (fun i x hx hi=>by
  have hd:decide ((i:Int) < (l.length:Int)) = true:=by simpa using hi
  unfold zw;simp only [hd,cond_true,zG hx,zA,D.Js,zg (show i < 9223372036854775807 by omega),yZ,eq_comm (a:=d) (b:=x),decide_eq_true_eq]) (by
  unfold zw;simp [zA])
 rw [show (0:Int) = ((0:Nat):Int) from rfl,this];have hf:(l.zipIdx.find? fun y=>decide (y.1 = d)).isSome = hasD l d:=by
  rw [List.isSome_find?];unfold hasD;rw [Bool.eq_iff_iff,List.any_eq_true,List.any_eq_true]
  constructor
  ·rintro ⟨y,hy,h⟩;exact ⟨y.1,List.fst_mem_of_mem_zipIdx hy,h⟩
  ·rintro ⟨x,hx,h⟩;obtain ⟨i,hi⟩:=List.getElem?_of_mem hx;exact ⟨(x,i),by rw [List.mk_mem_zipIdx_iff_getElem?];exact hi,h⟩
 rw [← hf]
 cases l.zipIdx.find? fun y=>decide (y.1 = d) with
 | none=>simp only [zA,zB,vZ];rfl
 | some y=>simp only [zA,zB,VL];simp
def wV (l:List TEvent) (d:TDot):Bool:=l.any fun e=>hasD e.kills d
theorem Dead_eq (l:List TEvent) (d:TDot) (hl:l.length ≤ 1000000000000) (hk:∀ e ∈ l,e.kills.length ≤ 1000000000000):xy l d = pure (wV l d):=by
 unfold xy;have:=yy (body:=vI l d) l (fun i=>(i:Int)) (fun _ x=>!hasD x.kills d) (Ex.brk ()) (Ex.ret true) (fun i x hx hi=>by
  have hd:decide ((i:Int) < (l.length:Int)) = true:=by simpa using hi
  unfold vI Yp;simp only [hd,cond_true,zG hx,zA,Un x.kills d (hk x (List.mem_of_getElem? hx)),zB,zg (show i < 9223372036854775807 by omega)]
  cases hasD x.kills d <;> rfl) (by
  unfold vI;simp)
 rw [show (0:Int) = ((0:Nat):Int) from rfl,this,zA,E.ZU l fun x=>!hasD x.kills d];have e:wV l d = !(l.all fun x=>!hasD x.kills d):=by simp [wV,List.all_eq_not_any_not]
 rw [e]
 cases l.all fun x=>!hasD x.kills d <;> rfl
theorem rDead_eq (l:List TEvent) (d:TDot) (hl:l.length ≤ 1000000000000) (hk:∀ e ∈ l,e.kills.length ≤ 1000000000000):XT l d = pure (wV l d):=by
 unfold XT;have:=yy (body:=ZH l d) l (fun i=>(i:Int)) (fun _ x=>!hasD x.kills d) (Ex.brk ()) (Ex.ret true) (fun i x hx hi=>by
  have hd:decide ((i:Int) < (l.length:Int)) = true:=by simpa using hi
  unfold ZH;simp only [hd,cond_true,zG hx,zA,E.vy x.kills d (hk x (List.mem_of_getElem? hx)),zB,zg (show i < 9223372036854775807 by omega)];show cond (hasD x.kills d) _ _ = _
  cases hasD x.kills d <;> rfl) (by
  unfold ZH;simp)
 rw [show (0:Int) = ((0:Nat):Int) from rfl,this,zA,E.ZU l fun x=>!hasD x.kills d];have e:wV l d = !(l.all fun x=>!hasD x.kills d):=by simp [wV,List.all_eq_not_any_not]
 rw [e]
 cases l.all fun x=>!hasD x.kills d <;> rfl

def XA (l:List TDot) (c:List TPart):List TDot:=D.xq (l.filter fun d=>!C.hasC c d.dev d.n)
theorem Drop_eq (l : List TDot) (c : List TPart) (hl : l.length ≤ 1000000000) (hc : C.Sm c) : YP l c = pure (XA l c) := by
  unfold YP Xx;have := uF (body := vJ l c false) l (fun i t => ((i : Int), t)) (fun t d => if C.hasC c d.dev d.n = true then t else t ++ [d]) (fun t => pure t) (fun i t => t.length ≤ i) (fun i x t hx hi hI => by
    have hd : decide ((i : Int) < (l.length : Int)) = true := by simpa using hi
    refine ⟨?_, by split
                   · omega
                   · simp; omega⟩
    unfold vJ;simp only [hd, cond_true, zG hx, zA, C.Un c x hc, zB, zg (show i < 9223372036854775807 by omega)]
    by_cases c : C.hasC c x.dev x.n = true
    · rw [c, show (true == false) = false from rfl, cond_false, zA, if_pos rfl]
    · simp only [Bool.not_eq_true] at c;rw [c, show (false == false) = true from rfl, cond_true, zE (by simp; omega), zA]; rfl) (fun t _ => by
    unfold vJ;simp [zA]) [] (by simp)
  have key : ∀ (l t : List TDot), l.foldl (fun t d => if C.hasC c d.dev d.n = true then t else t ++ [d]) t = t ++ l.filter fun d => !C.hasC c d.dev d.n := by
    intro l
    induction l with
    | nil => intro t; simp
    | cons x r ih =>
      intro t;rw [List.foldl_cons, ih]
      by_cases h : C.hasC c x.dev x.n = true
      · rw [if_pos h, List.filter_cons, if_neg (by simp [h])]
      · rw [if_neg h, List.filter_cons, if_pos (by simp [h]), List.append_assoc]; rfl
  rw [show (0 : Int) = ((0 : Nat) : Int) from rfl, this, zA, key, List.nil_append, D.xLa _ (by have := List.length_filter_le (fun d : TDot => !C.hasC c d.dev d.n) l; omega), zB, zA, zB, zA, XA]
theorem rDrop_eq (l : List TDot) (c : List TPart) (hl : l.length ≤ 1000000000) (hc : C.Ok c) : Wo l c = pure (XA l c) := by
  unfold Wo;have := uF (body := ZI l c) l (fun i t => (t, (i : Int))) (fun t d => if C.hasC c d.dev d.n = true then t else D.insD t d) (fun t => pure t) (fun i t => t.length ≤ i) (fun i x t hx hi hI => by
    have hd : decide ((i : Int) < (l.length : Int)) = true := by simpa using hi
    refine ⟨?_, by split
                   · omega
                   · have := D.UC t x; omega⟩
    unfold ZI;simp only [hd, cond_true, zG hx, zA, C.vy c x hc, zB, zg (show i < 9223372036854775807 by omega)]
    by_cases c : C.hasC c x.dev x.n = true
    · rw [c, Bool.not_true, cond_false, zA, if_pos rfl]
    · simp only [Bool.not_eq_true] at c;rw [c, Bool.not_false, cond_true, D.UD t x (by omega), zB, zA, zA]; rfl) (fun t _ => by
    unfold ZI;simp [zA]) [] (by simp)
  have key : ∀ (l t : List TDot), l.foldl (fun t d => if C.hasC c d.dev d.n = true then t else D.insD t d) t = (l.filter fun d => !C.hasC c d.dev d.n).foldl D.insD t := by
    intro l
    induction l with
    | nil => intro t; rfl
    | cons x r ih =>
      intro t;rw [List.foldl_cons, ih]
      by_cases h : C.hasC c x.dev x.n = true
      · rw [if_pos h, List.filter_cons, if_neg (by simp [h])]
      · rw [if_neg h, List.filter_cons, if_pos (by simp [h])]; rfl
  rw [show (0 : Int) = ((0 : Nat) : Int) from rfl, this, zA, key]; rfl

def yB (l:List TEvent):List TDot:=l.flatMap fun e=>e.dot :: e.kills
def zm (l:List TEvent):List TDot:=D.xq (yB l)
theorem xp (l:List TEvent) (k:Nat) (h:∀ e ∈ l,e.kills.length ≤ k):(yB l).length ≤ l.length * (k + 1):=by
 induction l with
 | nil=>simp [yB]
 | cons e r ih=>
  have h1:=ih fun x hx=>h x (by simp [hx])
  have h2:=h e (by simp);have e1:(yB (e :: r)).length = e.kills.length + 1 + (yB r).length:=by simp [yB];omega
  rw [e1,List.length_cons,Nat.add_mul];omega
theorem UF {l:List TEvent} {i:Nat} {x:TEvent} (h:l[i]? = some x):yB (l.take (i + 1)) = yB (l.take i) ++ x.dot :: x.kills:=by
 rw [List.take_add_one,h];simp [yB]
theorem Ju (l:List TEvent) (i:Nat):(yB (l.take i)).length ≤ (yB l).length:=by
 have:yB l = yB (l.take i) ++ yB (l.drop i):=by unfold yB;rw [← List.flatMap_append,List.take_append_drop]
 rw [this,List.length_append];omega
theorem UG (l:List TEvent) (hl:l.length ≤ 1000000000) (hs:(yB l).length ≤ 1000000000):xz l = pure (zm l):=by
 unfold xz;have key:∀ (k i:Nat),i + k = l.length → loop (vK l) ((i:Int),yB (l.take i)) = pure (yB l):=by
  intro k
  induction k with
  | zero=>
   intro i hi;refine zi ?_;unfold vK;have:decide ((i:Int) < (l.length:Int)) = false:=by simp;omega
   simp only [this,cond_false];rw [List.take_of_length_le (by omega)]
  | succ k ih=>
   intro i hi;obtain ⟨x,hx⟩:∃ x,l[i]? = some x:=⟨_,List.getElem?_eq_getElem (by omega)⟩
   have hd:decide ((i:Int) < (l.length:Int)) = true:=by simp;omega
   have h1:=Ju l (i + 1);rw [UF hx,List.length_append,List.length_cons] at h1;rw [zh (s':=(((i + 1:Nat):Int),yB (l.take (i + 1)))) ?_]
   ·exact ih (i + 1) (by omega)
   ·unfold vK;simp only [hd,cond_true,zG hx,zA,zg (show i < 9223372036854775807 by omega)];rw [zE (by simp;omega),zE (by simp;omega),UF hx,List.append_assoc];rfl
 have:=key l.length 0 (by omega);rw [show yB (l.take 0) = [] from rfl] at this;rw [show (0:Int) = ((0:Nat):Int) from rfl,this,zA,D.xLa _ (by omega),zB,zA,zm]
theorem rdots_in (l:List TEvent) {i:Nat} {x:TEvent} (hx:l[i]? = some x) (hk:x.kills.length ≤ 1000000000) (s:List TDot) (hs:s.length ≤ 1000000000):loop (vd l (i:Int)) (s,0) = pure (x.kills.foldl D.insD s):=by
 have:=uF (body:=vd l (i:Int)) x.kills (fun k t=>(t,(k:Int))) D.insD (fun t=>pure t) (fun k t=>t.length ≤ 1000000000 + k) (fun k d t hd hi hI=>by
  have hc:decide ((k:Int) < (x.kills.length:Int)) = true:=by simpa using hi
  refine ⟨?_,by have:=D.UC t d;omega⟩;unfold vd;simp only [zG hx,zA,hc,cond_true,zG hd,D.UD t d (by omega),zB,zg (show k < 9223372036854775807 by omega)]) (fun t _=>by
  unfold vd;simp [zG hx,zA]) s (by omega)
 exact this
theorem Wy (l:List TEvent) (hl:l.length ≤ 1000000) (hk:∀ e ∈ l,e.kills.length ≤ 300):uz l = pure (zm l):=by
 unfold uz;have key:∀ (k i:Nat),i + k = l.length → loop (uy l) (D.xq (yB (l.take i)),(i:Int)) = pure (zm l):=by
  intro k
  induction k with
  | zero=>
   intro i hi;refine zi ?_;unfold uy;have:decide ((i:Int) < (l.length:Int)) = false:=by simp;omega
   simp only [this,cond_false];rw [List.take_of_length_le (by omega)];rfl
  | succ k ih=>
   intro i hi;obtain ⟨x,hx⟩:∃ x,l[i]? = some x:=⟨_,List.getElem?_eq_getElem (by omega)⟩
   have hd:decide ((i:Int) < (l.length:Int)) = true:=by simp;omega
   have h1:=Ju l i;have h2:=xp l 300 hk;have h3:=D.Xn (yB (l.take i));have h4:=D.UC (D.xq (yB (l.take i))) x.dot;have h5:=hk x (List.mem_of_getElem? hx);rw [zh (s':=(D.xq (yB (l.take (i + 1))),((i + 1:Nat):Int))) ?_]
   ·exact ih (i + 1) (by omega)
   ·unfold uy;simp only [hd,cond_true,zG hx,zA,D.UD _ x.dot (show (D.xq (yB (l.take i))).length ≤ 1000000000000 by omega),zB,rdots_in l hx (show x.kills.length ≤ 1000000000 by omega) _ (show (D.insD (D.xq (yB (l.take i))) x.dot).length ≤ 1000000000 by omega),zg (show i < 9223372036854775807 by omega)];rw [UF hx];unfold D.xq;rw [List.foldl_append];rfl
 have:=key l.length 0 (by omega);rw [show D.xq (yB (l.take 0)) = [] from rfl] at this;rw [show (0:Int) = ((0:Nat):Int) from rfl,this,zA]

def um (l:List TEvent) (i:Nat) (x:TEvent):Bool:=decide (0 < i) && match l[i - 1]? with | some y=>decide (0 ≤ V.cmpD y.dot x.dot) | none=>false
theorem xWa {β:Type} {l:List TEvent} {i:Nat} {x:TEvent} (hi:i < l.length) (hl:l.length ≤ 1000000000) (f:TDot → TDot → M Int) (hf:∀ a b,f a b = pure (V.cmpD a b)) (K:Bool → M β) :
  (cond (decide (0 < (i:Int))) ((idx l (IntKind.i64.wrap ((i:Int) - 1))).bind fun y=>(det (f y.dot x.dot)).bind fun v=>K (decide (0 ≤ v))) (K false)) = K (um l i x):=by
 unfold um
 by_cases h:0 < i
 ·obtain ⟨y,hy⟩:∃ y,l[i - 1]? = some y:=⟨_,List.getElem?_eq_getElem (by omega)⟩
  have e:IntKind.i64.wrap ((i:Int) - 1) = ((i - 1:Nat):Int):=by rw [wI64 (by omega) (by omega)];omega
  have hd:decide (0 < (i:Int)) = true:=by simp;omega
  rw [hd,cond_true,e,zG hy,zA,hf,zB,zA,decide_eq_true h,Bool.true_and,hy]
 ·have hd:decide (0 < (i:Int)) = false:=by simp;omega
  rw [hd,cond_false,decide_eq_false h,Bool.false_and]
def bad1 (d:TDelta) (i:Nat) (e:TEvent):Bool:=!yW e || (um d.events i e || (C.hasC d.from_ e.dot.dev e.dot.n || (decide (e.kind = 1) && wV d.events e.dot)))
def xXa (d:TDelta):Bool:=decide (d.from_ = C.zR d.from_) && (decide (d.to_ = C.zR d.to_) && (decide (C.opC (fun x y=>x && !y) d.from_ d.to_ = []) && (decide (d.events.length ≤ 4096) && ((d.events.zipIdx.all fun y=>!bad1 d y.2 y.1) && decide (XA (zm d.events) d.to_ = [])))))
structure OkD (d:TDelta):Prop where
 from_:C.Ok d.from_
 to_:C.Ok d.to_
 evs:∀ e ∈ d.events,OkE e
 len:d.events.length ≤ 1000000
 kills:∀ e ∈ d.events,e.kills.length ≤ 300
theorem nil_dec {α:Type} [DecidableEq α] (l:List α):decide ((l.length:Int) = 0) = decide (l = []):=by
 cases l with
 | nil=>rfl
 | cons x r=>simp;omega
open E (OkE yW)

def WX (c:List TPart):Bool:=decide (c = C.zR c)
set_option maxHeartbeats 4000000 in
theorem eSame_eq (a b:TEvent) (h:a.kills.length ≤ 1000000000000):YT a b = pure (decide (a = b)):=by
 unfold YT;rw [D.Js,V.qy a.kills b.kills h,zB,zA];have e:decide (a = b) = (decide (a.dot = b.dot) && (decide (a.kind = b.kind) && (decide (a.cid = b.cid) && (decide (a.field = b.field) && (decide (a.text = b.text) && decide (a.kills = b.kills)))))):=by
  cases a;cases b;simp only [TEvent.mk.injEq,Bool.decide_and]
 rw [e]
 cases decide (a.dot = b.dot) <;> cases decide (a.kind = b.kind) <;> cases decide (a.cid = b.cid) <;> cases decide (a.field = b.field) <;> cases decide (a.text = b.text) <;> rfl
theorem eAll_eq (a b:List TEvent) (ha:a.length ≤ 1000000000000) (hk:∀ e ∈ a,e.kills.length ≤ 1000000000000):XW a b = pure (decide (a = b)):=by
 unfold XW zN
 by_cases hlen:a.length = b.length
 ·have h1:decide ((a.length:Int) = (b.length:Int)) = true:=by simp [hlen]
  rw [h1,Bool.not_true,cond_false];have:=yy (body:=zH a b) a (fun i=>(i:Int)) (fun i x=>decide (b[i]? = some x)) (Ex.brk ()) (Ex.ret false) (fun i x hx hi=>by
   have hd:decide ((i:Int) < (a.length:Int)) = true:=by simpa using hi
   obtain ⟨y,hy⟩:∃ y,b[i]? = some y:=⟨_,List.getElem?_eq_getElem (by omega)⟩
   unfold zH;simp only [hd,cond_true,zG hx,zG hy,zA,eSame_eq x y (hk x (List.mem_of_getElem? hx)),zB,zg (show i < 9223372036854775807 by omega),hy]
   by_cases c:x = y
   ·subst c;simp
   ·have:¬ some y = some x:=fun e=>c (Option.some.inj e).symm
    simp [c,this]) (by
   unfold zH;simp)
  rw [show (0:Int) = ((0:Nat):Int) from rfl,this,zA];have e:(a.zipIdx.all fun y=>decide (b[y.2]? = some y.1)) = decide (a = b):=by
   rw [Bool.eq_iff_iff,List.all_eq_true,decide_eq_true_eq]
   constructor
   ·intro h;apply List.ext_getElem?;intro i
    by_cases hi:i < a.length
    ·have:=h (a[i],i) (by rw [List.mem_zipIdx_iff_getElem?];exact List.getElem?_eq_getElem hi);simp only [decide_eq_true_eq] at this;rw [this,List.getElem?_eq_getElem hi]
    ·rw [List.getElem?_eq_none (by omega),List.getElem?_eq_none (by omega)]
   ·rintro rfl y hy;rw [List.mem_zipIdx_iff_getElem?] at hy;simpa using hy
  rw [e]
  cases decide (a = b) <;> simp [zB,exk,zA]
 ·have h1:decide ((a.length:Int) = (b.length:Int)) = false:=by simp;omega
  have h2:decide (a = b) = false:=decide_eq_false fun e=>hlen (by rw [e])
  rw [h1,Bool.not_false,cond_true,zB,zA,h2]
end Go.Ep.M.F


/- Texts that the walks and laws lean on, side by side. -/
import Derived.Test.YtfngolkgligbfaaGreatMBp11
set_option linter.unusedVariables false
set_option linter.unusedSimpArgs false
namespace Go.Ep.M.D
open Go

theorem lt_iff {a b:TDot}:ltDot a b = true ↔ a.dev < b.dev ∨ (a.dev = b.dev ∧ a.n < b.n):=by simp [ltDot]
theorem lt_irr (a:TDot):ltDot a a = false:=by
 cases h:ltDot a a with
 | false=>rfl
 | true=>rw [lt_iff] at h;omega
theorem lt_trans {a b c:TDot} (h1:ltDot a b = true) (h2:ltDot b c = true):ltDot a c = true:=by rw [lt_iff] at *;omega
theorem lt_asym {a b:TDot} (h:ltDot a b = true):ltDot b a = false:=by
 cases h2:ltDot b a with
 | false=>rfl
 | true=>rw [lt_iff] at h h2;omega
theorem lt_tri {a b:TDot} (h1:ltDot a b = false) (h2:ltDot b a = false):a = b:=by
 have h3:¬ (ltDot a b = true):=by simp [h1]
 have h4:¬ (ltDot b a = true):=by simp [h2]
 rw [lt_iff] at h3 h4
 cases a;cases b
 simp only [TDot.mk.injEq] at *
 omega
abbrev Srt (l:List TDot):Prop:=l.Pairwise fun x y=>ltDot x y = true
theorem srt_ext : ∀ {l l':List TDot},Srt l → Srt l' → (∀ d,d ∈ l ↔ d ∈ l') → l = l'
 | [],[],_,_,_=>rfl
 | [],y :: r,_,_,h=>by have:=(h y).2 (by simp);simp at this
 | x :: r,[],_,_,h=>by have:=(h x).1 (by simp);simp at this
 | x :: r,y :: t,h1,h2,h=>by
  have hx:=(h x).1 (by simp);have hy:=(h y).2 (by simp);have e:x = y:=by
   rcases List.mem_cons.1 hx with e | hx
   ·exact e
   ·rcases List.mem_cons.1 hy with e | hy
    ·exact e.symm
    ·have a1:=(List.pairwise_cons.1 h2).1 x hx;have a2:=(List.pairwise_cons.1 h1).1 y hy;rw [lt_asym a1] at a2;cases a2
  subst e
  congr 1
  refine srt_ext (List.pairwise_cons.1 h1).2 (List.pairwise_cons.1 h2).2 fun d=>?_
  have h3:=h d;simp only [List.mem_cons] at h3
  constructor
  ·intro hd;rcases h3.1 (.inr hd) with e | h4
   ·have:=(List.pairwise_cons.1 h1).1 d hd;rw [e,lt_irr] at this;cases this
   ·exact h4
  ·intro hd;rcases h3.2 (.inr hd) with e | h4
   ·have:=(List.pairwise_cons.1 h2).1 d hd;rw [e,lt_irr] at this;cases this
   ·exact h4

def insD (s:List TDot) (d:TDot):List TDot:=(s.filter fun x=>ltDot x d) ++ [d] ++ (s.filter fun x=>ltDot d x)
theorem ins_mem {s:List TDot} {d x:TDot}:x ∈ insD s d ↔ x = d ∨ x ∈ s:=by
 simp only [insD,List.mem_append,List.mem_filter,List.mem_singleton]
 constructor
 ·rintro ((h | h) | h)
  ·exact .inr h.1
  ·exact .inl h
  ·exact .inr h.1
 ·rintro (h | h)
  ·exact .inl (.inr h)
  ·cases h1:ltDot x d with
   | true=>exact .inl (.inl ⟨h,rfl⟩)
   | false=>
    cases h2:ltDot d x with
    | true=>exact .inr ⟨h,rfl⟩
    | false=>exact .inl (.inr (lt_tri h1 h2))
theorem ins_srt {s:List TDot} (h:Srt s) (d:TDot):Srt (insD s d):=by
 unfold Srt insD;rw [List.pairwise_append,List.pairwise_append];refine ⟨⟨h.filter _,by simp,fun a ha b hb=>?_⟩,h.filter _,fun a ha b hb=>?_⟩
 ·rw [List.mem_singleton.1 hb];exact (List.mem_filter.1 ha).2
 ·have hb:=(List.mem_filter.1 hb).2;rcases List.mem_append.1 ha with ha | ha
  ·exact lt_trans (List.mem_filter.1 ha).2 hb
  ·rw [List.mem_singleton.1 ha];exact hb
theorem ins_len (s:List TDot) (d:TDot):(insD s d).length ≤ s.length + 1:=by
 unfold insD;have h:∀ l:List TDot,(l.filter fun x=>ltDot x d).length + (l.filter fun x=>ltDot d x).length ≤ l.length:=by
  intro l
  induction l with
  | nil=>simp
  | cons x r ih=>
   cases h1:ltDot x d with
   | true=>simp [h1,lt_asym h1];omega
   | false=>
    cases h2:ltDot d x with
    | true=>simp [h1,h2];omega
    | false=>simp [h1,h2];omega
 have:=h s;simp;omega
def sortD (l:List TDot):List TDot:=l.foldl insD []
theorem sort_gen : ∀ (l s:List TDot),Srt s → Srt (l.foldl insD s) ∧ (∀ d,d ∈ l.foldl insD s ↔ d ∈ s ∨ d ∈ l) ∧ (l.foldl insD s).length ≤ s.length + l.length
 | [],s,h=>⟨h,by simp,by simp⟩
 | x :: r,s,h=>by
  obtain ⟨h1,h2,h3⟩:=sort_gen r (insD s x) (ins_srt h x);refine ⟨h1,fun d=>?_,?_⟩
  ·rw [List.foldl_cons,h2 d,ins_mem,List.mem_cons]
   constructor
   ·rintro ((h | h) | h)
    ·exact .inr (.inl h)
    ·exact .inl h
    ·exact .inr (.inr h)
   ·rintro (h | h | h)
    ·exact .inl (.inr h)
    ·exact .inl (.inl h)
    ·exact .inr h
  ·have:=ins_len s x;rw [List.foldl_cons,List.length_cons];omega
theorem sort_srt (l:List TDot):Srt (sortD l):=(sort_gen l [] List.Pairwise.nil).1
theorem sort_mem {l:List TDot} {d:TDot}:d ∈ sortD l ↔ d ∈ l:=by simpa [sortD] using (sort_gen l [] List.Pairwise.nil).2.1 d
theorem sort_len (l:List TDot):(sortD l).length ≤ l.length:=by simpa [sortD] using (sort_gen l [] List.Pairwise.nil).2.2
theorem rPut_eq (s:List TDot) (d:TDot) (h:s.length ≤ 1000000000000):r07_Put s d = pure (insD s d):=V.r07_Put_eq s d h

def ddS (out:List TDot) (x:TDot):List TDot:=if out.getLast? = some x then out else out ++ [x]
def dd (l:List TDot):List TDot:=l.foldl ddS []
theorem dd_snoc (l:List TDot) (x:TDot):dd (l ++ [x]) = ddS (dd l) x:=by simp [dd]
theorem dd_last (l:List TDot):(dd l).getLast? = l.getLast?:=by
 rcases R.snoc_cases l with rfl | ⟨r,y,rfl⟩
 ·rfl
 ·rw [dd_snoc];unfold ddS
  by_cases c:(dd r).getLast? = some y
  ·rw [if_pos c,c];simp
  ·rw [if_neg c];simp
theorem dd_mem {l:List TDot} {d:TDot}:d ∈ dd l ↔ d ∈ l:=by
 have:∀ (l s:List TDot),d ∈ l.foldl ddS s ↔ d ∈ s ∨ d ∈ l:=by
  intro l
  induction l with
  | nil=>intro s;simp
  | cons x r ih=>
   intro s;rw [List.foldl_cons,ih];have h2:d ∈ ddS s x ↔ d ∈ s ∨ d = x:=by
    unfold ddS
    split
    ·rename_i h
     exact ⟨.inl,fun h3=>h3.elim id fun e=>by rw [e];exact List.mem_of_getLast? h⟩
    ·simp
   rw [h2,List.mem_cons];exact or_assoc
 simpa [dd] using this l []
theorem dd_srt {l:List TDot} (h:l.Pairwise fun x y=>ltDot y x = false):Srt (dd l):=by
 have:∀ (n:Nat) (l:List TDot),l.length = n → (l.Pairwise fun x y=>ltDot y x = false) → Srt (dd l):=by
  intro n
  induction n with
  | zero=>intro l hl _;have:=List.eq_nil_of_length_eq_zero hl;subst this;exact List.Pairwise.nil
  | succ n ih=>
   intro l hl h;rcases R.snoc_cases l with rfl | ⟨r,y,rfl⟩
   ·simp at hl
   ·rw [List.pairwise_append] at h;have hr:=ih r (by simpa using hl) h.1;rw [dd_snoc];unfold ddS
    split
    ·exact hr
    ·rename_i hne
     unfold Srt;rw [List.pairwise_append];refine ⟨hr,by simp,fun a ha b hb=>?_⟩;rw [List.mem_singleton.1 hb];have ha':=dd_mem.1 ha;have h1:=h.2.2 a ha' y (by simp)
     cases h2:ltDot a y with
     | true=>rfl
     | false=>
      exfalso;have e:=lt_tri h2 h1;subst e;rw [dd_last] at hne;rcases R.snoc_cases r with rfl | ⟨q,z,rfl⟩
      ·simp at ha'
      ·have hz:ltDot a z = false:=h.2.2 z (by simp) a (by simp);rcases List.mem_append.1 ha' with h5 | h5
       ·have h6:ltDot z a = false:=by
         have:=(List.pairwise_append.1 h.1).2.2 a h5 z (by simp);exact this
        have:=lt_tri hz h6;subst this;simp at hne
       ·rw [List.mem_singleton.1 h5] at hne;simp at hne
 exact this l.length l rfl h

theorem Clone_eq (l:List TDot) (h:l.length ≤ 1000000000000):slices_Clone_sl_Dot_Dot l = pure l:=by
 unfold slices_Clone_sl_Dot_Dot;refine eq_pure ⟨⟨false,fun h=>by cases h⟩,fun b hb=>?_⟩
 cases b with
 | true=>show ([]:List TDot) = l;exact (hb rfl).symm
 | false=>
  show _ ∧ ([] ++ l = l)
  exact ⟨by simp;omega,List.nil_append l⟩
theorem dotEq (x y:TDot):(decide (x.dev = y.dev) && decide (x.n = y.n)) = decide (x = y):=by
 cases x;cases y;simp [Bool.decide_and]
theorem take_snoc {l:List TDot} {m:Nat} {x:TDot} (h:l[m]? = some x):l.take (m + 1) = l.take m ++ [x]:=by
 rw [List.take_add_one,h];rfl
theorem last_take {l:List TDot} {m:Nat} {x:TDot} (h:l[m]? = some x):(l.take (m + 1)).getLast? = some x:=by rw [take_snoc h];simp
theorem inner_loop (s:List TDot) (k:Nat) (hk:k < s.length) (hl:s.length ≤ 1000000000000):∀ (d k2 kk:Nat) (v:List TDot),k + k2 + d = s.length → 1 ≤ k2 → v.length = s.length → kk + 1 ≤ k + k2 → v.take kk = dd (s.take (k + k2)) → v.drop (k + k2 - 1) = s.drop (k + k2 - 1) →
  ∃ (kk':Nat) (v':List TDot),loop (slices_Compact_sl_Dot_Dot_o_l0 s (k:Int)) ((kk:Int),(k2:Int),v) = pure ((kk':Int),v') ∧ v'.length = s.length ∧ kk' ≤ s.length ∧ v'.take kk' = dd s
 | 0,k2,kk,v,hd,h1,hv,hkk,ht,_=>by
  refine ⟨kk,v,loop_done ?_,hv,by omega,by rw [ht,show k + k2 = s.length by omega,List.take_length]⟩;unfold slices_Compact_sl_Dot_Dot_o_l0;have:decide ((k2:Int) < (((s.length - (k:Int).toNat:Nat)):Int)) = false:=by simp;omega
  simp only [this,cond_false]
 | d + 1,k2,kk,v,hd,h1,hv,hkk,ht,hdr=>by
  have hvg:∀ j,k + k2 - 1 ≤ j → v[j]? = s[j]?:=fun j hj=>by
   have:=congrArg (fun l=>l[j - (k + k2 - 1)]?) hdr;simp only [List.getElem?_drop] at this;rw [show k + k2 - 1 + (j - (k + k2 - 1)) = j by omega] at this;exact this
  obtain ⟨x,hx⟩:∃ x,s[k + k2]? = some x:=⟨_,List.getElem?_eq_getElem (by omega)⟩
  obtain ⟨y,hy⟩:∃ y,s[k + k2 - 1]? = some y:=⟨_,List.getElem?_eq_getElem (by omega)⟩
  have hlast:(dd (s.take (k + k2))).getLast? = some y:=by
   rw [dd_last];have:=last_take hy
   rwa [show k + k2 - 1 + 1 = k + k2 by omega] at this
  have hdd:dd (s.take (k + k2 + 1)) = if y = x then dd (s.take (k + k2)) else dd (s.take (k + k2)) ++ [x]:=by
   rw [take_snoc hx,dd_snoc];unfold ddS;rw [hlast]
   by_cases c:y = x
   ·rw [if_pos c,if_pos (by rw [c])]
   ·rw [if_neg c,if_neg (by intro e;exact c (Option.some.inj e))]
  have hb:slices_Compact_sl_Dot_Dot_o_l0 s (k:Int) ((kk:Int),(k2:Int),v) = pure (.next (if y = x then ((kk:Int),((k2 + 1:Nat):Int),v) else (((kk + 1:Nat):Int),((k2 + 1:Nat):Int),v.set kk x))):=by
   unfold slices_Compact_sl_Dot_Dot_o_l0;have hc:decide ((k2:Int) < (((s.length - (k:Int).toNat:Nat)):Int)) = true:=by simp;omega
   have e1:IntKind.i64.wrap ((k2:Int) - 1) = ((k2 - 1:Nat):Int):=by rw [wI64 (by omega) (by omega)];omega
   have i1:idx v ((((k:Int).toNat + (k2:Int).toNat:Nat)):Int) = pure x:=idx_nat (by rw [Int.toNat_natCast,Int.toNat_natCast,hvg _ (by omega)];exact hx);have i2:idx v ((((k:Int).toNat + (((k2 - 1:Nat):Int)).toNat:Nat)):Int) = pure y:=idx_nat (by rw [Int.toNat_natCast,Int.toNat_natCast,hvg _ (by omega),show k + (k2 - 1) = k + k2 - 1 by omega];exact hy);obtain ⟨z,hz⟩:∃ z,v[kk]? = some z:=⟨_,List.getElem?_eq_getElem (by omega)⟩
   have i3:idx v (kk:Int) = pure z:=idx_nat hz;simp only [hc,cond_true,e1];rw [need_true (by simp;omega),i1,pure_bind,need_true (by simp;omega),i2,pure_bind];simp only [dotEq]
   by_cases c:y = x
   ·have c1:decide (x = y) = true:=decide_eq_true c.symm;simp only [c1,Bool.not_true,cond_false,pure_bind,wSucc (show k2 < 9223372036854775807 by omega),if_pos c]
   ·have c1:decide (x = y) = false:=decide_eq_false (fun e=>c e.symm);simp only [c1,Bool.not_false,cond_true,if_neg c];rw [need_true (by simp;omega),i3];simp only [pure_bind,wSucc (show k2 < 9223372036854775807 by omega),wSucc (show kk < 9223372036854775807 by omega),Int.toNat_natCast]
  by_cases c:y = x
  ·rw [if_pos c] at hb hdd;rw [loop_next hb];refine inner_loop s k hk hl d (k2 + 1) kk v (by omega) (by omega) hv (by omega) (by rw [ht,← hdd];rfl) ?_;have:=congrArg (List.drop 1) hdr;rw [List.drop_drop,List.drop_drop,show k + k2 - 1 + 1 = k + (k2 + 1) - 1 by omega] at this;exact this
  ·rw [if_neg c] at hb hdd;rw [loop_next hb];refine inner_loop s k hk hl d (k2 + 1) (kk + 1) (v.set kk x) (by omega) (by omega) (by simpa using hv) (by omega) ?_ ?_
   ·have h5:(v.set kk x)[kk]? = some x:=by rw [List.getElem?_set];simp;omega
    rw [take_snoc h5,List.take_set,List.set_eq_of_length_le (by rw [List.length_take];omega),ht,← hdd];rfl
   ·rw [List.drop_set,if_pos (by omega)];have:=congrArg (List.drop 1) hdr;rw [List.drop_drop,List.drop_drop,show k + k2 - 1 + 1 = k + (k2 + 1) - 1 by omega] at this;exact this
theorem Compact_eq (s:List TDot) (hl:s.length ≤ 1000000000000):slices_Compact_sl_Dot_Dot_o s = pure (dd s):=by
 unfold slices_Compact_sl_Dot_Dot_o
 by_cases h2:s.length < 2
 ·have:decide ((s.length:Int) < 2) = true:=by simp;omega
  rw [this,cond_true]
  match s,h2 with
  | [],_=>rfl
  | [x],_=>rfl
 ·have:decide ((s.length:Int) < 2) = false:=by simp;omega
  rw [this,cond_false];have key:∀ d k,k + d = s.length → 1 ≤ k → dd (s.take k) = s.take k → (loop (slices_Compact_sl_Dot_Dot_o_l1 s) (k:Int)).bind (exk fun _=>pure s) = pure (dd s):=by
   intro d
   induction d with
   | zero=>
    intro k hk h1 hd;rw [loop_done (r:=.brk ()) (by
     unfold slices_Compact_sl_Dot_Dot_o_l1;have:decide ((k:Int) < (s.length:Int)) = false:=by simp;omega
     simp only [this,cond_false])]
    rw [show k = s.length by omega,List.take_length] at hd;show pure s = pure (dd s);rw [hd]
   | succ d ih=>
    intro k hk h1 hd;obtain ⟨x,hx⟩:∃ x,s[k]? = some x:=⟨_,List.getElem?_eq_getElem (by omega)⟩
    obtain ⟨y,hy⟩:∃ y,s[k - 1]? = some y:=⟨_,List.getElem?_eq_getElem (by omega)⟩
    have hlast:(dd (s.take k)).getLast? = some y:=by
     rw [dd_last];have:=last_take hy
     rwa [show k - 1 + 1 = k by omega] at this
    have hc:decide ((k:Int) < (s.length:Int)) = true:=by simp;omega
    have i1:idx s (k:Int) = pure x:=idx_nat hx;have i2:idx s (IntKind.i64.wrap ((k:Int) - 1)) = pure y:=by
     rw [wI64 (by omega) (by omega)];exact idx_eq (by omega) (by rw [show ((k:Int) - 1).toNat = k - 1 by omega];exact hy)
    by_cases c:x = y
    ·subst c;obtain ⟨kk,v,h5,h6,h7,h8⟩:=inner_loop s k (by omega) hl d 1 k s (by omega) (by omega) rfl (by omega) (by
      rw [take_snoc hx,dd_snoc,ddS,if_pos hlast,hd]) (by rw [show k + 1 - 1 = k by omega])
     rw [loop_done (r:=.ret (dd s)) (by
      unfold slices_Compact_sl_Dot_Dot_o_l1;simp only [hc,cond_true,i1,i2,pure_bind,dotEq,decide_true];rw [need_true (by omega),show (1:Int) = ((1:Nat):Int) from rfl,h5,pure_bind];simp only [];rw [need_true (by omega),need_true (by simp;omega),need_true (by
       simp only [List.length_append,List.length_take,List.length_replicate,List.length_drop,Int.toNat_natCast];omega),pure_bind,exk_ret]
      congr 3
      rw [Int.toNat_natCast,List.append_assoc,List.take_append_of_le_length (by rw [List.length_take];omega),List.take_take,Nat.min_self,h8])]
     rfl
    ·have c1:decide (x = y) = false:=decide_eq_false c;rw [loop_next (s':=((k + 1:Nat):Int)) (by
      unfold slices_Compact_sl_Dot_Dot_o_l1;simp only [hc,cond_true,i1,i2,pure_bind,dotEq,c1,cond_false,exk_brk,wSucc (show k < 9223372036854775807 by omega)])]
     refine ih (k + 1) (by omega) (by omega) ?_;rw [take_snoc hx,dd_snoc,ddS,if_neg (by rw [hlast];intro e;exact c (Option.some.inj e).symm),hd]
  have:=key (s.length - 1) 1 (by omega) (by omega) (by
   obtain ⟨x,r,rfl⟩:∃ x r,s = x :: r:=by
    cases s with
    | nil=>simp at h2
    | cons x r=>exact ⟨x,r,rfl⟩
   rfl)
  exact this
theorem srt_wp {l:List TDot} {Q:List TDot → Prop} (h:∀ s,s.Perm l → (s.Pairwise fun x y=>ltDot y x = false) → Q s):(srt ltDot l).wp Q:=by
 refine ⟨⟨l.mergeSort (fun x y=>!ltDot y x),List.mergeSort_perm _ _,?_⟩,fun s ⟨h1,h2⟩=>h s h1 h2⟩;refine (List.pairwise_mergeSort (fun a b c h1 h2=>?_) (fun a b=>?_) l).imp fun {x y} h=>by simpa using h
 ·simp only [Bool.not_eq_true'] at h1 h2 ⊢
  cases h3:ltDot c a with
  | false=>rfl
  | true=>
   rw [lt_iff] at h3;have h4:¬ (ltDot b a = true):=by simp [h1]
   have h5:¬ (ltDot c b = true):=by simp [h2]
   rw [lt_iff] at h4 h5;omega
 ·cases h1:ltDot b a with
  | false=>rfl
  | true=>rw [lt_asym h1];rfl
theorem Sort_eq (l:List TDot) (h:l.length ≤ 1000000000000):dot_Sort l = pure (sortD l):=by
 unfold dot_Sort;rw [Clone_eq l h,det_pure,pure_bind,need_true (by omega)];refine eq_pure (srt_wp fun s hs hp=>?_);show (bind (det (slices_Compact_sl_Dot_Dot_o s)) fun y8=>pure y8).wp _;rw [Compact_eq s (by rw [hs.length_eq];exact h),det_pure,pure_bind];exact srt_ext (dd_srt hp) (sort_srt l) fun d=>by rw [dd_mem,sort_mem];exact hs.mem_iff

theorem cmp16_eq (x y:Int):cmp_Compare_uint16 x y = pure (R.cmp3 x y):=by
 unfold cmp_Compare_uint16 cmp_isNaN_uint16 R.cmp3;simp only [decide_true,Bool.not_true,det_pure,pure_bind,cond_false,cond_dec]
 split
 ·rfl
 ·split <;> rfl
theorem Cmp_eq (a b:TDot):dot_Cmp a b = pure (V.cmpD a b):=by
 unfold dot_Cmp;rw [cmp16_eq,det_pure,pure_bind,R.cmp3_eq,det_pure,pure_bind];unfold V.cmpD R.cmp3
 cases a with | mk d n=>cases b with | mk e m=>
 simp only [TDot.mk.injEq,ltDot]
 by_cases h1:d < e
 ·have:¬ d = e:=by omega
  simp [h1,this]
 ·by_cases h2:e < d
  ·have:¬ d = e:=by omega
   simp [h1,h2,this]
  ·have h3:d = e:=by omega
   subst h3
   by_cases h4:n < m
   ·have:¬ n = m:=by omega
    simp [h4,this]
   ·by_cases h5:m < n
    ·have:¬ n = m:=by omega
     simp [h4,h5,this]
    ·have:n = m:=by omega
     simp [this]


theorem loopApp {σ ρ ε:Type} {body:σ → M (Step σ ρ)} (l:List ε) (f:ε → List Int) (row:List Int) (N:Nat) (mk:Nat → List Int → σ) (g:List Int → M ρ) (hN:row.length + (l.flatMap f).length ≤ N)
  (h1:∀ (i:Nat) (x:ε) (out:List Int),l[i]? = some x → i < l.length → out.length + (f x).length ≤ N → body (mk i out) = pure (.next (mk (i + 1) (out ++ f x))))
  (h2:∀ out,body (mk l.length out) = (g out).bind fun r=>pure (.done r)):loop body (mk 0 row) = g (row ++ l.flatMap f):=by
 have key:∀ (k i:Nat) (out:List Int),i + k = l.length → out.length + ((l.drop i).flatMap f).length ≤ N → loop body (mk i out) = g (out ++ (l.drop i).flatMap f):=by
  intro k
  induction k with
  | zero=>
   intro i out hi _;have:i = l.length:=by omega
   subst this;rw [loop_eq,h2,List.drop_length];simp only [List.flatMap_nil,List.append_nil]
   rfl
  | succ k ih=>
   intro i out hi hl;have hlt:i < l.length:=by omega
   rw [List.drop_eq_getElem_cons hlt,List.flatMap_cons,List.length_append] at hl;rw [loop_next (h1 i l[i] out (List.getElem?_eq_getElem hlt) hlt (by omega)),ih (i + 1) _ (by omega) (by rw [List.length_append];omega),List.drop_eq_getElem_cons hlt,List.flatMap_cons,List.append_assoc]
 simpa using key l.length 0 row (by omega) (by simpa using hN)
theorem flat_len {ε:Type} (l:List ε) (f:ε → List Int) (k:Nat) (h:∀ x ∈ l,(f x).length ≤ k):(l.flatMap f).length ≤ k * l.length:=by
 induction l with
 | nil=>simp
 | cons x r ih=>
  have h1:=h x (by simp);have h2:=ih fun y hy=>h y (by simp [hy])
  rw [List.flatMap_cons,List.length_append,List.length_cons,Nat.mul_add];omega

structure OkD (d:TDot):Prop where
 d0:0 ≤ d.dev
 d1:d.dev ≤ 65535
 n0:0 ≤ d.n
 n1:d.n ≤ 18446744073709551615
def encD (d:TDot):List Int:=N.encI d.dev ++ N.encI d.n
theorem encD_len {d:TDot} (h:OkD d):(encD d).length ≤ 18:=by
 have h1:=N.encI_len (v:=d.dev) (by have:=h.d1;omega);have h2:=N.encI_len (v:=d.n) h.n1;rw [encD,List.length_append];omega
theorem rPutDot_eq {d:TDot} (h:OkD d) (row:List Int) (hr:row.length ≤ 1000000000000):r15_PutDot row d = pure (row ++ encD d):=by
 have h1:=N.encI_len (v:=d.dev) (by have:=h.d1;omega);unfold r15_PutDot;rw [wU64 h.d0 (by have:=h.d1;omega),N.rAppend_eq row h.d0 (by have:=h.d1;omega) (by omega),det_pure,pure_bind,N.rAppend_eq _ h.n0 h.n1 (by rw [List.length_append];omega),det_pure,pure_bind,encD,List.append_assoc]
def goods (l:List TDot):List TDot:=l.filter V.goodD
def encDs (l:List TDot):List Int:=N.encI (sortD (goods l)).length ++ (sortD (goods l)).flatMap encD
theorem good_mem {l:List TDot} {d:TDot}:d ∈ sortD (goods l) ↔ d ∈ l ∧ V.goodD d = true:=by rw [sort_mem,goods,List.mem_filter]
theorem good_len (l:List TDot):(sortD (goods l)).length ≤ l.length:=Nat.le_trans (sort_len _) (List.length_filter_le _ _)
theorem okD_good {l:List TDot} (h:∀ d ∈ l,OkD d):∀ d ∈ sortD (goods l),OkD d:=fun d hd=>h d (good_mem.1 hd).1
theorem rgood_loop (l : List TDot) (hl : l.length ≤ 1000000000000) : loop (r15_PutDots_l0 l) ([], 0) = pure (sortD (goods l)) := by
  have := loopL (body := r15_PutDots_l0 l) l (fun i t => (t, (i : Int))) (fun t d => if V.goodD d = true then insD t d else t) (fun t => pure t) (fun i t => t.length ≤ i) (fun i x t hx hi hI => by
    have hd : decide ((i : Int) < (l.length : Int)) = true := by simpa using hi
    refine ⟨?_, by split
                   · have := ins_len t x; omega
                   · omega⟩
    unfold r15_PutDots_l0;simp only [hd, cond_true, idx_nat hx, pure_bind, V.r07_Good_eq, det_pure, wSucc (show i < 9223372036854775807 by omega)]
    by_cases c : V.goodD x = true
    · rw [c, cond_true, rPut_eq t x (by omega), det_pure, pure_bind, pure_bind, if_pos rfl]
    · simp only [Bool.not_eq_true] at c;rw [c, cond_false, pure_bind]; rfl) (fun t _ => by
    unfold r15_PutDots_l0;simp [pure_bind]) [] (by simp)
  rw [show (0 : Int) = ((0 : Nat) : Int) from rfl, this]
  congr 1
  have key : ∀ (l t : List TDot), l.foldl (fun t d => if V.goodD d = true then insD t d else t) t = (goods l).foldl insD t := by
    intro l
    induction l with
    | nil => intro t; rfl
    | cons x r ih =>
      intro t;rw [List.foldl_cons, ih];unfold goods
      by_cases c : V.goodD x = true
      · rw [if_pos c, List.filter_cons_of_pos c]; rfl
      · rw [if_neg c, List.filter_cons_of_neg c]
  exact key l []
theorem rPutDots_eq {l:List TDot} (h:∀ d ∈ l,OkD d) (hl:l.length ≤ 1000000000) (row:List Int) (hr:row.length ≤ 100000000000):r15_PutDots row l = pure (row ++ encDs l):=by
 have h3:=good_len l;have h1:=N.encI_len (v:=((sortD (goods l)).length:Int)) (by omega);have h2:=flat_len (sortD (goods l)) encD 18 fun x hx=>encD_len (okD_good h x hx)
 unfold r15_PutDots;rw [rgood_loop l (by omega),pure_bind,wU64 (by omega) (by omega),N.rAppend_eq row (by omega) (by omega) (by omega),det_pure,pure_bind];have:=loopApp (body:=r15_PutDots_l1 (sortD (goods l))) (sortD (goods l)) encD (row ++ N.encI ((sortD (goods l)).length:Int)) 1000000000000 (fun i out=>(out,(i:Int))) (fun t=>pure t) (by rw [List.length_append];omega) (fun i x out hx hi ho=>by
  have hd:decide ((i:Int) < ((sortD (goods l)).length:Int)) = true:=by simpa using hi
  unfold r15_PutDots_l1;simp only [hd,cond_true,idx_nat hx,pure_bind,rPutDot_eq (okD_good h x (List.mem_of_getElem? hx)) out (by omega),det_pure,wSucc (show i < 9223372036854775807 by omega)]) (fun out=>by
  unfold r15_PutDots_l1;simp [pure_bind])
 rw [show (0:Int) = ((0:Nat):Int) from rfl,this,pure_bind,encDs,List.append_assoc]

def encR (x:TRun):List Int:=N.encI x.lo ++ N.encI x.hi
def encP (p:TPart):List Int:=N.encI p.dev ++ (N.encI p.runs.length ++ p.runs.flatMap encR)
def encN (c:List TPart):List Int:=N.encI c.length ++ c.flatMap encP
structure OkP (p:TPart):Prop where
 d0:0 ≤ p.dev
 d1:p.dev ≤ 65535
 r:∀ x ∈ p.runs,(0 ≤ x.lo ∧ x.lo ≤ 18446744073709551615) ∧ 0 ≤ x.hi ∧ x.hi ≤ 18446744073709551615
open N (RS Ok numS uptoS failS endS OkB Sim)

def bad4 (c:Bool) (s:RS):RS:=if c = true then failS 4 s else s
def fin {α:Type} (z x:α) (t:RS):α × RS:=if t.2 ≠ 0 then (z,t) else (x,t)
theorem ok_bad4 {s:RS} (h:Ok s) (c:Bool):Ok (bad4 c s):=by unfold bad4;split;exact N.ok_fail h _;exact h
theorem fin_ok {α:Type} {z x:α} {t:RS} (h:t.2 = 0):fin z x t = (x,t):=if_neg (by simp [h])
theorem fin_bad {α:Type} {z x:α} {t:RS} (h:t.2 ≠ 0):fin z x t = (z,t):=if_pos h
def dotR (s:RS):TDot:=⟨(uptoS 65535 s).1,(numS (uptoS 65535 s).2).1⟩
def dotT (s:RS):RS:=bad4 (!V.goodD (dotR s)) (numS (uptoS 65535 s).2).2
def dotS (s:RS):TDot × RS:=fin ⟨0,0⟩ (dotR s) (dotT s)
theorem ok_dot {s:RS} (h:Ok s):Ok (dotS s).2 ∧ OkD (dotS s).1 ∧ OkD (dotR s):=by
 obtain ⟨h1,h2,h3⟩:=N.ok_upto h (m:=65535) (by decide);obtain ⟨h4,h5,h6⟩:=N.ok_num h1;have ht:Ok (dotT s):=ok_bad4 h4 _;have hr:OkD (dotR s):=⟨h2,h3,h5,h6⟩
 unfold dotS
 by_cases c:(dotT s).2 = 0
 ·rw [fin_ok c];exact ⟨ht,hr,hr⟩
 ·rw [fin_bad c];exact ⟨ht,⟨Int.le_refl _,by simp,Int.le_refl _,by simp⟩,hr⟩
variable {B:List Int} {a:Int} {s:RS}
def lastGe (out:List TDot) (x:TDot):Bool:=match out.getLast? with | some y=>decide (0 ≤ V.cmpD y x) | none=>false
def dotsT (out:List TDot) (s:RS):RS:=bad4 (lastGe out (dotS s).1) (dotS s).2
def dotsL : Nat → List TDot → RS → List TDot × RS
 | 0,out,s=>(out,s)
 | k + 1,out,s=>if (dotsT out s).2 ≠ 0 then ([],dotsT out s) else dotsL k (out ++ [(dotS s).1]) (dotsT out s)
def dotsS (most:Int) (s:RS):List TDot × RS:=if max most 0 < (numS s).1 then ([],failS 3 (numS s).2) else dotsL (numS s).1.toNat [] (numS s).2
theorem dotsL_bad {k:Nat} {out:List TDot} {s:RS} (h:(dotsT out s).2 ≠ 0):dotsL (k + 1) out s = ([],dotsT out s):=if_pos h
theorem dotsL_next {k:Nat} {out:List TDot} {s:RS} (h:(dotsT out s).2 = 0):dotsL (k + 1) out s = dotsL k (out ++ [(dotS s).1]) (dotsT out s):=if_neg (by simp [h])
theorem ok_dotsT {s:RS} (h:Ok s) (out:List TDot):Ok (dotsT out s):=ok_bad4 (ok_dot h).1 _
theorem ok_dotsL : ∀ (k:Nat) (out:List TDot) (s:RS),Ok s → Ok (dotsL k out s).2
 | 0,_,_,h=>h
 | k + 1,out,s,h=>by
  by_cases c:(dotsT out s).2 = 0
  ·rw [dotsL_next c];exact ok_dotsL k _ _ (ok_dotsT h out)
  ·rw [dotsL_bad c];exact ok_dotsT h out
theorem ok_dots {s:RS} (h:Ok s) (most:Int):Ok (dotsS most s).2:=by
 have h1:=N.ok_num h;unfold dotsS
 split
 ·exact N.ok_fail h1.1 _
 ·exact ok_dotsL _ _ _ h1.1
open N (RS Ok numS uptoS failS endS OkB Sim)

variable {B:List Int} {a:Int} {s:RS}
open N (RS Ok numS uptoS failS endS OkB Sim)

def riseB : List TDot → Bool
 | []=>true
 | x :: r=>(match r with | []=>true | y :: _=>ltDot x y) && riseB r
theorem rise_iff : ∀ {l:List TDot},riseB l = true ↔ Srt l
 | []=>⟨fun _=>List.Pairwise.nil,fun _=>rfl⟩
 | [x]=>⟨fun _=>by simp [Srt],fun _=>rfl⟩
 | x :: y :: r=>by
  show (ltDot x y && riseB (y :: r)) = true ↔ _;rw [Bool.and_eq_true,rise_iff (l:=y :: r)];unfold Srt;rw [List.pairwise_cons (a:=x)]
  constructor
  ·rintro ⟨h1,h2⟩;refine ⟨fun z hz=>?_,h2⟩;rcases List.mem_cons.1 hz with rfl | hz
   ·exact h1
   ·exact lt_trans h1 ((List.pairwise_cons.1 h2).1 z hz)
  ·rintro ⟨h1,h2⟩;exact ⟨h1 y (by simp),h2⟩
theorem cmp_ge (x y:TDot):decide (0 ≤ V.cmpD x y) = !ltDot x y:=by
 by_cases h:ltDot x y = true
 ·have:=V.cmpD_neg.2 h;rw [h];simp;omega
 ·have h2:¬ V.cmpD x y < 0:=fun e=>h (V.cmpD_neg.1 e)
  simp only [Bool.not_eq_true] at h;rw [h];simp;omega
theorem rRising_eq (l:List TDot) (hl:l.length ≤ 1000000000000):r07_Rising l = pure (riseB l):=by
 unfold r07_Rising;have key:∀ (k i:Nat) (x:TDot) (r:List TDot),i + k = l.length → l.drop i = r → i ≠ 0 → l[i - 1]? = some x → loop (r07_Rising_l0 l) (i:Int) = pure (if riseB (x :: r) = true then .brk () else .ret false):=by
  intro k
  induction k with
  | zero=>
   intro i x r hi hr h1 hx;have:r = []:=by rw [← hr];exact List.drop_eq_nil_of_le (by omega)
   subst this;exact loop_done (by
    unfold r07_Rising_l0;have:decide ((i:Int) < (l.length:Int)) = false:=by simp;omega
    simp only [this,cond_false];rfl)
  | succ k ih=>
   intro i x r hi hr h1 hx;have hlt:i < l.length:=by omega
   have hr2:r = l[i] :: l.drop (i + 1):=by rw [← hr];exact List.drop_eq_getElem_cons hlt
   have hy:=List.getElem?_eq_getElem hlt;have hi1:idx l (IntKind.i64.wrap ((i:Int) - 1)) = pure x:=by
    rw [wI64 (by omega) (by omega)];exact idx_eq (by omega) (by rw [show ((i:Int) - 1).toNat = i - 1 by omega];exact hx)
   have hb:r07_Rising_l0 l (i:Int) = cond (!ltDot x l[i]) (pure (.done (.ret false))) (pure (.next ((i + 1:Nat):Int))):=by
    unfold r07_Rising_l0;have:decide ((i:Int) < (l.length:Int)) = true:=by simp;omega
    simp only [this,cond_true,hi1,idx_nat hy,pure_bind,V.r07_Cmp_eq,det_pure,cmp_ge,wSucc (show i < 9223372036854775807 by omega)]
   rw [hr2];show _ = (pure (if (ltDot x l[i] && riseB (l[i] :: l.drop (i + 1))) = true then Ex.brk () else Ex.ret false):M (Ex Unit Bool))
   cases c:ltDot x l[i] with
   | true=>
    rw [c] at hb;rw [loop_next hb,Bool.true_and];exact ih (i + 1) l[i] _ (by omega) rfl (by omega) hy
   | false=>
    rw [c] at hb;rw [loop_done hb];rfl
 cases l with
 | nil=>
  rw [loop_done (r:=.brk ()) (by unfold r07_Rising_l0;rfl)];rfl
 | cons x r=>
  have:=key r.length 1 x r (by simp;omega) rfl (by decide) rfl;rw [show ((1:Nat):Int) = 1 from rfl] at this;rw [this,pure_bind]
  cases riseB (x :: r) <;> rfl

open N (RS Ok numS uptoS failS endS OkB Sim)

end Go.Ep.M.D

namespace Go.Ep.M.E
open Go

theorem bytes_len (s:ByteArray):(bytesL s).length = s.size:=by simp [bytesL]
def cidD (v:Int):TDot:=⟨v / 281474976710656,v % 281474976710656⟩
theorem band48 {v:Int} (h0:0 ≤ v) (h:v ≤ 18446744073709551615):bAnd .u64 v 281474976710655 = v % 281474976710656:=by
 obtain ⟨n,rfl⟩:=Int.eq_ofNat_of_zero_le h0;unfold bAnd;have bv:∀ q:Nat,q < 18446744073709551616 → (BitVec.ofInt IntKind.u64.bits (q:Int)).toNat = q:=fun q hq=>by
  show (BitVec.ofInt 64 (q:Int)).toNat = q;rw [BitVec.toNat_ofInt];omega
 have e:(281474976710655:Int) = ((281474976710655:Nat):Int):=rfl;rw [e,BitVec.toNat_and,bv n (by omega),bv _ (by decide)];have h2:n &&& 281474976710655 = n % 281474976710656:=Nat.and_two_pow_sub_one_eq_mod n 48;rw [h2,wU64 (by omega) (by omega)];omega
theorem Split_eq {v:Int} (h0:0 ≤ v) (h:v ≤ 18446744073709551615):shift_Split v = pure ((cidD v).dev,(cidD v).n):=by
 unfold shift_Split cidD;have e:(2 ^ 48:Int) = 281474976710656:=rfl;rw [band48 h0 h,Int.fdiv_eq_ediv_of_nonneg _ (by decide),e,wU16 (by omega) (by omega)]
theorem rSplit_eq {v:Int} (h0:0 ≤ v) (h:v ≤ 18446744073709551615):r01_Split v = pure ((cidD v).dev,(cidD v).n):=by
 unfold r01_Split cidD;rw [Int.tdiv_eq_ediv_of_nonneg h0,Int.tmod_eq_emod_of_nonneg h0,wU64 (by omega) (by omega),wU16 (by omega) (by omega)]
def goodC (v:Int):Bool:=V.goodD (cidD v)
theorem Unpack_eq {v:Int} (h0:0 ≤ v) (h:v ≤ 18446744073709551615):dot_Unpack v = pure (if goodC v = true then cidD v else ⟨0,0⟩,goodC v):=by
 unfold dot_Unpack;rw [Split_eq h0 h,det_pure,pure_bind,V.dot_Good_eq,det_pure,pure_bind];show cond (!goodC v) _ _ = _
 cases goodC v <;> rfl
theorem rUnpack_eq {v:Int} (h0:0 ≤ v) (h:v ≤ 18446744073709551615):r07_Unpack v = pure (if goodC v = true then cidD v else ⟨0,0⟩,goodC v):=by
 unfold r07_Unpack;rw [rSplit_eq h0 h,det_pure,pure_bind,V.r07_Good_eq,det_pure,pure_bind];show cond (!goodC v) _ _ = _
 cases goodC v <;> rfl

def goodF (f:Int):Bool:=decide (1 ≤ f) && decide (f ≤ 5)
theorem Field_eq (f:Int):field_Good f = pure (goodF f):=by unfold field_Good goodF;rw [cond_pure_and];rfl
theorem rField_eq (f:Int):r11_Good f = pure (goodF f):=by unfold r11_Good goodF;rw [cond_pure_and];rfl
def okB (x:Int):Bool:=decide (32 ≤ x) && decide (x ≤ 126)
def goodT (s:ByteArray):Bool:=decide (s.size ≤ 60) && (bytesL s).all okB
theorem all_zip {α:Type} (l:List α) (p:α → Bool):(l.zipIdx.all fun y=>p y.1) = l.all p:=by
 rw [Bool.eq_iff_iff,List.all_eq_true,List.all_eq_true]
 constructor
 ·intro h x hx;obtain ⟨i,hi⟩:=List.getElem?_of_mem hx;exact h (x,i) (by rw [List.mk_mem_zipIdx_iff_getElem?];exact hi)
 ·intro h y hy;exact h y.1 (List.fst_mem_of_mem_zipIdx hy)
theorem okB_eq (x:Int) (f:M Bool) (hf:f = pure (decide (126 < x))):(cond (decide (x < 32)) (pure true) f:M Bool) = pure (!okB x):=by
 rw [hf];unfold okB
 by_cases h1:x < 32
 ·have:¬ 32 ≤ x:=by omega
  simp [h1,this]
 ·have:32 ≤ x:=by omega
  by_cases h2:126 < x
  ·have:¬ x ≤ 126:=by omega
   simp [h1,h2,this]
  ·have:x ≤ 126:=by omega
   simp [h1,h2, *]
theorem text_loop (s:ByteArray) (hs:s.size ≤ 1000000000000):loop (field_Text_l0 s) 0 = pure (if (bytesL s).all okB = true then Ex.brk () else Ex.ret false):=by
 have:=loopAll (body:=field_Text_l0 s) (bytesL s) (fun i=>(i:Int)) (fun _ x=>okB x) (Ex.brk ()) (Ex.ret false) (fun i x hx hi=>by
  have hd:decide ((i:Int) < (s.size:Int)) = true:=by rw [← bytes_len];simpa using hi
  have hi2:i < s.size:=by rw [← bytes_len];exact hi
  unfold field_Text_l0;simp only [hd,cond_true,idx_nat hx,pure_bind,okB_eq x _ rfl,wSucc (show i < 9223372036854775807 by omega)]
  cases okB x <;> rfl) (by
  unfold field_Text_l0;simp [bytes_len])
 rw [show (0:Int) = ((0:Nat):Int) from rfl,this,all_zip]
theorem rtext_loop (s:ByteArray) (hs:s.size ≤ 1000000000000):loop (r11_Text_l0 s) 0 = pure (if (bytesL s).all okB = true then Ex.brk () else Ex.ret false):=by
 have:=loopAll (body:=r11_Text_l0 s) (bytesL s) (fun i=>(i:Int)) (fun _ x=>okB x) (Ex.brk ()) (Ex.ret false) (fun i x hx hi=>by
  have hd:decide ((i:Int) < (s.size:Int)) = true:=by rw [← bytes_len];simpa using hi
  have hi2:i < s.size:=by rw [← bytes_len];exact hi
  unfold r11_Text_l0;simp only [hd,cond_true,idx_nat hx,pure_bind,okB_eq x _ rfl,wSucc (show i < 9223372036854775807 by omega)]
  cases okB x <;> rfl) (by
  unfold r11_Text_l0;simp [bytes_len])
 rw [show (0:Int) = ((0:Nat):Int) from rfl,this,all_zip]
theorem Text_eq (s:ByteArray) (hs:s.size ≤ 1000000000000):field_Text s = pure (goodT s):=by
 unfold field_Text goodT;rw [text_loop s hs]
 by_cases h:s.size ≤ 60
 ·have:decide ((60:Int) < (s.size:Int)) = false:=by simp;omega
  rw [this,cond_false,pure_bind,decide_eq_true h,Bool.true_and]
  cases (bytesL s).all okB <;> rfl
 ·have:decide ((60:Int) < (s.size:Int)) = true:=by simp;omega
  rw [this,cond_true,decide_eq_false h,Bool.false_and]
theorem rText_eq (s:ByteArray) (hs:s.size ≤ 1000000000000):r11_Text s = pure (goodT s):=by
 unfold r11_Text goodT;rw [rtext_loop s hs,pure_bind]
 cases (bytesL s).all okB with
 | false=>rw [Bool.and_false];rfl
 | true=>
  rw [if_pos rfl,exk_brk,Bool.and_true]
  congr 1
  by_cases h:s.size ≤ 60
  ·rw [decide_eq_true h];simp;omega
  ·rw [decide_eq_false h];simp;omega

structure OkE (e:TEvent):Prop where
 dot:D.OkD e.dot
 kind:0 ≤ e.kind ∧ e.kind ≤ 255
 cid:0 ≤ e.cid ∧ e.cid ≤ 18446744073709551615
 field:0 ≤ e.field ∧ e.field ≤ 255
 text:e.text.size ≤ 1000000000
 kills:∀ d ∈ e.kills,D.OkD d
 klen:e.kills.length ≤ 1000000000
def noText (s:ByteArray):Bool:=decide (s = ⟨#[]⟩)
def goodK (e:TEvent):Bool:=(decide (e.kind = 1) && (goodF e.field && goodT e.text)) || (decide (e.kind = 2) && (decide (e.field = 0) && noText e.text))
def goodL (e:TEvent):Bool:=decide (e.kills.length ≤ 256) && (D.riseB e.kills && e.kills.all fun d=>V.goodD d && !decide (d = e.dot))
def goodE (e:TEvent):Bool:=(goodC e.cid && V.goodD e.dot) && (goodK e && goodL e)
theorem Rising_eq (l:List TDot) (hl:l.length ≤ 1000000000000):dot_Rising l = pure (D.riseB l):=by
 unfold dot_Rising;have key:∀ (k i:Nat) (x:TDot) (r:List TDot),i + k = l.length → l.drop i = r → i ≠ 0 → l[i - 1]? = some x → loop (dot_Rising_l0 l) (i:Int) = pure (if D.riseB (x :: r) = true then Ex.brk () else Ex.ret false):=by
  intro k
  induction k with
  | zero=>
   intro i x r hi hr h1 hx;have:r = []:=by rw [← hr];exact List.drop_eq_nil_of_le (by omega)
   subst this;exact loop_done (by
    unfold dot_Rising_l0;have:decide ((i:Int) < (l.length:Int)) = false:=by simp;omega
    simp only [this,cond_false];rfl)
  | succ k ih=>
   intro i x r hi hr h1 hx;have hlt:i < l.length:=by omega
   have hr2:r = l[i] :: l.drop (i + 1):=by rw [← hr];exact List.drop_eq_getElem_cons hlt
   have hy:=List.getElem?_eq_getElem hlt;have hi1:idx l (IntKind.i64.wrap ((i:Int) - 1)) = pure x:=by
    rw [wI64 (by omega) (by omega)];exact idx_eq (by omega) (by rw [show ((i:Int) - 1).toNat = i - 1 by omega];exact hx)
   have hb:dot_Rising_l0 l (i:Int) = cond (!ltDot x l[i]) (pure (.done (.ret false))) (pure (.next ((i + 1:Nat):Int))):=by
    unfold dot_Rising_l0;have h2:decide ((i:Int) < (l.length:Int)) = true:=by simp;omega
    have h3:decide ((0:Int) < (i:Int)) = true:=by simp;omega
    simp only [h2,h3,cond_true,hi1,idx_nat hy,pure_bind,D.Cmp_eq,det_pure,D.cmp_ge,wSucc (show i < 9223372036854775807 by omega)]
   rw [hr2];show _ = (pure (if (ltDot x l[i] && D.riseB (l[i] :: l.drop (i + 1))) = true then Ex.brk () else Ex.ret false):M (Ex Unit Bool))
   cases c:ltDot x l[i] with
   | true=>
    rw [c] at hb;rw [loop_next hb,Bool.true_and];exact ih (i + 1) l[i] _ (by omega) rfl (by omega) hy
   | false=>
    rw [c] at hb;rw [loop_done hb];rfl
 cases l with
 | nil=>
  rw [loop_done (r:=Ex.brk ()) (by unfold dot_Rising_l0;rfl)];rfl
 | cons x r=>
  have h0:dot_Rising_l0 (x :: r) 0 = pure (.next 1):=by
   unfold dot_Rising_l0;have h2:decide ((0:Int) < ((x :: r).length:Int)) = true:=decide_eq_true (by rw [List.length_cons];omega);simp only [h2,cond_true,show decide ((0:Int) < 0) = false from rfl,cond_false,pure_bind];rw [wI64 (by omega) (by omega)]
   rfl
  have:=key r.length 1 x r (by simp;omega) rfl (by decide) rfl;rw [show ((1:Nat):Int) = 1 from rfl] at this;rw [loop_next h0,this,pure_bind]
  cases D.riseB (x :: r) <;> rfl
theorem kills_loop (e:TEvent) (hl:e.kills.length ≤ 1000000000000):loop (event_Good_l0 e) 0 = pure (if (e.kills.all fun d=>V.goodD d && !decide (d = e.dot)) = true then Ex.brk () else Ex.ret false):=by
 have:=loopAll (body:=event_Good_l0 e) e.kills (fun i=>(i:Int)) (fun _ d=>V.goodD d && !decide (d = e.dot)) (Ex.brk ()) (Ex.ret false) (fun i x hx hi=>by
  have hd:decide ((i:Int) < (e.kills.length:Int)) = true:=by simpa using hi
  unfold event_Good_l0;simp only [hd,cond_true,idx_nat hx,pure_bind,V.dot_Good_eq,det_pure,D.dotEq,wSucc (show i < 9223372036854775807 by omega)]
  cases V.goodD x <;> cases decide (x = e.dot) <;> rfl) (by
  unfold event_Good_l0;simp)
 rw [show (0:Int) = ((0:Nat):Int) from rfl,this,all_zip e.kills fun d=>V.goodD d && !decide (d = e.dot)]
theorem Good_eq {e:TEvent} (h:OkE e):event_Good e = pure (goodE e):=by
 have hk:=h.klen;have ht:=h.text;unfold event_Good goodE;rw [Unpack_eq h.cid.1 h.cid.2,det_pure,pure_bind,V.dot_Good_eq,det_pure,pure_bind,kills_loop e (by omega),Rising_eq e.kills (by omega),Field_eq,Text_eq e.text (by omega)];simp only []
 cases goodC e.cid with
 | false=>rfl
 | true=>
  cases V.goodD e.dot with
  | false=>rfl
  | true=>
   have hl:decide ((256:Int) < (e.kills.length:Int)) = !decide (e.kills.length ≤ 256):=by
    by_cases c:e.kills.length ≤ 256
    ·rw [decide_eq_true c];simp;omega
    ·rw [decide_eq_false c];simp;omega
   have tail:(cond (decide ((256:Int) < (e.kills.length:Int))) (pure true) ((det (pure (D.riseB e.kills))).bind fun v23=>pure (!v23))).bind (fun v21=>cond v21 (pure false) ((pure (if (e.kills.all fun d=>V.goodD d && !decide (d = e.dot)) = true then Ex.brk () else Ex.ret false)).bind (exk fun _=>pure true))) = pure (goodL e):=by
    unfold goodL;rw [hl,det_pure,pure_bind]
    cases decide (e.kills.length ≤ 256) with
    | false=>rfl
    | true=>
     cases D.riseB e.kills with
     | false=>rfl
     | true=>cases e.kills.all fun d=>V.goodD d && !decide (d = e.dot) <;> rfl
   simp only [Bool.not_true,cond_false,pure_bind,det_pure,Bool.true_and] at tail ⊢;unfold goodK noText
   by_cases k1:e.kind = 1
   ·have k2:decide (e.kind = 2) = false:=by rw [k1];rfl
    rw [decide_eq_true k1,cond_true,k2,Bool.true_and,Bool.false_and,Bool.or_false]
    cases goodF e.field with
    | false=>rfl
    | true=>
     cases goodT e.text with
     | false=>rfl
     | true=>exact tail
   ·rw [decide_eq_false k1,cond_false,Bool.false_and,Bool.false_or]
    by_cases k2:e.kind = 2
    ·rw [decide_eq_true k2,cond_true,Bool.true_and]
     cases decide (e.field = 0) with
     | false=>rfl
     | true=>
      cases decide (e.text = (⟨#[]⟩:ByteArray)) with
      | false=>rfl
      | true=>exact tail
    ·rw [decide_eq_false k2];rfl
theorem rHas_eq (l:List TDot) (d:TDot) (hl:l.length ≤ 1000000000000):r07_Has l d = pure (l.any fun x=>decide (x = d)):=by
 unfold r07_Has;have:=loopAll (body:=r07_Has_l0 l d) l (fun i=>(i:Int)) (fun _ x=>!decide (x = d)) (Ex.brk ()) (Ex.ret true) (fun i x hx hi=>by
  have hd:decide ((i:Int) < (l.length:Int)) = true:=by simpa using hi
  unfold r07_Has_l0;simp only [hd,cond_true,idx_nat hx,pure_bind,D.dotEq,wSucc (show i < 9223372036854775807 by omega)]
  cases decide (x = d) <;> rfl) (by
  unfold r07_Has_l0;simp)
 rw [show (0:Int) = ((0:Nat):Int) from rfl,this,pure_bind,all_zip l fun x=>!decide (x = d)];have e:(l.any fun x=>decide (x = d)) = !(l.all fun x=>!decide (x = d)):=by simp [List.all_eq_not_any_not]
 rw [e]
 cases l.all fun x=>!decide (x = d) <;> rfl
theorem rgood_loop (e:TEvent) (hl:e.kills.length ≤ 1000000000000):loop (r13_Good_l0 e) 0 = pure (if e.kills.all V.goodD = true then Ex.brk () else Ex.ret false):=by
 have:=loopAll (body:=r13_Good_l0 e) e.kills (fun i=>(i:Int)) (fun _ d=>V.goodD d) (Ex.brk ()) (Ex.ret false) (fun i x hx hi=>by
  have hd:decide ((i:Int) < (e.kills.length:Int)) = true:=by simpa using hi
  unfold r13_Good_l0;simp only [hd,cond_true,idx_nat hx,pure_bind,V.r07_Good_eq,det_pure,wSucc (show i < 9223372036854775807 by omega)]
  cases V.goodD x <;> rfl) (by
  unfold r13_Good_l0;simp)
 rw [show (0:Int) = ((0:Nat):Int) from rfl,this,all_zip e.kills V.goodD]
theorem rGood_eq {e:TEvent} (h:OkE e):r13_Good e = pure (goodE e):=by
 have hk:=h.klen;have ht:=h.text;unfold r13_Good goodE;rw [rUnpack_eq h.cid.1 h.cid.2,det_pure,pure_bind,V.r07_Good_eq,det_pure,pure_bind,rgood_loop e (by omega),D.rRising_eq e.kills (by omega),rField_eq,rText_eq e.text (by omega),rHas_eq e.kills e.dot (by omega)];simp only []
 cases goodC e.cid with
 | false=>rfl
 | true=>
  cases V.goodD e.dot with
  | false=>rfl
  | true=>
   have hl:decide ((e.kills.length:Int) ≤ 256) = decide (e.kills.length ≤ 256):=by
    by_cases c:e.kills.length ≤ 256
    ·rw [decide_eq_true c];simp;omega
    ·rw [decide_eq_false c];simp;omega
   have hall:(e.kills.all fun d=>V.goodD d && !decide (d = e.dot)) = (e.kills.all V.goodD && !(e.kills.any fun x=>decide (x = e.dot))):=by
    rw [Bool.eq_iff_iff,Bool.and_eq_true,List.all_eq_true,List.all_eq_true,Bool.not_eq_true',List.any_eq_false]
    constructor
    ·intro h;exact ⟨fun x hx=>by have:=h x hx;rw [Bool.and_eq_true] at this;exact this.1,fun x hx=>by have:=h x hx;rw [Bool.and_eq_true] at this;simpa using this.2⟩
    ·rintro ⟨h1,h2⟩ x hx;rw [Bool.and_eq_true];exact ⟨h1 x hx,by simpa using h2 x hx⟩
   have tail:((pure (if e.kills.all V.goodD = true then Ex.brk () else Ex.ret false):M (Ex Unit Bool)).bind (exk fun _=>(cond (decide ((e.kills.length:Int) ≤ 256)) ((det (pure (D.riseB e.kills))).bind fun v46=>cond v46 ((det (pure (e.kills.any fun x=>decide (x = e.dot)))).bind fun v49=>pure (!v49)) (pure false)) (pure false)).bind fun v44=>pure v44)) = pure (goodL e):=by
    unfold goodL;rw [hl,hall];simp only [det_pure,pure_bind]
    cases e.kills.all V.goodD with
    | false=>cases decide (e.kills.length ≤ 256) <;> cases D.riseB e.kills <;> rfl
    | true=>cases decide (e.kills.length ≤ 256) <;> cases D.riseB e.kills <;> cases e.kills.any fun x=>decide (x = e.dot) <;> rfl
   simp only [Bool.not_true,cond_false,pure_bind,det_pure,Bool.true_and] at tail ⊢;unfold goodK noText
   by_cases k1:e.kind = 1
   ·have k2:decide (e.kind = 2) = false:=by rw [k1];rfl
    rw [decide_eq_true k1,k2];simp only [Bool.not_true,cond_false,cond_true,pure_bind,Bool.true_and,Bool.false_and,Bool.or_false]
    cases goodF e.field with
    | false=>rfl
    | true=>
     cases goodT e.text with
     | false=>rfl
     | true=>exact tail
   ·rw [decide_eq_false k1];simp only [Bool.not_false,cond_true,pure_bind,Bool.false_and,Bool.false_or]
    by_cases k2:e.kind = 2
    ·rw [decide_eq_true k2];simp only [Bool.not_true,cond_false,cond_true,Bool.true_and]
     cases decide (e.field = 0) with
     | false=>rfl
     | true=>
      cases decide (e.text = (⟨#[]⟩:ByteArray)) with
      | false=>rfl
      | true=>exact tail
    ·rw [decide_eq_false k2];rfl


def fewE (l:List TEvent) (most:Nat):Bool:=decide (l.length ≤ most) && l.all fun e=>decide (e.kills.length ≤ 300) && decide (e.text.size ≤ 200)
theorem rFew_eq (l:List TEvent) (most:Nat) (hm:most ≤ 1000000):r13_Few l (most:Int) = pure (fewE l most):=by
 unfold r13_Few fewE
 by_cases h:l.length ≤ most
 ·have hd:decide ((most:Int) < (l.length:Int)) = false:=by simp;omega
  have:=loopAll (body:=r13_Few_l0 l) l (fun i=>(i:Int)) (fun _ e=>decide (e.kills.length ≤ 300) && decide (e.text.size ≤ 200)) (Ex.brk ()) (Ex.ret false) (fun i x hx hi=>by
   have hd:decide ((i:Int) < (l.length:Int)) = true:=by simpa using hi
   unfold r13_Few_l0;simp only [hd,cond_true,idx_nat hx,pure_bind,wSucc (show i < 9223372036854775807 by omega)]
   by_cases c:x.kills.length ≤ 300
   ·have h1:decide ((300:Int) < (x.kills.length:Int)) = false:=by simp;omega
    rw [h1,cond_false,decide_eq_true c,Bool.true_and,pure_bind]
    by_cases c2:x.text.size ≤ 200
    ·have h2:decide ((200:Int) < (x.text.size:Int)) = false:=by simp;omega
     rw [h2,decide_eq_true c2];rfl
    ·have h2:decide ((200:Int) < (x.text.size:Int)) = true:=by simp;omega
     rw [h2,decide_eq_false c2];rfl
   ·have h1:decide ((300:Int) < (x.kills.length:Int)) = true:=by simp;omega
    rw [h1,cond_true,decide_eq_false c,Bool.false_and];rfl) (by
   unfold r13_Few_l0;simp)
  rw [hd,cond_false,decide_eq_true h,Bool.true_and,show (0:Int) = ((0:Nat):Int) from rfl,this,pure_bind,all_zip l fun e=>decide (e.kills.length ≤ 300) && decide (e.text.size ≤ 200)]
  cases l.all fun e=>decide (e.kills.length ≤ 300) && decide (e.text.size ≤ 200) <;> rfl
 ·have hd:decide ((most:Int) < (l.length:Int)) = true:=by simp;omega
  rw [hd,cond_true,decide_eq_false h,Bool.false_and]
theorem few_mem {l:List TEvent} {most:Nat} (h:fewE l most = true):l.length ≤ most ∧ ∀ e ∈ l,e.kills.length ≤ 300 ∧ e.text.size ≤ 200:=by
 unfold fewE at h;rw [Bool.and_eq_true,List.all_eq_true] at h;exact ⟨by simpa using h.1,fun e he=>by simpa using h.2 e he⟩
theorem rSame_eq (a b:TEvent) (h:a.kills.length ≤ 1000000000000):r13_Same a b = pure (decide (a = b)):=by
 unfold r13_Same;rw [D.dotEq,V.r07_Same_eq a.kills b.kills h,det_pure,pure_bind];have e:decide (a = b) = (decide (a.dot = b.dot) && (decide (a.kind = b.kind) && (decide (a.cid = b.cid) && (decide (a.field = b.field) && (decide (a.text = b.text) && decide (a.kills = b.kills)))))):=by
  cases a;cases b;simp only [TEvent.mk.injEq,Bool.decide_and]
 rw [e]
 cases decide (a.dot = b.dot) <;> cases decide (a.kind = b.kind) <;> cases decide (a.cid = b.cid) <;> cases decide (a.field = b.field) <;> cases decide (a.text = b.text) <;> rfl
theorem rAll_eq (a b:List TEvent) (ha:a.length ≤ 1000000000000) (hk:∀ e ∈ a,e.kills.length ≤ 1000000000000):r13_All a b = pure (decide (a = b)):=by
 unfold r13_All
 by_cases hlen:a.length = b.length
 ·have h1:decide ((a.length:Int) = (b.length:Int)) = true:=by simp [hlen]
  rw [h1,Bool.not_true,cond_false];have:=loopAll (body:=r13_All_l0 a b) a (fun i=>(i:Int)) (fun i x=>decide (b[i]? = some x)) (Ex.brk ()) (Ex.ret false) (fun i x hx hi=>by
   have hd:decide ((i:Int) < (a.length:Int)) = true:=by simpa using hi
   obtain ⟨y,hy⟩:∃ y,b[i]? = some y:=⟨_,List.getElem?_eq_getElem (by omega)⟩
   unfold r13_All_l0;simp only [hd,cond_true,idx_nat hx,idx_nat hy,pure_bind,rSame_eq x y (hk x (List.mem_of_getElem? hx)),det_pure,wSucc (show i < 9223372036854775807 by omega),hy]
   by_cases c:x = y
   ·subst c;simp
   ·have:¬ some y = some x:=fun e=>c (Option.some.inj e).symm
    simp [c,this]) (by
   unfold r13_All_l0;simp)
  rw [show (0:Int) = ((0:Nat):Int) from rfl,this,pure_bind];have e:(a.zipIdx.all fun y=>decide (b[y.2]? = some y.1)) = decide (a = b):=by
   rw [Bool.eq_iff_iff,List.all_eq_true,decide_eq_true_eq]
   constructor
   ·intro h;apply List.ext_getElem?;intro i
    by_cases hi:i < a.length
    ·have:=h (a[i],i) (by rw [List.mk_mem_zipIdx_iff_getElem?];exact List.getElem?_eq_getElem hi);simp only [decide_eq_true_eq] at this;rw [this,List.getElem?_eq_getElem hi]
    ·rw [List.getElem?_eq_none (by omega),List.getElem?_eq_none (by omega)]
   ·intro h y hy;subst h;rw [List.mem_zipIdx_iff_getElem?] at hy;simpa using hy
  rw [e]
  cases decide (a = b) <;> rfl
 ·have h1:decide ((a.length:Int) = (b.length:Int)) = false:=by simp;omega
  have h2:decide (a = b) = false:=decide_eq_false fun e=>hlen (by rw [e])
  rw [h1,Bool.not_false,cond_true,h2]

def encT (s:ByteArray):List Int:=N.encI s.size ++ bytesL s
def encE (e:TEvent):List Int:=D.encD e.dot ++ ([e.kind] ++ (N.encI e.cid ++ ([e.field] ++ (encT e.text ++ D.encDs e.kills))))
theorem encT_len {s:ByteArray} (h:s.size ≤ 1000000000):(encT s).length ≤ 9 + s.size:=by
 have:=N.encI_len (v:=(s.size:Int)) (by omega);rw [encT,List.length_append,bytes_len];omega
theorem rPutText_eq {s:ByteArray} (h:s.size ≤ 1000000000) (row:List Int) (hr:row.length ≤ 1000000000000):r04_Text row s = pure (row ++ encT s):=by
 have h9:=N.encI_len (v:=(s.size:Int)) (by omega);unfold r04_Text;rw [wU64 (by omega) (by omega),N.rAppend_eq row (by omega) (by omega) (by omega),det_pure,pure_bind];have:=D.loopApp (body:=r04_Text_l0 s) (bytesL s) (fun x=>[x]) (row ++ N.encI (s.size:Int)) 2000000000000 (fun i out=>((i:Int),out)) (fun t=>pure t) (by
  have:=D.flat_len (bytesL s) (fun x=>[x]) 1 (by simp);rw [bytes_len] at this;rw [List.length_append];omega) (fun i x out hx hi ho=>by
  have hi2:i < s.size:=by rw [← bytes_len];exact hi
  have hd:decide ((i:Int) < (s.size:Int)) = true:=by simpa using hi2
  unfold r04_Text_l0;simp only [hd,cond_true,idx_nat hx,pure_bind];rw [need_true (by simp at ho ⊢;omega),wSucc (show i < 9223372036854775807 by omega)]) (fun out=>by
  unfold r04_Text_l0;simp [bytes_len,pure_bind])
 rw [show (0:Int) = ((0:Nat):Int) from rfl,this,pure_bind,encT,List.append_assoc];have e:∀ l:List Int,(l.flatMap fun x=>[x]) = l:=by
  intro l
  induction l with
  | nil=>rfl
  | cons x r ih=>rw [List.flatMap_cons,ih];rfl
 rw [e]
theorem rPut_eq {e:TEvent} (h:OkE e) (row:List Int) (hr:row.length ≤ 10000000000):r16_Put row e = pure (row ++ encE e):=by
 have h1:=D.encD_len h.dot;have h2:=N.encI_len h.cid.2;have h3:=encT_len h.text;have ht:=h.text;have hk:=h.klen;unfold r16_Put;rw [D.rPutDot_eq h.dot row (by omega),det_pure,pure_bind,need_true (by simp only [List.length_append,List.length_singleton];omega),N.rAppend_eq _ h.cid.1 h.cid.2 (by simp only [List.length_append,List.length_singleton];omega),det_pure,pure_bind,
  need_true (by simp only [List.length_append,List.length_singleton];omega),rPutText_eq h.text _ (by simp only [List.length_append,List.length_singleton];omega),det_pure,pure_bind,
  D.rPutDots_eq h.kills (by omega) _ (by simp only [List.length_append,List.length_singleton];omega),det_pure,pure_bind]
 simp only [encE,List.append_assoc]
open N (RS Ok numS uptoS byteS textS failS endS OkB Sim)
open D (bad4 fin)

def s1 (s:RS):RS:=(D.dotS s).2
def s2 (s:RS):RS:=(byteS (s1 s)).2
def s3 (s:RS):RS:=(numS (s2 s)).2
def s4 (s:RS):RS:=(byteS (s3 s)).2
def s5 (s:RS):RS:=(textS 60 (s4 s)).2
def s6 (s:RS):RS:=(D.dotsS 256 (s5 s)).2
def getE (s:RS):TEvent:=⟨(D.dotS s).1,(byteS (s1 s)).1,(numS (s2 s)).1,(byteS (s3 s)).1,(textS 60 (s4 s)).1,(D.dotsS 256 (s5 s)).1⟩
def noE : TEvent:=⟨⟨0,0⟩,0,0,0,⟨#[]⟩,[]⟩
def getT (s:RS):RS:=bad4 (!goodE (getE s)) (s6 s)
def getS (s:RS):TEvent × RS:=fin noE (getE s) (getT s)
variable {B:List Int} {a:Int} {s:RS}
open N (RS Ok numS uptoS byteS textS failS endS OkB Sim)
open D (bad4 fin)

variable {B:List Int} {a:Int} {s:RS}
abbrev SrtE (l:List TEvent):Prop:=l.Pairwise fun x y=>ltDot x.dot y.dot = true
theorem Copy_eq (e:TEvent) (h:e.kills.length ≤ 1000000000000):event_Copy e = pure e:=by
 unfold event_Copy;rw [D.Clone_eq _ h,det_pure,pure_bind]
def keepK (l:List TDot) (c:List TPart):List TDot:=D.sortD (l.filter fun d=>C.hasC c d.dev d.n)
def again (dev:Int) (c:List TPart) (i:Nat) (e:TEvent):TEvent:=⟨⟨dev,(i:Int) + 1⟩,e.kind,e.cid,e.field,e.text,keepK e.kills c⟩
def e0 : TEvent:=⟨⟨0,0⟩,0,0,0,⟨#[]⟩,[]⟩
def e4 : TEvent:=⟨⟨0,0⟩,0,0,0,⟨#[101]⟩,[]⟩
end Go.Ep.M.E

namespace Go.Ep.M.F
open Go
open E (OkE goodE)

def hasD (l:List TDot) (d:TDot):Bool:=l.any fun x=>decide (x = d)
theorem Has_eq (l:List TDot) (d:TDot) (hl:l.length ≤ 1000000000000):dot_Has l d = pure (hasD l d):=by
 unfold dot_Has slices_Contains_sl_Dot_Dot slices_Index_sl_Dot_Dot;have:=loopF (body:=slices_Index_sl_Dot_Dot_l0 l d) l (fun i=>(i:Int)) (fun _ x=>decide (x = d)) (fun i _=>Ex.ret (i:Int)) (pure (Ex.brk ())) (fun i x hx hi=>by
  have hd:decide ((i:Int) < (l.length:Int)) = true:=by simpa using hi
  unfold slices_Index_sl_Dot_Dot_l0;simp only [hd,cond_true,idx_nat hx,pure_bind,D.dotEq,wSucc (show i < 9223372036854775807 by omega),cond_dec,eq_comm (a:=d) (b:=x),decide_eq_true_eq]) (by
  unfold slices_Index_sl_Dot_Dot_l0;simp [pure_bind])
 rw [show (0:Int) = ((0:Nat):Int) from rfl,this];have hf:(l.zipIdx.find? fun y=>decide (y.1 = d)).isSome = hasD l d:=by
  rw [List.isSome_find?];unfold hasD;rw [Bool.eq_iff_iff,List.any_eq_true,List.any_eq_true]
  constructor
  ·rintro ⟨y,hy,h⟩;exact ⟨y.1,List.fst_mem_of_mem_zipIdx hy,h⟩
  ·rintro ⟨x,hx,h⟩;obtain ⟨i,hi⟩:=List.getElem?_of_mem hx;exact ⟨(x,i),by rw [List.mk_mem_zipIdx_iff_getElem?];exact hi,h⟩
 rw [← hf]
 cases l.zipIdx.find? fun y=>decide (y.1 = d) with
 | none=>simp only [pure_bind,det_pure,exk_brk];rfl
 | some y=>simp only [pure_bind,det_pure,exk_ret];simp
def deadE (l:List TEvent) (d:TDot):Bool:=l.any fun e=>hasD e.kills d
def dotsL (l:List TEvent):List TDot:=l.flatMap fun e=>e.dot :: e.kills
def dotsE (l:List TEvent):List TDot:=D.sortD (dotsL l)
theorem dots_len (l:List TEvent) (k:Nat) (h:∀ e ∈ l,e.kills.length ≤ k):(dotsL l).length ≤ l.length * (k + 1):=by
 induction l with
 | nil=>simp [dotsL]
 | cons e r ih=>
  have h1:=ih fun x hx=>h x (by simp [hx])
  have h2:=h e (by simp);have e1:(dotsL (e :: r)).length = e.kills.length + 1 + (dotsL r).length:=by simp [dotsL];omega
  rw [e1,List.length_cons,Nat.add_mul];omega
theorem dots_snoc {l:List TEvent} {i:Nat} {x:TEvent} (h:l[i]? = some x):dotsL (l.take (i + 1)) = dotsL (l.take i) ++ x.dot :: x.kills:=by
 rw [List.take_add_one,h];simp [dotsL]
theorem dots_part (l:List TEvent) (i:Nat):(dotsL (l.take i)).length ≤ (dotsL l).length:=by
 have:dotsL l = dotsL (l.take i) ++ dotsL (l.drop i):=by unfold dotsL;rw [← List.flatMap_append,List.take_append_drop]
 rw [this,List.length_append];omega
theorem Dots_eq (l:List TEvent) (hl:l.length ≤ 1000000000) (hs:(dotsL l).length ≤ 1000000000):event_Dots l = pure (dotsE l):=by
 unfold event_Dots;have key:∀ (k i:Nat),i + k = l.length → loop (event_Dots_l0 l) ((i:Int),dotsL (l.take i)) = pure (dotsL l):=by
  intro k
  induction k with
  | zero=>
   intro i hi;refine loop_done ?_;unfold event_Dots_l0;have:decide ((i:Int) < (l.length:Int)) = false:=by simp;omega
   simp only [this,cond_false];rw [List.take_of_length_le (by omega)]
  | succ k ih=>
   intro i hi;obtain ⟨x,hx⟩:∃ x,l[i]? = some x:=⟨_,List.getElem?_eq_getElem (by omega)⟩
   have hd:decide ((i:Int) < (l.length:Int)) = true:=by simp;omega
   have h1:=dots_part l (i + 1);rw [dots_snoc hx,List.length_append,List.length_cons] at h1;rw [loop_next (s':=(((i + 1:Nat):Int),dotsL (l.take (i + 1)))) ?_]
   ·exact ih (i + 1) (by omega)
   ·unfold event_Dots_l0;simp only [hd,cond_true,idx_nat hx,pure_bind,wSucc (show i < 9223372036854775807 by omega)];rw [need_true (by simp;omega),need_true (by simp;omega),dots_snoc hx,List.append_assoc];rfl
 have:=key l.length 0 (by omega);rw [show dotsL (l.take 0) = [] from rfl] at this;rw [show (0:Int) = ((0:Nat):Int) from rfl,this,pure_bind,D.Sort_eq _ (by omega),det_pure,pure_bind,dotsE]
theorem rdots_in (l:List TEvent) {i:Nat} {x:TEvent} (hx:l[i]? = some x) (hk:x.kills.length ≤ 1000000000) (s:List TDot) (hs:s.length ≤ 1000000000):loop (r13_Dots_l0 l (i:Int)) (s,0) = pure (x.kills.foldl D.insD s):=by
 have:=loopL (body:=r13_Dots_l0 l (i:Int)) x.kills (fun k t=>(t,(k:Int))) D.insD (fun t=>pure t) (fun k t=>t.length ≤ 1000000000 + k) (fun k d t hd hi hI=>by
  have hc:decide ((k:Int) < (x.kills.length:Int)) = true:=by simpa using hi
  refine ⟨?_,by have:=D.ins_len t d;omega⟩;unfold r13_Dots_l0;simp only [idx_nat hx,pure_bind,hc,cond_true,idx_nat hd,D.rPut_eq t d (by omega),det_pure,wSucc (show k < 9223372036854775807 by omega)]) (fun t _=>by
  unfold r13_Dots_l0;simp [idx_nat hx,pure_bind]) s (by omega)
 exact this
theorem rDots_eq (l:List TEvent) (hl:l.length ≤ 1000000) (hk:∀ e ∈ l,e.kills.length ≤ 300):r13_Dots l = pure (dotsE l):=by
 unfold r13_Dots;have key:∀ (k i:Nat),i + k = l.length → loop (r13_Dots_l1 l) (D.sortD (dotsL (l.take i)),(i:Int)) = pure (dotsE l):=by
  intro k
  induction k with
  | zero=>
   intro i hi;refine loop_done ?_;unfold r13_Dots_l1;have:decide ((i:Int) < (l.length:Int)) = false:=by simp;omega
   simp only [this,cond_false];rw [List.take_of_length_le (by omega)];rfl
  | succ k ih=>
   intro i hi;obtain ⟨x,hx⟩:∃ x,l[i]? = some x:=⟨_,List.getElem?_eq_getElem (by omega)⟩
   have hd:decide ((i:Int) < (l.length:Int)) = true:=by simp;omega
   have h1:=dots_part l i;have h2:=dots_len l 300 hk;have h3:=D.sort_len (dotsL (l.take i));have h4:=D.ins_len (D.sortD (dotsL (l.take i))) x.dot;have h5:=hk x (List.mem_of_getElem? hx);rw [loop_next (s':=(D.sortD (dotsL (l.take (i + 1))),((i + 1:Nat):Int))) ?_]
   ·exact ih (i + 1) (by omega)
   ·unfold r13_Dots_l1;simp only [hd,cond_true,idx_nat hx,pure_bind,D.rPut_eq _ x.dot (show (D.sortD (dotsL (l.take i))).length ≤ 1000000000000 by omega),det_pure,rdots_in l hx (show x.kills.length ≤ 1000000000 by omega) _ (show (D.insD (D.sortD (dotsL (l.take i))) x.dot).length ≤ 1000000000 by omega),wSucc (show i < 9223372036854775807 by omega)];rw [dots_snoc hx];unfold D.sortD;rw [List.foldl_append];rfl
 have:=key l.length 0 (by omega);rw [show D.sortD (dotsL (l.take 0)) = [] from rfl] at this;rw [show (0:Int) = ((0:Nat):Int) from rfl,this,pure_bind]

structure OkD (d:TDelta):Prop where
 from_:C.Ok d.from_
 to_:C.Ok d.to_
 evs:∀ e ∈ d.events,OkE e
 len:d.events.length ≤ 1000000
 kills:∀ e ∈ d.events,e.kills.length ≤ 300
open E (OkE goodE)

def goodC (c:List TPart):Bool:=decide (c = C.normC c)
structure OkM (m:TMsg):Prop where
 kind:0 ≤ m.kind ∧ m.kind ≤ 255
 slot:0 ≤ m.slot ∧ m.slot ≤ 255
 dev:0 ≤ m.dev ∧ m.dev ≤ 65535
 why:0 ≤ m.why ∧ m.why ≤ 255
 have_:C.Ok m.have_
 front:C.Ok m.front
 delta:OkD m.delta
 tot:C.totC m.have_ ≤ 1000
set_option maxHeartbeats 4000000 in
theorem eSame_eq (a b:TEvent) (h:a.kills.length ≤ 1000000000000):event_Same a b = pure (decide (a = b)):=by
 unfold event_Same;rw [D.dotEq,V.dot_Same_eq a.kills b.kills h,det_pure,pure_bind];have e:decide (a = b) = (decide (a.dot = b.dot) && (decide (a.kind = b.kind) && (decide (a.cid = b.cid) && (decide (a.field = b.field) && (decide (a.text = b.text) && decide (a.kills = b.kills)))))):=by
  cases a;cases b;simp only [TEvent.mk.injEq,Bool.decide_and]
 rw [e]
 cases decide (a.dot = b.dot) <;> cases decide (a.kind = b.kind) <;> cases decide (a.cid = b.cid) <;> cases decide (a.field = b.field) <;> cases decide (a.text = b.text) <;> rfl
theorem eAll_eq (a b:List TEvent) (ha:a.length ≤ 1000000000000) (hk:∀ e ∈ a,e.kills.length ≤ 1000000000000):event_All a b = pure (decide (a = b)):=by
 unfold event_All slices_EqualFunc_sl_Event_sl_Event_Event_Event_event_Same
 by_cases hlen:a.length = b.length
 ·have h1:decide ((a.length:Int) = (b.length:Int)) = true:=by simp [hlen]
  rw [h1,Bool.not_true,cond_false];have:=loopAll (body:=slices_EqualFunc_sl_Event_sl_Event_Event_Event_event_Same_l0 a b) a (fun i=>(i:Int)) (fun i x=>decide (b[i]? = some x)) (Ex.brk ()) (Ex.ret false) (fun i x hx hi=>by
   have hd:decide ((i:Int) < (a.length:Int)) = true:=by simpa using hi
   obtain ⟨y,hy⟩:∃ y,b[i]? = some y:=⟨_,List.getElem?_eq_getElem (by omega)⟩
   unfold slices_EqualFunc_sl_Event_sl_Event_Event_Event_event_Same_l0;simp only [hd,cond_true,idx_nat hx,idx_nat hy,pure_bind,eSame_eq x y (hk x (List.mem_of_getElem? hx)),det_pure,wSucc (show i < 9223372036854775807 by omega),hy]
   by_cases c:x = y
   ·subst c;simp
   ·have:¬ some y = some x:=fun e=>c (Option.some.inj e).symm
    simp [c,this]) (by
   unfold slices_EqualFunc_sl_Event_sl_Event_Event_Event_event_Same_l0;simp)
  rw [show (0:Int) = ((0:Nat):Int) from rfl,this,pure_bind];have e:(a.zipIdx.all fun y=>decide (b[y.2]? = some y.1)) = decide (a = b):=by
   rw [Bool.eq_iff_iff,List.all_eq_true,decide_eq_true_eq]
   constructor
   ·intro h;apply List.ext_getElem?;intro i
    by_cases hi:i < a.length
    ·have:=h (a[i],i) (by rw [List.mem_zipIdx_iff_getElem?];exact List.getElem?_eq_getElem hi);simp only [decide_eq_true_eq] at this;rw [this,List.getElem?_eq_getElem hi]
    ·rw [List.getElem?_eq_none (by omega),List.getElem?_eq_none (by omega)]
   ·rintro rfl y hy;rw [List.mem_zipIdx_iff_getElem?] at hy;simpa using hy
  rw [e]
  cases decide (a = b) <;> simp [det_pure,exk,pure_bind]
 ·have h1:decide ((a.length:Int) = (b.length:Int)) = false:=by simp;omega
  have h2:decide (a = b) = false:=decide_eq_false fun e=>hlen (by rw [e])
  rw [h1,Bool.not_false,cond_true,det_pure,pure_bind,h2]
structure InM (m:TMsg):Prop where
 kind:0 ≤ m.kind ∧ m.kind ≤ 255
 slot:0 ≤ m.slot ∧ m.slot ≤ 255
 dev:0 ≤ m.dev ∧ m.dev ≤ 65535
 why:0 ≤ m.why ∧ m.why ≤ 255
 have_:∀ p ∈ m.have_,0 ≤ p.dev
 front:∀ p ∈ m.front,0 ≤ p.dev
 from_:∀ p ∈ m.delta.from_,0 ≤ p.dev
 to_:∀ p ∈ m.delta.to_,0 ≤ p.dev
 evs:∀ e ∈ m.delta.events,e.kills.length ≤ 300 ∧ e.text.size ≤ 200 → OkE e
end Go.Ep.M.F


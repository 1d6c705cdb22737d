/- Side texts. -/
import Derived.Test.YthldiocaakcolaaGreatDoorNBa11
set_option linter.unusedVariables false
set_option linter.unusedSimpArgs false
namespace Go.Ep.M.D
open Go

theorem qI {a b:DT}:zY a b = true ↔ a.dev < b.dev \/ (a.dev = b.dev /\ a.n < b.n):=by simp [zY]
theorem lt_irr (a:DT):zY a a = false:=by
 cases h:zY a a with
 | false=>rfl
 | true=>rw [qI] at h;omega
theorem VX {a b c:DT} (h1:zY a b = true) (h2:zY b c = true):zY a c = true:=by rw [qI] at *;omega
theorem xMa {a b:DT} (h:zY a b = true):zY b a = false:=by
 cases h2:zY b a with
 | false=>rfl
 | true=>rw [qI] at h h2;omega
theorem uga {a b:DT} (h1:zY a b = false) (h2:zY b a = false):a = b:=by
 have h3:¬ (zY a b = true):=by simp [h1]
 have h4:¬ (zY b a = true):=by simp [h2]
 rw [qI] at h3 h4
 cases a;cases b
 simp only [DT.mk.injEq] at *
 omega
abbrev Srt (l:List DT):Prop:=l.Pairwise fun x y=>zY x y = true
theorem xNa : ∀ {l l':List DT},Srt l -> Srt l' -> (∀ d,d ∈ l ↔ d ∈ l') -> l = l'
 | [],[],_,_,_=>rfl
 | [],y :: r,_,_,h=>by have:=(h y).2 (by simp);simp at this
 | x :: r,[],_,_,h=>by have:=(h x).1 (by simp);simp at this
 | x :: r,y :: t,h1,h2,h=>by
  have hx:=(h x).1 (by simp);have hy:=(h y).2 (by simp);have e:x = y:=by
   rcases List.mem_cons.1 hx with e | hx
   ·exact e
   ·rcases List.mem_cons.1 hy with e | hy
    ·exact e.symm
    ·have a1:=(List.pairwise_cons.1 h2).1 x hx;have a2:=(List.pairwise_cons.1 h1).1 y hy;rw [xMa a1] at a2;cases a2
  subst e
  congr 1
  refine xNa (List.pairwise_cons.1 h1).2 (List.pairwise_cons.1 h2).2 fun d=>?_
  have h3:=h d;simp only [List.mem_cons] at h3
  constructor
  ·intro hd;rcases h3.1 (.inr hd) with e | h4
   ·have:=(List.pairwise_cons.1 h1).1 d hd;rw [e,lt_irr] at this;cases this
   ·exact h4
  ·intro hd;rcases h3.2 (.inr hd) with e | h4
   ·have:=(List.pairwise_cons.1 h2).1 d hd;rw [e,lt_irr] at this;cases this
   ·exact h4

def zFa (s:List DT) (d:DT):List DT:=(s.filter fun x=>zY x d) ++ [d] ++ (s.filter fun x=>zY d x)
theorem ins_mem {s:List DT} {d x:DT}:x ∈ zFa s d ↔ x = d \/ x ∈ s:=by
 simp only [zFa,List.mem_append,List.mem_filter,List.mem_singleton]
 constructor
 ·rintro ((h | h) | h)
  ·exact .inr h.1
  ·exact .inl h
  ·exact .inr h.1
 ·rintro (h | h)
  ·exact .inl (.inr h)
  ·cases h1:zY x d with
   | true=>exact .inl (.inl ⟨h,rfl⟩)
   | false=>
    cases h2:zY d x with
    | true=>exact .inr ⟨h,rfl⟩
    | false=>exact .inl (.inr (uga h1 h2))
theorem ins_srt {s:List DT} (h:Srt s) (d:DT):Srt (zFa s d):=by
 unfold Srt zFa;rw [List.pairwise_append,List.pairwise_append];refine ⟨⟨h.filter _,by simp,fun a ha b hb=>?_⟩,h.filter _,fun a ha b hb=>?_⟩
 ·rw [List.mem_singleton.1 hb];exact (List.mem_filter.1 ha).2
 ·have hb:=(List.mem_filter.1 hb).2;rcases List.mem_append.1 ha with ha | ha
  ·exact VX (List.mem_filter.1 ha).2 hb
  ·rw [List.mem_singleton.1 ha];exact hb
theorem Qk (s:List DT) (d:DT):(zFa s d).length <= s.length + 1:=by
 unfold zFa;have h:∀ l:List DT,(l.filter fun x=>zY x d).length + (l.filter fun x=>zY d x).length <= l.length:=by
  intro l
  induction l with
  | nil=>simp
  | cons x r ih=>
   cases h1:zY x d with
   | true=>simp [h1,xMa h1];omega
   | false=>
    cases h2:zY d x with
    | true=>simp [h1,h2];omega
    | false=>simp [h1,h2];omega
 have:=h s;simp;omega
def wO (l:List DT):List DT:=l.foldl zFa []
theorem jA : ∀ (l s:List DT),Srt s -> Srt (l.foldl zFa s) /\ (∀ d,d ∈ l.foldl zFa s ↔ d ∈ s \/ d ∈ l) /\ (l.foldl zFa s).length <= s.length + l.length
 | [],s,h=>⟨h,by simp,by simp⟩
 | x :: r,s,h=>by
  obtain ⟨h1,h2,h3⟩:=jA r (zFa s x) (ins_srt h x);refine ⟨h1,fun d=>?_,?_⟩
  ·rw [List.foldl_cons,h2 d,ins_mem,List.mem_cons]
   constructor
   ·rintro ((h | h) | h)
    ·exact .inr (.inl h)
    ·exact .inl h
    ·exact .inr (.inr h)
   ·rintro (h | h | h)
    ·exact .inl (.inr h)
    ·exact .inl (.inl h)
    ·exact .inr h
  ·have:=Qk s x;rw [List.foldl_cons,List.length_cons];omega
theorem wDa (l:List DT):Srt (wO l):=(jA l [] List.Pairwise.nil).1
theorem Ql {l:List DT} {d:DT}:d ∈ wO l ↔ d ∈ l:=by simpa [wO] using (jA l [] List.Pairwise.nil).2.1 d
theorem jB (l:List DT):(wO l).length <= l.length:=by simpa [wO] using (jA l [] List.Pairwise.nil).2.2
theorem uha {l:List DT} (h:Srt l):wO l = l:=xNa (wDa l) h fun _=>Ql
theorem xOa (s:List DT) (d:DT) (h:s.length <= 1000000000000):Zz s d = pure (zFa s d):=V.Vt s d h

def ddS (out:List DT) (x:DT):List DT:=if out.getLast? = some x then out else out ++ [x]
def dd (l:List DT):List DT:=l.foldl ddS []
theorem JE (l:List DT) (x:DT):dd (l ++ [x]) = ddS (dd l) x:=by simp [dd]
theorem xPa (l:List DT):(dd l).getLast? = l.getLast?:=by
 rcases R.yV l with rfl | ⟨r,y,rfl⟩
 ·rfl
 ·rw [JE];unfold ddS
  by_cases c:(dd r).getLast? = some y
  ·rw [if_pos c,c];simp
  ·rw [if_neg c];simp
theorem dd_mem {l:List DT} {d:DT}:d ∈ dd l ↔ d ∈ l:=by
 have:∀ (l s:List DT),d ∈ l.foldl ddS s ↔ d ∈ s \/ d ∈ l:=by
  intro l
  induction l with
  | nil=>intro s;simp
  | cons x r ih=>
   intro s;rw [List.foldl_cons,ih];have h2:d ∈ ddS s x ↔ d ∈ s \/ d = x:=by
    unfold ddS
    split
    ·rename_i h
     exact ⟨.inl,fun h3=>h3.elim id fun e=>by rw [e];exact List.mem_of_getLast? h⟩
    ·simp
   rw [h2,List.mem_cons];exact or_assoc
 simpa [dd] using this l []
theorem dd_srt {l:List DT} (h:l.Pairwise fun x y=>zY y x = false):Srt (dd l):=by
 have:∀ (n:Nat) (l:List DT),l.length = n -> (l.Pairwise fun x y=>zY y x = false) -> Srt (dd l):=by
  intro n
  induction n with
  | zero=>intro l hl _;have:=List.eq_nil_of_length_eq_zero hl;subst this;exact List.Pairwise.nil
  | succ n ih=>
   intro l hl h;rcases R.yV l with rfl | ⟨r,y,rfl⟩
   ·simp at hl
   ·rw [List.pairwise_append] at h;have hr:=ih r (by simpa using hl) h.1;rw [JE];unfold ddS
    split
    ·exact hr
    ·rename_i hne
     unfold Srt;rw [List.pairwise_append];refine ⟨hr,by simp,fun a ha b hb=>?_⟩;rw [List.mem_singleton.1 hb];have ha':=dd_mem.1 ha;have h1:=h.2.2 a ha' y (by simp)
     cases h2:zY a y with
     | true=>rfl
     | false=>
      exfalso;have e:=uga h2 h1;subst e;rw [xPa] at hne;rcases R.yV r with rfl | ⟨q,z,rfl⟩
      ·simp at ha'
      ·have hz:zY a z = false:=h.2.2 z (by simp) a (by simp);rcases List.mem_append.1 ha' with h5 | h5
       ·have h6:zY z a = false:=by
         have:=(List.pairwise_append.1 h.1).2.2 a h5 z (by simp);exact this
        have:=uga hz h6;subst this;simp at hne
       ·rw [List.mem_singleton.1 h5] at hne;simp at hne
 exact this l.length l rfl h

theorem Clone_eq (l:List DT) (h:l.length <= 1000000000000):yM l = pure l:=by
 unfold yM;refine Zr ⟨⟨false,fun h=>by cases h⟩,fun b hb=>?_⟩
 cases b with
 | true=>show ([]:List DT) = l;exact (hb rfl).symm
 | false=>
  show _ /\ ([] ++ l = l)
  exact ⟨by simp;omega,List.nil_append l⟩
theorem xQa (x y:DT):(decide (x.dev = y.dev) && decide (x.n = y.n)) = decide (x = y):=by
 cases x;cases y;simp [Bool.decide_and]
theorem XD {l:List DT} {m:Nat} {x:DT} (h:l[m]? = some x):l.take (m + 1) = l.take m ++ [x]:=by
 rw [List.take_add_one,h];rfl
theorem yAa {l:List DT} {m:Nat} {x:DT} (h:l[m]? = some x):(l.take (m + 1)).getLast? = some x:=by rw [XD h];simp
theorem UD (s:List DT) (k:Nat) (hk:k < s.length) (hl:s.length <= 1000000000000):∀ (d k2 kk:Nat) (v:List DT),k + k2 + d = s.length -> 1 <= k2 -> v.length = s.length -> kk + 1 <= k + k2 -> v.take kk = dd (s.take (k + k2)) -> v.drop (k + k2 - 1) = s.drop (k + k2 - 1) ->
  ∃ (kk':Nat) (v':List DT),loop (ze s (k:Int)) ((kk:Int),(k2:Int),v) = pure ((kk':Int),v') /\ v'.length = s.length /\ kk' <= s.length /\ v'.take kk' = dd s
 | 0,k2,kk,v,hd,h1,hv,hkk,ht,_=>by
  refine ⟨kk,v,zW ?_,hv,by omega,by rw [ht,show k + k2 = s.length by omega,List.take_length]⟩;unfold ze;have:decide ((k2:Int) < (((s.length - (k:Int).toNat:Nat)):Int)) = false:=by simp;omega
  simp only [this,cond_false]
 | d + 1,k2,kk,v,hd,h1,hv,hkk,ht,hdr=>by
  have hvg:∀ j,k + k2 - 1 <= j -> v[j]? = s[j]?:=fun j hj=>by
   have:=congrArg (fun l=>l[j - (k + k2 - 1)]?) hdr;simp only [List.getElem?_drop] at this;rw [show k + k2 - 1 + (j - (k + k2 - 1)) = j by omega] at this;exact this
  obtain ⟨x,hx⟩:∃ x,s[k + k2]? = some x:=⟨_,List.getElem?_eq_getElem (by omega)⟩
  obtain ⟨y,hy⟩:∃ y,s[k + k2 - 1]? = some y:=⟨_,List.getElem?_eq_getElem (by omega)⟩
  have hlast:(dd (s.take (k + k2))).getLast? = some y:=by
   rw [xPa];have:=yAa hy
   rwa [show k + k2 - 1 + 1 = k + k2 by omega] at this
  have hdd:dd (s.take (k + k2 + 1)) = if y = x then dd (s.take (k + k2)) else dd (s.take (k + k2)) ++ [x]:=by
   rw [XD hx,JE];unfold ddS;rw [hlast]
   by_cases c:y = x
   ·rw [if_pos c,if_pos (by rw [c])]
   ·rw [if_neg c,if_neg (by intro e;exact c (Option.some.inj e))]
  have hb:ze s (k:Int) ((kk:Int),(k2:Int),v) = pure (.next (if y = x then ((kk:Int),((k2 + 1:Nat):Int),v) else (((kk + 1:Nat):Int),((k2 + 1:Nat):Int),v.set kk x))):=by
   unfold ze;have hc:decide ((k2:Int) < (((s.length - (k:Int).toNat:Nat)):Int)) = true:=by simp;omega
   have e1:IntKind.i64.wrap ((k2:Int) - 1) = ((k2 - 1:Nat):Int):=by rw [YU (by omega) (by omega)];omega
   have i1:idx v ((((k:Int).toNat + (k2:Int).toNat:Nat)):Int) = pure x:=zI (by rw [Int.toNat_natCast,Int.toNat_natCast,hvg _ (by omega)];exact hx);have i2:idx v ((((k:Int).toNat + (((k2 - 1:Nat):Int)).toNat:Nat)):Int) = pure y:=zI (by rw [Int.toNat_natCast,Int.toNat_natCast,hvg _ (by omega),show k + (k2 - 1) = k + k2 - 1 by omega];exact hy);obtain ⟨z,hz⟩:∃ z,v[kk]? = some z:=⟨_,List.getElem?_eq_getElem (by omega)⟩
   have i3:idx v (kk:Int) = pure z:=zI hz;simp only [hc,cond_true,e1];rw [zC (by simp;omega),i1,zA,zC (by simp;omega),i2,zA];simp only [xQa]
   by_cases c:y = x
   ·have c1:decide (x = y) = true:=decide_eq_true c.symm;simp only [c1,Bool.not_true,cond_false,zA,yH (show k2 < 9223372036854775807 by omega),if_pos c]
   ·have c1:decide (x = y) = false:=decide_eq_false (fun e=>c e.symm);simp only [c1,Bool.not_false,cond_true,if_neg c];rw [zC (by simp;omega),i3];simp only [zA,yH (show k2 < 9223372036854775807 by omega),yH (show kk < 9223372036854775807 by omega),Int.toNat_natCast]
  by_cases c:y = x
  ·rw [if_pos c] at hb hdd;rw [zg hb];refine UD s k hk hl d (k2 + 1) kk v (by omega) (by omega) hv (by omega) (by rw [ht,<- hdd];rfl) ?_;have:=congrArg (List.drop 1) hdr;rw [List.drop_drop,List.drop_drop,show k + k2 - 1 + 1 = k + (k2 + 1) - 1 by omega] at this;exact this
  ·rw [if_neg c] at hb hdd;rw [zg hb];refine UD s k hk hl d (k2 + 1) (kk + 1) (v.set kk x) (by omega) (by omega) (by simpa using hv) (by omega) ?_ ?_
   ·have h5:(v.set kk x)[kk]? = some x:=by rw [List.getElem?_set];simp;omega
    rw [XD h5,List.take_set,List.set_eq_of_length_le (by rw [List.length_take];omega),ht,<- hdd];rfl
   ·rw [List.drop_set,if_pos (by omega)];have:=congrArg (List.drop 1) hdr;rw [List.drop_drop,List.drop_drop,show k + k2 - 1 + 1 = k + (k2 + 1) - 1 by omega] at this;exact this
theorem w8a (s:List DT) (hl:s.length <= 1000000000000):zn s = pure (dd s):=by
 unfold zn
 by_cases h2:s.length < 2
 ·have:decide ((s.length:Int) < 2) = true:=by simp;omega
  rw [this,cond_true]
  match s,h2 with
  | [],_=>rfl
  | [x],_=>rfl
 ·have:decide ((s.length:Int) < 2) = false:=by simp;omega
  rw [this,cond_false];have key:∀ d k,k + d = s.length -> 1 <= k -> dd (s.take k) = s.take k -> (loop (zf s) (k:Int)).bind (exk fun _=>pure s) = pure (dd s):=by
   intro d
   induction d with
   | zero=>
    intro k hk h1 hd;rw [zW (r:=.brk ()) (by
     unfold zf;have:decide ((k:Int) < (s.length:Int)) = false:=by simp;omega
     simp only [this,cond_false])]
    rw [show k = s.length by omega,List.take_length] at hd;show pure s = pure (dd s);rw [hd]
   | succ d ih=>
    intro k hk h1 hd;obtain ⟨x,hx⟩:∃ x,s[k]? = some x:=⟨_,List.getElem?_eq_getElem (by omega)⟩
    obtain ⟨y,hy⟩:∃ y,s[k - 1]? = some y:=⟨_,List.getElem?_eq_getElem (by omega)⟩
    have hlast:(dd (s.take k)).getLast? = some y:=by
     rw [xPa];have:=yAa hy
     rwa [show k - 1 + 1 = k by omega] at this
    have hc:decide ((k:Int) < (s.length:Int)) = true:=by simp;omega
    have i1:idx s (k:Int) = pure x:=zI hx;have i2:idx s (IntKind.i64.wrap ((k:Int) - 1)) = pure y:=by
     rw [YU (by omega) (by omega)];exact Wh (by omega) (by rw [show ((k:Int) - 1).toNat = k - 1 by omega];exact hy)
    by_cases c:x = y
    ·subst c;obtain ⟨kk,v,h5,h6,h7,h8⟩:=UD s k (by omega) hl d 1 k s (by omega) (by omega) rfl (by omega) (by
      rw [XD hx,JE,ddS,if_pos hlast,hd]) (by rw [show k + 1 - 1 = k by omega])
     rw [zW (r:=.ret (dd s)) (by
      unfold zf;simp only [hc,cond_true,i1,i2,zA,xQa,decide_true];rw [zC (by omega),show (1:Int) = ((1:Nat):Int) from rfl,h5,zA];simp only [];rw [zC (by omega),zC (by simp;omega),zC (by
       simp only [List.length_append,List.length_take,List.length_replicate,List.length_drop,Int.toNat_natCast];omega),zA,wb]
      congr 3
      rw [Int.toNat_natCast,List.append_assoc,List.take_append_of_le_length (by rw [List.length_take];omega),List.take_take,Nat.min_self,h8])]
     rfl
    ·have c1:decide (x = y) = false:=decide_eq_false c;rw [zg (s':=((k + 1:Nat):Int)) (by
      unfold zf;simp only [hc,cond_true,i1,i2,zA,xQa,c1,cond_false,xz,yH (show k < 9223372036854775807 by omega)])]
     refine ih (k + 1) (by omega) (by omega) ?_;rw [XD hx,JE,ddS,if_neg (by rw [hlast];intro e;exact c (Option.some.inj e).symm),hd]
  have:=key (s.length - 1) 1 (by omega) (by omega) (by
   obtain ⟨x,r,rfl⟩:∃ x r,s = x :: r:=by
    cases s with
    | nil=>simp at h2
    | cons x r=>exact ⟨x,r,rfl⟩
   rfl)
  exact this
theorem uOa {l:List DT} {Q:List DT -> Prop} (h:∀ s,s.Perm l -> (s.Pairwise fun x y=>zY y x = false) -> Q s):(srt zY l).wp Q:=by
 refine ⟨⟨l.mergeSort (fun x y=>!zY y x),List.mergeSort_perm _ _,?_⟩,fun s ⟨h1,h2⟩=>h s h1 h2⟩;refine (List.pairwise_mergeSort (fun a b c h1 h2=>?_) (fun a b=>?_) l).imp fun {x y} h=>by simpa using h
 ·simp only [Bool.not_eq_true'] at h1 h2 ⊢
  cases h3:zY c a with
  | false=>rfl
  | true=>
   rw [qI] at h3;have h4:¬ (zY b a = true):=by simp [h1]
   have h5:¬ (zY c b = true):=by simp [h2]
   rw [qI] at h4 h5;omega
 ·cases h1:zY b a with
  | false=>rfl
  | true=>rw [xMa h1];rfl
theorem xRa (l:List DT) (h:l.length <= 1000000000000):XR l = pure (wO l):=by
 unfold XR;rw [Clone_eq l h,zB,zA,zC (by omega)];refine Zr (uOa fun s hs hp=>?_);show (bind (det (zn s)) fun y8=>pure y8).wp _;rw [w8a s (by rw [hs.length_eq];exact h),zB,zA];exact xNa (dd_srt hp) (wDa l) fun d=>by rw [dd_mem,Ql];exact hs.mem_iff

theorem cmp16_eq (x y:Int):xH x y = pure (R.uPa x y):=by
 unfold xH xu R.uPa;simp only [decide_true,Bool.not_true,zB,zA,cond_false,xw]
 split
 ·rfl
 ·split <;> rfl
theorem qJ (a b:DT):vF a b = pure (V.yXa a b):=by
 unfold vF;rw [cmp16_eq,zB,zA,R.uQa,zB,zA];unfold V.yXa R.uPa
 cases a with | mk d n=>cases b with | mk e m=>
 simp only [DT.mk.injEq,zY]
 by_cases h1:d < e
 ·have:¬ d = e:=by omega
  simp [h1,this]
 ·by_cases h2:e < d
  ·have:¬ d = e:=by omega
   simp [h1,h2,this]
  ·have h3:d = e:=by omega
   subst h3
   by_cases h4:n < m
   ·have:¬ n = m:=by omega
    simp [h4,this]
   ·by_cases h5:m < n
    ·have:¬ n = m:=by omega
     simp [h4,h5,this]
    ·have:n = m:=by omega
     simp [this]


theorem Qm {σ ρ ε:Type} {body:σ -> M (Step σ ρ)} (l:List ε) (f:ε -> List Int) (row:List Int) (N:Nat) (mk:Nat -> List Int -> σ) (g:List Int -> M ρ) (hN:row.length + (l.flatMap f).length <= N)
  (h1:∀ (i:Nat) (x:ε) (out:List Int),l[i]? = some x -> i < l.length -> out.length + (f x).length <= N -> body (mk i out) = pure (.next (mk (i + 1) (out ++ f x))))
  (h2:∀ out,body (mk l.length out) = (g out).bind fun r=>pure (.done r)):loop body (mk 0 row) = g (row ++ l.flatMap f):=by
 have key:∀ (k i:Nat) (out:List Int),i + k = l.length -> out.length + ((l.drop i).flatMap f).length <= N -> loop body (mk i out) = g (out ++ (l.drop i).flatMap f):=by
  intro k
  induction k with
  | zero=>
   intro i out hi _;have:i = l.length:=by omega
   subst this;rw [jO,h2,List.drop_length];simp only [List.flatMap_nil,List.append_nil]
   rfl
  | succ k ih=>
   intro i out hi hl;have hlt:i < l.length:=by omega
   rw [List.drop_eq_getElem_cons hlt,List.flatMap_cons,List.length_append] at hl;rw [zg (h1 i l[i] out (List.getElem?_eq_getElem hlt) hlt (by omega)),ih (i + 1) _ (by omega) (by rw [List.length_append];omega),List.drop_eq_getElem_cons hlt,List.flatMap_cons,List.append_assoc]
 simpa using key l.length 0 row (by omega) (by simpa using hN)
theorem VY {ε:Type} (l:List ε) (f:ε -> List Int) (k:Nat) (h:∀ x ∈ l,(f x).length <= k):(l.flatMap f).length <= k * l.length:=by
 induction l with
 | nil=>simp
 | cons x r ih=>
  have h1:=h x (by simp);have h2:=ih fun y hy=>h y (by simp [hy])
  rw [List.flatMap_cons,List.length_append,List.length_cons,Nat.mul_add];omega

structure OkD (d:DT):Prop where
 d0:0 <= d.dev
 d1:d.dev <= 65535
 n0:0 <= d.n
 n1:d.n <= 18446744073709551615
def encD (d:DT):List Int:=N.yj d.dev ++ N.yj d.n
theorem jC {d:DT} (h:OkD d):(encD d).length <= 18:=by
 have h1:=N.zc (v:=d.dev) (by have:=h.d1;omega);have h2:=N.zc (v:=d.n) h.n1;rw [encD,List.length_append];omega
theorem yBa {d:DT} (h:OkD d) (row:List Int) (hr:row.length <= 1000000000000):xj d row = pure (row ++ encD d):=by
 have h1:=N.zc (v:=d.dev) (by have:=h.d1;omega);unfold xj;rw [WT h.d0 (by have:=h.d1;omega),N.ww row h.d0 (by have:=h.d1;omega) (by omega),zB,zA,N.ww _ h.n0 h.n1 (by rw [List.length_append];omega),zB,zA,encD,List.append_assoc]
def ZB (l:List DT):List DT:=l.filter V.yI
def uN (l:List DT):List Int:=N.yj (wO (ZB l)).length ++ (wO (ZB l)).flatMap encD
theorem uia (l : List DT) (hl : l.length <= 1000000000000) : loop (yc l) (0, []) = pure (ZB l) := by
  have := Yy (body := yc l) l (fun i t => ((i : Int), t)) (fun t d => if V.yI d = true then t ++ [d] else t) (fun t => pure t) (fun i t => t.length <= i) (fun i x t hx hi hI => by
    have hd : decide ((i : Int) < (l.length : Int)) = true := by simpa using hi
    refine ⟨?_, by split
                   · simp; omega
                   · omega⟩
    unfold yc;simp only [hd, cond_true, zI hx, zA, V.uo, zB, yH (show i < 9223372036854775807 by omega)]
    by_cases c : V.yI x = true
    · rw [c, cond_true, zC (by simp; omega), zA, if_pos rfl]
    · simp only [Bool.not_eq_true] at c;rw [c, cond_false, zA]; rfl) (fun t _ => by
    unfold yc;simp [zA]) [] (by simp)
  rw [show (0 : Int) = ((0 : Nat) : Int) from rfl, this]
  congr 1
  have key : ∀ (l t : List DT), l.foldl (fun t d => if V.yI d = true then t ++ [d] else t) t = t ++ ZB l := by
    intro l
    induction l with
    | nil => intro t; simp [ZB]
    | cons x r ih =>
      intro t;rw [List.foldl_cons, ih];unfold ZB
      by_cases c : V.yI x = true
      · rw [if_pos c, List.filter_cons_of_pos c, List.append_assoc]; rfl
      · rw [if_neg c, List.filter_cons_of_neg c]
  simpa using key l []
theorem wEa {l:List DT} {d:DT}:d ∈ wO (ZB l) ↔ d ∈ l /\ V.yI d = true:=by rw [Ql,ZB,List.mem_filter]
theorem jD (l:List DT):(wO (ZB l)).length <= l.length:=Nat.le_trans (jB _) (List.length_filter_le _ _)
theorem Qn {l:List DT} (h:∀ d ∈ l,OkD d):∀ d ∈ wO (ZB l),OkD d:=fun d hd=>h d (wEa.1 hd).1
theorem uja {l:List DT} (h:∀ d ∈ l,OkD d) (hl:l.length <= 1000000000000):(uN l).length <= 9 + 18 * l.length:=by
 have h1:=N.zc (v:=((wO (ZB l)).length:Int)) (by have:=jD l;omega);have h2:=VY (wO (ZB l)) encD 18 fun x hx=>jC (Qn h x hx)
 have h3:=jD l;rw [uN,List.length_append];omega
theorem w9a {l:List DT} (h:∀ d ∈ l,OkD d) (hl:l.length <= 1000000000) (row:List Int) (hr:row.length <= 100000000000):wi l row = pure (row ++ uN l):=by
 have h3:=jD l;have h1:=N.zc (v:=((wO (ZB l)).length:Int)) (by omega);have h2:=VY (wO (ZB l)) encD 18 fun x hx=>jC (Qn h x hx)
 unfold wi;rw [uia l (by omega),zA,xRa _ (by have:=List.length_filter_le V.yI l;unfold ZB;omega),zB,zA,WT (by omega) (by omega),N.ww row (by omega) (by omega) (by omega),zB,zA];have:=Qm (body:=xJ (wO (ZB l))) (wO (ZB l)) encD (row ++ N.yj ((wO (ZB l)).length:Int)) 1000000000000 (fun i out=>((i:Int),out)) (fun t=>pure t) (by rw [List.length_append];omega) (fun i x out hx hi ho=>by
  have hd:decide ((i:Int) < ((wO (ZB l)).length:Int)) = true:=by simpa using hi
  unfold xJ;simp only [hd,cond_true,zI hx,zA,yBa (Qn h x (List.mem_of_getElem? hx)) out (by omega),zB,yH (show i < 9223372036854775807 by omega)]) (fun out=>by
  unfold xJ;simp [zA])
 rw [show (0:Int) = ((0:Nat):Int) from rfl,this,uN,List.append_assoc]
def JT (x:RN):List Int:=N.yj x.lo ++ N.yj x.hi
def Qo (p:PT):List Int:=N.yj p.dev ++ (N.yj p.runs.length ++ p.runs.flatMap JT)
def yYa (c:List PT):List Int:=N.yj c.length ++ c.flatMap Qo
def XE (c:List PT):List Int:=yYa (C.zk c)
structure OkP (p:PT):Prop where
 d0:0 <= p.dev
 d1:p.dev <= 65535
 r:∀ x ∈ p.runs,(0 <= x.lo /\ x.lo <= 18446744073709551615) /\ 0 <= x.hi /\ x.hi <= 18446744073709551615
theorem wFa {x:RN} (h:(0 <= x.lo /\ x.lo <= 18446744073709551615) /\ 0 <= x.hi /\ x.hi <= 18446744073709551615):(JT x).length <= 18:=by
 have h1:=N.zc h.1.2;have h2:=N.zc h.2.2;rw [JT,List.length_append];omega
theorem encP_len {p:PT} (h:OkP p) (hl:p.runs.length <= 1000000000000):(Qo p).length <= 18 + 18 * p.runs.length:=by
 have h1:=N.zc (v:=p.dev) (by have:=h.d1;omega);have h2:=N.zc (v:=(p.runs.length:Int)) (by omega);have h3:=VY p.runs JT 18 fun x hx=>wFa (h.r x hx)
 rw [Qo,List.length_append,List.length_append];omega
theorem yCa (c:List PT) (h:∀ p ∈ c,OkP p) (hl:C.yN c <= 1000000000000):(c.flatMap Qo).length <= 18 * c.length + 18 * C.yN c:=by
 induction c with
 | nil=>simp
 | cons p r ih=>
  have e:C.yN (p :: r) = p.runs.length + C.yN r:=by simp [C.yN]
  have h1:=encP_len (h p (by simp)) (by omega);have h2:=ih (fun q hq=>h q (by simp [hq])) (by omega);rw [List.flatMap_cons,List.length_append,List.length_cons,e];omega
theorem Qp {c:List PT} (h:∀ p ∈ c,OkP p) (hc:c.length <= 1000000000000) (hl:C.yN c <= 1000000000000):(yYa c).length <= 9 + 18 * c.length + 18 * C.yN c:=by
 have h1:=N.zc (v:=(c.length:Int)) (by omega);have h2:=yCa c h hl;rw [yYa,List.length_append];omega
theorem VZ {c:List PT} (h:∀ p ∈ c,p.dev <= 65535):∀ p ∈ C.zk c,OkP p:=fun p hp=>by
 have h1:=(C.uU c).nf p hp;refine ⟨by omega,?_,fun x hx=>?_⟩
 ·have h2:=(C.vM.1 hp).1;obtain ⟨q,hq,e⟩:=(C.xx.1 h2).1;rw [<- e];exact h q hq
 ·have:=R.zb.1 (h1.2.2.may x hx);omega


theorem Va {c:List PT} (ho:C.Ok c) (h:∀ p ∈ c,p.dev <= 65535) (hs:c.length <= 100000000 /\ C.yN c <= 100000000) (row:List Int) (hr:row.length <= 100000000000):zw c row = pure (row ++ XE c):=by
 have hn:=C.uq c;have ht:=C.ur c;have hp:=VZ h;have hl:=Qp hp (by omega) (by omega);have h9:=N.zc (v:=((C.zk c).length:Int)) (by omega);have hf:=yCa (C.zk c) hp (by omega);unfold zw;rw [C.xGa c ho.sm,zB,zA,WT (by omega) (by omega),N.ww row (by omega) (by omega) (by omega),zB,zA];have:=Qm (body:=xX (C.zk c)) (C.zk c) Qo (row ++ N.yj ((C.zk c).length:Int)) 1000000000000 (fun i out=>((i:Int),out)) (fun t=>pure t) (by rw [List.length_append];omega) (fun i p out hx hi hout=>by
  have hd:decide ((i:Int) < ((C.zk c).length:Int)) = true:=by simpa using hi
  have hm:=List.mem_of_getElem? hx;have hpp:=hp p hm;have hrl:p.runs.length <= 1000000000:=by have:=C.qH p hm;omega
  have e1:=N.zc (v:=p.dev) (by have:=hpp.d1;omega);have e2:=N.zc (v:=(p.runs.length:Int)) (by omega);have e3:=VY p.runs JT 18 fun x hx=>wFa (hpp.r x hx)
  unfold xX;simp only [hd,cond_true,zI hx,zA];rw [WT hpp.d0 (by have:=hpp.d1;omega),N.ww out hpp.d0 (by have:=hpp.d1;omega) (by omega),zB,zA,WT (by omega) (by omega),N.ww _ (by omega) (by omega) (by rw [List.length_append];omega),zB,zA];have:=Qm (body:=xW p) p.runs JT (out ++ N.yj p.dev ++ N.yj (p.runs.length:Int)) 2000000000000 (fun i out=>((i:Int),out)) (fun t=>pure t) (by rw [List.length_append,List.length_append];omega) (fun j x out2 hx2 hj hout2=>by
   have hd2:decide ((j:Int) < (p.runs.length:Int)) = true:=by simpa using hj
   have hxr:=hpp.r x (List.mem_of_getElem? hx2);have e4:=N.zc hxr.1.2;unfold xW;simp only [hd2,cond_true,zI hx2,zA];rw [N.ww out2 hxr.1.1 hxr.1.2 (by omega),zB,zA,N.ww _ hxr.2.1 hxr.2.2 (by rw [List.length_append];omega),zB,zA,yH (show j < 9223372036854775807 by omega),JT,List.append_assoc]) (fun out=>by
   unfold xW;simp [zA])
  rw [show (0:Int) = ((0:Nat):Int) from rfl,this,zA,yH (show i < 9223372036854775807 by omega),Qo];simp only [List.append_assoc]) (fun out=>by
  unfold xX;simp [zA])
 rw [show (0:Int) = ((0:Nat):Int) from rfl,this,XE,yYa,List.append_assoc]
theorem strL_inj {a b:List Int} (ha:N.By a) (hb:N.By b) (h:Xz a = Xz b):a = b:=by
 have key:∀ (l:List Int) (r:ByteArray),(l.foldl (fun r n=>r.push (UInt8.ofNat n.toNat)) r).data.toList = r.data.toList ++ l.map fun n=>UInt8.ofNat n.toNat:=by
  intro l
  induction l with
  | nil=>intro r;simp
  | cons x t ih=>intro r;rw [List.foldl_cons,ih];simp
 have e:a.map (fun n=>UInt8.ofNat n.toNat) = b.map fun n=>UInt8.ofNat n.toNat:=by
  have h1:=key a ByteArray.empty;have h2:=key b ByteArray.empty;have h3:=congrArg (fun s:ByteArray=>s.data.toList) h;simp only [Xz] at h3;rw [h1,h2] at h3;simpa using h3
 have:∀ (a b:List Int),N.By a -> N.By b -> a.map (fun n=>UInt8.ofNat n.toNat) = b.map (fun n=>UInt8.ofNat n.toNat) -> a = b:=by
  intro a
  induction a with
  | nil=>intro b _ _ h;cases b with
   | nil=>rfl
   | cons=>simp at h
  | cons x t ih=>
   intro b ha hb h
   cases b with
   | nil=>simp at h
   | cons y u=>
    simp only [List.map_cons,List.cons.injEq] at h;have hx:=ha x (by simp);have hy:=hb y (by simp);have e:=congrArg UInt8.toNat h.1;simp only [UInt8.toNat_ofNat'] at e;rw [ih u (fun z hz=>ha z (by simp [hz])) (fun z hz=>hb z (by simp [hz])) h.2]
    congr 1;omega
 exact this a b ha hb e
theorem by_encC (c:List PT) (h:∀ p ∈ C.zk c,OkP p) (hl:(C.zk c).length <= 1000000000000 /\ C.yN (C.zk c) <= 1000000000000):N.By (XE c):=by
 have hR:∀ p,OkP p -> ∀ x ∈ p.runs,N.By (JT x):=fun p hp x hx=>(N.vv (hp.r x hx).1.2).app (N.vv (hp.r x hx).2.2)
 have flat:∀ {ε:Type} (l:List ε) (f:ε -> List Int),(∀ x ∈ l,N.By (f x)) -> N.By (l.flatMap f):=fun l f hf y hy=>by
  obtain ⟨x,hx,h⟩:=List.mem_flatMap.1 hy;exact hf x hx y h
 refine (N.vv (by omega)).app (flat _ _ fun p hp=>?_);have hpp:=h p hp;have:=C.qH p hp;exact (N.vv (by have:=hpp.d1;omega)).app ((N.vv (by omega)).app (flat _ _ (hR p hpp)))
open N (RS Ok zQ yA vj z9a OkB Sim)

def jE (c:Bool) (s:RS):RS:=if c = true then vj 4 s else s
def fin {α:Type} (z x:α) (t:RS):α × RS:=if t.2 ≠ 0 then (z,t) else (x,t)
theorem UE (e:Int) (s:RS):(vj e s).1.length <= s.1.length:=by unfold vj;split <;> simp
theorem UF {s:RS} (h:Ok s) (c:Bool):Ok (jE c s):=by unfold jE;split;exact N.XB h _;exact h
theorem UG {c:Bool} {s:RS} (h:(jE c s).2 = 0):c = false /\ s.2 = 0 /\ jE c s = s:=by
 unfold jE at h ⊢
 cases c with
 | true=>exact absurd h (N.vX (by decide))
 | false=>exact ⟨rfl,h,rfl⟩
theorem uka {s:RS}:(jE true s).2 ≠ 0:=N.vX (by decide)
theorem uV {s:RS}:jE false s = s:=rfl
theorem US {α:Type} (z x:α) (t:RS):(fin z x t).2 = t:=by unfold fin;split <;> rfl
theorem JF {α:Type} {z x:α} {t:RS} (h:t.2 = 0):fin z x t = (x,t):=if_neg (by simp [h])
theorem UH {α:Type} {z x:α} {t:RS} (h:t.2 ≠ 0):fin z x t = (z,t):=if_pos h
theorem xSa (c:Bool) (s:RS):((cond c ((det (zH 4 s.1 s.2)).bind fun y=>pure (y.1,y.2)) (pure (s.1,s.2))):M RS) = pure (jE c s):=by
 cases c with
 | true=>rw [cond_true,N.ZP,zB,zA];rfl
 | false=>rfl
theorem Qq (c:Bool) (s:RS):((cond (!c) ((det (zH 4 s.1 s.2)).bind fun y=>pure (y.1,y.2)) (pure (s.1,s.2))):M RS) = pure (jE (!c) s):=xSa (!c) s
theorem xTa {α:Type} (z x:α) (t:RS):((det (zP t.1 t.2)).bind fun y=>(cond (!decide (y.1 = 0)) (pure (z,y.2.1,y.2.2)) (pure (x,y.2.1,y.2.2)):M (α × List Int × Int))) = pure (fin z x t):=by
 rw [N.WC,zB,zA]
 by_cases h:t.2 = 0
 ·rw [JF h,decide_eq_true h];rfl
 ·rw [UH h,decide_eq_false h];rfl
theorem UT (s:RS):(zQ s).2.1.length <= s.1.length:=by
 unfold zQ
 split
 ·exact Nat.le_refl _
 ·split
  ·exact UE _ _
  ·simp
theorem yDa {s:RS} (hO:Ok s) (h0:s.2 = 0) (h:(zQ s).2.2 = 0):(zQ s).2.1.length + 1 <= s.1.length:=by
 unfold zQ at h ⊢;rw [if_neg (by simp [h0])] at h ⊢
 by_cases c:(N.rdN s.1).2.2 = 0
 ·rw [if_neg (by simp [c])];rcases N.JC s.1 hO.by_ with (h1 | h1) | ⟨n,r,h1,h2,h3,h4,_,h5⟩
  ·rw [h1] at c;simp at c
  ·rw [h1] at c;simp at c
  ·rw [h5,h1];simp
 ·rw [if_pos c] at h;exact absurd h (N.vX c)
theorem vY {s:RS} (h:(zQ s).2.2 ≠ 0):(zQ s).1 = 0:=by
 unfold zQ at h ⊢
 by_cases c:s.2 ≠ 0
 ·rw [if_pos c]
 ·rw [if_neg c] at h ⊢
  by_cases c2:(N.rdN s.1).2.2 ≠ 0
  ·rw [if_pos c2]
  ·rw [if_neg c2] at h;exact absurd rfl h
theorem num_bad {s:RS} (h:s.2 ≠ 0):(zQ s).2 = s:=by rw [N.num_of h]
theorem WD {s:RS} (h:(zQ s).2.2 = 0):s.2 = 0:=Classical.byContradiction fun c=>by rw [num_bad c] at h;exact c h
theorem Qr {m:Int} {s:RS} (h:(yA m s).2.2 = 0):(zQ s).2.2 = 0 /\ yA m s = zQ s:=by
 unfold yA at h ⊢
 by_cases c:m < (zQ s).1
 ·rw [if_pos c] at h;exact absurd h (N.vX (by decide))
 ·rw [if_neg c] at h ⊢;exact ⟨h,rfl⟩

def dotR (s:RS):DT:=⟨(yA 65535 s).1,(zQ (yA 65535 s).2).1⟩
def dotT (s:RS):RS:=jE (!V.yI (dotR s)) (zQ (yA 65535 s).2).2
def Yo (s:RS):DT × RS:=fin ⟨0,0⟩ (dotR s) (dotT s)
theorem yEa {s:RS} (h:Ok s):Ok (Yo s).2 /\ OkD (Yo s).1 /\ OkD (dotR s):=by
 obtain ⟨h1,h2,h3⟩:=N.XC h (m:=65535) (by decide);obtain ⟨h4,h5,h6⟩:=N.yq h1;have ht:Ok (dotT s):=UF h4 _;have hr:OkD (dotR s):=⟨h2,h3,h5,h6⟩
 unfold Yo
 by_cases c:(dotT s).2 = 0
 ·rw [JF c];exact ⟨ht,hr,hr⟩
 ·rw [UH c];exact ⟨ht,⟨Int.le_refl _,by simp,Int.le_refl _,by simp⟩,hr⟩
theorem wGa {s:RS} (h:(Yo s).2.2 = 0):V.yI (Yo s).1 = true /\ (yA 65535 s).2.2 = 0 /\ (zQ (yA 65535 s).2).2.2 = 0 /\ Yo s = (dotR s,(zQ (yA 65535 s).2).2):=by
 unfold Yo at h ⊢;rw [US] at h;rw [JF h];obtain ⟨h1,h2,h3⟩:=UG h;refine ⟨by simpa using h1,WD h2,h2,?_⟩;show (dotR s,dotT s) = _;rw [show dotT s = (zQ (yA 65535 s).2).2 from h3]
theorem dot_lt {s:RS} (hO:Ok s) (h0:s.2 = 0) (h:(Yo s).2.2 = 0):(Yo s).2.1.length + 1 <= s.1.length:=by
 obtain ⟨_,h1,h2,h3⟩:=wGa h;obtain ⟨h4,h5⟩:=Qr h1;rw [h3];have h6:=UT (yA 65535 s).2;rw [h5] at h6 ⊢;have h7:=yDa hO h0 h4;exact Nat.le_trans (Nat.add_le_add_right h6 1) h7
theorem Dot_eq {s:RS} (h:Ok s):vH s.1 s.2 = pure (Yo s):=by
 obtain ⟨h1,h2,h3⟩:=N.XC h (m:=65535) (by decide);unfold vH Yo;rw [N.xJa h,zB,zA,N.Yg h1,zB,zA,wU16 h2 h3,V.uo,zB,zA];have e:=Qq (V.yI (dotR s)) (zQ (yA 65535 s).2).2;unfold dotR at e;rw [e,zA];exact xTa _ _ _
variable {B:List Int} {a:Int} {s:RS}
def UU (out:List DT) (x:DT):Bool:=match out.getLast? with | some y=>decide (0 <= V.yXa y x) | none=>false
def Yb (out:List DT) (s:RS):RS:=jE (UU out (Yo s).1) (Yo s).2
def zp : Nat -> List DT -> RS -> List DT × RS
 | 0,out,s=>(out,s)
 | k + 1,out,s=>if (Yb out s).2 ≠ 0 then ([],Yb out s) else zp k (out ++ [(Yo s).1]) (Yb out s)
def wx (most:Int) (s:RS):List DT × RS:=if max most 0 < (zQ s).1 then ([],vj 3 (zQ s).2) else zp (zQ s).1.toNat [] (zQ s).2
theorem Vb {k:Nat} {out:List DT} {s:RS} (h:(Yb out s).2 ≠ 0):zp (k + 1) out s = ([],Yb out s):=if_pos h
theorem Zm {k:Nat} {out:List DT} {s:RS} (h:(Yb out s).2 = 0):zp (k + 1) out s = zp k (out ++ [(Yo s).1]) (Yb out s):=if_neg (by simp [h])
theorem jF {s:RS} (h:Ok s) (out:List DT):Ok (Yb out s):=UF (yEa h).1 _
theorem wHa : ∀ (k:Nat) (out:List DT) (s:RS),Ok s -> Ok (zp k out s).2
 | 0,_,_,h=>h
 | k + 1,out,s,h=>by
  by_cases c:(Yb out s).2 = 0
  ·rw [Zm c];exact wHa k _ _ (jF h out)
  ·rw [Vb c];exact jF h out
theorem ok_dots {s:RS} (h:Ok s) (most:Int):Ok (wx most s).2:=by
 have h1:=N.yq h;unfold wx
 split
 ·exact N.XB h1.1 _
 ·exact wHa _ _ _ h1.1
theorem last_idx {out:List DT} (h:out.length <= 1000000000000) (x:DT) (cmp:DT -> DT -> M Int) (hc:∀ y,cmp y x = pure (V.yXa y x)) :
  ((cond (decide (0 <= IntKind.i64.wrap ((out.length:Int) - 1))) ((idx out (IntKind.i64.wrap ((out.length:Int) - 1))).bind fun x61=>(det (cmp x61 x)).bind fun v63=>pure (decide (0 <= v63))) (pure false)):M Bool) = pure (UU out x):=by
 unfold UU;rcases R.yV out with rfl | ⟨r,y,rfl⟩
 ·rfl
 ·have hl:((r ++ [y]).length:Int) - 1 = (r.length:Int):=by simp
  rw [hl,YU (by omega) (by simp at h;omega)];have:decide ((0:Int) <= (r.length:Int)) = true:=by simp
  rw [this,cond_true,zI (y:=y) (by simp),zA,hc,zB,zA];simp
theorem wIa {out:List DT} {s:RS} (h:(Yb out s).2 = 0):UU out (Yo s).1 = false /\ (Yo s).2.2 = 0 /\ Yb out s = (Yo s).2:=UG h
theorem yFa {y4:Int × List Int × Int} (hn:0 <= y4.1 /\ y4.1 <= 18446744073709551615):∀ (k i:Nat) (out:List DT) (s:RS),(i:Int) + k = y4.1 -> Ok s -> s.2 = 0 -> out.length + s.1.length <= 1000000000 ->
  (loop (ym y4) ((i:Int),out,s.1,s.2)).bind (exk fun ⟨out9,v10,v11⟩=>pure (out9,v10,v11)) = pure (zp k out s)
 | 0,i,out,s,hi,_,_,_=>by
  rw [zW (r:=.brk (out,s.1,s.2)) (by
   unfold ym;have:decide ((i:Int) < y4.1) = false:=by simp;omega
   simp only [this,cond_false])]
  rfl
 | k + 1,i,out,s,hi,hO,h0,hl=>by
  have hd:=yEa hO;have hc:decide ((i:Int) < y4.1) = true:=by simp;omega
  have hlast:=last_idx (out:=out) (by omega) (Yo s).1 vF (fun y=>qJ y _);have hw:IntKind.u64.wrap ((i:Int) + 1) = ((i + 1:Nat):Int):=by rw [WT (by omega) (by omega)];omega
  have hb:ym y4 ((i:Int),out,s.1,s.2) = (det (zP (Yb out s).1 (Yb out s).2)).bind fun y70=>cond (!decide (y70.1 = 0)) (pure (.done (.ret ([],y70.2.1,y70.2.2)))) (yS ((out.length + [(Yo s).1].length) * 16 <= 140737488355328) (pure (.next (IntKind.u64.wrap ((i:Int) + 1),out ++ [(Yo s).1],y70.2.1,y70.2.2)))):=by
   unfold ym;have e:=xSa (UU out (Yo s).1) (Yo s).2;simp only [hc,cond_true,Dot_eq hO,zB,zA];rw [hlast,zA,e,zA]
   rfl
  rw [N.WC,zB,zA] at hb
  by_cases c:(Yb out s).2 = 0
  ·obtain ⟨_,c2,c3⟩:=wIa c;have hlt:=dot_lt hO h0 c2;rw [decide_eq_true c,Bool.not_true,cond_false,zC (by simp;omega),hw] at hb;rw [zg hb,Zm c];exact yFa hn k (i + 1) _ (Yb out s) (by omega) (jF hO out) c (by rw [c3];simp;omega)
  ·rw [decide_eq_false c,Bool.not_false,cond_true] at hb;rw [zW hb,Vb c]
   rfl
theorem xUa {s:RS} (hO:Ok s) {most:Int} (hm:most <= 9223372036854775807):vd most s.1 s.2 = pure (wx most s):=by
 obtain ⟨h1,h2,h3⟩:=N.yq hO;unfold vd wx;rw [N.Yg hO,zB,zA,WT (n:=max most 0) (by omega) (by omega)]
 by_cases c:max most 0 < (zQ s).1
 ·rw [decide_eq_true c,cond_true,if_pos c,N.ZP 3 (zQ s).2,zB,zA]
 ·rw [decide_eq_false c,cond_false,if_neg c]
  by_cases c2:(zQ s).2.2 = 0
  ·exact yFa (y4:=zQ s) ⟨h2,h3⟩ (zQ s).1.toNat 0 [] (zQ s).2 (by omega) h1 c2 (by simp;have:=h1.len;omega)
  ·have hz:=vY c2;rw [hz,zW (r:=.brk ([],(zQ s).2.1,(zQ s).2.2)) (by
    unfold ym;simp only [hz,show decide ((0:Int) < 0) = false from rfl,cond_false])]
   rfl
open N (RS Ok zQ yA vj z9a OkB Sim)

def vk : Nat -> List RN -> RS -> List RN × RS
 | 0,out,s=>(out,s)
 | k + 1,out,s=>
  if (zQ (zQ s).2).2.2 ≠ 0 then (out ++ [⟨(zQ s).1,(zQ (zQ s).2).1⟩],(zQ (zQ s).2).2) else vk k (out ++ [⟨(zQ s).1,(zQ (zQ s).2).1⟩]) (zQ (zQ s).2).2
def yy (s:RS):PT × RS:=(⟨(yA 65535 s).1,(vk (zQ (yA 65535 s).2).1.toNat [] (zQ (yA 65535 s).2).2).1⟩,(vk (zQ (yA 65535 s).2).1.toNat [] (zQ (yA 65535 s).2).2).2)
theorem JG {k:Nat} {out:List RN} {s:RS} (h:(zQ (zQ s).2).2.2 ≠ 0):vk (k + 1) out s = (out ++ [⟨(zQ s).1,(zQ (zQ s).2).1⟩],(zQ (zQ s).2).2):=if_pos h
theorem Xq {k:Nat} {out:List RN} {s:RS} (h:(zQ (zQ s).2).2.2 = 0):vk (k + 1) out s = vk k (out ++ [⟨(zQ s).1,(zQ (zQ s).2).1⟩]) (zQ (zQ s).2).2:=if_neg (by simp [h])
theorem two_lt {s:RS} (hO:Ok s) (h0:s.2 = 0) (h:(zQ (zQ s).2).2.2 = 0):(zQ (zQ s).2).2.1.length + 2 <= s.1.length:=by
 have h1:=WD h;have h2:=yDa hO h0 h1;have h3:=yDa (N.yq hO).1 h1 h;omega
theorem two_le (s:RS):(zQ (zQ s).2).2.1.length <= s.1.length:=Nat.le_trans (UT _) (UT _)
def ula (x:RN):Prop:=(0 <= x.lo /\ x.lo <= 18446744073709551615) /\ 0 <= x.hi /\ x.hi <= 18446744073709551615
theorem uma {s:RS} (h:Ok s):Ok (zQ (zQ s).2).2 /\ ula ⟨(zQ s).1,(zQ (zQ s).2).1⟩:=by
 obtain ⟨h1,h2,h3⟩:=N.yq h;obtain ⟨h4,h5,h6⟩:=N.yq h1;exact ⟨h4,⟨h2,h3⟩,h5,h6⟩
theorem JH : ∀ (k:Nat) (out:List RN) (s:RS),Ok s -> s.2 = 0 -> (∀ x ∈ out,ula x) -> Ok (vk k out s).2 /\ (∀ x ∈ (vk k out s).1,ula x) /\ (vk k out s).1.length + (vk k out s).2.1.length <= out.length + s.1.length + 1 /\
  ((vk k out s).2.2 = 0 -> (vk k out s).1.length + (vk k out s).2.1.length <= out.length + s.1.length /\ (vk k out s).1.length = out.length + k)
 | 0,out,s,h,_,ho=>⟨h,ho,by show out.length + s.1.length <= _;omega,fun _=>⟨Nat.le_refl _,rfl⟩⟩
 | k + 1,out,s,h,h0,ho=>by
  obtain ⟨h1,h2⟩:=uma h;have ho':∀ x ∈ out ++ [⟨(zQ s).1,(zQ (zQ s).2).1⟩],ula x:=fun x hx=>by
   rcases List.mem_append.1 hx with h | h
   ·exact ho x h
   ·rw [List.mem_singleton.1 h];exact h2
  by_cases c:(zQ (zQ s).2).2.2 = 0
  ·rw [Xq c];obtain ⟨q1,q2,q3,q4⟩:=JH k _ _ h1 c ho';have hlt:=two_lt h h0 c;simp only [List.length_append,List.length_singleton] at q3 q4;refine ⟨q1,q2,by omega,fun hz=>?_⟩;have:=q4 hz;omega
  ·rw [JG c];have:=two_le s;exact ⟨h1,ho',by simp;omega,fun hz=>absurd hz c⟩
theorem yGa {y5:Int × List Int × Int} (hn:0 <= y5.1 /\ y5.1 <= 18446744073709551615):∀ (k i:Nat) (out:List RN) (s:RS),(i:Int) + k = y5.1 -> Ok s -> s.2 = 0 -> out.length + s.1.length <= 1000000000 ->
  loop (yl y5) ((i:Int),out,s.1,s.2) = pure (vk k out s)
 | 0,i,out,s,hi,_,_,_=>by
  exact zW (by
   unfold yl;have:decide ((i:Int) < y5.1) = false:=by simp;omega
   simp only [this,cond_false]
   rfl)
 | k + 1,i,out,s,hi,hO,h0,hl=>by
  obtain ⟨h1,h2,h3⟩:=N.yq hO;have hc:decide ((i:Int) < y5.1) = true:=by simp;omega
  have hw:IntKind.u64.wrap ((i:Int) + 1) = ((i + 1:Nat):Int):=by rw [WT (by omega) (by omega)];omega
  have hb:yl y5 ((i:Int),out,s.1,s.2) = cond (!decide ((zQ (zQ s).2).2.2 = 0)) (pure (.done (out ++ [⟨(zQ s).1,(zQ (zQ s).2).1⟩],(zQ (zQ s).2).2))) (pure (.next (((i + 1:Nat):Int),out ++ [⟨(zQ s).1,(zQ (zQ s).2).1⟩],(zQ (zQ s).2).2.1,(zQ (zQ s).2).2.2))):=by
   unfold yl;simp only [hc,cond_true,N.Yg hO,N.Yg h1,zB,zA,N.WC];rw [zC (by simp;omega),hw]
  by_cases c:(zQ (zQ s).2).2.2 = 0
  ·have hlt:=two_lt hO h0 c;rw [decide_eq_true c,Bool.not_true,cond_false] at hb;rw [zg hb,Xq c];exact yGa hn k (i + 1) _ (zQ (zQ s).2).2 (by omega) (uma hO).1 c (by simp;omega)
  ·rw [decide_eq_false c,Bool.not_false,cond_true] at hb;rw [zW hb,JG c]
theorem part_eq {s:RS} (hO:Ok s):ZI s.1 s.2 = pure (yy s):=by
 obtain ⟨h1,h2,h3⟩:=N.XC hO (m:=65535) (by decide);obtain ⟨h4,h5,h6⟩:=N.yq h1;unfold ZI yy;rw [N.xJa hO,zB,zA,N.Yg h1,zB,zA,wU16 h2 h3]
 by_cases c:(zQ (yA 65535 s).2).2.2 = 0
 ·have:=yGa (y5:=zQ (yA 65535 s).2) ⟨h5,h6⟩ (zQ (yA 65535 s).2).1.toNat 0 [] (zQ (yA 65535 s).2).2 (by omega) h4 c (by simp;have:=h4.len;omega);rw [show ((0:Nat):Int) = 0 from rfl] at this;rw [this,zA]
 ·have hz:=vY c;rw [hz,zW (r:=([],(zQ (yA 65535 s).2).2)) (by
   unfold yl;simp only [hz,show decide ((0:Int) < 0) = false from rfl,cond_false]),zA]
  rfl
theorem UI {s:RS} (hO:Ok s) (h0:s.2 = 0):Ok (yy s).2 /\ OkP (yy s).1 /\ ((yy s).1.runs.length <= 1000000001) /\ ((yy s).2.2 = 0 -> (yy s).1.runs.length + (yy s).2.1.length + 2 <= s.1.length):=by
 obtain ⟨h1,h2,h3⟩:=N.XC hO (m:=65535) (by decide);obtain ⟨h4,h5,h6⟩:=N.yq h1;have hl:=h4.len;unfold yy
 by_cases c:(zQ (yA 65535 s).2).2.2 = 0
 ·obtain ⟨q1,q2,q3,q4⟩:=JH (zQ (yA 65535 s).2).1.toNat [] _ h4 c (by simp);refine ⟨q1,⟨h2,h3,q2⟩,by simp at q3 ⊢;omega,fun hz=>?_⟩;have hq:=q4 hz;obtain ⟨e1,e2⟩:=Qr (WD c);have h7:=yDa hO h0 e1;have h8:=yDa h1 (WD c) c;rw [e2] at h8 hq ⊢;simp only [List.length_nil,Nat.zero_add] at hq ⊢;omega
 ·rw [vY c];refine ⟨h4,⟨h2,h3,by intro x hx;cases hx⟩,by simp [vk],fun hz=>absurd hz c⟩
def WU : Nat -> List PT -> RS -> Bool × List PT × RS
 | 0,out,s=>(true,out,s)
 | k + 1,out,s=>if (yy s).2.2 ≠ 0 then (false,[],(yy s).2) else WU k (out ++ [(yy s).1]) (yy s).2
def vw (s:RS):List PT × RS:=
 let r:=WU (zQ s).1.toNat [] (zQ s).2
 if r.1 = true then fin [] r.2.1 (jE (!decide (r.2.1 = C.zk r.2.1)) r.2.2) else ([],r.2.2)
theorem jG {k:Nat} {out:List PT} {s:RS} (h:(yy s).2.2 ≠ 0):WU (k + 1) out s = (false,[],(yy s).2):=if_pos h
theorem XF {k:Nat} {out:List PT} {s:RS} (h:(yy s).2.2 = 0):WU (k + 1) out s = WU k (out ++ [(yy s).1]) (yy s).2:=if_neg (by simp [h])
theorem tot_snoc (c:List PT) (p:PT):C.yN (c ++ [p]) = C.yN c + p.runs.length:=by rw [C.Qa];simp [C.yN]
theorem Xr : ∀ (k:Nat) (out:List PT) (s:RS),Ok s -> s.2 = 0 -> (∀ p ∈ out,OkP p) -> out.length + C.yN out + s.1.length <= 1000000000 -> Ok (WU k out s).2.2 /\ (∀ p ∈ (WU k out s).2.1,OkP p) /\ (WU k out s).2.1.length + C.yN (WU k out s).2.1 <= 1000000000 /\
  ((WU k out s).1 = true ↔ (WU k out s).2.2.2 = 0) /\ ((WU k out s).1 = true -> (WU k out s).2.1.length = out.length + k /\ (WU k out s).2.2.1.length <= s.1.length)
 | 0,out,s,h,h0,ho,hl=>⟨h,ho,by show out.length + C.yN out <= _;omega,⟨fun _=>h0,fun _=>rfl⟩,fun _=>⟨rfl,Nat.le_refl _⟩⟩
 | k + 1,out,s,h,h0,ho,hl=>by
  obtain ⟨h1,h2,h3,h4⟩:=UI h h0
  by_cases c:(yy s).2.2 = 0
  ·rw [XF c];have:=h4 c;obtain ⟨q1,q2,q3,q4,q5⟩:=Xr k (out ++ [(yy s).1]) (yy s).2 h1 c (fun p hp=>by
    rcases List.mem_append.1 hp with h | h
    ·exact ho p h
    ·rw [List.mem_singleton.1 h];exact h2) (by rw [tot_snoc];simp;omega)
   refine ⟨q1,q2,q3,q4,fun hz=>?_⟩;have:=q5 hz;simp at this;omega
  ·rw [jG c];exact ⟨h1,by simp,by simp [C.yN],⟨fun h=>(by cases h),fun h=>absurd h c⟩,fun h=>(by cases h)⟩
theorem wJa : ∀ (k:Nat) (out:List PT) (s:RS),(WU k out s).1 = false -> (WU k out s).2.1 = []
 | 0,out,s,h=>by cases h
 | k + 1,out,s,h=>by
  by_cases c:(yy s).2.2 = 0
  ·rw [XF c] at h ⊢;exact wJa k _ _ h
  ·rw [jG c]
theorem wKa {y3:Int × List Int × Int} (hn:0 <= y3.1 /\ y3.1 <= 18446744073709551615):∀ (k i:Nat) (out:List PT) (s:RS),(i:Int) + k = y3.1 -> Ok s -> s.2 = 0 -> out.length + s.1.length <= 1000000000 ->
  loop (xB y3) ((i:Int),out,s.1,s.2) = pure (if (WU k out s).1 = true then .brk (WU k out s).2 else .ret (WU k out s).2)
 | 0,i,out,s,hi,_,_,_=>by
  exact zW (by
   unfold xB;have:decide ((i:Int) < y3.1) = false:=by simp;omega
   simp only [this,cond_false]
   rfl)
 | k + 1,i,out,s,hi,hO,h0,hl=>by
  obtain ⟨h1,h2,h3,h4⟩:=UI hO h0;have hc:decide ((i:Int) < y3.1) = true:=by simp;omega
  have hw:IntKind.u64.wrap ((i:Int) + 1) = ((i + 1:Nat):Int):=by rw [WT (by omega) (by omega)];omega
  have hb:xB y3 ((i:Int),out,s.1,s.2) = cond (!decide ((yy s).2.2 = 0)) (pure (.done (.ret ([],(yy s).2)))) (pure (.next (((i + 1:Nat):Int),out ++ [(yy s).1],(yy s).2.1,(yy s).2.2))):=by
   unfold xB;simp only [hc,cond_true,part_eq hO,zB,zA,N.WC];rw [zC (by simp;omega),hw]
  by_cases c:(yy s).2.2 = 0
  ·have hlt:=h4 c;rw [decide_eq_true c,Bool.not_true,cond_false] at hb;rw [zg hb,XF c];exact wKa hn k (i + 1) _ (yy s).2 (by omega) h1 c (by simp;omega)
  ·rw [decide_eq_false c,Bool.not_false,cond_true] at hb;rw [zW hb,jG c]
   rfl
theorem wLa {c:List PT} (h:∀ p ∈ c,OkP p) (hl:c.length + C.yN c <= 1000000000):C.Ok c:=⟨fun p hp=>(h p hp).d0,by omega,by omega⟩
theorem wMa {s:RS} (hO:Ok s):xP s.1 s.2 = pure (vw s):=by
 obtain ⟨h1,h2,h3⟩:=N.yq hO;unfold xP vw;rw [N.Yg hO,zB,zA];have good:∀ (c:List PT) (t:RS),C.Ok c -> ((det (xv c)).bind fun v37=>cond (!v37) ((det (zH 4 t.1 t.2)).bind fun y40=>pure (([]:List PT),y40.1,y40.2)) (pure (c,t.1,t.2))) = pure (if decide (c = C.zk c) = true then (c,t) else ([],vj 4 t)):=fun c t hc=>by
  rw [C.ZO c hc.sm,zB,zA]
  cases decide (c = C.zk c) with
  | true=>rfl
  | false=>rw [Bool.not_false,cond_true,N.ZP,zB,zA];rfl
 by_cases c2:(zQ s).2.2 = 0
 ·have:=wKa (y3:=zQ s) ⟨h2,h3⟩ (zQ s).1.toNat 0 [] (zQ s).2 (by omega) h1 c2 (by simp;have:=h1.len;omega);rw [show ((0:Nat):Int) = 0 from rfl] at this;rw [this,zA];obtain ⟨q1,q2,q3,q4,_⟩:=Xr (zQ s).1.toNat [] (zQ s).2 h1 c2 (by simp) (by simp [C.yN];have:=h1.len;omega);have qn:=wJa (zQ s).1.toNat [] (zQ s).2
  generalize WU (zQ s).1.toNat [] (zQ s).2 = r at *
  obtain ⟨b,c,t⟩:=r;simp only [] at *
  cases b with
  | false=>rw [qn rfl];rfl
  | true=>
   have hz:=q4.1 rfl;show ((det (xv c)).bind _) = _;rw [good c t (wLa q2 q3),if_pos rfl]
   cases hg:decide (c = C.zk c) with
   | true=>rw [if_pos rfl,Bool.not_true,uV,JF hz]
   | false=>rw [if_neg (by simp),Bool.not_false,UH uka];rfl
 ·have hz:=vY c2;rw [hz,zW (r:=.brk ([],(zQ s).2)) (by
   unfold xB;simp only [hz,show decide ((0:Int) < 0) = false from rfl,cond_false]),zA]
  show ((det (xv [])).bind _) = pure (if true = true then fin [] [] (jE (!decide (([]:List PT) = C.zk [])) (zQ s).2) else ([],(zQ s).2));rw [good [] (zQ s).2 C.ok_nil,if_pos rfl];have e:C.zk [] = []:=rfl;rw [e];simp only [decide_true,if_true,Bool.not_true,uV];rw [UH c2]
theorem yF {s:RS} (hO:Ok s):Ok (vw s).2 /\ (∀ p ∈ (vw s).1,OkP p) /\ (vw s).1.length + C.yN (vw s).1 <= 1000000000 /\ ((vw s).2.2 ≠ 0 -> (vw s).1 = []) /\ ((vw s).2.2 = 0 -> (vw s).1 = C.zk (vw s).1):=by
 obtain ⟨h1,h2,h3⟩:=N.yq hO;unfold vw
 by_cases c2:(zQ s).2.2 = 0
 ·obtain ⟨q1,q2,q3,q4,_⟩:=Xr (zQ s).1.toNat [] (zQ s).2 h1 c2 (by simp) (by simp [C.yN];have:=h1.len;omega)
  generalize WU (zQ s).1.toNat [] (zQ s).2 = r at *
  obtain ⟨b,c,t⟩:=r;simp only [] at *
  cases b with
  | false=>exact ⟨q1,by simp,by simp [C.yN],fun _=>rfl,fun _=>rfl⟩
  | true=>
   rw [if_pos rfl,US];refine ⟨UF q1 _,?_⟩
   by_cases hb:(jE (!decide (c = C.zk c)) t).2 = 0
   ·rw [JF hb];have:=(UG hb).1;exact ⟨q2,q3,fun h=>absurd hb h,fun _=>by simpa using this⟩
   ·rw [UH hb];exact ⟨by simp,by simp [C.yN],fun _=>rfl,fun h=>absurd h hb⟩
 ·rw [vY c2];show Ok (if true = true then fin [] [] (jE (!decide (([]:List PT) = C.zk [])) (zQ s).2) else ([],(zQ s).2)).2 /\ _;have e:C.zk [] = []:=rfl;simp only [WU,Int.toNat_zero,e,decide_true,Bool.not_true,uV,if_true,UH c2];exact ⟨h1,by simp,by simp [C.yN],fun _=>trivial,fun _=>trivial⟩

variable {B:List Int} {a:Int} {s:RS}
open N (RS Ok zQ yA vj z9a OkB Sim)

def XG : List DT -> Bool
 | []=>true
 | x :: r=>(match r with | []=>true | y :: _=>zY x y) && XG r
theorem Qs : ∀ {l:List DT},XG l = true ↔ Srt l
 | []=>⟨fun _=>List.Pairwise.nil,fun _=>rfl⟩
 | [x]=>⟨fun _=>by simp [Srt],fun _=>rfl⟩
 | x :: y :: r=>by
  show (zY x y && XG (y :: r)) = true ↔ _;rw [Bool.and_eq_true,Qs (l:=y :: r)];unfold Srt;rw [List.pairwise_cons (a:=x)]
  constructor
  ·rintro ⟨h1,h2⟩;refine ⟨fun z hz=>?_,h2⟩;rcases List.mem_cons.1 hz with rfl | hz
   ·exact h1
   ·exact VX h1 ((List.pairwise_cons.1 h2).1 z hz)
  ·rintro ⟨h1,h2⟩;exact ⟨h1 y (by simp),h2⟩
theorem qK (x y:DT):decide (0 <= V.yXa x y) = !zY x y:=by
 by_cases h:zY x y = true
 ·have:=V.Uw.2 h;rw [h];simp;omega
 ·have h2:¬ V.yXa x y < 0:=fun e=>h (V.Uw.1 e)
  simp only [Bool.not_eq_true] at h;rw [h];simp;omega
theorem vAa (l:List DT) (hl:l.length <= 1000000000000):Xk l = pure (XG l):=by
 unfold Xk;have key:∀ (k i:Nat) (x:DT) (r:List DT),i + k = l.length -> l.drop i = r -> i ≠ 0 -> l[i - 1]? = some x -> loop (xa l) (i:Int) = pure (if XG (x :: r) = true then .brk () else .ret false):=by
  intro k
  induction k with
  | zero=>
   intro i x r hi hr h1 hx;have:r = []:=by rw [<- hr];exact List.drop_eq_nil_of_le (by omega)
   subst this;exact zW (by
    unfold xa;have:decide ((i:Int) < (l.length:Int)) = false:=by simp;omega
    simp only [this,cond_false];rfl)
  | succ k ih=>
   intro i x r hi hr h1 hx;have hlt:i < l.length:=by omega
   have hr2:r = l[i] :: l.drop (i + 1):=by rw [<- hr];exact List.drop_eq_getElem_cons hlt
   have hy:=List.getElem?_eq_getElem hlt;have hi1:idx l (IntKind.i64.wrap ((i:Int) - 1)) = pure x:=by
    rw [YU (by omega) (by omega)];exact Wh (by omega) (by rw [show ((i:Int) - 1).toNat = i - 1 by omega];exact hx)
   have hb:xa l (i:Int) = cond (!zY x l[i]) (pure (.done (.ret false))) (pure (.next ((i + 1:Nat):Int))):=by
    unfold xa;have:decide ((i:Int) < (l.length:Int)) = true:=by simp;omega
    simp only [this,cond_true,hi1,zI hy,zA,V.Zh,zB,qK,yH (show i < 9223372036854775807 by omega)]
   rw [hr2];show _ = (pure (if (zY x l[i] && XG (l[i] :: l.drop (i + 1))) = true then Ex.brk () else Ex.ret false):M (Ex Unit Bool))
   cases c:zY x l[i] with
   | true=>
    rw [c] at hb;rw [zg hb,Bool.true_and];exact ih (i + 1) l[i] _ (by omega) rfl (by omega) hy
   | false=>
    rw [c] at hb;rw [zW hb];rfl
 cases l with
 | nil=>
  rw [zW (r:=.brk ()) (by unfold xa;rfl)];rfl
 | cons x r=>
  have:=key r.length 1 x r (by simp;omega) rfl (by decide) rfl;rw [show ((1:Nat):Int) = 1 from rfl] at this;rw [this,zA]
  cases XG (x :: r) <;> rfl

theorem vt {v:Int} (h0:0 <= v) (h:v <= 18446744073709551615) (r:List Int):zQ (N.yj v ++ r,0) = (v,(r,0)):=by
 have e:=N.rdN_enc h0 h r;unfold zQ;simp only [e,ne_eq,not_true_eq_false,if_false,List.drop_left]
theorem Qt {v m:Int} (h0:0 <= v) (h:v <= m) (hm:m <= 18446744073709551615) (r:List Int):yA m (N.yj v ++ r,0) = (v,(r,0)):=by
 unfold yA;rw [vt h0 (by omega) r];exact if_neg (by simp;omega)
theorem una {d:DT} (h:OkD d) (hg:V.yI d = true) (r:List Int):Yo (encD d ++ r,0) = (d,(r,0)):=by
 have e1:=Qt h.d0 h.d1 (by decide) (N.yj d.n ++ r);have e2:=vt h.n0 h.n1 r;have e:encD d ++ r = N.yj d.dev ++ (N.yj d.n ++ r):=by rw [encD,List.append_assoc]
 have hR:dotR (encD d ++ r,0) = d:=by unfold dotR;rw [e,e1];simp only [e2]
 unfold Yo dotT;rw [hR,hg,e,e1];simp only [e2,Bool.not_true,uV]
 rfl
theorem vBa {out:List DT} {x:DT} (h:∀ y ∈ out,zY y x = true):UU out x = false:=by
 unfold UU
 cases hl:out.getLast? with
 | none=>rfl
 | some y=>
  have:=h y (List.mem_of_getLast? hl);simp only [qK,this,Bool.not_true]
theorem yHa : ∀ (l out:List DT) (r:List Int),Srt (out ++ l) -> (∀ d ∈ l,OkD d /\ V.yI d = true) -> zp l.length out (l.flatMap encD ++ r,0) = (out ++ l,(r,0))
 | [],out,r,_,_=>by simp [zp]
 | x :: t,out,r,hs,h=>by
  have hx:=h x (by simp);have e:Yo ((x :: t).flatMap encD ++ r,0) = (x,(t.flatMap encD ++ r,0)):=by
   rw [List.flatMap_cons,List.append_assoc];exact una hx.1 hx.2 _
  have hT:Yb out ((x :: t).flatMap encD ++ r,0) = (t.flatMap encD ++ r,0):=by
   unfold Yb;rw [e];simp only [];rw [vBa fun y hy=>(List.pairwise_append.1 hs).2.2 y hy x (by simp)]
   rfl
  rw [List.length_cons,Zm (by rw [hT]),hT,e];simp only [];rw [yHa t (out ++ [x]) r (by rw [List.append_assoc];exact hs) (fun d hd=>h d (by simp [hd])),List.append_assoc]
  rfl
theorem JI {l:List DT} (hs:Srt l) (h:∀ d ∈ l,V.yI d = true):wO (ZB l) = l:=by
 have e:ZB l = l:=List.filter_eq_self.2 h;rw [e];exact uha hs
theorem dots_enc {l:List DT} (hs:Srt l) (h:∀ d ∈ l,OkD d /\ V.yI d = true) {most:Int} (hm:(l.length:Int) <= most) (hl:l.length <= 1000000000000) (r:List Int):wx most (uN l ++ r,0) = (l,(r,0)):=by
 have e1:=JI hs fun d hd=>(h d hd).2
 have e2:uN l ++ r = N.yj (l.length:Int) ++ (l.flatMap encD ++ r):=by rw [uN,e1,List.append_assoc]
 unfold wx;rw [e2,vt (by omega) (by omega)];simp only [];rw [if_neg (by omega),Int.toNat_natCast,yHa l [] r (by simpa using hs) h]
 rfl
theorem yIa : ∀ (l out:List RN) (r:List Int),(∀ x ∈ l,ula x) -> vk l.length out (l.flatMap JT ++ r,0) = (out ++ l,(r,0))
 | [],out,r,_=>by simp [vk]
 | x :: t,out,r,h=>by
  have hx:=h x (by simp);have e1:zQ ((x :: t).flatMap JT ++ r,0) = (x.lo,(N.yj x.hi ++ (t.flatMap JT ++ r),0)):=by
   rw [List.flatMap_cons,JT,List.append_assoc,List.append_assoc];exact vt hx.1.1 hx.1.2 _
  have e2:zQ (N.yj x.hi ++ (t.flatMap JT ++ r),0) = (x.hi,(t.flatMap JT ++ r,0)):=vt hx.2.1 hx.2.2 _;rw [List.length_cons,Xq (by rw [e1];simp only [e2]),e1];simp only [e2];rw [yIa t _ r fun y hy=>h y (by simp [hy]),List.append_assoc]
  rfl
theorem part_enc {p:PT} (h:OkP p) (hl:p.runs.length <= 1000000000000) (r:List Int):yy (Qo p ++ r,0) = (p,(r,0)):=by
 have e:Qo p ++ r = N.yj p.dev ++ (N.yj (p.runs.length:Int) ++ (p.runs.flatMap JT ++ r)):=by rw [Qo,List.append_assoc,List.append_assoc]
 have e1:=Qt h.d0 h.d1 (by decide) (N.yj (p.runs.length:Int) ++ (p.runs.flatMap JT ++ r));have e2:=vt (v:=(p.runs.length:Int)) (by omega) (by omega) (p.runs.flatMap JT ++ r);unfold yy;rw [e,e1];simp only [e2,Int.toNat_natCast];rw [yIa p.runs [] r h.r]
 rfl
theorem wNa : ∀ (c out:List PT) (r:List Int),(∀ p ∈ c,OkP p /\ p.runs.length <= 1000000000000) -> WU c.length out (c.flatMap Qo ++ r,0) = (true,out ++ c,(r,0))
 | [],out,r,_=>by simp [WU]
 | p :: t,out,r,h=>by
  have hp:=h p (by simp);have e:yy ((p :: t).flatMap Qo ++ r,0) = (p,(t.flatMap Qo ++ r,0)):=by
   rw [List.flatMap_cons,List.append_assoc];exact part_enc hp.1 hp.2 _
  rw [List.length_cons,XF (by rw [e]),e];simp only [];rw [wNa t _ r fun q hq=>h q (by simp [hq]),List.append_assoc]
  rfl
theorem ctx_encN {c:List PT} (hc:c = C.zk c) (h:∀ p ∈ c,OkP p) (hl:c.length <= 1000000000000 /\ C.yN c <= 1000000000000) (r:List Int):vw (yYa c ++ r,0) = (c,(r,0)):=by
 have e:yYa c ++ r = N.yj (c.length:Int) ++ (c.flatMap Qo ++ r):=by rw [yYa,List.append_assoc]
 have e1:=vt (v:=(c.length:Int)) (by omega) (by omega) (c.flatMap Qo ++ r);have e2:=wNa c [] r fun p hp=>⟨h p hp,by have:=C.qH p hp;omega⟩
 unfold vw;rw [e,e1];simp only [Int.toNat_natCast];simp only [e2,List.nil_append,if_true];have hdc:decide (c = C.zk c) = true:=decide_eq_true hc;rw [hdc]
 rfl
theorem uoa (c:List PT):C.zk c = C.zk (C.zk c):=(C.UA (C.uU c)).symm
theorem Qu {c:List PT} (h:∀ p ∈ c,p.dev <= 65535) (hl:c.length <= 100000000 /\ C.yN c <= 100000000) (r:List Int):vw (XE c ++ r,0) = (C.zk c,(r,0)):=
 ctx_encN (uoa c) (VZ h) ⟨by have:=C.uq c;omega,by have:=C.ur c;omega⟩ r
open N (RS Ok zQ yA vj z9a OkB Sim)

theorem ZQ {s:RS} (hO:Ok s) (h:(zQ s).2.2 = 0):s.1 = N.yj (zQ s).1 ++ (zQ s).2.1:=by
 have h0:=WD h;unfold zQ at h ⊢;rw [if_neg (by simp [h0])] at h ⊢
 by_cases c:(N.rdN s.1).2.2 = 0
 ·rw [if_neg (by simp [c])];exact N.rdN_one hO.by_ c
 ·rw [if_pos c] at h;exact absurd h (N.vX c)
theorem wOa {s:RS} (hO:Ok s) {m:Int} (h:(yA m s).2.2 = 0):s.1 = N.yj (yA m s).1 ++ (yA m s).2.1:=by
 obtain ⟨h1,h2⟩:=Qr h;rw [h2];exact ZQ hO h1
theorem upa {s:RS} (hO:Ok s) (h:(Yo s).2.2 = 0):s.1 = encD (Yo s).1 ++ (Yo s).2.1:=by
 obtain ⟨_,h1,h2,h3⟩:=wGa h;have e1:=wOa hO h1;have e2:=ZQ (N.XC hO (m:=65535) (by decide)).1 h2;rw [h3];show s.1 = (N.yj (yA 65535 s).1 ++ N.yj (zQ (yA 65535 s).2).1) ++ _;rw [List.append_assoc,<- e2];exact e1
theorem yJa : ∀ (k:Nat) (out:List DT) (s:RS),Ok s -> s.2 = 0 -> Srt out -> (∀ d ∈ out,V.yI d = true) -> (zp k out s).2.2 = 0 -> ∃ l,(zp k out s).1 = out ++ l /\ l.length = k /\ s.1 = l.flatMap encD ++ (zp k out s).2.1 /\ Srt (out ++ l) /\ (∀ d ∈ out ++ l,V.yI d = true) /\ ∀ d ∈ l,OkD d
 | 0,out,s,_,_,hs,hg,_=>⟨[],by simp [zp],rfl,by simp [zp],by simpa using hs,by simpa using hg,by simp⟩
 | k + 1,out,s,hO,h0,hs,hg,h=>by
  by_cases c:(Yb out s).2 = 0
  ·obtain ⟨c1,c2,c3⟩:=wIa c;rw [Zm c] at h ⊢;have hgd:=(wGa c2).1;have hs2:Srt (out ++ [(Yo s).1]):=by
    unfold Srt;rw [List.pairwise_append];refine ⟨hs,by simp,fun a ha b hb=>?_⟩;rw [List.mem_singleton.1 hb];rcases R.yV out with rfl | ⟨q,y,rfl⟩
    ·simp at ha
    ·have hy:zY y (Yo s).1 = true:=by
      unfold UU at c1;simp only [List.getLast?_append,List.getLast?_singleton,Option.some_or,qK] at c1;simpa using c1
     rcases List.mem_append.1 ha with h5 | h5
     ·exact VX ((List.pairwise_append.1 hs).2.2 a h5 y (by simp)) hy
     ·rw [List.mem_singleton.1 h5];exact hy
   obtain ⟨l,e1,e2,e3,e4,e5,e6⟩:=yJa k _ _ (jF hO out) c hs2 (fun d hd=>by
    rcases List.mem_append.1 hd with h5 | h5
    ·exact hg d h5
    ·rw [List.mem_singleton.1 h5];exact hgd) h
   refine ⟨(Yo s).1 :: l,by rw [e1];simp,by simp [e2],?_,by simpa using e4,by simpa using e5,fun d hd=>?_⟩
   ·rw [List.flatMap_cons,List.append_assoc,<- e3,c3];exact upa hO c2
   ·rcases List.mem_cons.1 hd with rfl | h5
    ·exact (yEa hO).2.1
    ·exact e6 d h5
  ·rw [Vb c] at h;exact absurd h c
theorem wPa {s:RS} (hO:Ok s) {most:Int} (h:(wx most s).2.2 = 0):s.1 = uN (wx most s).1 ++ (wx most s).2.1 /\ Srt (wx most s).1 /\ (∀ d ∈ (wx most s).1,V.yI d = true /\ OkD d) /\ ((wx most s).1.length:Int) <= max most 0:=by
 obtain ⟨h1,h2,h3⟩:=N.yq hO;unfold wx at h ⊢
 by_cases c:max most 0 < (zQ s).1
 ·rw [if_pos c] at h;exact absurd h (N.vX (by decide))
 ·rw [if_neg c] at h ⊢;have c2:(zQ s).2.2 = 0:=Classical.byContradiction fun c2=>by
   rw [vY c2] at h;exact c2 h
  obtain ⟨l,e1,e2,e3,e4,e5,e6⟩:=yJa _ [] _ h1 c2 List.Pairwise.nil (by simp) h;rw [List.nil_append] at e1 e4 e5;rw [e1];refine ⟨?_,e4,fun d hd=>⟨e5 d hd,e6 d hd⟩,by omega⟩;rw [uN,JI e4 e5,List.append_assoc,<- e3,e2,Int.toNat_of_nonneg h2];exact ZQ hO c2
theorem dots_bad {s:RS} {most:Int} (h:(wx most s).2.2 ≠ 0):(wx most s).1 = []:=by
 have hL:∀ (k:Nat) (out:List DT) (s:RS),s.2 = 0 \/ out = [] -> (zp k out s).2.2 ≠ 0 -> (zp k out s).1 = []:=by
  intro k
  induction k with
  | zero=>
   intro out s h1 h2;rcases h1 with h1 | h1
   ·exact absurd h1 h2
   ·exact h1
  | succ k ih=>
   intro out s _ h2
   by_cases c:(Yb out s).2 = 0
   ·rw [Zm c] at h2 ⊢;exact ih _ _ (.inl c) h2
   ·rw [Vb c]
 unfold wx at h ⊢
 split at h
 ·rename_i c;rw [if_pos c]
 ·rename_i c;rw [if_neg c];exact hL _ _ _ (.inr rfl) h
theorem yKa : ∀ (k:Nat) (out:List RN) (s:RS),Ok s -> (vk k out s).2.2 = 0 -> ∃ l,(vk k out s).1 = out ++ l /\ l.length = k /\ s.1 = l.flatMap JT ++ (vk k out s).2.1
 | 0,out,s,_,_=>⟨[],by simp [vk],rfl,by simp [vk]⟩
 | k + 1,out,s,hO,h=>by
  by_cases c:(zQ (zQ s).2).2.2 = 0
  ·rw [Xq c] at h ⊢;obtain ⟨l,e1,e2,e3⟩:=yKa k _ _ (uma hO).1 h;refine ⟨⟨(zQ s).1,(zQ (zQ s).2).1⟩ :: l,by rw [e1];simp,by simp [e2],?_⟩;rw [List.flatMap_cons,List.append_assoc,<- e3,JT,List.append_assoc,<- ZQ (N.yq hO).1 c];exact ZQ hO (WD c)
  ·rw [JG c] at h;exact absurd h c
theorem part_inv {s:RS} (hO:Ok s) (h:(yy s).2.2 = 0):s.1 = Qo (yy s).1 ++ (yy s).2.1:=by
 obtain ⟨h1,h2,h3⟩:=N.XC hO (m:=65535) (by decide);obtain ⟨h4,h5,h6⟩:=N.yq h1;unfold yy at h ⊢;have c:(zQ (yA 65535 s).2).2.2 = 0:=Classical.byContradiction fun c=>by rw [vY c] at h;exact c h
 obtain ⟨l,e1,e2,e3⟩:=yKa _ [] _ h4 h;rw [List.nil_append] at e1;show s.1 = (N.yj (yA 65535 s).1 ++ (N.yj ((vk (zQ (yA 65535 s).2).1.toNat [] (zQ (yA 65535 s).2).2).1.length:Int) ++ (vk (zQ (yA 65535 s).2).1.toNat [] (zQ (yA 65535 s).2).2).1.flatMap JT)) ++ (vk (zQ (yA 65535 s).2).1.toNat [] (zQ (yA 65535 s).2).2).2.1;rw [e1,List.append_assoc,List.append_assoc,<- e3,e2,Int.toNat_of_nonneg h5,<- ZQ h1 c];exact wOa hO (WD c)
theorem wQa : ∀ (k:Nat) (out:List PT) (s:RS),Ok s -> s.2 = 0 -> (WU k out s).1 = true -> ∃ l,(WU k out s).2.1 = out ++ l /\ l.length = k /\ s.1 = l.flatMap Qo ++ (WU k out s).2.2.1
 | 0,out,s,_,_,_=>⟨[],by simp [WU],rfl,by simp [WU]⟩
 | k + 1,out,s,hO,h0,h=>by
  by_cases c:(yy s).2.2 = 0
  ·rw [XF c] at h ⊢;obtain ⟨l,e1,e2,e3⟩:=wQa k _ _ (UI hO h0).1 c h;refine ⟨(yy s).1 :: l,by rw [e1];simp,by simp [e2],?_⟩;rw [List.flatMap_cons,List.append_assoc,<- e3];exact part_inv hO c
  ·rw [jG c] at h;cases h
theorem ctx_inv {s:RS} (hO:Ok s) (h:(vw s).2.2 = 0):s.1 = XE (vw s).1 ++ (vw s).2.1:=by
 have hn:=(yF hO).2.2.2.2 h;obtain ⟨h1,h2,h3⟩:=N.yq hO;rw [XE,<- hn];unfold vw at h ⊢;have c:(zQ s).2.2 = 0:=Classical.byContradiction fun c=>by
  have hz:=vY c;have e:C.zk [] = []:=rfl;simp only [hz,WU,Int.toNat_zero,e,decide_true,Bool.not_true,uV,if_true,US] at h;exact c h
 have hi:=wQa (zQ s).1.toNat [] (zQ s).2 h1 c;obtain ⟨q1,q2,q3,q4,_⟩:=Xr (zQ s).1.toNat [] (zQ s).2 h1 c (by simp) (by simp [C.yN];have:=h1.len;omega)
 generalize WU (zQ s).1.toNat [] (zQ s).2 = r at *
 obtain ⟨b,x,t⟩:=r;simp only [] at *
 cases b with
 | false=>
  have hz:t.2 = 0:=h;have:=q4.2 hz;cases this
 | true=>
  rw [if_pos rfl] at h ⊢;rw [US] at h;rw [JF h,(UG h).2.2];obtain ⟨l,e1,e2,e3⟩:=hi rfl;rw [List.nil_append] at e1;subst e1;show s.1 = (N.yj (x.length:Int) ++ x.flatMap Qo) ++ t.1;rw [List.append_assoc,<- e3,e2,Int.toNat_of_nonneg h2];exact ZQ hO c
end Go.Ep.M.D

namespace Go.Ep.M.E
open Go

theorem vA (s:ByteArray):(zt s).length = s.size:=by simp [zt]
theorem by_bytes (s:ByteArray):N.By (zt s):=fun x hx=>by
 simp only [zt,List.mem_map] at hx;obtain ⟨b,_,rfl⟩:=hx;have:=b.toNat_lt;omega
theorem JJ (l:List Int):(Xz l).data.toList = l.map fun n=>UInt8.ofNat n.toNat:=by
 have key:∀ (l:List Int) (r:ByteArray),(l.foldl (fun r n=>r.push (UInt8.ofNat n.toNat)) r).data.toList = r.data.toList ++ l.map fun n=>UInt8.ofNat n.toNat:=by
  intro l
  induction l with
  | nil=>intro r;simp
  | cons x t ih=>intro r;rw [List.foldl_cons,ih];simp
 have:=key l ByteArray.empty;simpa [Xz] using this
theorem vCa (s:ByteArray):Xz (zt s) = s:=by
 have h:=JJ (zt s);have e:(zt s).map (fun n=>UInt8.ofNat n.toNat) = s.data.toList:=by
  simp only [zt,List.map_map];apply List.ext_getElem?;intro i;rw [List.getElem?_map]
  cases s.data.toList[i]? with
  | none=>rfl
  | some b=>simp
 rw [e] at h;have h2:(Xz (zt s)).data = s.data:=Array.toList_inj.1 h
 cases hs:Xz (zt s)
 cases s
 rw [hs] at h2;simp only at h2;rw [h2]
theorem vDa {l:List Int} (h:N.By l):zt (Xz l) = l:=by
 rw [zt,JJ,List.map_map];apply List.ext_getElem?;intro i;rw [List.getElem?_map]
 cases hx:l[i]? with
 | none=>rfl
 | some x=>
  have:=h x (List.mem_of_getElem? hx);simp only [Option.map_some,Function.comp_apply,UInt8.toNat_ofNat']
  congr 1;omega
theorem JK (l:List Int):(Xz l).size = l.length:=by
 have:=congrArg List.length (JJ l);simpa using this

def cidD (v:Int):DT:=⟨v / 281474976710656,v % 281474976710656⟩
theorem band48 {v:Int} (h0:0 <= v) (h:v <= 18446744073709551615):yWa .u64 v 281474976710655 = v % 281474976710656:=by
 obtain ⟨n,rfl⟩:=Int.eq_ofNat_of_zero_le h0;unfold yWa;have bv:∀ q:Nat,q < 18446744073709551616 -> (BitVec.ofInt IntKind.u64.bits (q:Int)).toNat = q:=fun q hq=>by
  show (BitVec.ofInt 64 (q:Int)).toNat = q;rw [BitVec.toNat_ofInt];omega
 have e:(281474976710655:Int) = ((281474976710655:Nat):Int):=rfl;rw [e,BitVec.toNat_and,bv n (by omega),bv _ (by decide)];have h2:n &&& 281474976710655 = n % 281474976710656:=Nat.and_two_pow_sub_one_eq_mod n 48;rw [h2,WT (by omega) (by omega)];omega
theorem Split_eq {v:Int} (h0:0 <= v) (h:v <= 18446744073709551615):Zt v = pure ((cidD v).dev,(cidD v).n):=by
 unfold Zt cidD;have e:(2 ^ 48:Int) = 281474976710656:=rfl;rw [band48 h0 h,Int.fdiv_eq_ediv_of_nonneg _ (by decide),e,wU16 (by omega) (by omega)]
theorem uqa {v:Int} (h0:0 <= v) (h:v <= 18446744073709551615):Wz v = pure ((cidD v).dev,(cidD v).n):=by
 unfold Wz cidD;rw [Int.tdiv_eq_ediv_of_nonneg h0,Int.tmod_eq_emod_of_nonneg h0,WT (by omega) (by omega),wU16 (by omega) (by omega)]
def xE (v:Int):Bool:=V.yI (cidD v)
theorem ura {v:Int} (h0:0 <= v) (h:v <= 18446744073709551615):XM v = pure (if xE v = true then cidD v else ⟨0,0⟩,xE v):=by
 unfold XM;rw [Split_eq h0 h,zB,zA,V.uo,zB,zA];show cond (!xE v) _ _ = _
 cases xE v <;> rfl
theorem vEa {v:Int} (h0:0 <= v) (h:v <= 18446744073709551615):Xj v = pure (if xE v = true then cidD v else ⟨0,0⟩,xE v):=by
 unfold Xj;rw [uqa h0 h,zB,zA,V.YV,zB,zA];show cond (!xE v) _ _ = _
 cases xE v <;> rfl

def xVa (f:Int):Bool:=decide (1 <= f) && decide (f <= 5)
theorem Field_eq (f:Int):XN f = pure (xVa f):=by unfold XN xVa;rw [zS];rfl
theorem usa (f:Int):Um f = pure (xVa f):=by unfold Um xVa;rw [zS];rfl
def okB (x:Int):Bool:=decide (32 <= x) && decide (x <= 126)
def yLa (s:ByteArray):Bool:=decide (s.size <= 60) && (zt s).all okB
theorem ZR {α:Type} (l:List α) (p:α -> Bool):(l.zipIdx.all fun y=>p y.1) = l.all p:=by
 rw [Bool.eq_iff_iff,List.all_eq_true,List.all_eq_true]
 constructor
 ·intro h x hx;obtain ⟨i,hi⟩:=List.getElem?_of_mem hx;exact h (x,i) (by rw [List.mk_mem_zipIdx_iff_getElem?];exact hi)
 ·intro h y hy;exact h y.1 (List.fst_mem_of_mem_zipIdx hy)
theorem okB_eq (x:Int) (f:M Bool) (hf:f = pure (decide (126 < x))):(cond (decide (x < 32)) (pure true) f:M Bool) = pure (!okB x):=by
 rw [hf];unfold okB
 by_cases h1:x < 32
 ·have:¬ 32 <= x:=by omega
  simp [h1,this]
 ·have:32 <= x:=by omega
  by_cases h2:126 < x
  ·have:¬ x <= 126:=by omega
   simp [h1,h2,this]
  ·have:x <= 126:=by omega
   simp [h1,h2, *]
theorem uta (s:ByteArray) (hs:s.size <= 1000000000000):loop (we s) 0 = pure (if (zt s).all okB = true then Ex.brk () else Ex.ret false):=by
 have:=yo (body:=we s) (zt s) (fun i=>(i:Int)) (fun _ x=>okB x) (Ex.brk ()) (Ex.ret false) (fun i x hx hi=>by
  have hd:decide ((i:Int) < (s.size:Int)) = true:=by rw [<- vA];simpa using hi
  have hi2:i < s.size:=by rw [<- vA];exact hi
  unfold we;simp only [hd,cond_true,zI hx,zA,okB_eq x _ rfl,yH (show i < 9223372036854775807 by omega)]
  cases okB x <;> rfl) (by
  unfold we;simp [vA])
 rw [show (0:Int) = ((0:Nat):Int) from rfl,this,ZR]
theorem vFa (s:ByteArray) (hs:s.size <= 1000000000000):loop (ue s) 0 = pure (if (zt s).all okB = true then Ex.brk () else Ex.ret false):=by
 have:=yo (body:=ue s) (zt s) (fun i=>(i:Int)) (fun _ x=>okB x) (Ex.brk ()) (Ex.ret false) (fun i x hx hi=>by
  have hd:decide ((i:Int) < (s.size:Int)) = true:=by rw [<- vA];simpa using hi
  have hi2:i < s.size:=by rw [<- vA];exact hi
  unfold ue;simp only [hd,cond_true,zI hx,zA,okB_eq x _ rfl,yH (show i < 9223372036854775807 by omega)]
  cases okB x <;> rfl) (by
  unfold ue;simp [vA])
 rw [show (0:Int) = ((0:Nat):Int) from rfl,this,ZR]
theorem xLa (s:ByteArray) (hs:s.size <= 1000000000000):XO s = pure (yLa s):=by
 unfold XO yLa;rw [uta s hs]
 by_cases h:s.size <= 60
 ·have:decide ((60:Int) < (s.size:Int)) = false:=by simp;omega
  rw [this,cond_false,zA,decide_eq_true h,Bool.true_and]
  cases (zt s).all okB <;> rfl
 ·have:decide ((60:Int) < (s.size:Int)) = true:=by simp;omega
  rw [this,cond_true,decide_eq_false h,Bool.false_and]
theorem rText_eq (s:ByteArray) (hs:s.size <= 1000000000000):Un s = pure (yLa s):=by
 unfold Un yLa;rw [vFa s hs,zA]
 cases (zt s).all okB with
 | false=>rw [Bool.and_false];rfl
 | true=>
  rw [if_pos rfl,xz,Bool.and_true]
  congr 1
  by_cases h:s.size <= 60
  ·rw [decide_eq_true h];simp;omega
  ·rw [decide_eq_false h];simp;omega

structure OkE (e:EV):Prop where
 dot:D.OkD e.dot
 kind:0 <= e.kind /\ e.kind <= 255
 cid:0 <= e.cid /\ e.cid <= 18446744073709551615
 field:0 <= e.field /\ e.field <= 255
 text:e.text.size <= 1000000000
 kills:∀ d ∈ e.kills,D.OkD d
 klen:e.kills.length <= 1000000000
def wRa (s:ByteArray):Bool:=decide (s = ⟨#[]⟩)
def uua (e:EV):Bool:=(decide (e.kind = 1) && (xVa e.field && yLa e.text)) || (decide (e.kind = 2) && (decide (e.field = 0) && wRa e.text))
def yMa (e:EV):Bool:=decide (e.kills.length <= 256) && (D.XG e.kills && e.kills.all fun d=>V.yI d && !decide (d = e.dot))
def zr (e:EV):Bool:=(xE e.cid && V.yI e.dot) && (uua e && yMa e)
theorem uva (l:List DT) (hl:l.length <= 1000000000000):XP l = pure (D.XG l):=by
 unfold XP;have key:∀ (k i:Nat) (x:DT) (r:List DT),i + k = l.length -> l.drop i = r -> i ≠ 0 -> l[i - 1]? = some x -> loop (yb l) (i:Int) = pure (if D.XG (x :: r) = true then Ex.brk () else Ex.ret false):=by
  intro k
  induction k with
  | zero=>
   intro i x r hi hr h1 hx;have:r = []:=by rw [<- hr];exact List.drop_eq_nil_of_le (by omega)
   subst this;exact zW (by
    unfold yb;have:decide ((i:Int) < (l.length:Int)) = false:=by simp;omega
    simp only [this,cond_false];rfl)
  | succ k ih=>
   intro i x r hi hr h1 hx;have hlt:i < l.length:=by omega
   have hr2:r = l[i] :: l.drop (i + 1):=by rw [<- hr];exact List.drop_eq_getElem_cons hlt
   have hy:=List.getElem?_eq_getElem hlt;have hi1:idx l (IntKind.i64.wrap ((i:Int) - 1)) = pure x:=by
    rw [YU (by omega) (by omega)];exact Wh (by omega) (by rw [show ((i:Int) - 1).toNat = i - 1 by omega];exact hx)
   have hb:yb l (i:Int) = cond (!zY x l[i]) (pure (.done (.ret false))) (pure (.next ((i + 1:Nat):Int))):=by
    unfold yb;have h2:decide ((i:Int) < (l.length:Int)) = true:=by simp;omega
    have h3:decide ((0:Int) < (i:Int)) = true:=by simp;omega
    simp only [h2,h3,cond_true,hi1,zI hy,zA,D.qJ,zB,D.qK,yH (show i < 9223372036854775807 by omega)]
   rw [hr2];show _ = (pure (if (zY x l[i] && D.XG (l[i] :: l.drop (i + 1))) = true then Ex.brk () else Ex.ret false):M (Ex Unit Bool))
   cases c:zY x l[i] with
   | true=>
    rw [c] at hb;rw [zg hb,Bool.true_and];exact ih (i + 1) l[i] _ (by omega) rfl (by omega) hy
   | false=>
    rw [c] at hb;rw [zW hb];rfl
 cases l with
 | nil=>
  rw [zW (r:=Ex.brk ()) (by unfold yb;rfl)];rfl
 | cons x r=>
  have h0:yb (x :: r) 0 = pure (.next 1):=by
   unfold yb;have h2:decide ((0:Int) < ((x :: r).length:Int)) = true:=decide_eq_true (by rw [List.length_cons];omega);simp only [h2,cond_true,show decide ((0:Int) < 0) = false from rfl,cond_false,zA];rw [YU (by omega) (by omega)]
   rfl
  have:=key r.length 1 x r (by simp;omega) rfl (by decide) rfl;rw [show ((1:Nat):Int) = 1 from rfl] at this;rw [zg h0,this,zA]
  cases D.XG (x :: r) <;> rfl
theorem vGa (e:EV) (hl:e.kills.length <= 1000000000000):loop (wg e) 0 = pure (if (e.kills.all fun d=>V.yI d && !decide (d = e.dot)) = true then Ex.brk () else Ex.ret false):=by
 have:=yo (body:=wg e) e.kills (fun i=>(i:Int)) (fun _ d=>V.yI d && !decide (d = e.dot)) (Ex.brk ()) (Ex.ret false) (fun i x hx hi=>by
  have hd:decide ((i:Int) < (e.kills.length:Int)) = true:=by simpa using hi
  unfold wg;simp only [hd,cond_true,zI hx,zA,V.uo,zB,D.xQa,yH (show i < 9223372036854775807 by omega)]
  cases V.yI x <;> cases decide (x = e.dot) <;> rfl) (by
  unfold wg;simp)
 rw [show (0:Int) = ((0:Nat):Int) from rfl,this,ZR e.kills fun d=>V.yI d && !decide (d = e.dot)]
theorem ZO {e:EV} (h:OkE e):uQ e = pure (zr e):=by
 have hk:=h.klen;have ht:=h.text;unfold uQ zr;rw [ura h.cid.1 h.cid.2,zB,zA,V.uo,zB,zA,vGa e (by omega),uva e.kills (by omega),Field_eq,xLa e.text (by omega)];simp only []
 cases xE e.cid with
 | false=>rfl
 | true=>
  cases V.yI e.dot with
  | false=>rfl
  | true=>
   have hl:decide ((256:Int) < (e.kills.length:Int)) = !decide (e.kills.length <= 256):=by
    by_cases c:e.kills.length <= 256
    ·rw [decide_eq_true c];simp;omega
    ·rw [decide_eq_false c];simp;omega
   have tail:(cond (decide ((256:Int) < (e.kills.length:Int))) (pure true) ((det (pure (D.XG e.kills))).bind fun v23=>pure (!v23))).bind (fun v21=>cond v21 (pure false) ((pure (if (e.kills.all fun d=>V.yI d && !decide (d = e.dot)) = true then Ex.brk () else Ex.ret false)).bind (exk fun _=>pure true))) = pure (yMa e):=by
    unfold yMa;rw [hl,zB,zA]
    cases decide (e.kills.length <= 256) with
    | false=>rfl
    | true=>
     cases D.XG e.kills with
     | false=>rfl
     | true=>cases e.kills.all fun d=>V.yI d && !decide (d = e.dot) <;> rfl
   simp only [Bool.not_true,cond_false,zA,zB,Bool.true_and] at tail ⊢;unfold uua wRa
   by_cases k1:e.kind = 1
   ·have k2:decide (e.kind = 2) = false:=by rw [k1];rfl
    rw [decide_eq_true k1,cond_true,k2,Bool.true_and,Bool.false_and,Bool.or_false]
    cases xVa e.field with
    | false=>rfl
    | true=>
     cases yLa e.text with
     | false=>rfl
     | true=>exact tail
   ·rw [decide_eq_false k1,cond_false,Bool.false_and,Bool.false_or]
    by_cases k2:e.kind = 2
    ·rw [decide_eq_true k2,cond_true,Bool.true_and]
     cases decide (e.field = 0) with
     | false=>rfl
     | true=>
      cases decide (e.text = (⟨#[]⟩:ByteArray)) with
      | false=>rfl
      | true=>exact tail
    ·rw [decide_eq_false k2];rfl
theorem UB (l:List DT) (d:DT) (hl:l.length <= 1000000000000):ja l d = pure (l.any fun x=>decide (x = d)):=by
 unfold ja;have:=yo (body:=Xl l d) l (fun i=>(i:Int)) (fun _ x=>!decide (x = d)) (Ex.brk ()) (Ex.ret true) (fun i x hx hi=>by
  have hd:decide ((i:Int) < (l.length:Int)) = true:=by simpa using hi
  unfold Xl;simp only [hd,cond_true,zI hx,zA,D.xQa,yH (show i < 9223372036854775807 by omega)]
  cases decide (x = d) <;> rfl) (by
  unfold Xl;simp)
 rw [show (0:Int) = ((0:Nat):Int) from rfl,this,zA,ZR l fun x=>!decide (x = d)];have e:(l.any fun x=>decide (x = d)) = !(l.all fun x=>!decide (x = d)):=by simp [List.all_eq_not_any_not]
 rw [e]
 cases l.all fun x=>!decide (x = d) <;> rfl
theorem vHa (e:EV) (hl:e.kills.length <= 1000000000000):loop (uf e) 0 = pure (if e.kills.all V.yI = true then Ex.brk () else Ex.ret false):=by
 have:=yo (body:=uf e) e.kills (fun i=>(i:Int)) (fun _ d=>V.yI d) (Ex.brk ()) (Ex.ret false) (fun i x hx hi=>by
  have hd:decide ((i:Int) < (e.kills.length:Int)) = true:=by simpa using hi
  unfold uf;simp only [hd,cond_true,zI hx,zA,V.YV,zB,yH (show i < 9223372036854775807 by omega)]
  cases V.yI x <;> rfl) (by
  unfold uf;simp)
 rw [show (0:Int) = ((0:Nat):Int) from rfl,this,ZR e.kills V.yI]
theorem wv {e:EV} (h:OkE e):VA e = pure (zr e):=by
 have hk:=h.klen;have ht:=h.text;unfold VA zr;rw [vEa h.cid.1 h.cid.2,zB,zA,V.YV,zB,zA,vHa e (by omega),D.vAa e.kills (by omega),usa,rText_eq e.text (by omega),UB e.kills e.dot (by omega)];simp only []
 cases xE e.cid with
 | false=>rfl
 | true=>
  cases V.yI e.dot with
  | false=>rfl
  | true=>
   have hl:decide ((e.kills.length:Int) <= 256) = decide (e.kills.length <= 256):=by
    by_cases c:e.kills.length <= 256
    ·rw [decide_eq_true c];simp;omega
    ·rw [decide_eq_false c];simp;omega
   have hall:(e.kills.all fun d=>V.yI d && !decide (d = e.dot)) = (e.kills.all V.yI && !(e.kills.any fun x=>decide (x = e.dot))):=by
    rw [Bool.eq_iff_iff,Bool.and_eq_true,List.all_eq_true,List.all_eq_true,Bool.not_eq_true',List.any_eq_false]
    constructor
    ·intro h;exact ⟨fun x hx=>by have:=h x hx;rw [Bool.and_eq_true] at this;exact this.1,fun x hx=>by have:=h x hx;rw [Bool.and_eq_true] at this;simpa using this.2⟩
    ·rintro ⟨h1,h2⟩ x hx;rw [Bool.and_eq_true];exact ⟨h1 x hx,by simpa using h2 x hx⟩
   have tail:((pure (if e.kills.all V.yI = true then Ex.brk () else Ex.ret false):M (Ex Unit Bool)).bind (exk fun _=>(cond (decide ((e.kills.length:Int) <= 256)) ((det (pure (D.XG e.kills))).bind fun v46=>cond v46 ((det (pure (e.kills.any fun x=>decide (x = e.dot)))).bind fun v49=>pure (!v49)) (pure false)) (pure false)).bind fun v44=>pure v44)) = pure (yMa e):=by
    unfold yMa;rw [hl,hall];simp only [zB,zA]
    cases e.kills.all V.yI with
    | false=>cases decide (e.kills.length <= 256) <;> cases D.XG e.kills <;> rfl
    | true=>cases decide (e.kills.length <= 256) <;> cases D.XG e.kills <;> cases e.kills.any fun x=>decide (x = e.dot) <;> rfl
   simp only [Bool.not_true,cond_false,zA,zB,Bool.true_and] at tail ⊢;unfold uua wRa
   by_cases k1:e.kind = 1
   ·have k2:decide (e.kind = 2) = false:=by rw [k1];rfl
    rw [decide_eq_true k1,k2];simp only [Bool.not_true,cond_false,cond_true,zA,Bool.true_and,Bool.false_and,Bool.or_false]
    cases xVa e.field with
    | false=>rfl
    | true=>
     cases yLa e.text with
     | false=>rfl
     | true=>exact tail
   ·rw [decide_eq_false k1];simp only [Bool.not_false,cond_true,zA,Bool.false_and,Bool.false_or]
    by_cases k2:e.kind = 2
    ·rw [decide_eq_true k2];simp only [Bool.not_true,cond_false,cond_true,Bool.true_and]
     cases decide (e.field = 0) with
     | false=>rfl
     | true=>
      cases decide (e.text = (⟨#[]⟩:ByteArray)) with
      | false=>rfl
      | true=>exact tail
    ·rw [decide_eq_false k2];rfl


def fewE (l:List EV) (most:Nat):Bool:=decide (l.length <= most) && l.all fun e=>decide (e.kills.length <= 300) && decide (e.text.size <= 200)
theorem UC (l:List EV) (most:Nat) (hm:most <= 1000000):jZ l (most:Int) = pure (fewE l most):=by
 unfold jZ fewE
 by_cases h:l.length <= most
 ·have hd:decide ((most:Int) < (l.length:Int)) = false:=by simp;omega
  have:=yo (body:=Xi l) l (fun i=>(i:Int)) (fun _ e=>decide (e.kills.length <= 300) && decide (e.text.size <= 200)) (Ex.brk ()) (Ex.ret false) (fun i x hx hi=>by
   have hd:decide ((i:Int) < (l.length:Int)) = true:=by simpa using hi
   unfold Xi;simp only [hd,cond_true,zI hx,zA,yH (show i < 9223372036854775807 by omega)]
   by_cases c:x.kills.length <= 300
   ·have h1:decide ((300:Int) < (x.kills.length:Int)) = false:=by simp;omega
    rw [h1,cond_false,decide_eq_true c,Bool.true_and,zA]
    by_cases c2:x.text.size <= 200
    ·have h2:decide ((200:Int) < (x.text.size:Int)) = false:=by simp;omega
     rw [h2,decide_eq_true c2];rfl
    ·have h2:decide ((200:Int) < (x.text.size:Int)) = true:=by simp;omega
     rw [h2,decide_eq_false c2];rfl
   ·have h1:decide ((300:Int) < (x.kills.length:Int)) = true:=by simp;omega
    rw [h1,cond_true,decide_eq_false c,Bool.false_and];rfl) (by
   unfold Xi;simp)
  rw [hd,cond_false,decide_eq_true h,Bool.true_and,show (0:Int) = ((0:Nat):Int) from rfl,this,zA,ZR l fun e=>decide (e.kills.length <= 300) && decide (e.text.size <= 200)]
  cases l.all fun e=>decide (e.kills.length <= 300) && decide (e.text.size <= 200) <;> rfl
 ·have hd:decide ((most:Int) < (l.length:Int)) = true:=by simp;omega
  rw [hd,cond_true,decide_eq_false h,Bool.false_and]
theorem uwa {l:List EV} {most:Nat} (h:fewE l most = true):l.length <= most /\ ∀ e ∈ l,e.kills.length <= 300 /\ e.text.size <= 200:=by
 unfold fewE at h;rw [Bool.and_eq_true,List.all_eq_true] at h;exact ⟨by simpa using h.1,fun e he=>by simpa using h.2 e he⟩
theorem uM (a b:EV) (h:a.kills.length <= 1000000000000):Uk a b = pure (decide (a = b)):=by
 unfold Uk;rw [D.xQa,V.y9a a.kills b.kills h,zB,zA];have e:decide (a = b) = (decide (a.dot = b.dot) && (decide (a.kind = b.kind) && (decide (a.cid = b.cid) && (decide (a.field = b.field) && (decide (a.text = b.text) && decide (a.kills = b.kills)))))):=by
  cases a;cases b;simp only [EV.mk.injEq,Bool.decide_and]
 rw [e]
 cases decide (a.dot = b.dot) <;> cases decide (a.kind = b.kind) <;> cases decide (a.cid = b.cid) <;> cases decide (a.field = b.field) <;> cases decide (a.text = b.text) <;> rfl
theorem rAll_eq (a b:List EV) (ha:a.length <= 1000000000000) (hk:∀ e ∈ a,e.kills.length <= 1000000000000):qj a b = pure (decide (a = b)):=by
 unfold qj
 by_cases hlen:a.length = b.length
 ·have h1:decide ((a.length:Int) = (b.length:Int)) = true:=by simp [hlen]
  rw [h1,Bool.not_true,cond_false];have:=yo (body:=Xg a b) a (fun i=>(i:Int)) (fun i x=>decide (b[i]? = some x)) (Ex.brk ()) (Ex.ret false) (fun i x hx hi=>by
   have hd:decide ((i:Int) < (a.length:Int)) = true:=by simpa using hi
   obtain ⟨y,hy⟩:∃ y,b[i]? = some y:=⟨_,List.getElem?_eq_getElem (by omega)⟩
   unfold Xg;simp only [hd,cond_true,zI hx,zI hy,zA,uM x y (hk x (List.mem_of_getElem? hx)),zB,yH (show i < 9223372036854775807 by omega),hy]
   by_cases c:x = y
   ·subst c;simp
   ·have:¬ some y = some x:=fun e=>c (Option.some.inj e).symm
    simp [c,this]) (by
   unfold Xg;simp)
  rw [show (0:Int) = ((0:Nat):Int) from rfl,this,zA];have e:(a.zipIdx.all fun y=>decide (b[y.2]? = some y.1)) = decide (a = b):=by
   rw [Bool.eq_iff_iff,List.all_eq_true,decide_eq_true_eq]
   constructor
   ·intro h;apply List.ext_getElem?;intro i
    by_cases hi:i < a.length
    ·have:=h (a[i],i) (by rw [List.mk_mem_zipIdx_iff_getElem?];exact List.getElem?_eq_getElem hi);simp only [decide_eq_true_eq] at this;rw [this,List.getElem?_eq_getElem hi]
    ·rw [List.getElem?_eq_none (by omega),List.getElem?_eq_none (by omega)]
   ·intro h y hy;subst h;rw [List.mem_zipIdx_iff_getElem?] at hy;simpa using hy
  rw [e]
  cases decide (a = b) <;> rfl
 ·have h1:decide ((a.length:Int) = (b.length:Int)) = false:=by simp;omega
  have h2:decide (a = b) = false:=decide_eq_false fun e=>hlen (by rw [e])
  rw [h1,Bool.not_false,cond_true,h2]

def Qv (s:ByteArray):List Int:=N.yj s.size ++ zt s
def Xw (e:EV):List Int:=D.encD e.dot ++ ([e.kind] ++ (N.yj e.cid ++ ([e.field] ++ (Qv e.text ++ D.uN e.kills))))
theorem wSa {s:ByteArray} (h:s.size <= 1000000000):(Qv s).length <= 9 + s.size:=by
 have:=N.zc (v:=(s.size:Int)) (by omega);rw [Qv,List.length_append,vA];omega
theorem encE_len {e:EV} (h:OkE e):(Xw e).length <= 47 + e.text.size + 18 * e.kills.length:=by
 have h1:=D.jC h.dot;have h2:=N.zc h.cid.2;have h3:=wSa h.text;have h4:=D.uja h.kills (by have:=h.klen;omega);simp only [Xw,List.length_append,List.length_singleton];omega
theorem vIa {s:ByteArray} (h:s.size <= 1000000000) (row:List Int) (hr:row.length <= 1000000000000):xI s row = pure (row ++ Qv s):=by
 have:=N.zc (v:=(s.size:Int)) (by omega);unfold xI;rw [WT (by omega) (by omega),N.ww row (by omega) (by omega) (by omega),zB,zA,zC (by omega),N.ufa _ _ (by rw [List.length_append,vA];omega),zB,zA,Qv,List.append_assoc]
theorem Put_eq {e:EV} (h:OkE e) (row:List Int) (hr:row.length <= 10000000000):Zv e row = pure (row ++ Xw e):=by
 have h1:=D.jC h.dot;have h2:=N.zc h.cid.2;have h3:=wSa h.text;have ht:=h.text;have hk:=h.klen;unfold Zv;rw [D.yBa h.dot row (by omega),zB,zA,N.Qj _ _ (by rw [List.length_append];omega),zB,zA,N.ww _ h.cid.1 h.cid.2 (by simp only [List.length_append,List.length_singleton];omega),zB,zA,
  N.Qj _ _ (by simp only [List.length_append,List.length_singleton];omega),zB,zA,vIa h.text _ (by simp only [List.length_append,List.length_singleton];omega),zB,zA,
  D.w9a h.kills (by omega) _ (by simp only [List.length_append,List.length_singleton];omega),zB,zA]
 simp only [Xw,List.append_assoc]
def vB (l:List EV):List Int:=N.yj l.length ++ l.flatMap Xw
theorem yNa {l:List EV} (h:∀ e ∈ l,OkE e) (hl:l.length <= 1000000000) (row:List Int) (hr:row.length + (l.flatMap Xw).length <= 1000000000):xA l row = pure (row ++ vB l):=by
 have h9:=N.zc (v:=(l.length:Int)) (by omega);unfold xA;rw [WT (by omega) (by omega),N.ww row (by omega) (by omega) (by omega),zB,zA];have:=D.Qm (body:=xY l) l Xw (row ++ N.yj (l.length:Int)) 2000000000 (fun i out=>((i:Int),out)) (fun t=>pure t) (by rw [List.length_append];omega) (fun i x out hx hi ho=>by
  have hd:decide ((i:Int) < (l.length:Int)) = true:=by simpa using hi
  unfold xY;simp only [hd,cond_true,zI hx,zA,Put_eq (h x (List.mem_of_getElem? hx)) out (by omega),zB,yH (show i < 9223372036854775807 by omega)]) (fun out=>by
  unfold xY;simp [zA])
 rw [show (0:Int) = ((0:Nat):Int) from rfl,this,vB,List.append_assoc]
theorem XH {l:List EV} (h:∀ e ∈ l,OkE e) (hf:∀ e ∈ l,e.kills.length <= 300 /\ e.text.size <= 200):(l.flatMap Xw).length <= 6000 * l.length:=
 D.VY l Xw 6000 fun e he=>by have:=encE_len (h e he);have:=hf e he;omega
open N (RS Ok zQ yA xd Zl vj z9a OkB Sim)
open D (jE fin)

def s1 (s:RS):RS:=(D.Yo s).2
def s2 (s:RS):RS:=(xd (s1 s)).2
def s3 (s:RS):RS:=(zQ (s2 s)).2
def s4 (s:RS):RS:=(xd (s3 s)).2
def s5 (s:RS):RS:=(Zl 60 (s4 s)).2
def s6 (s:RS):RS:=(D.wx 256 (s5 s)).2
def getE (s:RS):EV:=⟨(D.Yo s).1,(xd (s1 s)).1,(zQ (s2 s)).1,(xd (s3 s)).1,(Zl 60 (s4 s)).1,(D.wx 256 (s5 s)).1⟩
def noE : EV:=⟨⟨0,0⟩,0,0,0,⟨#[]⟩,[]⟩
def getT (s:RS):RS:=jE (!zr (getE s)) (s6 s)
def yt (s:RS):EV × RS:=fin noE (getE s) (getT s)
theorem uxa {s:RS} (h:Ok s) (m:Int):(Zl m s).1.size <= 1000000000:=by
 have h1:=(N.yq h).1.len;unfold Zl
 split
 ·exact (by decide:(0:Nat) <= 1000000000)
 ·split
  ·exact (by decide:(0:Nat) <= 1000000000)
  ·split
   ·exact (by decide:(0:Nat) <= 1000000000)
   ·rw [JK,List.length_take];omega
theorem dots_okD {s:RS} (h:Ok s) (most:Int):(∀ d ∈ (D.wx most s).1,D.OkD d) /\ (D.wx most s).1.length <= 1000000000:=by
 by_cases c:(D.wx most s).2.2 = 0
 ·obtain ⟨e1,e2,e3,e4⟩:=D.wPa h c;have hl:=congrArg List.length e1;have hs:=h.len;have h9:(D.wO (D.ZB (D.wx most s).1)) = (D.wx most s).1:=D.JI e2 fun d hd=>(e3 d hd).1
  have h8:∀ l:List DT,l.length <= (l.flatMap D.encD).length:=by
   intro l
   induction l with
   | nil=>simp
   | cons x t ih=>
    have:1 <= (D.encD x).length:=by rw [D.encD,List.length_append,N.yj,N.yYa,List.length_cons];omega
    rw [List.flatMap_cons,List.length_append,List.length_cons];omega
  have h7:=h8 (D.wx most s).1;refine ⟨fun d hd=>(e3 d hd).2,?_⟩;rw [List.length_append,D.uN,h9,List.length_append] at hl;omega
 ·rw [D.dots_bad c];simp
theorem uya {s:RS} (h:Ok s):Ok (s1 s) /\ Ok (s2 s) /\ Ok (s3 s) /\ Ok (s4 s) /\ Ok (s5 s) /\ Ok (s6 s) /\ OkE (getE s):=by
 have o1:Ok (s1 s):=(D.yEa h).1;have o2:=N.JD o1;have o3:=N.yq (s:=s2 s) o2.1;have o4:=N.JD (s:=s3 s) o3.1;have o5:=N.ok_text (s:=s4 s) o4.1 60;have o6:=D.ok_dots (s:=s5 s) o5 256;obtain ⟨k1,k2⟩:=dots_okD (s:=s5 s) o5 256;exact ⟨o1,o2.1,o3.1,o4.1,o5,o6,(D.yEa h).2.1,o2.2,o3.2,o4.2,uxa (s:=s4 s) o4.1 60,k1,k2⟩
theorem Get_eq {s:RS} (h:Ok s):Zw s.1 s.2 = pure (yt s):=by
 obtain ⟨o1,o2,o3,o4,o5,o6,oe⟩:=uya h;unfold Zw yt;have e1:vH s.1 s.2 = pure ((D.Yo s).1,s1 s):=D.Dot_eq h;have e2:zd (s1 s).1 (s1 s).2 = pure ((xd (s1 s)).1,s2 s):=N.Uz o1;have e3:zL (s2 s).1 (s2 s).2 = pure ((zQ (s2 s)).1,s3 s):=N.Yg o2;have e4:zd (s3 s).1 (s3 s).2 = pure ((xd (s3 s)).1,s4 s):=N.Uz o3;have e5:ye 60 (s4 s).1 (s4 s).2 = pure ((Zl 60 (s4 s)).1,s5 s):=N.xLa o4 (by decide);have e6:vd 256 (s5 s).1 (s5 s).2 = pure ((D.wx 256 (s5 s)).1,s6 s):=D.xUa o5 (by decide);rw [e1,zB,zA];simp only [];rw [e2,zB,zA];simp only [];rw [e3,zB,zA];simp only [];rw [e4,zB,zA];simp only [];rw [e5,zB,zA];simp only [];rw [e6,zB,zA];simp only [];have eg:=ZO oe;unfold getE at eg;rw [eg,zB,zA];have ep:=D.Qq (zr (getE s)) (s6 s);unfold getE at ep;rw [ep,zA];exact D.xTa _ _ _
variable {B:List Int} {a:Int} {s:RS}
theorem uza {s:RS} (h:(xd s).2.2 = 0):s.2 = 0 /\ s.1 = (xd s).1 :: (xd s).2.1:=by
 unfold xd at h ⊢
 by_cases c:s.2 ≠ 0
 ·rw [if_pos c] at h;exact absurd h c
 ·rw [if_neg c] at h ⊢
  cases hs:s.1 with
  | nil=>rw [hs] at h;exact absurd h (N.vX (by decide))
  | cons x r=>exact ⟨Classical.byContradiction c,rfl⟩
theorem text_ok {m:Int} {s:RS} (hO:Ok s) (h:(Zl m s).2.2 = 0):(zQ s).2.2 = 0 /\ s.1 = Qv (Zl m s).1 ++ (Zl m s).2.1 /\ ((Zl m s).1.size:Int) <= max m 0:=by
 obtain ⟨k1,k2,k3⟩:=N.yq hO;unfold Zl at h ⊢
 by_cases c:(zQ s).2.2 ≠ 0
 ·rw [if_pos c] at h;exact absurd h c
 ·rw [if_neg c] at h ⊢
  by_cases c2:max m 0 < (zQ s).1
  ·rw [if_pos c2] at h;exact absurd h (N.vX (by decide))
  ·rw [if_neg c2] at h ⊢
   by_cases c3:((zQ s).2.1.length:Int) < (zQ s).1
   ·rw [if_pos c3] at h;exact absurd h (N.vX (by decide))
   ·rw [if_neg c3];have hz:(zQ s).2.2 = 0:=Classical.byContradiction c;refine ⟨hz,?_,?_⟩
    ·show s.1 = (N.yj ((Xz _).size:Int) ++ zt (Xz _)) ++ _;rw [JK,vDa (k1.by_.take _),List.length_take,show ((min (zQ s).1.toNat (zQ s).2.1.length:Nat):Int) = (zQ s).1 by omega,List.append_assoc,List.take_append_drop];exact D.ZQ hO hz
    ·show ((Xz _).size:Int) <= _;rw [JK,List.length_take];omega
theorem u0a {s:RS} (hO:Ok s) (h:(yt s).2.2 = 0):s.2 = 0 /\ zr (yt s).1 = true /\ OkE (yt s).1 /\ s.1 = Xw (yt s).1 ++ (yt s).2.1:=by
 obtain ⟨o1,o2,o3,o4,o5,o6,oe⟩:=uya hO;unfold yt at h ⊢;rw [D.US] at h;rw [D.JF h];obtain ⟨g1,g2,g3⟩:=D.UG (c:=!zr (getE s)) (s:=s6 s) h;have i6:=D.wPa o5 g2;have z5:(s5 s).2 = 0:=Classical.byContradiction fun c=>by
  have:(D.wx 256 (s5 s)).2.2 ≠ 0:=by
   have hn:=N.num_of c;unfold D.wx;rw [hn];rw [if_neg (by show ¬ max 256 0 < (0:Int);omega)];exact c
  exact this g2
 obtain ⟨z5',i5,_⟩:=text_ok (m:=60) o4 z5;have z4:=D.WD z5';obtain ⟨z3,i4⟩:=uza (s:=s3 s) z4;have i3:=D.ZQ o2 z3;have z2:=D.WD z3;obtain ⟨z1,i2⟩:=uza (s:=s1 s) z2;have i1:=D.upa hO z1;have z0:s.2 = 0:=D.WD (D.Qr (D.wGa z1).2.1).1;refine ⟨z0,by simpa using g1,oe,?_⟩;show s.1 = Xw (getE s) ++ (getT s).1;rw [show getT s = s6 s from g3];show s.1 = (D.encD (D.Yo s).1 ++ ([(xd (s1 s)).1] ++ (N.yj (zQ (s2 s)).1 ++ ([(xd (s3 s)).1] ++ (Qv (Zl 60 (s4 s)).1 ++ D.uN (D.wx 256 (s5 s)).1))))) ++ (s6 s).1;simp only [List.append_assoc];have j6:(s5 s).1 = D.uN (D.wx 256 (s5 s)).1 ++ (s6 s).1:=i6.1;have j5:(s4 s).1 = Qv (Zl 60 (s4 s)).1 ++ (s5 s).1:=i5;have j4:(s3 s).1 = [(xd (s3 s)).1] ++ (s4 s).1:=i4;have j3:(s2 s).1 = N.yj (zQ (s2 s)).1 ++ (s3 s).1:=i3;have j2:(s1 s).1 = [(xd (s1 s)).1] ++ (s2 s).1:=i2;have j1:s.1 = D.encD (D.Yo s).1 ++ (s1 s).1:=i1;rw [<- j6,<- j5,<- j4,<- j3,<- j2];exact j1
theorem Jv {s:RS} (hO:Ok s) (h:(yt s).2.2 = 0):(yt s).2.1.length + 1 <= s.1.length:=by
 have:=(u0a hO h).2.2.2;have hl:=congrArg List.length this;have:1 <= (Xw (yt s).1).length:=by simp only [Xw,List.length_append,List.length_singleton];omega
 rw [List.length_append] at hl;omega

theorem Yc (x:Int) (r:List Int):xd (x :: r,0) = (x,(r,0)):=rfl
theorem text_enc {t:ByteArray} {m:Int} (h:(t.size:Int) <= m) (hs:t.size <= 1000000000000) (r:List Int):Zl m (Qv t ++ r,0) = (t,(r,0)):=by
 have e:Qv t ++ r = N.yj (t.size:Int) ++ (zt t ++ r):=by rw [Qv,List.append_assoc]
 have e1:=D.vt (v:=(t.size:Int)) (by omega) (by omega) (zt t ++ r);unfold Zl;rw [e,e1];have hl:=vA t;simp only [ne_eq,not_true_eq_false,if_false,Int.toNat_natCast];rw [if_neg (by omega),if_neg (by rw [List.length_append];omega),List.take_append_of_le_length (by omega),List.drop_append_of_le_length (by omega),List.take_of_length_le (by omega),List.drop_eq_nil_of_le (by omega),vCa]
 rfl
theorem vJa {e:EV} (h:zr e = true):V.yI e.dot = true /\ uua e = true /\ e.kills.length <= 256 /\ D.Srt e.kills /\ (∀ d ∈ e.kills,V.yI d = true) /\ e.text.size <= 60:=by
 unfold zr yMa at h;simp only [Bool.and_eq_true,decide_eq_true_eq,List.all_eq_true] at h;obtain ⟨⟨h1,h2⟩,h3,h4,h5,h6⟩:=h;refine ⟨h2,h3,h4,D.Qs.1 h5,fun d hd=>(h6 d hd).1,?_⟩;unfold uua yLa wRa at h3;simp only [Bool.or_eq_true,Bool.and_eq_true,decide_eq_true_eq] at h3;rcases h3 with ⟨_,_,h,_⟩ | ⟨_,_,h⟩
 ·exact h
 ·rw [h];decide
theorem get_enc {e:EV} (h:OkE e) (hg:zr e = true) (r:List Int):yt (Xw e ++ r,0) = (e,(r,0)):=by
 obtain ⟨g1,g2,g3,g4,g5,g6⟩:=vJa hg;have q:Xw e ++ r = D.encD e.dot ++ (e.kind :: (N.yj e.cid ++ (e.field :: (Qv e.text ++ (D.uN e.kills ++ r))))):=by
  simp only [Xw,List.append_assoc,List.cons_append,List.nil_append]
 have c1:=D.una h.dot g1 (e.kind :: (N.yj e.cid ++ (e.field :: (Qv e.text ++ (D.uN e.kills ++ r)))));have c3:=D.vt h.cid.1 h.cid.2 (e.field :: (Qv e.text ++ (D.uN e.kills ++ r)));have c5:=text_enc (t:=e.text) (m:=60) (by omega) (by omega) (D.uN e.kills ++ r);have c6:=D.dots_enc g4 (fun d hd=>⟨h.kills d hd,g5 d hd⟩) (most:=256) (by omega) (by omega) r;have t1:s1 (Xw e ++ r,0) = (e.kind :: (N.yj e.cid ++ (e.field :: (Qv e.text ++ (D.uN e.kills ++ r)))),0):=by unfold s1;rw [q,c1]
 have t2:s2 (Xw e ++ r,0) = (N.yj e.cid ++ (e.field :: (Qv e.text ++ (D.uN e.kills ++ r))),0):=by unfold s2;rw [t1,Yc]
 have t3:s3 (Xw e ++ r,0) = (e.field :: (Qv e.text ++ (D.uN e.kills ++ r)),0):=by unfold s3;rw [t2,c3]
 have t4:s4 (Xw e ++ r,0) = (Qv e.text ++ (D.uN e.kills ++ r),0):=by unfold s4;rw [t3,Yc]
 have t5:s5 (Xw e ++ r,0) = (D.uN e.kills ++ r,0):=by unfold s5;rw [t4,c5]
 have t6:s6 (Xw e ++ r,0) = (r,0):=by unfold s6;rw [t5,c6]
 have tE:getE (Xw e ++ r,0) = e:=by
  unfold getE;rw [t1,t2,t3,t4,t5,q,c1,Yc,c3,Yc,c5,c6]
 unfold yt getT;rw [tE,t6,hg,Bool.not_true,D.uV]
 rfl

open N (RS Ok zQ yA xd Zl vj z9a OkB Sim)
open D (jE fin)

def Yd (out:List EV) (x:EV):Bool:=match out.getLast? with | some y=>decide (0 <= V.yXa y.dot x.dot) | none=>false
def Qw (out:List EV) (s:RS):RS:=jE (Yd out (yt s).1) (yt s).2
def Je : Nat -> List EV -> RS -> List EV × RS
 | 0,out,s=>(out,s)
 | k + 1,out,s=>if (Qw out s).2 ≠ 0 then ([],Qw out s) else Je k (out ++ [(yt s).1]) (Qw out s)
def WE (most:Int) (s:RS):List EV × RS:=if max most 0 < (zQ s).1 then ([],vj 3 (zQ s).2) else Je (zQ s).1.toNat [] (zQ s).2
theorem Qy {k:Nat} {out:List EV} {s:RS} (h:(Qw out s).2 ≠ 0):Je (k + 1) out s = ([],Qw out s):=if_pos h
theorem Vc {k:Nat} {out:List EV} {s:RS} (h:(Qw out s).2 = 0):Je (k + 1) out s = Je k (out ++ [(yt s).1]) (Qw out s):=if_neg (by simp [h])
theorem u1a {out:List EV} {s:RS} (h:(Qw out s).2 = 0):Yd out (yt s).1 = false /\ (yt s).2.2 = 0 /\ Qw out s = (yt s).2:=D.UG h
theorem ok_gets {s:RS} (h:Ok s):Ok (yt s).2:=by
 unfold yt;rw [D.US];exact D.UF (uya h).2.2.2.2.2.1 _
theorem Qz {s:RS} (h:Ok s) (out:List EV):Ok (Qw out s):=D.UF (ok_gets h) _
theorem u2a : ∀ (k:Nat) (out:List EV) (s:RS),Ok s -> Ok (Je k out s).2
 | 0,_,_,h=>h
 | k + 1,out,s,h=>by
  by_cases c:(Qw out s).2 = 0
  ·rw [Vc c];exact u2a k _ _ (Qz h out)
  ·rw [Qy c];exact Qz h out
theorem u3a {s:RS} (h:Ok s) (most:Int):Ok (WE most s).2:=by
 have h1:=N.yq h;unfold WE
 split
 ·exact N.XB h1.1 _
 ·exact u2a _ _ _ h1.1
theorem u4a {out:List EV} (h:out.length <= 1000000000000) (x:EV) (cmp:DT -> DT -> M Int) (hc:∀ y,cmp y x.dot = pure (V.yXa y x.dot)) :
  ((cond (decide (0 <= IntKind.i64.wrap ((out.length:Int) - 1))) ((idx out (IntKind.i64.wrap ((out.length:Int) - 1))).bind fun x61=>(det (cmp x61.dot x.dot)).bind fun v63=>pure (decide (0 <= v63))) (pure false)):M Bool) = pure (Yd out x):=by
 unfold Yd;rcases R.yV out with rfl | ⟨r,y,rfl⟩
 ·rfl
 ·have hl:((r ++ [y]).length:Int) - 1 = (r.length:Int):=by simp
  rw [hl,YU (by omega) (by simp at h;omega)];have:decide ((0:Int) <= (r.length:Int)) = true:=by simp
  rw [this,cond_true,zI (y:=y) (by simp),zA,hc,zB,zA];simp
theorem wTa {y4:Int × List Int × Int} (hn:0 <= y4.1 /\ y4.1 <= 18446744073709551615):∀ (k i:Nat) (out:List EV) (s:RS),(i:Int) + k = y4.1 -> Ok s -> s.2 = 0 -> out.length + s.1.length <= 1000000000 ->
  (loop (yP y4) ((i:Int),out,s.1,s.2)).bind (exk fun ⟨out9,v10,v11⟩=>pure (out9,v10,v11)) = pure (Je k out s)
 | 0,i,out,s,hi,_,_,_=>by
  rw [zW (r:=.brk (out,s.1,s.2)) (by
   unfold yP;have:decide ((i:Int) < y4.1) = false:=by simp;omega
   simp only [this,cond_false])]
  rfl
 | k + 1,i,out,s,hi,hO,h0,hl=>by
  have hc:decide ((i:Int) < y4.1) = true:=by simp;omega
  have hlast:=u4a (out:=out) (by omega) (yt s).1 vF (fun y=>D.qJ y _);have hw:IntKind.u64.wrap ((i:Int) + 1) = ((i + 1:Nat):Int):=by rw [WT (by omega) (by omega)];omega
  have hb:yP y4 ((i:Int),out,s.1,s.2) = (det (zP (Qw out s).1 (Qw out s).2)).bind fun y70=>cond (!decide (y70.1 = 0)) (pure (.done (.ret ([],y70.2.1,y70.2.2)))) (yS ((out.length + [(yt s).1].length) * 80 <= 140737488355328) (pure (.next (IntKind.u64.wrap ((i:Int) + 1),out ++ [(yt s).1],y70.2.1,y70.2.2)))):=by
   unfold yP;have e:=D.xSa (Yd out (yt s).1) (yt s).2;simp only [hc,cond_true,Get_eq hO,zB,zA];rw [hlast,zA,e,zA]
   rfl
  rw [N.WC,zB,zA] at hb
  by_cases c:(Qw out s).2 = 0
  ·obtain ⟨_,c2,c3⟩:=u1a c;have hlt:=Jv hO c2;rw [decide_eq_true c,Bool.not_true,cond_false,zC (by simp;omega),hw] at hb;rw [zg hb,Vc c];exact wTa hn k (i + 1) _ (Qw out s) (by omega) (Qz hO out) c (by rw [c3];simp;omega)
  ·rw [decide_eq_false c,Bool.not_false,cond_true] at hb;rw [zW hb,Qy c]
   rfl
theorem yOa {s:RS} (hO:Ok s) {most:Int} (hm:most <= 9223372036854775807):xl most s.1 s.2 = pure (WE most s):=by
 obtain ⟨h1,h2,h3⟩:=N.yq hO;unfold xl WE;rw [N.Yg hO,zB,zA,WT (n:=max most 0) (by omega) (by omega)]
 by_cases c:max most 0 < (zQ s).1
 ·rw [decide_eq_true c,cond_true,if_pos c,N.ZP 3 (zQ s).2,zB,zA]
 ·rw [decide_eq_false c,cond_false,if_neg c]
  by_cases c2:(zQ s).2.2 = 0
  ·exact wTa (y4:=zQ s) ⟨h2,h3⟩ (zQ s).1.toNat 0 [] (zQ s).2 (by omega) h1 c2 (by simp;have:=h1.len;omega)
  ·have hz:=D.vY c2;rw [hz,zW (r:=.brk ([],(zQ s).2.1,(zQ s).2.2)) (by
    unfold yP;simp only [hz,show decide ((0:Int) < 0) = false from rfl,cond_false])]
   rfl
variable {B:List Int} {a:Int} {s:RS}
abbrev Yh (l:List EV):Prop:=l.Pairwise fun x y=>zY x.dot y.dot = true
theorem u5a {out:List EV} {x:EV} (hs:Yh out) (h:Yd out x = false):Yh (out ++ [x]):=by
 unfold Yh;rw [List.pairwise_append];refine ⟨hs,by simp,fun a ha b hb=>?_⟩;rw [List.mem_singleton.1 hb];rcases R.yV out with rfl | ⟨q,y,rfl⟩
 ·simp at ha
 ·have hy:zY y.dot x.dot = true:=by
   unfold Yd at h;simp only [List.getLast?_append,List.getLast?_singleton,Option.some_or,D.qK] at h;simpa using h
  rcases List.mem_append.1 ha with h5 | h5
  ·exact D.VX ((List.pairwise_append.1 hs).2.2 a h5 y (by simp)) hy
  ·rw [List.mem_singleton.1 h5];exact hy
theorem qL : ∀ (k:Nat) (out:List EV) (s:RS),Ok s -> s.2 = 0 -> Yh out -> (∀ e ∈ out,OkE e /\ zr e = true) -> out.length + s.1.length <= 1000000000 ->
  Yh (Je k out s).1 /\ (∀ e ∈ (Je k out s).1,OkE e /\ zr e = true) /\ (Je k out s).1.length <= 1000000000 /\ ((Je k out s).2.2 = 0 -> ∃ l,(Je k out s).1 = out ++ l /\ l.length = k /\ s.1 = l.flatMap Xw ++ (Je k out s).2.1) /\ ((Je k out s).2.2 ≠ 0 -> (Je k out s).1 = [])
 | 0,out,s,_,h0,hs,hg,hl=>⟨hs,hg,by show out.length <= _;omega,fun _=>⟨[],by simp [Je],rfl,by simp [Je]⟩,fun h=>absurd h0 h⟩
 | k + 1,out,s,hO,h0,hs,hg,hl=>by
  by_cases c:(Qw out s).2 = 0
  ·obtain ⟨c1,c2,c3⟩:=u1a c;obtain ⟨i1,i2,i3,i4⟩:=u0a hO c2;have hlt:=Jv hO c2;rw [Vc c];obtain ⟨q1,q2,q3,q4,q5⟩:=qL k (out ++ [(yt s).1]) (Qw out s) (Qz hO out) c (u5a hs c1) (fun e he=>by
    rcases List.mem_append.1 he with h | h
    ·exact hg e h
    ·rw [List.mem_singleton.1 h];exact ⟨i3,i2⟩) (by rw [c3];simp;omega)
   refine ⟨q1,q2,q3,fun hz=>?_,q5⟩;obtain ⟨l,e1,e2,e3⟩:=q4 hz;refine ⟨(yt s).1 :: l,by rw [e1];simp,by simp [e2],?_⟩;rw [List.flatMap_cons,List.append_assoc,<- e3,c3];exact i4
  ·rw [Qy c];exact ⟨List.Pairwise.nil,by simp,by simp,fun h=>absurd h c,fun _=>rfl⟩
theorem Vd {s:RS} (hO:Ok s) (most:Int):Yh (WE most s).1 /\ (∀ e ∈ (WE most s).1,OkE e /\ zr e = true) /\ (WE most s).1.length <= 1000000000 /\ ((WE most s).2.2 = 0 -> s.1 = vB (WE most s).1 ++ (WE most s).2.1 /\ ((WE most s).1.length:Int) <= max most 0) /\ ((WE most s).2.2 ≠ 0 -> (WE most s).1 = []):=by
 obtain ⟨h1,h2,h3⟩:=N.yq hO;unfold WE
 by_cases c:max most 0 < (zQ s).1
 ·rw [if_pos c];exact ⟨List.Pairwise.nil,by simp,by simp,fun h=>absurd h (N.vX (by decide)),fun _=>rfl⟩
 ·rw [if_neg c]
  by_cases c2:(zQ s).2.2 = 0
  ·obtain ⟨q1,q2,q3,q4,q5⟩:=qL (zQ s).1.toNat [] (zQ s).2 h1 c2 List.Pairwise.nil (by simp) (by simp;have:=h1.len;omega);refine ⟨q1,q2,q3,fun hz=>?_,q5⟩;obtain ⟨l,e1,e2,e3⟩:=q4 hz;rw [List.nil_append] at e1;rw [e1];refine ⟨?_,by omega⟩;rw [vB,List.append_assoc,<- e3,e2,Int.toNat_of_nonneg h2];exact D.ZQ hO c2
  ·rw [D.vY c2];exact ⟨List.Pairwise.nil,by simp [Je],by simp [Je],fun h=>absurd h c2,fun _=>rfl⟩
theorem wUa : ∀ (l out:List EV) (r:List Int),Yh (out ++ l) -> (∀ e ∈ l,OkE e /\ zr e = true) -> Je l.length out (l.flatMap Xw ++ r,0) = (out ++ l,(r,0))
 | [],out,r,_,_=>by simp [Je]
 | x :: t,out,r,hs,h=>by
  have hx:=h x (by simp);have e:yt ((x :: t).flatMap Xw ++ r,0) = (x,(t.flatMap Xw ++ r,0)):=by
   rw [List.flatMap_cons,List.append_assoc];exact get_enc hx.1 hx.2 _
  have hlast:Yd out x = false:=by
   unfold Yd
   cases hl:out.getLast? with
   | none=>rfl
   | some y=>
    have:=(List.pairwise_append.1 hs).2.2 y (List.mem_of_getLast? hl) x (by simp);simp only [D.qK,this,Bool.not_true]
  have hT:Qw out ((x :: t).flatMap Xw ++ r,0) = (t.flatMap Xw ++ r,0):=by
   unfold Qw;rw [e];simp only [];rw [hlast]
   rfl
  rw [List.length_cons,Vc (by rw [hT]),hT,e];simp only [];rw [wUa t (out ++ [x]) r (by rw [List.append_assoc];exact hs) (fun d hd=>h d (by simp [hd])),List.append_assoc]
  rfl
theorem u6a {l:List EV} (hs:Yh l) (h:∀ e ∈ l,OkE e /\ zr e = true) {most:Int} (hm:(l.length:Int) <= most) (hl:l.length <= 1000000000000) (r:List Int):WE most (vB l ++ r,0) = (l,(r,0)):=by
 have e2:vB l ++ r = N.yj (l.length:Int) ++ (l.flatMap Xw ++ r):=by rw [vB,List.append_assoc]
 unfold WE;rw [e2,D.vt (by omega) (by omega)];simp only [];rw [if_neg (by omega),Int.toNat_natCast,wUa l [] r (by simpa using hs) h]
 rfl

end Go.Ep.M.E


/- Side texts. -/
import Derived.Test.YtkebaehlcmgccaaGreatBBk11
set_option linter.unusedVariables false
set_option linter.unusedSimpArgs false
namespace Go.Ep.M.D
open Go

theorem jI {a b:DT}:zP a b = true ↔ a.dev < b.dev \/ (a.dev = b.dev /\ a.n < b.n):=by simp [zP]
theorem Wy (a:DT):zP a a = false:=by
 cases h:zP a a with
 | false=>rfl
 | true=>rw [jI] at h;omega
theorem XS {a b c:DT} (h1:zP a b = true) (h2:zP b c = true):zP a c = true:=by rw [jI] at *;omega
theorem XT {a b:DT} (h:zP a b = true):zP b a = false:=by
 cases h2:zP b a with
 | false=>rfl
 | true=>rw [jI] at h h2;omega
theorem QN {a b:DT} (h1:zP a b = false) (h2:zP b a = false):a = b:=by
 have h3:¬ (zP a b = true):=by simp [h1]
 have h4:¬ (zP b a = true):=by simp [h2]
 rw [jI] at h3 h4
 cases a;cases b
 simp only [DT.mk.injEq] at *
 omega
abbrev Srt (l:List DT):Prop:=l.Pairwise fun x y=>zP x y = true
theorem x8a : ∀ {l l':List DT},Srt l -> Srt l' -> (∀ d,d ∈ l ↔ d ∈ l') -> l = l'
 | [],[],_,_,_=>rfl
 | [],y :: r,_,_,h=>by have:=(h y).2 (by simp);simp at this
 | x :: r,[],_,_,h=>by have:=(h x).1 (by simp);simp at this
 | x :: r,y :: t,h1,h2,h=>by
  have hx:=(h x).1 (by simp);have hy:=(h y).2 (by simp);have e:x = y:=by
   rcases List.mem_cons.1 hx with e | hx
   ·exact e
   ·rcases List.mem_cons.1 hy with e | hy
    ·exact e.symm
    ·have a1:=(List.pairwise_cons.1 h2).1 x hx;have a2:=(List.pairwise_cons.1 h1).1 y hy;rw [XT a1] at a2;cases a2
  subst e
  congr 1
  refine x8a (List.pairwise_cons.1 h1).2 (List.pairwise_cons.1 h2).2 fun d=>?_
  have h3:=h d;simp only [List.mem_cons] at h3
  constructor
  ·intro hd;rcases h3.1 (.inr hd) with e | h4
   ·have:=(List.pairwise_cons.1 h1).1 d hd;rw [e,Wy] at this;cases this
   ·exact h4
  ·intro hd;rcases h3.2 (.inr hd) with e | h4
   ·have:=(List.pairwise_cons.1 h2).1 d hd;rw [e,Wy] at this;cases this
   ·exact h4

def z9a (s:List DT) (d:DT):List DT:=(s.filter fun x=>zP x d) ++ [d] ++ (s.filter fun x=>zP d x)
theorem ins_mem {s:List DT} {d x:DT}:x ∈ z9a s d ↔ x = d \/ x ∈ s:=by
 simp only [z9a,List.mem_append,List.mem_filter,List.mem_singleton]
 constructor
 ·rintro ((h | h) | h)
  ·exact .inr h.1
  ·exact .inl h
  ·exact .inr h.1
 ·rintro (h | h)
  ·exact .inl (.inr h)
  ·cases h1:zP x d with
   | true=>exact .inl (.inl ⟨h,rfl⟩)
   | false=>
    cases h2:zP d x with
    | true=>exact .inr ⟨h,rfl⟩
    | false=>exact .inl (.inr (QN h1 h2))
theorem ins_srt {s:List DT} (h:Srt s) (d:DT):Srt (z9a s d):=by
 unfold Srt z9a;rw [List.pairwise_append,List.pairwise_append];refine ⟨⟨h.filter _,by simp,fun a ha b hb=>?_⟩,h.filter _,fun a ha b hb=>?_⟩
 ·rw [List.mem_singleton.1 hb];exact (List.mem_filter.1 ha).2
 ·have hb:=(List.mem_filter.1 hb).2;rcases List.mem_append.1 ha with ha | ha
  ·exact XS (List.mem_filter.1 ha).2 hb
  ·rw [List.mem_singleton.1 ha];exact hb
theorem zpa (s:List DT) (d:DT):(z9a s d).length <= s.length + 1:=by
 unfold z9a;have h:∀ l:List DT,(l.filter fun x=>zP x d).length + (l.filter fun x=>zP d x).length <= l.length:=by
  intro l
  induction l with
  | nil=>simp
  | cons x r ih=>
   cases h1:zP x d with
   | true=>simp [h1,XT h1];omega
   | false=>
    cases h2:zP d x with
    | true=>simp [h1,h2];omega
    | false=>simp [h1,h2];omega
 have:=h s;simp;omega
def vK (l:List DT):List DT:=l.foldl z9a []
theorem jt : ∀ (l s:List DT),Srt s -> Srt (l.foldl z9a s) /\ (∀ d,d ∈ l.foldl z9a s ↔ d ∈ s \/ d ∈ l) /\ (l.foldl z9a s).length <= s.length + l.length
 | [],s,h=>⟨h,by simp,by simp⟩
 | x :: r,s,h=>by
  obtain ⟨h1,h2,h3⟩:=jt r (z9a s x) (ins_srt h x);refine ⟨h1,fun d=>?_,?_⟩
  ·rw [List.foldl_cons,h2 d,ins_mem,List.mem_cons]
   constructor
   ·rintro ((h | h) | h)
    ·exact .inr (.inl h)
    ·exact .inl h
    ·exact .inr (.inr h)
   ·rintro (h | h | h)
    ·exact .inl (.inr h)
    ·exact .inl (.inl h)
    ·exact .inr h
  ·have:=zpa s x;rw [List.foldl_cons,List.length_cons];omega
theorem w4a (l:List DT):Srt (vK l):=(jt l [] List.Pairwise.nil).1
theorem ZA {l:List DT} {d:DT}:d ∈ vK l ↔ d ∈ l:=by simpa [vK] using (jt l [] List.Pairwise.nil).2.1 d
theorem Wn (l:List DT):(vK l).length <= l.length:=by simpa [vK] using (jt l [] List.Pairwise.nil).2.2
theorem Zda {l:List DT} (h:Srt l):vK l = l:=x8a (w4a l) h fun _=>ZA
theorem x9a (s:List DT) (d:DT) (h:s.length <= 1000000000000):Yp s d = pure (z9a s d):=V.Ur s d h

def ddS (out:List DT) (x:DT):List DT:=if out.getLast? = some x then out else out ++ [x]
def dd (l:List DT):List DT:=l.foldl ddS []
theorem Jz (l:List DT) (x:DT):dd (l ++ [x]) = ddS (dd l) x:=by simp [dd]
theorem wAa (l:List DT):(dd l).getLast? = l.getLast?:=by
 rcases R.xU l with rfl | ⟨r,y,rfl⟩
 ·rfl
 ·rw [Jz];unfold ddS
  by_cases c:(dd r).getLast? = some y
  ·rw [if_pos c,c];simp
  ·rw [if_neg c];simp
theorem dd_mem {l:List DT} {d:DT}:d ∈ dd l ↔ d ∈ l:=by
 have:∀ (l s:List DT),d ∈ l.foldl ddS s ↔ d ∈ s \/ d ∈ l:=by
  intro l
  induction l with
  | nil=>intro s;simp
  | cons x r ih=>
   intro s;rw [List.foldl_cons,ih];have h2:d ∈ ddS s x ↔ d ∈ s \/ d = x:=by
    unfold ddS
    split
    ·rename_i h
     exact ⟨.inl,fun h3=>h3.elim id fun e=>by rw [e];exact List.mem_of_getLast? h⟩
    ·simp
   rw [h2,List.mem_cons];exact or_assoc
 simpa [dd] using this l []
theorem dd_srt {l:List DT} (h:l.Pairwise fun x y=>zP y x = false):Srt (dd l):=by
 have:∀ (n:Nat) (l:List DT),l.length = n -> (l.Pairwise fun x y=>zP y x = false) -> Srt (dd l):=by
  intro n
  induction n with
  | zero=>intro l hl _;have:=List.eq_nil_of_length_eq_zero hl;subst this;exact List.Pairwise.nil
  | succ n ih=>
   intro l hl h;rcases R.xU l with rfl | ⟨r,y,rfl⟩
   ·simp at hl
   ·rw [List.pairwise_append] at h;have hr:=ih r (by simpa using hl) h.1;rw [Jz];unfold ddS
    split
    ·exact hr
    ·rename_i hne
     unfold Srt;rw [List.pairwise_append];refine ⟨hr,by simp,fun a ha b hb=>?_⟩;rw [List.mem_singleton.1 hb];have ha':=dd_mem.1 ha;have h1:=h.2.2 a ha' y (by simp)
     cases h2:zP a y with
     | true=>rfl
     | false=>
      exfalso;have e:=QN h2 h1;subst e;rw [wAa] at hne;rcases R.xU r with rfl | ⟨q,z,rfl⟩
      ·simp at ha'
      ·have hz:zP a z = false:=h.2.2 z (by simp) a (by simp);rcases List.mem_append.1 ha' with h5 | h5
       ·have h6:zP z a = false:=by
         have:=(List.pairwise_append.1 h.1).2.2 a h5 z (by simp);exact this
        have:=QN hz h6;subst this;simp at hne
       ·rw [List.mem_singleton.1 h5] at hne;simp at hne
 exact this l.length l rfl h

theorem zqa (l:List DT) (h:l.length <= 1000000000000):yH l = pure l:=by
 unfold yH;refine ZJ ⟨⟨false,fun h=>by cases h⟩,fun b hb=>?_⟩
 cases b with
 | true=>show ([]:List DT) = l;exact (hb rfl).symm
 | false=>
  show _ /\ ([] ++ l = l)
  exact ⟨by simp;omega,List.nil_append l⟩
theorem yya (x y:DT):(decide (x.dev = y.dev) && decide (x.n = y.n)) = decide (x = y):=by
 cases x;cases y;simp [Bool.decide_and]
theorem WD {l:List DT} {m:Nat} {x:DT} (h:l[m]? = some x):l.take (m + 1) = l.take m ++ [x]:=by
 rw [List.take_add_one,h];rfl
theorem yza {l:List DT} {m:Nat} {x:DT} (h:l[m]? = some x):(l.take (m + 1)).getLast? = some x:=by rw [WD h];simp
theorem Uy (s:List DT) (k:Nat) (hk:k < s.length) (hl:s.length <= 1000000000000):∀ (d k2 kk:Nat) (v:List DT),k + k2 + d = s.length -> 1 <= k2 -> v.length = s.length -> kk + 1 <= k + k2 -> v.take kk = dd (s.take (k + k2)) -> v.drop (k + k2 - 1) = s.drop (k + k2 - 1) ->
  ∃ (kk':Nat) (v':List DT),loop (zj s (k:Int)) ((kk:Int),(k2:Int),v) = pure ((kk':Int),v') /\ v'.length = s.length /\ kk' <= s.length /\ v'.take kk' = dd s
 | 0,k2,kk,v,hd,h1,hv,hkk,ht,_=>by
  refine ⟨kk,v,zY ?_,hv,by omega,by rw [ht,show k + k2 = s.length by omega,List.take_length]⟩;unfold zj;have:decide ((k2:Int) < (((s.length - (k:Int).toNat:Nat)):Int)) = false:=by simp;omega
  simp only [this,cond_false]
 | d + 1,k2,kk,v,hd,h1,hv,hkk,ht,hdr=>by
  have hvg:∀ j,k + k2 - 1 <= j -> v[j]? = s[j]?:=fun j hj=>by
   have:=congrArg (fun l=>l[j - (k + k2 - 1)]?) hdr;simp only [List.getElem?_drop] at this;rw [show k + k2 - 1 + (j - (k + k2 - 1)) = j by omega] at this;exact this
  obtain ⟨x,hx⟩:∃ x,s[k + k2]? = some x:=⟨_,List.getElem?_eq_getElem (by omega)⟩
  obtain ⟨y,hy⟩:∃ y,s[k + k2 - 1]? = some y:=⟨_,List.getElem?_eq_getElem (by omega)⟩
  have hlast:(dd (s.take (k + k2))).getLast? = some y:=by
   rw [wAa];have:=yza hy
   rwa [show k + k2 - 1 + 1 = k + k2 by omega] at this
  have hdd:dd (s.take (k + k2 + 1)) = if y = x then dd (s.take (k + k2)) else dd (s.take (k + k2)) ++ [x]:=by
   rw [WD hx,Jz];unfold ddS;rw [hlast]
   by_cases c:y = x
   ·rw [if_pos c,if_pos (by rw [c])]
   ·rw [if_neg c,if_neg (by intro e;exact c (Option.some.inj e))]
  have hb:zj s (k:Int) ((kk:Int),(k2:Int),v) = pure (.next (if y = x then ((kk:Int),((k2 + 1:Nat):Int),v) else (((kk + 1:Nat):Int),((k2 + 1:Nat):Int),v.set kk x))):=by
   unfold zj;have hc:decide ((k2:Int) < (((s.length - (k:Int).toNat:Nat)):Int)) = true:=by simp;omega
   have e1:IntKind.i64.wrap ((k2:Int) - 1) = ((k2 - 1:Nat):Int):=by rw [Xi (by omega) (by omega)];omega
   have i1:idx v ((((k:Int).toNat + (k2:Int).toNat:Nat)):Int) = pure x:=zF (by rw [Int.toNat_natCast,Int.toNat_natCast,hvg _ (by omega)];exact hx);have i2:idx v ((((k:Int).toNat + (((k2 - 1:Nat):Int)).toNat:Nat)):Int) = pure y:=zF (by rw [Int.toNat_natCast,Int.toNat_natCast,hvg _ (by omega),show k + (k2 - 1) = k + k2 - 1 by omega];exact hy);obtain ⟨z,hz⟩:∃ z,v[kk]? = some z:=⟨_,List.getElem?_eq_getElem (by omega)⟩
   have i3:idx v (kk:Int) = pure z:=zF hz;simp only [hc,cond_true,e1];rw [zD (by simp;omega),i1,zA,zD (by simp;omega),i2,zA];simp only [yya]
   by_cases c:y = x
   ·have c1:decide (x = y) = true:=decide_eq_true c.symm;simp only [c1,Bool.not_true,cond_false,zA,zo (show k2 < 9223372036854775807 by omega),if_pos c]
   ·have c1:decide (x = y) = false:=decide_eq_false (fun e=>c e.symm);simp only [c1,Bool.not_false,cond_true,if_neg c];rw [zD (by simp;omega),i3];simp only [zA,zo (show k2 < 9223372036854775807 by omega),zo (show kk < 9223372036854775807 by omega),Int.toNat_natCast]
  by_cases c:y = x
  ·rw [if_pos c] at hb hdd;rw [zl hb];refine Uy s k hk hl d (k2 + 1) kk v (by omega) (by omega) hv (by omega) (by rw [ht,<- hdd];rfl) ?_;have:=congrArg (List.drop 1) hdr;rw [List.drop_drop,List.drop_drop,show k + k2 - 1 + 1 = k + (k2 + 1) - 1 by omega] at this;exact this
  ·rw [if_neg c] at hb hdd;rw [zl hb];refine Uy s k hk hl d (k2 + 1) (kk + 1) (v.set kk x) (by omega) (by omega) (by simpa using hv) (by omega) ?_ ?_
   ·have h5:(v.set kk x)[kk]? = some x:=by rw [List.getElem?_set];simp;omega
    rw [WD h5,List.take_set,List.set_eq_of_length_le (by rw [List.length_take];omega),ht,<- hdd];rfl
   ·rw [List.drop_set,if_pos (by omega)];have:=congrArg (List.drop 1) hdr;rw [List.drop_drop,List.drop_drop,show k + k2 - 1 + 1 = k + (k2 + 1) - 1 by omega] at this;exact this
theorem vxa (s:List DT) (hl:s.length <= 1000000000000):zq s = pure (dd s):=by
 unfold zq
 by_cases h2:s.length < 2
 ·have:decide ((s.length:Int) < 2) = true:=by simp;omega
  rw [this,cond_true]
  match s,h2 with
  | [],_=>rfl
  | [x],_=>rfl
 ·have:decide ((s.length:Int) < 2) = false:=by simp;omega
  rw [this,cond_false];have key:∀ d k,k + d = s.length -> 1 <= k -> dd (s.take k) = s.take k -> (loop (zk s) (k:Int)).bind (exk fun _=>pure s) = pure (dd s):=by
   intro d
   induction d with
   | zero=>
    intro k hk h1 hd;rw [zY (r:=.brk ()) (by
     unfold zk;have:decide ((k:Int) < (s.length:Int)) = false:=by simp;omega
     simp only [this,cond_false])]
    rw [show k = s.length by omega,List.take_length] at hd;show pure s = pure (dd s);rw [hd]
   | succ d ih=>
    intro k hk h1 hd;obtain ⟨x,hx⟩:∃ x,s[k]? = some x:=⟨_,List.getElem?_eq_getElem (by omega)⟩
    obtain ⟨y,hy⟩:∃ y,s[k - 1]? = some y:=⟨_,List.getElem?_eq_getElem (by omega)⟩
    have hlast:(dd (s.take k)).getLast? = some y:=by
     rw [wAa];have:=yza hy
     rwa [show k - 1 + 1 = k by omega] at this
    have hc:decide ((k:Int) < (s.length:Int)) = true:=by simp;omega
    have i1:idx s (k:Int) = pure x:=zF hx;have i2:idx s (IntKind.i64.wrap ((k:Int) - 1)) = pure y:=by
     rw [Xi (by omega) (by omega)];exact YM (by omega) (by rw [show ((k:Int) - 1).toNat = k - 1 by omega];exact hy)
    by_cases c:x = y
    ·subst c;obtain ⟨kk,v,h5,h6,h7,h8⟩:=Uy s k (by omega) hl d 1 k s (by omega) (by omega) rfl (by omega) (by
      rw [WD hx,Jz,ddS,if_pos hlast,hd]) (by rw [show k + 1 - 1 = k by omega])
     rw [zY (r:=.ret (dd s)) (by
      unfold zk;simp only [hc,cond_true,i1,i2,zA,yya,decide_true];rw [zD (by omega),show (1:Int) = ((1:Nat):Int) from rfl,h5,zA];simp only [];rw [zD (by omega),zD (by simp;omega),zD (by
       simp only [List.length_append,List.length_take,List.length_replicate,List.length_drop,Int.toNat_natCast];omega),zA,JJ]
      congr 3
      rw [Int.toNat_natCast,List.append_assoc,List.take_append_of_le_length (by rw [List.length_take];omega),List.take_take,Nat.min_self,h8])]
     rfl
    ·have c1:decide (x = y) = false:=decide_eq_false c;rw [zl (s':=((k + 1:Nat):Int)) (by
      unfold zk;simp only [hc,cond_true,i1,i2,zA,yya,c1,cond_false,YF,zo (show k < 9223372036854775807 by omega)])]
     refine ih (k + 1) (by omega) (by omega) ?_;rw [WD hx,Jz,ddS,if_neg (by rw [hlast];intro e;exact c (Option.some.inj e).symm),hd]
  have:=key (s.length - 1) 1 (by omega) (by omega) (by
   obtain ⟨x,r,rfl⟩:∃ x r,s = x :: r:=by
    cases s with
    | nil=>simp at h2
    | cons x r=>exact ⟨x,r,rfl⟩
   rfl)
  exact this
theorem ZEa {l:List DT} {Q:List DT -> Prop} (h:∀ s,s.Perm l -> (s.Pairwise fun x y=>zP y x = false) -> Q s):(srt zP l).wp Q:=by
 refine ⟨⟨l.mergeSort (fun x y=>!zP y x),List.mergeSort_perm _ _,?_⟩,fun s ⟨h1,h2⟩=>h s h1 h2⟩;refine (List.pairwise_mergeSort (fun a b c h1 h2=>?_) (fun a b=>?_) l).imp fun {x y} h=>by simpa using h
 ·simp only [Bool.not_eq_true'] at h1 h2 ⊢
  cases h3:zP c a with
  | false=>rfl
  | true=>
   rw [jI] at h3;have h4:¬ (zP b a = true):=by simp [h1]
   have h5:¬ (zP c b = true):=by simp [h2]
   rw [jI] at h4 h5;omega
 ·cases h1:zP b a with
  | false=>rfl
  | true=>rw [XT h1];rfl
theorem wBa (l:List DT) (h:l.length <= 1000000000000):WM l = pure (vK l):=by
 unfold WM;rw [zqa l h,zB,zA,zD (by omega)];refine ZJ (ZEa fun s hs hp=>?_);show (bind (det (zq s)) fun y8=>pure y8).wp _;rw [vxa s (by rw [hs.length_eq];exact h),zB,zA];exact x8a (dd_srt hp) (w4a l) fun d=>by rw [dd_mem,ZA];exact hs.mem_iff

theorem cmp16_eq (x y:Int):xn x y = pure (R.ZFa x y):=by
 unfold xn wv R.ZFa;simp only [decide_true,Bool.not_true,zB,zA,cond_false,yb]
 split
 ·rfl
 ·split <;> rfl
theorem QO (a b:DT):vR a b = pure (V.QH a b):=by
 unfold vR;rw [cmp16_eq,zB,zA,R.ZGa,zB,zA];unfold V.QH R.ZFa
 cases a with | mk d n=>cases b with | mk e m=>
 simp only [DT.mk.injEq,zP]
 by_cases h1:d < e
 ·have:¬ d = e:=by omega
  simp [h1,this]
 ·by_cases h2:e < d
  ·have:¬ d = e:=by omega
   simp [h1,h2,this]
  ·have h3:d = e:=by omega
   subst h3
   by_cases h4:n < m
   ·have:¬ n = m:=by omega
    simp [h4,this]
   ·by_cases h5:m < n
    ·have:¬ n = m:=by omega
     simp [h4,h5,this]
    ·have:n = m:=by omega
     simp [this]


theorem zra {σ ρ ε:Type} {body:σ -> M (Step σ ρ)} (l:List ε) (f:ε -> List Int) (row:List Int) (N:Nat) (mk:Nat -> List Int -> σ) (g:List Int -> M ρ) (hN:row.length + (l.flatMap f).length <= N)
  (h1:∀ (i:Nat) (x:ε) (out:List Int),l[i]? = some x -> i < l.length -> out.length + (f x).length <= N -> body (mk i out) = pure (.next (mk (i + 1) (out ++ f x))))
  (h2:∀ out,body (mk l.length out) = (g out).bind fun r=>pure (.done r)):loop body (mk 0 row) = g (row ++ l.flatMap f):=by
 have key:∀ (k i:Nat) (out:List Int),i + k = l.length -> out.length + ((l.drop i).flatMap f).length <= N -> loop body (mk i out) = g (out ++ (l.drop i).flatMap f):=by
  intro k
  induction k with
  | zero=>
   intro i out hi _;have:i = l.length:=by omega
   subst this;rw [JK,h2,List.drop_length];simp only [List.flatMap_nil,List.append_nil]
   rfl
  | succ k ih=>
   intro i out hi hl;have hlt:i < l.length:=by omega
   rw [List.drop_eq_getElem_cons hlt,List.flatMap_cons,List.length_append] at hl;rw [zl (h1 i l[i] out (List.getElem?_eq_getElem hlt) hlt (by omega)),ih (i + 1) _ (by omega) (by rw [List.length_append];omega),List.drop_eq_getElem_cons hlt,List.flatMap_cons,List.append_assoc]
 simpa using key l.length 0 row (by omega) (by simpa using hN)
theorem UN {ε:Type} (l:List ε) (f:ε -> List Int) (k:Nat) (h:∀ x ∈ l,(f x).length <= k):(l.flatMap f).length <= k * l.length:=by
 induction l with
 | nil=>simp
 | cons x r ih=>
  have h1:=h x (by simp);have h2:=ih fun y hy=>h y (by simp [hy])
  rw [List.flatMap_cons,List.length_append,List.length_cons,Nat.mul_add];omega

structure OkD (d:DT):Prop where
 d0:0 <= d.dev
 d1:d.dev <= 65535
 n0:0 <= d.n
 n1:d.n <= 18446744073709551615
def encD (d:DT):List Int:=N.vk d.dev ++ N.vk d.n
theorem ju {d:DT} (h:OkD d):(encD d).length <= 18:=by
 have h1:=N.yL (v:=d.dev) (by have:=h.d1;omega);have h2:=N.yL (v:=d.n) h.n1;rw [encD,List.length_append];omega
theorem y0a {d:DT} (h:OkD d) (row:List Int) (hr:row.length <= 1000000000000):we d row = pure (row ++ encD d):=by
 have h1:=N.yL (v:=d.dev) (by have:=h.d1;omega);unfold we;rw [VV h.d0 (by have:=h.d1;omega),N.Zf row h.d0 (by have:=h.d1;omega) (by omega),zB,zA,N.Zf _ h.n0 h.n1 (by rw [List.length_append];omega),zB,zA,encD,List.append_assoc]
def Zp (l:List DT):List DT:=l.filter V.zt
def ZB (l:List DT):List Int:=N.vk (vK (Zp l)).length ++ (vK (Zp l)).flatMap encD
theorem Zea (l : List DT) (hl : l.length <= 1000000000000) : loop (yp l) (0, []) = pure (Zp l) := by
  have := uu (body := yp l) l (fun i t => ((i : Int), t)) (fun t d => if V.zt d = true then t ++ [d] else t) (fun t => pure t) (fun i t => t.length <= i) (fun i x t hx hi hI => by
    have hd : decide ((i : Int) < (l.length : Int)) = true := by simpa using hi
    refine ⟨?_, by split
                   · simp; omega
                   · omega⟩
    unfold yp;simp only [hd, cond_true, zF hx, zA, V.ZY, zB, zo (show i < 9223372036854775807 by omega)]
    by_cases c : V.zt x = true
    · rw [c, cond_true, zD (by simp; omega), zA, if_pos rfl]
    · simp only [Bool.not_eq_true] at c;rw [c, cond_false, zA]; rfl) (fun t _ => by
    unfold yp;simp [zA]) [] (by simp)
  rw [show (0 : Int) = ((0 : Nat) : Int) from rfl, this]
  congr 1
  have key : ∀ (l t : List DT), l.foldl (fun t d => if V.zt d = true then t ++ [d] else t) t = t ++ Zp l := by
    intro l
    induction l with
    | nil => intro t; simp [Zp]
    | cons x r ih =>
      intro t;rw [List.foldl_cons, ih];unfold Zp
      by_cases c : V.zt x = true
      · rw [if_pos c, List.filter_cons_of_pos c, List.append_assoc]; rfl
      · rw [if_neg c, List.filter_cons_of_neg c]
  simpa using key l []
theorem good_mem {l:List DT} {d:DT}:d ∈ vK (Zp l) ↔ d ∈ l /\ V.zt d = true:=by rw [ZA,Zp,List.mem_filter]
theorem zsa (l:List DT):(vK (Zp l)).length <= l.length:=Nat.le_trans (Wn _) (List.length_filter_le _ _)
theorem zta {l:List DT} (h:∀ d ∈ l,OkD d):∀ d ∈ vK (Zp l),OkD d:=fun d hd=>h d (good_mem.1 hd).1
theorem Zfa {l:List DT} (h:∀ d ∈ l,OkD d) (hl:l.length <= 1000000000000):(ZB l).length <= 9 + 18 * l.length:=by
 have h1:=N.yL (v:=((vK (Zp l)).length:Int)) (by have:=zsa l;omega);have h2:=UN (vK (Zp l)) encD 18 fun x hx=>ju (zta h x hx)
 have h3:=zsa l;rw [ZB,List.length_append];omega
theorem vya {l:List DT} (h:∀ d ∈ l,OkD d) (hl:l.length <= 1000000000) (row:List Int) (hr:row.length <= 100000000000):vS l row = pure (row ++ ZB l):=by
 have h3:=zsa l;have h1:=N.yL (v:=((vK (Zp l)).length:Int)) (by omega);have h2:=UN (vK (Zp l)) encD 18 fun x hx=>ju (zta h x hx)
 unfold vS;rw [Zea l (by omega),zA,wBa _ (by have:=List.length_filter_le V.zt l;unfold Zp;omega),zB,zA,VV (by omega) (by omega),N.Zf row (by omega) (by omega) (by omega),zB,zA];have:=zra (body:=xq (vK (Zp l))) (vK (Zp l)) encD (row ++ N.vk ((vK (Zp l)).length:Int)) 1000000000000 (fun i out=>((i:Int),out)) (fun t=>pure t) (by rw [List.length_append];omega) (fun i x out hx hi ho=>by
  have hd:decide ((i:Int) < ((vK (Zp l)).length:Int)) = true:=by simpa using hi
  unfold xq;simp only [hd,cond_true,zF hx,zA,y0a (zta h x (List.mem_of_getElem? hx)) out (by omega),zB,zo (show i < 9223372036854775807 by omega)]) (fun out=>by
  unfold xq;simp [zA])
 rw [show (0:Int) = ((0:Nat):Int) from rfl,this,ZB,List.append_assoc]
def y1a (x:RN):List Int:=N.vk x.lo ++ N.vk x.hi
def w5a (p:PT):List Int:=N.vk p.dev ++ (N.vk p.runs.length ++ p.runs.flatMap y1a)
def wya (c:List PT):List Int:=N.vk c.length ++ c.flatMap w5a
def vl (c:List PT):List Int:=wya (C.zQ c)
structure OkP (p:PT):Prop where
 d0:0 <= p.dev
 d1:p.dev <= 65535
 r:∀ x ∈ p.runs,(0 <= x.lo /\ x.lo <= 18446744073709551615) /\ 0 <= x.hi /\ x.hi <= 18446744073709551615
theorem w6a {x:RN} (h:(0 <= x.lo /\ x.lo <= 18446744073709551615) /\ 0 <= x.hi /\ x.hi <= 18446744073709551615):(y1a x).length <= 18:=by
 have h1:=N.yL h.1.2;have h2:=N.yL h.2.2;rw [y1a,List.length_append];omega
theorem encP_len {p:PT} (h:OkP p) (hl:p.runs.length <= 1000000000000):(w5a p).length <= 18 + 18 * p.runs.length:=by
 have h1:=N.yL (v:=p.dev) (by have:=h.d1;omega);have h2:=N.yL (v:=(p.runs.length:Int)) (by omega);have h3:=UN p.runs y1a 18 fun x hx=>w6a (h.r x hx)
 rw [w5a,List.length_append,List.length_append];omega
theorem y2a (c:List PT) (h:∀ p ∈ c,OkP p) (hl:C.xC c <= 1000000000000):(c.flatMap w5a).length <= 18 * c.length + 18 * C.xC c:=by
 induction c with
 | nil=>simp
 | cons p r ih=>
  have e:C.xC (p :: r) = p.runs.length + C.xC r:=by simp [C.xC]
  have h1:=encP_len (h p (by simp)) (by omega);have h2:=ih (fun q hq=>h q (by simp [hq])) (by omega);rw [List.flatMap_cons,List.length_append,List.length_cons,e];omega
theorem w7a {c:List PT} (h:∀ p ∈ c,OkP p) (hc:c.length <= 1000000000000) (hl:C.xC c <= 1000000000000):(wya c).length <= 9 + 18 * c.length + 18 * C.xC c:=by
 have h1:=N.yL (v:=(c.length:Int)) (by omega);have h2:=y2a c h hl;rw [wya,List.length_append];omega
theorem XU {c:List PT} (h:∀ p ∈ c,p.dev <= 65535):∀ p ∈ C.zQ c,OkP p:=fun p hp=>by
 have h1:=(C.yM c).nf p hp;refine ⟨by omega,?_,fun x hx=>?_⟩
 ·have h2:=(C.uD.1 hp).1;obtain ⟨q,hq,e⟩:=(C.vA.1 h2).1;rw [<- e];exact h q hq
 ·have:=R.zg.1 (h1.2.2.may x hx);omega


theorem UO {c:List PT} (ho:C.Ok c) (h:∀ p ∈ c,p.dev <= 65535) (hs:c.length <= 100000000 /\ C.xC c <= 100000000) (row:List Int) (hr:row.length <= 100000000000):yz c row = pure (row ++ vl c):=by
 have hn:=C.yw c;have ht:=C.yx c;have hp:=XU h;have hl:=w7a hp (by omega) (by omega);have h9:=N.yL (v:=((C.zQ c).length:Int)) (by omega);have hf:=y2a (C.zQ c) hp (by omega);unfold yz;rw [C.VR c ho.sm,zB,zA,VV (by omega) (by omega),N.Zf row (by omega) (by omega) (by omega),zB,zA];have:=zra (body:=wA (C.zQ c)) (C.zQ c) w5a (row ++ N.vk ((C.zQ c).length:Int)) 1000000000000 (fun i out=>((i:Int),out)) (fun t=>pure t) (by rw [List.length_append];omega) (fun i p out hx hi hout=>by
  have hd:decide ((i:Int) < ((C.zQ c).length:Int)) = true:=by simpa using hi
  have hm:=List.mem_of_getElem? hx;have hpp:=hp p hm;have hrl:p.runs.length <= 1000000000:=by have:=C.Ju p hm;omega
  have e1:=N.yL (v:=p.dev) (by have:=hpp.d1;omega);have e2:=N.yL (v:=(p.runs.length:Int)) (by omega);have e3:=UN p.runs y1a 18 fun x hx=>w6a (hpp.r x hx)
  unfold wA;simp only [hd,cond_true,zF hx,zA];rw [VV hpp.d0 (by have:=hpp.d1;omega),N.Zf out hpp.d0 (by have:=hpp.d1;omega) (by omega),zB,zA,VV (by omega) (by omega),N.Zf _ (by omega) (by omega) (by rw [List.length_append];omega),zB,zA];have:=zra (body:=xz p) p.runs y1a (out ++ N.vk p.dev ++ N.vk (p.runs.length:Int)) 2000000000000 (fun i out=>((i:Int),out)) (fun t=>pure t) (by rw [List.length_append,List.length_append];omega) (fun j x out2 hx2 hj hout2=>by
   have hd2:decide ((j:Int) < (p.runs.length:Int)) = true:=by simpa using hj
   have hxr:=hpp.r x (List.mem_of_getElem? hx2);have e4:=N.yL hxr.1.2;unfold xz;simp only [hd2,cond_true,zF hx2,zA];rw [N.Zf out2 hxr.1.1 hxr.1.2 (by omega),zB,zA,N.Zf _ hxr.2.1 hxr.2.2 (by rw [List.length_append];omega),zB,zA,zo (show j < 9223372036854775807 by omega),y1a,List.append_assoc]) (fun out=>by
   unfold xz;simp [zA])
  rw [show (0:Int) = ((0:Nat):Int) from rfl,this,zA,zo (show i < 9223372036854775807 by omega),w5a];simp only [List.append_assoc]) (fun out=>by
  unfold wA;simp [zA])
 rw [show (0:Int) = ((0:Nat):Int) from rfl,this,vl,wya,List.append_assoc]
theorem wCa (c:List PT) (h:∀ p ∈ C.zQ c,OkP p) (hl:(C.zQ c).length <= 1000000000000 /\ C.xC (C.zQ c) <= 1000000000000):N.By (vl c):=by
 have hR:∀ p,OkP p -> ∀ x ∈ p.runs,N.By (y1a x):=fun p hp x hx=>(N.Yc (hp.r x hx).1.2).app (N.Yc (hp.r x hx).2.2)
 have flat:∀ {ε:Type} (l:List ε) (f:ε -> List Int),(∀ x ∈ l,N.By (f x)) -> N.By (l.flatMap f):=fun l f hf y hy=>by
  obtain ⟨x,hx,h⟩:=List.mem_flatMap.1 hy;exact hf x hx y h
 refine (N.Yc (by omega)).app (flat _ _ fun p hp=>?_);have hpp:=h p hp;have:=C.Ju p hp;exact (N.Yc (by have:=hpp.d1;omega)).app ((N.Yc (by omega)).app (flat _ _ (hR p hpp)))
open N (RS Ok za xB uy ZZa Sim)

def qX (c:Bool) (s:RS):RS:=if c = true then uy 4 s else s
def fin {α:Type} (z x:α) (t:RS):α × RS:=if t.2 ≠ 0 then (z,t) else (x,t)
theorem fail_le (e:Int) (s:RS):(uy e s).1.length <= s.1.length:=by unfold uy;split <;> simp
theorem qA {s:RS} (h:Ok s) (c:Bool):Ok (qX c s):=by unfold qX;split;exact N.VT h _;exact h
theorem qB {c:Bool} {s:RS} (h:(qX c s).2 = 0):c = false /\ s.2 = 0 /\ qX c s = s:=by
 unfold qX at h ⊢
 cases c with
 | true=>exact absurd h (N.uz (by decide))
 | false=>exact ⟨rfl,h,rfl⟩
theorem Zga {s:RS}:(qX true s).2 ≠ 0:=N.uz (by decide)
theorem Ye {s:RS}:qX false s = s:=rfl
theorem w8a {α:Type} (z x:α) (t:RS):(fin z x t).2 = t:=by unfold fin;split <;> rfl
theorem QP {α:Type} {z x:α} {t:RS} (h:t.2 = 0):fin z x t = (x,t):=if_neg (by simp [h])
theorem Uz {α:Type} {z x:α} {t:RS} (h:t.2 ≠ 0):fin z x t = (z,t):=if_pos h
theorem wDa (c:Bool) (s:RS):((cond c ((det (zI 4 s.1 s.2)).bind fun y=>pure (y.1,y.2)) (pure (s.1,s.2))):M RS) = pure (qX c s):=by
 cases c with
 | true=>rw [cond_true,N.YI,zB,zA];rfl
 | false=>rfl
theorem zua (c:Bool) (s:RS):((cond (!c) ((det (zI 4 s.1 s.2)).bind fun y=>pure (y.1,y.2)) (pure (s.1,s.2))):M RS) = pure (qX (!c) s):=wDa (!c) s
theorem wEa {α:Type} (z x:α) (t:RS):((det (zM t.1 t.2)).bind fun y=>(cond (!decide (y.1 = 0)) (pure (z,y.2.1,y.2.2)) (pure (x,y.2.1,y.2.2)):M (α × List Int × Int))) = pure (fin z x t):=by
 rw [N.WC,zB,zA]
 by_cases h:t.2 = 0
 ·rw [QP h,decide_eq_true h];rfl
 ·rw [Uz h,decide_eq_false h];rfl
theorem Zha (s:RS):(za s).2.1.length <= s.1.length:=by
 unfold za
 split
 ·exact Nat.le_refl _
 ·split
  ·exact fail_le _ _
  ·simp
theorem y3a {s:RS} (hO:Ok s) (h0:s.2 = 0) (h:(za s).2.2 = 0):(za s).2.1.length + 1 <= s.1.length:=by
 unfold za at h ⊢;rw [if_neg (by simp [h0])] at h ⊢
 by_cases c:(N.rdN s.1).2.2 = 0
 ·rw [if_neg (by simp [c])];rcases N.Jx s.1 hO.by_ with (h1 | h1) | ⟨n,r,h1,h2,h3,h4,_,h5⟩
  ·rw [h1] at c;simp at c
  ·rw [h1] at c;simp at c
  ·rw [h5,h1];simp
 ·rw [if_pos c] at h;exact absurd h (N.uz c)
theorem XV {s:RS} (h:(za s).2.2 ≠ 0):(za s).1 = 0:=by
 unfold za at h ⊢
 by_cases c:s.2 ≠ 0
 ·rw [if_pos c]
 ·rw [if_neg c] at h ⊢
  by_cases c2:(N.rdN s.1).2.2 ≠ 0
  ·rw [if_pos c2]
  ·rw [if_neg c2] at h;exact absurd rfl h
theorem num_bad {s:RS} (h:s.2 ≠ 0):(za s).2 = s:=by rw [N.num_of h]
theorem jJ {s:RS} (h:(za s).2.2 = 0):s.2 = 0:=Classical.byContradiction fun c=>by rw [num_bad c] at h;exact c h
theorem zva {m:Int} {s:RS} (h:(xB m s).2.2 = 0):(za s).2.2 = 0 /\ xB m s = za s:=by
 unfold xB at h ⊢
 by_cases c:m < (za s).1
 ·rw [if_pos c] at h;exact absurd h (N.uz (by decide))
 ·rw [if_neg c] at h ⊢;exact ⟨h,rfl⟩

def dotR (s:RS):DT:=⟨(xB 65535 s).1,(za (xB 65535 s).2).1⟩
def dotT (s:RS):RS:=qX (!V.zt (dotR s)) (za (xB 65535 s).2).2
def Xg (s:RS):DT × RS:=fin ⟨0,0⟩ (dotR s) (dotT s)
theorem y4a {s:RS} (h:Ok s):Ok (Xg s).2 /\ OkD (Xg s).1 /\ OkD (dotR s):=by
 obtain ⟨h1,h2,h3⟩:=N.Jy h (m:=65535) (by decide);obtain ⟨h4,h5,h6⟩:=N.vh h1;have ht:Ok (dotT s):=qA h4 _;have hr:OkD (dotR s):=⟨h2,h3,h5,h6⟩
 unfold Xg
 by_cases c:(dotT s).2 = 0
 ·rw [QP c];exact ⟨ht,hr,hr⟩
 ·rw [Uz c];exact ⟨ht,⟨Int.le_refl _,by simp,Int.le_refl _,by simp⟩,hr⟩
theorem w9a {s:RS} (h:(Xg s).2.2 = 0):V.zt (Xg s).1 = true /\ (xB 65535 s).2.2 = 0 /\ (za (xB 65535 s).2).2.2 = 0 /\ Xg s = (dotR s,(za (xB 65535 s).2).2):=by
 unfold Xg at h ⊢;rw [w8a] at h;rw [QP h];obtain ⟨h1,h2,h3⟩:=qB h;refine ⟨by simpa using h1,jJ h2,h2,?_⟩;show (dotR s,dotT s) = _;rw [show dotT s = (za (xB 65535 s).2).2 from h3]
theorem dot_lt {s:RS} (hO:Ok s) (h0:s.2 = 0) (h:(Xg s).2.2 = 0):(Xg s).2.1.length + 1 <= s.1.length:=by
 obtain ⟨_,h1,h2,h3⟩:=w9a h;obtain ⟨h4,h5⟩:=zva h1;rw [h3];have h6:=Zha (xB 65535 s).2;rw [h5] at h6 ⊢;have h7:=y3a hO h0 h4;exact Nat.le_trans (Nat.add_le_add_right h6 1) h7
theorem Dot_eq {s:RS} (h:Ok s):vw s.1 s.2 = pure (Xg s):=by
 obtain ⟨h1,h2,h3⟩:=N.Jy h (m:=65535) (by decide);unfold vw Xg;rw [N.Zba h,zB,zA,N.Wx h1,zB,zA,wU16 h2 h3,V.ZY,zB,zA];have e:=zua (V.zt (dotR s)) (za (xB 65535 s).2).2;unfold dotR at e;rw [e,zA];exact wEa _ _ _
variable {B:List Int} {a:Int} {s:RS}
def jK (out:List DT) (x:DT):Bool:=match out.getLast? with | some y=>decide (0 <= V.QH y x) | none=>false
def XW (out:List DT) (s:RS):RS:=qX (jK out (Xg s).1) (Xg s).2
def zy : Nat -> List DT -> RS -> List DT × RS
 | 0,out,s=>(out,s)
 | k + 1,out,s=>if (XW out s).2 ≠ 0 then ([],XW out s) else zy k (out ++ [(Xg s).1]) (XW out s)
def vi (most:Int) (s:RS):List DT × RS:=if max most 0 < (za s).1 then ([],uy 3 (za s).2) else zy (za s).1.toNat [] (za s).2
theorem UP {k:Nat} {out:List DT} {s:RS} (h:(XW out s).2 ≠ 0):zy (k + 1) out s = ([],XW out s):=if_pos h
theorem Yf {k:Nat} {out:List DT} {s:RS} (h:(XW out s).2 = 0):zy (k + 1) out s = zy k (out ++ [(Xg s).1]) (XW out s):=if_neg (by simp [h])
theorem jv {s:RS} (h:Ok s) (out:List DT):Ok (XW out s):=qA (y4a h).1 _
theorem vAa : ∀ (k:Nat) (out:List DT) (s:RS),Ok s -> Ok (zy k out s).2
 | 0,_,_,h=>h
 | k + 1,out,s,h=>by
  by_cases c:(XW out s).2 = 0
  ·rw [Yf c];exact vAa k _ _ (jv h out)
  ·rw [UP c];exact jv h out
theorem zla {s:RS} (h:Ok s) (most:Int):Ok (vi most s).2:=by
 have h1:=N.vh h;unfold vi
 split
 ·exact N.VT h1.1 _
 ·exact vAa _ _ _ h1.1
theorem last_idx {out:List DT} (h:out.length <= 1000000000000) (x:DT) (cmp:DT -> DT -> M Int) (hc:∀ y,cmp y x = pure (V.QH y x)) :
  ((cond (decide (0 <= IntKind.i64.wrap ((out.length:Int) - 1))) ((idx out (IntKind.i64.wrap ((out.length:Int) - 1))).bind fun x61=>(det (cmp x61 x)).bind fun v63=>pure (decide (0 <= v63))) (pure false)):M Bool) = pure (jK out x):=by
 unfold jK;rcases R.xU out with rfl | ⟨r,y,rfl⟩
 ·rfl
 ·have hl:((r ++ [y]).length:Int) - 1 = (r.length:Int):=by simp
  rw [hl,Xi (by omega) (by simp at h;omega)];have:decide ((0:Int) <= (r.length:Int)) = true:=by simp
  rw [this,cond_true,zF (y:=y) (by simp),zA,hc,zB,zA];simp
theorem vBa {out:List DT} {s:RS} (h:(XW out s).2 = 0):jK out (Xg s).1 = false /\ (Xg s).2.2 = 0 /\ XW out s = (Xg s).2:=qB h
theorem y5a {y4:Int × List Int × Int} (hn:0 <= y4.1 /\ y4.1 <= 18446744073709551615):∀ (k i:Nat) (out:List DT) (s:RS),(i:Int) + k = y4.1 -> Ok s -> s.2 = 0 -> out.length + s.1.length <= 1000000000 ->
  (loop (xM y4) ((i:Int),out,s.1,s.2)).bind (exk fun ⟨out9,v10,v11⟩=>pure (out9,v10,v11)) = pure (zy k out s)
 | 0,i,out,s,hi,_,_,_=>by
  rw [zY (r:=.brk (out,s.1,s.2)) (by
   unfold xM;have:decide ((i:Int) < y4.1) = false:=by simp;omega
   simp only [this,cond_false])]
  rfl
 | k + 1,i,out,s,hi,hO,h0,hl=>by
  have hd:=y4a hO;have hc:decide ((i:Int) < y4.1) = true:=by simp;omega
  have hlast:=last_idx (out:=out) (by omega) (Xg s).1 vR (fun y=>QO y _);have hw:IntKind.u64.wrap ((i:Int) + 1) = ((i + 1:Nat):Int):=by rw [VV (by omega) (by omega)];omega
  have hb:xM y4 ((i:Int),out,s.1,s.2) = (det (zM (XW out s).1 (XW out s).2)).bind fun y70=>cond (!decide (y70.1 = 0)) (pure (.done (.ret ([],y70.2.1,y70.2.2)))) (yW ((out.length + [(Xg s).1].length) * 16 <= 140737488355328) (pure (.next (IntKind.u64.wrap ((i:Int) + 1),out ++ [(Xg s).1],y70.2.1,y70.2.2)))):=by
   unfold xM;have e:=wDa (jK out (Xg s).1) (Xg s).2;simp only [hc,cond_true,Dot_eq hO,zB,zA];rw [hlast,zA,e,zA]
   rfl
  rw [N.WC,zB,zA] at hb
  by_cases c:(XW out s).2 = 0
  ·obtain ⟨_,c2,c3⟩:=vBa c;have hlt:=dot_lt hO h0 c2;rw [decide_eq_true c,Bool.not_true,cond_false,zD (by simp;omega),hw] at hb;rw [zl hb,Yf c];exact y5a hn k (i + 1) _ (XW out s) (by omega) (jv hO out) c (by rw [c3];simp;omega)
  ·rw [decide_eq_false c,Bool.not_false,cond_true] at hb;rw [zY hb,UP c]
   rfl
theorem WE {s:RS} (hO:Ok s) {most:Int} (hm:most <= 9223372036854775807):uS most s.1 s.2 = pure (vi most s):=by
 obtain ⟨h1,h2,h3⟩:=N.vh hO;unfold uS vi;rw [N.Wx hO,zB,zA,VV (n:=max most 0) (by omega) (by omega)]
 by_cases c:max most 0 < (za s).1
 ·rw [decide_eq_true c,cond_true,if_pos c,N.YI 3 (za s).2,zB,zA]
 ·rw [decide_eq_false c,cond_false,if_neg c]
  by_cases c2:(za s).2.2 = 0
  ·exact y5a (y4:=za s) ⟨h2,h3⟩ (za s).1.toNat 0 [] (za s).2 (by omega) h1 c2 (by simp;have:=h1.len;omega)
  ·have hz:=XV c2;rw [hz,zY (r:=.brk ([],(za s).2.1,(za s).2.2)) (by
    unfold xM;simp only [hz,show decide ((0:Int) < 0) = false from rfl,cond_false])]
   rfl
open N (RS Ok za xB uy ZZa Sim)

def Xh : Nat -> List RN -> RS -> List RN × RS
 | 0,out,s=>(out,s)
 | k + 1,out,s=>
  if (za (za s).2).2.2 ≠ 0 then (out ++ [⟨(za s).1,(za (za s).2).1⟩],(za (za s).2).2) else Xh k (out ++ [⟨(za s).1,(za (za s).2).1⟩]) (za (za s).2).2
def wi (s:RS):PT × RS:=(⟨(xB 65535 s).1,(Xh (za (xB 65535 s).2).1.toNat [] (za (xB 65535 s).2).2).1⟩,(Xh (za (xB 65535 s).2).1.toNat [] (za (xB 65535 s).2).2).2)
theorem y6a {k:Nat} {out:List RN} {s:RS} (h:(za (za s).2).2.2 ≠ 0):Xh (k + 1) out s = (out ++ [⟨(za s).1,(za (za s).2).1⟩],(za (za s).2).2):=if_pos h
theorem jA {k:Nat} {out:List RN} {s:RS} (h:(za (za s).2).2.2 = 0):Xh (k + 1) out s = Xh k (out ++ [⟨(za s).1,(za (za s).2).1⟩]) (za (za s).2).2:=if_neg (by simp [h])
theorem two_lt {s:RS} (hO:Ok s) (h0:s.2 = 0) (h:(za (za s).2).2.2 = 0):(za (za s).2).2.1.length + 2 <= s.1.length:=by
 have h1:=jJ h;have h2:=y3a hO h0 h1;have h3:=y3a (N.vh hO).1 h1 h;omega
theorem two_le (s:RS):(za (za s).2).2.1.length <= s.1.length:=Nat.le_trans (Zha _) (Zha _)
def Zia (x:RN):Prop:=(0 <= x.lo /\ x.lo <= 18446744073709551615) /\ 0 <= x.hi /\ x.hi <= 18446744073709551615
theorem ok_two {s:RS} (h:Ok s):Ok (za (za s).2).2 /\ Zia ⟨(za s).1,(za (za s).2).1⟩:=by
 obtain ⟨h1,h2,h3⟩:=N.vh h;obtain ⟨h4,h5,h6⟩:=N.vh h1;exact ⟨h4,⟨h2,h3⟩,h5,h6⟩
theorem qC : ∀ (k:Nat) (out:List RN) (s:RS),Ok s -> s.2 = 0 -> (∀ x ∈ out,Zia x) -> Ok (Xh k out s).2 /\ (∀ x ∈ (Xh k out s).1,Zia x) /\ (Xh k out s).1.length + (Xh k out s).2.1.length <= out.length + s.1.length + 1 /\
  ((Xh k out s).2.2 = 0 -> (Xh k out s).1.length + (Xh k out s).2.1.length <= out.length + s.1.length /\ (Xh k out s).1.length = out.length + k)
 | 0,out,s,h,_,ho=>⟨h,ho,by show out.length + s.1.length <= _;omega,fun _=>⟨Nat.le_refl _,rfl⟩⟩
 | k + 1,out,s,h,h0,ho=>by
  obtain ⟨h1,h2⟩:=ok_two h;have ho':∀ x ∈ out ++ [⟨(za s).1,(za (za s).2).1⟩],Zia x:=fun x hx=>by
   rcases List.mem_append.1 hx with h | h
   ·exact ho x h
   ·rw [List.mem_singleton.1 h];exact h2
  by_cases c:(za (za s).2).2.2 = 0
  ·rw [jA c];obtain ⟨q1,q2,q3,q4⟩:=qC k _ _ h1 c ho';have hlt:=two_lt h h0 c;simp only [List.length_append,List.length_singleton] at q3 q4;refine ⟨q1,q2,by omega,fun hz=>?_⟩;have:=q4 hz;omega
  ·rw [y6a c];have:=two_le s;exact ⟨h1,ho',by simp;omega,fun hz=>absurd hz c⟩
theorem y7a {y5:Int × List Int × Int} (hn:0 <= y5.1 /\ y5.1 <= 18446744073709551615):∀ (k i:Nat) (out:List RN) (s:RS),(i:Int) + k = y5.1 -> Ok s -> s.2 = 0 -> out.length + s.1.length <= 1000000000 ->
  loop (xL y5) ((i:Int),out,s.1,s.2) = pure (Xh k out s)
 | 0,i,out,s,hi,_,_,_=>by
  exact zY (by
   unfold xL;have:decide ((i:Int) < y5.1) = false:=by simp;omega
   simp only [this,cond_false]
   rfl)
 | k + 1,i,out,s,hi,hO,h0,hl=>by
  obtain ⟨h1,h2,h3⟩:=N.vh hO;have hc:decide ((i:Int) < y5.1) = true:=by simp;omega
  have hw:IntKind.u64.wrap ((i:Int) + 1) = ((i + 1:Nat):Int):=by rw [VV (by omega) (by omega)];omega
  have hb:xL y5 ((i:Int),out,s.1,s.2) = cond (!decide ((za (za s).2).2.2 = 0)) (pure (.done (out ++ [⟨(za s).1,(za (za s).2).1⟩],(za (za s).2).2))) (pure (.next (((i + 1:Nat):Int),out ++ [⟨(za s).1,(za (za s).2).1⟩],(za (za s).2).2.1,(za (za s).2).2.2))):=by
   unfold xL;simp only [hc,cond_true,N.Wx hO,N.Wx h1,zB,zA,N.WC];rw [zD (by simp;omega),hw]
  by_cases c:(za (za s).2).2.2 = 0
  ·have hlt:=two_lt hO h0 c;rw [decide_eq_true c,Bool.not_true,cond_false] at hb;rw [zl hb,jA c];exact y7a hn k (i + 1) _ (za (za s).2).2 (by omega) (ok_two hO).1 c (by simp;omega)
  ·rw [decide_eq_false c,Bool.not_false,cond_true] at hb;rw [zY hb,y6a c]
theorem part_eq {s:RS} (hO:Ok s):Zy s.1 s.2 = pure (wi s):=by
 obtain ⟨h1,h2,h3⟩:=N.Jy hO (m:=65535) (by decide);obtain ⟨h4,h5,h6⟩:=N.vh h1;unfold Zy wi;rw [N.Zba hO,zB,zA,N.Wx h1,zB,zA,wU16 h2 h3]
 by_cases c:(za (xB 65535 s).2).2.2 = 0
 ·have:=y7a (y5:=za (xB 65535 s).2) ⟨h5,h6⟩ (za (xB 65535 s).2).1.toNat 0 [] (za (xB 65535 s).2).2 (by omega) h4 c (by simp;have:=h4.len;omega);rw [show ((0:Nat):Int) = 0 from rfl] at this;rw [this,zA]
 ·have hz:=XV c;rw [hz,zY (r:=([],(za (xB 65535 s).2).2)) (by
   unfold xL;simp only [hz,show decide ((0:Int) < 0) = false from rfl,cond_false]),zA]
  rfl
theorem QQ {s:RS} (hO:Ok s) (h0:s.2 = 0):Ok (wi s).2 /\ OkP (wi s).1 /\ ((wi s).1.runs.length <= 1000000001) /\ ((wi s).2.2 = 0 -> (wi s).1.runs.length + (wi s).2.1.length + 2 <= s.1.length):=by
 obtain ⟨h1,h2,h3⟩:=N.Jy hO (m:=65535) (by decide);obtain ⟨h4,h5,h6⟩:=N.vh h1;have hl:=h4.len;unfold wi
 by_cases c:(za (xB 65535 s).2).2.2 = 0
 ·obtain ⟨q1,q2,q3,q4⟩:=qC (za (xB 65535 s).2).1.toNat [] _ h4 c (by simp);refine ⟨q1,⟨h2,h3,q2⟩,by simp at q3 ⊢;omega,fun hz=>?_⟩;have hq:=q4 hz;obtain ⟨e1,e2⟩:=zva (jJ c);have h7:=y3a hO h0 e1;have h8:=y3a h1 (jJ c) c;rw [e2] at h8 hq ⊢;simp only [List.length_nil,Nat.zero_add] at hq ⊢;omega
 ·rw [XV c];refine ⟨h4,⟨h2,h3,by intro x hx;cases hx⟩,by simp [Xh],fun hz=>absurd hz c⟩
def jw : Nat -> List PT -> RS -> Bool × List PT × RS
 | 0,out,s=>(true,out,s)
 | k + 1,out,s=>if (wi s).2.2 ≠ 0 then (false,[],(wi s).2) else jw k (out ++ [(wi s).1]) (wi s).2
def UQ (s:RS):List PT × RS:=
 let r:=jw (za s).1.toNat [] (za s).2
 if r.1 = true then fin [] r.2.1 (qX (!decide (r.2.1 = C.zQ r.2.1)) r.2.2) else ([],r.2.2)
theorem zwa {k:Nat} {out:List PT} {s:RS} (h:(wi s).2.2 ≠ 0):jw (k + 1) out s = (false,[],(wi s).2):=if_pos h
theorem UR {k:Nat} {out:List PT} {s:RS} (h:(wi s).2.2 = 0):jw (k + 1) out s = jw k (out ++ [(wi s).1]) (wi s).2:=if_neg (by simp [h])
theorem tot_snoc (c:List PT) (p:PT):C.xC (c ++ [p]) = C.xC c + p.runs.length:=by rw [C.XQ];simp [C.xC]
theorem jB : ∀ (k:Nat) (out:List PT) (s:RS),Ok s -> s.2 = 0 -> (∀ p ∈ out,OkP p) -> out.length + C.xC out + s.1.length <= 1000000000 -> Ok (jw k out s).2.2 /\ (∀ p ∈ (jw k out s).2.1,OkP p) /\ (jw k out s).2.1.length + C.xC (jw k out s).2.1 <= 1000000000 /\
  ((jw k out s).1 = true ↔ (jw k out s).2.2.2 = 0) /\ ((jw k out s).1 = true -> (jw k out s).2.1.length = out.length + k /\ (jw k out s).2.2.1.length <= s.1.length)
 | 0,out,s,h,h0,ho,hl=>⟨h,ho,by show out.length + C.xC out <= _;omega,⟨fun _=>h0,fun _=>rfl⟩,fun _=>⟨rfl,Nat.le_refl _⟩⟩
 | k + 1,out,s,h,h0,ho,hl=>by
  obtain ⟨h1,h2,h3,h4⟩:=QQ h h0
  by_cases c:(wi s).2.2 = 0
  ·rw [UR c];have:=h4 c;obtain ⟨q1,q2,q3,q4,q5⟩:=jB k (out ++ [(wi s).1]) (wi s).2 h1 c (fun p hp=>by
    rcases List.mem_append.1 hp with h | h
    ·exact ho p h
    ·rw [List.mem_singleton.1 h];exact h2) (by rw [tot_snoc];simp;omega)
   refine ⟨q1,q2,q3,q4,fun hz=>?_⟩;have:=q5 hz;simp at this;omega
  ·rw [zwa c];exact ⟨h1,by simp,by simp [C.xC],⟨fun h=>(by cases h),fun h=>absurd h c⟩,fun h=>(by cases h)⟩
theorem vCa : ∀ (k:Nat) (out:List PT) (s:RS),(jw k out s).1 = false -> (jw k out s).2.1 = []
 | 0,out,s,h=>by cases h
 | k + 1,out,s,h=>by
  by_cases c:(wi s).2.2 = 0
  ·rw [UR c] at h ⊢;exact vCa k _ _ h
  ·rw [zwa c]
theorem vDa {y3:Int × List Int × Int} (hn:0 <= y3.1 /\ y3.1 <= 18446744073709551615):∀ (k i:Nat) (out:List PT) (s:RS),(i:Int) + k = y3.1 -> Ok s -> s.2 = 0 -> out.length + s.1.length <= 1000000000 ->
  loop (xe y3) ((i:Int),out,s.1,s.2) = pure (if (jw k out s).1 = true then .brk (jw k out s).2 else .ret (jw k out s).2)
 | 0,i,out,s,hi,_,_,_=>by
  exact zY (by
   unfold xe;have:decide ((i:Int) < y3.1) = false:=by simp;omega
   simp only [this,cond_false]
   rfl)
 | k + 1,i,out,s,hi,hO,h0,hl=>by
  obtain ⟨h1,h2,h3,h4⟩:=QQ hO h0;have hc:decide ((i:Int) < y3.1) = true:=by simp;omega
  have hw:IntKind.u64.wrap ((i:Int) + 1) = ((i + 1:Nat):Int):=by rw [VV (by omega) (by omega)];omega
  have hb:xe y3 ((i:Int),out,s.1,s.2) = cond (!decide ((wi s).2.2 = 0)) (pure (.done (.ret ([],(wi s).2)))) (pure (.next (((i + 1:Nat):Int),out ++ [(wi s).1],(wi s).2.1,(wi s).2.2))):=by
   unfold xe;simp only [hc,cond_true,part_eq hO,zB,zA,N.WC];rw [zD (by simp;omega),hw]
  by_cases c:(wi s).2.2 = 0
  ·have hlt:=h4 c;rw [decide_eq_true c,Bool.not_true,cond_false] at hb;rw [zl hb,UR c];exact vDa hn k (i + 1) _ (wi s).2 (by omega) h1 c (by simp;omega)
  ·rw [decide_eq_false c,Bool.not_false,cond_true] at hb;rw [zY hb,zwa c]
   rfl
theorem okC_of {c:List PT} (h:∀ p ∈ c,OkP p) (hl:c.length + C.xC c <= 1000000000):C.Ok c:=⟨fun p hp=>(h p hp).d0,by omega,by omega⟩
theorem Zja {s:RS} (hO:Ok s):vF s.1 s.2 = pure (UQ s):=by
 obtain ⟨h1,h2,h3⟩:=N.vh hO;unfold vF UQ;rw [N.Wx hO,zB,zA];have good:∀ (c:List PT) (t:RS),C.Ok c -> ((det (uI c)).bind fun v37=>cond (!v37) ((det (zI 4 t.1 t.2)).bind fun y40=>pure (([]:List PT),y40.1,y40.2)) (pure (c,t.1,t.2))) = pure (if decide (c = C.zQ c) = true then (c,t) else ([],uy 4 t)):=fun c t hc=>by
  rw [C.uF c hc.sm,zB,zA]
  cases decide (c = C.zQ c) with
  | true=>rfl
  | false=>rw [Bool.not_false,cond_true,N.YI,zB,zA];rfl
 by_cases c2:(za s).2.2 = 0
 ·have:=vDa (y3:=za s) ⟨h2,h3⟩ (za s).1.toNat 0 [] (za s).2 (by omega) h1 c2 (by simp;have:=h1.len;omega);rw [show ((0:Nat):Int) = 0 from rfl] at this;rw [this,zA];obtain ⟨q1,q2,q3,q4,_⟩:=jB (za s).1.toNat [] (za s).2 h1 c2 (by simp) (by simp [C.xC];have:=h1.len;omega);have qn:=vCa (za s).1.toNat [] (za s).2
  generalize jw (za s).1.toNat [] (za s).2 = r at *
  obtain ⟨b,c,t⟩:=r;simp only [] at *
  cases b with
  | false=>rw [qn rfl];rfl
  | true=>
   have hz:=q4.1 rfl;show ((det (uI c)).bind _) = _;rw [good c t (okC_of q2 q3),if_pos rfl]
   cases hg:decide (c = C.zQ c) with
   | true=>rw [if_pos rfl,Bool.not_true,Ye,QP hz]
   | false=>rw [if_neg (by simp),Bool.not_false,Uz Zga];rfl
 ·have hz:=XV c2;rw [hz,zY (r:=.brk ([],(za s).2)) (by
   unfold xe;simp only [hz,show decide ((0:Int) < 0) = false from rfl,cond_false]),zA]
  show ((det (uI [])).bind _) = pure (if true = true then fin [] [] (qX (!decide (([]:List PT) = C.zQ [])) (za s).2) else ([],(za s).2));rw [good [] (za s).2 C.ok_nil,if_pos rfl];have e:C.zQ [] = []:=rfl;rw [e];simp only [decide_true,if_true,Bool.not_true,Ye];rw [Uz c2]
theorem qD {s:RS} (hO:Ok s):Ok (UQ s).2 /\ (∀ p ∈ (UQ s).1,OkP p) /\ (UQ s).1.length + C.xC (UQ s).1 <= 1000000000 /\ ((UQ s).2.2 ≠ 0 -> (UQ s).1 = []) /\ ((UQ s).2.2 = 0 -> (UQ s).1 = C.zQ (UQ s).1):=by
 obtain ⟨h1,h2,h3⟩:=N.vh hO;unfold UQ
 by_cases c2:(za s).2.2 = 0
 ·obtain ⟨q1,q2,q3,q4,_⟩:=jB (za s).1.toNat [] (za s).2 h1 c2 (by simp) (by simp [C.xC];have:=h1.len;omega)
  generalize jw (za s).1.toNat [] (za s).2 = r at *
  obtain ⟨b,c,t⟩:=r;simp only [] at *
  cases b with
  | false=>exact ⟨q1,by simp,by simp [C.xC],fun _=>rfl,fun _=>rfl⟩
  | true=>
   rw [if_pos rfl,w8a];refine ⟨qA q1 _,?_⟩
   by_cases hb:(qX (!decide (c = C.zQ c)) t).2 = 0
   ·rw [QP hb];have:=(qB hb).1;exact ⟨q2,q3,fun h=>absurd hb h,fun _=>by simpa using this⟩
   ·rw [Uz hb];exact ⟨by simp,by simp [C.xC],fun _=>rfl,fun h=>absurd h hb⟩
 ·rw [XV c2];show Ok (if true = true then fin [] [] (qX (!decide (([]:List PT) = C.zQ [])) (za s).2) else ([],(za s).2)).2 /\ _;have e:C.zQ [] = []:=rfl;simp only [jw,Int.toNat_zero,e,decide_true,Bool.not_true,Ye,if_true,Uz c2];exact ⟨h1,by simp,by simp [C.xC],fun _=>trivial,fun _=>trivial⟩

variable {B:List Int} {a:Int} {s:RS}
open N (RS Ok za xB uy ZZa Sim)

def WF : List DT -> Bool
 | []=>true
 | x :: r=>(match r with | []=>true | y :: _=>zP x y) && WF r
theorem zxa : ∀ {l:List DT},WF l = true ↔ Srt l
 | []=>⟨fun _=>List.Pairwise.nil,fun _=>rfl⟩
 | [x]=>⟨fun _=>by simp [Srt],fun _=>rfl⟩
 | x :: y :: r=>by
  show (zP x y && WF (y :: r)) = true ↔ _;rw [Bool.and_eq_true,zxa (l:=y :: r)];unfold Srt;rw [List.pairwise_cons (a:=x)]
  constructor
  ·rintro ⟨h1,h2⟩;refine ⟨fun z hz=>?_,h2⟩;rcases List.mem_cons.1 hz with rfl | hz
   ·exact h1
   ·exact XS h1 ((List.pairwise_cons.1 h2).1 z hz)
  ·rintro ⟨h1,h2⟩;exact ⟨h1 y (by simp),h2⟩
theorem y8a (x y:DT):decide (0 <= V.QH x y) = !zP x y:=by
 by_cases h:zP x y = true
 ·have:=V.XM.2 h;rw [h];simp;omega
 ·have h2:¬ V.QH x y < 0:=fun e=>h (V.XM.1 e)
  simp only [Bool.not_eq_true] at h;rw [h];simp;omega
theorem vza (l:List DT) (hl:l.length <= 1000000000000):Wg l = pure (WF l):=by
 unfold Wg;have key:∀ (k i:Nat) (x:DT) (r:List DT),i + k = l.length -> l.drop i = r -> i ≠ 0 -> l[i - 1]? = some x -> loop (wI l) (i:Int) = pure (if WF (x :: r) = true then .brk () else .ret false):=by
  intro k
  induction k with
  | zero=>
   intro i x r hi hr h1 hx;have:r = []:=by rw [<- hr];exact List.drop_eq_nil_of_le (by omega)
   subst this;exact zY (by
    unfold wI;have:decide ((i:Int) < (l.length:Int)) = false:=by simp;omega
    simp only [this,cond_false];rfl)
  | succ k ih=>
   intro i x r hi hr h1 hx;have hlt:i < l.length:=by omega
   have hr2:r = l[i] :: l.drop (i + 1):=by rw [<- hr];exact List.drop_eq_getElem_cons hlt
   have hy:=List.getElem?_eq_getElem hlt;have hi1:idx l (IntKind.i64.wrap ((i:Int) - 1)) = pure x:=by
    rw [Xi (by omega) (by omega)];exact YM (by omega) (by rw [show ((i:Int) - 1).toNat = i - 1 by omega];exact hx)
   have hb:wI l (i:Int) = cond (!zP x l[i]) (pure (.done (.ret false))) (pure (.next ((i + 1:Nat):Int))):=by
    unfold wI;have:decide ((i:Int) < (l.length:Int)) = true:=by simp;omega
    simp only [this,cond_true,hi1,zF hy,zA,V.Yb,zB,y8a,zo (show i < 9223372036854775807 by omega)]
   rw [hr2];show _ = (pure (if (zP x l[i] && WF (l[i] :: l.drop (i + 1))) = true then Ex.brk () else Ex.ret false):M (Ex Unit Bool))
   cases c:zP x l[i] with
   | true=>
    rw [c] at hb;rw [zl hb,Bool.true_and];exact ih (i + 1) l[i] _ (by omega) rfl (by omega) hy
   | false=>
    rw [c] at hb;rw [zY hb];rfl
 cases l with
 | nil=>
  rw [zY (r:=.brk ()) (by unfold wI;rfl)];rfl
 | cons x r=>
  have:=key r.length 1 x r (by simp;omega) rfl (by decide) rfl;rw [show ((1:Nat):Int) = 1 from rfl] at this;rw [this,zA]
  cases WF (x :: r) <;> rfl

theorem YJ {v:Int} (h0:0 <= v) (h:v <= 18446744073709551615) (r:List Int):za (N.vk v ++ r,0) = (v,(r,0)):=by
 have e:=N.rdN_enc h0 h r;unfold za;simp only [e,ne_eq,not_true_eq_false,if_false,List.drop_left]
theorem vEa {v m:Int} (h0:0 <= v) (h:v <= m) (hm:m <= 18446744073709551615) (r:List Int):xB m (N.vk v ++ r,0) = (v,(r,0)):=by
 unfold xB;rw [YJ h0 (by omega) r];exact if_neg (by simp;omega)
theorem Zka {d:DT} (h:OkD d) (hg:V.zt d = true) (r:List Int):Xg (encD d ++ r,0) = (d,(r,0)):=by
 have e1:=vEa h.d0 h.d1 (by decide) (N.vk d.n ++ r);have e2:=YJ h.n0 h.n1 r;have e:encD d ++ r = N.vk d.dev ++ (N.vk d.n ++ r):=by rw [encD,List.append_assoc]
 have hR:dotR (encD d ++ r,0) = d:=by unfold dotR;rw [e,e1];simp only [e2]
 unfold Xg dotT;rw [hR,hg,e,e1];simp only [e2,Bool.not_true,Ye]
 rfl
theorem v0a {out:List DT} {x:DT} (h:∀ y ∈ out,zP y x = true):jK out x = false:=by
 unfold jK
 cases hl:out.getLast? with
 | none=>rfl
 | some y=>
  have:=h y (List.mem_of_getLast? hl);simp only [y8a,this,Bool.not_true]
theorem y9a : ∀ (l out:List DT) (r:List Int),Srt (out ++ l) -> (∀ d ∈ l,OkD d /\ V.zt d = true) -> zy l.length out (l.flatMap encD ++ r,0) = (out ++ l,(r,0))
 | [],out,r,_,_=>by simp [zy]
 | x :: t,out,r,hs,h=>by
  have hx:=h x (by simp);have e:Xg ((x :: t).flatMap encD ++ r,0) = (x,(t.flatMap encD ++ r,0)):=by
   rw [List.flatMap_cons,List.append_assoc];exact Zka hx.1 hx.2 _
  have hT:XW out ((x :: t).flatMap encD ++ r,0) = (t.flatMap encD ++ r,0):=by
   unfold XW;rw [e];simp only [];rw [v0a fun y hy=>(List.pairwise_append.1 hs).2.2 y hy x (by simp)]
   rfl
  rw [List.length_cons,Yf (by rw [hT]),hT,e];simp only [];rw [y9a t (out ++ [x]) r (by rw [List.append_assoc];exact hs) (fun d hd=>h d (by simp [hd])),List.append_assoc]
  rfl
theorem US {l:List DT} (hs:Srt l) (h:∀ d ∈ l,V.zt d = true):vK (Zp l) = l:=by
 have e:Zp l = l:=List.filter_eq_self.2 h;rw [e];exact Zda hs
theorem dots_enc {l:List DT} (hs:Srt l) (h:∀ d ∈ l,OkD d /\ V.zt d = true) {most:Int} (hm:(l.length:Int) <= most) (hl:l.length <= 1000000000000) (r:List Int):vi most (ZB l ++ r,0) = (l,(r,0)):=by
 have e1:=US hs fun d hd=>(h d hd).2
 have e2:ZB l ++ r = N.vk (l.length:Int) ++ (l.flatMap encD ++ r):=by rw [ZB,e1,List.append_assoc]
 unfold vi;rw [e2,YJ (by omega) (by omega)];simp only [];rw [if_neg (by omega),Int.toNat_natCast,y9a l [] r (by simpa using hs) h]
 rfl
theorem xAa : ∀ (l out:List RN) (r:List Int),(∀ x ∈ l,Zia x) -> Xh l.length out (l.flatMap y1a ++ r,0) = (out ++ l,(r,0))
 | [],out,r,_=>by simp [Xh]
 | x :: t,out,r,h=>by
  have hx:=h x (by simp);have e1:za ((x :: t).flatMap y1a ++ r,0) = (x.lo,(N.vk x.hi ++ (t.flatMap y1a ++ r),0)):=by
   rw [List.flatMap_cons,y1a,List.append_assoc,List.append_assoc];exact YJ hx.1.1 hx.1.2 _
  have e2:za (N.vk x.hi ++ (t.flatMap y1a ++ r),0) = (x.hi,(t.flatMap y1a ++ r,0)):=YJ hx.2.1 hx.2.2 _;rw [List.length_cons,jA (by rw [e1];simp only [e2]),e1];simp only [e2];rw [xAa t _ r fun y hy=>h y (by simp [hy]),List.append_assoc]
  rfl
theorem part_enc {p:PT} (h:OkP p) (hl:p.runs.length <= 1000000000000) (r:List Int):wi (w5a p ++ r,0) = (p,(r,0)):=by
 have e:w5a p ++ r = N.vk p.dev ++ (N.vk (p.runs.length:Int) ++ (p.runs.flatMap y1a ++ r)):=by rw [w5a,List.append_assoc,List.append_assoc]
 have e1:=vEa h.d0 h.d1 (by decide) (N.vk (p.runs.length:Int) ++ (p.runs.flatMap y1a ++ r));have e2:=YJ (v:=(p.runs.length:Int)) (by omega) (by omega) (p.runs.flatMap y1a ++ r);unfold wi;rw [e,e1];simp only [e2,Int.toNat_natCast];rw [xAa p.runs [] r h.r]
 rfl
theorem vFa : ∀ (c out:List PT) (r:List Int),(∀ p ∈ c,OkP p /\ p.runs.length <= 1000000000000) -> jw c.length out (c.flatMap w5a ++ r,0) = (true,out ++ c,(r,0))
 | [],out,r,_=>by simp [jw]
 | p :: t,out,r,h=>by
  have hp:=h p (by simp);have e:wi ((p :: t).flatMap w5a ++ r,0) = (p,(t.flatMap w5a ++ r,0)):=by
   rw [List.flatMap_cons,List.append_assoc];exact part_enc hp.1 hp.2 _
  rw [List.length_cons,UR (by rw [e]),e];simp only [];rw [vFa t _ r fun q hq=>h q (by simp [hq]),List.append_assoc]
  rfl
theorem ctx_encN {c:List PT} (hc:c = C.zQ c) (h:∀ p ∈ c,OkP p) (hl:c.length <= 1000000000000 /\ C.xC c <= 1000000000000) (r:List Int):UQ (wya c ++ r,0) = (c,(r,0)):=by
 have e:wya c ++ r = N.vk (c.length:Int) ++ (c.flatMap w5a ++ r):=by rw [wya,List.append_assoc]
 have e1:=YJ (v:=(c.length:Int)) (by omega) (by omega) (c.flatMap w5a ++ r);have e2:=vFa c [] r fun p hp=>⟨h p hp,by have:=C.Ju p hp;omega⟩
 unfold UQ;rw [e,e1];simp only [Int.toNat_natCast];simp only [e2,List.nil_append,if_true];have hdc:decide (c = C.zQ c) = true:=decide_eq_true hc;rw [hdc]
 rfl
theorem Zla (c:List PT):C.zQ c = C.zQ (C.zQ c):=(C.xg (C.yM c)).symm
theorem qE {c:List PT} (h:∀ p ∈ c,p.dev <= 65535) (hl:c.length <= 100000000 /\ C.xC c <= 100000000) (r:List Int):UQ (vl c ++ r,0) = (C.zQ c,(r,0)):=
 ctx_encN (Zla c) (XU h) ⟨by have:=C.yw c;omega,by have:=C.yx c;omega⟩ r
theorem end_nil : ZZa ([],0) = (0,([],0)):=rfl

open N (RS Ok za xB uy ZZa Sim)

theorem qG {s:RS} (hO:Ok s) (h:(za s).2.2 = 0):s.1 = N.vk (za s).1 ++ (za s).2.1:=by
 have h0:=jJ h;unfold za at h ⊢;rw [if_neg (by simp [h0])] at h ⊢
 by_cases c:(N.rdN s.1).2.2 = 0
 ·rw [if_neg (by simp [c])];exact N.rdN_one hO.by_ c
 ·rw [if_pos c] at h;exact absurd h (N.uz c)
theorem upto_inv {s:RS} (hO:Ok s) {m:Int} (h:(xB m s).2.2 = 0):s.1 = N.vk (xB m s).1 ++ (xB m s).2.1:=by
 obtain ⟨h1,h2⟩:=zva h;rw [h2];exact qG hO h1
theorem Zma {s:RS} (hO:Ok s) (h:(Xg s).2.2 = 0):s.1 = encD (Xg s).1 ++ (Xg s).2.1:=by
 obtain ⟨_,h1,h2,h3⟩:=w9a h;have e1:=upto_inv hO h1;have e2:=qG (N.Jy hO (m:=65535) (by decide)).1 h2;rw [h3];show s.1 = (N.vk (xB 65535 s).1 ++ N.vk (za (xB 65535 s).2).1) ++ _;rw [List.append_assoc,<- e2];exact e1
theorem xBa : ∀ (k:Nat) (out:List DT) (s:RS),Ok s -> s.2 = 0 -> Srt out -> (∀ d ∈ out,V.zt d = true) -> (zy k out s).2.2 = 0 -> ∃ l,(zy k out s).1 = out ++ l /\ l.length = k /\ s.1 = l.flatMap encD ++ (zy k out s).2.1 /\ Srt (out ++ l) /\ (∀ d ∈ out ++ l,V.zt d = true) /\ ∀ d ∈ l,OkD d
 | 0,out,s,_,_,hs,hg,_=>⟨[],by simp [zy],rfl,by simp [zy],by simpa using hs,by simpa using hg,by simp⟩
 | k + 1,out,s,hO,h0,hs,hg,h=>by
  by_cases c:(XW out s).2 = 0
  ·obtain ⟨c1,c2,c3⟩:=vBa c;rw [Yf c] at h ⊢;have hgd:=(w9a c2).1;have hs2:Srt (out ++ [(Xg s).1]):=by
    unfold Srt;rw [List.pairwise_append];refine ⟨hs,by simp,fun a ha b hb=>?_⟩;rw [List.mem_singleton.1 hb];rcases R.xU out with rfl | ⟨q,y,rfl⟩
    ·simp at ha
    ·have hy:zP y (Xg s).1 = true:=by
      unfold jK at c1;simp only [List.getLast?_append,List.getLast?_singleton,Option.some_or,y8a] at c1;simpa using c1
     rcases List.mem_append.1 ha with h5 | h5
     ·exact XS ((List.pairwise_append.1 hs).2.2 a h5 y (by simp)) hy
     ·rw [List.mem_singleton.1 h5];exact hy
   obtain ⟨l,e1,e2,e3,e4,e5,e6⟩:=xBa k _ _ (jv hO out) c hs2 (fun d hd=>by
    rcases List.mem_append.1 hd with h5 | h5
    ·exact hg d h5
    ·rw [List.mem_singleton.1 h5];exact hgd) h
   refine ⟨(Xg s).1 :: l,by rw [e1];simp,by simp [e2],?_,by simpa using e4,by simpa using e5,fun d hd=>?_⟩
   ·rw [List.flatMap_cons,List.append_assoc,<- e3,c3];exact Zma hO c2
   ·rcases List.mem_cons.1 hd with rfl | h5
    ·exact (y4a hO).2.1
    ·exact e6 d h5
  ·rw [UP c] at h;exact absurd h c
theorem vGa {s:RS} (hO:Ok s) {most:Int} (h:(vi most s).2.2 = 0):s.1 = ZB (vi most s).1 ++ (vi most s).2.1 /\ Srt (vi most s).1 /\ (∀ d ∈ (vi most s).1,V.zt d = true /\ OkD d) /\ ((vi most s).1.length:Int) <= max most 0:=by
 obtain ⟨h1,h2,h3⟩:=N.vh hO;unfold vi at h ⊢
 by_cases c:max most 0 < (za s).1
 ·rw [if_pos c] at h;exact absurd h (N.uz (by decide))
 ·rw [if_neg c] at h ⊢;have c2:(za s).2.2 = 0:=Classical.byContradiction fun c2=>by
   rw [XV c2] at h;exact c2 h
  obtain ⟨l,e1,e2,e3,e4,e5,e6⟩:=xBa _ [] _ h1 c2 List.Pairwise.nil (by simp) h;rw [List.nil_append] at e1 e4 e5;rw [e1];refine ⟨?_,e4,fun d hd=>⟨e5 d hd,e6 d hd⟩,by omega⟩;rw [ZB,US e4 e5,List.append_assoc,<- e3,e2,Int.toNat_of_nonneg h2];exact qG hO c2
theorem dots_bad {s:RS} {most:Int} (h:(vi most s).2.2 ≠ 0):(vi most s).1 = []:=by
 have hL:∀ (k:Nat) (out:List DT) (s:RS),s.2 = 0 \/ out = [] -> (zy k out s).2.2 ≠ 0 -> (zy k out s).1 = []:=by
  intro k
  induction k with
  | zero=>
   intro out s h1 h2;rcases h1 with h1 | h1
   ·exact absurd h1 h2
   ·exact h1
  | succ k ih=>
   intro out s _ h2
   by_cases c:(XW out s).2 = 0
   ·rw [Yf c] at h2 ⊢;exact ih _ _ (.inl c) h2
   ·rw [UP c]
 unfold vi at h ⊢
 split at h
 ·rename_i c;rw [if_pos c]
 ·rename_i c;rw [if_neg c];exact hL _ _ _ (.inr rfl) h
end Go.Ep.M.D

namespace Go.Ep.M.E
open Go

theorem vj (s:ByteArray):(yF s).length = s.size:=by simp [yF]
theorem by_bytes (s:ByteArray):N.By (yF s):=fun x hx=>by
 simp only [yF,List.mem_map] at hx;obtain ⟨b,_,rfl⟩:=hx;have:=b.toNat_lt;omega
theorem qH (l:List Int):(Qh l).data.toList = l.map fun n=>UInt8.ofNat n.toNat:=by
 have key:∀ (l:List Int) (r:ByteArray),(l.foldl (fun r n=>r.push (UInt8.ofNat n.toNat)) r).data.toList = r.data.toList ++ l.map fun n=>UInt8.ofNat n.toNat:=by
  intro l
  induction l with
  | nil=>intro r;simp
  | cons x t ih=>intro r;rw [List.foldl_cons,ih];simp
 have:=key l ByteArray.empty;simpa [Qh] using this
theorem v1a (s:ByteArray):Qh (yF s) = s:=by
 have h:=qH (yF s);have e:(yF s).map (fun n=>UInt8.ofNat n.toNat) = s.data.toList:=by
  simp only [yF,List.map_map];apply List.ext_getElem?;intro i;rw [List.getElem?_map]
  cases s.data.toList[i]? with
  | none=>rfl
  | some b=>simp
 rw [e] at h;have h2:(Qh (yF s)).data = s.data:=Array.toList_inj.1 h
 cases hs:Qh (yF s)
 cases s
 rw [hs] at h2;simp only at h2;rw [h2]
theorem v2a {l:List Int} (h:N.By l):yF (Qh l) = l:=by
 rw [yF,qH,List.map_map];apply List.ext_getElem?;intro i;rw [List.getElem?_map]
 cases hx:l[i]? with
 | none=>rfl
 | some x=>
  have:=h x (List.mem_of_getElem? hx);simp only [Option.map_some,Function.comp_apply,UInt8.toNat_ofNat']
  congr 1;omega
theorem qI (l:List Int):(Qh l).size = l.length:=by
 have:=congrArg List.length (qH l);simpa using this

def cidD (v:Int):DT:=⟨v / 281474976710656,v % 281474976710656⟩
theorem band48 {v:Int} (h0:0 <= v) (h:v <= 18446744073709551615):bAnd .u64 v 281474976710655 = v % 281474976710656:=by
 obtain ⟨n,rfl⟩:=Int.eq_ofNat_of_zero_le h0;unfold bAnd;have bv:∀ q:Nat,q < 18446744073709551616 -> (BitVec.ofInt IntKind.u64.bits (q:Int)).toNat = q:=fun q hq=>by
  show (BitVec.ofInt 64 (q:Int)).toNat = q;rw [BitVec.toNat_ofInt];omega
 have e:(281474976710655:Int) = ((281474976710655:Nat):Int):=rfl;rw [e,BitVec.toNat_and,bv n (by omega),bv _ (by decide)];have h2:n &&& 281474976710655 = n % 281474976710656:=Nat.and_two_pow_sub_one_eq_mod n 48;rw [h2,VV (by omega) (by omega)];omega
theorem Split_eq {v:Int} (h0:0 <= v) (h:v <= 18446744073709551615):Ys v = pure ((cidD v).dev,(cidD v).n):=by
 unfold Ys cidD;have e:(2 ^ 48:Int) = 281474976710656:=rfl;rw [band48 h0 h,Int.fdiv_eq_ediv_of_nonneg _ (by decide),e,wU16 (by omega) (by omega)]
theorem Zna {v:Int} (h0:0 <= v) (h:v <= 18446744073709551615):Vq v = pure ((cidD v).dev,(cidD v).n):=by
 unfold Vq cidD;rw [Int.tdiv_eq_ediv_of_nonneg h0,Int.tmod_eq_emod_of_nonneg h0,VV (by omega) (by omega),wU16 (by omega) (by omega)]
def qJ (v:Int):Bool:=V.zt (cidD v)
theorem Zoa {v:Int} (h0:0 <= v) (h:v <= 18446744073709551615):WV v = pure (if qJ v = true then cidD v else ⟨0,0⟩,qJ v):=by
 unfold WV;rw [Split_eq h0 h,zB,zA,V.ZY,zB,zA];show cond (!qJ v) _ _ = _
 cases qJ v <;> rfl
theorem v3a {v:Int} (h0:0 <= v) (h:v <= 18446744073709551615):Wf v = pure (if qJ v = true then cidD v else ⟨0,0⟩,qJ v):=by
 unfold Wf;rw [Zna h0 h,zB,zA,V.ZZ,zB,zA];show cond (!qJ v) _ _ = _
 cases qJ v <;> rfl

def wFa (f:Int):Bool:=decide (1 <= f) && decide (f <= 5)
theorem Field_eq (f:Int):WW f = pure (wFa f):=by unfold WW wFa;rw [zh];rfl
theorem Zpa (f:Int):jZ f = pure (wFa f):=by unfold jZ wFa;rw [zh];rfl
def okB (x:Int):Bool:=decide (32 <= x) && decide (x <= 126)
def zya (s:ByteArray):Bool:=decide (s.size <= 60) && (yF s).all okB
theorem XX {α:Type} (l:List α) (p:α -> Bool):(l.zipIdx.all fun y=>p y.1) = l.all p:=by
 rw [Bool.eq_iff_iff,List.all_eq_true,List.all_eq_true]
 constructor
 ·intro h x hx;obtain ⟨i,hi⟩:=List.getElem?_of_mem hx;exact h (x,i) (by rw [List.mk_mem_zipIdx_iff_getElem?];exact hi)
 ·intro h y hy;exact h y.1 (List.fst_mem_of_mem_zipIdx hy)
theorem okB_eq (x:Int) (f:M Bool) (hf:f = pure (decide (126 < x))):(cond (decide (x < 32)) (pure true) f:M Bool) = pure (!okB x):=by
 rw [hf];unfold okB
 by_cases h1:x < 32
 ·have:¬ 32 <= x:=by omega
  simp [h1,this]
 ·have:32 <= x:=by omega
  by_cases h2:126 < x
  ·have:¬ x <= 126:=by omega
   simp [h1,h2,this]
  ·have:x <= 126:=by omega
   simp [h1,h2, *]
theorem Zqa (s:ByteArray) (hs:s.size <= 1000000000000):loop (vT s) 0 = pure (if (yF s).all okB = true then Ex.brk () else Ex.ret false):=by
 have:=xX (body:=vT s) (yF s) (fun i=>(i:Int)) (fun _ x=>okB x) (Ex.brk ()) (Ex.ret false) (fun i x hx hi=>by
  have hd:decide ((i:Int) < (s.size:Int)) = true:=by rw [<- vj];simpa using hi
  have hi2:i < s.size:=by rw [<- vj];exact hi
  unfold vT;simp only [hd,cond_true,zF hx,zA,okB_eq x _ rfl,zo (show i < 9223372036854775807 by omega)]
  cases okB x <;> rfl) (by
  unfold vT;simp [vj])
 rw [show (0:Int) = ((0:Nat):Int) from rfl,this,XX]
theorem v4a (s:ByteArray) (hs:s.size <= 1000000000000):loop (ZO s) 0 = pure (if (yF s).all okB = true then Ex.brk () else Ex.ret false):=by
 have:=xX (body:=ZO s) (yF s) (fun i=>(i:Int)) (fun _ x=>okB x) (Ex.brk ()) (Ex.ret false) (fun i x hx hi=>by
  have hd:decide ((i:Int) < (s.size:Int)) = true:=by rw [<- vj];simpa using hi
  have hi2:i < s.size:=by rw [<- vj];exact hi
  unfold ZO;simp only [hd,cond_true,zF hx,zA,okB_eq x _ rfl,zo (show i < 9223372036854775807 by omega)]
  cases okB x <;> rfl) (by
  unfold ZO;simp [vj])
 rw [show (0:Int) = ((0:Nat):Int) from rfl,this,XX]
theorem x7a (s:ByteArray) (hs:s.size <= 1000000000000):WX s = pure (zya s):=by
 unfold WX zya;rw [Zqa s hs]
 by_cases h:s.size <= 60
 ·have:decide ((60:Int) < (s.size:Int)) = false:=by simp;omega
  rw [this,cond_false,zA,decide_eq_true h,Bool.true_and]
  cases (yF s).all okB <;> rfl
 ·have:decide ((60:Int) < (s.size:Int)) = true:=by simp;omega
  rw [this,cond_true,decide_eq_false h,Bool.false_and]
theorem rText_eq (s:ByteArray) (hs:s.size <= 1000000000000):ja s = pure (zya s):=by
 unfold ja zya;rw [v4a s hs,zA]
 cases (yF s).all okB with
 | false=>rw [Bool.and_false];rfl
 | true=>
  rw [if_pos rfl,YF,Bool.and_true]
  congr 1
  by_cases h:s.size <= 60
  ·rw [decide_eq_true h];simp;omega
  ·rw [decide_eq_false h];simp;omega

structure OkE (e:EV):Prop where
 dot:D.OkD e.dot
 kind:0 <= e.kind /\ e.kind <= 255
 cid:0 <= e.cid /\ e.cid <= 18446744073709551615
 field:0 <= e.field /\ e.field <= 255
 text:e.text.size <= 1000000000
 kills:∀ d ∈ e.kills,D.OkD d
 klen:e.kills.length <= 1000000000
def xCa (s:ByteArray):Bool:=decide (s = ⟨#[]⟩)
def wGa (e:EV):Bool:=(decide (e.kind = 1) && (wFa e.field && zya e.text)) || (decide (e.kind = 2) && (decide (e.field = 0) && xCa e.text))
def wHa (e:EV):Bool:=decide (e.kills.length <= 256) && (D.WF e.kills && e.kills.all fun d=>V.zt d && !decide (d = e.dot))
def yG (e:EV):Bool:=(qJ e.cid && V.zt e.dot) && (wGa e && wHa e)
theorem Zra (l:List DT) (hl:l.length <= 1000000000000):WY l = pure (D.WF l):=by
 unfold WY;have key:∀ (k i:Nat) (x:DT) (r:List DT),i + k = l.length -> l.drop i = r -> i ≠ 0 -> l[i - 1]? = some x -> loop (yq l) (i:Int) = pure (if D.WF (x :: r) = true then Ex.brk () else Ex.ret false):=by
  intro k
  induction k with
  | zero=>
   intro i x r hi hr h1 hx;have:r = []:=by rw [<- hr];exact List.drop_eq_nil_of_le (by omega)
   subst this;exact zY (by
    unfold yq;have:decide ((i:Int) < (l.length:Int)) = false:=by simp;omega
    simp only [this,cond_false];rfl)
  | succ k ih=>
   intro i x r hi hr h1 hx;have hlt:i < l.length:=by omega
   have hr2:r = l[i] :: l.drop (i + 1):=by rw [<- hr];exact List.drop_eq_getElem_cons hlt
   have hy:=List.getElem?_eq_getElem hlt;have hi1:idx l (IntKind.i64.wrap ((i:Int) - 1)) = pure x:=by
    rw [Xi (by omega) (by omega)];exact YM (by omega) (by rw [show ((i:Int) - 1).toNat = i - 1 by omega];exact hx)
   have hb:yq l (i:Int) = cond (!zP x l[i]) (pure (.done (.ret false))) (pure (.next ((i + 1:Nat):Int))):=by
    unfold yq;have h2:decide ((i:Int) < (l.length:Int)) = true:=by simp;omega
    have h3:decide ((0:Int) < (i:Int)) = true:=by simp;omega
    simp only [h2,h3,cond_true,hi1,zF hy,zA,D.QO,zB,D.y8a,zo (show i < 9223372036854775807 by omega)]
   rw [hr2];show _ = (pure (if (zP x l[i] && D.WF (l[i] :: l.drop (i + 1))) = true then Ex.brk () else Ex.ret false):M (Ex Unit Bool))
   cases c:zP x l[i] with
   | true=>
    rw [c] at hb;rw [zl hb,Bool.true_and];exact ih (i + 1) l[i] _ (by omega) rfl (by omega) hy
   | false=>
    rw [c] at hb;rw [zY hb];rfl
 cases l with
 | nil=>
  rw [zY (r:=Ex.brk ()) (by unfold yq;rfl)];rfl
 | cons x r=>
  have h0:yq (x :: r) 0 = pure (.next 1):=by
   unfold yq;have h2:decide ((0:Int) < ((x :: r).length:Int)) = true:=decide_eq_true (by rw [List.length_cons];omega);simp only [h2,cond_true,show decide ((0:Int) < 0) = false from rfl,cond_false,zA];rw [Xi (by omega) (by omega)]
   rfl
  have:=key r.length 1 x r (by simp;omega) rfl (by decide) rfl;rw [show ((1:Nat):Int) = 1 from rfl] at this;rw [zl h0,this,zA]
  cases D.WF (x :: r) <;> rfl
theorem v5a (e:EV) (hl:e.kills.length <= 1000000000000):loop (vU e) 0 = pure (if (e.kills.all fun d=>V.zt d && !decide (d = e.dot)) = true then Ex.brk () else Ex.ret false):=by
 have:=xX (body:=vU e) e.kills (fun i=>(i:Int)) (fun _ d=>V.zt d && !decide (d = e.dot)) (Ex.brk ()) (Ex.ret false) (fun i x hx hi=>by
  have hd:decide ((i:Int) < (e.kills.length:Int)) = true:=by simpa using hi
  unfold vU;simp only [hd,cond_true,zF hx,zA,V.ZY,zB,D.yya,zo (show i < 9223372036854775807 by omega)]
  cases V.zt x <;> cases decide (x = e.dot) <;> rfl) (by
  unfold vU;simp)
 rw [show (0:Int) = ((0:Nat):Int) from rfl,this,XX e.kills fun d=>V.zt d && !decide (d = e.dot)]
theorem uF {e:EV} (h:OkE e):wH e = pure (yG e):=by
 have hk:=h.klen;have ht:=h.text;unfold wH yG;rw [Zoa h.cid.1 h.cid.2,zB,zA,V.ZY,zB,zA,v5a e (by omega),Zra e.kills (by omega),Field_eq,x7a e.text (by omega)];simp only []
 cases qJ e.cid with
 | false=>rfl
 | true=>
  cases V.zt e.dot with
  | false=>rfl
  | true=>
   have hl:decide ((256:Int) < (e.kills.length:Int)) = !decide (e.kills.length <= 256):=by
    by_cases c:e.kills.length <= 256
    ·rw [decide_eq_true c];simp;omega
    ·rw [decide_eq_false c];simp;omega
   have tail:(cond (decide ((256:Int) < (e.kills.length:Int))) (pure true) ((det (pure (D.WF e.kills))).bind fun v23=>pure (!v23))).bind (fun v21=>cond v21 (pure false) ((pure (if (e.kills.all fun d=>V.zt d && !decide (d = e.dot)) = true then Ex.brk () else Ex.ret false)).bind (exk fun _=>pure true))) = pure (wHa e):=by
    unfold wHa;rw [hl,zB,zA]
    cases decide (e.kills.length <= 256) with
    | false=>rfl
    | true=>
     cases D.WF e.kills with
     | false=>rfl
     | true=>cases e.kills.all fun d=>V.zt d && !decide (d = e.dot) <;> rfl
   simp only [Bool.not_true,cond_false,zA,zB,Bool.true_and] at tail ⊢;unfold wGa xCa
   by_cases k1:e.kind = 1
   ·have k2:decide (e.kind = 2) = false:=by rw [k1];rfl
    rw [decide_eq_true k1,cond_true,k2,Bool.true_and,Bool.false_and,Bool.or_false]
    cases wFa e.field with
    | false=>rfl
    | true=>
     cases zya e.text with
     | false=>rfl
     | true=>exact tail
   ·rw [decide_eq_false k1,cond_false,Bool.false_and,Bool.false_or]
    by_cases k2:e.kind = 2
    ·rw [decide_eq_true k2,cond_true,Bool.true_and]
     cases decide (e.field = 0) with
     | false=>rfl
     | true=>
      cases decide (e.text = (⟨#[]⟩:ByteArray)) with
      | false=>rfl
      | true=>exact tail
    ·rw [decide_eq_false k2];rfl
theorem XR (l:List DT) (d:DT) (hl:l.length <= 1000000000000):VG l d = pure (l.any fun x=>decide (x = d)):=by
 unfold VG;have:=xX (body:=Wh l d) l (fun i=>(i:Int)) (fun _ x=>!decide (x = d)) (Ex.brk ()) (Ex.ret true) (fun i x hx hi=>by
  have hd:decide ((i:Int) < (l.length:Int)) = true:=by simpa using hi
  unfold Wh;simp only [hd,cond_true,zF hx,zA,D.yya,zo (show i < 9223372036854775807 by omega)]
  cases decide (x = d) <;> rfl) (by
  unfold Wh;simp)
 rw [show (0:Int) = ((0:Nat):Int) from rfl,this,zA,XX l fun x=>!decide (x = d)];have e:(l.any fun x=>decide (x = d)) = !(l.all fun x=>!decide (x = d)):=by simp [List.all_eq_not_any_not]
 rw [e]
 cases l.all fun x=>!decide (x = d) <;> rfl
theorem v6a (e:EV) (hl:e.kills.length <= 1000000000000):loop (ZP e) 0 = pure (if e.kills.all V.zt = true then Ex.brk () else Ex.ret false):=by
 have:=xX (body:=ZP e) e.kills (fun i=>(i:Int)) (fun _ d=>V.zt d) (Ex.brk ()) (Ex.ret false) (fun i x hx hi=>by
  have hd:decide ((i:Int) < (e.kills.length:Int)) = true:=by simpa using hi
  unfold ZP;simp only [hd,cond_true,zF hx,zA,V.ZZ,zB,zo (show i < 9223372036854775807 by omega)]
  cases V.zt x <;> rfl) (by
  unfold ZP;simp)
 rw [show (0:Int) = ((0:Nat):Int) from rfl,this,XX e.kills V.zt]
theorem YD {e:EV} (h:OkE e):Wi e = pure (yG e):=by
 have hk:=h.klen;have ht:=h.text;unfold Wi yG;rw [v3a h.cid.1 h.cid.2,zB,zA,V.ZZ,zB,zA,v6a e (by omega),D.vza e.kills (by omega),Zpa,rText_eq e.text (by omega),XR e.kills e.dot (by omega)];simp only []
 cases qJ e.cid with
 | false=>rfl
 | true=>
  cases V.zt e.dot with
  | false=>rfl
  | true=>
   have hl:decide ((e.kills.length:Int) <= 256) = decide (e.kills.length <= 256):=by
    by_cases c:e.kills.length <= 256
    ·rw [decide_eq_true c];simp;omega
    ·rw [decide_eq_false c];simp;omega
   have hall:(e.kills.all fun d=>V.zt d && !decide (d = e.dot)) = (e.kills.all V.zt && !(e.kills.any fun x=>decide (x = e.dot))):=by
    rw [Bool.eq_iff_iff,Bool.and_eq_true,List.all_eq_true,List.all_eq_true,Bool.not_eq_true',List.any_eq_false]
    constructor
    ·intro h;exact ⟨fun x hx=>by have:=h x hx;rw [Bool.and_eq_true] at this;exact this.1,fun x hx=>by have:=h x hx;rw [Bool.and_eq_true] at this;simpa using this.2⟩
    ·rintro ⟨h1,h2⟩ x hx;rw [Bool.and_eq_true];exact ⟨h1 x hx,by simpa using h2 x hx⟩
   have tail:((pure (if e.kills.all V.zt = true then Ex.brk () else Ex.ret false):M (Ex Unit Bool)).bind (exk fun _=>(cond (decide ((e.kills.length:Int) <= 256)) ((det (pure (D.WF e.kills))).bind fun v46=>cond v46 ((det (pure (e.kills.any fun x=>decide (x = e.dot)))).bind fun v49=>pure (!v49)) (pure false)) (pure false)).bind fun v44=>pure v44)) = pure (wHa e):=by
    unfold wHa;rw [hl,hall];simp only [zB,zA]
    cases e.kills.all V.zt with
    | false=>cases decide (e.kills.length <= 256) <;> cases D.WF e.kills <;> rfl
    | true=>cases decide (e.kills.length <= 256) <;> cases D.WF e.kills <;> cases e.kills.any fun x=>decide (x = e.dot) <;> rfl
   simp only [Bool.not_true,cond_false,zA,zB,Bool.true_and] at tail ⊢;unfold wGa xCa
   by_cases k1:e.kind = 1
   ·have k2:decide (e.kind = 2) = false:=by rw [k1];rfl
    rw [decide_eq_true k1,k2];simp only [Bool.not_true,cond_false,cond_true,zA,Bool.true_and,Bool.false_and,Bool.or_false]
    cases wFa e.field with
    | false=>rfl
    | true=>
     cases zya e.text with
     | false=>rfl
     | true=>exact tail
   ·rw [decide_eq_false k1];simp only [Bool.not_false,cond_true,zA,Bool.false_and,Bool.false_or]
    by_cases k2:e.kind = 2
    ·rw [decide_eq_true k2];simp only [Bool.not_true,cond_false,cond_true,Bool.true_and]
     cases decide (e.field = 0) with
     | false=>rfl
     | true=>
      cases decide (e.text = (⟨#[]⟩:ByteArray)) with
      | false=>rfl
      | true=>exact tail
    ·rw [decide_eq_false k2];rfl


def fewE (l:List EV) (most:Nat):Bool:=decide (l.length <= most) && l.all fun e=>decide (e.kills.length <= 300) && decide (e.text.size <= 200)
theorem Ux (l:List EV) (most:Nat) (hm:most <= 1000000):VF l (most:Int) = pure (fewE l most):=by
 unfold VF fewE
 by_cases h:l.length <= most
 ·have hd:decide ((most:Int) < (l.length:Int)) = false:=by simp;omega
  have:=xX (body:=Wb l) l (fun i=>(i:Int)) (fun _ e=>decide (e.kills.length <= 300) && decide (e.text.size <= 200)) (Ex.brk ()) (Ex.ret false) (fun i x hx hi=>by
   have hd:decide ((i:Int) < (l.length:Int)) = true:=by simpa using hi
   unfold Wb;simp only [hd,cond_true,zF hx,zA,zo (show i < 9223372036854775807 by omega)]
   by_cases c:x.kills.length <= 300
   ·have h1:decide ((300:Int) < (x.kills.length:Int)) = false:=by simp;omega
    rw [h1,cond_false,decide_eq_true c,Bool.true_and,zA]
    by_cases c2:x.text.size <= 200
    ·have h2:decide ((200:Int) < (x.text.size:Int)) = false:=by simp;omega
     rw [h2,decide_eq_true c2];rfl
    ·have h2:decide ((200:Int) < (x.text.size:Int)) = true:=by simp;omega
     rw [h2,decide_eq_false c2];rfl
   ·have h1:decide ((300:Int) < (x.kills.length:Int)) = true:=by simp;omega
    rw [h1,cond_true,decide_eq_false c,Bool.false_and];rfl) (by
   unfold Wb;simp)
  rw [hd,cond_false,decide_eq_true h,Bool.true_and,show (0:Int) = ((0:Nat):Int) from rfl,this,zA,XX l fun e=>decide (e.kills.length <= 300) && decide (e.text.size <= 200)]
  cases l.all fun e=>decide (e.kills.length <= 300) && decide (e.text.size <= 200) <;> rfl
 ·have hd:decide ((most:Int) < (l.length:Int)) = true:=by simp;omega
  rw [hd,cond_true,decide_eq_false h,Bool.false_and]
theorem wIa {l:List EV} {most:Nat} (h:fewE l most = true):l.length <= most /\ ∀ e ∈ l,e.kills.length <= 300 /\ e.text.size <= 200:=by
 unfold fewE at h;rw [Bool.and_eq_true,List.all_eq_true] at h;exact ⟨by simpa using h.1,fun e he=>by simpa using h.2 e he⟩
theorem jr (a b:EV) (h:a.kills.length <= 1000000000000):jU a b = pure (decide (a = b)):=by
 unfold jU;rw [D.yya,V.Jg a.kills b.kills h,zB,zA];have e:decide (a = b) = (decide (a.dot = b.dot) && (decide (a.kind = b.kind) && (decide (a.cid = b.cid) && (decide (a.field = b.field) && (decide (a.text = b.text) && decide (a.kills = b.kills)))))):=by
  cases a;cases b;simp only [EV.mk.injEq,Bool.decide_and]
 rw [e]
 cases decide (a.dot = b.dot) <;> cases decide (a.kind = b.kind) <;> cases decide (a.cid = b.cid) <;> cases decide (a.field = b.field) <;> cases decide (a.text = b.text) <;> rfl
theorem rAll_eq (a b:List EV) (ha:a.length <= 1000000000000) (hk:∀ e ∈ a,e.kills.length <= 1000000000000):Qk a b = pure (decide (a = b)):=by
 unfold Qk
 by_cases hlen:a.length = b.length
 ·have h1:decide ((a.length:Int) = (b.length:Int)) = true:=by simp [hlen]
  rw [h1,Bool.not_true,cond_false];have:=xX (body:=WU a b) a (fun i=>(i:Int)) (fun i x=>decide (b[i]? = some x)) (Ex.brk ()) (Ex.ret false) (fun i x hx hi=>by
   have hd:decide ((i:Int) < (a.length:Int)) = true:=by simpa using hi
   obtain ⟨y,hy⟩:∃ y,b[i]? = some y:=⟨_,List.getElem?_eq_getElem (by omega)⟩
   unfold WU;simp only [hd,cond_true,zF hx,zF hy,zA,jr x y (hk x (List.mem_of_getElem? hx)),zB,zo (show i < 9223372036854775807 by omega),hy]
   by_cases c:x = y
   ·subst c;simp
   ·have:¬ some y = some x:=fun e=>c (Option.some.inj e).symm
    simp [c,this]) (by
   unfold WU;simp)
  rw [show (0:Int) = ((0:Nat):Int) from rfl,this,zA];have e:(a.zipIdx.all fun y=>decide (b[y.2]? = some y.1)) = decide (a = b):=by
   rw [Bool.eq_iff_iff,List.all_eq_true,decide_eq_true_eq]
   constructor
   ·intro h;apply List.ext_getElem?;intro i
    by_cases hi:i < a.length
    ·have:=h (a[i],i) (by rw [List.mk_mem_zipIdx_iff_getElem?];exact List.getElem?_eq_getElem hi);simp only [decide_eq_true_eq] at this;rw [this,List.getElem?_eq_getElem hi]
    ·rw [List.getElem?_eq_none (by omega),List.getElem?_eq_none (by omega)]
   ·intro h y hy;subst h;rw [List.mem_zipIdx_iff_getElem?] at hy;simpa using hy
  rw [e]
  cases decide (a = b) <;> rfl
 ·have h1:decide ((a.length:Int) = (b.length:Int)) = false:=by simp;omega
  have h2:decide (a = b) = false:=decide_eq_false fun e=>hlen (by rw [e])
  rw [h1,Bool.not_false,cond_true,h2]

def zza (s:ByteArray):List Int:=N.vk s.size ++ yF s
def UT (e:EV):List Int:=D.encD e.dot ++ ([e.kind] ++ (N.vk e.cid ++ ([e.field] ++ (zza e.text ++ D.ZB e.kills))))
theorem vHa {s:ByteArray} (h:s.size <= 1000000000):(zza s).length <= 9 + s.size:=by
 have:=N.yL (v:=(s.size:Int)) (by omega);rw [zza,List.length_append,vj];omega
theorem encE_len {e:EV} (h:OkE e):(UT e).length <= 47 + e.text.size + 18 * e.kills.length:=by
 have h1:=D.ju h.dot;have h2:=N.yL h.cid.2;have h3:=vHa h.text;have h4:=D.Zfa h.kills (by have:=h.klen;omega);simp only [UT,List.length_append,List.length_singleton];omega
theorem v7a {s:ByteArray} (h:s.size <= 1000000000) (row:List Int) (hr:row.length <= 1000000000000):xp s row = pure (row ++ zza s):=by
 have:=N.yL (v:=(s.size:Int)) (by omega);unfold xp;rw [VV (by omega) (by omega),N.Zf row (by omega) (by omega) (by omega),zB,zA,zD (by omega),N.Zca _ _ (by rw [List.length_append,vj];omega),zB,zA,zza,List.append_assoc]
theorem Put_eq {e:EV} (h:OkE e) (row:List Int) (hr:row.length <= 10000000000):Ym e row = pure (row ++ UT e):=by
 have h1:=D.ju h.dot;have h2:=N.yL h.cid.2;have h3:=vHa h.text;have ht:=h.text;have hk:=h.klen;unfold Ym;rw [D.y0a h.dot row (by omega),zB,zA,N.w3a _ _ (by rw [List.length_append];omega),zB,zA,N.Zf _ h.cid.1 h.cid.2 (by simp only [List.length_append,List.length_singleton];omega),zB,zA,
  N.w3a _ _ (by simp only [List.length_append,List.length_singleton];omega),zB,zA,v7a h.text _ (by simp only [List.length_append,List.length_singleton];omega),zB,zA,
  D.vya h.kills (by omega) _ (by simp only [List.length_append,List.length_singleton];omega),zB,zA]
 simp only [UT,List.append_assoc]
def yy (l:List EV):List Int:=N.vk l.length ++ l.flatMap UT
theorem qK {l:List EV} (h:∀ e ∈ l,OkE e) (hl:l.length <= 1000000000) (row:List Int) (hr:row.length + (l.flatMap UT).length <= 1000000000):xb l row = pure (row ++ yy l):=by
 have h9:=N.yL (v:=(l.length:Int)) (by omega);unfold xb;rw [VV (by omega) (by omega),N.Zf row (by omega) (by omega) (by omega),zB,zA];have:=D.zra (body:=wG l) l UT (row ++ N.vk (l.length:Int)) 2000000000 (fun i out=>((i:Int),out)) (fun t=>pure t) (by rw [List.length_append];omega) (fun i x out hx hi ho=>by
  have hd:decide ((i:Int) < (l.length:Int)) = true:=by simpa using hi
  unfold wG;simp only [hd,cond_true,zF hx,zA,Put_eq (h x (List.mem_of_getElem? hx)) out (by omega),zB,zo (show i < 9223372036854775807 by omega)]) (fun out=>by
  unfold wG;simp [zA])
 rw [show (0:Int) = ((0:Nat):Int) from rfl,this,yy,List.append_assoc]
theorem UU {l:List EV} (h:∀ e ∈ l,OkE e) (hf:∀ e ∈ l,e.kills.length <= 300 /\ e.text.size <= 200):(l.flatMap UT).length <= 6000 * l.length:=
 D.UN l UT 6000 fun e he=>by have:=encE_len (h e he);have:=hf e he;omega
open N (RS Ok za xB Ze Yd uy ZZa Sim)
open D (qX fin)

def s1 (s:RS):RS:=(D.Xg s).2
def s2 (s:RS):RS:=(Ze (s1 s)).2
def s3 (s:RS):RS:=(za (s2 s)).2
def s4 (s:RS):RS:=(Ze (s3 s)).2
def s5 (s:RS):RS:=(Yd 60 (s4 s)).2
def s6 (s:RS):RS:=(D.vi 256 (s5 s)).2
def getE (s:RS):EV:=⟨(D.Xg s).1,(Ze (s1 s)).1,(za (s2 s)).1,(Ze (s3 s)).1,(Yd 60 (s4 s)).1,(D.vi 256 (s5 s)).1⟩
def noE : EV:=⟨⟨0,0⟩,0,0,0,⟨#[]⟩,[]⟩
def getT (s:RS):RS:=qX (!yG (getE s)) (s6 s)
def xY (s:RS):EV × RS:=fin noE (getE s) (getT s)
theorem Zsa {s:RS} (h:Ok s) (m:Int):(Yd m s).1.size <= 1000000000:=by
 have h1:=(N.vh h).1.len;unfold Yd
 split
 ·exact (by decide:(0:Nat) <= 1000000000)
 ·split
  ·exact (by decide:(0:Nat) <= 1000000000)
  ·split
   ·exact (by decide:(0:Nat) <= 1000000000)
   ·rw [qI,List.length_take];omega
theorem dots_okD {s:RS} (h:Ok s) (most:Int):(∀ d ∈ (D.vi most s).1,D.OkD d) /\ (D.vi most s).1.length <= 1000000000:=by
 by_cases c:(D.vi most s).2.2 = 0
 ·obtain ⟨e1,e2,e3,e4⟩:=D.vGa h c;have hl:=congrArg List.length e1;have hs:=h.len;have h9:(D.vK (D.Zp (D.vi most s).1)) = (D.vi most s).1:=D.US e2 fun d hd=>(e3 d hd).1
  have h8:∀ l:List DT,l.length <= (l.flatMap D.encD).length:=by
   intro l
   induction l with
   | nil=>simp
   | cons x t ih=>
    have:1 <= (D.encD x).length:=by rw [D.encD,List.length_append,N.vk,N.wya,List.length_cons];omega
    rw [List.flatMap_cons,List.length_append,List.length_cons];omega
  have h7:=h8 (D.vi most s).1;refine ⟨fun d hd=>(e3 d hd).2,?_⟩;rw [List.length_append,D.ZB,h9,List.length_append] at hl;omega
 ·rw [D.dots_bad c];simp
theorem Zta {s:RS} (h:Ok s):Ok (s1 s) /\ Ok (s2 s) /\ Ok (s3 s) /\ Ok (s4 s) /\ Ok (s5 s) /\ Ok (s6 s) /\ OkE (getE s):=by
 have o1:Ok (s1 s):=(D.y4a h).1;have o2:=N.Zaa o1;have o3:=N.vh (s:=s2 s) o2.1;have o4:=N.Zaa (s:=s3 s) o3.1;have o5:=N.ok_text (s:=s4 s) o4.1 60;have o6:=D.zla (s:=s5 s) o5 256;obtain ⟨k1,k2⟩:=dots_okD (s:=s5 s) o5 256;exact ⟨o1,o2.1,o3.1,o4.1,o5,o6,(D.y4a h).2.1,o2.2,o3.2,o4.2,Zsa (s:=s4 s) o4.1 60,k1,k2⟩
theorem Get_eq {s:RS} (h:Ok s):XB s.1 s.2 = pure (xY s):=by
 obtain ⟨o1,o2,o3,o4,o5,o6,oe⟩:=Zta h;unfold XB xY;have e1:vw s.1 s.2 = pure ((D.Xg s).1,s1 s):=D.Dot_eq h;have e2:yI (s1 s).1 (s1 s).2 = pure ((Ze (s1 s)).1,s2 s):=N.w1a o1;have e3:zW (s2 s).1 (s2 s).2 = pure ((za (s2 s)).1,s3 s):=N.Wx o2;have e4:yI (s3 s).1 (s3 s).2 = pure ((Ze (s3 s)).1,s4 s):=N.w1a o3;have e5:yt 60 (s4 s).1 (s4 s).2 = pure ((Yd 60 (s4 s)).1,s5 s):=N.x7a o4 (by decide);have e6:uS 256 (s5 s).1 (s5 s).2 = pure ((D.vi 256 (s5 s)).1,s6 s):=D.WE o5 (by decide);rw [e1,zB,zA];simp only [];rw [e2,zB,zA];simp only [];rw [e3,zB,zA];simp only [];rw [e4,zB,zA];simp only [];rw [e5,zB,zA];simp only [];rw [e6,zB,zA];simp only [];have eg:=uF oe;unfold getE at eg;rw [eg,zB,zA];have ep:=D.zua (yG (getE s)) (s6 s);unfold getE at ep;rw [ep,zA];exact D.wEa _ _ _
variable {B:List Int} {a:Int} {s:RS}
theorem Zua {s:RS} (h:(Ze s).2.2 = 0):s.2 = 0 /\ s.1 = (Ze s).1 :: (Ze s).2.1:=by
 unfold Ze at h ⊢
 by_cases c:s.2 ≠ 0
 ·rw [if_pos c] at h;exact absurd h c
 ·rw [if_neg c] at h ⊢
  cases hs:s.1 with
  | nil=>rw [hs] at h;exact absurd h (N.uz (by decide))
  | cons x r=>exact ⟨Classical.byContradiction c,rfl⟩
theorem text_ok {m:Int} {s:RS} (hO:Ok s) (h:(Yd m s).2.2 = 0):(za s).2.2 = 0 /\ s.1 = zza (Yd m s).1 ++ (Yd m s).2.1 /\ ((Yd m s).1.size:Int) <= max m 0:=by
 obtain ⟨k1,k2,k3⟩:=N.vh hO;unfold Yd at h ⊢
 by_cases c:(za s).2.2 ≠ 0
 ·rw [if_pos c] at h;exact absurd h c
 ·rw [if_neg c] at h ⊢
  by_cases c2:max m 0 < (za s).1
  ·rw [if_pos c2] at h;exact absurd h (N.uz (by decide))
  ·rw [if_neg c2] at h ⊢
   by_cases c3:((za s).2.1.length:Int) < (za s).1
   ·rw [if_pos c3] at h;exact absurd h (N.uz (by decide))
   ·rw [if_neg c3];have hz:(za s).2.2 = 0:=Classical.byContradiction c;refine ⟨hz,?_,?_⟩
    ·show s.1 = (N.vk ((Qh _).size:Int) ++ yF (Qh _)) ++ _;rw [qI,v2a (k1.by_.take _),List.length_take,show ((min (za s).1.toNat (za s).2.1.length:Nat):Int) = (za s).1 by omega,List.append_assoc,List.take_append_drop];exact D.qG hO hz
    ·show ((Qh _).size:Int) <= _;rw [qI,List.length_take];omega
theorem get_inv {s:RS} (hO:Ok s) (h:(xY s).2.2 = 0):s.2 = 0 /\ yG (xY s).1 = true /\ OkE (xY s).1 /\ s.1 = UT (xY s).1 ++ (xY s).2.1:=by
 obtain ⟨o1,o2,o3,o4,o5,o6,oe⟩:=Zta hO;unfold xY at h ⊢;rw [D.w8a] at h;rw [D.QP h];obtain ⟨g1,g2,g3⟩:=D.qB (c:=!yG (getE s)) (s:=s6 s) h;have i6:=D.vGa o5 g2;have z5:(s5 s).2 = 0:=Classical.byContradiction fun c=>by
  have:(D.vi 256 (s5 s)).2.2 ≠ 0:=by
   have hn:=N.num_of c;unfold D.vi;rw [hn];rw [if_neg (by show ¬ max 256 0 < (0:Int);omega)];exact c
  exact this g2
 obtain ⟨z5',i5,_⟩:=text_ok (m:=60) o4 z5;have z4:=D.jJ z5';obtain ⟨z3,i4⟩:=Zua (s:=s3 s) z4;have i3:=D.qG o2 z3;have z2:=D.jJ z3;obtain ⟨z1,i2⟩:=Zua (s:=s1 s) z2;have i1:=D.Zma hO z1;have z0:s.2 = 0:=D.jJ (D.zva (D.w9a z1).2.1).1;refine ⟨z0,by simpa using g1,oe,?_⟩;show s.1 = UT (getE s) ++ (getT s).1;rw [show getT s = s6 s from g3];show s.1 = (D.encD (D.Xg s).1 ++ ([(Ze (s1 s)).1] ++ (N.vk (za (s2 s)).1 ++ ([(Ze (s3 s)).1] ++ (zza (Yd 60 (s4 s)).1 ++ D.ZB (D.vi 256 (s5 s)).1))))) ++ (s6 s).1;simp only [List.append_assoc];have j6:(s5 s).1 = D.ZB (D.vi 256 (s5 s)).1 ++ (s6 s).1:=i6.1;have j5:(s4 s).1 = zza (Yd 60 (s4 s)).1 ++ (s5 s).1:=i5;have j4:(s3 s).1 = [(Ze (s3 s)).1] ++ (s4 s).1:=i4;have j3:(s2 s).1 = N.vk (za (s2 s)).1 ++ (s3 s).1:=i3;have j2:(s1 s).1 = [(Ze (s1 s)).1] ++ (s2 s).1:=i2;have j1:s.1 = D.encD (D.Xg s).1 ++ (s1 s).1:=i1;rw [<- j6,<- j5,<- j4,<- j3,<- j2];exact j1
theorem get_lt {s:RS} (hO:Ok s) (h:(xY s).2.2 = 0):(xY s).2.1.length + 1 <= s.1.length:=by
 have:=(get_inv hO h).2.2.2;have hl:=congrArg List.length this;have:1 <= (UT (xY s).1).length:=by simp only [UT,List.length_append,List.length_singleton];omega
 rw [List.length_append] at hl;omega

theorem jx (x:Int) (r:List Int):Ze (x :: r,0) = (x,(r,0)):=rfl
theorem text_enc {t:ByteArray} {m:Int} (h:(t.size:Int) <= m) (hs:t.size <= 1000000000000) (r:List Int):Yd m (zza t ++ r,0) = (t,(r,0)):=by
 have e:zza t ++ r = N.vk (t.size:Int) ++ (yF t ++ r):=by rw [zza,List.append_assoc]
 have e1:=D.YJ (v:=(t.size:Int)) (by omega) (by omega) (yF t ++ r);unfold Yd;rw [e,e1];have hl:=vj t;simp only [ne_eq,not_true_eq_false,if_false,Int.toNat_natCast];rw [if_neg (by omega),if_neg (by rw [List.length_append];omega),List.take_append_of_le_length (by omega),List.drop_append_of_le_length (by omega),List.take_of_length_le (by omega),List.drop_eq_nil_of_le (by omega),v1a]
 rfl
theorem QR {e:EV} (h:yG e = true):V.zt e.dot = true /\ wGa e = true /\ e.kills.length <= 256 /\ D.Srt e.kills /\ (∀ d ∈ e.kills,V.zt d = true) /\ e.text.size <= 60:=by
 unfold yG wHa at h;simp only [Bool.and_eq_true,decide_eq_true_eq,List.all_eq_true] at h;obtain ⟨⟨h1,h2⟩,h3,h4,h5,h6⟩:=h;refine ⟨h2,h3,h4,D.zxa.1 h5,fun d hd=>(h6 d hd).1,?_⟩;unfold wGa zya xCa at h3;simp only [Bool.or_eq_true,Bool.and_eq_true,decide_eq_true_eq] at h3;rcases h3 with ⟨_,_,h,_⟩ | ⟨_,_,h⟩
 ·exact h
 ·rw [h];decide
theorem get_enc {e:EV} (h:OkE e) (hg:yG e = true) (r:List Int):xY (UT e ++ r,0) = (e,(r,0)):=by
 obtain ⟨g1,g2,g3,g4,g5,g6⟩:=QR hg;have q:UT e ++ r = D.encD e.dot ++ (e.kind :: (N.vk e.cid ++ (e.field :: (zza e.text ++ (D.ZB e.kills ++ r))))):=by
  simp only [UT,List.append_assoc,List.cons_append,List.nil_append]
 have c1:=D.Zka h.dot g1 (e.kind :: (N.vk e.cid ++ (e.field :: (zza e.text ++ (D.ZB e.kills ++ r)))));have c3:=D.YJ h.cid.1 h.cid.2 (e.field :: (zza e.text ++ (D.ZB e.kills ++ r)));have c5:=text_enc (t:=e.text) (m:=60) (by omega) (by omega) (D.ZB e.kills ++ r);have c6:=D.dots_enc g4 (fun d hd=>⟨h.kills d hd,g5 d hd⟩) (most:=256) (by omega) (by omega) r;have t1:s1 (UT e ++ r,0) = (e.kind :: (N.vk e.cid ++ (e.field :: (zza e.text ++ (D.ZB e.kills ++ r)))),0):=by unfold s1;rw [q,c1]
 have t2:s2 (UT e ++ r,0) = (N.vk e.cid ++ (e.field :: (zza e.text ++ (D.ZB e.kills ++ r))),0):=by unfold s2;rw [t1,jx]
 have t3:s3 (UT e ++ r,0) = (e.field :: (zza e.text ++ (D.ZB e.kills ++ r)),0):=by unfold s3;rw [t2,c3]
 have t4:s4 (UT e ++ r,0) = (zza e.text ++ (D.ZB e.kills ++ r),0):=by unfold s4;rw [t3,jx]
 have t5:s5 (UT e ++ r,0) = (D.ZB e.kills ++ r,0):=by unfold s5;rw [t4,c5]
 have t6:s6 (UT e ++ r,0) = (r,0):=by unfold s6;rw [t5,c6]
 have tE:getE (UT e ++ r,0) = e:=by
  unfold getE;rw [t1,t2,t3,t4,t5,q,c1,jx,c3,jx,c5,c6]
 unfold xY getT;rw [tE,t6,hg,Bool.not_true,D.Ye]
 rfl

open N (RS Ok za xB Ze Yd uy ZZa Sim)
open D (qX fin)

def VU (out:List EV) (x:EV):Bool:=match out.getLast? with | some y=>decide (0 <= V.QH y.dot x.dot) | none=>false
def xNa (out:List EV) (s:RS):RS:=qX (VU out (xY s).1) (xY s).2
def allL : Nat -> List EV -> RS -> List EV × RS
 | 0,out,s=>(out,s)
 | k + 1,out,s=>if (xNa out s).2 ≠ 0 then ([],xNa out s) else allL k (out ++ [(xY s).1]) (xNa out s)
def allS (most:Int) (s:RS):List EV × RS:=if max most 0 < (za s).1 then ([],uy 3 (za s).2) else allL (za s).1.toNat [] (za s).2
theorem allL_bad {k:Nat} {out:List EV} {s:RS} (h:(xNa out s).2 ≠ 0):allL (k + 1) out s = ([],xNa out s):=if_pos h
theorem xDa {k:Nat} {out:List EV} {s:RS} (h:(xNa out s).2 = 0):allL (k + 1) out s = allL k (out ++ [(xY s).1]) (xNa out s):=if_neg (by simp [h])
theorem allT_ok {out:List EV} {s:RS} (h:(xNa out s).2 = 0):VU out (xY s).1 = false /\ (xY s).2.2 = 0 /\ xNa out s = (xY s).2:=D.qB h
theorem ok_gets {s:RS} (h:Ok s):Ok (xY s).2:=by
 unfold xY;rw [D.w8a];exact D.qA (Zta h).2.2.2.2.2.1 _
theorem ok_allT {s:RS} (h:Ok s) (out:List EV):Ok (xNa out s):=D.qA (ok_gets h) _
theorem Zva {out:List EV} (h:out.length <= 1000000000000) (x:EV) (cmp:DT -> DT -> M Int) (hc:∀ y,cmp y x.dot = pure (V.QH y x.dot)) :
  ((cond (decide (0 <= IntKind.i64.wrap ((out.length:Int) - 1))) ((idx out (IntKind.i64.wrap ((out.length:Int) - 1))).bind fun x61=>(det (cmp x61.dot x.dot)).bind fun v63=>pure (decide (0 <= v63))) (pure false)):M Bool) = pure (VU out x):=by
 unfold VU;rcases R.xU out with rfl | ⟨r,y,rfl⟩
 ·rfl
 ·have hl:((r ++ [y]).length:Int) - 1 = (r.length:Int):=by simp
  rw [hl,Xi (by omega) (by simp at h;omega)];have:decide ((0:Int) <= (r.length:Int)) = true:=by simp
  rw [this,cond_true,zF (y:=y) (by simp),zA,hc,zB,zA];simp
theorem vIa {y4:Int × List Int × Int} (hn:0 <= y4.1 /\ y4.1 <= 18446744073709551615):∀ (k i:Nat) (out:List EV) (s:RS),(i:Int) + k = y4.1 -> Ok s -> s.2 = 0 -> out.length + s.1.length <= 1000000000 ->
  (loop (ye y4) ((i:Int),out,s.1,s.2)).bind (exk fun ⟨out9,v10,v11⟩=>pure (out9,v10,v11)) = pure (allL k out s)
 | 0,i,out,s,hi,_,_,_=>by
  rw [zY (r:=.brk (out,s.1,s.2)) (by
   unfold ye;have:decide ((i:Int) < y4.1) = false:=by simp;omega
   simp only [this,cond_false])]
  rfl
 | k + 1,i,out,s,hi,hO,h0,hl=>by
  have hc:decide ((i:Int) < y4.1) = true:=by simp;omega
  have hlast:=Zva (out:=out) (by omega) (xY s).1 vR (fun y=>D.QO y _);have hw:IntKind.u64.wrap ((i:Int) + 1) = ((i + 1:Nat):Int):=by rw [VV (by omega) (by omega)];omega
  have hb:ye y4 ((i:Int),out,s.1,s.2) = (det (zM (xNa out s).1 (xNa out s).2)).bind fun y70=>cond (!decide (y70.1 = 0)) (pure (.done (.ret ([],y70.2.1,y70.2.2)))) (yW ((out.length + [(xY s).1].length) * 80 <= 140737488355328) (pure (.next (IntKind.u64.wrap ((i:Int) + 1),out ++ [(xY s).1],y70.2.1,y70.2.2)))):=by
   unfold ye;have e:=D.wDa (VU out (xY s).1) (xY s).2;simp only [hc,cond_true,Get_eq hO,zB,zA];rw [hlast,zA,e,zA]
   rfl
  rw [N.WC,zB,zA] at hb
  by_cases c:(xNa out s).2 = 0
  ·obtain ⟨_,c2,c3⟩:=allT_ok c;have hlt:=get_lt hO c2;rw [decide_eq_true c,Bool.not_true,cond_false,zD (by simp;omega),hw] at hb;rw [zl hb,xDa c];exact vIa hn k (i + 1) _ (xNa out s) (by omega) (ok_allT hO out) c (by rw [c3];simp;omega)
  ·rw [decide_eq_false c,Bool.not_false,cond_true] at hb;rw [zY hb,allL_bad c]
   rfl
theorem xEa {s:RS} (hO:Ok s) {most:Int} (hm:most <= 9223372036854775807):xf most s.1 s.2 = pure (allS most s):=by
 obtain ⟨h1,h2,h3⟩:=N.vh hO;unfold xf allS;rw [N.Wx hO,zB,zA,VV (n:=max most 0) (by omega) (by omega)]
 by_cases c:max most 0 < (za s).1
 ·rw [decide_eq_true c,cond_true,if_pos c,N.YI 3 (za s).2,zB,zA]
 ·rw [decide_eq_false c,cond_false,if_neg c]
  by_cases c2:(za s).2.2 = 0
  ·exact vIa (y4:=za s) ⟨h2,h3⟩ (za s).1.toNat 0 [] (za s).2 (by omega) h1 c2 (by simp;have:=h1.len;omega)
  ·have hz:=D.XV c2;rw [hz,zY (r:=.brk ([],(za s).2.1,(za s).2.2)) (by
    unfold ye;simp only [hz,show decide ((0:Int) < 0) = false from rfl,cond_false])]
   rfl
variable {B:List Int} {a:Int} {s:RS}
abbrev vC (l:List EV):Prop:=l.Pairwise fun x y=>zP x.dot y.dot = true
theorem vJa : ∀ (l out:List EV) (r:List Int),vC (out ++ l) -> (∀ e ∈ l,OkE e /\ yG e = true) -> allL l.length out (l.flatMap UT ++ r,0) = (out ++ l,(r,0))
 | [],out,r,_,_=>by simp [allL]
 | x :: t,out,r,hs,h=>by
  have hx:=h x (by simp);have e:xY ((x :: t).flatMap UT ++ r,0) = (x,(t.flatMap UT ++ r,0)):=by
   rw [List.flatMap_cons,List.append_assoc];exact get_enc hx.1 hx.2 _
  have hlast:VU out x = false:=by
   unfold VU
   cases hl:out.getLast? with
   | none=>rfl
   | some y=>
    have:=(List.pairwise_append.1 hs).2.2 y (List.mem_of_getLast? hl) x (by simp);simp only [D.y8a,this,Bool.not_true]
  have hT:xNa out ((x :: t).flatMap UT ++ r,0) = (t.flatMap UT ++ r,0):=by
   unfold xNa;rw [e];simp only [];rw [hlast]
   rfl
  rw [List.length_cons,xDa (by rw [hT]),hT,e];simp only [];rw [vJa t (out ++ [x]) r (by rw [List.append_assoc];exact hs) (fun d hd=>h d (by simp [hd])),List.append_assoc]
  rfl
theorem wJa {l:List EV} (hs:vC l) (h:∀ e ∈ l,OkE e /\ yG e = true) {most:Int} (hm:(l.length:Int) <= most) (hl:l.length <= 1000000000000) (r:List Int):allS most (yy l ++ r,0) = (l,(r,0)):=by
 have e2:yy l ++ r = N.vk (l.length:Int) ++ (l.flatMap UT ++ r):=by rw [yy,List.append_assoc]
 unfold allS;rw [e2,D.YJ (by omega) (by omega)];simp only [];rw [if_neg (by omega),Int.toNat_natCast,vJa l [] r (by simpa using hs) h]
 rfl

theorem vKa {l:List EV} (h:∀ e ∈ l,OkE e /\ yG e = true) (hl:l.length <= 1000000000):N.By (yy l):=by
 refine (N.Yc (by omega)).app fun y hy=>?_
 obtain ⟨e,he,hy2⟩:=List.mem_flatMap.1 hy;obtain ⟨ho,hg⟩:=h e he;obtain ⟨_,_,_,g4,g5,_⟩:=QR hg;have b1:N.By (D.encD e.dot):=(N.Yc (by have:=ho.dot.d1;omega)).app (N.Yc ho.dot.n1);have b2:N.By [e.kind]:=fun x hx=>by rw [List.mem_singleton.1 hx];exact ho.kind
 have b3:N.By [e.field]:=fun x hx=>by rw [List.mem_singleton.1 hx];exact ho.field
 have ht:=ho.text;have hk:=ho.klen;have b4:N.By (zza e.text):=(N.Yc (by omega)).app (by_bytes _);have b5:N.By (D.ZB e.kills):=by
  rw [D.ZB,D.US g4 g5];refine (N.Yc (by omega)).app fun z hz=>?_
  obtain ⟨d,hd,h⟩:=List.mem_flatMap.1 hz;exact ((N.Yc (by have:=(ho.kills d hd).d1;omega)).app (N.Yc (ho.kills d hd).n1)) z h
 exact (b1.app (b2.app ((N.Yc ho.cid.2).app (b3.app (b4.app b5))))) y hy2

theorem z0a (e:EV) (h:e.kills.length <= 1000000000000):yk e = pure e:=by
 unfold yk;rw [D.zqa _ h,zB,zA]
end Go.Ep.M.E

namespace Go.Ep.M.F
open Go
open E (OkE yG)

def ua (l:List DT) (d:DT):Bool:=l.any fun x=>decide (x = d)
theorem Jt (l:List DT) (d:DT) (hl:l.length <= 1000000000000):Ql l d = pure (ua l d):=by
 unfold Ql yi xV;have:=loopF (body:=yQ l d) l (fun i=>(i:Int)) (fun _ x=>decide (x = d)) (fun i _=>Ex.ret (i:Int)) (pure (Ex.brk ())) (fun i x hx hi=>by
  have hd:decide ((i:Int) < (l.length:Int)) = true:=by simpa using hi
  unfold yQ;simp only [hd,cond_true,zF hx,zA,D.yya,zo (show i < 9223372036854775807 by omega),yb,eq_comm (a:=d) (b:=x),decide_eq_true_eq]) (by
  unfold yQ;simp [zA])
 rw [show (0:Int) = ((0:Nat):Int) from rfl,this];have hf:(l.zipIdx.find? fun y=>decide (y.1 = d)).isSome = ua l d:=by
  rw [List.isSome_find?];unfold ua;rw [Bool.eq_iff_iff,List.any_eq_true,List.any_eq_true]
  constructor
  ·rintro ⟨y,hy,h⟩;exact ⟨y.1,List.fst_mem_of_mem_zipIdx hy,h⟩
  ·rintro ⟨x,hx,h⟩;obtain ⟨i,hi⟩:=List.getElem?_of_mem hx;exact ⟨(x,i),by rw [List.mk_mem_zipIdx_iff_getElem?];exact hi,h⟩
 rw [<- hf]
 cases l.zipIdx.find? fun y=>decide (y.1 = d) with
 | none=>simp only [zA,zB,YF];rfl
 | some y=>simp only [zA,zB,JJ];simp
def vQ (l:List EV) (d:DT):Bool:=l.any fun e=>ua e.kills d
theorem Zwa (l:List EV) (d:DT) (hl:l.length <= 1000000000000) (hk:∀ e ∈ l,e.kills.length <= 1000000000000):vM l d = pure (vQ l d):=by
 unfold vM;have:=xX (body:=um l d) l (fun i=>(i:Int)) (fun _ x=>!ua x.kills d) (Ex.brk ()) (Ex.ret true) (fun i x hx hi=>by
  have hd:decide ((i:Int) < (l.length:Int)) = true:=by simpa using hi
  unfold um VE;simp only [hd,cond_true,zF hx,zA,Jt x.kills d (hk x (List.mem_of_getElem? hx)),zB,zo (show i < 9223372036854775807 by omega)]
  cases ua x.kills d <;> rfl) (by
  unfold um;simp)
 rw [show (0:Int) = ((0:Nat):Int) from rfl,this,zA,E.XX l fun x=>!ua x.kills d];have e:vQ l d = !(l.all fun x=>!ua x.kills d):=by simp [vQ,List.all_eq_not_any_not]
 rw [e]
 cases l.all fun x=>!ua x.kills d <;> rfl
theorem rDead_eq (l:List EV) (d:DT) (hl:l.length <= 1000000000000) (hk:∀ e ∈ l,e.kills.length <= 1000000000000):Vr l d = pure (vQ l d):=by
 unfold Vr;have:=xX (body:=Yt l d) l (fun i=>(i:Int)) (fun _ x=>!ua x.kills d) (Ex.brk ()) (Ex.ret true) (fun i x hx hi=>by
  have hd:decide ((i:Int) < (l.length:Int)) = true:=by simpa using hi
  unfold Yt;simp only [hd,cond_true,zF hx,zA,E.XR x.kills d (hk x (List.mem_of_getElem? hx)),zB,zo (show i < 9223372036854775807 by omega)];show cond (ua x.kills d) _ _ = _
  cases ua x.kills d <;> rfl) (by
  unfold Yt;simp)
 rw [show (0:Int) = ((0:Nat):Int) from rfl,this,zA,E.XX l fun x=>!ua x.kills d];have e:vQ l d = !(l.all fun x=>!ua x.kills d):=by simp [vQ,List.all_eq_not_any_not]
 rw [e]
 cases l.all fun x=>!ua x.kills d <;> rfl

def UV (l:List DT) (c:List PT):List DT:=D.vK (l.filter fun d=>!C.ve c d.dev d.n)
theorem Zxa (l : List DT) (c : List PT) (hl : l.length <= 1000000000) (hc : C.Sm c) : YP l c = pure (UV l c) := by
  unfold YP Uh;have := uu (body := un l c false) l (fun i t => ((i : Int), t)) (fun t d => if C.ve c d.dev d.n = true then t else t ++ [d]) (fun t => pure t) (fun i t => t.length <= i) (fun i x t hx hi hI => by
    have hd : decide ((i : Int) < (l.length : Int)) = true := by simpa using hi
    refine ⟨?_, by split
                   · omega
                   · simp; omega⟩
    unfold un;simp only [hd, cond_true, zF hx, zA, C.Jt c x hc, zB, zo (show i < 9223372036854775807 by omega)]
    by_cases c : C.ve c x.dev x.n = true
    · rw [c, show (true == false) = false from rfl, cond_false, zA, if_pos rfl]
    · simp only [Bool.not_eq_true] at c;rw [c, show (false == false) = true from rfl, cond_true, zD (by simp; omega), zA]; rfl) (fun t _ => by
    unfold un;simp [zA]) [] (by simp)
  have key : ∀ (l t : List DT), l.foldl (fun t d => if C.ve c d.dev d.n = true then t else t ++ [d]) t = t ++ l.filter fun d => !C.ve c d.dev d.n := by
    intro l
    induction l with
    | nil => intro t; simp
    | cons x r ih =>
      intro t;rw [List.foldl_cons, ih]
      by_cases h : C.ve c x.dev x.n = true
      · rw [if_pos h, List.filter_cons, if_neg (by simp [h])]
      · rw [if_neg h, List.filter_cons, if_pos (by simp [h]), List.append_assoc]; rfl
  rw [show (0 : Int) = ((0 : Nat) : Int) from rfl, this, zA, key, List.nil_append, D.wBa _ (by have := List.length_filter_le (fun d : DT => !C.ve c d.dev d.n) l; omega), zB, zA, zB, zA, UV]
theorem rDrop_eq (l : List DT) (c : List PT) (hl : l.length <= 1000000000) (hc : C.Ok c) : jb l c = pure (UV l c) := by
  unfold jb;have := uu (body := Yu l c) l (fun i t => (t, (i : Int))) (fun t d => if C.ve c d.dev d.n = true then t else D.z9a t d) (fun t => pure t) (fun i t => t.length <= i) (fun i x t hx hi hI => by
    have hd : decide ((i : Int) < (l.length : Int)) = true := by simpa using hi
    refine ⟨?_, by split
                   · omega
                   · have := D.zpa t x; omega⟩
    unfold Yu;simp only [hd, cond_true, zF hx, zA, C.XR c x hc, zB, zo (show i < 9223372036854775807 by omega)]
    by_cases c : C.ve c x.dev x.n = true
    · rw [c, Bool.not_true, cond_false, zA, if_pos rfl]
    · simp only [Bool.not_eq_true] at c;rw [c, Bool.not_false, cond_true, D.x9a t x (by omega), zB, zA, zA]; rfl) (fun t _ => by
    unfold Yu;simp [zA]) [] (by simp)
  have key : ∀ (l t : List DT), l.foldl (fun t d => if C.ve c d.dev d.n = true then t else D.z9a t d) t = (l.filter fun d => !C.ve c d.dev d.n).foldl D.z9a t := by
    intro l
    induction l with
    | nil => intro t; rfl
    | cons x r ih =>
      intro t;rw [List.foldl_cons, ih]
      by_cases h : C.ve c x.dev x.n = true
      · rw [if_pos h, List.filter_cons, if_neg (by simp [h])]
      · rw [if_neg h, List.filter_cons, if_pos (by simp [h])]; rfl
  rw [show (0 : Int) = ((0 : Nat) : Int) from rfl, this, zA, key]; rfl

def zy (l:List EV):List DT:=l.flatMap fun e=>e.dot :: e.kills
def yN (l:List EV):List DT:=D.vK (zy l)
theorem vg (l:List EV) (k:Nat) (h:∀ e ∈ l,e.kills.length <= k):(zy l).length <= l.length * (k + 1):=by
 induction l with
 | nil=>simp [zy]
 | cons e r ih=>
  have h1:=ih fun x hx=>h x (by simp [hx])
  have h2:=h e (by simp);have e1:(zy (e :: r)).length = e.kills.length + 1 + (zy r).length:=by simp [zy];omega
  rw [e1,List.length_cons,Nat.add_mul];omega
theorem qL {l:List EV} {i:Nat} {x:EV} (h:l[i]? = some x):zy (l.take (i + 1)) = zy (l.take i) ++ x.dot :: x.kills:=by
 rw [List.take_add_one,h];simp [zy]
theorem xFa (l:List EV) (i:Nat):(zy (l.take i)).length <= (zy l).length:=by
 have:zy l = zy (l.take i) ++ zy (l.drop i):=by unfold zy;rw [<- List.flatMap_append,List.take_append_drop]
 rw [this,List.length_append];omega
theorem WE (l:List EV) (hl:l.length <= 1000000000) (hs:(zy l).length <= 1000000000):vN l = pure (yN l):=by
 unfold vN;have key:∀ (k i:Nat),i + k = l.length -> loop (uo l) ((i:Int),zy (l.take i)) = pure (zy l):=by
  intro k
  induction k with
  | zero=>
   intro i hi;refine zY ?_;unfold uo;have:decide ((i:Int) < (l.length:Int)) = false:=by simp;omega
   simp only [this,cond_false];rw [List.take_of_length_le (by omega)]
  | succ k ih=>
   intro i hi;obtain ⟨x,hx⟩:∃ x,l[i]? = some x:=⟨_,List.getElem?_eq_getElem (by omega)⟩
   have hd:decide ((i:Int) < (l.length:Int)) = true:=by simp;omega
   have h1:=xFa l (i + 1);rw [qL hx,List.length_append,List.length_cons] at h1;rw [zl (s':=(((i + 1:Nat):Int),zy (l.take (i + 1)))) ?_]
   ·exact ih (i + 1) (by omega)
   ·unfold uo;simp only [hd,cond_true,zF hx,zA,zo (show i < 9223372036854775807 by omega)];rw [zD (by simp;omega),zD (by simp;omega),qL hx,List.append_assoc];rfl
 have:=key l.length 0 (by omega);rw [show zy (l.take 0) = [] from rfl] at this;rw [show (0:Int) = ((0:Nat):Int) from rfl,this,zA,D.wBa _ (by omega),zB,zA,yN]
theorem rdots_in (l:List EV) {i:Nat} {x:EV} (hx:l[i]? = some x) (hk:x.kills.length <= 1000000000) (s:List DT) (hs:s.length <= 1000000000):loop (ZQ l (i:Int)) (s,0) = pure (x.kills.foldl D.z9a s):=by
 have:=uu (body:=ZQ l (i:Int)) x.kills (fun k t=>(t,(k:Int))) D.z9a (fun t=>pure t) (fun k t=>t.length <= 1000000000 + k) (fun k d t hd hi hI=>by
  have hc:decide ((k:Int) < (x.kills.length:Int)) = true:=by simpa using hi
  refine ⟨?_,by have:=D.zpa t d;omega⟩;unfold ZQ;simp only [zF hx,zA,hc,cond_true,zF hd,D.x9a t d (by omega),zB,zo (show k < 9223372036854775807 by omega)]) (fun t _=>by
  unfold ZQ;simp [zF hx,zA]) s (by omega)
 exact this
theorem jy (l:List EV) (hl:l.length <= 1000000) (hk:∀ e ∈ l,e.kills.length <= 300):Yw l = pure (yN l):=by
 unfold Yw;have key:∀ (k i:Nat),i + k = l.length -> loop (Yv l) (D.vK (zy (l.take i)),(i:Int)) = pure (yN l):=by
  intro k
  induction k with
  | zero=>
   intro i hi;refine zY ?_;unfold Yv;have:decide ((i:Int) < (l.length:Int)) = false:=by simp;omega
   simp only [this,cond_false];rw [List.take_of_length_le (by omega)];rfl
  | succ k ih=>
   intro i hi;obtain ⟨x,hx⟩:∃ x,l[i]? = some x:=⟨_,List.getElem?_eq_getElem (by omega)⟩
   have hd:decide ((i:Int) < (l.length:Int)) = true:=by simp;omega
   have h1:=xFa l i;have h2:=vg l 300 hk;have h3:=D.Wn (zy (l.take i));have h4:=D.zpa (D.vK (zy (l.take i))) x.dot;have h5:=hk x (List.mem_of_getElem? hx);rw [zl (s':=(D.vK (zy (l.take (i + 1))),((i + 1:Nat):Int))) ?_]
   ·exact ih (i + 1) (by omega)
   ·unfold Yv;simp only [hd,cond_true,zF hx,zA,D.x9a _ x.dot (show (D.vK (zy (l.take i))).length <= 1000000000000 by omega),zB,rdots_in l hx (show x.kills.length <= 1000000000 by omega) _ (show (D.z9a (D.vK (zy (l.take i))) x.dot).length <= 1000000000 by omega),zo (show i < 9223372036854775807 by omega)];rw [qL hx];unfold D.vK;rw [List.foldl_append];rfl
 have:=key l.length 0 (by omega);rw [show D.vK (zy (l.take 0)) = [] from rfl] at this;rw [show (0:Int) = ((0:Nat):Int) from rfl,this,zA]

def vp (l:List EV) (i:Nat) (x:EV):Bool:=decide (0 < i) && match l[i - 1]? with | some y=>decide (0 <= V.QH y.dot x.dot) | none=>false
theorem z1a {β:Type} {l:List EV} {i:Nat} {x:EV} (hi:i < l.length) (hl:l.length <= 1000000000) (f:DT -> DT -> M Int) (hf:∀ a b,f a b = pure (V.QH a b)) (K:Bool -> M β) :
  (cond (decide (0 < (i:Int))) ((idx l (IntKind.i64.wrap ((i:Int) - 1))).bind fun y=>(det (f y.dot x.dot)).bind fun v=>K (decide (0 <= v))) (K false)) = K (vp l i x):=by
 unfold vp
 by_cases h:0 < i
 ·obtain ⟨y,hy⟩:∃ y,l[i - 1]? = some y:=⟨_,List.getElem?_eq_getElem (by omega)⟩
  have e:IntKind.i64.wrap ((i:Int) - 1) = ((i - 1:Nat):Int):=by rw [Xi (by omega) (by omega)];omega
  have hd:decide (0 < (i:Int)) = true:=by simp;omega
  rw [hd,cond_true,e,zF hy,zA,hf,zB,zA,decide_eq_true h,Bool.true_and,hy]
 ·have hd:decide (0 < (i:Int)) = false:=by simp;omega
  rw [hd,cond_false,decide_eq_false h,Bool.false_and]
def uIa (d:DL) (i:Nat) (e:EV):Bool:=!yG e || (vp d.events i e || (C.ve d.from_ e.dot.dev e.dot.n || (decide (e.kind = 1) && vQ d.events e.dot)))
def Zg (d:DL):Bool:=decide (d.from_ = C.zQ d.from_) && (decide (d.to_ = C.zQ d.to_) && (decide (C.opC (fun x y=>x && !y) d.from_ d.to_ = []) && (decide (d.events.length <= 4096) && ((d.events.zipIdx.all fun y=>!uIa d y.2 y.1) && decide (UV (yN d.events) d.to_ = [])))))
structure OkD (d:DL):Prop where
 from_:C.Ok d.from_
 to_:C.Ok d.to_
 evs:∀ e ∈ d.events,OkE e
 len:d.events.length <= 1000000
 kills:∀ e ∈ d.events,e.kills.length <= 300
theorem Zya {α:Type} [DecidableEq α] (l:List α):decide ((l.length:Int) = 0) = decide (l = []):=by
 cases l with
 | nil=>rfl
 | cons x r=>simp;omega
theorem v8a {d:DL} (h:OkD d):loop (vV d) 0 = pure (if (d.events.zipIdx.all fun y=>!uIa d y.2 y.1) = true then Ex.brk () else Ex.ret false):=by
 have hl:=h.len;have:=xX (body:=vV d) d.events (fun i=>(i:Int)) (fun i x=>!uIa d i x) (Ex.brk ()) (Ex.ret false) (fun i x hx hi=>by
  have hd:decide ((i:Int) < (d.events.length:Int)) = true:=by simpa using hi
  have hm:=List.mem_of_getElem? hx;have hp:=fun (K:Bool -> M (Step Int (Ex Unit Bool)))=>z1a (x:=x) hi (by omega) vR D.QO K
  unfold vV;simp only [hd,cond_true,zF hx,zA,E.uF (h.evs x hm),C.Jt d.from_ x.dot h.from_.sm,Zwa d.events x.dot (by omega) (fun e he=>by have:=h.kills e he;omega),zB,zo (show i < 9223372036854775807 by omega)];have hp:=z1a (x:=x) hi (by omega) vR D.QO (fun b=>(pure b:M Bool));rw [hp];unfold uIa;simp only [zA]
  cases yG x with
  | false=>rfl
  | true=>
   cases C.ve d.from_ x.dot.dev x.dot.n with
   | true=>cases vp d.events i x <;> rfl
   | false=>
    cases vp d.events i x with
    | true=>rfl
    | false=>
     cases decide (x.kind = 1) with
     | false=>rfl
     | true=>cases vQ d.events x.dot <;> rfl) (by
  unfold vV;simp)
 rw [show (0:Int) = ((0:Nat):Int) from rfl,this]
theorem wKa {d:DL} (h:OkD d):loop (ZR d) 0 = pure (if (d.events.zipIdx.all fun y=>!uIa d y.2 y.1) = true then Ex.brk () else Ex.ret false):=by
 have hl:=h.len;have:=xX (body:=ZR d) d.events (fun i=>(i:Int)) (fun i x=>!uIa d i x) (Ex.brk ()) (Ex.ret false) (fun i x hx hi=>by
  have hd:decide ((i:Int) < (d.events.length:Int)) = true:=by simpa using hi
  have hm:=List.mem_of_getElem? hx;unfold ZR;simp only [hd,cond_true,zF hx,zA,E.YD (h.evs x hm),C.XR d.from_ x.dot h.from_,rDead_eq d.events x.dot (by omega) (fun e he=>by have:=h.kills e he;omega),zB,zo (show i < 9223372036854775807 by omega)];have hp:=z1a (x:=x) hi (by omega) Yo V.Yb (fun b=>(cond b (pure true) (cond (C.ve d.from_ x.dot.dev x.dot.n) (pure true) (cond (decide (x.kind = 1)) (pure (vQ d.events x.dot)) (pure false))):M Bool));refine (congrArg (fun m:M Bool=>M.bind (cond (!yG x) (pure true) m) fun v70=>cond v70 (pure (Step.done (Ex.ret false))) (pure (Step.next ((i + 1:Nat):Int)))) hp).trans ?_;unfold uIa
  cases yG x with
  | false=>rfl
  | true=>
   cases C.ve d.from_ x.dot.dev x.dot.n with
   | true=>cases vp d.events i x <;> rfl
   | false=>
    cases vp d.events i x with
    | true=>rfl
    | false=>
     cases decide (x.kind = 1) with
     | false=>rfl
     | true=>cases vQ d.events x.dot <;> rfl) (by
  unfold ZR;simp)
 rw [show (0:Int) = ((0:Nat):Int) from rfl,this]
theorem Zza (l:List EV):decide ((4096:Int) < (l.length:Int)) = !decide (l.length <= 4096):=by
 by_cases c:l.length <= 4096
 ·rw [decide_eq_true c];simp;omega
 ·rw [decide_eq_false c];simp;omega
theorem dlen {d:DL} (h:OkD d):(zy d.events).length <= 1000000000:=by have:=vg d.events 300 h.kills;have:=h.len;omega
theorem z2a {d:DL} (h:OkD d):YR d = pure (Zg d):=by
 have h1:=h.len;have h2:=dlen h;have h3:(yN d.events).length <= 1000000000:=Nat.le_trans (D.Wn _) h2;unfold YR Zg;rw [v8a h];simp only [C.uF _ h.from_.sm,C.uF _ h.to_.sm,C.ZRa _ _ h.from_.sm h.to_.sm,WE d.events (by omega) h2,Zxa _ _ h3 h.to_.sm,zB,zA,Zza,Zya]
 cases decide (d.from_ = C.zQ d.from_) with
 | false=>rfl
 | true=>
  cases decide (d.to_ = C.zQ d.to_) with
  | false=>rfl
  | true=>
   cases decide (C.opC (fun x y=>x && !y) d.from_ d.to_ = []) with
   | false=>rfl
   | true=>
    cases decide (d.events.length <= 4096) with
    | false=>rfl
    | true=>cases d.events.zipIdx.all fun y=>!uIa d y.2 y.1 <;> rfl
theorem qj {d:DL} (h:OkD d):jc d = pure (Zg d):=by
 have h1:=h.len;have h2:=dlen h;have h3:(yN d.events).length <= 1000000000:=Nat.le_trans (D.Wn _) h2;unfold jc Zg;rw [wKa h];simp only [C.YD _ h.from_,C.YD _ h.to_,C.vwa _ _ h.from_ h.to_,jy d.events (by omega) h.kills,rDrop_eq _ _ h3 h.to_,zB,zA,Zza,Zya]
 cases decide (d.from_ = C.zQ d.from_) with
 | false=>rfl
 | true=>
  cases decide (d.to_ = C.zQ d.to_) with
  | false=>rfl
  | true=>
   cases decide (C.opC (fun x y=>x && !y) d.from_ d.to_ = []) with
   | false=>rfl
   | true=>
    cases decide (d.events.length <= 4096) with
    | false=>rfl
    | true=>cases d.events.zipIdx.all fun y=>!uIa d y.2 y.1 <;> rfl

open E (OkE yG)

set_option maxHeartbeats 4000000 in
theorem eSame_eq (a b:EV) (h:a.kills.length <= 1000000000000):Wk a b = pure (decide (a = b)):=by
 unfold Wk;rw [D.yya,V.xza a.kills b.kills h,zB,zA];have e:decide (a = b) = (decide (a.dot = b.dot) && (decide (a.kind = b.kind) && (decide (a.cid = b.cid) && (decide (a.field = b.field) && (decide (a.text = b.text) && decide (a.kills = b.kills)))))):=by
  cases a;cases b;simp only [EV.mk.injEq,Bool.decide_and]
 rw [e]
 cases decide (a.dot = b.dot) <;> cases decide (a.kind = b.kind) <;> cases decide (a.cid = b.cid) <;> cases decide (a.field = b.field) <;> cases decide (a.text = b.text) <;> rfl
theorem eAll_eq (a b:List EV) (ha:a.length <= 1000000000000) (hk:∀ e ∈ a,e.kills.length <= 1000000000000):Vw a b = pure (decide (a = b)):=by
 unfold Vw zT
 by_cases hlen:a.length = b.length
 ·have h1:decide ((a.length:Int) = (b.length:Int)) = true:=by simp [hlen]
  rw [h1,Bool.not_true,cond_false];have:=xX (body:=zJ a b) a (fun i=>(i:Int)) (fun i x=>decide (b[i]? = some x)) (Ex.brk ()) (Ex.ret false) (fun i x hx hi=>by
   have hd:decide ((i:Int) < (a.length:Int)) = true:=by simpa using hi
   obtain ⟨y,hy⟩:∃ y,b[i]? = some y:=⟨_,List.getElem?_eq_getElem (by omega)⟩
   unfold zJ;simp only [hd,cond_true,zF hx,zF hy,zA,eSame_eq x y (hk x (List.mem_of_getElem? hx)),zB,zo (show i < 9223372036854775807 by omega),hy]
   by_cases c:x = y
   ·subst c;simp
   ·have:¬ some y = some x:=fun e=>c (Option.some.inj e).symm
    simp [c,this]) (by
   unfold zJ;simp)
  rw [show (0:Int) = ((0:Nat):Int) from rfl,this,zA];have e:(a.zipIdx.all fun y=>decide (b[y.2]? = some y.1)) = decide (a = b):=by
   rw [Bool.eq_iff_iff,List.all_eq_true,decide_eq_true_eq]
   constructor
   ·intro h;apply List.ext_getElem?;intro i
    by_cases hi:i < a.length
    ·have:=h (a[i],i) (by rw [List.mem_zipIdx_iff_getElem?];exact List.getElem?_eq_getElem hi);simp only [decide_eq_true_eq] at this;rw [this,List.getElem?_eq_getElem hi]
    ·rw [List.getElem?_eq_none (by omega),List.getElem?_eq_none (by omega)]
   ·rintro rfl y hy;rw [List.mem_zipIdx_iff_getElem?] at hy;simpa using hy
  rw [e]
  cases decide (a = b) <;> simp [zB,exk,zA]
 ·have h1:decide ((a.length:Int) = (b.length:Int)) = false:=by simp;omega
  have h2:decide (a = b) = false:=decide_eq_false fun e=>hlen (by rw [e])
  rw [h1,Bool.not_false,cond_true,zB,zA,h2]
def fewC (c:List PT):Bool:=decide (c.length <= 30) && c.all fun p=>decide (p.runs.length <= 30)
end Go.Ep.M.F


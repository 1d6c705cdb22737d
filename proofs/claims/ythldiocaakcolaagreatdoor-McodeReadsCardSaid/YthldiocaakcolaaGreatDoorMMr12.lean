/- Side texts. -/
import Derived.Test.YthldiocaakcolaaGreatDoorMMr11
set_option linter.unusedVariables false
set_option linter.unusedSimpArgs false
namespace Go.Ep.M.D
open Go

theorem qq {a b:DT}:zh a b = true ↔ a.dev < b.dev \/ (a.dev = b.dev /\ a.n < b.n):=by simp [zh]
theorem lt_irr (a:DT):zh a a = false:=by
 cases h:zh a a with
 | false=>rfl
 | true=>rw [qq] at h;omega
theorem jX {a b c:DT} (h1:zh a b = true) (h2:zh b c = true):zh a c = true:=by rw [qq] at *;omega
theorem xla {a b:DT} (h:zh a b = true):zh b a = false:=by
 cases h2:zh b a with
 | false=>rfl
 | true=>rw [qq] at h h2;omega
theorem ZBa {a b:DT} (h1:zh a b = false) (h2:zh b a = false):a = b:=by
 have h3:¬ (zh a b = true):=by simp [h1]
 have h4:¬ (zh b a = true):=by simp [h2]
 rw [qq] at h3 h4
 cases a;cases b
 simp only [DT.mk.injEq] at *
 omega
abbrev Srt (l:List DT):Prop:=l.Pairwise fun x y=>zh x y = true
theorem xma : ∀ {l l':List DT},Srt l -> Srt l' -> (∀ d,d ∈ l ↔ d ∈ l') -> l = l'
 | [],[],_,_,_=>rfl
 | [],y :: r,_,_,h=>by have:=(h y).2 (by simp);simp at this
 | x :: r,[],_,_,h=>by have:=(h x).1 (by simp);simp at this
 | x :: r,y :: t,h1,h2,h=>by
  have hx:=(h x).1 (by simp);have hy:=(h y).2 (by simp);have e:x = y:=by
   rcases List.mem_cons.1 hx with e | hx
   ·exact e
   ·rcases List.mem_cons.1 hy with e | hy
    ·exact e.symm
    ·have a1:=(List.pairwise_cons.1 h2).1 x hx;have a2:=(List.pairwise_cons.1 h1).1 y hy;rw [xla a1] at a2;cases a2
  subst e
  congr 1
  refine xma (List.pairwise_cons.1 h1).2 (List.pairwise_cons.1 h2).2 fun d=>?_
  have h3:=h d;simp only [List.mem_cons] at h3
  constructor
  ·intro hd;rcases h3.1 (.inr hd) with e | h4
   ·have:=(List.pairwise_cons.1 h1).1 d hd;rw [e,lt_irr] at this;cases this
   ·exact h4
  ·intro hd;rcases h3.2 (.inr hd) with e | h4
   ·have:=(List.pairwise_cons.1 h2).1 d hd;rw [e,lt_irr] at this;cases this
   ·exact h4

def zca (s:List DT) (d:DT):List DT:=(s.filter fun x=>zh x d) ++ [d] ++ (s.filter fun x=>zh d x)
theorem ins_mem {s:List DT} {d x:DT}:x ∈ zca s d ↔ x = d \/ x ∈ s:=by
 simp only [zca,List.mem_append,List.mem_filter,List.mem_singleton]
 constructor
 ·rintro ((h | h) | h)
  ·exact .inr h.1
  ·exact .inl h
  ·exact .inr h.1
 ·rintro (h | h)
  ·exact .inl (.inr h)
  ·cases h1:zh x d with
   | true=>exact .inl (.inl ⟨h,rfl⟩)
   | false=>
    cases h2:zh d x with
    | true=>exact .inr ⟨h,rfl⟩
    | false=>exact .inl (.inr (ZBa h1 h2))
theorem ins_srt {s:List DT} (h:Srt s) (d:DT):Srt (zca s d):=by
 unfold Srt zca;rw [List.pairwise_append,List.pairwise_append];refine ⟨⟨h.filter _,by simp,fun a ha b hb=>?_⟩,h.filter _,fun a ha b hb=>?_⟩
 ·rw [List.mem_singleton.1 hb];exact (List.mem_filter.1 ha).2
 ·have hb:=(List.mem_filter.1 hb).2;rcases List.mem_append.1 ha with ha | ha
  ·exact jX (List.mem_filter.1 ha).2 hb
  ·rw [List.mem_singleton.1 ha];exact hb
theorem zOa (s:List DT) (d:DT):(zca s d).length <= s.length + 1:=by
 unfold zca;have h:∀ l:List DT,(l.filter fun x=>zh x d).length + (l.filter fun x=>zh d x).length <= l.length:=by
  intro l
  induction l with
  | nil=>simp
  | cons x r ih=>
   cases h1:zh x d with
   | true=>simp [h1,xla h1];omega
   | false=>
    cases h2:zh d x with
    | true=>simp [h1,h2];omega
    | false=>simp [h1,h2];omega
 have:=h s;simp;omega
def ww (l:List DT):List DT:=l.foldl zca []
theorem jY : ∀ (l s:List DT),Srt s -> Srt (l.foldl zca s) /\ (∀ d,d ∈ l.foldl zca s ↔ d ∈ s \/ d ∈ l) /\ (l.foldl zca s).length <= s.length + l.length
 | [],s,h=>⟨h,by simp,by simp⟩
 | x :: r,s,h=>by
  obtain ⟨h1,h2,h3⟩:=jY r (zca s x) (ins_srt h x);refine ⟨h1,fun d=>?_,?_⟩
  ·rw [List.foldl_cons,h2 d,ins_mem,List.mem_cons]
   constructor
   ·rintro ((h | h) | h)
    ·exact .inr (.inl h)
    ·exact .inl h
    ·exact .inr (.inr h)
   ·rintro (h | h | h)
    ·exact .inl (.inr h)
    ·exact .inl (.inl h)
    ·exact .inr h
  ·have:=zOa s x;rw [List.foldl_cons,List.length_cons];omega
theorem wma (l:List DT):Srt (ww l):=(jY l [] List.Pairwise.nil).1
theorem zPa {l:List DT} {d:DT}:d ∈ ww l ↔ d ∈ l:=by simpa [ww] using (jY l [] List.Pairwise.nil).2.1 d
theorem jZ (l:List DT):(ww l).length <= l.length:=by simpa [ww] using (jY l [] List.Pairwise.nil).2.2
theorem ZCa {l:List DT} (h:Srt l):ww l = l:=xma (wma l) h fun _=>zPa
theorem xna (s:List DT) (d:DT) (h:s.length <= 1000000000000):Yc s d = pure (zca s d):=V.UV s d h

def ddS (out:List DT) (x:DT):List DT:=if out.getLast? = some x then out else out ++ [x]
def dd (l:List DT):List DT:=l.foldl ddS []
theorem Jd (l:List DT) (x:DT):dd (l ++ [x]) = ddS (dd l) x:=by simp [dd]
theorem xoa (l:List DT):(dd l).getLast? = l.getLast?:=by
 rcases R.yl l with rfl | ⟨r,y,rfl⟩
 ·rfl
 ·rw [Jd];unfold ddS
  by_cases c:(dd r).getLast? = some y
  ·rw [if_pos c,c];simp
  ·rw [if_neg c];simp
theorem dd_mem {l:List DT} {d:DT}:d ∈ dd l ↔ d ∈ l:=by
 have:∀ (l s:List DT),d ∈ l.foldl ddS s ↔ d ∈ s \/ d ∈ l:=by
  intro l
  induction l with
  | nil=>intro s;simp
  | cons x r ih=>
   intro s;rw [List.foldl_cons,ih];have h2:d ∈ ddS s x ↔ d ∈ s \/ d = x:=by
    unfold ddS
    split
    ·rename_i h
     exact ⟨.inl,fun h3=>h3.elim id fun e=>by rw [e];exact List.mem_of_getLast? h⟩
    ·simp
   rw [h2,List.mem_cons];exact or_assoc
 simpa [dd] using this l []
theorem dd_srt {l:List DT} (h:l.Pairwise fun x y=>zh y x = false):Srt (dd l):=by
 have:∀ (n:Nat) (l:List DT),l.length = n -> (l.Pairwise fun x y=>zh y x = false) -> Srt (dd l):=by
  intro n
  induction n with
  | zero=>intro l hl _;have:=List.eq_nil_of_length_eq_zero hl;subst this;exact List.Pairwise.nil
  | succ n ih=>
   intro l hl h;rcases R.yl l with rfl | ⟨r,y,rfl⟩
   ·simp at hl
   ·rw [List.pairwise_append] at h;have hr:=ih r (by simpa using hl) h.1;rw [Jd];unfold ddS
    split
    ·exact hr
    ·rename_i hne
     unfold Srt;rw [List.pairwise_append];refine ⟨hr,by simp,fun a ha b hb=>?_⟩;rw [List.mem_singleton.1 hb];have ha':=dd_mem.1 ha;have h1:=h.2.2 a ha' y (by simp)
     cases h2:zh a y with
     | true=>rfl
     | false=>
      exfalso;have e:=ZBa h2 h1;subst e;rw [xoa] at hne;rcases R.yl r with rfl | ⟨q,z,rfl⟩
      ·simp at ha'
      ·have hz:zh a z = false:=h.2.2 z (by simp) a (by simp);rcases List.mem_append.1 ha' with h5 | h5
       ·have h6:zh z a = false:=by
         have:=(List.pairwise_append.1 h.1).2.2 a h5 z (by simp);exact this
        have:=ZBa hz h6;subst this;simp at hne
       ·rw [List.mem_singleton.1 h5] at hne;simp at hne
 exact this l.length l rfl h

theorem Clone_eq (l:List DT) (h:l.length <= 1000000000000):yX l = pure l:=by
 unfold yX;refine YU ⟨⟨false,fun h=>by cases h⟩,fun b hb=>?_⟩
 cases b with
 | true=>show ([]:List DT) = l;exact (hb rfl).symm
 | false=>
  show _ /\ ([] ++ l = l)
  exact ⟨by simp;omega,List.nil_append l⟩
theorem xpa (x y:DT):(decide (x.dev = y.dev) && decide (x.n = y.n)) = decide (x = y):=by
 cases x;cases y;simp [Bool.decide_and]
theorem Xf {l:List DT} {m:Nat} {x:DT} (h:l[m]? = some x):l.take (m + 1) = l.take m ++ [x]:=by
 rw [List.take_add_one,h];rfl
theorem yTa {l:List DT} {m:Nat} {x:DT} (h:l[m]? = some x):(l.take (m + 1)).getLast? = some x:=by rw [Xf h];simp
theorem Ue (s:List DT) (k:Nat) (hk:k < s.length) (hl:s.length <= 1000000000000):∀ (d k2 kk:Nat) (v:List DT),k + k2 + d = s.length -> 1 <= k2 -> v.length = s.length -> kk + 1 <= k + k2 -> v.take kk = dd (s.take (k + k2)) -> v.drop (k + k2 - 1) = s.drop (k + k2 - 1) ->
  ∃ (kk':Nat) (v':List DT),loop (zk s (k:Int)) ((kk:Int),(k2:Int),v) = pure ((kk':Int),v') /\ v'.length = s.length /\ kk' <= s.length /\ v'.take kk' = dd s
 | 0,k2,kk,v,hd,h1,hv,hkk,ht,_=>by
  refine ⟨kk,v,zP ?_,hv,by omega,by rw [ht,show k + k2 = s.length by omega,List.take_length]⟩;unfold zk;have:decide ((k2:Int) < (((s.length - (k:Int).toNat:Nat)):Int)) = false:=by simp;omega
  simp only [this,cond_false]
 | d + 1,k2,kk,v,hd,h1,hv,hkk,ht,hdr=>by
  have hvg:∀ j,k + k2 - 1 <= j -> v[j]? = s[j]?:=fun j hj=>by
   have:=congrArg (fun l=>l[j - (k + k2 - 1)]?) hdr;simp only [List.getElem?_drop] at this;rw [show k + k2 - 1 + (j - (k + k2 - 1)) = j by omega] at this;exact this
  obtain ⟨x,hx⟩:∃ x,s[k + k2]? = some x:=⟨_,List.getElem?_eq_getElem (by omega)⟩
  obtain ⟨y,hy⟩:∃ y,s[k + k2 - 1]? = some y:=⟨_,List.getElem?_eq_getElem (by omega)⟩
  have hlast:(dd (s.take (k + k2))).getLast? = some y:=by
   rw [xoa];have:=yTa hy
   rwa [show k + k2 - 1 + 1 = k + k2 by omega] at this
  have hdd:dd (s.take (k + k2 + 1)) = if y = x then dd (s.take (k + k2)) else dd (s.take (k + k2)) ++ [x]:=by
   rw [Xf hx,Jd];unfold ddS;rw [hlast]
   by_cases c:y = x
   ·rw [if_pos c,if_pos (by rw [c])]
   ·rw [if_neg c,if_neg (by intro e;exact c (Option.some.inj e))]
  have hb:zk s (k:Int) ((kk:Int),(k2:Int),v) = pure (.next (if y = x then ((kk:Int),((k2 + 1:Nat):Int),v) else (((kk + 1:Nat):Int),((k2 + 1:Nat):Int),v.set kk x))):=by
   unfold zk;have hc:decide ((k2:Int) < (((s.length - (k:Int).toNat:Nat)):Int)) = true:=by simp;omega
   have e1:IntKind.i64.wrap ((k2:Int) - 1) = ((k2 - 1:Nat):Int):=by rw [uJ (by omega) (by omega)];omega
   have i1:idx v ((((k:Int).toNat + (k2:Int).toNat:Nat)):Int) = pure x:=zN (by rw [Int.toNat_natCast,Int.toNat_natCast,hvg _ (by omega)];exact hx);have i2:idx v ((((k:Int).toNat + (((k2 - 1:Nat):Int)).toNat:Nat)):Int) = pure y:=zN (by rw [Int.toNat_natCast,Int.toNat_natCast,hvg _ (by omega),show k + (k2 - 1) = k + k2 - 1 by omega];exact hy);obtain ⟨z,hz⟩:∃ z,v[kk]? = some z:=⟨_,List.getElem?_eq_getElem (by omega)⟩
   have i3:idx v (kk:Int) = pure z:=zN hz;simp only [hc,cond_true,e1];rw [zD (by simp;omega),i1,zA,zD (by simp;omega),i2,zA];simp only [xpa]
   by_cases c:y = x
   ·have c1:decide (x = y) = true:=decide_eq_true c.symm;simp only [c1,Bool.not_true,cond_false,zA,yT (show k2 < 9223372036854775807 by omega),if_pos c]
   ·have c1:decide (x = y) = false:=decide_eq_false (fun e=>c e.symm);simp only [c1,Bool.not_false,cond_true,if_neg c];rw [zD (by simp;omega),i3];simp only [zA,yT (show k2 < 9223372036854775807 by omega),yT (show kk < 9223372036854775807 by omega),Int.toNat_natCast]
  by_cases c:y = x
  ·rw [if_pos c] at hb hdd;rw [zW hb];refine Ue s k hk hl d (k2 + 1) kk v (by omega) (by omega) hv (by omega) (by rw [ht,<- hdd];rfl) ?_;have:=congrArg (List.drop 1) hdr;rw [List.drop_drop,List.drop_drop,show k + k2 - 1 + 1 = k + (k2 + 1) - 1 by omega] at this;exact this
  ·rw [if_neg c] at hb hdd;rw [zW hb];refine Ue s k hk hl d (k2 + 1) (kk + 1) (v.set kk x) (by omega) (by omega) (by simpa using hv) (by omega) ?_ ?_
   ·have h5:(v.set kk x)[kk]? = some x:=by rw [List.getElem?_set];simp;omega
    rw [Xf h5,List.take_set,List.set_eq_of_length_le (by rw [List.length_take];omega),ht,<- hdd];rfl
   ·rw [List.drop_set,if_pos (by omega)];have:=congrArg (List.drop 1) hdr;rw [List.drop_drop,List.drop_drop,show k + k2 - 1 + 1 = k + (k2 + 1) - 1 by omega] at this;exact this
theorem vha (s:List DT) (hl:s.length <= 1000000000000):zt s = pure (dd s):=by
 unfold zt
 by_cases h2:s.length < 2
 ·have:decide ((s.length:Int) < 2) = true:=by simp;omega
  rw [this,cond_true]
  match s,h2 with
  | [],_=>rfl
  | [x],_=>rfl
 ·have:decide ((s.length:Int) < 2) = false:=by simp;omega
  rw [this,cond_false];have key:∀ d k,k + d = s.length -> 1 <= k -> dd (s.take k) = s.take k -> (loop (zl s) (k:Int)).bind (exk fun _=>pure s) = pure (dd s):=by
   intro d
   induction d with
   | zero=>
    intro k hk h1 hd;rw [zP (r:=.brk ()) (by
     unfold zl;have:decide ((k:Int) < (s.length:Int)) = false:=by simp;omega
     simp only [this,cond_false])]
    rw [show k = s.length by omega,List.take_length] at hd;show pure s = pure (dd s);rw [hd]
   | succ d ih=>
    intro k hk h1 hd;obtain ⟨x,hx⟩:∃ x,s[k]? = some x:=⟨_,List.getElem?_eq_getElem (by omega)⟩
    obtain ⟨y,hy⟩:∃ y,s[k - 1]? = some y:=⟨_,List.getElem?_eq_getElem (by omega)⟩
    have hlast:(dd (s.take k)).getLast? = some y:=by
     rw [xoa];have:=yTa hy
     rwa [show k - 1 + 1 = k by omega] at this
    have hc:decide ((k:Int) < (s.length:Int)) = true:=by simp;omega
    have i1:idx s (k:Int) = pure x:=zN hx;have i2:idx s (IntKind.i64.wrap ((k:Int) - 1)) = pure y:=by
     rw [uJ (by omega) (by omega)];exact Wb (by omega) (by rw [show ((k:Int) - 1).toNat = k - 1 by omega];exact hy)
    by_cases c:x = y
    ·subst c;obtain ⟨kk,v,h5,h6,h7,h8⟩:=Ue s k (by omega) hl d 1 k s (by omega) (by omega) rfl (by omega) (by
      rw [Xf hx,Jd,ddS,if_pos hlast,hd]) (by rw [show k + 1 - 1 = k by omega])
     rw [zP (r:=.ret (dd s)) (by
      unfold zl;simp only [hc,cond_true,i1,i2,zA,xpa,decide_true];rw [zD (by omega),show (1:Int) = ((1:Nat):Int) from rfl,h5,zA];simp only [];rw [zD (by omega),zD (by simp;omega),zD (by
       simp only [List.length_append,List.length_take,List.length_replicate,List.length_drop,Int.toNat_natCast];omega),zA,vE]
      congr 3
      rw [Int.toNat_natCast,List.append_assoc,List.take_append_of_le_length (by rw [List.length_take];omega),List.take_take,Nat.min_self,h8])]
     rfl
    ·have c1:decide (x = y) = false:=decide_eq_false c;rw [zW (s':=((k + 1:Nat):Int)) (by
      unfold zl;simp only [hc,cond_true,i1,i2,zA,xpa,c1,cond_false,wi,yT (show k < 9223372036854775807 by omega)])]
     refine ih (k + 1) (by omega) (by omega) ?_;rw [Xf hx,Jd,ddS,if_neg (by rw [hlast];intro e;exact c (Option.some.inj e).symm),hd]
  have:=key (s.length - 1) 1 (by omega) (by omega) (by
   obtain ⟨x,r,rfl⟩:∃ x r,s = x :: r:=by
    cases s with
    | nil=>simp at h2
    | cons x r=>exact ⟨x,r,rfl⟩
   rfl)
  exact this
theorem uua {l:List DT} {Q:List DT -> Prop} (h:∀ s,s.Perm l -> (s.Pairwise fun x y=>zh y x = false) -> Q s):(srt zh l).wp Q:=by
 refine ⟨⟨l.mergeSort (fun x y=>!zh y x),List.mergeSort_perm _ _,?_⟩,fun s ⟨h1,h2⟩=>h s h1 h2⟩;refine (List.pairwise_mergeSort (fun a b c h1 h2=>?_) (fun a b=>?_) l).imp fun {x y} h=>by simpa using h
 ·simp only [Bool.not_eq_true'] at h1 h2 ⊢
  cases h3:zh c a with
  | false=>rfl
  | true=>
   rw [qq] at h3;have h4:¬ (zh b a = true):=by simp [h1]
   have h5:¬ (zh c b = true):=by simp [h2]
   rw [qq] at h4 h5;omega
 ·cases h1:zh b a with
  | false=>rfl
  | true=>rw [xla h1];rfl
theorem xqa (l:List DT) (h:l.length <= 1000000000000):Xw l = pure (ww l):=by
 unfold Xw;rw [Clone_eq l h,zB,zA,zD (by omega)];refine YU (uua fun s hs hp=>?_);show (bind (det (zt s)) fun y8=>pure y8).wp _;rw [vha s (by rw [hs.length_eq];exact h),zB,zA];exact xma (dd_srt hp) (wma l) fun d=>by rw [dd_mem,zPa];exact hs.mem_iff

theorem cmp16_eq (x y:Int):xV x y = pure (R.uva x y):=by
 unfold xV wd R.uva;simp only [decide_true,Bool.not_true,zB,zA,cond_false,vN]
 split
 ·rfl
 ·split <;> rfl
theorem qr (a b:DT):vT a b = pure (V.yta a b):=by
 unfold vT;rw [cmp16_eq,zB,zA,R.uwa,zB,zA];unfold V.yta R.uva
 cases a with | mk d n=>cases b with | mk e m=>
 simp only [DT.mk.injEq,zh]
 by_cases h1:d < e
 ·have:¬ d = e:=by omega
  simp [h1,this]
 ·by_cases h2:e < d
  ·have:¬ d = e:=by omega
   simp [h1,h2,this]
  ·have h3:d = e:=by omega
   subst h3
   by_cases h4:n < m
   ·have:¬ n = m:=by omega
    simp [h4,this]
   ·by_cases h5:m < n
    ·have:¬ n = m:=by omega
     simp [h4,h5,this]
    ·have:n = m:=by omega
     simp [this]


theorem zQa {σ ρ ε:Type} {body:σ -> M (Step σ ρ)} (l:List ε) (f:ε -> List Int) (row:List Int) (N:Nat) (mk:Nat -> List Int -> σ) (g:List Int -> M ρ) (hN:row.length + (l.flatMap f).length <= N)
  (h1:∀ (i:Nat) (x:ε) (out:List Int),l[i]? = some x -> i < l.length -> out.length + (f x).length <= N -> body (mk i out) = pure (.next (mk (i + 1) (out ++ f x))))
  (h2:∀ out,body (mk l.length out) = (g out).bind fun r=>pure (.done r)):loop body (mk 0 row) = g (row ++ l.flatMap f):=by
 have key:∀ (k i:Nat) (out:List Int),i + k = l.length -> out.length + ((l.drop i).flatMap f).length <= N -> loop body (mk i out) = g (out ++ (l.drop i).flatMap f):=by
  intro k
  induction k with
  | zero=>
   intro i out hi _;have:i = l.length:=by omega
   subst this;rw [jl,h2,List.drop_length];simp only [List.flatMap_nil,List.append_nil]
   rfl
  | succ k ih=>
   intro i out hi hl;have hlt:i < l.length:=by omega
   rw [List.drop_eq_getElem_cons hlt,List.flatMap_cons,List.length_append] at hl;rw [zW (h1 i l[i] out (List.getElem?_eq_getElem hlt) hlt (by omega)),ih (i + 1) _ (by omega) (by rw [List.length_append];omega),List.drop_eq_getElem_cons hlt,List.flatMap_cons,List.append_assoc]
 simpa using key l.length 0 row (by omega) (by simpa using hN)
theorem Vx {ε:Type} (l:List ε) (f:ε -> List Int) (k:Nat) (h:∀ x ∈ l,(f x).length <= k):(l.flatMap f).length <= k * l.length:=by
 induction l with
 | nil=>simp
 | cons x r ih=>
  have h1:=h x (by simp);have h2:=ih fun y hy=>h y (by simp [hy])
  rw [List.flatMap_cons,List.length_append,List.length_cons,Nat.mul_add];omega

structure OkD (d:DT):Prop where
 d0:0 <= d.dev
 d1:d.dev <= 65535
 n0:0 <= d.n
 n1:d.n <= 18446744073709551615
def encD (d:DT):List Int:=N.vB d.dev ++ N.vB d.n
theorem ja {d:DT} (h:OkD d):(encD d).length <= 18:=by
 have h1:=N.zn (v:=d.dev) (by have:=h.d1;omega);have h2:=N.zn (v:=d.n) h.n1;rw [encD,List.length_append];omega
theorem yUa {d:DT} (h:OkD d) (row:List Int) (hr:row.length <= 1000000000000):wH d row = pure (row ++ encD d):=by
 have h1:=N.zn (v:=d.dev) (by have:=h.d1;omega);unfold wH;rw [Zs h.d0 (by have:=h.d1;omega),N.vP row h.d0 (by have:=h.d1;omega) (by omega),zB,zA,N.vP _ h.n0 h.n1 (by rw [List.length_append];omega),zB,zA,encD,List.append_assoc]
def ZW (l:List DT):List DT:=l.filter V.yZ
def Uu (l:List DT):List Int:=N.vB (ww (ZW l)).length ++ (ww (ZW l)).flatMap encD
theorem ZDa (l : List DT) (hl : l.length <= 1000000000000) : loop (yt l) (0, []) = pure (ZW l) := by
  have := XO (body := yt l) l (fun i t => ((i : Int), t)) (fun t d => if V.yZ d = true then t ++ [d] else t) (fun t => pure t) (fun i t => t.length <= i) (fun i x t hx hi hI => by
    have hd : decide ((i : Int) < (l.length : Int)) = true := by simpa using hi
    refine ⟨?_, by split
                   · simp; omega
                   · omega⟩
    unfold yt;simp only [hd, cond_true, zN hx, zA, V.ZK, zB, yT (show i < 9223372036854775807 by omega)]
    by_cases c : V.yZ x = true
    · rw [c, cond_true, zD (by simp; omega), zA, if_pos rfl]
    · simp only [Bool.not_eq_true] at c;rw [c, cond_false, zA]; rfl) (fun t _ => by
    unfold yt;simp [zA]) [] (by simp)
  rw [show (0 : Int) = ((0 : Nat) : Int) from rfl, this]
  congr 1
  have key : ∀ (l t : List DT), l.foldl (fun t d => if V.yZ d = true then t ++ [d] else t) t = t ++ ZW l := by
    intro l
    induction l with
    | nil => intro t; simp [ZW]
    | cons x r ih =>
      intro t;rw [List.foldl_cons, ih];unfold ZW
      by_cases c : V.yZ x = true
      · rw [if_pos c, List.filter_cons_of_pos c, List.append_assoc]; rfl
      · rw [if_neg c, List.filter_cons_of_neg c]
  simpa using key l []
theorem wna {l:List DT} {d:DT}:d ∈ ww (ZW l) ↔ d ∈ l /\ V.yZ d = true:=by rw [zPa,ZW,List.mem_filter]
theorem jb (l:List DT):(ww (ZW l)).length <= l.length:=Nat.le_trans (jZ _) (List.length_filter_le _ _)
theorem zRa {l:List DT} (h:∀ d ∈ l,OkD d):∀ d ∈ ww (ZW l),OkD d:=fun d hd=>h d (wna.1 hd).1
theorem ZEa {l:List DT} (h:∀ d ∈ l,OkD d) (hl:l.length <= 1000000000000):(Uu l).length <= 9 + 18 * l.length:=by
 have h1:=N.zn (v:=((ww (ZW l)).length:Int)) (by have:=jb l;omega);have h2:=Vx (ww (ZW l)) encD 18 fun x hx=>ja (zRa h x hx)
 have h3:=jb l;rw [Uu,List.length_append];omega
theorem via {l:List DT} (h:∀ d ∈ l,OkD d) (hl:l.length <= 1000000000) (row:List Int) (hr:row.length <= 100000000000):vI l row = pure (row ++ Uu l):=by
 have h3:=jb l;have h1:=N.zn (v:=((ww (ZW l)).length:Int)) (by omega);have h2:=Vx (ww (ZW l)) encD 18 fun x hx=>ja (zRa h x hx)
 unfold vI;rw [ZDa l (by omega),zA,xqa _ (by have:=List.length_filter_le V.yZ l;unfold ZW;omega),zB,zA,Zs (by omega) (by omega),N.vP row (by omega) (by omega) (by omega),zB,zA];have:=zQa (body:=xX (ww (ZW l))) (ww (ZW l)) encD (row ++ N.vB ((ww (ZW l)).length:Int)) 1000000000000 (fun i out=>((i:Int),out)) (fun t=>pure t) (by rw [List.length_append];omega) (fun i x out hx hi ho=>by
  have hd:decide ((i:Int) < ((ww (ZW l)).length:Int)) = true:=by simpa using hi
  unfold xX;simp only [hd,cond_true,zN hx,zA,yUa (zRa h x (List.mem_of_getElem? hx)) out (by omega),zB,yT (show i < 9223372036854775807 by omega)]) (fun out=>by
  unfold xX;simp [zA])
 rw [show (0:Int) = ((0:Nat):Int) from rfl,this,Uu,List.append_assoc]
def vja (x:RN):List Int:=N.vB x.lo ++ N.vB x.hi
def ZFa (p:PT):List Int:=N.vB p.dev ++ (N.vB p.runs.length ++ p.runs.flatMap vja)
def v0a (c:List PT):List Int:=N.vB c.length ++ c.flatMap ZFa
def qK (c:List PT):List Int:=v0a (C.yC c)
structure OkP (p:PT):Prop where
 d0:0 <= p.dev
 d1:p.dev <= 65535
 r:∀ x ∈ p.runs,(0 <= x.lo /\ x.lo <= 18446744073709551615) /\ 0 <= x.hi /\ x.hi <= 18446744073709551615
theorem woa {x:RN} (h:(0 <= x.lo /\ x.lo <= 18446744073709551615) /\ 0 <= x.hi /\ x.hi <= 18446744073709551615):(vja x).length <= 18:=by
 have h1:=N.zn h.1.2;have h2:=N.zn h.2.2;rw [vja,List.length_append];omega
theorem encP_len {p:PT} (h:OkP p) (hl:p.runs.length <= 1000000000000):(ZFa p).length <= 18 + 18 * p.runs.length:=by
 have h1:=N.zn (v:=p.dev) (by have:=h.d1;omega);have h2:=N.zn (v:=(p.runs.length:Int)) (by omega);have h3:=Vx p.runs vja 18 fun x hx=>woa (h.r x hx)
 rw [ZFa,List.length_append,List.length_append];omega
theorem yVa (c:List PT) (h:∀ p ∈ c,OkP p) (hl:C.yf c <= 1000000000000):(c.flatMap ZFa).length <= 18 * c.length + 18 * C.yf c:=by
 induction c with
 | nil=>simp
 | cons p r ih=>
  have e:C.yf (p :: r) = p.runs.length + C.yf r:=by simp [C.yf]
  have h1:=encP_len (h p (by simp)) (by omega);have h2:=ih (fun q hq=>h q (by simp [hq])) (by omega);rw [List.flatMap_cons,List.length_append,List.length_cons,e];omega
theorem wpa {c:List PT} (h:∀ p ∈ c,OkP p) (hc:c.length <= 1000000000000) (hl:C.yf c <= 1000000000000):(v0a c).length <= 9 + 18 * c.length + 18 * C.yf c:=by
 have h1:=N.zn (v:=(c.length:Int)) (by omega);have h2:=yVa c h hl;rw [v0a,List.length_append];omega
theorem zSa {c:List PT} (h:∀ p ∈ c,p.dev <= 65535):∀ p ∈ C.yC c,OkP p:=fun p hp=>by
 have h1:=(C.YL c).nf p hp;refine ⟨by omega,?_,fun x hx=>?_⟩
 ·have h2:=(C.vb.1 hp).1;obtain ⟨q,hq,e⟩:=(C.wg.1 h2).1;rw [<- e];exact h q hq
 ·have:=R.zi.1 (h1.2.2.may x hx);omega


theorem Vy {c:List PT} (ho:C.Ok c) (h:∀ p ∈ c,p.dev <= 65535) (hs:c.length <= 100000000 /\ C.yf c <= 100000000) (row:List Int) (hr:row.length <= 100000000000):yG c row = pure (row ++ qK c):=by
 have hn:=C.Xa c;have ht:=C.Xb c;have hp:=zSa h;have hl:=wpa hp (by omega) (by omega);have h9:=N.zn (v:=((C.yC c).length:Int)) (by omega);have hf:=yVa (C.yC c) hp (by omega);unfold yG;rw [C.xea c ho.sm,zB,zA,Zs (by omega) (by omega),N.vP row (by omega) (by omega) (by omega),zB,zA];have:=zQa (body:=xn (C.yC c)) (C.yC c) ZFa (row ++ N.vB ((C.yC c).length:Int)) 1000000000000 (fun i out=>((i:Int),out)) (fun t=>pure t) (by rw [List.length_append];omega) (fun i p out hx hi hout=>by
  have hd:decide ((i:Int) < ((C.yC c).length:Int)) = true:=by simpa using hi
  have hm:=List.mem_of_getElem? hx;have hpp:=hp p hm;have hrl:p.runs.length <= 1000000000:=by have:=C.yQa p hm;omega
  have e1:=N.zn (v:=p.dev) (by have:=hpp.d1;omega);have e2:=N.zn (v:=(p.runs.length:Int)) (by omega);have e3:=Vx p.runs vja 18 fun x hx=>woa (hpp.r x hx)
  unfold xn;simp only [hd,cond_true,zN hx,zA];rw [Zs hpp.d0 (by have:=hpp.d1;omega),N.vP out hpp.d0 (by have:=hpp.d1;omega) (by omega),zB,zA,Zs (by omega) (by omega),N.vP _ (by omega) (by omega) (by rw [List.length_append];omega),zB,zA];have:=zQa (body:=xm p) p.runs vja (out ++ N.vB p.dev ++ N.vB (p.runs.length:Int)) 2000000000000 (fun i out=>((i:Int),out)) (fun t=>pure t) (by rw [List.length_append,List.length_append];omega) (fun j x out2 hx2 hj hout2=>by
   have hd2:decide ((j:Int) < (p.runs.length:Int)) = true:=by simpa using hj
   have hxr:=hpp.r x (List.mem_of_getElem? hx2);have e4:=N.zn hxr.1.2;unfold xm;simp only [hd2,cond_true,zN hx2,zA];rw [N.vP out2 hxr.1.1 hxr.1.2 (by omega),zB,zA,N.vP _ hxr.2.1 hxr.2.2 (by rw [List.length_append];omega),zB,zA,yT (show j < 9223372036854775807 by omega),vja,List.append_assoc]) (fun out=>by
   unfold xm;simp [zA])
  rw [show (0:Int) = ((0:Nat):Int) from rfl,this,zA,yT (show i < 9223372036854775807 by omega),ZFa];simp only [List.append_assoc]) (fun out=>by
  unfold xn;simp [zA])
 rw [show (0:Int) = ((0:Nat):Int) from rfl,this,qK,v0a,List.append_assoc]
theorem wqa {a b:List Int} (ha:N.By a) (hb:N.By b) (h:XK a = XK b):a = b:=by
 have key:∀ (l:List Int) (r:ByteArray),(l.foldl (fun r n=>r.push (UInt8.ofNat n.toNat)) r).data.toList = r.data.toList ++ l.map fun n=>UInt8.ofNat n.toNat:=by
  intro l
  induction l with
  | nil=>intro r;simp
  | cons x t ih=>intro r;rw [List.foldl_cons,ih];simp
 have e:a.map (fun n=>UInt8.ofNat n.toNat) = b.map fun n=>UInt8.ofNat n.toNat:=by
  have h1:=key a ByteArray.empty;have h2:=key b ByteArray.empty;have h3:=congrArg (fun s:ByteArray=>s.data.toList) h;simp only [XK] at h3;rw [h1,h2] at h3;simpa using h3
 have:∀ (a b:List Int),N.By a -> N.By b -> a.map (fun n=>UInt8.ofNat n.toNat) = b.map (fun n=>UInt8.ofNat n.toNat) -> a = b:=by
  intro a
  induction a with
  | nil=>intro b _ _ h;cases b with
   | nil=>rfl
   | cons=>simp at h
  | cons x t ih=>
   intro b ha hb h
   cases b with
   | nil=>simp at h
   | cons y u=>
    simp only [List.map_cons,List.cons.injEq] at h;have hx:=ha x (by simp);have hy:=hb y (by simp);have e:=congrArg UInt8.toNat h.1;simp only [UInt8.toNat_ofNat'] at e;rw [ih u (fun z hz=>ha z (by simp [hz])) (fun z hz=>hb z (by simp [hz])) h.2]
    congr 1;omega
 exact this a b ha hb e
theorem by_encC (c:List PT) (h:∀ p ∈ C.yC c,OkP p) (hl:(C.yC c).length <= 1000000000000 /\ C.yf (C.yC c) <= 1000000000000):N.By (qK c):=by
 have hR:∀ p,OkP p -> ∀ x ∈ p.runs,N.By (vja x):=fun p hp x hx=>(N.uV (hp.r x hx).1.2).app (N.uV (hp.r x hx).2.2)
 have flat:∀ {ε:Type} (l:List ε) (f:ε -> List Int),(∀ x ∈ l,N.By (f x)) -> N.By (l.flatMap f):=fun l f hf y hy=>by
  obtain ⟨x,hx,h⟩:=List.mem_flatMap.1 hy;exact hf x hx y h
 refine (N.uV (by omega)).app (flat _ _ fun p hp=>?_);have hpp:=h p hp;have:=C.yQa p hp;exact (N.uV (by have:=hpp.d1;omega)).app ((N.uV (by omega)).app (flat _ _ (hR p hpp)))
open N (RS Ok zM zu wW zba OkB Sim)

def WS (c:Bool) (s:RS):RS:=if c = true then wW 4 s else s
def fin {α:Type} (z x:α) (t:RS):α × RS:=if t.2 ≠ 0 then (z,t) else (x,t)
theorem Xg (e:Int) (s:RS):(wW e s).1.length <= s.1.length:=by unfold wW;split <;> simp
theorem Uf {s:RS} (h:Ok s) (c:Bool):Ok (WS c s):=by unfold WS;split;exact N.Xe h _;exact h
theorem bad4_le (c:Bool) (s:RS):(WS c s).1.length <= s.1.length:=by unfold WS;split;exact Xg _ _;exact Nat.le_refl _
theorem Ug {c:Bool} {s:RS} (h:(WS c s).2 = 0):c = false /\ s.2 = 0 /\ WS c s = s:=by
 unfold WS at h ⊢
 cases c with
 | true=>exact absurd h (N.xu (by decide))
 | false=>exact ⟨rfl,h,rfl⟩
theorem ZGa {c:Bool} {s:RS} (h:s.2 ≠ 0):WS c s = s:=by unfold WS;split;exact N.fail_of 4 h;rfl
theorem ZHa {s:RS}:(WS true s).2 ≠ 0:=N.xu (by decide)
theorem YM {s:RS}:WS false s = s:=rfl
theorem YN {α:Type} (z x:α) (t:RS):(fin z x t).2 = t:=by unfold fin;split <;> rfl
theorem Wh {α:Type} {z x:α} {t:RS} (h:t.2 = 0):fin z x t = (x,t):=if_neg (by simp [h])
theorem Zo {α:Type} {z x:α} {t:RS} (h:t.2 ≠ 0):fin z x t = (z,t):=if_pos h
theorem xra (c:Bool) (s:RS):((cond c ((det (zL 4 s.1 s.2)).bind fun y=>pure (y.1,y.2)) (pure (s.1,s.2))):M RS) = pure (WS c s):=by
 cases c with
 | true=>rw [cond_true,N.Zn,zB,zA];rfl
 | false=>rfl
theorem zTa (c:Bool) (s:RS):((cond (!c) ((det (zL 4 s.1 s.2)).bind fun y=>pure (y.1,y.2)) (pure (s.1,s.2))):M RS) = pure (WS (!c) s):=xra (!c) s
theorem xsa {α:Type} (z x:α) (t:RS):((det (zX t.1 t.2)).bind fun y=>(cond (!decide (y.1 = 0)) (pure (z,y.2.1,y.2.2)) (pure (x,y.2.1,y.2.2)):M (α × List Int × Int))) = pure (fin z x t):=by
 rw [N.Wg,zB,zA]
 by_cases h:t.2 = 0
 ·rw [Wh h,decide_eq_true h];rfl
 ·rw [Zo h,decide_eq_false h];rfl
theorem Uh (B:List Int) (a:Int) (c:Bool) (s:RS):((cond c ((det (zC 4 B a s.2)).bind fun y=>pure (y.1,y.2.1,y.2.2)) (pure (B,a,s.2))):M (List Int × Int × Int)) = pure (B,a,(WS c s).2):=by
 cases c with
 | true=>rw [cond_true,N.vq B a s (by decide),zB,zA];rfl
 | false=>rfl
theorem WT {B:List Int} {a:Int} {s:RS} (h:Sim B a s) (c:Bool):Sim B a (WS c s):=by unfold WS;split;exact h.fail (by decide);exact h
theorem Je (e:Int) (m:M Bool) (q:Bool) (h:m = pure q):(cond (decide (e = 0)) m (pure false):M Bool) = pure (decide (e = 0) && q):=by rw [h,za]
theorem Vz (q:Bool) (s:RS):WS (decide (s.2 = 0) && q) s = WS q s:=by
 by_cases h:s.2 = 0
 ·rw [decide_eq_true h,Bool.true_and]
 ·rw [decide_eq_false h,Bool.false_and,ZGa h,ZGa h]

theorem Wi (s:RS):(zM s).2.1.length <= s.1.length:=by
 unfold zM
 split
 ·exact Nat.le_refl _
 ·split
  ·exact Xg _ _
  ·simp
theorem yWa {s:RS} (hO:Ok s) (h0:s.2 = 0) (h:(zM s).2.2 = 0):(zM s).2.1.length + 1 <= s.1.length:=by
 unfold zM at h ⊢;rw [if_neg (by simp [h0])] at h ⊢
 by_cases c:(N.rdN s.1).2.2 = 0
 ·rw [if_neg (by simp [c])];rcases N.Ja s.1 hO.by_ with (h1 | h1) | ⟨n,r,h1,h2,h3,h4,_,h5⟩
  ·rw [h1] at c;simp at c
  ·rw [h1] at c;simp at c
  ·rw [h5,h1];simp
 ·rw [if_pos c] at h;exact absurd h (N.xu c)
theorem xY {s:RS} (h:(zM s).2.2 ≠ 0):(zM s).1 = 0:=by
 unfold zM at h ⊢
 by_cases c:s.2 ≠ 0
 ·rw [if_pos c]
 ·rw [if_neg c] at h ⊢
  by_cases c2:(N.rdN s.1).2.2 ≠ 0
  ·rw [if_pos c2]
  ·rw [if_neg c2] at h;exact absurd rfl h
theorem xta (m:Int) (s:RS):(zu m s).2.1.length <= s.1.length:=by
 have h1:=Wi s;have h2:=Xg 4 (zM s).2;unfold zu
 by_cases c:m < (zM s).1
 ·rw [if_pos c];exact Nat.le_trans h2 h1
 ·rw [if_neg c];exact h1
theorem num_bad {s:RS} (h:s.2 ≠ 0):(zM s).2 = s:=by rw [N.num_of h]
theorem Wj {s:RS} (h:(zM s).2.2 = 0):s.2 = 0:=Classical.byContradiction fun c=>by rw [num_bad c] at h;exact c h
theorem zUa {m:Int} {s:RS} (h:(zu m s).2.2 = 0):(zM s).2.2 = 0 /\ zu m s = zM s:=by
 unfold zu at h ⊢
 by_cases c:m < (zM s).1
 ·rw [if_pos c] at h;exact absurd h (N.xu (by decide))
 ·rw [if_neg c] at h ⊢;exact ⟨h,rfl⟩

def ZIa (s:RS):DT:=⟨(zu 65535 s).1,(zM (zu 65535 s).2).1⟩
def dotT (s:RS):RS:=WS (!V.yZ (ZIa s)) (zM (zu 65535 s).2).2
def uo (s:RS):DT × RS:=fin ⟨0,0⟩ (ZIa s) (dotT s)
theorem yXa {s:RS} (h:Ok s):Ok (uo s).2 /\ OkD (uo s).1 /\ OkD (ZIa s):=by
 obtain ⟨h1,h2,h3⟩:=N.ZP h (m:=65535) (by decide);obtain ⟨h4,h5,h6⟩:=N.yb h1;have ht:Ok (dotT s):=Uf h4 _;have hr:OkD (ZIa s):=⟨h2,h3,h5,h6⟩
 unfold uo
 by_cases c:(dotT s).2 = 0
 ·rw [Wh c];exact ⟨ht,hr,hr⟩
 ·rw [Zo c];exact ⟨ht,⟨Int.le_refl _,by simp,Int.le_refl _,by simp⟩,hr⟩
theorem wra {s:RS} (h:(uo s).2.2 = 0):V.yZ (uo s).1 = true /\ (zu 65535 s).2.2 = 0 /\ (zM (zu 65535 s).2).2.2 = 0 /\ uo s = (ZIa s,(zM (zu 65535 s).2).2):=by
 unfold uo at h ⊢;rw [YN] at h;rw [Wh h];obtain ⟨h1,h2,h3⟩:=Ug h;refine ⟨by simpa using h1,Wj h2,h2,?_⟩;show (ZIa s,dotT s) = _;rw [show dotT s = (zM (zu 65535 s).2).2 from h3]
theorem dot_le (s:RS):(uo s).2.1.length <= s.1.length:=by
 unfold uo;rw [YN];exact Nat.le_trans (bad4_le _ _) (Nat.le_trans (Wi _) (xta _ _))
theorem dot_lt {s:RS} (hO:Ok s) (h0:s.2 = 0) (h:(uo s).2.2 = 0):(uo s).2.1.length + 1 <= s.1.length:=by
 obtain ⟨_,h1,h2,h3⟩:=wra h;obtain ⟨h4,h5⟩:=zUa h1;rw [h3];have h6:=Wi (zu 65535 s).2;rw [h5] at h6 ⊢;have h7:=yWa hO h0 h4;exact Nat.le_trans (Nat.add_le_add_right h6 1) h7
theorem Dot_eq {s:RS} (h:Ok s):vV s.1 s.2 = pure (uo s):=by
 obtain ⟨h1,h2,h3⟩:=N.ZP h (m:=65535) (by decide);unfold vV uo;rw [N.xia h,zB,zA,N.XF h1,zB,zA,wU16 h2 h3,V.ZK,zB,zA];have e:=zTa (V.yZ (ZIa s)) (zM (zu 65535 s).2).2;unfold ZIa at e;rw [e,zA];exact xsa _ _ _
variable {B:List Int} {a:Int} {s:RS}
theorem ZJa (hB:OkB B) (hO:Ok s) (h:Sim B a s):∃ a',YA B a s.2 = pure ((uo s).1,B,a',(uo s).2.2) /\ Sim B a' (uo s).2:=by
 obtain ⟨h1,h2,h3⟩:=N.ZP hO (m:=65535) (by decide);obtain ⟨a1,e1,s1⟩:=N.zNa hB h 65535;obtain ⟨a2,e2,s2⟩:=N.uT hB s1;unfold YA uo;rw [e1,zB,zA,e2,zB,zA,wU16 h2 h3];have e3:=Je (zM (zu 65535 s).2).2.2 ((det (uc ⟨(zu 65535 s).1,(zM (zu 65535 s).2).1⟩)).bind fun v10=>pure (!v10)) (!V.yZ (ZIa s)) (by rw [V.ZL,zB,zA];rfl);have e4:=Uh B a2 (decide ((zM (zu 65535 s).2).2.2 = 0) && !V.yZ (ZIa s)) (zM (zu 65535 s).2).2;rw [Vz] at e4;simp only [] at e3 e4 ⊢;rw [e3,zA,e4,zA];rw [YN];refine ⟨a2,?_,WT s2 _⟩;show (cond (!decide ((dotT s).2 = 0)) (pure (⟨0,0⟩,B,a2,(dotT s).2)) (pure (ZIa s,B,a2,(dotT s).2)):M _) = _
 by_cases c:(dotT s).2 = 0
 ·rw [Wh c,decide_eq_true c];rfl
 ·rw [Zo c,decide_eq_false c];rfl

def Jg (out:List DT) (x:DT):Bool:=match out.getLast? with | some y=>decide (0 <= V.yta y x) | none=>false
def ZX (out:List DT) (s:RS):RS:=WS (Jg out (uo s).1) (uo s).2
def zw : Nat -> List DT -> RS -> List DT × RS
 | 0,out,s=>(out,s)
 | k + 1,out,s=>if (ZX out s).2 ≠ 0 then ([],ZX out s) else zw k (out ++ [(uo s).1]) (ZX out s)
def wY (most:Int) (s:RS):List DT × RS:=if max most 0 < (zM s).1 then ([],wW 3 (zM s).2) else zw (zM s).1.toNat [] (zM s).2
theorem Xh {k:Nat} {out:List DT} {s:RS} (h:(ZX out s).2 ≠ 0):zw (k + 1) out s = ([],ZX out s):=if_pos h
theorem YO {k:Nat} {out:List DT} {s:RS} (h:(ZX out s).2 = 0):zw (k + 1) out s = zw k (out ++ [(uo s).1]) (ZX out s):=if_neg (by simp [h])
theorem UA {s:RS} (h:Ok s) (out:List DT):Ok (ZX out s):=Uf (yXa h).1 _
theorem wsa : ∀ (k:Nat) (out:List DT) (s:RS),Ok s -> Ok (zw k out s).2
 | 0,_,_,h=>h
 | k + 1,out,s,h=>by
  by_cases c:(ZX out s).2 = 0
  ·rw [YO c];exact wsa k _ _ (UA h out)
  ·rw [Xh c];exact UA h out
theorem ok_dots {s:RS} (h:Ok s) (most:Int):Ok (wY most s).2:=by
 have h1:=N.yb h;unfold wY
 split
 ·exact N.Xe h1.1 _
 ·exact wsa _ _ _ h1.1
theorem wta {out:List DT} (h:out.length <= 1000000000000) (x:DT) (cmp:DT -> DT -> M Int) (hc:∀ y,cmp y x = pure (V.yta y x)) :
  ((cond (decide (0 <= IntKind.i64.wrap ((out.length:Int) - 1))) ((idx out (IntKind.i64.wrap ((out.length:Int) - 1))).bind fun x61=>(det (cmp x61 x)).bind fun v63=>pure (decide (0 <= v63))) (pure false)):M Bool) = pure (Jg out x):=by
 unfold Jg;rcases R.yl out with rfl | ⟨r,y,rfl⟩
 ·rfl
 ·have hl:((r ++ [y]).length:Int) - 1 = (r.length:Int):=by simp
  rw [hl,uJ (by omega) (by simp at h;omega)];have:decide ((0:Int) <= (r.length:Int)) = true:=by simp
  rw [this,cond_true,zN (y:=y) (by simp),zA,hc,zB,zA];simp
theorem zVa {out:List DT} {s:RS} (h:(ZX out s).2 = 0):Jg out (uo s).1 = false /\ (uo s).2.2 = 0 /\ ZX out s = (uo s).2:=Ug h
theorem yYa {y4:Int × List Int × Int} (hn:0 <= y4.1 /\ y4.1 <= 18446744073709551615):∀ (k i:Nat) (out:List DT) (s:RS),(i:Int) + k = y4.1 -> Ok s -> s.2 = 0 -> out.length + s.1.length <= 1000000000 ->
  (loop (xC y4) ((i:Int),out,s.1,s.2)).bind (exk fun ⟨out9,v10,v11⟩=>pure (out9,v10,v11)) = pure (zw k out s)
 | 0,i,out,s,hi,_,_,_=>by
  rw [zP (r:=.brk (out,s.1,s.2)) (by
   unfold xC;have:decide ((i:Int) < y4.1) = false:=by simp;omega
   simp only [this,cond_false])]
  rfl
 | k + 1,i,out,s,hi,hO,h0,hl=>by
  have hd:=yXa hO;have hc:decide ((i:Int) < y4.1) = true:=by simp;omega
  have hlast:=wta (out:=out) (by omega) (uo s).1 vT (fun y=>qr y _);have hw:IntKind.u64.wrap ((i:Int) + 1) = ((i + 1:Nat):Int):=by rw [Zs (by omega) (by omega)];omega
  have hb:xC y4 ((i:Int),out,s.1,s.2) = (det (zX (ZX out s).1 (ZX out s).2)).bind fun y70=>cond (!decide (y70.1 = 0)) (pure (.done (.ret ([],y70.2.1,y70.2.2)))) (yV ((out.length + [(uo s).1].length) * 16 <= 140737488355328) (pure (.next (IntKind.u64.wrap ((i:Int) + 1),out ++ [(uo s).1],y70.2.1,y70.2.2)))):=by
   unfold xC;have e:=xra (Jg out (uo s).1) (uo s).2;simp only [hc,cond_true,Dot_eq hO,zB,zA];rw [hlast,zA,e,zA]
   rfl
  rw [N.Wg,zB,zA] at hb
  by_cases c:(ZX out s).2 = 0
  ·obtain ⟨_,c2,c3⟩:=zVa c;have hlt:=dot_lt hO h0 c2;rw [decide_eq_true c,Bool.not_true,cond_false,zD (by simp;omega),hw] at hb;rw [zW hb,YO c];exact yYa hn k (i + 1) _ (ZX out s) (by omega) (UA hO out) c (by rw [c3];simp;omega)
  ·rw [decide_eq_false c,Bool.not_false,cond_true] at hb;rw [zP hb,Xh c]
   rfl
theorem xua {s:RS} (hO:Ok s) {most:Int} (hm:most <= 9223372036854775807):vz most s.1 s.2 = pure (wY most s):=by
 obtain ⟨h1,h2,h3⟩:=N.yb hO;unfold vz wY;rw [N.XF hO,zB,zA,Zs (n:=max most 0) (by omega) (by omega)]
 by_cases c:max most 0 < (zM s).1
 ·rw [decide_eq_true c,cond_true,if_pos c,N.Zn 3 (zM s).2,zB,zA]
 ·rw [decide_eq_false c,cond_false,if_neg c]
  by_cases c2:(zM s).2.2 = 0
  ·exact yYa (y4:=zM s) ⟨h2,h3⟩ (zM s).1.toNat 0 [] (zM s).2 (by omega) h1 c2 (by simp;have:=h1.len;omega)
  ·have hz:=xY c2;rw [hz,zP (r:=.brk ([],(zM s).2.1,(zM s).2.2)) (by
    unfold xC;simp only [hz,show decide ((0:Int) < 0) = false from rfl,cond_false])]
   rfl
theorem qu (hB:OkB B) {y7:Int × List Int × Int × Int} (hn:0 <= y7.1 /\ y7.1 <= 18446744073709551615):∀ (k i:Nat) (out:List DT) (s:RS) (a:Int),(i:Int) + k = y7.1 -> Ok s -> s.2 = 0 -> Sim B a s -> out.length + s.1.length <= 1000000000 ->
  ∃ out' a',loop (yY y7) ((i:Int),out,B,a,s.2) = pure (out',B,a',(zw k out s).2.2) /\ Sim B a' (zw k out s).2 /\ ((zw k out s).2.2 = 0 -> out' = (zw k out s).1) /\ ((zw k out s).2.2 ≠ 0 -> (zw k out s).1 = [])
 | 0,i,out,s,a,hi,_,h0,hS,_=>by
  refine ⟨out,a,zP ?_,hS,fun _=>rfl,fun h=>absurd h0 h⟩;unfold yY;have:decide ((i:Int) < y7.1) = false:=by simp;omega
  simp only [this,cond_false,zA]
  rfl
 | k + 1,i,out,s,a,hi,hO,h0,hS,hl=>by
  have hc:decide ((i:Int) < y7.1) = true:=by simp;omega
  obtain ⟨a1,e1,s1⟩:=ZJa hB hO hS;have hlast:=wta (out:=out) (by omega) (uo s).1 vK (fun y=>V.vZ y _);have hle:=dot_le s;have hw:IntKind.u64.wrap ((i:Int) + 1) = ((i + 1:Nat):Int):=by rw [Zs (by omega) (by omega)];omega
  have hb:yY y7 ((i:Int),out,B,a,s.2) = pure (.next (((i + 1:Nat):Int),out ++ [(uo s).1],B,a1,(ZX out s).2)):=by
   unfold yY;have e3:=Je (uo s).2.2 _ _ hlast;have e4:=Uh B a1 (decide ((uo s).2.2 = 0) && Jg out (uo s).1) (uo s).2;rw [Vz] at e4;simp only [hc,cond_true,decide_eq_true h0,zA,e1,zB];rw [e3,zA,e4,zA];simp only [];rw [zD (by simp;omega),hw]
   rfl
  have hs2:Sim B a1 (ZX out s):=WT s1 _;rw [zW hb]
  by_cases c:(ZX out s).2 = 0
  ·obtain ⟨_,c2,c3⟩:=zVa c;have hlt:=dot_lt hO h0 c2;rw [YO c];exact qu hB hn k (i + 1) _ (ZX out s) a1 (by omega) (UA hO out) c hs2 (by rw [c3];simp;omega)
  ·rw [Xh c];refine ⟨out ++ [(uo s).1],a1,zP ?_,hs2,fun h=>absurd h c,fun _=>rfl⟩;unfold yY;have hq:(cond (decide (((i + 1:Nat):Int) < y7.1)) (pure (decide ((ZX out s).2 = 0))) (pure false):M Bool) = pure false:=by
    rw [decide_eq_false c];cases decide (((i + 1:Nat):Int) < y7.1) <;> rfl
   simp only [];rw [hq,zA]
   rfl
theorem zWa (hB:OkB B) (hO:Ok s) (h:Sim B a s) {most:Int} (hm:most <= 9223372036854775807):∃ a',YB most B a s.2 = pure ((wY most s).1,B,a',(wY most s).2.2) /\ Sim B a' (wY most s).2:=by
 obtain ⟨h1,h2,h3⟩:=N.yb hO;obtain ⟨a1,e1,s1⟩:=N.uT hB h;unfold YB wY;have hmost:(cond (decide (most < 0)) (pure 0) (pure most):M Int) = pure (max most 0):=by
  by_cases c:most < 0
  ·rw [decide_eq_true c,cond_true];congr 1;omega
  ·rw [decide_eq_false c,cond_false];congr 1;omega
 rw [hmost,zA,e1,zB,zA,Zs (n:=max most 0) (by omega) (by omega)];have done:∀ (out:List DT) (a2:Int) (i:Int) (t:RS),t.2 ≠ 0 -> loop (yY ((zM s).1,B,a1,(zM s).2.2)) (i,out,B,a2,t.2) = pure (out,B,a2,t.2):=fun out a2 i t ht=>zP (by
  unfold yY;have hq:(cond (decide (i < (zM s).1)) (pure (decide (t.2 = 0))) (pure false):M Bool) = pure false:=by
   rw [decide_eq_false ht];cases decide (i < (zM s).1) <;> rfl
  simp only [];rw [hq,zA]
  rfl)
 by_cases c:max most 0 < (zM s).1
 ·have hF:=N.vq B a1 (zM s).2 (e:=3) (by decide);have hb:=N.xu (s:=(zM s).2) (e:=3) (by decide);rw [decide_eq_true c,cond_true,if_pos c,hF,zB,zA,zA];simp only [];rw [done _ _ _ _ hb,zA];simp only [decide_eq_false hb,Bool.not_false,cond_true];exact ⟨_,rfl,s1.fail (by decide)⟩
 ·rw [decide_eq_false c,cond_false,if_neg c,zA];simp only []
  by_cases c2:(zM s).2.2 = 0
  ·obtain ⟨out',a',e2,s2,q1,q2⟩:=qu hB (y7:=((zM s).1,B,a1,(zM s).2.2)) ⟨h2,h3⟩ (zM s).1.toNat 0 [] (zM s).2 a1 (by simp;omega) h1 c2 s1 (by simp;have:=h1.len;omega);have e2':loop (yY ((zM s).1,B,a1,(zM s).2.2)) (0,[],B,a1,(zM s).2.2) = pure (out',B,a',(zw (zM s).1.toNat [] (zM s).2).2.2):=e2;rw [e2',zA];refine ⟨a',?_,s2⟩
   by_cases c3:(zw (zM s).1.toNat [] (zM s).2).2.2 = 0
   ·simp only [decide_eq_true c3,Bool.not_true,cond_false,q1 c3]
   ·simp only [decide_eq_false c3,Bool.not_false,cond_true,q2 c3]
  ·rw [xY c2] at *
   rw [done _ _ _ _ c2,zA];simp only [decide_eq_false c2,Bool.not_false,cond_true];exact ⟨_,rfl,s1⟩

open N (RS Ok zM zu wW zba OkB Sim)

def vd : Nat -> List RN -> RS -> List RN × RS
 | 0,out,s=>(out,s)
 | k + 1,out,s=>
  if (zM (zM s).2).2.2 ≠ 0 then (out ++ [⟨(zM s).1,(zM (zM s).2).1⟩],(zM (zM s).2).2) else vd k (out ++ [⟨(zM s).1,(zM (zM s).2).1⟩]) (zM (zM s).2).2
def yi (s:RS):PT × RS:=(⟨(zu 65535 s).1,(vd (zM (zu 65535 s).2).1.toNat [] (zM (zu 65535 s).2).2).1⟩,(vd (zM (zu 65535 s).2).1.toNat [] (zM (zu 65535 s).2).2).2)
theorem UB {k:Nat} {out:List RN} {s:RS} (h:(zM (zM s).2).2.2 ≠ 0):vd (k + 1) out s = (out ++ [⟨(zM s).1,(zM (zM s).2).1⟩],(zM (zM s).2).2):=if_pos h
theorem WU {k:Nat} {out:List RN} {s:RS} (h:(zM (zM s).2).2.2 = 0):vd (k + 1) out s = vd k (out ++ [⟨(zM s).1,(zM (zM s).2).1⟩]) (zM (zM s).2).2:=if_neg (by simp [h])
theorem ZKa {s:RS} (hO:Ok s) (h0:s.2 = 0) (h:(zM (zM s).2).2.2 = 0):(zM (zM s).2).2.1.length + 2 <= s.1.length:=by
 have h1:=Wj h;have h2:=yWa hO h0 h1;have h3:=yWa (N.yb hO).1 h1 h;omega
theorem two_le (s:RS):(zM (zM s).2).2.1.length <= s.1.length:=Nat.le_trans (Wi _) (Wi _)
def RunOk (x:RN):Prop:=(0 <= x.lo /\ x.lo <= 18446744073709551615) /\ 0 <= x.hi /\ x.hi <= 18446744073709551615
theorem wua {s:RS} (h:Ok s):Ok (zM (zM s).2).2 /\ RunOk ⟨(zM s).1,(zM (zM s).2).1⟩:=by
 obtain ⟨h1,h2,h3⟩:=N.yb h;obtain ⟨h4,h5,h6⟩:=N.yb h1;exact ⟨h4,⟨h2,h3⟩,h5,h6⟩
theorem Jh : ∀ (k:Nat) (out:List RN) (s:RS),Ok s -> s.2 = 0 -> (∀ x ∈ out,RunOk x) -> Ok (vd k out s).2 /\ (∀ x ∈ (vd k out s).1,RunOk x) /\ (vd k out s).1.length + (vd k out s).2.1.length <= out.length + s.1.length + 1 /\
  ((vd k out s).2.2 = 0 -> (vd k out s).1.length + (vd k out s).2.1.length <= out.length + s.1.length /\ (vd k out s).1.length = out.length + k)
 | 0,out,s,h,_,ho=>⟨h,ho,by show out.length + s.1.length <= _;omega,fun _=>⟨Nat.le_refl _,rfl⟩⟩
 | k + 1,out,s,h,h0,ho=>by
  obtain ⟨h1,h2⟩:=wua h;have ho':∀ x ∈ out ++ [⟨(zM s).1,(zM (zM s).2).1⟩],RunOk x:=fun x hx=>by
   rcases List.mem_append.1 hx with h | h
   ·exact ho x h
   ·rw [List.mem_singleton.1 h];exact h2
  by_cases c:(zM (zM s).2).2.2 = 0
  ·rw [WU c];obtain ⟨q1,q2,q3,q4⟩:=Jh k _ _ h1 c ho';have hlt:=ZKa h h0 c;simp only [List.length_append,List.length_singleton] at q3 q4;refine ⟨q1,q2,by omega,fun hz=>?_⟩;have:=q4 hz;omega
  ·rw [UB c];have:=two_le s;exact ⟨h1,ho',by simp;omega,fun hz=>absurd hz c⟩
theorem yZa {y5:Int × List Int × Int} (hn:0 <= y5.1 /\ y5.1 <= 18446744073709551615):∀ (k i:Nat) (out:List RN) (s:RS),(i:Int) + k = y5.1 -> Ok s -> s.2 = 0 -> out.length + s.1.length <= 1000000000 ->
  loop (xB y5) ((i:Int),out,s.1,s.2) = pure (vd k out s)
 | 0,i,out,s,hi,_,_,_=>by
  exact zP (by
   unfold xB;have:decide ((i:Int) < y5.1) = false:=by simp;omega
   simp only [this,cond_false]
   rfl)
 | k + 1,i,out,s,hi,hO,h0,hl=>by
  obtain ⟨h1,h2,h3⟩:=N.yb hO;have hc:decide ((i:Int) < y5.1) = true:=by simp;omega
  have hw:IntKind.u64.wrap ((i:Int) + 1) = ((i + 1:Nat):Int):=by rw [Zs (by omega) (by omega)];omega
  have hb:xB y5 ((i:Int),out,s.1,s.2) = cond (!decide ((zM (zM s).2).2.2 = 0)) (pure (.done (out ++ [⟨(zM s).1,(zM (zM s).2).1⟩],(zM (zM s).2).2))) (pure (.next (((i + 1:Nat):Int),out ++ [⟨(zM s).1,(zM (zM s).2).1⟩],(zM (zM s).2).2.1,(zM (zM s).2).2.2))):=by
   unfold xB;simp only [hc,cond_true,N.XF hO,N.XF h1,zB,zA,N.Wg];rw [zD (by simp;omega),hw]
  by_cases c:(zM (zM s).2).2.2 = 0
  ·have hlt:=ZKa hO h0 c;rw [decide_eq_true c,Bool.not_true,cond_false] at hb;rw [zW hb,WU c];exact yZa hn k (i + 1) _ (zM (zM s).2).2 (by omega) (wua hO).1 c (by simp;omega)
  ·rw [decide_eq_false c,Bool.not_false,cond_true] at hb;rw [zP hb,UB c]
theorem part_eq {s:RS} (hO:Ok s):Ze s.1 s.2 = pure (yi s):=by
 obtain ⟨h1,h2,h3⟩:=N.ZP hO (m:=65535) (by decide);obtain ⟨h4,h5,h6⟩:=N.yb h1;unfold Ze yi;rw [N.xia hO,zB,zA,N.XF h1,zB,zA,wU16 h2 h3]
 by_cases c:(zM (zu 65535 s).2).2.2 = 0
 ·have:=yZa (y5:=zM (zu 65535 s).2) ⟨h5,h6⟩ (zM (zu 65535 s).2).1.toNat 0 [] (zM (zu 65535 s).2).2 (by omega) h4 c (by simp;have:=h4.len;omega);rw [show ((0:Nat):Int) = 0 from rfl] at this;rw [this,zA]
 ·have hz:=xY c;rw [hz,zP (r:=([],(zM (zu 65535 s).2).2)) (by
   unfold xB;simp only [hz,show decide ((0:Int) < 0) = false from rfl,cond_false]),zA]
  rfl
theorem WV {s:RS} (hO:Ok s) (h0:s.2 = 0):Ok (yi s).2 /\ OkP (yi s).1 /\ ((yi s).1.runs.length <= 1000000001) /\ ((yi s).2.2 = 0 -> (yi s).1.runs.length + (yi s).2.1.length + 2 <= s.1.length):=by
 obtain ⟨h1,h2,h3⟩:=N.ZP hO (m:=65535) (by decide);obtain ⟨h4,h5,h6⟩:=N.yb h1;have hl:=h4.len;unfold yi
 by_cases c:(zM (zu 65535 s).2).2.2 = 0
 ·obtain ⟨q1,q2,q3,q4⟩:=Jh (zM (zu 65535 s).2).1.toNat [] _ h4 c (by simp);refine ⟨q1,⟨h2,h3,q2⟩,by simp at q3 ⊢;omega,fun hz=>?_⟩;have hq:=q4 hz;obtain ⟨e1,e2⟩:=zUa (Wj c);have h7:=yWa hO h0 e1;have h8:=yWa h1 (Wj c) c;rw [e2] at h8 hq ⊢;simp only [List.length_nil,Nat.zero_add] at hq ⊢;omega
 ·rw [xY c];refine ⟨h4,⟨h2,h3,by intro x hx;cases hx⟩,by simp [vd],fun hz=>absurd hz c⟩
def Xi : Nat -> List PT -> RS -> Bool × List PT × RS
 | 0,out,s=>(true,out,s)
 | k + 1,out,s=>if (yi s).2.2 ≠ 0 then (false,[],(yi s).2) else Xi k (out ++ [(yi s).1]) (yi s).2
def vQ (s:RS):List PT × RS:=
 let r:=Xi (zM s).1.toNat [] (zM s).2
 if r.1 = true then fin [] r.2.1 (WS (!decide (r.2.1 = C.yC r.2.1)) r.2.2) else ([],r.2.2)
theorem UC {k:Nat} {out:List PT} {s:RS} (h:(yi s).2.2 ≠ 0):Xi (k + 1) out s = (false,[],(yi s).2):=if_pos h
theorem Xj {k:Nat} {out:List PT} {s:RS} (h:(yi s).2.2 = 0):Xi (k + 1) out s = Xi k (out ++ [(yi s).1]) (yi s).2:=if_neg (by simp [h])
theorem tot_snoc (c:List PT) (p:PT):C.yf (c ++ [p]) = C.yf c + p.runs.length:=by rw [C.zEa];simp [C.yf]
theorem YP : ∀ (k:Nat) (out:List PT) (s:RS),Ok s -> s.2 = 0 -> (∀ p ∈ out,OkP p) -> out.length + C.yf out + s.1.length <= 1000000000 -> Ok (Xi k out s).2.2 /\ (∀ p ∈ (Xi k out s).2.1,OkP p) /\ (Xi k out s).2.1.length + C.yf (Xi k out s).2.1 <= 1000000000 /\
  ((Xi k out s).1 = true ↔ (Xi k out s).2.2.2 = 0) /\ ((Xi k out s).1 = true -> (Xi k out s).2.1.length = out.length + k /\ (Xi k out s).2.2.1.length <= s.1.length)
 | 0,out,s,h,h0,ho,hl=>⟨h,ho,by show out.length + C.yf out <= _;omega,⟨fun _=>h0,fun _=>rfl⟩,fun _=>⟨rfl,Nat.le_refl _⟩⟩
 | k + 1,out,s,h,h0,ho,hl=>by
  obtain ⟨h1,h2,h3,h4⟩:=WV h h0
  by_cases c:(yi s).2.2 = 0
  ·rw [Xj c];have:=h4 c;obtain ⟨q1,q2,q3,q4,q5⟩:=YP k (out ++ [(yi s).1]) (yi s).2 h1 c (fun p hp=>by
    rcases List.mem_append.1 hp with h | h
    ·exact ho p h
    ·rw [List.mem_singleton.1 h];exact h2) (by rw [tot_snoc];simp;omega)
   refine ⟨q1,q2,q3,q4,fun hz=>?_⟩;have:=q5 hz;simp at this;omega
  ·rw [UC c];exact ⟨h1,by simp,by simp [C.yf],⟨fun h=>(by cases h),fun h=>absurd h c⟩,fun h=>(by cases h)⟩
theorem wva : ∀ (k:Nat) (out:List PT) (s:RS),(Xi k out s).1 = false -> (Xi k out s).2.1 = []
 | 0,out,s,h=>by cases h
 | k + 1,out,s,h=>by
  by_cases c:(yi s).2.2 = 0
  ·rw [Xj c] at h ⊢;exact wva k _ _ h
  ·rw [UC c]
theorem wwa {y3:Int × List Int × Int} (hn:0 <= y3.1 /\ y3.1 <= 18446744073709551615):∀ (k i:Nat) (out:List PT) (s:RS),(i:Int) + k = y3.1 -> Ok s -> s.2 = 0 -> out.length + s.1.length <= 1000000000 ->
  loop (xP y3) ((i:Int),out,s.1,s.2) = pure (if (Xi k out s).1 = true then .brk (Xi k out s).2 else .ret (Xi k out s).2)
 | 0,i,out,s,hi,_,_,_=>by
  exact zP (by
   unfold xP;have:decide ((i:Int) < y3.1) = false:=by simp;omega
   simp only [this,cond_false]
   rfl)
 | k + 1,i,out,s,hi,hO,h0,hl=>by
  obtain ⟨h1,h2,h3,h4⟩:=WV hO h0;have hc:decide ((i:Int) < y3.1) = true:=by simp;omega
  have hw:IntKind.u64.wrap ((i:Int) + 1) = ((i + 1:Nat):Int):=by rw [Zs (by omega) (by omega)];omega
  have hb:xP y3 ((i:Int),out,s.1,s.2) = cond (!decide ((yi s).2.2 = 0)) (pure (.done (.ret ([],(yi s).2)))) (pure (.next (((i + 1:Nat):Int),out ++ [(yi s).1],(yi s).2.1,(yi s).2.2))):=by
   unfold xP;simp only [hc,cond_true,part_eq hO,zB,zA,N.Wg];rw [zD (by simp;omega),hw]
  by_cases c:(yi s).2.2 = 0
  ·have hlt:=h4 c;rw [decide_eq_true c,Bool.not_true,cond_false] at hb;rw [zW hb,Xj c];exact wwa hn k (i + 1) _ (yi s).2 (by omega) h1 c (by simp;omega)
  ·rw [decide_eq_false c,Bool.not_false,cond_true] at hb;rw [zP hb,UC c]
   rfl
theorem yaa {c:List PT} (h:∀ p ∈ c,OkP p) (hl:c.length + C.yf c <= 1000000000):C.Ok c:=⟨fun p hp=>(h p hp).d0,by omega,by omega⟩
theorem wxa {s:RS} (hO:Ok s):xg s.1 s.2 = pure (vQ s):=by
 obtain ⟨h1,h2,h3⟩:=N.yb hO;unfold xg vQ;rw [N.XF hO,zB,zA];have good:∀ (c:List PT) (t:RS),C.Ok c -> ((det (we c)).bind fun v37=>cond (!v37) ((det (zL 4 t.1 t.2)).bind fun y40=>pure (([]:List PT),y40.1,y40.2)) (pure (c,t.1,t.2))) = pure (if decide (c = C.yC c) = true then (c,t) else ([],wW 4 t)):=fun c t hc=>by
  rw [C.Zm c hc.sm,zB,zA]
  cases decide (c = C.yC c) with
  | true=>rfl
  | false=>rw [Bool.not_false,cond_true,N.Zn,zB,zA];rfl
 by_cases c2:(zM s).2.2 = 0
 ·have:=wwa (y3:=zM s) ⟨h2,h3⟩ (zM s).1.toNat 0 [] (zM s).2 (by omega) h1 c2 (by simp;have:=h1.len;omega);rw [show ((0:Nat):Int) = 0 from rfl] at this;rw [this,zA];obtain ⟨q1,q2,q3,q4,_⟩:=YP (zM s).1.toNat [] (zM s).2 h1 c2 (by simp) (by simp [C.yf];have:=h1.len;omega);have qn:=wva (zM s).1.toNat [] (zM s).2
  generalize Xi (zM s).1.toNat [] (zM s).2 = r at *
  obtain ⟨b,c,t⟩:=r;simp only [] at *
  cases b with
  | false=>rw [qn rfl];rfl
  | true=>
   have hz:=q4.1 rfl;show ((det (we c)).bind _) = _;rw [good c t (yaa q2 q3),if_pos rfl]
   cases hg:decide (c = C.yC c) with
   | true=>rw [if_pos rfl,Bool.not_true,YM,Wh hz]
   | false=>rw [if_neg (by simp),Bool.not_false,Zo ZHa];rfl
 ·have hz:=xY c2;rw [hz,zP (r:=.brk ([],(zM s).2)) (by
   unfold xP;simp only [hz,show decide ((0:Int) < 0) = false from rfl,cond_false]),zA]
  show ((det (we [])).bind _) = pure (if true = true then fin [] [] (WS (!decide (([]:List PT) = C.yC [])) (zM s).2) else ([],(zM s).2));rw [good [] (zM s).2 C.ok_nil,if_pos rfl];have e:C.yC [] = []:=rfl;rw [e];simp only [decide_true,if_true,Bool.not_true,YM];rw [Zo c2]
theorem yE {s:RS} (hO:Ok s):Ok (vQ s).2 /\ (∀ p ∈ (vQ s).1,OkP p) /\ (vQ s).1.length + C.yf (vQ s).1 <= 1000000000 /\ ((vQ s).2.2 ≠ 0 -> (vQ s).1 = []) /\ ((vQ s).2.2 = 0 -> (vQ s).1 = C.yC (vQ s).1):=by
 obtain ⟨h1,h2,h3⟩:=N.yb hO;unfold vQ
 by_cases c2:(zM s).2.2 = 0
 ·obtain ⟨q1,q2,q3,q4,_⟩:=YP (zM s).1.toNat [] (zM s).2 h1 c2 (by simp) (by simp [C.yf];have:=h1.len;omega)
  generalize Xi (zM s).1.toNat [] (zM s).2 = r at *
  obtain ⟨b,c,t⟩:=r;simp only [] at *
  cases b with
  | false=>exact ⟨q1,by simp,by simp [C.yf],fun _=>rfl,fun _=>rfl⟩
  | true=>
   rw [if_pos rfl,YN];refine ⟨Uf q1 _,?_⟩
   by_cases hb:(WS (!decide (c = C.yC c)) t).2 = 0
   ·rw [Wh hb];have:=(Ug hb).1;exact ⟨q2,q3,fun h=>absurd hb h,fun _=>by simpa using this⟩
   ·rw [Zo hb];exact ⟨by simp,by simp [C.yf],fun _=>rfl,fun h=>absurd h hb⟩
 ·rw [xY c2];show Ok (if true = true then fin [] [] (WS (!decide (([]:List PT) = C.yC [])) (zM s).2) else ([],(zM s).2)).2 /\ _;have e:C.yC [] = []:=rfl;simp only [Xi,Int.toNat_zero,e,decide_true,Bool.not_true,YM,if_true,Zo c2];exact ⟨h1,by simp,by simp [C.yf],fun _=>trivial,fun _=>trivial⟩

variable {B:List Int} {a:Int} {s:RS}
theorem qv (hB:OkB B) {y:Int × List Int × Int × Int} (hn:0 <= y.1 /\ y.1 <= 18446744073709551615):∀ (k i:Nat) (out:List RN) (s:RS) (a:Int),(i:Int) + k = y.1 -> Ok s -> s.2 = 0 -> Sim B a s -> out.length + s.1.length <= 1000000000 ->
  ∃ a',loop (yv y) ((i:Int),out,B,a,s.2) = pure ((vd k out s).1,B,a',(vd k out s).2.2) /\ Sim B a' (vd k out s).2
 | 0,i,out,s,a,hi,_,h0,hS,_=>by
  refine ⟨a,zP ?_,hS⟩;unfold yv;have:decide ((i:Int) < y.1) = false:=by simp;omega
  simp only [this,cond_false,zA]
  rfl
 | k + 1,i,out,s,a,hi,hO,h0,hS,hl=>by
  obtain ⟨h1,h2,h3⟩:=N.yb hO;have hc:decide ((i:Int) < y.1) = true:=by simp;omega
  obtain ⟨a1,e1,s1⟩:=N.uT hB hS;obtain ⟨a2,e2,s2⟩:=N.uT hB s1;have hw:IntKind.u64.wrap ((i:Int) + 1) = ((i + 1:Nat):Int):=by rw [Zs (by omega) (by omega)];omega
  have hb:yv y ((i:Int),out,B,a,s.2) = pure (.next (((i + 1:Nat):Int),out ++ [⟨(zM s).1,(zM (zM s).2).1⟩],B,a2,(zM (zM s).2).2.2)):=by
   unfold yv;simp only [hc,cond_true,decide_eq_true h0,zA,e1,zB];rw [zD (by simp;omega)];simp only [e2,zB,zA];rw [zD (by simp;omega),hw]
   rfl
  rw [zW hb]
  by_cases c:(zM (zM s).2).2.2 = 0
  ·have hlt:=ZKa hO h0 c;rw [WU c];exact qv hB hn k (i + 1) _ (zM (zM s).2).2 a2 (by omega) (wua hO).1 c s2 (by simp;omega)
  ·rw [UB c];refine ⟨a2,zP ?_,s2⟩;unfold yv;have hq:(cond (decide (((i + 1:Nat):Int) < y.1)) (pure (decide ((zM (zM s).2).2.2 = 0))) (pure false):M Bool) = pure false:=by
    rw [decide_eq_false c];cases decide (((i + 1:Nat):Int) < y.1) <;> rfl
   simp only [];rw [hq,zA]
   rfl
theorem vka {y:Int × List Int × Int × Int} (i a:Int) (out:List RN) {e:Int} (he:e ≠ 0):loop (yv y) (i,out,B,a,e) = pure (out,B,a,e):=zP (by
 unfold yv;have hq:(cond (decide (i < y.1)) (pure (decide (e = 0))) (pure false):M Bool) = pure false:=by
  rw [decide_eq_false he];cases decide (i < y.1) <;> rfl
 simp only [];rw [hq,zA]
 rfl)
theorem vla (hB:OkB B) (hO:Ok s) (h0:s.2 = 0) (hS:Sim B a s) (out:List PT) (ho:out.length <= 1000000000) :
  ∃ a',((det (zY 65535 B a s.2)).bind fun y133=>(det (zE y133.2.1 y133.2.2.1 y133.2.2.2)).bind fun y135=>
   (loop (yv y135) (0,([]:List RN),y135.2.1,y135.2.2.1,y135.2.2.2)).bind fun ⟨p137,v138,v139,v140⟩=>
   yV ((out.length + List.length ([(⟨(IntKind.u16.wrap y133.1),p137⟩:PT)])) * 32 <= 140737488355328) (pure (out ++ [(⟨(IntKind.u16.wrap y133.1),p137⟩:PT)],v138,v139,v140)))
   = pure (out ++ [(yi s).1],B,a',(yi s).2.2) /\ Sim B a' (yi s).2:=by
 obtain ⟨h1,h2,h3⟩:=N.ZP hO (m:=65535) (by decide);obtain ⟨h4,h5,h6⟩:=N.yb h1;obtain ⟨a1,e1,s1⟩:=N.zNa hB hS 65535;obtain ⟨a2,e2,s2⟩:=N.uT hB s1;rw [e1,zB,zA];simp only [e2,zB,zA,wU16 h2 h3];unfold yi
 by_cases c:(zM (zu 65535 s).2).2.2 = 0
 ·obtain ⟨a3,e3,s3⟩:=qv hB (y:=((zM (zu 65535 s).2).1,B,a2,(zM (zu 65535 s).2).2.2)) ⟨h5,h6⟩ (zM (zu 65535 s).2).1.toNat 0 [] (zM (zu 65535 s).2).2 a2 (by simp;omega) h4 c s2 (by simp;have:=h4.len;omega);rw [show ((0:Nat):Int) = 0 from rfl] at e3;rw [e3,zA];simp only [];rw [zD (by simp;omega)];exact ⟨a3,rfl,s3⟩
 ·rw [xY c,vka _ _ _ c,zA];simp only [];rw [zD (by simp;omega)];exact ⟨a2,rfl,s2⟩
theorem yba (hB:OkB B) {y:Int × List Int × Int × Int} (hn:0 <= y.1 /\ y.1 <= 18446744073709551615):∀ (k i:Nat) (out:List PT) (s:RS) (a:Int),(i:Int) + k = y.1 -> Ok s -> s.2 = 0 -> Sim B a s -> out.length + s.1.length <= 1000000000 ->
  ∃ out' a',loop (xH y) ((i:Int),out,B,a,s.2) = pure (out',B,a',(Xi k out s).2.2.2) /\ Sim B a' (Xi k out s).2.2 /\ ((Xi k out s).1 = true -> out' = (Xi k out s).2.1)
 | 0,i,out,s,a,hi,_,h0,hS,_=>by
  refine ⟨out,a,zP ?_,hS,fun _=>rfl⟩;unfold xH;have:decide ((i:Int) < y.1) = false:=by simp;omega
  simp only [this,cond_false,zA]
  rfl
 | k + 1,i,out,s,a,hi,hO,h0,hS,hl=>by
  obtain ⟨h1,h2,h3,h4⟩:=WV hO h0;have hc:decide ((i:Int) < y.1) = true:=by simp;omega
  obtain ⟨a1,e1,s1⟩:=vla hB hO h0 hS out (by omega);have hw:IntKind.u64.wrap ((i:Int) + 1) = ((i + 1:Nat):Int):=by rw [Zs (by omega) (by omega)];omega
  have hb:xH y ((i:Int),out,B,a,s.2) = pure (.next (((i + 1:Nat):Int),out ++ [(yi s).1],B,a1,(yi s).2.2)):=by
   unfold xH;simp only [hc,cond_true,decide_eq_true h0,zA];rw [e1,zA,hw]
  rw [zW hb]
  by_cases c:(yi s).2.2 = 0
  ·have hlt:=h4 c;rw [Xj c];exact yba hB hn k (i + 1) _ (yi s).2 a1 (by omega) h1 c s1 (by simp;omega)
  ·rw [UC c];refine ⟨out ++ [(yi s).1],a1,zP ?_,s1,fun h=>by cases h⟩;unfold xH;have hq:(cond (decide (((i + 1:Nat):Int) < y.1)) (pure (decide ((yi s).2.2 = 0))) (pure false):M Bool) = pure false:=by
    rw [decide_eq_false c];cases decide (((i + 1:Nat):Int) < y.1) <;> rfl
   simp only [];rw [hq,zA]
   rfl
theorem zXa (hB:OkB B) (hO:Ok s) (h:Sim B a s):∃ a',ZC B a s.2 = pure ((vQ s).1,B,a',(vQ s).2.2) /\ Sim B a' (vQ s).2:=by
 obtain ⟨h1,h2,h3⟩:=N.yb hO;obtain ⟨a1,e1,s1⟩:=N.uT hB h;unfold ZC vQ;rw [e1,zB,zA]
 by_cases c2:(zM s).2.2 = 0
 ·obtain ⟨out',a2,e2,s2,q⟩:=yba hB (y:=((zM s).1,B,a1,(zM s).2.2)) ⟨h2,h3⟩ (zM s).1.toNat 0 [] (zM s).2 a1 (by simp;omega) h1 c2 s1 (by simp;have:=h1.len;omega);rw [show ((0:Nat):Int) = 0 from rfl] at e2;simp only [];rw [e2,zA];obtain ⟨q1,q2,q3,q4,_⟩:=YP (zM s).1.toNat [] (zM s).2 h1 c2 (by simp) (by simp [C.yf];have:=h1.len;omega)
  generalize Xi (zM s).1.toNat [] (zM s).2 = r at *
  obtain ⟨b,c,t⟩:=r;simp only [] at *
  cases b with
  | false=>
   have hz:t.2 ≠ 0:=fun h=>by have:=q4.2 h;cases this
   simp only [decide_eq_false hz,cond_false,zA,Bool.not_false,cond_true,Bool.false_eq_true,if_false];exact ⟨a2,rfl,s2⟩
  | true=>
   have hz:=q4.1 rfl;have e:=q rfl;subst e;have e4:=Uh B a2 (!decide (out' = C.yC out')) t;simp only [decide_eq_true hz,cond_true,C.vO out' (yaa q2 q3),zB,zA,if_true];rw [e4,zA,YN];refine ⟨a2,?_,WT s2 _⟩;simp only []
   by_cases hb:(WS (!decide (out' = C.yC out')) t).2 = 0
   ·rw [Wh hb,decide_eq_true hb];rfl
   ·rw [Zo hb,decide_eq_false hb];rfl
 ·have hst:loop (xH ((zM s).1,B,a1,(zM s).2.2)) (0,[],B,a1,(zM s).2.2) = pure ([],B,a1,(zM s).2.2):=zP (by
   unfold xH;have hq:(cond (decide ((0:Int) < (zM s).1)) (pure (decide ((zM s).2.2 = 0))) (pure false):M Bool) = pure false:=by
    rw [decide_eq_false c2];cases decide ((0:Int) < (zM s).1) <;> rfl
   simp only [];rw [hq,zA]
   rfl)
  simp only [];rw [hst,zA,xY c2];have e:C.yC [] = []:=rfl;simp only [decide_eq_false c2,cond_false,zA,Bool.not_false,cond_true,Xi,Int.toNat_zero,e,decide_true,Bool.not_true,YM,if_true,Zo c2];exact ⟨a1,rfl,s1⟩

open N (RS Ok zM zu wW zba OkB Sim)

def Xk : List DT -> Bool
 | []=>true
 | x :: r=>(match r with | []=>true | y :: _=>zh x y) && Xk r
theorem wya : ∀ {l:List DT},Xk l = true ↔ Srt l
 | []=>⟨fun _=>List.Pairwise.nil,fun _=>rfl⟩
 | [x]=>⟨fun _=>by simp [Srt],fun _=>rfl⟩
 | x :: y :: r=>by
  show (zh x y && Xk (y :: r)) = true ↔ _;rw [Bool.and_eq_true,wya (l:=y :: r)];unfold Srt;rw [List.pairwise_cons (a:=x)]
  constructor
  ·rintro ⟨h1,h2⟩;refine ⟨fun z hz=>?_,h2⟩;rcases List.mem_cons.1 hz with rfl | hz
   ·exact h1
   ·exact jX h1 ((List.pairwise_cons.1 h2).1 z hz)
  ·rintro ⟨h1,h2⟩;exact ⟨h1 y (by simp),h2⟩
theorem wza (x y:DT):decide (0 <= V.yta x y) = !zh x y:=by
 by_cases h:zh x y = true
 ·have:=V.Qt.2 h;rw [h];simp;omega
 ·have h2:¬ V.yta x y < 0:=fun e=>h (V.Qt.1 e)
  simp only [Bool.not_eq_true] at h;rw [h];simp;omega
theorem vma (l:List DT) (hl:l.length <= 1000000000000):WM l = pure (Xk l):=by
 unfold WM;have key:∀ (k i:Nat) (x:DT) (r:List DT),i + k = l.length -> l.drop i = r -> i ≠ 0 -> l[i - 1]? = some x -> loop (xr l) (i:Int) = pure (if Xk (x :: r) = true then .brk () else .ret false):=by
  intro k
  induction k with
  | zero=>
   intro i x r hi hr h1 hx;have:r = []:=by rw [<- hr];exact List.drop_eq_nil_of_le (by omega)
   subst this;exact zP (by
    unfold xr;have:decide ((i:Int) < (l.length:Int)) = false:=by simp;omega
    simp only [this,cond_false];rfl)
  | succ k ih=>
   intro i x r hi hr h1 hx;have hlt:i < l.length:=by omega
   have hr2:r = l[i] :: l.drop (i + 1):=by rw [<- hr];exact List.drop_eq_getElem_cons hlt
   have hy:=List.getElem?_eq_getElem hlt;have hi1:idx l (IntKind.i64.wrap ((i:Int) - 1)) = pure x:=by
    rw [uJ (by omega) (by omega)];exact Wb (by omega) (by rw [show ((i:Int) - 1).toNat = i - 1 by omega];exact hx)
   have hb:xr l (i:Int) = cond (!zh x l[i]) (pure (.done (.ret false))) (pure (.next ((i + 1:Nat):Int))):=by
    unfold xr;have:decide ((i:Int) < (l.length:Int)) = true:=by simp;omega
    simp only [this,cond_true,hi1,zN hy,zA,V.vZ,zB,wza,yT (show i < 9223372036854775807 by omega)]
   rw [hr2];show _ = (pure (if (zh x l[i] && Xk (l[i] :: l.drop (i + 1))) = true then Ex.brk () else Ex.ret false):M (Ex Unit Bool))
   cases c:zh x l[i] with
   | true=>
    rw [c] at hb;rw [zW hb,Bool.true_and];exact ih (i + 1) l[i] _ (by omega) rfl (by omega) hy
   | false=>
    rw [c] at hb;rw [zP hb];rfl
 cases l with
 | nil=>
  rw [zP (r:=.brk ()) (by unfold xr;rfl)];rfl
 | cons x r=>
  have:=key r.length 1 x r (by simp;omega) rfl (by decide) rfl;rw [show ((1:Nat):Int) = 1 from rfl] at this;rw [this,zA]
  cases Xk (x :: r) <;> rfl

theorem yca {l:List DT} (hs:Srt l) (h:∀ d ∈ l,V.yZ d = true):ww (ZW l) = l:=by
 have e:ZW l = l:=List.filter_eq_self.2 h;rw [e];exact ZCa hs
open N (RS Ok zM zu wW zba OkB Sim)

theorem Zp {s:RS} (hO:Ok s) (h:(zM s).2.2 = 0):s.1 = N.vB (zM s).1 ++ (zM s).2.1:=by
 have h0:=Wj h;unfold zM at h ⊢;rw [if_neg (by simp [h0])] at h ⊢
 by_cases c:(N.rdN s.1).2.2 = 0
 ·rw [if_neg (by simp [c])];exact N.rdN_one hO.by_ c
 ·rw [if_pos c] at h;exact absurd h (N.xu c)
theorem w0a {s:RS} (hO:Ok s) {m:Int} (h:(zu m s).2.2 = 0):s.1 = N.vB (zu m s).1 ++ (zu m s).2.1:=by
 obtain ⟨h1,h2⟩:=zUa h;rw [h2];exact Zp hO h1
theorem ZLa {s:RS} (hO:Ok s) (h:(uo s).2.2 = 0):s.1 = encD (uo s).1 ++ (uo s).2.1:=by
 obtain ⟨_,h1,h2,h3⟩:=wra h;have e1:=w0a hO h1;have e2:=Zp (N.ZP hO (m:=65535) (by decide)).1 h2;rw [h3];show s.1 = (N.vB (zu 65535 s).1 ++ N.vB (zM (zu 65535 s).2).1) ++ _;rw [List.append_assoc,<- e2];exact e1
theorem yda : ∀ (k:Nat) (out:List DT) (s:RS),Ok s -> s.2 = 0 -> Srt out -> (∀ d ∈ out,V.yZ d = true) -> (zw k out s).2.2 = 0 -> ∃ l,(zw k out s).1 = out ++ l /\ l.length = k /\ s.1 = l.flatMap encD ++ (zw k out s).2.1 /\ Srt (out ++ l) /\ (∀ d ∈ out ++ l,V.yZ d = true) /\ ∀ d ∈ l,OkD d
 | 0,out,s,_,_,hs,hg,_=>⟨[],by simp [zw],rfl,by simp [zw],by simpa using hs,by simpa using hg,by simp⟩
 | k + 1,out,s,hO,h0,hs,hg,h=>by
  by_cases c:(ZX out s).2 = 0
  ·obtain ⟨c1,c2,c3⟩:=zVa c;rw [YO c] at h ⊢;have hgd:=(wra c2).1;have hs2:Srt (out ++ [(uo s).1]):=by
    unfold Srt;rw [List.pairwise_append];refine ⟨hs,by simp,fun a ha b hb=>?_⟩;rw [List.mem_singleton.1 hb];rcases R.yl out with rfl | ⟨q,y,rfl⟩
    ·simp at ha
    ·have hy:zh y (uo s).1 = true:=by
      unfold Jg at c1;simp only [List.getLast?_append,List.getLast?_singleton,Option.some_or,wza] at c1;simpa using c1
     rcases List.mem_append.1 ha with h5 | h5
     ·exact jX ((List.pairwise_append.1 hs).2.2 a h5 y (by simp)) hy
     ·rw [List.mem_singleton.1 h5];exact hy
   obtain ⟨l,e1,e2,e3,e4,e5,e6⟩:=yda k _ _ (UA hO out) c hs2 (fun d hd=>by
    rcases List.mem_append.1 hd with h5 | h5
    ·exact hg d h5
    ·rw [List.mem_singleton.1 h5];exact hgd) h
   refine ⟨(uo s).1 :: l,by rw [e1];simp,by simp [e2],?_,by simpa using e4,by simpa using e5,fun d hd=>?_⟩
   ·rw [List.flatMap_cons,List.append_assoc,<- e3,c3];exact ZLa hO c2
   ·rcases List.mem_cons.1 hd with rfl | h5
    ·exact (yXa hO).2.1
    ·exact e6 d h5
  ·rw [Xh c] at h;exact absurd h c
theorem w1a {s:RS} (hO:Ok s) {most:Int} (h:(wY most s).2.2 = 0):s.1 = Uu (wY most s).1 ++ (wY most s).2.1 /\ Srt (wY most s).1 /\ (∀ d ∈ (wY most s).1,V.yZ d = true /\ OkD d) /\ ((wY most s).1.length:Int) <= max most 0:=by
 obtain ⟨h1,h2,h3⟩:=N.yb hO;unfold wY at h ⊢
 by_cases c:max most 0 < (zM s).1
 ·rw [if_pos c] at h;exact absurd h (N.xu (by decide))
 ·rw [if_neg c] at h ⊢;have c2:(zM s).2.2 = 0:=Classical.byContradiction fun c2=>by
   rw [xY c2] at h;exact c2 h
  obtain ⟨l,e1,e2,e3,e4,e5,e6⟩:=yda _ [] _ h1 c2 List.Pairwise.nil (by simp) h;rw [List.nil_append] at e1 e4 e5;rw [e1];refine ⟨?_,e4,fun d hd=>⟨e5 d hd,e6 d hd⟩,by omega⟩;rw [Uu,yca e4 e5,List.append_assoc,<- e3,e2,Int.toNat_of_nonneg h2];exact Zp hO c2
theorem dots_bad {s:RS} {most:Int} (h:(wY most s).2.2 ≠ 0):(wY most s).1 = []:=by
 have hL:∀ (k:Nat) (out:List DT) (s:RS),s.2 = 0 \/ out = [] -> (zw k out s).2.2 ≠ 0 -> (zw k out s).1 = []:=by
  intro k
  induction k with
  | zero=>
   intro out s h1 h2;rcases h1 with h1 | h1
   ·exact absurd h1 h2
   ·exact h1
  | succ k ih=>
   intro out s _ h2
   by_cases c:(ZX out s).2 = 0
   ·rw [YO c] at h2 ⊢;exact ih _ _ (.inl c) h2
   ·rw [Xh c]
 unfold wY at h ⊢
 split at h
 ·rename_i c;rw [if_pos c]
 ·rename_i c;rw [if_neg c];exact hL _ _ _ (.inr rfl) h
theorem yea : ∀ (k:Nat) (out:List RN) (s:RS),Ok s -> (vd k out s).2.2 = 0 -> ∃ l,(vd k out s).1 = out ++ l /\ l.length = k /\ s.1 = l.flatMap vja ++ (vd k out s).2.1
 | 0,out,s,_,_=>⟨[],by simp [vd],rfl,by simp [vd]⟩
 | k + 1,out,s,hO,h=>by
  by_cases c:(zM (zM s).2).2.2 = 0
  ·rw [WU c] at h ⊢;obtain ⟨l,e1,e2,e3⟩:=yea k _ _ (wua hO).1 h;refine ⟨⟨(zM s).1,(zM (zM s).2).1⟩ :: l,by rw [e1];simp,by simp [e2],?_⟩;rw [List.flatMap_cons,List.append_assoc,<- e3,vja,List.append_assoc,<- Zp (N.yb hO).1 c];exact Zp hO (Wj c)
  ·rw [UB c] at h;exact absurd h c
theorem part_inv {s:RS} (hO:Ok s) (h:(yi s).2.2 = 0):s.1 = ZFa (yi s).1 ++ (yi s).2.1:=by
 obtain ⟨h1,h2,h3⟩:=N.ZP hO (m:=65535) (by decide);obtain ⟨h4,h5,h6⟩:=N.yb h1;unfold yi at h ⊢;have c:(zM (zu 65535 s).2).2.2 = 0:=Classical.byContradiction fun c=>by rw [xY c] at h;exact c h
 obtain ⟨l,e1,e2,e3⟩:=yea _ [] _ h4 h;rw [List.nil_append] at e1;show s.1 = (N.vB (zu 65535 s).1 ++ (N.vB ((vd (zM (zu 65535 s).2).1.toNat [] (zM (zu 65535 s).2).2).1.length:Int) ++ (vd (zM (zu 65535 s).2).1.toNat [] (zM (zu 65535 s).2).2).1.flatMap vja)) ++ (vd (zM (zu 65535 s).2).1.toNat [] (zM (zu 65535 s).2).2).2.1;rw [e1,List.append_assoc,List.append_assoc,<- e3,e2,Int.toNat_of_nonneg h5,<- Zp h1 c];exact w0a hO (Wj c)
theorem w2a : ∀ (k:Nat) (out:List PT) (s:RS),Ok s -> s.2 = 0 -> (Xi k out s).1 = true -> ∃ l,(Xi k out s).2.1 = out ++ l /\ l.length = k /\ s.1 = l.flatMap ZFa ++ (Xi k out s).2.2.1
 | 0,out,s,_,_,_=>⟨[],by simp [Xi],rfl,by simp [Xi]⟩
 | k + 1,out,s,hO,h0,h=>by
  by_cases c:(yi s).2.2 = 0
  ·rw [Xj c] at h ⊢;obtain ⟨l,e1,e2,e3⟩:=w2a k _ _ (WV hO h0).1 c h;refine ⟨(yi s).1 :: l,by rw [e1];simp,by simp [e2],?_⟩;rw [List.flatMap_cons,List.append_assoc,<- e3];exact part_inv hO c
  ·rw [UC c] at h;cases h
theorem ctx_inv {s:RS} (hO:Ok s) (h:(vQ s).2.2 = 0):s.1 = qK (vQ s).1 ++ (vQ s).2.1:=by
 have hn:=(yE hO).2.2.2.2 h;obtain ⟨h1,h2,h3⟩:=N.yb hO;rw [qK,<- hn];unfold vQ at h ⊢;have c:(zM s).2.2 = 0:=Classical.byContradiction fun c=>by
  have hz:=xY c;have e:C.yC [] = []:=rfl;simp only [hz,Xi,Int.toNat_zero,e,decide_true,Bool.not_true,YM,if_true,YN] at h;exact c h
 have hi:=w2a (zM s).1.toNat [] (zM s).2 h1 c;obtain ⟨q1,q2,q3,q4,_⟩:=YP (zM s).1.toNat [] (zM s).2 h1 c (by simp) (by simp [C.yf];have:=h1.len;omega)
 generalize Xi (zM s).1.toNat [] (zM s).2 = r at *
 obtain ⟨b,x,t⟩:=r;simp only [] at *
 cases b with
 | false=>
  have hz:t.2 = 0:=h;have:=q4.2 hz;cases this
 | true=>
  rw [if_pos rfl] at h ⊢;rw [YN] at h;rw [Wh h,(Ug h).2.2];obtain ⟨l,e1,e2,e3⟩:=hi rfl;rw [List.nil_append] at e1;subst e1;show s.1 = (N.vB (x.length:Int) ++ x.flatMap ZFa) ++ t.1;rw [List.append_assoc,<- e3,e2,Int.toNat_of_nonneg h2];exact Zp hO c
end Go.Ep.M.D

namespace Go.Ep.M.E
open Go

theorem uG (s:ByteArray):(ya s).length = s.size:=by simp [ya]
theorem by_bytes (s:ByteArray):N.By (ya s):=fun x hx=>by
 simp only [ya,List.mem_map] at hx;obtain ⟨b,_,rfl⟩:=hx;have:=b.toNat_lt;omega
theorem yfa (l:List Int):(XK l).data.toList = l.map fun n=>UInt8.ofNat n.toNat:=by
 have key:∀ (l:List Int) (r:ByteArray),(l.foldl (fun r n=>r.push (UInt8.ofNat n.toNat)) r).data.toList = r.data.toList ++ l.map fun n=>UInt8.ofNat n.toNat:=by
  intro l
  induction l with
  | nil=>intro r;simp
  | cons x t ih=>intro r;rw [List.foldl_cons,ih];simp
 have:=key l ByteArray.empty;simpa [XK] using this
theorem vna {l:List Int} (h:N.By l):ya (XK l) = l:=by
 rw [ya,yfa,List.map_map];apply List.ext_getElem?;intro i;rw [List.getElem?_map]
 cases hx:l[i]? with
 | none=>rfl
 | some x=>
  have:=h x (List.mem_of_getElem? hx);simp only [Option.map_some,Function.comp_apply,UInt8.toNat_ofNat']
  congr 1;omega
theorem Ji (l:List Int):(XK l).size = l.length:=by
 have:=congrArg List.length (yfa l);simpa using this

def cidD (v:Int):DT:=⟨v / 281474976710656,v % 281474976710656⟩
theorem band48 {v:Int} (h0:0 <= v) (h:v <= 18446744073709551615):ysa .u64 v 281474976710655 = v % 281474976710656:=by
 obtain ⟨n,rfl⟩:=Int.eq_ofNat_of_zero_le h0;unfold ysa;have bv:∀ q:Nat,q < 18446744073709551616 -> (BitVec.ofInt IntKind.u64.bits (q:Int)).toNat = q:=fun q hq=>by
  show (BitVec.ofInt 64 (q:Int)).toNat = q;rw [BitVec.toNat_ofInt];omega
 have e:(281474976710655:Int) = ((281474976710655:Nat):Int):=rfl;rw [e,BitVec.toNat_and,bv n (by omega),bv _ (by decide)];have h2:n &&& 281474976710655 = n % 281474976710656:=Nat.and_two_pow_sub_one_eq_mod n 48;rw [h2,Zs (by omega) (by omega)];omega
theorem Split_eq {v:Int} (h0:0 <= v) (h:v <= 18446744073709551615):YW v = pure ((cidD v).dev,(cidD v).n):=by
 unfold YW cidD;have e:(2 ^ 48:Int) = 281474976710656:=rfl;rw [band48 h0 h,Int.fdiv_eq_ediv_of_nonneg _ (by decide),e,wU16 (by omega) (by omega)]
theorem ZMa {v:Int} (h0:0 <= v) (h:v <= 18446744073709551615):VW v = pure ((cidD v).dev,(cidD v).n):=by
 unfold VW cidD;rw [Int.tdiv_eq_ediv_of_nonneg h0,Int.tmod_eq_emod_of_nonneg h0,Zs (by omega) (by omega),wU16 (by omega) (by omega)]
def xU (v:Int):Bool:=V.yZ (cidD v)
theorem ZNa {v:Int} (h0:0 <= v) (h:v <= 18446744073709551615):Xr v = pure (if xU v = true then cidD v else ⟨0,0⟩,xU v):=by
 unfold Xr;rw [Split_eq h0 h,zB,zA,V.ZK,zB,zA];show cond (!xU v) _ _ = _
 cases xU v <;> rfl
theorem voa {v:Int} (h0:0 <= v) (h:v <= 18446744073709551615):WL v = pure (if xU v = true then cidD v else ⟨0,0⟩,xU v):=by
 unfold WL;rw [ZMa h0 h,zB,zA,V.ZL,zB,zA];show cond (!xU v) _ _ = _
 cases xU v <;> rfl

def xva (f:Int):Bool:=decide (1 <= f) && decide (f <= 5)
theorem Field_eq (f:Int):Xs f = pure (xva f):=by unfold Xs xva;rw [za];rfl
theorem ZOa (f:Int):jF f = pure (xva f):=by unfold jF xva;rw [za];rfl
def okB (x:Int):Bool:=decide (32 <= x) && decide (x <= 126)
def xwa (s:ByteArray):Bool:=decide (s.size <= 60) && (ya s).all okB
theorem XC {α:Type} (l:List α) (p:α -> Bool):(l.zipIdx.all fun y=>p y.1) = l.all p:=by
 rw [Bool.eq_iff_iff,List.all_eq_true,List.all_eq_true]
 constructor
 ·intro h x hx;obtain ⟨i,hi⟩:=List.getElem?_of_mem hx;exact h (x,i) (by rw [List.mk_mem_zipIdx_iff_getElem?];exact hi)
 ·intro h y hy;exact h y.1 (List.fst_mem_of_mem_zipIdx hy)
theorem okB_eq (x:Int) (f:M Bool) (hf:f = pure (decide (126 < x))):(cond (decide (x < 32)) (pure true) f:M Bool) = pure (!okB x):=by
 rw [hf];unfold okB
 by_cases h1:x < 32
 ·have:¬ 32 <= x:=by omega
  simp [h1,this]
 ·have:32 <= x:=by omega
  by_cases h2:126 < x
  ·have:¬ x <= 126:=by omega
   simp [h1,h2,this]
  ·have:x <= 126:=by omega
   simp [h1,h2, *]
theorem ZPa (s:ByteArray) (hs:s.size <= 1000000000000):loop (vF s) 0 = pure (if (ya s).all okB = true then Ex.brk () else Ex.ret false):=by
 have:=xS (body:=vF s) (ya s) (fun i=>(i:Int)) (fun _ x=>okB x) (Ex.brk ()) (Ex.ret false) (fun i x hx hi=>by
  have hd:decide ((i:Int) < (s.size:Int)) = true:=by rw [<- uG];simpa using hi
  have hi2:i < s.size:=by rw [<- uG];exact hi
  unfold vF;simp only [hd,cond_true,zN hx,zA,okB_eq x _ rfl,yT (show i < 9223372036854775807 by omega)]
  cases okB x <;> rfl) (by
  unfold vF;simp [uG])
 rw [show (0:Int) = ((0:Nat):Int) from rfl,this,XC]
theorem vpa (s:ByteArray) (hs:s.size <= 1000000000000):loop (ux s) 0 = pure (if (ya s).all okB = true then Ex.brk () else Ex.ret false):=by
 have:=xS (body:=ux s) (ya s) (fun i=>(i:Int)) (fun _ x=>okB x) (Ex.brk ()) (Ex.ret false) (fun i x hx hi=>by
  have hd:decide ((i:Int) < (s.size:Int)) = true:=by rw [<- uG];simpa using hi
  have hi2:i < s.size:=by rw [<- uG];exact hi
  unfold ux;simp only [hd,cond_true,zN hx,zA,okB_eq x _ rfl,yT (show i < 9223372036854775807 by omega)]
  cases okB x <;> rfl) (by
  unfold ux;simp [uG])
 rw [show (0:Int) = ((0:Nat):Int) from rfl,this,XC]
theorem xka (s:ByteArray) (hs:s.size <= 1000000000000):Xt s = pure (xwa s):=by
 unfold Xt xwa;rw [ZPa s hs]
 by_cases h:s.size <= 60
 ·have:decide ((60:Int) < (s.size:Int)) = false:=by simp;omega
  rw [this,cond_false,zA,decide_eq_true h,Bool.true_and]
  cases (ya s).all okB <;> rfl
 ·have:decide ((60:Int) < (s.size:Int)) = true:=by simp;omega
  rw [this,cond_true,decide_eq_false h,Bool.false_and]
theorem rText_eq (s:ByteArray) (hs:s.size <= 1000000000000):jG s = pure (xwa s):=by
 unfold jG xwa;rw [vpa s hs,zA]
 cases (ya s).all okB with
 | false=>rw [Bool.and_false];rfl
 | true=>
  rw [if_pos rfl,wi,Bool.and_true]
  congr 1
  by_cases h:s.size <= 60
  ·rw [decide_eq_true h];simp;omega
  ·rw [decide_eq_false h];simp;omega

structure OkE (e:EV):Prop where
 dot:D.OkD e.dot
 kind:0 <= e.kind /\ e.kind <= 255
 cid:0 <= e.cid /\ e.cid <= 18446744073709551615
 field:0 <= e.field /\ e.field <= 255
 text:e.text.size <= 1000000000
 kills:∀ d ∈ e.kills,D.OkD d
 klen:e.kills.length <= 1000000000
def ZQa (s:ByteArray):Bool:=decide (s = ⟨#[]⟩)
def goodK (e:EV):Bool:=(decide (e.kind = 1) && (xva e.field && xwa e.text)) || (decide (e.kind = 2) && (decide (e.field = 0) && ZQa e.text))
def xxa (e:EV):Bool:=decide (e.kills.length <= 256) && (D.Xk e.kills && e.kills.all fun d=>V.yZ d && !decide (d = e.dot))
def yN (e:EV):Bool:=(xU e.cid && V.yZ e.dot) && (goodK e && xxa e)
theorem ZRa (l:List DT) (hl:l.length <= 1000000000000):Xu l = pure (D.Xk l):=by
 unfold Xu;have key:∀ (k i:Nat) (x:DT) (r:List DT),i + k = l.length -> l.drop i = r -> i ≠ 0 -> l[i - 1]? = some x -> loop (yr l) (i:Int) = pure (if D.Xk (x :: r) = true then Ex.brk () else Ex.ret false):=by
  intro k
  induction k with
  | zero=>
   intro i x r hi hr h1 hx;have:r = []:=by rw [<- hr];exact List.drop_eq_nil_of_le (by omega)
   subst this;exact zP (by
    unfold yr;have:decide ((i:Int) < (l.length:Int)) = false:=by simp;omega
    simp only [this,cond_false];rfl)
  | succ k ih=>
   intro i x r hi hr h1 hx;have hlt:i < l.length:=by omega
   have hr2:r = l[i] :: l.drop (i + 1):=by rw [<- hr];exact List.drop_eq_getElem_cons hlt
   have hy:=List.getElem?_eq_getElem hlt;have hi1:idx l (IntKind.i64.wrap ((i:Int) - 1)) = pure x:=by
    rw [uJ (by omega) (by omega)];exact Wb (by omega) (by rw [show ((i:Int) - 1).toNat = i - 1 by omega];exact hx)
   have hb:yr l (i:Int) = cond (!zh x l[i]) (pure (.done (.ret false))) (pure (.next ((i + 1:Nat):Int))):=by
    unfold yr;have h2:decide ((i:Int) < (l.length:Int)) = true:=by simp;omega
    have h3:decide ((0:Int) < (i:Int)) = true:=by simp;omega
    simp only [h2,h3,cond_true,hi1,zN hy,zA,D.qr,zB,D.wza,yT (show i < 9223372036854775807 by omega)]
   rw [hr2];show _ = (pure (if (zh x l[i] && D.Xk (l[i] :: l.drop (i + 1))) = true then Ex.brk () else Ex.ret false):M (Ex Unit Bool))
   cases c:zh x l[i] with
   | true=>
    rw [c] at hb;rw [zW hb,Bool.true_and];exact ih (i + 1) l[i] _ (by omega) rfl (by omega) hy
   | false=>
    rw [c] at hb;rw [zP hb];rfl
 cases l with
 | nil=>
  rw [zP (r:=Ex.brk ()) (by unfold yr;rfl)];rfl
 | cons x r=>
  have h0:yr (x :: r) 0 = pure (.next 1):=by
   unfold yr;have h2:decide ((0:Int) < ((x :: r).length:Int)) = true:=decide_eq_true (by rw [List.length_cons];omega);simp only [h2,cond_true,show decide ((0:Int) < 0) = false from rfl,cond_false,zA];rw [uJ (by omega) (by omega)]
   rfl
  have:=key r.length 1 x r (by simp;omega) rfl (by decide) rfl;rw [show ((1:Nat):Int) = 1 from rfl] at this;rw [zW h0,this,zA]
  cases D.Xk (x :: r) <;> rfl
theorem vqa (e:EV) (hl:e.kills.length <= 1000000000000):loop (vG e) 0 = pure (if (e.kills.all fun d=>V.yZ d && !decide (d = e.dot)) = true then Ex.brk () else Ex.ret false):=by
 have:=xS (body:=vG e) e.kills (fun i=>(i:Int)) (fun _ d=>V.yZ d && !decide (d = e.dot)) (Ex.brk ()) (Ex.ret false) (fun i x hx hi=>by
  have hd:decide ((i:Int) < (e.kills.length:Int)) = true:=by simpa using hi
  unfold vG;simp only [hd,cond_true,zN hx,zA,V.ZK,zB,D.xpa,yT (show i < 9223372036854775807 by omega)]
  cases V.yZ x <;> cases decide (x = e.dot) <;> rfl) (by
  unfold vG;simp)
 rw [show (0:Int) = ((0:Nat):Int) from rfl,this,XC e.kills fun d=>V.yZ d && !decide (d = e.dot)]
theorem Zm {e:EV} (h:OkE e):uk e = pure (yN e):=by
 have hk:=h.klen;have ht:=h.text;unfold uk yN;rw [ZNa h.cid.1 h.cid.2,zB,zA,V.ZK,zB,zA,vqa e (by omega),ZRa e.kills (by omega),Field_eq,xka e.text (by omega)];simp only []
 cases xU e.cid with
 | false=>rfl
 | true=>
  cases V.yZ e.dot with
  | false=>rfl
  | true=>
   have hl:decide ((256:Int) < (e.kills.length:Int)) = !decide (e.kills.length <= 256):=by
    by_cases c:e.kills.length <= 256
    ·rw [decide_eq_true c];simp;omega
    ·rw [decide_eq_false c];simp;omega
   have tail:(cond (decide ((256:Int) < (e.kills.length:Int))) (pure true) ((det (pure (D.Xk e.kills))).bind fun v23=>pure (!v23))).bind (fun v21=>cond v21 (pure false) ((pure (if (e.kills.all fun d=>V.yZ d && !decide (d = e.dot)) = true then Ex.brk () else Ex.ret false)).bind (exk fun _=>pure true))) = pure (xxa e):=by
    unfold xxa;rw [hl,zB,zA]
    cases decide (e.kills.length <= 256) with
    | false=>rfl
    | true=>
     cases D.Xk e.kills with
     | false=>rfl
     | true=>cases e.kills.all fun d=>V.yZ d && !decide (d = e.dot) <;> rfl
   simp only [Bool.not_true,cond_false,zA,zB,Bool.true_and] at tail ⊢;unfold goodK ZQa
   by_cases k1:e.kind = 1
   ·have k2:decide (e.kind = 2) = false:=by rw [k1];rfl
    rw [decide_eq_true k1,cond_true,k2,Bool.true_and,Bool.false_and,Bool.or_false]
    cases xva e.field with
    | false=>rfl
    | true=>
     cases xwa e.text with
     | false=>rfl
     | true=>exact tail
   ·rw [decide_eq_false k1,cond_false,Bool.false_and,Bool.false_or]
    by_cases k2:e.kind = 2
    ·rw [decide_eq_true k2,cond_true,Bool.true_and]
     cases decide (e.field = 0) with
     | false=>rfl
     | true=>
      cases decide (e.text = (⟨#[]⟩:ByteArray)) with
      | false=>rfl
      | true=>exact tail
    ·rw [decide_eq_false k2];rfl
theorem Ud (l:List DT) (d:DT) (hl:l.length <= 1000000000000):jy l d = pure (l.any fun x=>decide (x = d)):=by
 unfold jy;have:=xS (body:=WN l d) l (fun i=>(i:Int)) (fun _ x=>!decide (x = d)) (Ex.brk ()) (Ex.ret true) (fun i x hx hi=>by
  have hd:decide ((i:Int) < (l.length:Int)) = true:=by simpa using hi
  unfold WN;simp only [hd,cond_true,zN hx,zA,D.xpa,yT (show i < 9223372036854775807 by omega)]
  cases decide (x = d) <;> rfl) (by
  unfold WN;simp)
 rw [show (0:Int) = ((0:Nat):Int) from rfl,this,zA,XC l fun x=>!decide (x = d)];have e:(l.any fun x=>decide (x = d)) = !(l.all fun x=>!decide (x = d)):=by simp [List.all_eq_not_any_not]
 rw [e]
 cases l.all fun x=>!decide (x = d) <;> rfl
theorem vra (e:EV) (hl:e.kills.length <= 1000000000000):loop (uy e) 0 = pure (if e.kills.all V.yZ = true then Ex.brk () else Ex.ret false):=by
 have:=xS (body:=uy e) e.kills (fun i=>(i:Int)) (fun _ d=>V.yZ d) (Ex.brk ()) (Ex.ret false) (fun i x hx hi=>by
  have hd:decide ((i:Int) < (e.kills.length:Int)) = true:=by simpa using hi
  unfold uy;simp only [hd,cond_true,zN hx,zA,V.ZL,zB,yT (show i < 9223372036854775807 by omega)]
  cases V.yZ x <;> rfl) (by
  unfold uy;simp)
 rw [show (0:Int) = ((0:Nat):Int) from rfl,this,XC e.kills V.yZ]
theorem vO {e:EV} (h:OkE e):Yf e = pure (yN e):=by
 have hk:=h.klen;have ht:=h.text;unfold Yf yN;rw [voa h.cid.1 h.cid.2,zB,zA,V.ZL,zB,zA,vra e (by omega),D.vma e.kills (by omega),ZOa,rText_eq e.text (by omega),Ud e.kills e.dot (by omega)];simp only []
 cases xU e.cid with
 | false=>rfl
 | true=>
  cases V.yZ e.dot with
  | false=>rfl
  | true=>
   have hl:decide ((e.kills.length:Int) <= 256) = decide (e.kills.length <= 256):=by
    by_cases c:e.kills.length <= 256
    ·rw [decide_eq_true c];simp;omega
    ·rw [decide_eq_false c];simp;omega
   have hall:(e.kills.all fun d=>V.yZ d && !decide (d = e.dot)) = (e.kills.all V.yZ && !(e.kills.any fun x=>decide (x = e.dot))):=by
    rw [Bool.eq_iff_iff,Bool.and_eq_true,List.all_eq_true,List.all_eq_true,Bool.not_eq_true',List.any_eq_false]
    constructor
    ·intro h;exact ⟨fun x hx=>by have:=h x hx;rw [Bool.and_eq_true] at this;exact this.1,fun x hx=>by have:=h x hx;rw [Bool.and_eq_true] at this;simpa using this.2⟩
    ·rintro ⟨h1,h2⟩ x hx;rw [Bool.and_eq_true];exact ⟨h1 x hx,by simpa using h2 x hx⟩
   have tail:((pure (if e.kills.all V.yZ = true then Ex.brk () else Ex.ret false):M (Ex Unit Bool)).bind (exk fun _=>(cond (decide ((e.kills.length:Int) <= 256)) ((det (pure (D.Xk e.kills))).bind fun v46=>cond v46 ((det (pure (e.kills.any fun x=>decide (x = e.dot)))).bind fun v49=>pure (!v49)) (pure false)) (pure false)).bind fun v44=>pure v44)) = pure (xxa e):=by
    unfold xxa;rw [hl,hall];simp only [zB,zA]
    cases e.kills.all V.yZ with
    | false=>cases decide (e.kills.length <= 256) <;> cases D.Xk e.kills <;> rfl
    | true=>cases decide (e.kills.length <= 256) <;> cases D.Xk e.kills <;> cases e.kills.any fun x=>decide (x = e.dot) <;> rfl
   simp only [Bool.not_true,cond_false,zA,zB,Bool.true_and] at tail ⊢;unfold goodK ZQa
   by_cases k1:e.kind = 1
   ·have k2:decide (e.kind = 2) = false:=by rw [k1];rfl
    rw [decide_eq_true k1,k2];simp only [Bool.not_true,cond_false,cond_true,zA,Bool.true_and,Bool.false_and,Bool.or_false]
    cases xva e.field with
    | false=>rfl
    | true=>
     cases xwa e.text with
     | false=>rfl
     | true=>exact tail
   ·rw [decide_eq_false k1];simp only [Bool.not_false,cond_true,zA,Bool.false_and,Bool.false_or]
    by_cases k2:e.kind = 2
    ·rw [decide_eq_true k2];simp only [Bool.not_true,cond_false,cond_true,Bool.true_and]
     cases decide (e.field = 0) with
     | false=>rfl
     | true=>
      cases decide (e.text = (⟨#[]⟩:ByteArray)) with
      | false=>rfl
      | true=>exact tail
    ·rw [decide_eq_false k2];rfl


def fewE (l:List EV) (most:Nat):Bool:=decide (l.length <= most) && l.all fun e=>decide (e.kills.length <= 300) && decide (e.text.size <= 200)
theorem few_mem {l:List EV} {most:Nat} (h:fewE l most = true):l.length <= most /\ ∀ e ∈ l,e.kills.length <= 300 /\ e.text.size <= 200:=by
 unfold fewE at h;rw [Bool.and_eq_true,List.all_eq_true] at h;exact ⟨by simpa using h.1,fun e he=>by simpa using h.2 e he⟩
theorem Zi (a b:EV) (h:a.kills.length <= 1000000000000):jP a b = pure (decide (a = b)):=by
 unfold jP;rw [D.xpa,V.xXa a.kills b.kills h,zB,zA];have e:decide (a = b) = (decide (a.dot = b.dot) && (decide (a.kind = b.kind) && (decide (a.cid = b.cid) && (decide (a.field = b.field) && (decide (a.text = b.text) && decide (a.kills = b.kills)))))):=by
  cases a;cases b;simp only [EV.mk.injEq,Bool.decide_and]
 rw [e]
 cases decide (a.dot = b.dot) <;> cases decide (a.kind = b.kind) <;> cases decide (a.cid = b.cid) <;> cases decide (a.field = b.field) <;> cases decide (a.text = b.text) <;> rfl
theorem rAll_eq (a b:List EV) (ha:a.length <= 1000000000000) (hk:∀ e ∈ a,e.kills.length <= 1000000000000):QS a b = pure (decide (a = b)):=by
 unfold QS
 by_cases hlen:a.length = b.length
 ·have h1:decide ((a.length:Int) = (b.length:Int)) = true:=by simp [hlen]
  rw [h1,Bool.not_true,cond_false];have:=xS (body:=WP a b) a (fun i=>(i:Int)) (fun i x=>decide (b[i]? = some x)) (Ex.brk ()) (Ex.ret false) (fun i x hx hi=>by
   have hd:decide ((i:Int) < (a.length:Int)) = true:=by simpa using hi
   obtain ⟨y,hy⟩:∃ y,b[i]? = some y:=⟨_,List.getElem?_eq_getElem (by omega)⟩
   unfold WP;simp only [hd,cond_true,zN hx,zN hy,zA,Zi x y (hk x (List.mem_of_getElem? hx)),zB,yT (show i < 9223372036854775807 by omega),hy]
   by_cases c:x = y
   ·subst c;simp
   ·have:¬ some y = some x:=fun e=>c (Option.some.inj e).symm
    simp [c,this]) (by
   unfold WP;simp)
  rw [show (0:Int) = ((0:Nat):Int) from rfl,this,zA];have e:(a.zipIdx.all fun y=>decide (b[y.2]? = some y.1)) = decide (a = b):=by
   rw [Bool.eq_iff_iff,List.all_eq_true,decide_eq_true_eq]
   constructor
   ·intro h;apply List.ext_getElem?;intro i
    by_cases hi:i < a.length
    ·have:=h (a[i],i) (by rw [List.mk_mem_zipIdx_iff_getElem?];exact List.getElem?_eq_getElem hi);simp only [decide_eq_true_eq] at this;rw [this,List.getElem?_eq_getElem hi]
    ·rw [List.getElem?_eq_none (by omega),List.getElem?_eq_none (by omega)]
   ·intro h y hy;subst h;rw [List.mem_zipIdx_iff_getElem?] at hy;simpa using hy
  rw [e]
  cases decide (a = b) <;> rfl
 ·have h1:decide ((a.length:Int) = (b.length:Int)) = false:=by simp;omega
  have h2:decide (a = b) = false:=decide_eq_false fun e=>hlen (by rw [e])
  rw [h1,Bool.not_false,cond_true,h2]

def encT (s:ByteArray):List Int:=N.vB s.size ++ ya s
def yga (e:EV):List Int:=D.encD e.dot ++ ([e.kind] ++ (N.vB e.cid ++ ([e.field] ++ (encT e.text ++ D.Uu e.kills))))
theorem w3a {s:ByteArray} (h:s.size <= 1000000000):(encT s).length <= 9 + s.size:=by
 have:=N.zn (v:=(s.size:Int)) (by omega);rw [encT,List.length_append,uG];omega
theorem encE_len {e:EV} (h:OkE e):(yga e).length <= 47 + e.text.size + 18 * e.kills.length:=by
 have h1:=D.ja h.dot;have h2:=N.zn h.cid.2;have h3:=w3a h.text;have h4:=D.ZEa h.kills (by have:=h.klen;omega);simp only [yga,List.length_append,List.length_singleton];omega
theorem vsa {s:ByteArray} (h:s.size <= 1000000000) (row:List Int) (hr:row.length <= 1000000000000):xW s row = pure (row ++ encT s):=by
 have:=N.zn (v:=(s.size:Int)) (by omega);unfold xW;rw [Zs (by omega) (by omega),N.vP row (by omega) (by omega) (by omega),zB,zA,zD (by omega),N.u9a _ _ (by rw [List.length_append,uG];omega),zB,zA,encT,List.append_assoc]
theorem Put_eq {e:EV} (h:OkE e) (row:List Int) (hr:row.length <= 10000000000):YY e row = pure (row ++ yga e):=by
 have h1:=D.ja h.dot;have h2:=N.zn h.cid.2;have h3:=w3a h.text;have ht:=h.text;have hk:=h.klen;unfold YY;rw [D.yUa h.dot row (by omega),zB,zA,N.zMa _ _ (by rw [List.length_append];omega),zB,zA,N.vP _ h.cid.1 h.cid.2 (by simp only [List.length_append,List.length_singleton];omega),zB,zA,
  N.zMa _ _ (by simp only [List.length_append,List.length_singleton];omega),zB,zA,vsa h.text _ (by simp only [List.length_append,List.length_singleton];omega),zB,zA,
  D.via h.kills (by omega) _ (by simp only [List.length_append,List.length_singleton];omega),zB,zA]
 simp only [yga,List.append_assoc]
def XP (l:List EV):List Int:=N.vB l.length ++ l.flatMap yga
theorem yha {l:List EV} (h:∀ e ∈ l,OkE e) (hl:l.length <= 1000000000) (row:List Int) (hr:row.length + (l.flatMap yga).length <= 1000000000):xM l row = pure (row ++ XP l):=by
 have h9:=N.zn (v:=(l.length:Int)) (by omega);unfold xM;rw [Zs (by omega) (by omega),N.vP row (by omega) (by omega) (by omega),zB,zA];have:=D.zQa (body:=xp l) l yga (row ++ N.vB (l.length:Int)) 2000000000 (fun i out=>((i:Int),out)) (fun t=>pure t) (by rw [List.length_append];omega) (fun i x out hx hi ho=>by
  have hd:decide ((i:Int) < (l.length:Int)) = true:=by simpa using hi
  unfold xp;simp only [hd,cond_true,zN hx,zA,Put_eq (h x (List.mem_of_getElem? hx)) out (by omega),zB,yT (show i < 9223372036854775807 by omega)]) (fun out=>by
  unfold xp;simp [zA])
 rw [show (0:Int) = ((0:Nat):Int) from rfl,this,XP,List.append_assoc]
theorem UD {l:List EV} (h:∀ e ∈ l,OkE e) (hf:∀ e ∈ l,e.kills.length <= 300 /\ e.text.size <= 200):(l.flatMap yga).length <= 6000 * l.length:=
 D.Vx l yga 6000 fun e he=>by have:=encE_len (h e he);have:=hf e he;omega
open N (RS Ok zM zu xZ ZO wW zba OkB Sim)
open D (WS fin)

def s1 (s:RS):RS:=(D.uo s).2
def s2 (s:RS):RS:=(xZ (s1 s)).2
def s3 (s:RS):RS:=(zM (s2 s)).2
def s4 (s:RS):RS:=(xZ (s3 s)).2
def s5 (s:RS):RS:=(ZO 60 (s4 s)).2
def s6 (s:RS):RS:=(D.wY 256 (s5 s)).2
def vta (s:RS):EV:=⟨(D.uo s).1,(xZ (s1 s)).1,(zM (s2 s)).1,(xZ (s3 s)).1,(ZO 60 (s4 s)).1,(D.wY 256 (s5 s)).1⟩
def noE : EV:=⟨⟨0,0⟩,0,0,0,⟨#[]⟩,[]⟩
def getT (s:RS):RS:=WS (!yN (vta s)) (s6 s)
def yy (s:RS):EV × RS:=fin noE (vta s) (getT s)
theorem ZSa {s:RS} (h:Ok s) (m:Int):(ZO m s).1.size <= 1000000000:=by
 have h1:=(N.yb h).1.len;unfold ZO
 split
 ·exact (by decide:(0:Nat) <= 1000000000)
 ·split
  ·exact (by decide:(0:Nat) <= 1000000000)
  ·split
   ·exact (by decide:(0:Nat) <= 1000000000)
   ·rw [Ji,List.length_take];omega
theorem dots_okD {s:RS} (h:Ok s) (most:Int):(∀ d ∈ (D.wY most s).1,D.OkD d) /\ (D.wY most s).1.length <= 1000000000:=by
 by_cases c:(D.wY most s).2.2 = 0
 ·obtain ⟨e1,e2,e3,e4⟩:=D.w1a h c;have hl:=congrArg List.length e1;have hs:=h.len;have h9:(D.ww (D.ZW (D.wY most s).1)) = (D.wY most s).1:=D.yca e2 fun d hd=>(e3 d hd).1
  have h8:∀ l:List DT,l.length <= (l.flatMap D.encD).length:=by
   intro l
   induction l with
   | nil=>simp
   | cons x t ih=>
    have:1 <= (D.encD x).length:=by rw [D.encD,List.length_append,N.vB,N.v0a,List.length_cons];omega
    rw [List.flatMap_cons,List.length_append,List.length_cons];omega
  have h7:=h8 (D.wY most s).1;refine ⟨fun d hd=>(e3 d hd).2,?_⟩;rw [List.length_append,D.Uu,h9,List.length_append] at hl;omega
 ·rw [D.dots_bad c];simp
theorem w4a {s:RS} (h:Ok s):Ok (s1 s) /\ Ok (s2 s) /\ Ok (s3 s) /\ Ok (s4 s) /\ Ok (s5 s) /\ Ok (s6 s) /\ OkE (vta s):=by
 have o1:Ok (s1 s):=(D.yXa h).1;have o2:=N.Jc o1;have o3:=N.yb (s:=s2 s) o2.1;have o4:=N.Jc (s:=s3 s) o3.1;have o5:=N.ok_text (s:=s4 s) o4.1 60;have o6:=D.ok_dots (s:=s5 s) o5 256;obtain ⟨k1,k2⟩:=dots_okD (s:=s5 s) o5 256;exact ⟨o1,o2.1,o3.1,o4.1,o5,o6,(D.yXa h).2.1,o2.2,o3.2,o4.2,ZSa (s:=s4 s) o4.1 60,k1,k2⟩
theorem Get_eq {s:RS} (h:Ok s):YZ s.1 s.2 = pure (yy s):=by
 obtain ⟨o1,o2,o3,o4,o5,o6,oe⟩:=w4a h;unfold YZ yy;have e1:vV s.1 s.2 = pure ((D.uo s).1,s1 s):=D.Dot_eq h;have e2:zj (s1 s).1 (s1 s).2 = pure ((xZ (s1 s)).1,s2 s):=N.jW o1;have e3:zS (s2 s).1 (s2 s).2 = pure ((zM (s2 s)).1,s3 s):=N.XF o2;have e4:zj (s3 s).1 (s3 s).2 = pure ((xZ (s3 s)).1,s4 s):=N.jW o3;have e5:yu 60 (s4 s).1 (s4 s).2 = pure ((ZO 60 (s4 s)).1,s5 s):=N.xka o4 (by decide);have e6:vz 256 (s5 s).1 (s5 s).2 = pure ((D.wY 256 (s5 s)).1,s6 s):=D.xua o5 (by decide);rw [e1,zB,zA];simp only [];rw [e2,zB,zA];simp only [];rw [e3,zB,zA];simp only [];rw [e4,zB,zA];simp only [];rw [e5,zB,zA];simp only [];rw [e6,zB,zA];simp only [];have eg:=Zm oe;unfold vta at eg;rw [eg,zB,zA];have ep:=D.zTa (yN (vta s)) (s6 s);unfold vta at ep;rw [ep,zA];exact D.xsa _ _ _
variable {B:List Int} {a:Int} {s:RS}
theorem rGet_eq (hB:OkB B) (hO:Ok s) (h:Sim B a s):∃ a',VZ B a s.2 = pure ((yy s).1,B,a',(yy s).2.2) /\ Sim B a' (yy s).2:=by
 obtain ⟨o1,o2,o3,o4,o5,o6,oe⟩:=w4a hO;obtain ⟨a1,e1,t1⟩:=D.ZJa hB hO h;obtain ⟨a2,e2,t2⟩:=N.Vw hB (s:=s1 s) t1;obtain ⟨a3,e3,t3⟩:=N.uT hB (s:=s2 s) t2;obtain ⟨a4,e4,t4⟩:=N.Vw hB (s:=s3 s) t3;obtain ⟨a5,e5,t5⟩:=N.ZAa hB o4 t4 (q:=60) (by decide);obtain ⟨a6,e6,t6⟩:=D.zWa hB o5 t5 (most:=256) (by decide);unfold VZ yy;have e1':YA B a s.2 = pure ((D.uo s).1,B,a1,(s1 s).2):=e1;have e2':zQ B a1 (s1 s).2 = pure ((xZ (s1 s)).1,B,a2,(s2 s).2):=e2;have e3':zE B a2 (s2 s).2 = pure ((zM (s2 s)).1,B,a3,(s3 s).2):=e3;have e4':zQ B a3 (s3 s).2 = pure ((xZ (s3 s)).1,B,a4,(s4 s).2):=e4;have e5':zx 60 B a4 (s4 s).2 = pure ((ZO 60 (s4 s)).1,B,a5,(s5 s).2):=e5;have e6':YB 256 B a5 (s5 s).2 = pure ((D.wY 256 (s5 s)).1,B,a6,(s6 s).2):=e6;rw [e1',zB,zA];simp only [];rw [e2',zB,zA];simp only [];rw [e3',zB,zA];simp only [];rw [e4',zB,zA];simp only [];rw [e5',zB,zA];simp only [];rw [e6',zB,zA];simp only [];have q1:=D.Je (s6 s).2 ((det (Yf (vta s))).bind fun v18=>pure (!v18)) (!yN (vta s)) (by rw [vO oe,zB,zA]);have q2:=D.Uh B a6 (decide ((s6 s).2 = 0) && !yN (vta s)) (s6 s);rw [D.Vz] at q2;unfold vta at q1 q2;rw [q1,zA,q2,zA,D.YN];refine ⟨a6,?_,D.WT t6 _⟩;show (cond (!decide ((getT s).2 = 0)) (pure (noE,B,a6,(getT s).2)) (pure (vta s,B,a6,(getT s).2)):M _) = _
 by_cases c:(getT s).2 = 0
 ·rw [D.Wh c,decide_eq_true c];rfl
 ·rw [D.Zo c,decide_eq_false c];rfl

theorem ZTa {s:RS} (h:(xZ s).2.2 = 0):s.2 = 0 /\ s.1 = (xZ s).1 :: (xZ s).2.1:=by
 unfold xZ at h ⊢
 by_cases c:s.2 ≠ 0
 ·rw [if_pos c] at h;exact absurd h c
 ·rw [if_neg c] at h ⊢
  cases hs:s.1 with
  | nil=>rw [hs] at h;exact absurd h (N.xu (by decide))
  | cons x r=>exact ⟨Classical.byContradiction c,rfl⟩
theorem text_ok {m:Int} {s:RS} (hO:Ok s) (h:(ZO m s).2.2 = 0):(zM s).2.2 = 0 /\ s.1 = encT (ZO m s).1 ++ (ZO m s).2.1 /\ ((ZO m s).1.size:Int) <= max m 0:=by
 obtain ⟨k1,k2,k3⟩:=N.yb hO;unfold ZO at h ⊢
 by_cases c:(zM s).2.2 ≠ 0
 ·rw [if_pos c] at h;exact absurd h c
 ·rw [if_neg c] at h ⊢
  by_cases c2:max m 0 < (zM s).1
  ·rw [if_pos c2] at h;exact absurd h (N.xu (by decide))
  ·rw [if_neg c2] at h ⊢
   by_cases c3:((zM s).2.1.length:Int) < (zM s).1
   ·rw [if_pos c3] at h;exact absurd h (N.xu (by decide))
   ·rw [if_neg c3];have hz:(zM s).2.2 = 0:=Classical.byContradiction c;refine ⟨hz,?_,?_⟩
    ·show s.1 = (N.vB ((XK _).size:Int) ++ ya (XK _)) ++ _;rw [Ji,vna (k1.by_.take _),List.length_take,show ((min (zM s).1.toNat (zM s).2.1.length:Nat):Int) = (zM s).1 by omega,List.append_assoc,List.take_append_drop];exact D.Zp hO hz
    ·show ((XK _).size:Int) <= _;rw [Ji,List.length_take];omega
theorem ZUa {s:RS} (hO:Ok s) (h:(yy s).2.2 = 0):s.2 = 0 /\ yN (yy s).1 = true /\ OkE (yy s).1 /\ s.1 = yga (yy s).1 ++ (yy s).2.1:=by
 obtain ⟨o1,o2,o3,o4,o5,o6,oe⟩:=w4a hO;unfold yy at h ⊢;rw [D.YN] at h;rw [D.Wh h];obtain ⟨g1,g2,g3⟩:=D.Ug (c:=!yN (vta s)) (s:=s6 s) h;have i6:=D.w1a o5 g2;have z5:(s5 s).2 = 0:=Classical.byContradiction fun c=>by
  have:(D.wY 256 (s5 s)).2.2 ≠ 0:=by
   have hn:=N.num_of c;unfold D.wY;rw [hn];rw [if_neg (by show ¬ max 256 0 < (0:Int);omega)];exact c
  exact this g2
 obtain ⟨z5',i5,_⟩:=text_ok (m:=60) o4 z5;have z4:=D.Wj z5';obtain ⟨z3,i4⟩:=ZTa (s:=s3 s) z4;have i3:=D.Zp o2 z3;have z2:=D.Wj z3;obtain ⟨z1,i2⟩:=ZTa (s:=s1 s) z2;have i1:=D.ZLa hO z1;have z0:s.2 = 0:=D.Wj (D.zUa (D.wra z1).2.1).1;refine ⟨z0,by simpa using g1,oe,?_⟩;show s.1 = yga (vta s) ++ (getT s).1;rw [show getT s = s6 s from g3];show s.1 = (D.encD (D.uo s).1 ++ ([(xZ (s1 s)).1] ++ (N.vB (zM (s2 s)).1 ++ ([(xZ (s3 s)).1] ++ (encT (ZO 60 (s4 s)).1 ++ D.Uu (D.wY 256 (s5 s)).1))))) ++ (s6 s).1;simp only [List.append_assoc];have j6:(s5 s).1 = D.Uu (D.wY 256 (s5 s)).1 ++ (s6 s).1:=i6.1;have j5:(s4 s).1 = encT (ZO 60 (s4 s)).1 ++ (s5 s).1:=i5;have j4:(s3 s).1 = [(xZ (s3 s)).1] ++ (s4 s).1:=i4;have j3:(s2 s).1 = N.vB (zM (s2 s)).1 ++ (s3 s).1:=i3;have j2:(s1 s).1 = [(xZ (s1 s)).1] ++ (s2 s).1:=i2;have j1:s.1 = D.encD (D.uo s).1 ++ (s1 s).1:=i1;rw [<- j6,<- j5,<- j4,<- j3,<- j2];exact j1
theorem JC {s:RS} (hO:Ok s) (h:(yy s).2.2 = 0):(yy s).2.1.length + 1 <= s.1.length:=by
 have:=(ZUa hO h).2.2.2;have hl:=congrArg List.length this;have:1 <= (yga (yy s).1).length:=by simp only [yga,List.length_append,List.length_singleton];omega
 rw [List.length_append] at hl;omega

open N (RS Ok zM zu xZ ZO wW zba OkB Sim)
open D (WS fin)

def Xl (out:List EV) (x:EV):Bool:=match out.getLast? with | some y=>decide (0 <= V.yta y.dot x.dot) | none=>false
def Jv (out:List EV) (s:RS):RS:=WS (Xl out (yy s).1) (yy s).2
def Ui : Nat -> List EV -> RS -> List EV × RS
 | 0,out,s=>(out,s)
 | k + 1,out,s=>if (Jv out s).2 ≠ 0 then ([],Jv out s) else Ui k (out ++ [(yy s).1]) (Jv out s)
def XQ (most:Int) (s:RS):List EV × RS:=if max most 0 < (zM s).1 then ([],wW 3 (zM s).2) else Ui (zM s).1.toNat [] (zM s).2
theorem jc {k:Nat} {out:List EV} {s:RS} (h:(Jv out s).2 ≠ 0):Ui (k + 1) out s = ([],Jv out s):=if_pos h
theorem UE {k:Nat} {out:List EV} {s:RS} (h:(Jv out s).2 = 0):Ui (k + 1) out s = Ui k (out ++ [(yy s).1]) (Jv out s):=if_neg (by simp [h])
theorem xya {out:List EV} {s:RS} (h:(Jv out s).2 = 0):Xl out (yy s).1 = false /\ (yy s).2.2 = 0 /\ Jv out s = (yy s).2:=D.Ug h
theorem ok_gets {s:RS} (h:Ok s):Ok (yy s).2:=by
 unfold yy;rw [D.YN];exact D.Uf (w4a h).2.2.2.2.2.1 _
theorem Jj {s:RS} (h:Ok s) (out:List EV):Ok (Jv out s):=D.Uf (ok_gets h) _
theorem ZVa : ∀ (k:Nat) (out:List EV) (s:RS),Ok s -> Ok (Ui k out s).2
 | 0,_,_,h=>h
 | k + 1,out,s,h=>by
  by_cases c:(Jv out s).2 = 0
  ·rw [UE c];exact ZVa k _ _ (Jj h out)
  ·rw [jc c];exact Jj h out
theorem ZWa {s:RS} (h:Ok s) (most:Int):Ok (XQ most s).2:=by
 have h1:=N.yb h;unfold XQ
 split
 ·exact N.Xe h1.1 _
 ·exact ZVa _ _ _ h1.1
theorem yia {out:List EV} (h:out.length <= 1000000000000) (x:EV) (cmp:DT -> DT -> M Int) (hc:∀ y,cmp y x.dot = pure (V.yta y x.dot)) :
  ((cond (decide (0 <= IntKind.i64.wrap ((out.length:Int) - 1))) ((idx out (IntKind.i64.wrap ((out.length:Int) - 1))).bind fun x61=>(det (cmp x61.dot x.dot)).bind fun v63=>pure (decide (0 <= v63))) (pure false)):M Bool) = pure (Xl out x):=by
 unfold Xl;rcases R.yl out with rfl | ⟨r,y,rfl⟩
 ·rfl
 ·have hl:((r ++ [y]).length:Int) - 1 = (r.length:Int):=by simp
  rw [hl,uJ (by omega) (by simp at h;omega)];have:decide ((0:Int) <= (r.length:Int)) = true:=by simp
  rw [this,cond_true,zN (y:=y) (by simp),zA,hc,zB,zA];simp
theorem w5a {y4:Int × List Int × Int} (hn:0 <= y4.1 /\ y4.1 <= 18446744073709551615):∀ (k i:Nat) (out:List EV) (s:RS),(i:Int) + k = y4.1 -> Ok s -> s.2 = 0 -> out.length + s.1.length <= 1000000000 ->
  (loop (yd y4) ((i:Int),out,s.1,s.2)).bind (exk fun ⟨out9,v10,v11⟩=>pure (out9,v10,v11)) = pure (Ui k out s)
 | 0,i,out,s,hi,_,_,_=>by
  rw [zP (r:=.brk (out,s.1,s.2)) (by
   unfold yd;have:decide ((i:Int) < y4.1) = false:=by simp;omega
   simp only [this,cond_false])]
  rfl
 | k + 1,i,out,s,hi,hO,h0,hl=>by
  have hc:decide ((i:Int) < y4.1) = true:=by simp;omega
  have hlast:=yia (out:=out) (by omega) (yy s).1 vT (fun y=>D.qr y _);have hw:IntKind.u64.wrap ((i:Int) + 1) = ((i + 1:Nat):Int):=by rw [Zs (by omega) (by omega)];omega
  have hb:yd y4 ((i:Int),out,s.1,s.2) = (det (zX (Jv out s).1 (Jv out s).2)).bind fun y70=>cond (!decide (y70.1 = 0)) (pure (.done (.ret ([],y70.2.1,y70.2.2)))) (yV ((out.length + [(yy s).1].length) * 80 <= 140737488355328) (pure (.next (IntKind.u64.wrap ((i:Int) + 1),out ++ [(yy s).1],y70.2.1,y70.2.2)))):=by
   unfold yd;have e:=D.xra (Xl out (yy s).1) (yy s).2;simp only [hc,cond_true,Get_eq hO,zB,zA];rw [hlast,zA,e,zA]
   rfl
  rw [N.Wg,zB,zA] at hb
  by_cases c:(Jv out s).2 = 0
  ·obtain ⟨_,c2,c3⟩:=xya c;have hlt:=JC hO c2;rw [decide_eq_true c,Bool.not_true,cond_false,zD (by simp;omega),hw] at hb;rw [zW hb,UE c];exact w5a hn k (i + 1) _ (Jv out s) (by omega) (Jj hO out) c (by rw [c3];simp;omega)
  ·rw [decide_eq_false c,Bool.not_false,cond_true] at hb;rw [zP hb,jc c]
   rfl
theorem yja {s:RS} (hO:Ok s) {most:Int} (hm:most <= 9223372036854775807):wI most s.1 s.2 = pure (XQ most s):=by
 obtain ⟨h1,h2,h3⟩:=N.yb hO;unfold wI XQ;rw [N.XF hO,zB,zA,Zs (n:=max most 0) (by omega) (by omega)]
 by_cases c:max most 0 < (zM s).1
 ·rw [decide_eq_true c,cond_true,if_pos c,N.Zn 3 (zM s).2,zB,zA]
 ·rw [decide_eq_false c,cond_false,if_neg c]
  by_cases c2:(zM s).2.2 = 0
  ·exact w5a (y4:=zM s) ⟨h2,h3⟩ (zM s).1.toNat 0 [] (zM s).2 (by omega) h1 c2 (by simp;have:=h1.len;omega)
  ·have hz:=D.xY c2;rw [hz,zP (r:=.brk ([],(zM s).2.1,(zM s).2.2)) (by
    unfold yd;simp only [hz,show decide ((0:Int) < 0) = false from rfl,cond_false])]
   rfl
variable {B:List Int} {a:Int} {s:RS}
theorem yka (hB:OkB B) {y7:Int × List Int × Int × Int} (hn:0 <= y7.1 /\ y7.1 <= 18446744073709551615):∀ (k i:Nat) (out:List EV) (s:RS) (a:Int),(i:Int) + k = y7.1 -> Ok s -> s.2 = 0 -> Sim B a s -> out.length + s.1.length <= 1000000000 ->
  ∃ out' a',loop (yJ y7) ((i:Int),out,B,a,s.2) = pure (out',B,a',(Ui k out s).2.2) /\ Sim B a' (Ui k out s).2 /\ ((Ui k out s).2.2 = 0 -> out' = (Ui k out s).1) /\ ((Ui k out s).2.2 ≠ 0 -> (Ui k out s).1 = [])
 | 0,i,out,s,a,hi,_,h0,hS,_=>by
  refine ⟨out,a,zP ?_,hS,fun _=>rfl,fun h=>absurd h0 h⟩;unfold yJ;have:decide ((i:Int) < y7.1) = false:=by simp;omega
  simp only [this,cond_false,zA]
  rfl
 | k + 1,i,out,s,a,hi,hO,h0,hS,hl=>by
  have hc:decide ((i:Int) < y7.1) = true:=by simp;omega
  obtain ⟨a1,e1,s1⟩:=rGet_eq hB hO hS;have hlast:=yia (out:=out) (by omega) (yy s).1 vK (fun y=>V.vZ y _);have hw:IntKind.u64.wrap ((i:Int) + 1) = ((i + 1:Nat):Int):=by rw [Zs (by omega) (by omega)];omega
  have hb:yJ y7 ((i:Int),out,B,a,s.2) = pure (.next (((i + 1:Nat):Int),out ++ [(yy s).1],B,a1,(Jv out s).2)):=by
   unfold yJ;have e3:=D.Je (yy s).2.2 _ _ hlast;have e4:=D.Uh B a1 (decide ((yy s).2.2 = 0) && Xl out (yy s).1) (yy s).2;rw [D.Vz] at e4;simp only [hc,cond_true,decide_eq_true h0,zA,e1,zB];rw [e3,zA,e4,zA];simp only [];rw [zD (by simp;omega),hw]
   rfl
  have hs2:Sim B a1 (Jv out s):=D.WT s1 _;rw [zW hb]
  by_cases c:(Jv out s).2 = 0
  ·obtain ⟨_,c2,c3⟩:=xya c;have hlt:=JC hO c2;rw [UE c];exact yka hB hn k (i + 1) _ (Jv out s) a1 (by omega) (Jj hO out) c hs2 (by rw [c3];simp;omega)
  ·rw [jc c];refine ⟨out ++ [(yy s).1],a1,zP ?_,hs2,fun h=>absurd h c,fun _=>rfl⟩;unfold yJ;have hq:(cond (decide (((i + 1:Nat):Int) < y7.1)) (pure (decide ((Jv out s).2 = 0))) (pure false):M Bool) = pure false:=by
    rw [decide_eq_false c];cases decide (((i + 1:Nat):Int) < y7.1) <;> rfl
   simp only [];rw [hq,zA]
   rfl
theorem qw (hB:OkB B) (hO:Ok s) (h:Sim B a s) {most:Int} (hm:most <= 9223372036854775807):∃ a',uB most B a s.2 = pure ((XQ most s).1,B,a',(XQ most s).2.2) /\ Sim B a' (XQ most s).2:=by
 obtain ⟨h1,h2,h3⟩:=N.yb hO;obtain ⟨a1,e1,s1⟩:=N.uT hB h;unfold uB XQ;have hmost:(cond (decide (most < 0)) (pure 0) (pure most):M Int) = pure (max most 0):=by
  by_cases c:most < 0
  ·rw [decide_eq_true c,cond_true];congr 1;omega
  ·rw [decide_eq_false c,cond_false];congr 1;omega
 rw [hmost,zA,e1,zB,zA,Zs (n:=max most 0) (by omega) (by omega)];have done:∀ (out:List EV) (a2:Int) (i:Int) (t:RS),t.2 ≠ 0 -> loop (yJ ((zM s).1,B,a1,(zM s).2.2)) (i,out,B,a2,t.2) = pure (out,B,a2,t.2):=fun out a2 i t ht=>zP (by
  unfold yJ;have hq:(cond (decide (i < (zM s).1)) (pure (decide (t.2 = 0))) (pure false):M Bool) = pure false:=by
   rw [decide_eq_false ht];cases decide (i < (zM s).1) <;> rfl
  simp only [];rw [hq,zA]
  rfl)
 by_cases c:max most 0 < (zM s).1
 ·have hF:=N.vq B a1 (zM s).2 (e:=3) (by decide);have hb:=N.xu (s:=(zM s).2) (e:=3) (by decide);rw [decide_eq_true c,cond_true,if_pos c,hF,zB,zA,zA];simp only [];rw [done _ _ _ _ hb,zA];simp only [decide_eq_false hb,Bool.not_false,cond_true];exact ⟨_,rfl,s1.fail (by decide)⟩
 ·rw [decide_eq_false c,cond_false,if_neg c,zA];simp only []
  by_cases c2:(zM s).2.2 = 0
  ·obtain ⟨out',a',e2,s2,q1,q2⟩:=yka hB (y7:=((zM s).1,B,a1,(zM s).2.2)) ⟨h2,h3⟩ (zM s).1.toNat 0 [] (zM s).2 a1 (by simp;omega) h1 c2 s1 (by simp;have:=h1.len;omega);have e2':loop (yJ ((zM s).1,B,a1,(zM s).2.2)) (0,[],B,a1,(zM s).2.2) = pure (out',B,a',(Ui (zM s).1.toNat [] (zM s).2).2.2):=e2;rw [e2',zA];refine ⟨a',?_,s2⟩
   by_cases c3:(Ui (zM s).1.toNat [] (zM s).2).2.2 = 0
   ·simp only [decide_eq_true c3,Bool.not_true,cond_false,q1 c3]
   ·simp only [decide_eq_false c3,Bool.not_false,cond_true,q2 c3]
  ·rw [D.xY c2] at *
   rw [done _ _ _ _ c2,zA];simp only [decide_eq_false c2,Bool.not_false,cond_true];exact ⟨_,rfl,s1⟩
abbrev UJ (l:List EV):Prop:=l.Pairwise fun x y=>zh x.dot y.dot = true
theorem ZXa {out:List EV} {x:EV} (hs:UJ out) (h:Xl out x = false):UJ (out ++ [x]):=by
 unfold UJ;rw [List.pairwise_append];refine ⟨hs,by simp,fun a ha b hb=>?_⟩;rw [List.mem_singleton.1 hb];rcases R.yl out with rfl | ⟨q,y,rfl⟩
 ·simp at ha
 ·have hy:zh y.dot x.dot = true:=by
   unfold Xl at h;simp only [List.getLast?_append,List.getLast?_singleton,Option.some_or,D.wza] at h;simpa using h
  rcases List.mem_append.1 ha with h5 | h5
  ·exact D.jX ((List.pairwise_append.1 hs).2.2 a h5 y (by simp)) hy
  ·rw [List.mem_singleton.1 h5];exact hy
theorem qx : ∀ (k:Nat) (out:List EV) (s:RS),Ok s -> s.2 = 0 -> UJ out -> (∀ e ∈ out,OkE e /\ yN e = true) -> out.length + s.1.length <= 1000000000 ->
  UJ (Ui k out s).1 /\ (∀ e ∈ (Ui k out s).1,OkE e /\ yN e = true) /\ (Ui k out s).1.length <= 1000000000 /\ ((Ui k out s).2.2 = 0 -> ∃ l,(Ui k out s).1 = out ++ l /\ l.length = k /\ s.1 = l.flatMap yga ++ (Ui k out s).2.1) /\ ((Ui k out s).2.2 ≠ 0 -> (Ui k out s).1 = [])
 | 0,out,s,_,h0,hs,hg,hl=>⟨hs,hg,by show out.length <= _;omega,fun _=>⟨[],by simp [Ui],rfl,by simp [Ui]⟩,fun h=>absurd h0 h⟩
 | k + 1,out,s,hO,h0,hs,hg,hl=>by
  by_cases c:(Jv out s).2 = 0
  ·obtain ⟨c1,c2,c3⟩:=xya c;obtain ⟨i1,i2,i3,i4⟩:=ZUa hO c2;have hlt:=JC hO c2;rw [UE c];obtain ⟨q1,q2,q3,q4,q5⟩:=qx k (out ++ [(yy s).1]) (Jv out s) (Jj hO out) c (ZXa hs c1) (fun e he=>by
    rcases List.mem_append.1 he with h | h
    ·exact hg e h
    ·rw [List.mem_singleton.1 h];exact ⟨i3,i2⟩) (by rw [c3];simp;omega)
   refine ⟨q1,q2,q3,fun hz=>?_,q5⟩;obtain ⟨l,e1,e2,e3⟩:=q4 hz;refine ⟨(yy s).1 :: l,by rw [e1];simp,by simp [e2],?_⟩;rw [List.flatMap_cons,List.append_assoc,<- e3,c3];exact i4
  ·rw [jc c];exact ⟨List.Pairwise.nil,by simp,by simp,fun h=>absurd h c,fun _=>rfl⟩
theorem UF {s:RS} (hO:Ok s) (most:Int):UJ (XQ most s).1 /\ (∀ e ∈ (XQ most s).1,OkE e /\ yN e = true) /\ (XQ most s).1.length <= 1000000000 /\ ((XQ most s).2.2 = 0 -> s.1 = XP (XQ most s).1 ++ (XQ most s).2.1 /\ ((XQ most s).1.length:Int) <= max most 0) /\ ((XQ most s).2.2 ≠ 0 -> (XQ most s).1 = []):=by
 obtain ⟨h1,h2,h3⟩:=N.yb hO;unfold XQ
 by_cases c:max most 0 < (zM s).1
 ·rw [if_pos c];exact ⟨List.Pairwise.nil,by simp,by simp,fun h=>absurd h (N.xu (by decide)),fun _=>rfl⟩
 ·rw [if_neg c]
  by_cases c2:(zM s).2.2 = 0
  ·obtain ⟨q1,q2,q3,q4,q5⟩:=qx (zM s).1.toNat [] (zM s).2 h1 c2 List.Pairwise.nil (by simp) (by simp;have:=h1.len;omega);refine ⟨q1,q2,q3,fun hz=>?_,q5⟩;obtain ⟨l,e1,e2,e3⟩:=q4 hz;rw [List.nil_append] at e1;rw [e1];refine ⟨?_,by omega⟩;rw [XP,List.append_assoc,<- e3,e2,Int.toNat_of_nonneg h2];exact D.Zp hO c2
  ·rw [D.xY c2];exact ⟨List.Pairwise.nil,by simp [Ui],by simp [Ui],fun h=>absurd h c2,fun _=>rfl⟩
end Go.Ep.M.E


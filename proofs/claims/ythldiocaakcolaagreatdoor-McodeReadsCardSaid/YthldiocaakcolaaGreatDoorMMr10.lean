/- Side texts. -/
import Derived.Test.YthldiocaakcolaaGreatDoorMMr2
import Derived.Test.YthldiocaakcolaaGreatDoorMMr3
set_option linter.unusedVariables false
set_option linter.unusedSimpArgs false
namespace Go.Ep
open Go

theorem uJ {n:Int} (h:-9223372036854775808 <= n) (h':n <= 9223372036854775807):IntKind.i64.wrap n = n:=by simp [IntKind.wrap,IntKind.bits,IntKind.signed];omega
theorem Zs {n:Int} (h:0 <= n) (h':n <= 18446744073709551615):IntKind.u64.wrap n = n:=by simp [IntKind.wrap,IntKind.bits,IntKind.signed];omega
theorem wU16 {n:Int} (h:0 <= n) (h':n <= 65535):IntKind.u16.wrap n = n:=by simp [IntKind.wrap,IntKind.bits,IntKind.signed];omega
theorem wU8 {n:Int} (h:0 <= n) (h':n <= 255):IntKind.u8.wrap n = n:=by simp [IntKind.wrap,IntKind.bits,IntKind.signed];omega
theorem yT {i:Nat} (h:i < 9223372036854775807):IntKind.i64.wrap ((i:Int) + 1) = ((i + 1:Nat):Int):=by rw [uJ (by omega) (by omega)];rfl
namespace M
variable {α β σ ρ τ ε:Type}
theorem vN (p:Prop) [Decidable p] (x y:M α):cond (decide p) x y = if p then x else y:=by by_cases h:p <;> simp [h]
theorem XO {body:σ -> M (Step σ ρ)} (l:List ε) (mk:Nat -> τ -> σ) (f:τ -> ε -> τ) (g:τ -> M ρ)
  (I:Nat -> τ -> Prop) (h1:∀ (i:Nat) (x:ε) (t:τ),l[i]? = some x -> i < l.length -> I i t -> body (mk i t) = pure (.next (mk (i + 1) (f t x))) /\ I (i + 1) (f t x))
  (h2:∀ t,I l.length t -> body (mk l.length t) = (g t).bind fun r=>pure (.done r)) (t0:τ) (h0:I 0 t0):loop body (mk 0 t0) = g (l.foldl f t0):=by
 have key:∀ k i t,i + k = l.length -> I i t -> loop body (mk i t) = g ((l.drop i).foldl f t):=by
  intro k
  induction k with
  | zero=>
   intro i t hi hI;have:i = l.length:=by omega
   subst this;rw [jl,h2 t hI,List.drop_length]
   rfl
  | succ k ih=>
   intro i t hi hI;have hlt:i < l.length:=by omega
   obtain ⟨h3,h4⟩:=h1 i l[i] t (List.getElem?_eq_getElem hlt) hlt hI;rw [zW h3,ih (i + 1) _ (by omega) h4,List.drop_eq_getElem_cons hlt]
   rfl
 simpa using key l.length 0 t0 (by omega) h0
theorem loopF {body:σ -> M (Step σ ρ)} (l:List ε) (mk:Nat -> σ) (p:Nat -> ε -> Bool) (r:Nat -> ε -> ρ) (d:M ρ)
  (h1:∀ (i:Nat) (x:ε),l[i]? = some x -> i < l.length -> body (mk i) = if p i x then pure (.done (r i x)) else pure (.next (mk (i + 1))))
  (h2:body (mk l.length) = d.bind fun r=>pure (.done r)):loop body (mk 0) = match (l.zipIdx).find? (fun y=>p y.2 y.1) with | some y=>pure (r y.2 y.1) | none=>d:=by
 have key:∀ k i,i + k = l.length -> loop body (mk i) = match ((l.drop i).zipIdx i).find? (fun y=>p y.2 y.1) with | some y=>pure (r y.2 y.1) | none=>d:=by
  intro k
  induction k with
  | zero=>
   intro i hi;have:i = l.length:=by omega
   subst this;rw [jl,h2,List.drop_length]
   rfl
  | succ k ih=>
   intro i hi;have hlt:i < l.length:=by omega
   have h3:=h1 i l[i] (List.getElem?_eq_getElem hlt) hlt;rw [List.drop_eq_getElem_cons hlt,List.zipIdx_cons,List.find?_cons]
   by_cases hp:p i l[i] = true
   ·rw [if_pos hp] at h3;rw [zP h3];simp [hp]
   ·rw [if_neg hp] at h3;rw [zW h3,ih (i + 1) (by omega)];simp [hp]
 simpa using key l.length 0 (by omega)
theorem xS {body:σ -> M (Step σ ρ)} (l:List ε) (mk:Nat -> σ) (p:Nat -> ε -> Bool) (r1 r2:ρ)
  (h1:∀ (i:Nat) (x:ε),l[i]? = some x -> i < l.length -> body (mk i) = if p i x then pure (.next (mk (i + 1))) else pure (.done r2))
  (h2:body (mk l.length) = pure (.done r1)):loop body (mk 0) = pure (if l.zipIdx.all (fun y=>p y.2 y.1) then r1 else r2):=by
 have key:∀ k i,i + k = l.length -> loop body (mk i) = pure (if ((l.drop i).zipIdx i).all (fun y=>p y.2 y.1) then r1 else r2):=by
  intro k
  induction k with
  | zero=>
   intro i hi;have:i = l.length:=by omega
   subst this;rw [zP h2,List.drop_length]
   rfl
  | succ k ih=>
   intro i hi;have hlt:i < l.length:=by omega
   have h3:=h1 i l[i] (List.getElem?_eq_getElem hlt) hlt;rw [List.drop_eq_getElem_cons hlt,List.zipIdx_cons,List.all_cons]
   by_cases hp:p i l[i] = true
   ·rw [if_pos hp] at h3;rw [zW h3,ih (i + 1) (by omega),hp,Bool.true_and]
   ·rw [if_neg hp] at h3;rw [zP h3];simp [hp]
 have:=key l.length 0 (by omega);rw [List.drop_zero] at this;exact this

def came {ε:Type} (m:List ε) (L:List Nat):List ε:=L.filterMap fun i=>m[i]?
theorem uka {m:List ε} {L:List Nat} {i:Nat} {y:ε} (h:m[i]? = some y):came m (L ++ [i]) = came m L ++ [y]:=by simp [came,h]
theorem Qq {n:Nat} {L:List Nat} (hn:L.Nodup) (hb:∀ i ∈ L,i < n) (ha:∀ i,i < n -> i ∈ L):L.Perm (List.range n):=by
 refine (List.perm_ext_iff_of_nodup hn List.nodup_range).2 fun i=>?_
 rw [List.mem_range];exact ⟨hb i,ha i⟩
theorem ula {m:List ε} {L:List Nat} (hn:L.Nodup) (hb:∀ i ∈ L,i < m.length) (ha:∀ i,i < m.length -> i ∈ L):(came m L).Perm m:=by
 have h1:=(Qq hn hb ha).filterMap fun i=>m[i]?
 have h2:(List.range m.length).filterMap (fun i=>m[i]?) = m:=by
  apply List.ext_getElem?;intro i;clear h1 hn hb ha;have:(List.range m.length).filterMap (fun i=>m[i]?) = m:=by
   induction m with
   | nil=>rfl
   | cons x r ih=>
    rw [List.length_cons,List.range_succ_eq_map,List.filterMap_cons];simp only [List.getElem?_cons_zero,List.filterMap_map]
    congr 1
  rw [this]
 rw [h2] at h1;exact h1
theorem uma {n:Nat} {L:List Nat} (hn:L.Nodup) (hb:∀ i ∈ L,i < n):L.length <= n:=by
 have:=List.Nodup.length_le_of_subset hn (l₂:=List.range n) (fun i hi=>List.mem_range.2 (hb i hi));simpa using this

theorem full {n:Nat} {L:List Nat} (hn:L.Nodup) (hb:∀ i ∈ L,i < n) (hl:n <= L.length):∀ i,i < n -> i ∈ L:=by
 intro i hi;refine Classical.byContradiction fun hni=>?_
 have:=uma (n:=n) (L:=i :: L) (List.nodup_cons.2 ⟨hni,hn⟩) (fun j hj=>by
  rcases List.mem_cons.1 hj with rfl | hj
  ·exact hi
  ·exact hb j hj)
 simp at this;omega
theorem loopM {body:σ -> M (Step σ ρ)} (m:List ε) (mk:List Nat -> τ -> σ) (f:τ -> ε -> M τ) (g:τ -> M ρ) (I:List ε -> τ -> Prop) (Q:ρ -> Prop)
  (hb:∀ L t,(∀ i ∈ L,i < m.length) -> body (mk L t) = yV (∀ i ∈ L,i < m.length) ((nxt m.length L).bind fun o=>match o with
   | none=>(g t).bind fun r=>pure (.done r)
   | some i=>(idx m (Int.ofNat i)).bind fun y=>(f t y).bind fun t'=>pure (.next (mk (L ++ [i]) t'))))
  (hs:∀ l t y,I l t -> l.length < m.length -> y ∈ m -> ∃ t',f t y = pure t' /\ I (l ++ [y]) t') (he:∀ l t,l.Perm m -> I l t -> (g t).wp Q) (t0:τ) (h0:I [] t0):(loop body (mk [] t0)).wp Q:=by
 have key:∀ k L t,L.length + k = m.length -> L.Nodup -> (∀ i ∈ L,i < m.length) -> I (came m L) t -> Jz body Q (mk L t):=by
  intro k
  induction k with
  | zero=>
   intro L t hk hn hlt hI;refine YT ?_;rw [hb L t hlt];have hall:∀ i,i < m.length -> i ∈ L:=fun i hi=>full hn hlt (by omega) i hi
   refine ⟨hlt,⟨⟨none,hall⟩,fun o ho=>?_⟩⟩
   cases o with
   | none=>
    have:=he _ t (ula hn hlt hall) hI;exact this
   | some i=>exact absurd (hall i ho.1) ho.2
  | succ k ih=>
   intro L t hk hn hlt hI;refine YT ?_;rw [hb L t hlt];have hex:∃ i,i < m.length /\ i ∉ L:=by
    refine Classical.byContradiction fun hno=>?_
    have hall:∀ i,i < m.length -> i ∈ L:=fun i hi=>Classical.byContradiction fun h=>hno ⟨i,hi,h⟩
    have:=(Qq hn hlt hall).length_eq;simp at this;omega
   obtain ⟨i0,hi0⟩:=hex;refine ⟨hlt,⟨⟨some i0,hi0⟩,fun o ho=>?_⟩⟩
   cases o with
   | none=>exact absurd (ho i0 hi0.1) hi0.2
   | some i=>
    have hi:=List.getElem?_eq_getElem ho.1;obtain ⟨t',h1,h2⟩:=hs (came m L) t m[i] hI (by have:=List.length_filterMap_le (fun i=>m[i]?) L;unfold came;omega) (List.getElem_mem ho.1);show ((idx m (Int.ofNat i)).bind _).wp _;rw [show (Int.ofNat i) = (i:Int) from rfl,zN hi,zA,h1,zA];refine ih (L ++ [i]) t' (by simp;omega) ?_ ?_ (by rw [uka hi];exact h2)
    ·rw [List.nodup_append];refine ⟨hn,by simp,fun a ha b hb'=>?_⟩;rw [List.mem_singleton.1 hb'];intro e;exact ho.2 (e ▸ ha)
    ·intro j hj;rcases List.mem_append.1 hj with hj | hj
     ·exact hlt j hj
     ·rw [List.mem_singleton.1 hj];exact ho.1
 exact key m.length [] t0 (by simp) List.nodup_nil (by simp) h0

theorem loopN {body:σ -> M (Step σ ρ)} (n:Nat) (mk:List Nat -> τ -> σ) (I:List Nat -> τ -> Prop) (Q:ρ -> Prop)
  (h:∀ L t,I L t -> L.Nodup -> (∀ i ∈ L,i < n) -> ∃ K:Option Nat -> M (Step σ ρ),body (mk L t) = yV (∀ i ∈ L,i < n) ((nxt n L).bind K) /\ ((∀ i,i < n -> i ∈ L) -> (K none).wp (Step.post (fun _=>False) Q)) /\
   ∀ i,i < n -> i ∉ L -> ∃ t',K (some i) = pure (.next (mk (L ++ [i]) t')) /\ I (L ++ [i]) t') (t0:τ) (h0:I [] t0):(loop body (mk [] t0)).wp Q:=by
 have key:∀ k L t,L.length + k = n -> L.Nodup -> (∀ i ∈ L,i < n) -> I L t -> Jz body Q (mk L t):=by
  intro k
  induction k with
  | zero=>
   intro L t hk hn hlt hI;obtain ⟨K,h1,h2,h3⟩:=h L t hI hn hlt;refine YT ?_;rw [h1];have hall:∀ i,i < n -> i ∈ L:=full hn hlt (by omega);refine ⟨hlt,⟨⟨none,hall⟩,fun o ho=>?_⟩⟩
   cases o with
   | none=>exact (K none).mono (fun a ha=>by cases a with | next s=>exact ha.elim | done r=>exact ha) (h2 hall)
   | some i=>exact absurd (hall i ho.1) ho.2
  | succ k ih=>
   intro L t hk hn hlt hI;obtain ⟨K,h1,h2,h3⟩:=h L t hI hn hlt;refine YT ?_;rw [h1];have hex:∃ i,i < n /\ i ∉ L:=by
    refine Classical.byContradiction fun hno=>?_
    have hall:∀ i,i < n -> i ∈ L:=fun i hi=>Classical.byContradiction fun h=>hno ⟨i,hi,h⟩
    have:=(Qq hn hlt hall).length_eq;simp at this;omega
   obtain ⟨i0,hi0⟩:=hex;refine ⟨hlt,⟨⟨some i0,hi0⟩,fun o ho=>?_⟩⟩
   cases o with
   | none=>exact absurd (ho i0 hi0.1) hi0.2
   | some i=>
    obtain ⟨t',h4,h5⟩:=h3 i ho.1 ho.2;show (K (some i)).wp _;rw [h4];refine ih (L ++ [i]) t' (by simp;omega) ?_ ?_ h5
    ·rw [List.nodup_append];refine ⟨hn,by simp,fun a ha b hb'=>?_⟩;rw [List.mem_singleton.1 hb'];intro e;exact ho.2 (e ▸ ha)
    ·intro j hj;rcases List.mem_append.1 hj with hj | hj
     ·exact hlt j hj
     ·rw [List.mem_singleton.1 hj];exact ho.1
 exact key n [] t0 (by simp) List.nodup_nil (by simp) h0
end M

namespace AL
variable {κ ν:Type} [DecidableEq κ]
theorem uga (m:List (κ × ν)) (k q:κ) (v:ν):get (set m k v) q = if k = q then some v else get m q:=by
 induction m with
 | nil=>simp [set,get]
 | cons x r ih=>
  obtain ⟨a,u⟩:=x
  by_cases h:a = k
  ·subst h;simp only [set,if_true,get];split <;> rfl
  ·simp only [set,h,if_false,get,ih]
   by_cases h2:a = q
   ·subst h2;simp [Ne.symm h]
   ·simp [h2]
theorem getZ_set (m:List (κ × ν)) (k q:κ) (v z:ν):getZ (set m k v) q z = if k = q then v else getZ m q z:=by
 unfold getZ;rw [uga];split <;> rfl
theorem keys_set (m:List (κ × ν)) (k:κ) (v:ν):(set m k v).map (·.1) = if k ∈ m.map (·.1) then m.map (·.1) else m.map (·.1) ++ [k]:=by
 induction m with
 | nil=>simp [set]
 | cons x r ih=>
  obtain ⟨a,u⟩:=x
  by_cases h:a = k
  ·subst h;simp [set]
  ·simp only [set,h,if_false,List.map_cons,ih,List.mem_cons,Ne.symm h,false_or]
   split <;> simp
theorem nodup_set {m:List (κ × ν)} (h:(m.map (·.1)).Nodup) (k:κ) (v:ν):((set m k v).map (·.1)).Nodup:=by
 rw [keys_set]
 split
 ·exact h
 ·rename_i hk
  rw [List.nodup_append];refine ⟨h,by simp,fun a ha b hb=>?_⟩;rw [List.mem_singleton.1 hb];intro e;exact hk (e ▸ ha)
theorem get_none {m:List (κ × ν)} {k:κ}:get m k = none ↔ k ∉ m.map (·.1):=by
 induction m with
 | nil=>simp [get]
 | cons x r ih=>
  obtain ⟨a,u⟩:=x
  by_cases h:a = k
  ·subst h;simp [get]
  ·simp [get,h,ih,Ne.symm h]
theorem get_mem {m:List (κ × ν)} {k:κ} {v:ν} (h:get m k = some v):(k,v) ∈ m:=by
 induction m with
 | nil=>simp [get] at h
 | cons x r ih=>
  obtain ⟨a,u⟩:=x
  by_cases e:a = k
  ·subst e;simp [get] at h;subst h;simp
  ·simp only [get,e,if_false] at h;exact List.mem_cons_of_mem _ (ih h)
theorem mem_get {m:List (κ × ν)} (hn:(m.map (·.1)).Nodup) {k:κ} {v:ν} (h:(k,v) ∈ m):get m k = some v:=by
 induction m with
 | nil=>simp at h
 | cons x r ih=>
  obtain ⟨a,u⟩:=x;simp only [List.map_cons,List.nodup_cons] at hn;rcases List.mem_cons.1 h with e | h
  ·cases e;simp [get]
  ·have:a ≠ k:=fun e=>hn.1 (e ▸ List.mem_map.2 ⟨(k,v),h,rfl⟩)
   simp only [get,this,if_false];exact ih hn.2 h
theorem len_set (m:List (κ × ν)) (k:κ) (v:ν):(set m k v).length <= m.length + 1:=by
 induction m with
 | nil=>simp [set]
 | cons x r ih=>
  obtain ⟨a,u⟩:=x;unfold set
  split
  ·simp
  ·simpa using ih
end AL
end Go.Ep

namespace Go.Ep.M.V
open Go

def yZ (d:DT):Bool:=decide (1 <= d.dev) && (decide (1 <= d.n) && decide (d.n <= 281474976710655))
theorem ZJ {d:DT}:yZ d = true ↔ 1 <= d.dev /\ 1 <= d.n /\ d.n <= 281474976710655:=by simp [yZ]
theorem ZK (d:DT):Zb d = pure (yZ d):=by
 unfold Zb;rw [za,za,zA];refine congrArg pure ?_;rw [Bool.eq_iff_iff,ZJ];simp only [Bool.and_eq_true,decide_eq_true_eq];omega
theorem ZL (d:DT):uc d = pure (yZ d):=by
 unfold uc;rw [za,za,zA];refine congrArg pure ?_;rw [Bool.eq_iff_iff,ZJ];simp only [Bool.and_eq_true,decide_eq_true_eq];omega
theorem xXa (a b:List DT) (h:a.length <= 1000000000000):jO a b = pure (decide (a = b)):=by
 unfold jO
 by_cases hl:(a.length:Int) = b.length
 ·simp only [hl,decide_true,Bool.not_true,cond_false];have:=xS (body:=Yn a b) a (fun i=>(i:Int)) (fun i x=>decide (b[i]? = some x)) (.brk ()) (.ret false) (fun i x hx hi=>by
   have hb:i < b.length:=by omega
   unfold Yn;rw [zN hx,zN (List.getElem?_eq_getElem hb),yT (by omega)];simp only [zA,List.getElem?_eq_getElem hb,Option.some.injEq];have:decide ((i:Int) < (a.length:Int)) = true:=by simpa using hi
   rw [this,cond_true]
   by_cases he:b[i] = x
   ·subst he;simp
   ·rw [if_neg (by simpa using he)];have:(decide (x.dev = b[i].dev) && decide (x.n = b[i].n)) = false:=by
     rw [Bool.eq_false_iff];intro hc;simp at hc;apply he
     cases x;cases hh:b[i];simp_all
    rw [this];rfl) (by
   unfold Yn;simp)
  rw [show (0:Int) = ((0:Nat):Int) from rfl,this]
  by_cases he:a = b
  ·subst he;rw [if_pos]
   ·simp [zA,wi]
   ·rw [List.all_eq_true];intro ⟨x,i⟩ hx;rw [List.mk_mem_zipIdx_iff_getElem?] at hx;simpa using hx
  ·rw [if_neg]
   ·simp [he,zA,vE]
   ·intro hall;rw [List.all_eq_true] at hall;apply he;apply List.ext_getElem (by omega);intro i h1 h2;have:=hall (a[i],i) (by rw [List.mk_mem_zipIdx_iff_getElem?];exact List.getElem?_eq_getElem h1);simp [h2] at this;exact this.symm
 ·have hne:a ≠ b:=fun e=>hl (by rw [e])
  simp [hl,hne]

def ofV : List DT -> Int -> Int
 | [],_=>0
 | d :: r,dev=>if d.dev = dev /\ yZ d = true then max d.n (ofV r dev) else ofV r dev
theorem una (v:List DT) (dev:Int):0 <= ofV v dev /\ ofV v dev <= 281474976710655:=by
 induction v with
 | nil=>simp [ofV]
 | cons d r ih=>
  simp only [ofV]
  split
  ·rename_i h;have:=ZJ.1 h.2;omega
  ·exact ih
theorem ofV_pos {v:List DT} {dev:Int}:0 < ofV v dev ↔ ∃ d ∈ v,d.dev = dev /\ yZ d = true:=by
 induction v with
 | nil=>simp [ofV]
 | cons d r ih=>
  simp only [ofV,List.mem_cons,exists_eq_or_imp]
  split
  ·rename_i h
   have:=ZJ.1 h.2
   constructor
   ·intro _;exact .inl h
   ·intro _;omega
  ·rename_i h
   rw [ih]
   constructor
   ·exact .inr
   ·rintro (hh | hh)
    ·exact absurd hh h
    ·exact hh
def Ju : List Int -> Int -> List Int
 | [],k=>[k]
 | a :: r,k=>if k < a then k :: a :: r else if k = a then a :: r else a :: Ju r k
theorem jS {l:List Int} {k q:Int}:q ∈ Ju l k ↔ q = k \/ q ∈ l:=by
 induction l with
 | nil=>simp [Ju]
 | cons a r ih=>
  unfold Ju
  split
  ·simp
  ·split
   ·rename_i h;subst h;simp
   ·simp only [List.mem_cons,ih];constructor
    ·rintro (h | h | h) <;> simp [h]
    ·rintro (h | h | h) <;> simp [h]
theorem ZM {l:List Int} (h:l.Pairwise (· < ·)) (k:Int):(Ju l k).Pairwise (· < ·):=by
 induction l with
 | nil=>simp [Ju]
 | cons a r ih=>
  obtain ⟨h1,h2⟩:=List.pairwise_cons.1 h;unfold Ju
  split
  ·rename_i hk
   refine List.pairwise_cons.2 ⟨fun x hx=>?_,h⟩;rcases List.mem_cons.1 hx with rfl | hx
   ·exact hk
   ·have:=h1 x hx;omega
  ·split
   ·exact h
   ·refine List.pairwise_cons.2 ⟨fun x hx=>?_,ih h2⟩;rcases jS.1 hx with rfl | hx
    ·omega
    ·exact h1 x hx
theorem Vm (l : List Int) (k : Int) : (Ju l k).length <= l.length + 1 := by
  induction l with
  | nil => simp [Ju]
  | cons a r ih => unfold Ju; split <;> try split
                   all_goals simp_all
def Yy (l:List Int) (d:DT):List Int:=if yZ d then Ju l d.dev else l
def devsL (v:List DT):List Int:=v.foldl Yy []
theorem Vn (v:List DT):∀ l:List Int,l.Pairwise (· < ·) -> (v.foldl Yy l).Pairwise (· < ·) /\ (∀ k,k ∈ v.foldl Yy l ↔ k ∈ l \/ ∃ d ∈ v,d.dev = k /\ yZ d = true) /\ (v.foldl Yy l).length <= l.length + v.length:=by
 induction v with
 | nil=>intro l h;simp [h]
 | cons d r ih=>
  intro l h;simp only [List.foldl_cons];unfold Yy
  split
  ·rename_i hg
   obtain ⟨h1,h2,h3⟩:=ih _ (ZM h d.dev);refine ⟨h1,fun k=>?_,?_⟩
   ·have:=h2 k;unfold Yy at this;rw [this,jS]
    constructor
    ·rintro ((rfl | h) | ⟨e,he,h⟩)
     ·exact .inr ⟨d,by simp,rfl,hg⟩
     ·exact .inl h
     ·exact .inr ⟨e,by simp [he],h⟩
    ·rintro (h | ⟨e,he,h⟩)
     ·exact .inl (.inr h)
     ·rcases List.mem_cons.1 he with rfl | he
      ·exact .inl (.inl h.1.symm)
      ·exact .inr ⟨e,he,h⟩
   ·have:=Vm l d.dev;simp only [List.length_cons];unfold Yy at h3;omega
  ·rename_i hg
   obtain ⟨h1,h2,h3⟩:=ih _ h;refine ⟨h1,fun k=>?_,?_⟩
   ·have:=h2 k;unfold Yy at this;rw [this]
    constructor
    ·rintro (h | ⟨e,he,h⟩)
     ·exact .inl h
     ·exact .inr ⟨e,by simp [he],h⟩
    ·rintro (h | ⟨e,he,h⟩)
     ·exact .inl h
     ·rcases List.mem_cons.1 he with rfl | he
      ·exact absurd h.2 hg
      ·exact .inr ⟨e,he,h⟩
   ·simp only [List.length_cons];unfold Yy at h3;omega
theorem wg {v:List DT} {k:Int}:k ∈ devsL v ↔ 0 < ofV v k:=by rw [ofV_pos];simpa [devsL] using (Vn v [] List.Pairwise.nil).2.1 k
def uf (m:List (Int × Int)) (d:DT):List (Int × Int):=if yZ d then AL.set m d.dev (max (AL.getZ m d.dev 0) d.n) else m
def uS (v:List DT):List (Int × Int):=v.foldl uf []
theorem Qr (v:List DT):∀ m:List (Int × Int),(m.map (·.1)).Nodup -> ((v.foldl uf m).map (·.1)).Nodup /\ ((∀ k,0 <= AL.getZ m k 0) -> ∀ k,AL.getZ (v.foldl uf m) k 0 = max (AL.getZ m k 0) (ofV v k)) /\ (v.foldl uf m).length <= m.length + v.length /\ (∀ k,k ∈ (v.foldl uf m).map (·.1) -> k ∈ m.map (·.1) \/ 0 < ofV v k):=by
 induction v with
 | nil=>
  intro m h;refine ⟨h,fun h0 k=>?_,by simp,fun k hk=>.inl hk⟩;have:=h0 k;simp only [List.foldl_nil,ofV];omega
 | cons d r ih=>
  intro m h;simp only [List.foldl_cons]
  by_cases hg:yZ d = true
  ·have hd:=ZJ.1 hg;have e:uf m d = AL.set m d.dev (max (AL.getZ m d.dev 0) d.n):=by simp [uf,hg]
   rw [e];obtain ⟨h1,h2,h3,h4⟩:=ih _ (AL.nodup_set h d.dev (max (AL.getZ m d.dev 0) d.n));refine ⟨h1,fun h0 k=>?_,?_,fun k hk=>?_⟩
   ·rw [h2 (fun q=>by rw [AL.getZ_set];have:=h0 q;have:=h0 d.dev;split <;> omega),AL.getZ_set];simp only [ofV]
    by_cases hk:d.dev = k
    ·subst hk;simp only [if_true,hg,and_self];omega
    ·simp [hk]
   ·have:=AL.len_set m d.dev (max (AL.getZ m d.dev 0) d.n);simp only [List.length_cons];omega
   ·simp only [ofV];rcases h4 k hk with h5 | h5
    ·rw [AL.keys_set] at h5
     split at h5
     ·exact .inl h5
     ·rcases List.mem_append.1 h5 with h5 | h5
      ·exact .inl h5
      ·right
       rw [List.mem_singleton.1 h5,if_pos ⟨rfl,hg⟩];omega
    ·right;split <;> omega
  ·have e:uf m d = m:=by simp [uf,hg]
   rw [e];obtain ⟨h1,h2,h3,h4⟩:=ih m h;have e2:∀ k,ofV (d :: r) k = ofV r k:=fun k=>by simp only [ofV];rw [if_neg (fun hh=>hg hh.2)]
   exact ⟨h1,fun h0 k=>by rw [h2 h0,e2],by simp only [List.length_cons];omega,fun k hk=>by rw [e2];exact h4 k hk⟩
theorem un (v:List DT):((uS v).map (·.1)).Nodup:=(Qr v [] (by simp)).1
theorem vo (v:List DT) (k:Int):AL.getZ (uS v) k 0 = ofV v k:=by
 have:=(Qr v [] (by simp)).2.1 (fun _=>Int.le_refl _) k;have h2:=una v k;rw [uS,this];show max 0 (ofV v k) = _;omega
theorem Yz {v:List DT} {k n:Int} (h:(k,n) ∈ uS v):n = ofV v k /\ 0 < n:=by
 have h1:=AL.mem_get (un v) h;have h2:AL.getZ (uS v) k 0 = n:=by simp [AL.getZ,h1]
 rw [vo] at h2;have h3:=(Qr v [] (by simp)).2.2.2 k (List.mem_map.2 ⟨_,h,rfl⟩);simp at h3;omega
def yHa (h:Int × Int -> Int) (m:List (Int × Int)) (L:List Nat):List (Int × Int):=m.zipIdx.map fun y=>if y.2 ∈ L then (y.1.1,h y.1) else y.1
theorem ug {h:Int × Int -> Int} {m:List (Int × Int)} {L:List Nat} {i:Nat}:(yHa h m L)[i]? = (m[i]?).map fun e=>if i ∈ L then (e.1,h e) else e:=by
 unfold yHa;rw [List.getElem?_map,List.getElem?_zipIdx]
 cases m[i]? <;> simp
theorem Qs {h:Int × Int -> Int} {m:List (Int × Int)} {L:List Nat}:(yHa h m L).length = m.length:=by simp [yHa]
theorem set_at {m:List (Int × Int)} (hn:(m.map (·.1)).Nodup) {i:Nat} {e:Int × Int} (hi:m[i]? = some e) (v:Int):AL.set m e.1 v = m.set i (e.1,v):=by
 induction m generalizing i with
 | nil=>simp at hi
 | cons x r ih=>
  obtain ⟨a,u⟩:=x;simp only [List.map_cons,List.nodup_cons] at hn
  cases i with
  | zero=>simp at hi;subst hi;simp [AL.set]
  | succ i=>
   simp only [List.getElem?_cons_succ] at hi;have:a ≠ e.1:=fun he=>hn.1 (he ▸ List.mem_map.2 ⟨e,List.mem_of_getElem? hi,rfl⟩)
   simp only [AL.set,this,if_false,List.set_cons_succ];rw [ih hn.2 hi]
theorem JO {h:Int × Int -> Int} {m:List (Int × Int)} {L:List Nat}:(yHa h m L).map (·.1) = m.map (·.1):=by
 apply List.ext_getElem?;intro i;rw [List.getElem?_map,ug,List.getElem?_map]
 cases m[i]? with
 | none=>rfl
 | some e=>simp only [Option.map_some];split <;> rfl
def yta (a b:DT):Int:=if a = b then 0 else if zh a b then -1 else 1
theorem vZ (a b:DT):vK a b = pure (yta a b):=by
 unfold vK yta;have h1:(decide (a.dev = b.dev) && decide (a.n = b.n)) = decide (a = b):=by
  rw [Bool.eq_iff_iff];cases a;cases b;simp
 have h2:(cond (decide (a.dev < b.dev)) (pure true) (cond (decide (a.dev = b.dev)) (pure (decide (a.n < b.n))) (pure false)):M Bool) = pure (zh a b):=by
  rw [za,zla];rfl
 rw [h1,h2,vN,zA]
 split
 ·rfl
 ·cases zh a b <;> rfl
theorem Qt {a b:DT}:yta a b < 0 ↔ zh a b = true:=by
 unfold yta
 split
 ·rename_i h;subst h;simp [zh]
 ·split <;> simp_all
theorem cmpD_pos {a b:DT}:0 < yta a b ↔ zh b a = true:=by
 unfold yta
 by_cases h:a = b
 ·subst h;simp [zh]
 ·rw [if_neg h]
  cases a;cases b
  simp only [DT.mk.injEq] at h;simp only [zh,Bool.or_eq_true,Bool.and_eq_true,decide_eq_true_eq]
  split <;> omega
theorem UV (l:List DT) (d:DT) (h:l.length <= 1000000000000):Yc l d = pure ((l.filter fun x=>zh x d) ++ [d] ++ (l.filter fun x=>zh d x)):=by
 unfold Yc;have c0:∀ o:List DT,o.length <= 1000000000000 -> True:=fun _ _=>trivial
 have h1:=XO (body:=WI l d) l (fun i (o:List DT)=>((i:Int),o)) (fun o x=>if zh x d then o ++ [x] else o) (fun o=>pure o) (fun i o=>o.length <= i) (fun i x o hx hi ho=>by
  have h1:decide ((i:Int) < (l.length:Int)) = true:=by simpa using hi
  unfold WI;simp only [h1,cond_true,zN hx,zA,vZ,zB,yT (show i < 9223372036854775807 by omega),vN,Qt]
  split
  ·rw [zD (by simp;omega)];exact ⟨rfl,by simp;omega⟩
  ·exact ⟨rfl,by omega⟩) (fun o _=>by unfold WI;simp [zA]) [] (by simp)
 have h2:∀ o0:List DT,o0.length <= 1000000000001 -> loop (Zz l d) (0,o0) = pure (l.foldl (fun o x=>if zh d x then o ++ [x] else o) o0):=fun o0 ho0=>by
  have:=XO (body:=Zz l d) l (fun i (o:List DT)=>((i:Int),o)) (fun o x=>if zh d x then o ++ [x] else o) (fun o=>pure o) (fun i o=>o.length <= o0.length + i) (fun i x o hx hi ho=>by
   have h1:decide ((i:Int) < (l.length:Int)) = true:=by simpa using hi
   unfold Zz;simp only [h1,cond_true,zN hx,zA,vZ,zB,yT (show i < 9223372036854775807 by omega),vN,cmpD_pos]
   split
   ·rw [zD (by simp;omega)];exact ⟨rfl,by simp;omega⟩
   ·exact ⟨rfl,by omega⟩) (fun o _=>by unfold Zz;simp [zA]) o0 (by simp)
  exact this
 have hf:∀ (p:DT -> Bool) (l o:List DT),l.foldl (fun o x=>if p x then o ++ [x] else o) o = o ++ l.filter p:=by
  intro p l
  induction l with
  | nil=>simp
  | cons x r ih=>
   intro o;rw [List.foldl_cons,ih,List.filter_cons]
   split <;> simp
 rw [show ((0:Int),([]:List DT)) = (((0:Nat):Int),[]) from rfl,h1,hf,zA,zD,h2,hf,zA]
 ·rfl
 ·have:=List.length_filter_le (fun x=>zh x d) l;simp;omega
 ·have:=List.length_filter_le (fun x=>zh x d) l;simp;omega
def WZ (l:List Int):List DT:=l.map fun k=>⟨k,1⟩
theorem wUa {l:List Int} (h:l.Pairwise (· < ·)) (k:Int):((WZ l).filter fun x=>zh x ⟨k,1⟩) ++ [⟨k,1⟩] ++ ((WZ l).filter fun x=>zh ⟨k,1⟩ x) = WZ (Ju l k):=by
 induction l with
 | nil=>rfl
 | cons a r ih=>
  obtain ⟨h1,h2⟩:=List.pairwise_cons.1 h;have i2:=ih h2;unfold Ju
  by_cases c1:k < a
  ·rw [if_pos c1];have e1:(WZ (a :: r)).filter (fun x=>zh x ⟨k,1⟩) = []:=by
    rw [List.filter_eq_nil_iff];intro x hx;simp only [WZ,List.map_cons,List.mem_cons,List.mem_map] at hx;rcases hx with rfl | ⟨b,hb,rfl⟩
    ·simp [zh];omega
    ·have:=h1 b hb;simp [zh];omega
   have e2:(WZ (a :: r)).filter (fun x=>zh ⟨k,1⟩ x) = WZ (a :: r):=by
    rw [List.filter_eq_self];intro x hx;simp only [WZ,List.map_cons,List.mem_cons,List.mem_map] at hx;rcases hx with rfl | ⟨b,hb,rfl⟩
    ·simp [zh];omega
    ·have:=h1 b hb;simp [zh];omega
   rw [e1,e2];rfl
  ·rw [if_neg c1]
   by_cases c2:k = a
   ·subst c2;rw [if_pos rfl];have e1:(WZ (k :: r)).filter (fun x=>zh x ⟨k,1⟩) = []:=by
     rw [List.filter_eq_nil_iff];intro x hx;simp only [WZ,List.map_cons,List.mem_cons,List.mem_map] at hx;rcases hx with rfl | ⟨b,hb,rfl⟩
     ·simp [zh]
     ·have:=h1 b hb;simp [zh];omega
    have e2:(WZ (k :: r)).filter (fun x=>zh ⟨k,1⟩ x) = WZ r:=by
     show List.filter _ (⟨k,1⟩ :: WZ r) = _;rw [List.filter_cons,if_neg (by simp [zh]),List.filter_eq_self];intro x hx;simp only [WZ,List.mem_map] at hx;obtain ⟨b,hb,rfl⟩:=hx;have:=h1 b hb;simp [zh];omega
    rw [e1,e2];rfl
   ·rw [if_neg c2];show (List.filter _ (⟨a,1⟩ :: WZ r)) ++ _ ++ (List.filter _ (⟨a,1⟩ :: WZ r)) = ⟨a,1⟩ :: WZ (Ju r k);rw [List.filter_cons,if_pos (by simp [zh];omega),List.filter_cons,if_neg (by simp [zh];omega),<- i2]
    rfl
end Go.Ep.M.V

namespace Go.Ep.M.R
open Go

def XE (x:RN):Bool:=decide (1 <= x.lo) && (decide (x.lo <= x.hi) && decide (x.hi <= 281474976710655))
theorem zi {x:RN}:XE x = true ↔ 1 <= x.lo /\ x.lo <= x.hi /\ x.hi <= 281474976710655:=by simp [XE]
def inR (n:Int) (x:RN):Bool:=XE x && (decide (x.lo <= n) && decide (n <= x.hi))
theorem xA {n:Int} {x:RN}:inR n x = true ↔ (1 <= x.lo /\ x.lo <= x.hi /\ x.hi <= 281474976710655) /\ x.lo <= n /\ n <= x.hi:=by simp [inR,XE]
def yM (l:List RN) (n:Int):Bool:=l.any (inR n)
theorem wh {l:List RN} {n:Int}:yM l n = true ↔ ∃ x ∈ l,XE x = true /\ x.lo <= n /\ n <= x.hi:=by
 unfold yM;rw [List.any_eq_true];simp [inR]
@[simp] theorem Qu (n:Int):yM [] n = false:=rfl
theorem xl (x:RN) (l:List RN) (n:Int):yM (x :: l) n = (inR n x || yM l n):=rfl
theorem uh (a b:List RN) (n:Int):yM (a ++ b) n = (yM a n || yM b n):=by simp [yM]
theorem vp (x:RN) (n:Int):yM [x] n = inR n x:=by simp [yM]
theorem uoa {a b:List RN} (h:a.Perm b) (n:Int):yM a n = yM b n:=by
 rw [Bool.eq_iff_iff,wh,wh];simp only [h.mem_iff]
theorem xYa (l:List RN) (n:Int):yM (l.filter XE) n = yM l n:=by
 rw [Bool.eq_iff_iff,wh,wh];simp only [List.mem_filter];exact ⟨fun ⟨x,⟨h1,_⟩,h3⟩=>⟨x,h1,h3⟩,fun ⟨x,h1,h2,h3⟩=>⟨x,⟨h1,h2⟩,h2,h3⟩⟩
theorem qg {l:List RN} {n:Int} (h:yM l n = true):1 <= n /\ n <= 281474976710655:=by
 obtain ⟨x,_,h2,h3,h4⟩:=wh.1 h;have:=zi.1 h2;omega

def Nf : List RN -> Prop
 | []=>True
 | x :: r=>XE x = true /\ (∀ y ∈ r,x.hi + 1 < y.lo) /\ Nf r
theorem Nf.may {l:List RN} (h:Nf l):∀ x ∈ l,XE x = true:=by
 induction l with
 | nil=>simp
 | cons y r ih=>
  intro x hx;rcases List.mem_cons.1 hx with rfl | hx
  ·exact h.1
  ·exact ih h.2.2 x hx
theorem XA {l:List RN} {z:RN}:Nf (l ++ [z]) ↔ Nf l /\ XE z = true /\ ∀ p ∈ l,p.hi + 1 < z.lo:=by
 induction l with
 | nil=>simp [Nf]
 | cons x r ih=>
  simp only [List.cons_append,Nf,ih,List.mem_append,List.mem_cons,List.not_mem_nil,or_false]
  constructor
  ·rintro ⟨h1,h2,h3,h4,h5⟩;refine ⟨⟨h1,fun y hy=>h2 y (.inl hy),h3⟩,h4,fun p hp=>?_⟩;rcases hp with rfl | hp
   ·exact h2 z (.inr rfl)
   ·exact h5 p hp
  ·rintro ⟨⟨h1,h2,h3⟩,h4,h5⟩;refine ⟨h1,fun y hy=>?_,h3,h4,fun p hp=>h5 p (.inr hp)⟩;rcases hy with hy | rfl
   ·exact h2 y hy
   ·exact h5 x (.inl rfl)
theorem JP {x:RN} {r:List RN} (h:Nf (x :: r)) {n:Int} (hn:yM r n = true):x.hi + 1 < n:=by
 obtain ⟨y,h1,_,h3,_⟩:=wh.1 hn;have:=h.2.1 y h1;omega
theorem Qv {x:RN} {r:List RN} (h:Nf (x :: r)):yM (x :: r) x.lo = true:=by
 rw [xl];have:=zi.1 h.1;rw [Bool.or_eq_true];exact .inl (xA.2 ⟨this,by omega,by omega⟩)
theorem Qw {x:RN} {r:List RN} (h:Nf (x :: r)) {n:Int} (hn:yM (x :: r) n = true):x.lo <= n:=by
 rw [xl,Bool.or_eq_true] at hn;rcases hn with hn | hn
 ·exact (xA.1 hn).2.1
 ·have:=JP h hn;have:=zi.1 h.1;omega
theorem xZa {x:RN} {r:List RN} (h:Nf (x :: r)) {n:Int} (h1:x.lo <= n):yM (x :: r) n = true ↔ n <= x.hi \/ yM r n = true:=by
 rw [xl,Bool.or_eq_true,xA];have:=zi.1 h.1
 constructor
 ·rintro (h2 | h2)
  ·exact .inl h2.2.2
  ·exact .inr h2
 ·rintro (h2 | h2)
  ·exact .inl ⟨this,h1,h2⟩
  ·exact .inr h2
theorem Vo : ∀ {a b:List RN},Nf a -> Nf b -> (∀ n,yM a n = yM b n) -> a = b
 | [],[],_,_,_=>rfl
 | [],y :: s,_,hb,h=>by have:=h y.lo;rw [Qv hb] at this;simp at this
 | x :: r,[],ha,_,h=>by have:=h x.lo;rw [Qv ha] at this;simp at this
 | x :: r,y :: s,ha,hb,h=>by
  have h1:x.lo = y.lo:=by
   have h2:=Qw hb (by rw [<- h];exact Qv ha);have h3:=Qw ha (by rw [h];exact Qv hb);omega
  have hx:=zi.1 ha.1;have hy:=zi.1 hb.1;have hle:∀ {x y:RN} {r s:List RN},Nf (x :: r) -> Nf (y :: s) -> (∀ n,yM (x :: r) n = yM (y :: s) n) -> x.lo = y.lo -> y.hi <= x.hi:=by
   intro x y r s ha hb h h1;have hx:=zi.1 ha.1;refine Classical.byContradiction fun hc=>?_
   have h2:yM (y :: s) (x.hi + 1) = true:=(xZa hb (by omega)).2 (.inl (by omega));rw [<- h,xZa ha (by omega)] at h2;rcases h2 with h2 | h2
   ·omega
   ·have:=JP ha h2;omega
  have h2:x.hi = y.hi:=by
   have:=hle ha hb h h1;have:=hle hb ha (fun n=>(h n).symm) h1.symm;omega
  have he:x = y:=by cases x;cases y;simp_all
  subst he;rw [Vo ha.2.2 hb.2.2 fun n=>?_];rw [Bool.eq_iff_iff];have h3:=h n
  constructor
  ·intro hn;have:=JP ha hn;have h4:yM (x :: r) n = true:=(xZa ha (by omega)).2 (.inr hn);rw [h3,xZa hb (by omega)] at h4;rcases h4 with h4 | h4
   ·omega
   ·exact h4
  ·intro hn;have:=JP hb hn;have h4:yM (x :: s) n = true:=(xZa hb (by omega)).2 (.inr hn);rw [<- h3,xZa ha (by omega)] at h4;rcases h4 with h4 | h4
   ·omega
   ·exact h4

def Vp (n:Int) (s:Bool × List Int) (x:Int):Bool × List Int:=
 let t:=if s.1 = false /\ n <= x then (true,s.2 ++ [n]) else s
 if x = n then t else (t.1,t.2 ++ [x])
def putP (l:List Int) (n:Int):List Int:=let t:=l.foldl (Vp n) (false,[]);if t.1 then t.2 else t.2 ++ [n]
abbrev Up (l:List Int):Prop:=l.Pairwise (· < ·)
theorem JQ {l:List Int} {z:Int}:Up (l ++ [z]) ↔ Up l /\ ∀ p ∈ l,p < z:=by
 unfold Up;rw [List.pairwise_append];simp
theorem Vq (n:Int):∀ (l:List Int) (s:Bool × List Int),Up l -> Up s.2 -> (∀ p ∈ s.2,∀ x ∈ l,p < x \/ (p = n /\ s.1 = true /\ p <= x)) -> (s.1 = true -> n ∈ s.2) -> (s.1 = false -> ∀ p ∈ s.2,p < n) ->
  Up (l.foldl (Vp n) s).2 /\ (∀ m,m ∈ (l.foldl (Vp n) s).2 ↔ m ∈ s.2 \/ (m ∈ l /\ m ≠ n) \/ (m = n /\ (l.foldl (Vp n) s).1 = true)) /\ ((l.foldl (Vp n) s).1 = false -> ∀ p ∈ (l.foldl (Vp n) s).2,p < n) /\ (l.foldl (Vp n) s).2.length <= s.2.length + l.length + (if s.1 then 0 else 1) /\ ((l.foldl (Vp n) s).1 = false -> (l.foldl (Vp n) s).2.length <= s.2.length + l.length)
 | [],s,_,hs,_,h2,h3=>by
  refine ⟨hs,fun m=>?_,h3,by simp,by simp⟩;simp only [List.foldl_nil,List.not_mem_nil,false_and,false_or];exact ⟨fun h=>.inl h,fun h=>h.elim id fun ⟨e,h⟩=>e ▸ h2 h⟩
 | x :: r,(d,out),hl,hs,h1,h2,h3=>by
  rw [List.foldl_cons];have hl':=List.pairwise_cons.1 hl;simp only at hs h1 h2 h3
  by_cases hc:d = false /\ n <= x
  ·obtain ⟨rfl,hnx⟩:=hc
   by_cases hx:x = n
   ·have e:Vp n (false,out) x = (true,out ++ [n]):=by simp [Vp,hx]
    rw [e];obtain ⟨i1,i2,i3,i4,i5⟩:=Vq n r (true,out ++ [n]) hl'.2 (JQ.2 ⟨hs,h3 rfl⟩) (fun p hp y hy=>by
     have:=hl'.1 y hy;rcases List.mem_append.1 hp with hp | hp
     ·have:=h3 rfl p hp;left;omega
     ·simp at hp;left;omega) (fun _=>by simp) (fun h=>by cases h)
    refine ⟨i1,fun m=>?_,i3,?_,?_⟩
    ·rw [i2];simp only [List.mem_append,List.mem_cons,List.not_mem_nil,or_false]
     constructor
     ·rintro ((h | h) | h | h)
      ·exact .inl h
      ·refine .inr (.inr ⟨h,?_⟩)
       cases hb:(r.foldl (Vp n) (true,out ++ [n])).1 with
       | true=>rfl
       | false=>have:=i3 hb n ((i2 n).2 (.inl (by simp)));omega
      ·exact .inr (.inl ⟨.inr h.1,h.2⟩)
      ·exact .inr (.inr h)
     ·rintro (h | ⟨h | h,h'⟩ | h)
      ·exact .inl (.inl h)
      ·exact absurd (h.trans hx) h'
      ·exact .inr (.inl ⟨h,h'⟩)
      ·exact .inr (.inr h)
    ·simp at i4 ⊢;omega
    ·intro hf;have:=i5 hf;simp at this ⊢;omega
   ·have e:Vp n (false,out) x = (true,out ++ [n] ++ [x]):=by simp [Vp,hx,hnx]
    rw [e];obtain ⟨i1,i2,i3,i4,i5⟩:=Vq n r (true,out ++ [n] ++ [x]) hl'.2 (JQ.2 ⟨JQ.2 ⟨hs,h3 rfl⟩,fun p hp=>by
     rcases List.mem_append.1 hp with hp | hp
     ·have:=h3 rfl p hp;omega
     ·simp at hp;omega⟩) (fun p hp y hy=>by
     have:=hl'.1 y hy;simp only [List.mem_append,List.mem_singleton] at hp;rcases hp with (hp | hp) | hp
     ·have:=h3 rfl p hp;left;omega
     ·left;omega
     ·left;omega) (fun _=>by simp) (fun h=>by cases h)
    refine ⟨i1,fun m=>?_,i3,?_,?_⟩
    ·rw [i2];simp only [List.mem_append,List.mem_cons,List.not_mem_nil,or_false]
     constructor
     ·rintro (((h | h) | h) | h | h)
      ·exact .inl h
      ·refine .inr (.inr ⟨h,?_⟩)
       cases hb:(r.foldl (Vp n) (true,out ++ [n] ++ [x])).1 with
       | true=>rfl
       | false=>have:=i3 hb n ((i2 n).2 (.inl (by simp)));omega
      ·exact .inr (.inl ⟨.inl h,fun e=>hx (h.symm.trans e)⟩)
      ·exact .inr (.inl ⟨.inr h.1,h.2⟩)
      ·exact .inr (.inr h)
     ·rintro (h | ⟨h | h,h'⟩ | h)
      ·exact .inl (.inl (.inl h))
      ·exact .inl (.inr h)
      ·exact .inr (.inl ⟨h,h'⟩)
      ·exact .inr (.inr h)
    ·simp at i4 ⊢;omega
    ·intro hf;have:=i5 hf;simp at this ⊢;exfalso;have:=i3 hf n ((i2 n).2 (.inl (by simp)));omega
  ·by_cases hx:x = n
   ·have hd:d = true:=by cases d with | true=>rfl | false=>exact absurd ⟨rfl,by omega⟩ hc
    subst hd;have e:Vp n (true,out) x = (true,out):=by simp [Vp,hx]
    rw [e];obtain ⟨i1,i2,i3,i4,i5⟩:=Vq n r (true,out) hl'.2 hs (fun p hp y hy=>h1 p hp y (List.mem_cons_of_mem _ hy)) h2 h3;refine ⟨i1,fun m=>?_,i3,?_,?_⟩
    ·rw [i2];simp only [List.mem_cons]
     constructor
     ·rintro (h | h | h)
      ·exact .inl h
      ·exact .inr (.inl ⟨.inr h.1,h.2⟩)
      ·exact .inr (.inr h)
     ·rintro (h | ⟨h | h,h'⟩ | h)
      ·exact .inl h
      ·exact absurd (h.trans hx) h'
      ·exact .inr (.inl ⟨h,h'⟩)
      ·exact .inr (.inr h)
    ·simp at i4 ⊢;omega
    ·intro hf;have:=i5 hf;simp at this ⊢;omega
   ·have e:Vp n (d,out) x = (d,out ++ [x]):=by
     unfold Vp;simp only [hc,if_false,hx]
    rw [e];have hlt:d = false -> x < n:=fun h=>by
     have:¬ n <= x:=fun h'=>hc ⟨h,h'⟩
     omega
    obtain ⟨i1,i2,i3,i4,i5⟩:=Vq n r (d,out ++ [x]) hl'.2 (JQ.2 ⟨hs,fun p hp=>by
     rcases h1 p hp x (by simp) with h | h
     ·exact h
     ·omega⟩) (fun p hp y hy=>by
     rcases List.mem_append.1 hp with hp | hp
     ·exact h1 p hp y (List.mem_cons_of_mem _ hy)
     ·simp at hp;have:=hl'.1 y hy;left;omega) (fun h=>List.mem_append_left _ (h2 h)) (fun h p hp=>by
     rcases List.mem_append.1 hp with hp | hp
     ·exact h3 h p hp
     ·simp at hp;rw [hp];exact hlt h)
    refine ⟨i1,fun m=>?_,i3,?_,?_⟩
    ·rw [i2];simp only [List.mem_append,List.mem_cons,List.not_mem_nil,or_false]
     constructor
     ·rintro ((h | h) | h | h)
      ·exact .inl h
      ·exact .inr (.inl ⟨.inl h,fun e=>hx (h.symm.trans e)⟩)
      ·exact .inr (.inl ⟨.inr h.1,h.2⟩)
      ·exact .inr (.inr h)
     ·rintro (h | ⟨h | h,h'⟩ | h)
      ·exact .inl (.inl h)
      ·exact .inl (.inr h)
      ·exact .inr (.inl ⟨h,h'⟩)
      ·exact .inr (.inr h)
    ·simp at i4 ⊢;omega
    ·intro hf;have:=i5 hf;simp at this ⊢;omega
theorem UW {l:List Int} (h:Up l) (n:Int):Up (putP l n) /\ (∀ m,m ∈ putP l n ↔ m ∈ l \/ m = n) /\ (putP l n).length <= l.length + 1:=by
 obtain ⟨i1,i2,i3,i4,i5⟩:=Vq n l (false,[]) h (by simp [Up]) (by simp) (by simp) (by simp);unfold putP;simp only
 cases hb:(l.foldl (Vp n) (false,[])).1 with
 | true=>
  simp only [if_true];refine ⟨i1,fun m=>?_,by simpa using i4⟩;rw [i2,hb];simp only [List.not_mem_nil,false_or,and_true]
  constructor
  ·rintro (h | h)
   ·exact .inl h.1
   ·exact .inr h
  ·rintro (h | h)
   ·by_cases e:m = n
    ·exact .inr e
    ·exact .inl ⟨h,e⟩
   ·exact .inr h
 | false=>
  have:=i5 hb;rw [if_neg (by simp)];refine ⟨JQ.2 ⟨i1,i3 hb⟩,fun m=>?_,by simp at this ⊢;omega⟩;simp only [List.mem_append,List.mem_singleton,i2,hb,List.not_mem_nil,false_or]
  constructor
  ·rintro ((h | h) | h)
   ·exact .inl h.1
   ·cases h.2
   ·exact .inr h
  ·rintro (h | h)
   ·by_cases e:m = n
    ·exact .inr e
    ·exact .inl (.inl ⟨h,e⟩)
   ·exact .inr h
def ptS (out:List Int) (x:RN):List Int:=if XE x then putP (putP out x.lo) (x.hi + 1) else out
def Qy (l:List RN):List Int:=l.foldl ptS []
theorem Qz : ∀ (l:List RN) (out:List Int),Up out -> Up (l.foldl ptS out) /\ (∀ m,m ∈ l.foldl ptS out ↔ m ∈ out \/ ∃ x ∈ l,XE x = true /\ (m = x.lo \/ m = x.hi + 1)) /\ (l.foldl ptS out).length <= out.length + 2 * l.length
 | [],out,h=>⟨h,fun m=>by simp,by simp⟩
 | x :: r,out,h=>by
  rw [List.foldl_cons];obtain ⟨j1,j2,j3⟩:=UW h x.lo;obtain ⟨k1,k2,k3⟩:=UW j1 (x.hi + 1)
  by_cases hm:XE x = true
  ·have e:ptS out x = putP (putP out x.lo) (x.hi + 1):=by simp [ptS,hm]
   rw [e];obtain ⟨i1,i2,i3⟩:=Qz r _ k1;refine ⟨i1,fun m=>?_,by simp;omega⟩;rw [i2,k2,j2]
   constructor
   ·rintro (((h | h) | h) | ⟨y,h1,h2⟩)
    ·exact .inl h
    ·exact .inr ⟨x,by simp,hm,.inl h⟩
    ·exact .inr ⟨x,by simp,hm,.inr h⟩
    ·exact .inr ⟨y,by simp [h1],h2⟩
   ·rintro (h | ⟨y,h1,h2,h3⟩)
    ·exact .inl (.inl (.inl h))
    ·rcases List.mem_cons.1 h1 with rfl | h1
     ·rcases h3 with h3 | h3
      ·exact .inl (.inl (.inr h3))
      ·exact .inl (.inr h3)
     ·exact .inr ⟨y,h1,h2,h3⟩
  ·have e:ptS out x = out:=by simp [ptS,hm]
   rw [e];obtain ⟨i1,i2,i3⟩:=Qz r _ h;refine ⟨i1,fun m=>?_,by simp;omega⟩;rw [i2]
   constructor
   ·rintro (h | ⟨y,h1,h2⟩)
    ·exact .inl h
    ·exact .inr ⟨y,by simp [h1],h2⟩
   ·rintro (h | ⟨y,h1,h2,h3⟩)
    ·exact .inl h
    ·rcases List.mem_cons.1 h1 with rfl | h1
     ·exact absurd h2 hm
     ·exact .inr ⟨y,h1,h2,h3⟩
theorem qh (l:List RN):Up (Qy l) /\ (∀ m,m ∈ Qy l ↔ ∃ x ∈ l,XE x = true /\ (m = x.lo \/ m = x.hi + 1)) /\ (Qy l).length <= 2 * l.length:=by
 obtain ⟨h1,h2,h3⟩:=Qz l [] (by simp [Up]);exact ⟨h1,fun m=>by rw [Qy,h2];simp,by simpa [Qy] using h3⟩

def wVa (out:List RN) (p:Int) (z:RN -> RN) (x:RN):List RN:=match out.getLast? with
 | some y=>if y.hi + 1 = p then out.dropLast ++ [z y] else out ++ [x]
 | none=>out ++ [x]
def wWa (op:Bool -> Bool -> Bool) (a b:List RN) (out:List RN) (pq:Int × Int):List RN:=
 if op (yM a pq.1) (yM b pq.1) then wVa out pq.1 (fun y=>⟨y.lo,pq.2 - 1⟩) ⟨pq.1,pq.2 - 1⟩ else out
def xz (l:List Int):List (Int × Int):=l.zip l.tail
def Zl (op:Bool -> Bool -> Bool) (a b:List RN):List RN:=(xz (Qy (a ++ b))).foldl (wWa op a b) []

theorem vca (p:Int) (z:RN -> RN) (x:RN):wVa [] p z x = [x]:=rfl
theorem JR (l:List RN) (y:RN) (p:Int) (z:RN -> RN) (x:RN):wVa (l ++ [y]) p z x = if y.hi + 1 = p then l ++ [z y] else l ++ [y] ++ [x]:=by simp [wVa]
theorem yl {α:Type} (l:List α):l = [] \/ ∃ r y,l = r ++ [y]:=by
 rcases List.eq_nil_or_concat l with h | ⟨r,y,h⟩
 ·exact .inl h
 ·exact .inr ⟨r,y,by simpa using h⟩

theorem zAa (op:Bool -> Bool -> Bool) (a b:List RN):∀ (P:List Int) (p:Int) (out:List RN),Up (p :: P) -> (∀ q ∈ p :: P,1 <= q /\ q <= 281474976710656) -> Nf out -> (∀ y ∈ out,y.hi < p) ->
  Nf ((xz (p :: P)).foldl (wWa op a b) out) /\ (∀ n,yM ((xz (p :: P)).foldl (wWa op a b) out) n = true ↔ yM out n = true \/ ∃ pq ∈ xz (p :: P),pq.1 <= n /\ n < pq.2 /\ op (yM a pq.1) (yM b pq.1) = true) /\ ((xz (p :: P)).foldl (wWa op a b) out).length <= out.length + P.length
 | [],p,out,_,_,h,_=>by simp [xz,h]
 | q :: P,p,out,hu,hr,h,hy=>by
  have e:xz (p :: q :: P) = (p,q) :: xz (q :: P):=rfl;rw [e,List.foldl_cons];have hu':=List.pairwise_cons.1 hu;have hpq:p < q:=hu'.1 q (by simp);have hp:=hr p (by simp);have hq:=hr q (by simp);have step:Nf (wWa op a b out (p,q)) /\ (∀ n,yM (wWa op a b out (p,q)) n = true ↔ yM out n = true \/ (p <= n /\ n < q /\ op (yM a p) (yM b p) = true)) /\ (∀ y ∈ wWa op a b out (p,q),y.hi < q) /\ (wWa op a b out (p,q)).length <= out.length + 1:=by
   unfold wWa;simp only
   by_cases hop:op (yM a p) (yM b p) = true
   ·rw [if_pos hop];rcases yl out with rfl | ⟨l,y,rfl⟩
    ·rw [vca];have hm:XE (⟨p,q - 1⟩:RN) = true:=zi.2 ⟨hp.1,by simp only;omega,by simp only;omega⟩;refine ⟨⟨hm,by simp,trivial⟩,fun n=>?_,fun y hy=>?_,by simp⟩
     ·rw [vp,xA];have:=zi.1 hm;simp only at this ⊢;simp only [Qu,Bool.false_eq_true,false_or,hop,and_true];omega
     ·simp at hy;subst hy;simp only;omega
    ·rw [JR];obtain ⟨n1,n2,n3⟩:=XA.1 h;have hym:=zi.1 n2;have hyp:=hy y (by simp)
     by_cases hadj:y.hi + 1 = p
     ·rw [if_pos hadj];have hm:XE (⟨y.lo,q - 1⟩:RN) = true:=zi.2 ⟨hym.1,by simp only;omega,by simp only;omega⟩;refine ⟨XA.2 ⟨n1,hm,n3⟩,fun n=>?_,fun z hz=>?_,by simp⟩
      ·rw [uh,uh,vp,vp,Bool.or_eq_true,Bool.or_eq_true,xA,xA];have:=zi.1 hm;simp only at this ⊢;simp only [hop,and_true]
       constructor
       ·rintro (h | h)
        ·exact .inl (.inl h)
        ·by_cases hc:n <= y.hi
         ·exact .inl (.inr ⟨hym,h.2.1,hc⟩)
         ·right;omega
       ·rintro ((h | h) | h)
        ·exact .inl h
        ·right;omega
        ·right;omega
      ·rcases List.mem_append.1 hz with hz | hz
       ·have:=hy z (by simp [hz]);omega
       ·simp at hz;subst hz;simp only;omega
     ·rw [if_neg hadj];have hm:XE (⟨p,q - 1⟩:RN) = true:=zi.2 ⟨hp.1,by simp only;omega,by simp only;omega⟩;refine ⟨XA.2 ⟨h,hm,fun z hz=>?_⟩,fun n=>?_,fun z hz=>?_,by simp⟩
      ·simp only;rcases List.mem_append.1 hz with hz | hz
       ·have:=n3 z hz;omega
       ·simp at hz;subst hz;omega
      ·rw [uh (l ++ [y]),vp,Bool.or_eq_true,xA];have:=zi.1 hm;simp only at this ⊢;simp only [hop,and_true]
       constructor
       ·rintro (h | h)
        ·exact .inl h
        ·right;omega
       ·rintro (h | h)
        ·exact .inl h
        ·right;omega
      ·rcases List.mem_append.1 hz with hz | hz
       ·have:=hy z hz;omega
       ·simp at hz;subst hz;simp only;omega
   ·rw [if_neg hop];refine ⟨h,fun n=>?_,fun y hy'=>by have:=hy y hy';omega,by omega⟩;exact ⟨fun h=>.inl h,fun h=>h.elim id fun h=>absurd h.2.2 hop⟩
  obtain ⟨s1,s2,s3,s4⟩:=step;obtain ⟨i1,i2,i3⟩:=zAa op a b P q _ hu'.2 (fun z hz=>hr z (List.mem_cons_of_mem _ hz)) s1 s3;refine ⟨i1,fun n=>?_,by simp;omega⟩;rw [i2,s2];simp only [List.mem_cons,exists_eq_or_imp]
  constructor
  ·rintro ((h | h) | h)
   ·exact .inl h
   ·exact .inr (.inl h)
   ·exact .inr (.inr h)
  ·rintro (h | h | h)
   ·exact .inl (.inl h)
   ·exact .inl (.inr h)
   ·exact .inr h

theorem UX : ∀ {P:List Int},Up P -> ∀ pq ∈ xz P,pq.1 ∈ P /\ pq.2 ∈ P /\ pq.1 < pq.2 /\ ∀ m ∈ P,m <= pq.1 \/ pq.2 <= m
 | [],_,pq,h=>by simp [xz] at h
 | [p],_,pq,h=>by simp [xz] at h
 | p :: q :: P,hu,pq,h=>by
  have e:xz (p :: q :: P) = (p,q) :: xz (q :: P):=rfl;rw [e] at h;have hu':=List.pairwise_cons.1 hu;rcases List.mem_cons.1 h with rfl | h
  ·refine ⟨by simp,by simp,hu'.1 q (by simp),fun m hm=>?_⟩;rcases List.mem_cons.1 hm with rfl | hm
   ·simp
   ·right
    rcases List.mem_cons.1 hm with rfl | hm
    ·simp
    ·have:=(List.pairwise_cons.1 hu'.2).1 m hm;simp only;omega
  ·obtain ⟨h1,h2,h3,h4⟩:=UX hu'.2 pq h;refine ⟨List.mem_cons_of_mem _ h1,List.mem_cons_of_mem _ h2,h3,fun m hm=>?_⟩;rcases List.mem_cons.1 hm with rfl | hm
   ·left;have:=hu'.1 _ h1;omega
   ·exact h4 m hm
theorem qi : ∀ {P:List Int},Up P -> ∀ {u v n:Int},u ∈ P -> v ∈ P -> u <= n -> n < v -> ∃ pq ∈ xz P,pq.1 <= n /\ n < pq.2
 | [],_,_,_,_,h,_,_,_=>by simp at h
 | [p],_,u,v,n,h1,h2,h3,h4=>by simp at h1 h2;omega
 | p :: q :: P,hu,u,v,n,h1,h2,h3,h4=>by
  have e:xz (p :: q :: P) = (p,q) :: xz (q :: P):=rfl;have hu':=List.pairwise_cons.1 hu
  by_cases hc:n < q
  ·refine ⟨(p,q),by rw [e];simp,?_,hc⟩;rcases List.mem_cons.1 h1 with rfl | h1
   ·exact h3
   ·have:q <= u:=by
     rcases List.mem_cons.1 h1 with rfl | h1
     ·omega
     ·have:=(List.pairwise_cons.1 hu'.2).1 u h1;omega
    simp only;omega
  ·have hv:v ∈ q :: P:=by
    rcases List.mem_cons.1 h2 with rfl | h2
    ·have:=hu'.1 q (by simp);omega
    ·exact h2
   obtain ⟨pq,h5,h6⟩:=qi hu'.2 (u:=q) (by simp) hv (by omega) h4;exact ⟨pq,by rw [e];exact List.mem_cons_of_mem _ h5,h6⟩
theorem upa (P:List Int):(xz P).length = P.length - 1:=by simp [xz]

theorem XB {l:List RN} {P:List Int} (hP:∀ x ∈ l,XE x = true -> x.lo ∈ P /\ x.hi + 1 ∈ P) {p q n:Int} (h1:∀ m ∈ P,m <= p \/ q <= m) (h2:p <= n) (h3:n < q):yM l n = yM l p:=by
 rw [Bool.eq_iff_iff,wh,wh]
 constructor
 ·rintro ⟨x,hx,hm,h4,h5⟩;obtain ⟨h6,h7⟩:=hP x hx hm;have:=h1 _ h6;have:=h1 _ h7;exact ⟨x,hx,hm,by omega,by omega⟩
 ·rintro ⟨x,hx,hm,h4,h5⟩;obtain ⟨h6,h7⟩:=hP x hx hm;have:=h1 _ h6;have:=h1 _ h7;exact ⟨x,hx,hm,by omega,by omega⟩
theorem zq (op:Bool -> Bool -> Bool) (h0:op false false = false) (a b:List RN):Nf (Zl op a b) /\ (∀ n,yM (Zl op a b) n = op (yM a n) (yM b n)) /\ (Zl op a b).length <= 2 * (a.length + b.length):=by
 obtain ⟨p1,p2,p3⟩:=qh (a ++ b);have hrange:∀ q ∈ Qy (a ++ b),1 <= q /\ q <= 281474976710656:=fun q hq=>by
  obtain ⟨x,_,h2,h3⟩:=(p2 q).1 hq;have:=zi.1 h2;omega
 have main:Nf (Zl op a b) /\ (∀ n,yM (Zl op a b) n = true ↔ ∃ pq ∈ xz (Qy (a ++ b)),pq.1 <= n /\ n < pq.2 /\ op (yM a pq.1) (yM b pq.1) = true) /\ (Zl op a b).length <= (Qy (a ++ b)).length:=by
  unfold Zl
  generalize hP:Qy (a ++ b) = P at p1 hrange
  cases P with
  | nil=>simp [xz,Nf]
  | cons p P=>
   obtain ⟨i1,i2,i3⟩:=zAa op a b P p [] p1 hrange trivial (by simp);exact ⟨i1,fun n=>by rw [i2];simp,by simp at i3 ⊢;omega⟩
 obtain ⟨m1,m2,m3⟩:=main;refine ⟨m1,fun n=>?_,by simp at p3;omega⟩;have hPa:∀ x ∈ a,XE x = true -> x.lo ∈ Qy (a ++ b) /\ x.hi + 1 ∈ Qy (a ++ b):=fun x hx hm=>⟨(p2 _).2 ⟨x,by simp [hx],hm,.inl rfl⟩,(p2 _).2 ⟨x,by simp [hx],hm,.inr rfl⟩⟩
 have hPb:∀ x ∈ b,XE x = true -> x.lo ∈ Qy (a ++ b) /\ x.hi + 1 ∈ Qy (a ++ b):=fun x hx hm=>⟨(p2 _).2 ⟨x,by simp [hx],hm,.inl rfl⟩,(p2 _).2 ⟨x,by simp [hx],hm,.inr rfl⟩⟩
 rw [Bool.eq_iff_iff,m2]
 constructor
 ·rintro ⟨pq,h1,h2,h3,h4⟩;obtain ⟨_,_,_,h5⟩:=UX p1 pq h1
  rwa [XB hPa h5 h2 h3,XB hPb h5 h2 h3]
 ·intro h;have hex:∃ u ∈ Qy (a ++ b),∃ v ∈ Qy (a ++ b),u <= n /\ n < v:=by
   cases ha:yM a n with
   | true=>
    obtain ⟨x,h1,h2,h3,h4⟩:=wh.1 ha;exact ⟨_,(hPa x h1 h2).1,_,(hPa x h1 h2).2,h3,by omega⟩
   | false=>
    cases hb:yM b n with
    | true=>
     obtain ⟨x,h1,h2,h3,h4⟩:=wh.1 hb;exact ⟨_,(hPb x h1 h2).1,_,(hPb x h1 h2).2,h3,by omega⟩
    | false=>rw [ha,hb,h0] at h;cases h
  obtain ⟨u,hu,v,hv,h1,h2⟩:=hex;obtain ⟨pq,h3,h4,h5⟩:=qi p1 hu hv h1 h2;obtain ⟨_,_,_,h6⟩:=UX p1 pq h3;exact ⟨pq,h3,h4,h5,by rwa [<- XB hPa h6 h4 h5,<- XB hPb h6 h4 h5]⟩

def nrm (l:List RN):List RN:=Zl (· || ·) l []
theorem YJ (l:List RN):Nf (nrm l):=(zq _ rfl l []).1
theorem wq (l:List RN) (n:Int):yM (nrm l) n = yM l n:=by rw [nrm,(zq _ rfl l []).2.1];simp
theorem va (l:List RN):(nrm l).length <= 2 * l.length:=by
 have:=(zq (· || ·) rfl l []).2.2;rw [List.length_nil,Nat.add_zero] at this;exact this
theorem nrm_of {l r:List RN} (h:Nf r) (h2:∀ n,yM r n = yM l n):r = nrm l:=Vo h (YJ l) fun n=>by rw [h2,wq]
theorem zBa {l:List RN} (h:Nf l):nrm l = l:=(nrm_of h fun _=>rfl).symm


theorem uqa (x y:RN):(decide (x.lo = y.lo) && decide (x.hi = y.hi)) = decide (x = y):=by
 rw [Bool.eq_iff_iff]
 cases x;cases y
 simp
theorem eqLoop {body:Int -> M (Step Int (Ex Unit Bool))} (a b:List RN) (hl:a.length = b.length) (hn:a.length <= 1000000000000)
  (hb:∀ i:Int,body i = cond (decide (i < (a.length:Int))) (M.bind (M.idx a i) fun x=>M.bind (M.idx b i) fun y=>cond (!(decide (x.lo = y.lo) && decide (x.hi = y.hi))) (M.pure (.done (.ret false))) (M.pure (.next (IntKind.i64.wrap (i + 1))))) (M.pure (.done (.brk ())))) :
  M.bind (M.loop body 0) (M.exk fun _=>M.pure true) = pure (decide (a = b)):=by
 have:=xS (body:=body) a (fun i=>(i:Int)) (fun i x=>decide (b[i]? = some x)) (.brk ()) (.ret false) (fun i x hx hi=>by
  have hb':i < b.length:=by omega
  rw [hb,zN hx,zN (List.getElem?_eq_getElem hb'),yT (by omega)];simp only [zA,List.getElem?_eq_getElem hb',Option.some.injEq,uqa];have:decide ((i:Int) < (a.length:Int)) = true:=by simpa using hi
  rw [this,cond_true]
  by_cases he:b[i] = x
  ·subst he;simp
  ·rw [if_neg (by simpa using he)];have:decide (x = b[i]) = false:=by simpa using fun h=>he h.symm
   rw [this];rfl) (by rw [hb];simp)
 rw [show (0:Int) = ((0:Nat):Int) from rfl,this]
 by_cases he:a = b
 ·subst he;rw [if_pos]
  ·simp [zA,wi]
  ·rw [List.all_eq_true];intro ⟨x,i⟩ hx;rw [List.mk_mem_zipIdx_iff_getElem?] at hx;simpa using hx
 ·rw [if_neg]
  ·simp [he,zA,vE]
  ·intro hall;rw [List.all_eq_true] at hall;apply he;apply List.ext_getElem (by omega);intro i h1 h2;have:=hall (a[i],i) (by rw [List.mk_mem_zipIdx_iff_getElem?];exact List.getElem?_eq_getElem h1);simp [h2] at this;exact this.symm
theorem req_eq (a b:List RN) (h:a.length <= 1000000000000):wMa a b = pure (decide (a = b)):=by
 unfold wMa
 by_cases hl:(a.length:Int) = b.length
 ·simp only [hl,decide_true,Bool.not_true,cond_false];exact eqLoop a b (by omega) h fun i=>rfl
 ·have hne:a ≠ b:=fun e=>hl (by rw [e])
  simp [hl,hne]
theorem seq_eq (a b:List RN) (h:a.length <= 1000000000000):yW a b = pure (decide (a = b)):=by
 unfold yW
 by_cases hl:(a.length:Int) = b.length
 ·simp only [hl,decide_true,Bool.not_true,cond_false];exact eqLoop a b (by omega) h fun i=>rfl
 ·have hne:a ≠ b:=fun e=>hl (by rw [e])
  simp [hl,hne]

theorem ura (x:RN):jv x = pure (XE x):=by
 unfold jv;rw [za,za,zA]
 rfl
theorem xaa (l:List RN) (n:Int) (h:l.length <= 1000000000000):UO l n = pure (yM l n):=by
 unfold UO;have:=xS (body:=WE l n) l (fun i=>(i:Int)) (fun _ x=>!inR n x) (.brk ()) (.ret true) (fun i x hx hi=>by
  unfold WE;have h1:decide ((i:Int) < (l.length:Int)) = true:=by simpa using hi
  simp only [h1,cond_true,zN hx,zA,ura,zB,yT (show i < 9223372036854775807 by omega),za];unfold inR
  cases XE x <;> cases decide (x.lo <= n) <;> cases decide (n <= x.hi) <;> rfl) (by unfold WE;simp)
 rw [show (0:Int) = ((0:Nat):Int) from rfl,this,zA];have e:l.zipIdx.all (fun y=>!inR n y.1) = !yM l n:=by
  unfold yM;rw [Bool.eq_iff_iff];simp only [List.all_eq_true,Bool.not_eq_true',List.any_eq_false]
  constructor
  ·intro h x hx;obtain ⟨i,hi,he⟩:=List.getElem_of_mem hx;have:=h (x,i) (by rw [List.mk_mem_zipIdx_iff_getElem?];rw [List.getElem?_eq_getElem hi,he]);simpa using this
  ·intro h y hy;have:=List.fst_mem_of_mem_zipIdx hy;have:=h _ this;simpa using this
 simp only [e]
 cases yM l n <;> rfl
theorem usa (l:List Int) (n:Int) (h:l.length <= 100000000000):jw l n = pure (putP l n):=by
 unfold jw;have:=XO (body:=WF l n) l (fun i (t:Bool × List Int)=>(t.1,(i:Int),t.2)) (Vp n) (fun t=>pure t) (fun i t=>t.2.length <= 2 * i) (fun i x t hx hi hI=>by
  obtain ⟨d,out⟩:=t;simp only at hI;have h1:decide ((i:Int) < (l.length:Int)) = true:=by simpa using hi
  refine ⟨?_,?_⟩
  ·unfold WF Vp;simp only [h1,cond_true,zN hx,zA,yT (show i < 9223372036854775807 by omega)]
   cases d with
   | true=>
    by_cases hc:x = n
    ·simp [hc,zA]
    ·simp only [Bool.not_true,cond_false,zA,hc,decide_false,Bool.not_false,cond_true,if_false];rw [zD (by simp;omega)];simp [zA]
   | false=>
    by_cases hc1:n <= x
    ·simp only [Bool.not_false,cond_true,zA,hc1,decide_true];rw [zD (by simp;omega),zA]
     by_cases hc:x = n
     ·simp [hc,zA]
     ·simp only [hc,decide_false,Bool.not_false,cond_true];rw [zD (by simp;omega)];simp [zA]
    ·simp only [Bool.not_false,cond_true,zA,hc1,decide_false,cond_false];have hc:x ≠ n:=by omega
     simp only [hc,decide_false,Bool.not_false,cond_true];rw [zD (by simp;omega)];simp [zA]
  ·unfold Vp;simp only
   split <;> split <;> simp <;> omega) (fun t _=>by unfold WF;simp [zA]) (false,[]) (by simp)
 rw [show ((false,(0:Int),([]:List Int)):Bool × Int × List Int) = (false,((0:Nat):Int),[]) from rfl,this,zA];unfold putP;have hlen:(l.foldl (Vp n) (false,[])).2.length <= 2 * l.length:=by
  have:∀ (l:List Int) (s:Bool × List Int),(l.foldl (Vp n) s).2.length <= s.2.length + 2 * l.length:=by
   intro l
   induction l with
   | nil=>intro s;simp
   | cons x r ih=>
    intro s;rw [List.foldl_cons];have:=ih (Vp n s x);have h2:(Vp n s x).2.length <= s.2.length + 2:=by
     unfold Vp;simp only
     split <;> split <;> simp
    simp;omega
  simpa using this l (false,[])
 generalize l.foldl (Vp n) (false,[]) = t at hlen
 obtain ⟨d,out⟩:=t
 cases d with
 | true=>rfl
 | false=>
  simp only [Bool.not_false,cond_true];rw [zD (by simp at hlen ⊢;omega)]
  rfl
theorem rpts_eq (a b:List RN) (h:a.length + b.length <= 10000000000):WG a b = pure (Qy (a ++ b)):=by
 unfold WG;rw [zD (by simp;omega),zD (by simp;omega)];have hup:∀ i,Up (((a ++ b).take i).foldl ptS []) /\ (((a ++ b).take i).foldl ptS []).length <= 2 * (a ++ b).length:=fun i=>by
  obtain ⟨h1,_,h3⟩:=Qz ((a ++ b).take i) [] (by simp [Up]);refine ⟨h1,?_⟩;have:((a ++ b).take i).length <= (a ++ b).length:=by simp;omega
  simp only [List.length_nil,Nat.zero_add] at h3;omega
 have:=XO (body:=ub a b) (a ++ b) (fun i (t:List Int)=>(t,(i:Int))) ptS (fun t=>pure t) (fun i t=>t = ((a ++ b).take i).foldl ptS []) (fun i x t hx hi hI=>by
  have h1:decide ((i:Int) < ((a ++ b).length:Int)) = true:=decide_eq_true (by omega);have hlen:(a ++ b).length <= 10000000000:=by simp;omega
  obtain ⟨u1,u2⟩:=hup i;rw [<- hI] at u1 u2;refine ⟨?_,?_⟩
  ·unfold ub ptS;simp only [List.nil_append,h1,cond_true,zN hx,zA,yT (show i < 9223372036854775807 by omega),ura,zB]
   cases hm:XE x with
   | false=>simp [zA]
   | true=>
    have hm':=zi.1 hm;have hp:=UW u1 x.lo;rw [cond_true,usa _ _ (by omega),zB,zA,Zs (by omega) (by omega),usa _ _ (by omega),zB];simp [zA]
  ·rw [List.take_add_one,hx];simp [hI]) (fun t _=>by unfold ub;simp [zA]) [] (by simp)
 rw [show (([]:List Int),(0:Int)) = ([],((0:Nat):Int)) from rfl,this];simp only [zA]
 rfl
theorem yIa {P:List Int} {i:Nat} {pq:Int × Int} (h:(xz P)[i]? = some pq):P[i]? = some pq.1 /\ P[i + 1]? = some pq.2:=by
 unfold xz at h;rw [List.getElem?_zip_eq_some] at h;obtain ⟨h1,h2⟩:=h;rw [List.getElem?_tail] at h2;exact ⟨h1,h2⟩
theorem UY (op:Bool -> Bool -> Bool) (how:Int) (hop:∀ x y,op x y = if how = 2 then (x && !y) else if how = 1 then (x && y) else (x || y)) (_h0:op false false = false) (a b:List RN) (h:a.length + b.length <= 10000000000):UP a b how = pure (Zl op a b):=by
 unfold UP;rw [rpts_eq a b h,zB,zA];obtain ⟨p1,p2,p3⟩:=qh (a ++ b);have hrange:∀ q ∈ Qy (a ++ b),1 <= q /\ q <= 281474976710656:=fun q hq=>by
  obtain ⟨x,_,h2,h3⟩:=(p2 q).1 hq;have:=zi.1 h2;omega
 unfold Zl
 generalize Qy (a ++ b) = P at p1 hrange p3
 simp only [List.length_append] at p3;have hinv:∀ i,i <= (xz P).length -> Nf (((xz P).take i).foldl (wWa op a b) []) /\ (((xz P).take i).foldl (wWa op a b) []).length <= P.length:=fun i hi=>by
  cases P with
  | nil=>simp [xz,Nf]
  | cons p P=>
   have key:(xz (p :: P)).take i = xz (p :: P.take i):=by
    unfold xz;simp only [List.tail_cons];clear hi p1 hrange p3
    induction i generalizing p P with
    | zero=>simp
    | succ i ih=>
     cases P with
     | nil=>simp
     | cons q P=>
      simp only [List.zip_cons_cons,List.take_succ_cons];rw [ih q P]
   rw [key];have hsub:(p :: P.take i).Sublist (p :: P):=List.Sublist.cons_cons _ (List.take_sublist _ _);obtain ⟨i1,_,i3⟩:=zAa op a b (P.take i) p [] (List.Pairwise.sublist hsub p1) (fun q hq=>hrange q (hsub.subset hq)) trivial (by simp);refine ⟨i1,?_⟩;simp at i3 ⊢;omega
 have:=XO (body:=WH P a b how) (xz P) (fun i (t:List RN)=>((i:Int),t)) (wWa op a b) (fun t=>pure t) (fun i t=>i <= (xz P).length /\ t = ((xz P).take i).foldl (wWa op a b) []) (fun i pq t hx hi hI=>by
  obtain ⟨hI1,hI⟩:=hI;obtain ⟨g1,g2⟩:=yIa hx;have hlt:i + 1 < P.length:=(List.getElem?_eq_some_iff.1 g2).1;have hPl:P.length <= 20000000000:=by omega
  have h1:decide (((i + 1:Nat):Int) < (P.length:Int)) = true:=by rw [decide_eq_true_eq];omega
  obtain ⟨v1,v2⟩:=hinv i hI1;rw [<- hI] at v1 v2;refine ⟨?_,by omega,by rw [List.take_add_one,hx];simp [hI]⟩;unfold WH wWa;have e2:idx P ((i + 1:Nat):Int) = pure pq.2:=zN g2;have hq:=hrange pq.2 (List.mem_of_getElem? g2);simp only [yT (show i < 9223372036854775807 by omega),h1,cond_true,zN g1,e2,zA,xaa a pq.1 (by omega),xaa b pq.1 (by omega),zB];rw [hop];have hin:∀ (x y:Bool),(M.bind (cond x (M.pure true) (M.pure y)) fun in97=>M.bind (cond (decide (how = 1)) (M.bind (cond x (M.pure y) (M.pure false)) fun in101=>M.pure in101) (M.pure in97)) fun in99=>cond (decide (how = 2)) (M.bind (cond x (M.pure (!y)) (M.pure false)) fun in105=>M.pure in105) (M.pure in99)) = pure (if how = 2 then (x && !y) else if how = 1 then (x && y) else (x || y)):=by
   intro x y
   by_cases c2:how = 2
   ·subst c2;cases x <;> cases y <;> rfl
   ·by_cases c1:how = 1
    ·subst c1;cases x <;> cases y <;> rfl
    ·simp only [c1,c2,decide_false,cond_false,if_false]
     cases x <;> cases y <;> rfl
  have hin':=hin (yM a pq.1) (yM b pq.1)
  generalize (if how = 2 then (yM a pq.1 && !yM b pq.1) else if how = 1 then (yM a pq.1 && yM b pq.1) else (yM a pq.1 || yM b pq.1)) = inn at hin'
  -- the three steps are one
  have assoc:∀ (K:Bool -> M (List RN)),(M.bind (cond (yM a pq.1) (M.pure true) (M.pure (yM b pq.1))) fun in97=>M.bind (cond (decide (how = 1)) (M.bind (cond (yM a pq.1) (M.pure (yM b pq.1)) (M.pure false)) fun in101=>M.pure in101) (M.pure in97)) fun in99=>M.bind (cond (decide (how = 2)) (M.bind (cond (yM a pq.1) (M.pure (!yM b pq.1)) (M.pure false)) fun in105=>M.pure in105) (M.pure in99)) K) = K inn:=by
   intro K;have:=congrArg (fun m=>M.bind m K) hin';exact this
  rw [assoc]
  cases inn with
  | false=>rfl
  | true=>
   simp only [cond_true,if_true];rcases yl t with rfl | ⟨l,y,rfl⟩
   ·have e:decide ((0:Int) <= IntKind.i64.wrap (((([]:List RN).length:Nat):Int) - 1)) = false:=by
     rw [uJ (by simp) (by simp)];simp
    rw [e];simp only [cond_false,zA];rw [zD (by simp),Zs (by omega) (by omega)]
    rfl
   ·have hy:=(XA.1 v1).2.1;have hym:=zi.1 hy;have e0:IntKind.i64.wrap ((((l ++ [y]).length:Nat):Int) - 1) = (l.length:Int):=by
     simp only [List.length_append,List.length_singleton] at v2 ⊢;rw [uJ (by omega) (by omega)];omega
    have e1:idx (l ++ [y]) (l.length:Int) = pure y:=zN (by simp);have e3:decide ((0:Int) <= (l.length:Int)) = true:=by simp
    rw [e0,e3];simp only [cond_true,e1,zA,Zs (show 0 <= y.hi + 1 by omega) (by omega),Zs (show 0 <= pq.2 - 1 by omega) (by omega)];rw [JR]
    by_cases hc:y.hi + 1 = pq.1
    ·simp only [hc,decide_true,cond_true,if_true,Int.toNat_natCast];have:(l ++ [y]).set l.length (⟨y.lo,pq.2 - 1⟩:RN) = l ++ [⟨y.lo,pq.2 - 1⟩]:=by simp
     rw [this]
     rfl
    ·simp only [hc,decide_false,cond_false,if_false];rw [zD (by simp only [List.length_append,List.length_singleton] at v2 ⊢;omega)]
     rfl) (fun t _=>by
  unfold WH;have e:decide (IntKind.i64.wrap (((xz P).length:Int) + 1) < (P.length:Int)) = false:=by
   rw [upa,uJ (by omega) (by omega)];simp;omega
  simp only [e,cond_false,zA]) [] ⟨Nat.zero_le _,by simp⟩
 rw [show ((0:Int),([]:List RN)) = (((0:Nat):Int),[]) from rfl,this];simp only [zA]

theorem wXa (a b:List RN) (h:a.length + b.length <= 10000000000):VT a b = pure (Zl (· || ·) a b):=by
 unfold VT;rw [UY (· || ·) 0 (fun x y=>by simp) rfl a b h,zB,zA]
theorem rmeet_eq (a b:List RN) (h:a.length + b.length <= 10000000000):jE a b = pure (Zl (· && ·) a b):=by
 unfold jE;rw [UY (· && ·) 1 (fun x y=>by simp) rfl a b h,zB,zA]
theorem uta (a b:List RN) (h:a.length + b.length <= 10000000000):VU a b = pure (Zl (fun x y=>x && !y) a b):=by
 unfold VU;rw [UY (fun x y=>x && !y) 2 (fun x y=>by simp) rfl a b h,zB,zA]

def yJa (out:List RN) (x:RN):List RN:=match out.getLast? with
 | some y=>if x.lo <= y.hi + 1 then out.dropLast ++ [⟨y.lo,max y.hi x.hi⟩] else out ++ [x]
 | none=>out ++ [x]
theorem zCa (x:RN):yJa [] x = [x]:=rfl
theorem JS (l:List RN) (y x:RN):yJa (l ++ [y]) x = if x.lo <= y.hi + 1 then l ++ [⟨y.lo,max y.hi x.hi⟩] else l ++ [y] ++ [x]:=by simp [yJa]
theorem vda {out:List RN} {x:RN} (h:Nf out) (hx:XE x = true) (hlo:∀ y ∈ out,y.lo <= x.lo):Nf (yJa out x) /\ (∀ n,yM (yJa out x) n = (yM out n || inR n x)) /\ (∀ y ∈ yJa out x,y.lo <= x.lo) /\ (yJa out x).length <= out.length + 1:=by
 have hxm:=zi.1 hx;rcases yl out with rfl | ⟨l,y,rfl⟩
 ·rw [zCa];exact ⟨⟨hx,by simp,trivial⟩,fun n=>by rw [vp];simp,by simp,by simp⟩
 ·rw [JS];obtain ⟨n1,n2,n3⟩:=XA.1 h;have hym:=zi.1 n2;have hyx:=hlo y (by simp)
  by_cases hc:x.lo <= y.hi + 1
  ·rw [if_pos hc];have hm:XE (⟨y.lo,max y.hi x.hi⟩:RN) = true:=zi.2 ⟨hym.1,by simp only;omega,by simp only;omega⟩;refine ⟨XA.2 ⟨n1,hm,n3⟩,fun n=>?_,fun z hz=>?_,by simp⟩
   ·rw [uh,uh,vp,vp,Bool.or_assoc]
    congr 1
    rw [Bool.eq_iff_iff,Bool.or_eq_true,xA,xA,xA];have:=zi.1 hm;simp only at this ⊢;omega
   ·rcases List.mem_append.1 hz with hz | hz
    ·exact hlo z (by simp [hz])
    ·simp at hz;subst hz;exact hyx
  ·rw [if_neg hc];refine ⟨XA.2 ⟨h,hx,fun z hz=>?_⟩,fun n=>by rw [uh (l ++ [y]),vp],fun z hz=>?_,by simp⟩
   ·rcases List.mem_append.1 hz with hz | hz
    ·have:=n3 z hz;omega
    ·simp at hz;subst hz;omega
   ·rcases List.mem_append.1 hz with hz | hz
    ·exact hlo z hz
    ·simp at hz;subst hz;exact Int.le_refl _
theorem JT : ∀ (s out:List RN),Nf out -> (∀ x ∈ s,XE x = true) -> s.Pairwise (fun x y=>x.lo <= y.lo) -> (∀ y ∈ out,∀ x ∈ s,y.lo <= x.lo) -> Nf (s.foldl yJa out) /\ (∀ n,yM (s.foldl yJa out) n = (yM out n || yM s n)) /\ (s.foldl yJa out).length <= out.length + s.length
 | [],out,h,_,_,_=>⟨h,by simp,by simp⟩
 | x :: r,out,h,hm,hp,hlo=>by
  obtain ⟨a1,a2,a3,a4⟩:=vda h (hm x (by simp)) fun y hy=>hlo y hy x (by simp)
  obtain ⟨p1,p2⟩:=List.pairwise_cons.1 hp;obtain ⟨i1,i2,i3⟩:=JT r _ a1 (fun y hy=>hm y (List.mem_cons_of_mem _ hy)) p2 fun y hy z hz=>by
   have:=a3 y hy;have:=p1 z hz;omega
  refine ⟨i1,fun n=>?_,by simp;omega⟩;rw [List.foldl_cons,i2,a2,xl,Bool.or_assoc]

theorem uua {l:List RN} {Q:List RN -> Prop} (h:∀ s,s.Perm l -> s.Pairwise (fun x y=>x.lo <= y.lo) -> Q s):(srt qA l).wp Q:=by
 refine ⟨⟨l.mergeSort (fun x y=>decide (x.lo <= y.lo)),List.mergeSort_perm _ _,?_⟩,fun s ⟨h1,h2⟩=>h s h1 (h2.imp fun {x y} h=>?_)⟩
 ·refine (List.pairwise_mergeSort (fun a b c h1 h2=>?_) (fun a b=>?_) l).imp fun {x y} h=>?_
  ·simp only [decide_eq_true_eq] at h1 h2 ⊢;omega
  ·simp only [Bool.or_eq_true,decide_eq_true_eq];omega
  ·simp only [decide_eq_true_eq] at h;unfold qA;simp only [decide_eq_false_iff_not];omega
 ·unfold qA at h;simp only [decide_eq_false_iff_not] at h;omega
theorem UZ (l:List RN) (h:l.length <= 1000000000000):xf l = pure (nrm l):=by
 unfold xf;have h1:=XO (body:=vv l) l (fun i (t:List RN)=>((i:Int),t)) (fun t x=>if XE x then t ++ [x] else t) (fun t=>pure t) (fun i t=>t.length <= i) (fun i x t hx hi hI=>by
  have h1:decide ((i:Int) < (l.length:Int)) = true:=by simpa using hi
  refine ⟨?_,by split <;> (try simp only [List.length_append,List.length_singleton]) <;> omega⟩;unfold vv;simp only [h1,cond_true,zN hx,zA,yT (show i < 9223372036854775807 by omega)];have e:(cond (decide (0 < x.lo)) (cond (decide (x.lo <= x.hi)) (M.pure (decide (x.hi <= 281474976710655))) (M.pure false)) (M.pure false):M Bool) = pure (XE x):=by
   rw [za,za];refine congrArg pure ?_;rw [Bool.eq_iff_iff,zi];simp only [Bool.and_eq_true,decide_eq_true_eq];omega
  rw [e,zA]
  cases hm:XE x with
  | false=>simp [zA]
  | true=>
   rw [cond_true,zD (by simp;omega)];simp [zA]) (fun t _=>by unfold vv;simp [zA]) [] (by simp)
 have hf:∀ (l t:List RN),l.foldl (fun t x=>if XE x then t ++ [x] else t) t = t ++ l.filter XE:=by
  intro l
  induction l with
  | nil=>simp
  | cons x r ih=>
   intro t;rw [List.foldl_cons,ih]
   cases hm:XE x <;> simp [hm]
 rw [hf,List.nil_append] at h1;have h1':loop (vv l) (0,[]) = pure (l.filter XE):=h1;have hfl:(l.filter XE).length <= l.length:=List.length_filter_le _ _;rw [h1',zA,zD (by omega)];refine YU (uua fun s hs hp=>?_);have hsl:=hs.length_eq;have hmay:∀ x ∈ s,XE x = true:=fun x hx=>(List.mem_filter.1 (hs.mem_iff.1 hx)).2
 have hpre:∀ i,Nf ((s.take i).foldl yJa []) /\ ((s.take i).foldl yJa []).length <= i /\ ∀ x,s[i]? = some x -> ∀ y ∈ (s.take i).foldl yJa [],y.lo <= x.lo:=fun i=>by
  obtain ⟨i1,i2,i3⟩:=JT (s.take i) [] trivial (fun x hx=>hmay x (List.mem_of_mem_take hx)) (List.Pairwise.sublist (List.take_sublist _ _) hp) (by simp);refine ⟨i1,by simp at i3;omega,fun x hx y hy=>?_⟩;have hmy:=zi.1 (i1.may y hy);have:yM ((s.take i).foldl yJa []) y.lo = true:=wh.2 ⟨y,hy,i1.may y hy,by omega,by omega⟩;rw [i2] at this;simp only [Qu,Bool.false_or] at this;obtain ⟨z,hz,_,h3,_⟩:=wh.1 this
  -- z is ahead of x; y begins where one of those ahead begins
  have hall:∀ (s out:List RN),(∀ y ∈ s.foldl yJa out,(∃ z ∈ out,y.lo = z.lo) \/ ∃ z ∈ s,y.lo = z.lo):=by
   intro s
   induction s with
   | nil=>intro out y hy;exact .inl ⟨y,hy,rfl⟩
   | cons a r ih=>
    intro out y hy;rcases ih _ y hy with ⟨z,hz,e⟩ | ⟨z,hz,e⟩
    ·rcases yl out with rfl | ⟨q,w,rfl⟩
     ·rw [zCa] at hz;simp at hz;subst hz;exact .inr ⟨z,by simp,e⟩
     ·rw [JS] at hz
      split at hz
      ·rcases List.mem_append.1 hz with hz | hz
       ·exact .inl ⟨z,by simp [hz],e⟩
       ·simp at hz;subst hz;exact .inl ⟨w,by simp,e⟩
      ·rcases List.mem_append.1 hz with hz | hz
       ·exact .inl ⟨z,hz,e⟩
       ·simp at hz;subst hz;exact .inr ⟨z,by simp,e⟩
    ·exact .inr ⟨z,by simp [hz],e⟩
  rcases hall _ _ y hy with ⟨z,hz,_⟩ | ⟨z,hz,e⟩
  ·simp at hz
  ·obtain ⟨j,hj,hje⟩:=List.getElem_of_mem hz;have hlt:=(List.getElem?_eq_some_iff.1 hx).1;have hji:j < i:=by simp at hj;omega
   have:=List.pairwise_iff_getElem.1 hp j i (by omega) hlt hji;rw [List.getElem_take] at hje;have hxe:s[i] = x:=by rw [List.getElem?_eq_getElem hlt] at hx;simpa using hx
   rw [hje,hxe] at this;omega
 have h2:=XO (body:=vw (l.filter XE) s) s (fun i (t:List RN)=>((i:Int),t)) yJa (fun t=>pure t) (fun i t=>t = (s.take i).foldl yJa []) (fun i x t hx hi hI=>by
  obtain ⟨v1,v2,v3⟩:=hpre i;have v3:=v3 x hx;rw [<- hI] at v1 v2 v3;have hxm:=zi.1 (hmay x (List.mem_of_getElem? hx));have h1:decide ((i:Int) < ((l.filter XE).length:Int)) = true:=by simp;omega
  refine ⟨?_,by rw [List.take_add_one,hx];simp [hI]⟩;unfold vw;simp only [h1,cond_true,zN hx,zA,yT (show i < 9223372036854775807 by omega)];rcases yl t with rfl | ⟨q,y,rfl⟩
  ·have e:decide ((0:Int) <= IntKind.i64.wrap (((([]:List RN).length:Nat):Int) - 1)) = false:=by
    rw [uJ (by simp) (by simp)];simp
   rw [e];simp only [cond_false,zA];rw [zD (by simp),zCa]
   rfl
  ·have hy:=(XA.1 v1).2.1;have hym:=zi.1 hy;have e0:IntKind.i64.wrap ((((q ++ [y]).length:Nat):Int) - 1) = (q.length:Int):=by
    simp only [List.length_append,List.length_singleton] at v2 ⊢;rw [uJ (by omega) (by omega)];omega
   have e1:idx (q ++ [y]) (q.length:Int) = pure y:=zN (by simp);have e3:decide ((0:Int) <= (q.length:Int)) = true:=by simp
   rw [e0,e3];simp only [cond_true,e1,zA,Zs (show 0 <= y.hi + 1 by omega) (by omega)];rw [JS]
   by_cases hc:x.lo <= y.hi + 1
   ·simp only [hc,decide_true,cond_true,if_true,Int.toNat_natCast];have:(q ++ [y]).set q.length (⟨y.lo,max y.hi x.hi⟩:RN) = q ++ [⟨y.lo,max y.hi x.hi⟩]:=by simp
    rw [this]
    rfl
   ·simp only [hc,decide_false,cond_false,if_false];rw [zD (by simp only [List.length_append,List.length_singleton] at v2 ⊢;omega)]
    rfl) (fun t _=>by
  unfold vw;have e:decide ((s.length:Int) < ((l.filter XE).length:Int)) = false:=by simp;omega
  simp only [e,cond_false,zA]) [] (by simp)
 show (M.bind (M.loop (vw (l.filter XE) s) (0,[])) fun out38=>M.pure out38).wp (· = nrm l);rw [show ((0:Int),([]:List RN)) = (((0:Nat):Int),[]) from rfl,h2];obtain ⟨i1,i2,_⟩:=JT s [] trivial hmay hp (by simp);exact nrm_of i1 fun n=>by rw [i2,uoa hs,xYa];simp
def WZ (nums:List Int):List RN:=nums.map fun n=>⟨n,n⟩
def uva (x y:Int):Int:=if x < y then -1 else if y < x then 1 else 0
theorem uwa (x y:Int):yq x y = pure (uva x y):=by
 unfold yq wc uva;simp only [decide_true,Bool.not_true,zB,zA,cond_false,vN]
 split
 ·rfl
 ·split <;> rfl
theorem uxa (x:RN) (n:Int):uu x n = pure (uva x.hi n):=by
 unfold uu;rw [uwa,zB,zA]
def zDa : List RN -> Int -> Nat
 | [],_=>0
 | x :: r,n=>if x.hi < n then zDa r n + 1 else 0
theorem yKa : ∀ {v:List RN} {n:Int} {c:Nat},c <= v.length -> (∀ (k:Nat) (x:RN),k < c -> v[k]? = some x -> x.hi < n) -> (∀ (k:Nat) (x:RN),c <= k -> v[k]? = some x -> n <= x.hi) -> c = zDa v n
 | [],n,c,h,_,_=>by simp at h;simp [zDa,h]
 | x :: r,n,0,_,_,h2=>by
  have:=h2 0 x (by omega) rfl;simp only [zDa];rw [if_neg (by omega)]
 | x :: r,n,c + 1,h,h1,h2=>by
  have:=h1 0 x (by omega) rfl;simp only [zDa];rw [if_pos this,<- yKa (v:=r) (n:=n) (c:=c) (by simpa using h) (fun k y hk hy=>h1 (k + 1) y (by omega) (by simpa using hy)) (fun k y hk hy=>h2 (k + 1) y (by omega) (by simpa using hy))]
theorem uya {v:List RN} (h:Nf v):∀ {i j:Nat} {x y:RN},i < j -> v[i]? = some x -> v[j]? = some y -> x.hi < y.hi:=by
 induction v with
 | nil=>intro i j x y _ hx;simp at hx
 | cons z r ih=>
  intro i j x y hij hx hy
  cases j with
  | zero=>omega
  | succ j=>
   have hyr:r[j]? = some y:=by simpa using hy
   have hym:=List.mem_of_getElem? hyr
   cases i with
   | zero=>
    simp at hx;subst hx;have:=h.2.1 y hym;have:=zi.1 (h.2.2.may y hym);omega
   | succ i=>exact ih h.2.2 (show i < j by omega) (by simpa using hx) hyr
theorem bs_loop (v:List RN) (n:Int) (hv:Nf v) (hl:v.length <= 1000000000000):loop (zc v n) (0,(v.length:Int)) = pure (zDa v n:Int):=by
 refine YU (wGa (fun s=>∃ i j:Nat,s = ((i:Int),(j:Int)) /\ i <= j /\ j <= v.length /\ (∀ (k:Nat) (x:RN),k < i -> v[k]? = some x -> x.hi < n) /\ (∀ (k:Nat) (x:RN),j <= k -> v[k]? = some x -> n <= x.hi)) (fun s=>(s.2 - s.1).toNat) ?_ _ ⟨0,v.length,rfl,Nat.zero_le _,Nat.le_refl _,fun k x hk=>absurd hk (Nat.not_lt_zero _),fun k x hk hx=>absurd (List.getElem?_eq_some_iff.1 hx).1 (Nat.not_lt.2 hk)⟩);rintro _ ⟨i,j,rfl,hij,hj,h1,h2⟩;unfold zc;simp only [vN]
 by_cases hc:(i:Int) < j
 ·rw [if_pos hc];have e:IntKind.i64.wrap (Int.fdiv (IntKind.u64.wrap (IntKind.i64.wrap ((i:Int) + j))) (2 ^ 1)) = (((i + j) / 2:Nat):Int):=by
   rw [uJ (n:=(i:Int) + j) (by omega) (by omega),Zs (by omega) (by omega),Int.fdiv_eq_ediv_of_nonneg _ (by decide)];have:((i:Int) + j) / 2 ^ 1 = (((i + j) / 2:Nat):Int):=by omega
   rw [this,uJ (by omega) (by omega)]
  have hm:(i + j) / 2 < v.length:=by omega
  rw [e];simp only [zN (List.getElem?_eq_getElem hm),zA,uxa,zB,yT (show (i + j) / 2 < 9223372036854775807 by omega)]
  by_cases hlt:v[(i + j) / 2].hi < n
  ·have:uva v[(i + j) / 2].hi n < 0:=by unfold uva;rw [if_pos hlt];decide
   rw [if_pos this];refine ⟨⟨(i + j) / 2 + 1,j,rfl,by omega,hj,fun k x hk hx=>?_,h2⟩,?_⟩
   ·by_cases e:k = (i + j) / 2
    ·subst e;rw [List.getElem?_eq_getElem hm] at hx;cases hx;exact hlt
    ·have:=uya hv (show k < (i + j) / 2 by omega) hx (List.getElem?_eq_getElem hm);omega
   ·simp only;omega
  ·have:¬ uva v[(i + j) / 2].hi n < 0:=by unfold uva;rw [if_neg hlt];split <;> decide
   rw [if_neg this];refine ⟨⟨i,(i + j) / 2,rfl,by omega,by omega,h1,fun k x hk hx=>?_⟩,?_⟩
   ·by_cases e:k = (i + j) / 2
    ·subst e;rw [List.getElem?_eq_getElem hm] at hx;cases hx;omega
    ·have:=uya hv (show (i + j) / 2 < k by omega) (List.getElem?_eq_getElem hm) hx;omega
   ·simp only;omega
 ·rw [if_neg hc];have hij':i = j:=by omega
  subst hij';show (i:Int) = (zDa v n:Int)
  rw [<- yKa hj h1 h2]
def hitB (v:List RN) (n:Int):Bool:=match v[zDa v n]? with | some x=>decide (uva x.hi n = 0) | none=>false
theorem bs_eq (v:List RN) (n:Int) (hv:Nf v) (hl:v.length <= 1000000000000):zU v n = pure ((zDa v n:Int),hitB v n):=by
 unfold zU hitB;rw [bs_loop v n hv hl,zA]
 by_cases hc:zDa v n < v.length
 ·have:decide ((zDa v n:Int) < (v.length:Int)) = true:=by simpa using hc
  rw [this,cond_true,zN (List.getElem?_eq_getElem hc)];simp only [zA,uxa,zB,List.getElem?_eq_getElem hc]
 ·have:decide ((zDa v n:Int) < (v.length:Int)) = false:=by simpa using hc
  rw [this,cond_false,zA,List.getElem?_eq_none (by omega)]
theorem wYa : ∀ {v:List RN} (n:Int),Nf v -> yM v n = (match v[zDa v n]? with | some x=>decide (x.lo <= n) | none=>false)
 | [],n,_=>rfl
 | x :: r,n,h=>by
  by_cases hc:x.hi < n
  ·simp only [zDa,if_pos hc,List.getElem?_cons_succ];rw [<- wYa n h.2.2,xl];have:inR n x = false:=by
    rw [Bool.eq_false_iff];intro h;have:=(xA.1 h).2.2;omega
   rw [this,Bool.false_or]
  ·simp only [zDa,if_neg hc,List.getElem?_cons_zero];rw [Bool.eq_iff_iff,decide_eq_true_eq]
   constructor
   ·exact Qw h
   ·intro hle;exact (xZa h hle).2 (.inl (by omega))
theorem has_eq (l:List RN) (n:Int) (h:l.length <= 100000000000):jA l n = pure (yM l n):=by
 unfold jA;have hl:=va l;rw [UZ l (by omega),zB,zA,bs_eq _ n (YJ l) (by omega),zB,zA,<- wq l n,wYa n (YJ l)]
 generalize nrm l = v
 by_cases hc:zDa v n < v.length
 ·have:decide ((zDa v n:Int) < (v.length:Int)) = true:=by simpa using hc
  simp only [this,cond_true,zN (List.getElem?_eq_getElem hc),zA,List.getElem?_eq_getElem hc]
 ·have:decide ((zDa v n:Int) < (v.length:Int)) = false:=by simpa using hc
  simp only [this,cond_false,zA,List.getElem?_eq_none (show v.length <= zDa v n by omega)]

theorem uza (A B:List RN) (hA:Nf A) (hB:Nf B) (hl:A.length + B.length <= 1000000000000):(loop ZZ (A,B,[])).wp fun r=>Nf r /\ ∀ n,yM r n = (yM A n && yM B n):=by
 refine wGa (fun s:List RN × List RN × List RN=>Nf s.1 /\ Nf s.2.1 /\ Nf s.2.2 /\ (∀ y ∈ s.2.2,∀ x ∈ s.1,∀ z ∈ s.2.1,y.hi + 1 < max x.lo z.lo) /\ (∀ n,(yM s.2.2 n || (yM s.1 n && yM s.2.1 n)) = (yM A n && yM B n)) /\ s.2.2.length + s.1.length + s.2.1.length <= A.length + B.length) (fun s=>s.1.length + s.2.1.length) ?_ (A,B,[]) ⟨hA,hB,(trivial:Nf []),by simp,by simp,by simp⟩;rintro ⟨a,b,out⟩ ⟨h1,h2,h3,h4,h5,h6⟩;simp only at h1 h2 h3 h4 h5 h6;unfold ZZ
 cases a with
 | nil=>exact ⟨h3,fun n=>by rw [<- h5];simp⟩
 | cons x r=>
  cases b with
  | nil=>
   have e1:decide ((0:Int) < ((x :: r).length:Int)) = true:=by simp only [List.length_cons,decide_eq_true_eq];omega
   simp only [e1,cond_true];exact ⟨h3,fun n=>by rw [<- h5];simp⟩
  | cons z q=>
   have hx:=zi.1 h1.1;have hz:=zi.1 h2.1;have e1:decide ((0:Int) < ((x :: r).length:Int)) = true:=by simp only [List.length_cons,decide_eq_true_eq];omega
   have e2:decide ((0:Int) < ((z :: q).length:Int)) = true:=by simp only [List.length_cons,decide_eq_true_eq];omega
   simp only [e1,e2,cond_true,zA,Wb (l:=x :: r) (i:=0) (y:=x) (by omega) rfl,Wb (l:=z :: q) (i:=0) (y:=z) (by omega) rfl]
   -- the new list
   have hout:∃ out',(cond (decide (max x.lo z.lo <= min x.hi z.hi)) (M.yV ((out.length + List.length [(⟨max x.lo z.lo,min x.hi z.hi⟩:RN)]) * 16 <= 140737488355328) (M.pure (out ++ [⟨max x.lo z.lo,min x.hi z.hi⟩]))) (M.pure out)) = M.pure out' /\ Nf out' /\ (∀ n,yM out' n = (yM out n || (inR n x && inR n z))) /\ (∀ y ∈ out',y ∈ out \/ y.hi = min x.hi z.hi) /\ out'.length <= out.length + 1:=by
    by_cases hc:max x.lo z.lo <= min x.hi z.hi
    ·refine ⟨out ++ [⟨max x.lo z.lo,min x.hi z.hi⟩],?_,XA.2 ⟨h3,zi.2 ⟨by simp only;omega,hc,by simp only;omega⟩,fun y hy=>h4 y hy x (by simp) z (by simp)⟩,fun n=>?_,fun y hy=>?_,by simp⟩
     ·rw [decide_eq_true hc,cond_true,zD];simp at h6 ⊢;omega
     ·rw [uh,vp]
      congr 1
      rw [Bool.eq_iff_iff,Bool.and_eq_true,xA,xA,xA];simp only;omega
     ·rcases List.mem_append.1 hy with hy | hy
      ·exact .inl hy
      ·simp at hy;subst hy;exact .inr rfl
    ·refine ⟨out,by rw [decide_eq_false hc];rfl,h3,fun n=>?_,fun y hy=>.inl hy,by omega⟩;have:(inR n x && inR n z) = false:=by
      rw [Bool.eq_false_iff];intro h;rw [Bool.and_eq_true,xA,xA] at h;omega
     rw [this,Bool.or_false]
   obtain ⟨out',o1,o2,o3,o4,o5⟩:=hout;have hh:∀ n,yM out' n = (yM out n || (inR n x && inR n z)):=o3;rw [o1];simp only [zA,vN]
   by_cases hc:x.hi < z.hi
   ·rw [if_pos hc,zD ⟨by omega,by simp only [List.length_cons];omega,by omega⟩];have ed:List.drop (Int.toNat 1) (List.take (Int.toNat ((x :: r).length:Int)) (x :: r)) = r:=by simp
    rw [ed];refine ⟨⟨h1.2.2,h2,o2,fun y hy x' hx' z' hz'=>?_,fun n=>?_,by simp at h6 ⊢;omega⟩,by simp only [List.length_cons];omega⟩
    ·rcases o4 y hy with hy | hy
     ·have:=h4 y hy x' (List.mem_cons_of_mem _ hx') z' hz';omega
     ·have:=h1.2.1 x' hx';omega
    ·simp only;rw [hh,<- h5,xl x,xl z,Bool.or_assoc]
     congr 1
     have hxq:(inR n x && yM q n) = false:=by
      rw [Bool.eq_false_iff];intro h;rw [Bool.and_eq_true,xA] at h;have:=JP h2 h.2;omega
     cases hv1:inR n x <;> cases hv2:inR n z <;> cases hv3:yM r n <;> cases hv4:yM q n <;> simp_all
   ·rw [if_neg hc,zD ⟨by omega,by simp only [List.length_cons];omega,by omega⟩];have ed:List.drop (Int.toNat 1) (List.take (Int.toNat ((z :: q).length:Int)) (z :: q)) = q:=by simp
    rw [ed];refine ⟨⟨h1,h2.2.2,o2,fun y hy x' hx' z' hz'=>?_,fun n=>?_,by simp at h6 ⊢;omega⟩,by simp only [List.length_cons];omega⟩
    ·rcases o4 y hy with hy | hy
     ·have:=h4 y hy x' hx' z' (List.mem_cons_of_mem _ hz');omega
     ·have:=h2.2.1 z' hz';omega
    ·simp only;rw [hh,<- h5,xl x,xl z,Bool.or_assoc]
     congr 1
     have hxq:(inR n z && yM r n) = false:=by
      rw [Bool.eq_false_iff];intro h;rw [Bool.and_eq_true,xA] at h;have:=JP h1 h.2;omega
     cases hv1:inR n x <;> cases hv2:inR n z <;> cases hv3:yM r n <;> cases hv4:yM q n <;> simp_all
theorem meetN_eq (a b:List RN) (ha:a.length <= 100000000000) (hb:b.length <= 100000000000):VJ a b = pure (Zl (· && ·) a b):=by
 unfold VJ;have la:=va a;have lb:=va b;rw [UZ a (by omega),zB,zA,UZ b (by omega),zB,zA];refine YU ((loop ZZ (nrm a,nrm b,[])).mono (fun r ⟨h1,h2⟩=>?_) (uza (nrm a) (nrm b) (YJ a) (YJ b) (by omega)));obtain ⟨s1,s2,_⟩:=zq (· && ·) rfl a b;exact Vo h1 s1 fun n=>by rw [h2,s2,wq,wq]

def qI : Int -> List RN -> List RN
 | at_,[]=>[⟨at_,281474976710655⟩]
 | at_,x :: r=>⟨at_,x.lo - 1⟩ :: qI (x.hi + 1) r
theorem u0a (l:List RN) (p:Int):(qI p l).length = l.length + 1:=by
 induction l generalizing p with
 | nil=>rfl
 | cons x r ih=>simp [qI,ih]
theorem yLa : ∀ (l:List RN) (p:Int),Nf l -> 1 <= p -> (∀ x ∈ l,p <= x.lo) -> ∀ n,yM (qI p l) n = true ↔ p <= n /\ n <= 281474976710655 /\ yM l n = false
 | [],p,_,hp,_,n=>by
  rw [qI,vp,xA];simp only [Qu,and_true];omega
 | x :: r,p,h,hp,hlo,n=>by
  have hx:=zi.1 h.1;have:=hlo x (by simp);rw [qI,xl,Bool.or_eq_true,yLa r (x.hi + 1) h.2.2 (by omega) (fun y hy=>by have:=h.2.1 y hy;omega) n,xA];simp only;have hr:yM (x :: r) n = false ↔ (n < x.lo \/ x.hi < n) /\ yM r n = false:=by
   rw [xl,Bool.or_eq_false_iff];refine and_congr_left fun _=>?_
   rw [Bool.eq_false_iff,ne_eq,xA];omega
  rw [hr];have hrl:n < x.lo -> yM r n = false:=fun hn=>by
   rw [Bool.eq_false_iff];intro h2;have:=JP h h2;omega
  constructor
  ·rintro (h2 | h2)
   ·exact ⟨h2.2.1,by omega,.inl (by omega),hrl (by omega)⟩
   ·exact ⟨by omega,h2.2.1,.inr (by omega),h2.2.2⟩
  ·rintro ⟨h2,h3,h4,h5⟩;rcases h4 with h4 | h4
   ·left;omega
   ·right;exact ⟨by omega,h3,h5⟩
theorem rest_eq (l:List RN) (h:l.length <= 100000000000):VK l = pure (qI 1 (nrm l)):=by
 unfold VK;have hl:=va l;have hn:=YJ l;rw [UZ l (by omega),zB,zA]
 generalize nrm l = v at hl hn
 have h1:=XO (body:=Za v) v (fun i (t:Int × List RN)=>(t.1,(i:Int),t.2)) (fun t x=>(x.hi + 1,t.2 ++ [⟨t.1,x.lo - 1⟩])) (fun t=>pure t) (fun i t=>t.2.length = i) (fun i x t hx hi hI=>by
  have h1:decide ((i:Int) < (v.length:Int)) = true:=by simpa using hi
  have hm:=zi.1 (hn.may x (List.mem_of_getElem? hx));refine ⟨?_,by simp [hI]⟩;unfold Za;simp only [h1,cond_true,zN hx,zA,yT (show i < 9223372036854775807 by omega),Zs (show 0 <= x.lo - 1 by omega) (by omega),Zs (show 0 <= x.hi + 1 by omega) (by omega)];rw [zD (by simp;omega)]) (fun t _=>by unfold Za;simp [zA]) (1,[]) rfl
 rw [show ((1:Int),(0:Int),([]:List RN)) = (1,((0:Nat):Int),[]) from rfl,h1];simp only [zA];have hf:∀ (l:List RN) (t:Int × List RN),(l.foldl (fun (t:Int × List RN) x=>(x.hi + 1,t.2 ++ [(⟨t.1,x.lo - 1⟩:RN)])) t).2 ++ [⟨(l.foldl (fun (t:Int × List RN) x=>(x.hi + 1,t.2 ++ [(⟨t.1,x.lo - 1⟩:RN)])) t).1,281474976710655⟩] = t.2 ++ qI t.1 l /\ (l.foldl (fun (t:Int × List RN) x=>(x.hi + 1,t.2 ++ [(⟨t.1,x.lo - 1⟩:RN)])) t).2.length = t.2.length + l.length:=by
  intro l
  induction l with
  | nil=>intro t;exact ⟨rfl,by simp⟩
  | cons x r ih=>
   intro t;rw [List.foldl_cons];obtain ⟨i1,i2⟩:=ih (x.hi + 1,t.2 ++ [⟨t.1,x.lo - 1⟩]);exact ⟨by rw [i1];simp [qI],by rw [i2];simp;omega⟩
 obtain ⟨f1,f2⟩:=hf v (1,[])
 generalize v.foldl (fun (t:Int × List RN) x=>(x.hi + 1,t.2 ++ [(⟨t.1,x.lo - 1⟩:RN)])) (1,[]) = t at f1 f2
 obtain ⟨p,out⟩:=t;simp only [List.length_nil] at f1 f2 ⊢;rw [zD (by simp;omega),f1]
 rfl
theorem minus_eq (a b:List RN) (ha:a.length <= 10000000000) (hb:b.length <= 10000000000):Zx a b = pure (Zl (fun x y=>x && !y) a b):=by
 unfold Zx;have lb:=va b;have lr:=u0a (nrm b) 1;rw [rest_eq b (by omega),zB,zA,meetN_eq a _ (by omega) (by omega),zB,zA];refine congrArg pure ?_;obtain ⟨s1,s2,_⟩:=zq (· && ·) rfl a (qI 1 (nrm b));obtain ⟨t1,t2,_⟩:=zq (fun x y=>x && !y) rfl a b;refine Vo s1 t1 fun n=>?_
 rw [s2,t2,<- wq b]
 cases hh:yM a n with
 | false=>rfl
 | true=>
  have:=qg hh;rw [Bool.true_and,Bool.true_and,Bool.eq_iff_iff,yLa (nrm b) 1 (YJ b) (by omega) (fun x hx=>(zi.1 ((YJ b).may x hx)).1) n];simp only [Bool.not_eq_true'];exact ⟨fun h=>h.2.2,fun h=>⟨this.1,this.2,h⟩⟩

theorem Vr (l:List Int):(WZ l).length = l.length:=by simp [WZ]
end Go.Ep.M.R


/- Texts that the walks and laws lean on, side by side. -/
import Derived.ProofKit
import Derived.Deep.Slices
import Derived.Test.YthcldkmidhhgbaaProg
import Derived.KernelRfl
import Derived.Test.YthcldkmidhhgbaaAOn2
import Derived.Test.YthcldkmidhhgbaaAOn4
import Derived.Test.YthcldkmidhhgbaaAOn6
set_option linter.unusedVariables false
set_option linter.unusedSimpArgs false
namespace Go.Ep.M.H
open Go

section
variable {κ ν : Type} [DecidableEq κ]
theorem del_sub (m : List (κ × ν)) (x : κ) : (AL.del m x).Sublist m := by
  induction m with
  | nil => exact List.Sublist.slnil
  | cons k r ih =>
    obtain ⟨k, v⟩ := k
    unfold AL.del
    split
    · exact List.sublist_cons_self _ _
    · exact ih.cons_cons _
theorem mem_del {m : List (κ × ν)} (hn : (m.map (·.1)).Nodup) (x : κ) (k : κ × ν) : k ∈ AL.del m x ↔ k ∈ m ∧ k.1 ≠ x := by
  induction m with
  | nil => simp [AL.del]
  | cons y r ih =>
    obtain ⟨q, v⟩ := y
    rw [List.map_cons, List.nodup_cons] at hn
    unfold AL.del
    split
    · rename_i e
      subst e
      rw [List.mem_cons]
      constructor
      · intro h; exact ⟨.inr h, fun e => hn.1 (e ▸ List.mem_map.2 ⟨k, h, rfl⟩)⟩
      · rintro ⟨h | h, h2⟩
        · subst h; exact absurd rfl h2
        · exact h
    · rename_i e
      rw [List.mem_cons, List.mem_cons, ih hn.2]
      constructor
      · rintro (h | ⟨h, h2⟩)
        · subst h; exact ⟨.inl rfl, e⟩
        · exact ⟨.inr h, h2⟩
      · rintro ⟨h | h, h2⟩
        · exact .inl h
        · exact .inr ⟨h, h2⟩
theorem mem_set {m : List (κ × ν)} (hn : (m.map (·.1)).Nodup) (x : κ) (v : ν) (k : κ × ν) : k ∈ AL.set m x v ↔ (k ∈ m ∧ k.1 ≠ x) ∨ k = (x, v) := by
  induction m with
  | nil => simp [AL.set]
  | cons y r ih =>
    obtain ⟨q, u⟩ := y
    rw [List.map_cons, List.nodup_cons] at hn
    unfold AL.set
    split
    · rename_i e
      subst e
      rw [List.mem_cons, List.mem_cons]
      constructor
      · rintro (h | h)
        · exact .inr h
        · exact .inl ⟨.inr h, fun e => hn.1 (e ▸ List.mem_map.2 ⟨k, h, rfl⟩)⟩
      · rintro (⟨h | h, h2⟩ | h)
        · subst h; exact absurd rfl h2
        · exact .inr h
        · exact .inl h
    · rename_i e
      rw [List.mem_cons, List.mem_cons, ih hn.2]
      constructor
      · rintro (h | ⟨h, h2⟩ | h)
        · subst h; exact .inl ⟨.inl rfl, e⟩
        · exact .inl ⟨.inr h, h2⟩
        · exact .inr h
      · rintro (⟨h | h, h2⟩ | h)
        · exact .inl h
        · exact .inr (.inl ⟨h, h2⟩)
        · exact .inr (.inr h)
end

theorem loopFind {ε ρ : Type} {body : Int → M (Step Int (Ex Unit ρ))} (l : List ε) (p : ε → Bool) (r : ε → ρ)
    (h1 : ∀ (i : Nat) (x : ε), l[i]? = some x → i < l.length → body (i : Int) = if p x then pure (.done (.ret (r x))) else pure (.next ((i + 1 : Nat) : Int)))
    (h2 : body (l.length : Int) = pure (.done (.brk ()))) : loop body 0 = pure (match l.find? p with | some x => .ret (r x) | none => .brk ()) := by
  have key : ∀ k i, i + k = l.length → loop body (i : Int) = pure (match (l.drop i).find? p with | some x => .ret (r x) | none => .brk ()) := by
    intro k
    induction k with
    | zero =>
      intro i hi
      have : i = l.length := by omega
      subst this
      rw [loop_done h2, List.drop_length]
      rfl
    | succ k ih =>
      intro i hi
      have hlt : i < l.length := by omega
      have h3 := h1 i l[i] (List.getElem?_eq_getElem hlt) hlt
      rw [List.drop_eq_getElem_cons hlt, List.find?_cons]
      by_cases hp : p l[i] = true
      · rw [if_pos hp] at h3
        rw [loop_done h3, hp]
      · rw [if_neg hp] at h3
        rw [loop_next h3, ih (i + 1) (by omega)]
        simp only [hp]
  simpa using key l.length 0 (by omega)
theorem loopE {ε σ ρ τ : Type} {body : σ → M (Step σ ρ)} (l : List ε) (mk : Nat → τ → σ) (I : Nat → τ → Prop) (Q : ρ → Prop)
    (h1 : ∀ (i : Nat) (x : ε) (t : τ), l[i]? = some x → i < l.length → I i t → ∃ t', body (mk i t) = pure (.next (mk (i + 1) t')) ∧ I (i + 1) t')
    (h2 : ∀ t, I l.length t → ∃ r, body (mk l.length t) = pure (.done r) ∧ Q r) (t0 : τ) (h0 : I 0 t0) : ∃ r, loop body (mk 0 t0) = pure r ∧ Q r := by
  have key : ∀ k i t, i + k = l.length → I i t → ∃ r, loop body (mk i t) = pure r ∧ Q r := by
    intro k
    induction k with
    | zero =>
      intro i t hi hI
      have : i = l.length := by omega
      subst this
      obtain ⟨r, h3, h4⟩ := h2 t hI
      exact ⟨r, loop_done h3, h4⟩
    | succ k ih =>
      intro i t hi hI
      have hlt : i < l.length := by omega
      obtain ⟨t', h3, h4⟩ := h1 i l[i] t (List.getElem?_eq_getElem hlt) hlt hI
      rw [loop_next h3]
      exact ih (i + 1) t' (by omega) h4
  exact key l.length 0 t0 (by omega) h0

def SrtM (l : List TMember) : Prop := l.Pairwise fun x y => x.dev < y.dev
theorem srtM_ext : ∀ {l l' : List TMember}, SrtM l → SrtM l' → (∀ d, d ∈ l ↔ d ∈ l') → l = l'
  | [], [], _, _, _ => rfl
  | [], y :: r, _, _, h => by have := (h y).2 (by simp); simp at this
  | x :: r, [], _, _, h => by have := (h x).1 (by simp); simp at this
  | x :: r, y :: t, h1, h2, h => by
    have hx := (h x).1 (by simp)
    have hy := (h y).2 (by simp)
    have e : x = y := by
      rcases List.mem_cons.1 hx with e | hx
      · exact e
      · rcases List.mem_cons.1 hy with e | hy
        · exact e.symm
        · have a1 := (List.pairwise_cons.1 h2).1 x hx
          have a2 := (List.pairwise_cons.1 h1).1 y hy
          omega
    subst e
    congr 1
    refine srtM_ext (List.pairwise_cons.1 h1).2 (List.pairwise_cons.1 h2).2 fun d => ?_
    have h3 := h d
    simp only [List.mem_cons] at h3
    constructor
    · intro hd
      rcases h3.1 (.inr hd) with e | h4
      · have := (List.pairwise_cons.1 h1).1 d hd
        rw [e] at this; omega
      · exact h4
    · intro hd
      rcases h3.2 (.inr hd) with e | h4
      · have := (List.pairwise_cons.1 h2).1 d hd
        rw [e] at this; omega
      · exact h4
theorem srtM_devs {l : List TMember} (h : SrtM l) : (l.map (·.dev)).Nodup := by
  unfold List.Nodup
  rw [List.pairwise_map]
  exact h.imp fun {a b} h => by omega
theorem srtM_of {s : List TMember} (hn : (s.map (·.dev)).Nodup) (h : s.Pairwise fun x y => ltMember y x = false) : SrtM s := by
  unfold List.Nodup at hn
  rw [List.pairwise_map] at hn
  refine (hn.and h).imp fun {a b} ⟨h1, h2⟩ => ?_
  unfold ltMember at h2
  have := of_decide_eq_false h2
  omega
theorem srt_wpM {l : List TMember} {Q : List TMember → Prop} (h : ∀ s, s.Perm l → (s.Pairwise fun x y => ltMember y x = false) → Q s) : (srt ltMember l).wp Q := by
  refine ⟨⟨l.mergeSort (fun x y => !ltMember y x), List.mergeSort_perm _ _, ?_⟩, fun s ⟨h1, h2⟩ => h s h1 h2⟩
  refine (List.pairwise_mergeSort (fun a b c h1 h2 => ?_) (fun a b => ?_) l).imp fun {x y} h => by simpa using h
  · simp [ltMember] at h1 h2 ⊢; omega
  · simp [ltMember]; omega

def ent (e : TMember) : Int × TMember := (e.dev, e)
theorem ent_inj {a b : TMember} (h : ent a = ent b) : a = b := (Prod.mk.inj h).2
theorem mem_ent {l : List TMember} {k : Int × TMember} : k ∈ l.map ent ↔ k.2 ∈ l ∧ k.1 = k.2.dev := by
  rw [List.mem_map]
  constructor
  · rintro ⟨e, h, rfl⟩; exact ⟨h, rfl⟩
  · rintro ⟨h1, h2⟩; exact ⟨k.2, h1, by unfold ent; rw [← h2]⟩
/-- A map has just the members of a list, under their numbers. -/
def Holds (m : List (Int × TMember)) (l : List TMember) : Prop := m.Perm (l.map ent)
theorem Holds.keys {m : List (Int × TMember)} {l : List TMember} (h : Holds m l) (hs : SrtM l) : (m.map (·.1)).Nodup := by
  have h1 := h.map (·.1)
  rw [List.map_map] at h1
  exact h1.nodup_iff.2 (srtM_devs hs)
theorem Holds.mem {m : List (Int × TMember)} {l : List TMember} (h : Holds m l) {k : Int × TMember} : k ∈ m ↔ k.2 ∈ l ∧ k.1 = k.2.dev := by rw [h.mem_iff, mem_ent]
theorem Holds.len {m : List (Int × TMember)} {l : List TMember} (h : Holds m l) : m.length = l.length := by rw [h.length_eq, List.length_map]
theorem nodup_ent {l : List TMember} (h : SrtM l) : (l.map ent).Nodup := by
  unfold List.Nodup
  rw [List.pairwise_map]
  exact h.imp fun {a b} h e => by rw [ent_inj e] at h; omega
theorem holds_of {m : List (Int × TMember)} {l : List TMember} (hn : (m.map (·.1)).Nodup) (hs : SrtM l) (h : ∀ k, k ∈ m ↔ k.2 ∈ l ∧ k.1 = k.2.dev) : Holds m l := by
  have hm : m.Nodup := by
    unfold List.Nodup at hn ⊢
    rw [List.pairwise_map] at hn
    exact hn.imp fun {a b} h e => h (by rw [e])
  exact (List.perm_ext_iff_of_nodup hm (nodup_ent hs)).2 fun k => by rw [h, mem_ent]
def atD (d : Int) (x : TMember) : Bool := decide (x.dev = d)
theorem Holds.get {m : List (Int × TMember)} {l : List TMember} (h : Holds m l) (hs : SrtM l) (d : Int) : AL.get m d = l.find? (atD d) := by
  cases hf : l.find? (atD d) with
  | some x =>
    have h1 := List.mem_of_find?_eq_some hf
    have h2 : x.dev = d := of_decide_eq_true (p := x.dev = d) (List.find?_some (p := atD d) hf)
    exact AL.mem_get (h.keys hs) (h.mem.2 ⟨h1, h2.symm⟩)
  | none =>
    refine AL.get_none.2 fun hk => ?_
    obtain ⟨k, hk1, hk2⟩ := List.mem_map.1 hk
    obtain ⟨h1, h2⟩ := h.mem.1 hk1
    have := List.find?_eq_none.1 hf k.2 h1
    exact this (decide_eq_true (by rw [← h2, hk2]))
theorem srtM_filter {l : List TMember} (h : SrtM l) (p : TMember → Bool) : SrtM (l.filter p) := h.sublist List.filter_sublist
/-- All but one. -/
def notD (d : Int) (x : TMember) : Bool := !decide (x.dev = d)
theorem Holds.del {m : List (Int × TMember)} {l : List TMember} (h : Holds m l) (hs : SrtM l) (d : Int) : Holds (AL.del m d) (l.filter (notD d)) :=
  holds_of ((h.keys hs).sublist ((del_sub m d).map _)) (srtM_filter hs _) fun k => by
    rw [mem_del (h.keys hs), h.mem, List.mem_filter]
    unfold notD
    constructor
    · rintro ⟨⟨h1, h2⟩, h3⟩; exact ⟨⟨h1, by rw [h2] at h3; simp [h3]⟩, h2⟩
    · rintro ⟨⟨h1, h3⟩, h2⟩; exact ⟨⟨h1, h2⟩, by rw [h2]; simpa using h3⟩
theorem srtM_snoc {l : List TMember} (hs : SrtM l) {a : TMember} (h : ∀ x ∈ l, x.dev < a.dev) : SrtM (l ++ [a]) :=
  List.pairwise_append.2 ⟨hs, List.pairwise_singleton _ _, fun x hx y hy => by rw [List.mem_singleton.1 hy]; exact h x hx⟩
theorem Holds.snoc {m : List (Int × TMember)} {l : List TMember} (h : Holds m l) (hs : SrtM l) {a : TMember} (hl : ∀ x ∈ l, x.dev < a.dev) : Holds (AL.set m a.dev a) (l ++ [a]) :=
  holds_of (AL.nodup_set (h.keys hs) _ _) (srtM_snoc hs hl) fun k => by
    rw [mem_set (h.keys hs), h.mem, List.mem_append, List.mem_singleton]
    constructor
    · rintro (⟨⟨h1, h2⟩, h3⟩ | h1)
      · exact ⟨.inl h1, h2⟩
      · subst h1; exact ⟨.inr rfl, rfl⟩
    · rintro ⟨h1 | h1, h2⟩
      · have := hl k.2 h1; exact .inl ⟨⟨h1, h2⟩, by omega⟩
      · exact .inr (by rw [← h1, ← h2])

theorem none_eq (e la : Int) (A : A16) (nl : Bool) (m : List (Int × TMember)) : roster_Roster_none_o e la A nl m = pure (decide (e = 0)) := rfl
theorem none_ff {e : Int} (he : 1 ≤ e) (la : Int) (A : A16) (nl : Bool) (m : List (Int × TMember)) : roster_Roster_none_o e la A nl m = pure false := by
  rw [none_eq, decide_eq_false (by omega)]
theorem Members_eq {e la : Int} {A : A16} {nl : Bool} {m : List (Int × TMember)} {l : List TMember} (he : 1 ≤ e) (hm : Holds m l) (hs : SrtM l) (hl : l.length ≤ 1000000000) : roster_Roster_Members_o e la A nl m = pure l := by
  unfold roster_Roster_Members_o
  rw [none_ff he, det_pure, pure_bind]
  refine eq_pure ?_
  show ((loop _ _).bind _).wp _
  refine M.loopM (body := roster_Roster_Members_o_l0 m) m (fun L (t : List TMember) => (L, t)) (fun t e => need ((t.length + 1) * 16 ≤ 140737488355328) (pure (t ++ [e.2]))) (fun t => pure t)
    (fun l t => t = l.map (·.2)) _ (fun L t hL => ?_) (fun l t y ht hlen hy => ?_) (fun q t hq ht => ?_) [] rfl
  · show need _ ((nxt _ _).bind _) = need _ ((nxt _ _).bind _)
    refine congrArg (fun k => need _ ((nxt _ _).bind k)) (funext fun o => ?_)
    cases o with
    | none => rfl
    | some i => rfl
  · have := hm.len
    subst ht
    exact ⟨_, need_true (by rw [List.length_map]; omega) _, by simp⟩
  · subst ht
    have hp : (q.map (·.2)).Perm l := by
      have := (hq.trans hm).map (·.2)
      rw [List.map_map] at this
      simpa [Function.comp_def, ent] using this
    show (need _ _).wp _
    rw [need_true (by rw [hp.length_eq]; omega)]
    refine srt_wpM fun s h1 h2 => ?_
    show s = l
    have h3 := h1.trans hp
    exact srtM_ext (srtM_of ((h3.map (·.dev)).nodup_iff.2 (srtM_devs hs)) h2) hs fun d => h3.mem_iff
def zM : TMember := ⟨0, 0, 0⟩
def fnd (p : TMember → Bool) (l : List TMember) : TMember × Bool := match l.find? p with | some x => (x, true) | none => (zM, false)
def atS (s : Int) (x : TMember) : Bool := decide (x.slot = s)
theorem fnd_some {p : TMember → Bool} {l : List TMember} (h : (fnd p l).2 = true) : (fnd p l).1 ∈ l ∧ p (fnd p l).1 = true := by
  unfold fnd at h ⊢
  cases hf : l.find? p with
  | some x => exact ⟨List.mem_of_find?_eq_some hf, List.find?_some hf⟩
  | none => rw [hf] at h; cases h
theorem fnd_none {p : TMember → Bool} {l : List TMember} (h : (fnd p l).2 = false) : (fnd p l).1 = zM ∧ ∀ x ∈ l, p x = false := by
  unfold fnd at h ⊢
  cases hf : l.find? p with
  | some x => rw [hf] at h; cases h
  | none => exact ⟨rfl, fun x hx => by simpa using List.find?_eq_none.1 hf x hx⟩
theorem find_loop {body : Int → M (Step Int (Ex Unit (TMember × Bool)))} (l : List TMember) (p : TMember → Bool) (hl : l.length ≤ 1000000000)
    (hb : ∀ i : Int, body i = cond (decide (i < (l.length : Int))) ((idx l i).bind fun x => cond (p x) (pure (.done (.ret (x, true)))) (pure (.next (IntKind.i64.wrap (i + 1))))) (pure (.done (.brk ())))) :
    (loop body 0).bind (exk fun _ => pure (zM, false)) = pure (fnd p l) := by
  rw [loopFind (body := body) l p (fun x => (x, true)) (fun i x hx hi => ?_) ?_]
  · rw [pure_bind]
    unfold fnd
    cases l.find? p <;> rfl
  · rw [hb, decide_eq_false (by omega), cond_false]
  · rw [hb, decide_eq_true (by omega), cond_true, idx_nat hx, pure_bind, wSucc (by omega)]
    cases p x <;> rfl
theorem Of_eq {e la : Int} {A : A16} {nl : Bool} {m : List (Int × TMember)} {l : List TMember} (he : 1 ≤ e) (hm : Holds m l) (hs : SrtM l) (hl : l.length ≤ 1000000000) (s : Int) : roster_Roster_Of_o s e la A nl m = pure (fnd (atS s) l) := by
  unfold roster_Roster_Of_o
  rw [Members_eq he hm hs hl, det_pure, pure_bind]
  exact find_loop l (atS s) hl fun i => rfl
theorem has_eq {m : List (Int × TMember)} {l : List TMember} (hm : Holds m l) (hs : SrtM l) (d : Int) : AL.has m d = (fnd (atD d) l).2 := by
  unfold AL.has fnd
  rw [hm.get hs]
  cases l.find? (atD d) <;> rfl
/-- A roster has just what the document's has. -/
structure Rep (n : Nat) (x : R26Roster) (m : List (Int × TMember)) : Prop where
  e1 : 1 ≤ x.epoch
  e2 : x.epoch ≤ 1000000000000000000
  l1 : 0 ≤ x.last
  l2 : x.last ≤ 65535
  hm : Holds m x.l
  hs : SrtM x.l
  hb : ∀ a ∈ x.l, 1 ≤ a.dev ∧ a.dev ≤ x.last
  len : x.l.length ≤ n
  n9 : n ≤ 1000
theorem wE {e : Int} (h1 : 1 ≤ e) (h2 : e ≤ 1000000000000000000) : IntKind.u64.wrap (e + 1) = e + 1 := wU64 (by omega) (by omega)
theorem wL {e : Int} (h1 : 0 ≤ e) (h2 : e ≤ 65535) (h3 : e ≠ 65535) : IntKind.u16.wrap (e + 1) = e + 1 := wU16 (by omega) (by omega)
def newM (x : R26Roster) (s t : Int) : TMember := ⟨x.last + 1, s, t⟩
def addR (x : R26Roster) (s t : Int) : R26Roster := ⟨x.epoch + 1, x.last + 1, x.l.filter (notD (fnd (atS s) x.l).1.dev) ++ [newM x s t], AR.set x.tries s.toNat t⟩
def joinS (x : R26Roster) (s t : Int) : R26Roster × TMember × Int × Int :=
  cond (decide (16 ≤ s) || decide (t = 0)) (x, zM, 0, 1)
    (cond (decide (t < AR.get x.tries s.toNat) || (decide (t = AR.get x.tries s.toNat) && !(fnd (atS s) x.l).2)) (x, zM, 0, 11)
      (cond (decide (t = AR.get x.tries s.toNat)) (x, (fnd (atS s) x.l).1, 0, 0)
        (cond (decide (x.last = 65535)) (x, zM, 0, 8)
          (addR x s t, newM x s t, (fnd (atS s) x.l).1.dev, 0))))
theorem cond_tf (a b c : Bool) : (cond a (pure true) (cond b (pure c) (pure false)) : M Bool) = pure (a || (b && c)) := by cases a <;> cases b <;> rfl
theorem Rep.add {n : Nat} {x : R26Roster} {m : List (Int × TMember)} (h : Rep n x m) (hn : n < 1000) (he : x.epoch < 1000000000000000000) {s t : Int} (hl : x.last ≠ 65535) : Rep (n + 1) (addR x s t) (AL.set (AL.del m (fnd (atS s) x.l).1.dev) (newM x s t).dev (newM x s t)) := by
  have hlt : ∀ y ∈ x.l.filter (notD (fnd (atS s) x.l).1.dev), y.dev < (newM x s t).dev := fun y hy => by
    have := (h.hb y (List.mem_filter.1 hy).1).2
    show y.dev < x.last + 1
    omega
  have h1 := h.e1
  have h2 := h.l1
  have h3 := h.l2
  refine ⟨?_, ?_, ?_, ?_, (h.hm.del h.hs _).snoc (srtM_filter h.hs _) hlt, srtM_snoc (srtM_filter h.hs _) hlt, fun a ha => ?_, ?_, by omega⟩
  · show 1 ≤ x.epoch + 1; omega
  · show x.epoch + 1 ≤ _; omega
  · show 0 ≤ x.last + 1; omega
  · show x.last + 1 ≤ 65535; omega
  · show 1 ≤ a.dev ∧ a.dev ≤ x.last + 1
    rcases List.mem_append.1 ha with ha | ha
    · have := h.hb a (List.mem_filter.1 ha).1; omega
    · rw [List.mem_singleton.1 ha]; show 1 ≤ x.last + 1 ∧ x.last + 1 ≤ x.last + 1; omega
  · have := List.length_filter_le (notD (fnd (atS s) x.l).1.dev) x.l
    have := h.len
    show (x.l.filter _ ++ [_]).length ≤ n + 1
    simp; omega
theorem Rep.up {n k : Nat} {x : R26Roster} {m : List (Int × TMember)} (h : Rep n x m) (hk : n ≤ k) (h9 : k ≤ 1000) : Rep k x m :=
  ⟨h.e1, h.e2, h.l1, h.l2, h.hm, h.hs, h.hb, by have := h.len; omega, h9⟩
theorem Join_eq {n : Nat} {x : R26Roster} {m : List (Int × TMember)} (h : Rep n x m) (hn : n < 1000) (he : x.epoch < 1000000000000000000) {s t : Int} (h0 : 0 ≤ s) :
    ∃ m', roster_Roster_Join_o s t x.epoch x.last x.tries false m = pure ((joinS x s t).2.1, (joinS x s t).2.2.1, (joinS x s t).2.2.2, (joinS x s t).1.epoch, (joinS x s t).1.last, (joinS x s t).1.tries, false, m') ∧ Rep (n + 1) (joinS x s t).1 m' := by
  have hl : x.l.length ≤ 1000000000 := by have := h.len; omega
  have hup := h.up (k := n + 1) (by omega) (by omega)
  unfold roster_Roster_Join_o joinS
  rw [none_ff h.e1, det_pure, pure_bind, cond_false, cond_pure_or, pure_bind]
  cases hc : decide (16 ≤ s) || decide (t = 0) with
  | true => exact ⟨m, rfl, hup⟩
  | false =>
    rw [Bool.or_eq_false_iff] at hc
    have hs : 0 ≤ s ∧ s < ((16 : Nat) : Int) := ⟨h0, by have := of_decide_eq_false hc.1; omega⟩
    rw [cond_false, cond_false, Of_eq h.e1 h.hm h.hs hl, det_pure, pure_bind, need_true hs, cond_tf, pure_bind]
    cases decide (t < AR.get x.tries s.toNat) || (decide (t = AR.get x.tries s.toNat) && !(fnd (atS s) x.l).2) with
    | true => exact ⟨m, rfl, hup⟩
    | false =>
      rw [cond_false, cond_false]
      cases decide (t = AR.get x.tries s.toNat) with
      | true => exact ⟨m, rfl, hup⟩
      | false =>
        rw [cond_false, cond_false]
        cases hd : decide (x.last = 65535) with
        | true => exact ⟨m, rfl, hup⟩
        | false =>
          have h5 := of_decide_eq_false hd
          rw [cond_false, cond_false, need_true hs, need_true rfl, wE h.e1 h.e2, wL h.l1 h.l2 h5]
          exact ⟨_, rfl, h.add hn he h5⟩
def removeS (x : R26Roster) (d : Int) : R26Roster × Int := cond (!(fnd (atD d) x.l).2) (x, 6) (⟨x.epoch + 1, x.last, x.l.filter (notD d), x.tries⟩, 0)
theorem Remove_eq {n : Nat} {x : R26Roster} {m : List (Int × TMember)} (h : Rep n x m) (he : x.epoch < 1000000000000000000) (d : Int) :
    ∃ m', roster_Roster_Remove_o d x.epoch x.last x.tries false m = pure ((removeS x d).2, (removeS x d).1.epoch, (removeS x d).1.last, (removeS x d).1.tries, false, m') ∧ Rep n (removeS x d).1 m' := by
  unfold roster_Roster_Remove_o removeS
  rw [none_ff h.e1, det_pure, pure_bind, cond_false, has_eq h.hm h.hs]
  cases !(fnd (atD d) x.l).2 with
  | true => exact ⟨m, rfl, h⟩
  | false =>
    rw [cond_false, cond_false, wE h.e1 h.e2]
    refine ⟨_, rfl, ?_, ?_, h.l1, h.l2, h.hm.del h.hs d, srtM_filter h.hs _, fun a ha => h.hb a (List.mem_filter.1 ha).1, Nat.le_trans (List.length_filter_le _ _) h.len, h.n9⟩
    · have := h.e1; show 1 ≤ x.epoch + 1; omega
    · show x.epoch + 1 ≤ _; omega
def checkS (x : R26Roster) (d e : Int) : Int := cond (!(fnd (atD d) x.l).2) 11 (cond (!decide (e = x.epoch)) 10 0)
theorem Check_eq {n : Nat} {x : R26Roster} {m : List (Int × TMember)} (h : Rep n x m) (d e : Int) : roster_Roster_Check_o d e x.epoch x.last x.tries false m = pure (checkS x d e) := by
  unfold roster_Roster_Check_o checkS
  rw [none_ff h.e1, det_pure, pure_bind, cond_false, has_eq h.hm h.hs, cond_pure, cond_pure]
theorem Epoch_eq {n : Nat} {x : R26Roster} {m : List (Int × TMember)} (h : Rep n x m) : roster_Roster_Epoch_o x.epoch x.last x.tries false m = pure x.epoch := by
  unfold roster_Roster_Epoch_o
  rw [none_ff h.e1, det_pure, pure_bind, cond_false]
theorem Last_eq {n : Nat} {x : R26Roster} {m : List (Int × TMember)} (h : Rep n x m) : roster_Roster_Last_o x.epoch x.last x.tries false m = pure x.last := by
  unfold roster_Roster_Last_o
  rw [none_ff h.e1, det_pure, pure_bind, cond_false]
def z16 : A16 := (0, 0, 0, 0, 0, 0, 0, 0, 0, 0, 0, 0, 0, 0, 0, 0)
def newR (e la : Int) (A : A16) : R26Roster := ⟨e, la, [], A⟩
theorem rep_new {e la : Int} {A : A16} (h1 : 1 ≤ e) (h2 : e ≤ 1000000000000000000) (h3 : 0 ≤ la) (h4 : la ≤ 65535) : Rep 0 (newR e la A) [] :=
  ⟨h1, h2, h3, h4, List.Perm.refl _, List.Pairwise.nil, fun a (ha : a ∈ []) => absurd ha List.not_mem_nil, Nat.le_refl _, by omega⟩
theorem works_eq : l26_works = pure true := by
  unfold l26_works
  rw [show roster_New_o = pure ((newR 1 0 z16).epoch, (newR 1 0 z16).last, (newR 1 0 z16).tries, false, []) from rfl, det_pure, pure_bind]
  have r0 : Rep 0 (newR 1 0 z16) [] := rep_new (by omega) (by omega) (by omega) (by omega)
  obtain ⟨m1, e1, r1⟩ := Join_eq r0 (by omega) (by decide) (s := 3) (t := 1) (by omega)
  have q1 : joinS (newR 1 0 z16) 3 1 = (⟨2, 1, [⟨1, 3, 1⟩], AR.set z16 3 1⟩, ⟨1, 3, 1⟩, 0, 0) := by decide
  rw [q1] at e1 r1
  obtain ⟨m2, e2, r2⟩ := Join_eq r1 (by omega) (by decide) (s := 3) (t := 1) (by omega)
  have q2 : joinS ⟨2, 1, [⟨1, 3, 1⟩], AR.set z16 3 1⟩ 3 1 = (⟨2, 1, [⟨1, 3, 1⟩], AR.set z16 3 1⟩, ⟨1, 3, 1⟩, 0, 0) := by decide
  rw [q2] at e2 r2
  obtain ⟨m3, e3, r3⟩ := Join_eq r2 (by omega) (by decide) (s := 3) (t := 2) (by omega)
  have q3 : joinS ⟨2, 1, [⟨1, 3, 1⟩], AR.set z16 3 1⟩ 3 2 = (⟨3, 2, [⟨2, 3, 2⟩], AR.set (AR.set z16 3 1) 3 2⟩, ⟨2, 3, 2⟩, 1, 0) := by decide
  rw [q3] at e3 r3
  have e4 := Epoch_eq r3
  dsimp only at e1 e2 e3 e4 ⊢
  rw [e1, det_pure, pure_bind]
  dsimp only
  rw [e2, det_pure, pure_bind]
  dsimp only
  rw [e3, det_pure, pure_bind]
  dsimp only
  rw [e4, det_pure]
  rfl


theorem fnd_mem {p : TMember → Bool} {l : List TMember} {b : TMember} (h : b ∈ l) (hb : p b = true) : (fnd p l).2 = true := by
  unfold fnd
  cases hf : l.find? p with
  | some x => rfl
  | none => have := List.find?_eq_none.1 hf b h; exact absurd hb this
theorem joinS_cases {n : Nat} {x : R26Roster} {m : List (Int × TMember)} (h : Rep n x m) (s t : Int) :
    (∃ c, c ≠ 0 ∧ joinS x s t = (x, zM, 0, c)) ∨ (∃ b, b ∈ x.l ∧ joinS x s t = (x, b, 0, 0)) ∨ (x.last ≠ 65535 ∧ joinS x s t = (addR x s t, newM x s t, (fnd (atS s) x.l).1.dev, 0)) := by
  unfold joinS
  cases decide (16 ≤ s) || decide (t = 0) with
  | true => exact .inl ⟨1, by decide, rfl⟩
  | false =>
    cases hc : decide (t < AR.get x.tries s.toNat) || (decide (t = AR.get x.tries s.toNat) && !(fnd (atS s) x.l).2) with
    | true => exact .inl ⟨11, by decide, rfl⟩
    | false =>
      cases he : decide (t = AR.get x.tries s.toNat) with
      | true =>
        rw [Bool.or_eq_false_iff, he, Bool.true_and, Bool.not_eq_false'] at hc
        exact .inr (.inl ⟨_, (fnd_some hc.2).1, rfl⟩)
      | false =>
        cases hd : decide (x.last = 65535) with
        | true => exact .inl ⟨8, by decide, rfl⟩
        | false => exact .inr (.inr ⟨of_decide_eq_false hd, rfl⟩)
theorem removeS_cases (x : R26Roster) (d : Int) : removeS x d = (x, 6) ∨ ((fnd (atD d) x.l).2 = true ∧ removeS x d = (⟨x.epoch + 1, x.last, x.l.filter (notD d), x.tries⟩, 0)) := by
  unfold removeS
  cases (fnd (atD d) x.l).2 with
  | true => exact .inr ⟨rfl, rfl⟩
  | false => exact .inl rfl
/-- What was given out and is gone. -/
structure Gone (g : List Bool) (x : R26Roster) : Prop where
  len : g.length = 65536
  on : ∀ d : Nat, g[d]? = some true → (d : Int) ≤ x.last ∧ ∀ a ∈ x.l, a.dev ≠ d
theorem Gone.ff {g : List Bool} {x : R26Roster} (h : Gone g x) {d : Int} (h0 : 0 ≤ d) (h1 : d ≤ 65535) (hd : x.last < d ∨ ∃ a ∈ x.l, a.dev = d) : 0 ≤ d ∧ g[d.toNat]? = some false := by
  refine ⟨h0, ?_⟩
  have hlt : d.toNat < g.length := by rw [h.len]; omega
  rw [List.getElem?_eq_getElem hlt]
  cases hg : g[d.toNat] with
  | false => rfl
  | true =>
    obtain ⟨h2, h3⟩ := h.on d.toNat (by rw [List.getElem?_eq_getElem hlt, hg])
    rcases hd with hd | ⟨a, ha, e⟩
    · omega
    · have := h3 a ha; omega
theorem idxF {g : List Bool} {d : Int} (h : 0 ≤ d ∧ g[d.toNat]? = some false) : idx g d = pure false := idx_eq h.1 h.2
theorem once_loop {n : Nat} {x : R26Roster} {m : List (Int × TMember)} {g : List Bool} (h : Rep n x m) (hg : Gone g x) {was : Int} (h1 : 1 ≤ was) (h2 : was ≤ x.epoch) :
    loop (l26_RosterOnce_l0 x.l g x.last x.epoch x.last x.tries false m was) 0 = pure (.brk (x.last, g, x.epoch, x.last, x.tries, false, m)) := by
  have hl : x.l.length ≤ 1000 := by have := h.len; have := h.n9; omega
  obtain ⟨r, e1, e2⟩ := loopE (body := l26_RosterOnce_l0 x.l g x.last x.epoch x.last x.tries false m was) x.l (fun i (_ : Unit) => (i : Int)) (fun _ _ => True) (fun r => r = .brk (x.last, g, x.epoch, x.last, x.tries, false, m)) (fun i b t hb hi _ => by
    refine ⟨(), ?_, trivial⟩
    have hm := List.mem_of_getElem? hb
    have hd := h.hb b hm
    have h3 := h.l2
    have h4 := h.e2
    have hf := fnd_mem (p := atD b.dev) hm (decide_eq_true rfl)
    have hw : IntKind.u64.wrap (was - 1) = was - 1 := wU64 (by omega) (by omega)
    show cond (decide ((i : Int) < (x.l.length : Int))) _ _ = _
    rw [decide_eq_true (by omega), cond_true, idx_nat hb, pure_bind, need_true (by omega), idxF (hg.ff (by omega) (by omega) (.inr ⟨b, hm, rfl⟩)), pure_bind, cond_false, pure_bind, decide_eq_false (by omega), cond_false, pure_bind, Epoch_eq h, det_pure, pure_bind, Check_eq h, det_pure, pure_bind]
    have c1 : checkS x b.dev x.epoch = 0 := by unfold checkS; rw [hf, decide_eq_true rfl]; rfl
    have c2 : checkS x b.dev (was - 1) = 10 := by unfold checkS; rw [hf, decide_eq_false (by omega)]; rfl
    rw [c1, decide_eq_true rfl, Bool.not_true, cond_false, pure_bind, hw, Check_eq h, det_pure, pure_bind, c2, decide_eq_true rfl, Bool.not_true, pure_bind, cond_false, wSucc (by omega)])
    (fun t _ => ⟨_, by
      show cond (decide ((x.l.length : Int) < (x.l.length : Int))) _ _ = _
      rw [decide_eq_false (by omega)]; rfl, rfl⟩) () trivial
  rw [show ((0 : Nat) : Int) = 0 from rfl] at e1
  rw [e1, e2]
theorem filter_len {l : List TMember} (hs : SrtM l) {b : TMember} (hb : b ∈ l) : (l.filter (notD b.dev)).length + 1 = l.length := by
  induction l with
  | nil => cases hb
  | cons a r ih =>
    obtain ⟨h1, h2⟩ := List.pairwise_cons.1 hs
    rcases List.mem_cons.1 hb with e | hb
    · subst e
      have hr : r.filter (notD b.dev) = r := List.filter_eq_self.2 fun y hy => by
        have := h1 y hy
        unfold notD
        rw [decide_eq_false (by omega)]; rfl
      rw [List.filter_cons, show notD b.dev b = false by unfold notD; rw [decide_eq_true rfl]; rfl, hr]
      rfl
    · have := h1 b hb
      have hn : notD b.dev a = true := by unfold notD; rw [decide_eq_false (by omega)]; rfl
      rw [List.filter_cons, hn, if_pos rfl, List.length_cons, List.length_cons, ih h2 hb]
theorem Gone.sub {g : List Bool} {x x' : R26Roster} (h : Gone g x) (h1 : x.last ≤ x'.last) (h2 : ∀ a ∈ x'.l, a ∈ x.l ∨ x.last < a.dev) : Gone g x' :=
  ⟨h.len, fun d hd => by
    obtain ⟨h3, h4⟩ := h.on d hd
    refine ⟨by omega, fun a ha => ?_⟩
    rcases h2 a ha with h5 | h5
    · exact h4 a h5
    · omega⟩
theorem Gone.put {g : List Bool} {x' : R26Roster} (h : Gone g x') {d : Int} (h0 : 0 ≤ d) (h1 : d ≤ x'.last) (h2 : ∀ a ∈ x'.l, a.dev ≠ d) : Gone (g.set d.toNat true) x' :=
  ⟨by rw [List.length_set]; exact h.len, fun q hq => by
    rw [List.getElem?_set] at hq
    split at hq
    · rename_i e; subst e
      refine ⟨by omega, fun a ha e => h2 a ha (by omega)⟩
    · exact h.on q hq⟩
theorem rosterOnce_eq (l : List L26Act) (hl : ∀ a ∈ l, 0 ≤ a.slot ∧ 0 ≤ a.dev ∧ a.dev ≤ 65535) : l26_RosterOnce l = pure true := by
  unfold l26_RosterOnce
  cases hc : decide (60 < (l.length : Int)) with
  | true => rw [cond_true, works_eq, det_pure, pure_bind]
  | false =>
    have hlen := of_decide_eq_false hc
    rw [cond_false, show roster_New_o = pure ((newR 1 0 z16).epoch, (newR 1 0 z16).last, (newR 1 0 z16).tries, false, []) from rfl, det_pure, pure_bind]
    dsimp only
    have key := loopE (body := l26_RosterOnce_l1 l) l (fun i (y : List Bool × R26Roster × List (Int × TMember)) => (y.2.1.last, (i : Int), y.1, y.2.1.epoch, y.2.1.last, y.2.1.tries, false, y.2.2)) (fun i y => Rep i y.2.1 y.2.2 ∧ y.2.1.epoch ≤ 1 + i ∧ Gone y.1 y.2.1)
      (fun r => ∃ y : List Bool × R26Roster × List (Int × TMember), r = .brk (y.2.1.last, y.2.1.epoch, y.2.1.last, y.2.1.tries, false, y.2.2) ∧ Rep l.length y.2.1 y.2.2) (fun i a y ha hi hI => ?_) (fun y hI => ?_) (List.replicate 65536 false, newR 1 0 z16, [])
      ⟨rep_new (by omega) (by omega) (by omega) (by omega), by show (1 : Int) ≤ 1 + _; omega, by rw [List.length_replicate], fun d hd => by
        rw [List.getElem?_replicate] at hd
        split at hd <;> cases hd⟩
    · obtain ⟨r, e1, y, e2, e3⟩ := key
      subst e2
      show M.bind (loop (l26_RosterOnce_l1 l) ((0 : Int), 0, List.replicate 65536 false, 1, 0, z16, false, [])) _ = _
      have e1' : loop (l26_RosterOnce_l1 l) ((0 : Int), 0, List.replicate 65536 false, 1, 0, z16, false, []) = _ := e1
      rw [e1', pure_bind, exk_brk]
      dsimp only
      rw [Last_eq e3, det_pure, pure_bind, decide_eq_true rfl, cond_true, works_eq, det_pure, pure_bind, pure_bind]
    · obtain ⟨g, x, m⟩ := y
      obtain ⟨hr, he, hg⟩ := hI
      dsimp only at hr he hg ⊢
      obtain ⟨hsl, hd0, hd1⟩ := hl a (List.mem_of_getElem? ha)
      have hxl : x.l.length ≤ 1000000000 := by have := hr.len; omega
      have q1 := hr.e1
      have q2 := hr.l1
      have q3 := hr.l2
      have hw1 : IntKind.u64.wrap (x.epoch + 1) = x.epoch + 1 := wU64 (by omega) (by omega)
      have fin : ∀ (x' : R26Roster) (g' : List Bool) (m' : List (Int × TMember)), Rep (i + 1) x' m' → Gone g' x' → x.epoch ≤ x'.epoch →
          M.bind (M.bind (det (roster_Roster_Members_o x'.epoch x'.last x'.tries false m')) fun y397 => loop (l26_RosterOnce_l0 y397 g' x'.last x'.epoch x'.last x'.tries false m' x.epoch) 0)
            (exk fun ⟨top324, gone325, v326, v327, ar328, nl329, v330⟩ => pure (.next (top324, (IntKind.i64.wrap ((i : Int) + 1)), gone325, v326, v327, ar328, nl329, v330))) = (pure (.next (x'.last, ((i + 1 : Nat) : Int), g', x'.epoch, x'.last, x'.tries, false, m')) : M (Step _ (Ex (Int × Int × Int × A16 × Bool × (List (Int × TMember))) Bool))) := fun x' g' m' r' hg' hle => by
        rw [Members_eq r'.e1 r'.hm r'.hs (by have := r'.len; omega), det_pure, pure_bind, once_loop r' hg' q1 hle, pure_bind, exk_brk, wSucc (by omega)]
      have hup := hr.up (k := i + 1) (by omega) (by omega)
      suffices hs : ∃ t' : List Bool × R26Roster × List (Int × TMember), l26_RosterOnce_l1 l (x.last, (i : Int), g, x.epoch, x.last, x.tries, false, m) = pure (.next (t'.2.1.last, ((i + 1 : Nat) : Int), t'.1, t'.2.1.epoch, t'.2.1.last, t'.2.1.tries, false, t'.2.2)) ∧ Rep (i + 1) t'.2.1 t'.2.2 ∧ t'.2.1.epoch ≤ 1 + (i + 1 : Nat) ∧ Gone t'.1 t'.2.1 by exact hs
      have h0 : l26_RosterOnce_l1 l (x.last, (i : Int), g, x.epoch, x.last, x.tries, false, m) = cond (decide ((i : Int) < (l.length : Int))) _ _ := rfl
      rw [h0, decide_eq_true (by omega), cond_true, idx_nat ha, pure_bind, Epoch_eq hr, det_pure, pure_bind, Members_eq hr.e1 hr.hm hr.hs hxl, det_pure, pure_bind]
      cases decide (a.kind ≤ 1) with
      | true =>
        obtain ⟨m', e1, e2⟩ := Join_eq hr (by omega) (by omega) (s := a.slot) (t := a.try_) hsl
        rw [cond_true, e1, det_pure, pure_bind]
        dsimp only
        rcases joinS_cases hr a.slot a.try_ with ⟨c, hc0, hj⟩ | ⟨b, hb, hj⟩ | ⟨hla, hj⟩
        · rw [hj] at e2 ⊢
          dsimp only at e2 ⊢
          rw [decide_eq_false hc0, cond_false, pure_bind, cond_false, Epoch_eq e2, det_pure, pure_bind, decide_eq_true rfl, Bool.not_true, cond_false, Members_eq e2.e1 e2.hm e2.hs hxl, det_pure, pure_bind, decide_eq_true rfl, Bool.not_true, cond_false, cond_false, pure_bind, cond_false]
          exact ⟨(g, x, m'), fin x g m' e2 hg (by omega), e2, by show x.epoch ≤ _; omega, hg⟩
        · rw [hj] at e2 ⊢
          dsimp only at e2 ⊢
          have hbd := hr.hb b hb
          rw [decide_eq_true (rfl : (0 : Int) = 0), cond_true, Epoch_eq e2, det_pure, pure_bind, hw1, decide_eq_false (by omega), pure_bind, cond_false, Bool.not_true, pure_bind, decide_eq_true (rfl : x.epoch = x.epoch), Bool.not_true, cond_false, Members_eq e2.e1 e2.hm e2.hs hxl, det_pure, pure_bind, decide_eq_true rfl, Bool.not_true, cond_false, cond_true, cond_false, need_true (by omega), idxF (hg.ff (by omega) (by omega) (.inr ⟨b, hb, rfl⟩)), pure_bind, cond_false, decide_eq_false (by omega), pure_bind, cond_false]
          exact ⟨(g, x, m'), fin x g m' e2 hg (by omega), e2, by show x.epoch ≤ _; omega, hg⟩
        · rw [hj] at e2 ⊢
          dsimp only at e2 ⊢
          have hw2 : IntKind.u16.wrap (x.last + 1) = x.last + 1 := wL q2 q3 hla
          have hsub : ∀ a' ∈ (addR x a.slot a.try_).l, (a' ∈ x.l ∧ a'.dev ≠ (fnd (atS a.slot) x.l).1.dev) ∨ x.last < a'.dev := fun a' h => by
            rcases List.mem_append.1 h with h | h
            · obtain ⟨h5, h6⟩ := List.mem_filter.1 h
              exact .inl ⟨h5, by unfold notD at h6; simpa using h6⟩
            · rw [List.mem_singleton.1 h]; exact .inr (by show x.last < x.last + 1; omega)
          have hg1 : Gone g (addR x a.slot a.try_) := hg.sub (by show x.last ≤ x.last + 1; omega) fun a' h => (hsub a' h).imp (fun h => h.1) id
          rw [decide_eq_true (rfl : (0 : Int) = 0), cond_true, Epoch_eq e2, det_pure, pure_bind, hw1, show decide ((addR x a.slot a.try_).epoch = x.epoch + 1) = true from decide_eq_true rfl, pure_bind, cond_true, hw2, show decide ((newM x a.slot a.try_).dev = x.last + 1) = true from decide_eq_true rfl, Bool.not_true, cond_false]
          cases hf : (fnd (atS a.slot) x.l).2 with
          | true =>
            have hb := (fnd_some hf).1
            have hbd := hr.hb _ hb
            rw [decide_eq_false (by omega), Bool.not_false, cond_true, need_true (by omega), idxF (hg.ff (by omega) (by omega) (.inr ⟨_, hb, rfl⟩)), pure_bind, pure_bind, cond_false, cond_true, need_true (by omega), pure_bind]
            have hg2 := hg1.put (d := (fnd (atS a.slot) x.l).1.dev) (by omega) (by show _ ≤ x.last + 1; omega) fun a' h => by
              rcases hsub a' h with h | h
              · exact h.2
              · omega
            exact ⟨(_, addR x a.slot a.try_, m'), fin (addR x a.slot a.try_) _ m' e2 hg2 (by show x.epoch ≤ x.epoch + 1; omega), e2, by show x.epoch + 1 ≤ _; omega, hg2⟩
          | false =>
            rw [(fnd_none hf).1, show decide (zM.dev = 0) = true from rfl, Bool.not_true, cond_false, pure_bind, cond_false, cond_false]
            exact ⟨(g, addR x a.slot a.try_, m'), fin (addR x a.slot a.try_) _ m' e2 hg1 (by show x.epoch ≤ x.epoch + 1; omega), e2, by show x.epoch + 1 ≤ _; omega, hg1⟩
      | false =>
        obtain ⟨m', e1, e2⟩ := Remove_eq hr (by omega) a.dev
        rw [cond_false, e1, det_pure, pure_bind]
        dsimp only
        rcases removeS_cases x a.dev with hj | ⟨hf, hj⟩
        · rw [hj] at e2 ⊢
          dsimp only at e2 ⊢
          rw [show decide ((6 : Int) = 0) = false from rfl, cond_false, Epoch_eq e2, det_pure, pure_bind, decide_eq_true rfl, Bool.not_true, cond_false]
          have e3 := e2.up (k := i + 1) (by omega) (by omega)
          exact ⟨(g, x, m'), fin x g m' e3 hg (by omega), e3, by show x.epoch ≤ _; omega, hg⟩
        · rw [hj] at e2 ⊢
          dsimp only at e2 ⊢
          obtain ⟨hb, hbd⟩ := fnd_some hf
          have hbe : (fnd (atD a.dev) x.l).1.dev = a.dev := of_decide_eq_true hbd
          have hb2 := hr.hb _ hb
          rw [hbe] at hb2
          have hfl := filter_len hr.hs hb
          rw [hbe] at hfl
          have hg1 : Gone g ⟨x.epoch + 1, x.last, x.l.filter (notD a.dev), x.tries⟩ := hg.sub (Int.le_refl _) fun a' h => .inl (List.mem_filter.1 h).1
          have hg2 := hg1.put (d := a.dev) hd0 hb2.2 fun a' h => by
            have h6 := (List.mem_filter.1 h).2
            unfold notD at h6
            simpa using h6
          have e3 := e2.up (k := i + 1) (by omega) (by omega)
          have hE := Epoch_eq e2
          have hM := Members_eq (e := x.epoch + 1) (la := x.last) (A := x.tries) (nl := false) e2.e1 e2.hm e2.hs (by have := e2.len; omega)
          dsimp only at hE hM
          rw [show decide ((0 : Int) = 0) = true from rfl, cond_true, need_true (by omega), idxF (hg.ff hd0 (by omega) (.inr ⟨_, hb, hbe⟩)), pure_bind, cond_false, hE, det_pure, pure_bind, hw1, decide_eq_true rfl, Bool.not_true, cond_false, hM, det_pure, pure_bind, wI64 (by omega) (by omega), decide_eq_true (by omega), Bool.not_true, pure_bind, cond_false, need_true (by omega), pure_bind]
          exact ⟨(_, ⟨x.epoch + 1, x.last, x.l.filter (notD a.dev), x.tries⟩, m'), fin _ _ m' e3 hg2 (by show x.epoch ≤ x.epoch + 1; omega), e3, by show x.epoch + 1 ≤ _; omega, hg2⟩
    · obtain ⟨g, x, m⟩ := y
      refine ⟨_, ?_, (g, x, m), rfl, hI.1⟩
      show cond (decide ((l.length : Int) < (l.length : Int))) _ _ = _
      rw [decide_eq_false (by omega)]; rfl


end Go.Ep.M.H

namespace Go.Ep
open Go.RowKit Go.ChangeShapes Go.WideShapes

abbrev All : Nat → Prop := fun _ => True

mutual
/-- How many values and letters a reading holds. -/
def bulk {H : Type} : DataW H → Nat
  | .lit (.string bytes) => bytes.length + 1
  | .lit _ => 1
  | .nil => 1
  | .ptr d => bulk d + 1
  | .slice elems spare => bulkAll elems + bulkAll spare + 1
  | .agg parts => bulkAll parts + 1
  | .iface _ d => bulk d + 1
  | .map entries => bulkEntries entries + 1
  | .held _ => 1
def bulkAll {H : Type} : List (DataW H) → Nat
  | [] => 0
  | d :: r => bulk d + bulkAll r
def bulkEntries {H : Type} : List (Lit × DataW H) → Nat
  | [] => 0
  | x :: r => bulkEntry x + bulkEntries r
def bulkEntry {H : Type} : Lit × DataW H → Nat
  | (.string bytes, d) => bytes.length + bulk d + 1
  | (_, d) => bulk d + 1
end
theorem one_bulk {H : Type} (d : DataW H) : 1 ≤ bulk d := by
  cases d with
  | lit l => cases l <;> simp [bulk]
  | nil => simp [bulk]
  | ptr d => simp [bulk]
  | slice elems spare => simp [bulk]
  | agg parts => simp [bulk]
  | iface t d => simp [bulk]
  | map entries => simp [bulk]
  | held h => simp [bulk]
theorem bulkAll_app {H : Type} (l r : List (DataW H)) : bulkAll (l ++ r) = bulkAll l + bulkAll r := by
  induction l with
  | nil => simp [bulkAll]
  | cons x l ih => simp only [List.cons_append, bulkAll, ih]; omega
def szL {α : Type} (sz : α → Nat) : List α → Nat
  | [] => 0
  | a :: r => sz a + szL sz r
theorem szL_app {α : Type} (sz : α → Nat) (l r : List α) : szL sz (l ++ r) = szL sz l + szL sz r := by
  induction l with
  | nil => simp [szL]
  | cons x l ih => simp only [List.cons_append, szL, ih]; omega
/-- What is read at this type is data of this kind. -/
structure Opn (P : Program) (t : TypeId) (k : Nat) {α : Type} (enc : α → List DV) (ok : α → Prop) (sz : α → Nat) : Prop where
  cells : P.cellsOf t = k
  op : ∀ {H : Type} {en : TypeId × Value → H} {w : World} {fuel : Nat} {cs : List Value} {x : DataW H × List MemPlace}, DataW.trod en P w 0 (fun _ => true) true fuel t cs = some x →
    ∃ a, ok a ∧ cs.length = k ∧ (enc a).length = k ∧ (∀ (j : Nat) (y : DV) (u : Value), (enc a)[j]? = some y → cs[j]? = some u → DRd w All y u) ∧ sz a ≤ bulk x.1

section
variable {P : Program} {t : TypeId}

theorem Opn.map {k : Nat} {α β : Type} {enc : α → List DV} {enc' : β → List DV} {ok : α → Prop} {ok' : β → Prop} {sz : α → Nat} {sz' : β → Nat} (h : Opn P t k enc ok sz) (f : α → β) (he : ∀ a, ok a → enc' (f a) = enc a) (ho : ∀ a, ok a → ok' (f a)) (hz : ∀ a, sz' (f a) ≤ sz a) : Opn P t k enc' ok' sz' :=
  ⟨h.cells, fun hx => let ⟨a, h1, h2, h3, h4, h5⟩ := h.op hx; ⟨f a, ho a h1, h2, by rw [he a h1]; exact h3, by rw [he a h1]; exact h4, Nat.le_trans (hz a) h5⟩⟩

theorem one_get {w : World} {y : DV} {u : Value} (h : DRd w All y u) : ∀ (j : Nat) (y' : DV) (u' : Value), [y][j]? = some y' → [u][j]? = some u' → DRd w All y' u' := by
  intro j y' u' h1 h2
  cases j with
  | zero => simp at h1 h2; subst h1; subst h2; exact h
  | succ j => simp at h1

def okK (k : IntKind) (n : Int) : Prop := (Lit.int k n).wf = true
theorem Opn.int {k : IntKind} (hu : P.underlying t = some (.int k)) (hc : P.cellsOf t = 1) : Opn P t 1 (eK k) (okK k) (fun _ => 1) := by
  refine ⟨hc, fun {H en w fuel cs x} h => ?_⟩
  cases fuel with
  | zero => simp [DataW.trod] at h
  | succ fuel =>
    unfold DataW.trod at h
    rw [hu] at h
    split at h <;> simp_all
    case h_2 n _ =>
      obtain ⟨⟨h1, h2⟩, _⟩ := h
      subst h1
      refine ⟨n, h2, rfl, ?_, one_bulk _⟩
      intro j y u h1 h3
      exact one_get (.v _ rfl) j y u h1 h3
theorem okU16 {n : Int} (h : okK .u16 n) : 0 ≤ n ∧ n < 65536 := by
  simp [okK, Lit.wf, IntKind.min, IntKind.max, IntKind.signed, IntKind.bits] at h; omega
theorem okU8 {n : Int} (h : okK .u8 n) : 0 ≤ n ∧ n < 256 := by
  simp [okK, Lit.wf, IntKind.min, IntKind.max, IntKind.signed, IntKind.bits] at h; omega
theorem Opn.slice {e : TypeId} {k : Nat} {α : Type} {enc : α → List DV} {ok : α → Prop} {sz : α → Nat} (h : Opn P e k enc ok sz) (hu : P.underlying t = some (.slice e)) (hc : P.cellsOf t = 1) (hk : 0 < k) :
    Opn P t 1 (eL enc) (fun l => l.length ≤ 9223372036854775807 ∧ ∀ a ∈ l, ok a) (fun l => szL sz l + 1) := by
  refine ⟨hc, fun {H en w fuel cs x} hx => ?_⟩
  rcases Deep.open_slice hu hx with ⟨rfl, _⟩ | ⟨a, len, cap, m, n, D, Pl, rfl, _, hl, hm, hmm, hxD, hel⟩
  · exact ⟨[], ⟨Nat.zero_le _, by simp⟩, rfl, rfl, one_get (.nil none 0 (Nat.zero_le _) (fun _ => rfl)), one_bulk _⟩
  simp only [if_true] at hmm
  subst hmm
  rw [h.cells] at hel
  have hcut : ∀ n0, n0 ≤ len → ∃ l : List α, l.length = n0 ∧ (∀ a ∈ l, ok a) ∧ szL sz l ≤ bulkAll ((List.range n0).map D) ∧ ∀ (i : Nat) (b : α), l[i]? = some b → (enc b).length = k ∧ ∀ (j : Nat) (y : DV), (enc b)[j]? = some y → ∃ u, w.cell? (a.add (i * k + j)) = some u ∧ DRd w All y u := by
    intro n0
    induction n0 with
    | zero => intro _; exact ⟨[], rfl, by simp, by simp [szL], by simp⟩
    | succ n0 ih =>
      intro hn
      obtain ⟨l, h1, h2, hz, h3⟩ := ih (by omega)
      obtain ⟨cs', hc', ht'⟩ := hel n0 (by omega)
      obtain ⟨b, hb1, hb2, hb3, hb4, hb5⟩ := h.op ht'
      obtain ⟨_, _, hcell⟩ := World.cells?_some hc'
      refine ⟨l ++ [b], by simp [h1], ?_, by rw [szL_app, List.range_succ, List.map_append, bulkAll_app]; simp only [szL, List.map_cons, List.map_nil, bulkAll]; simp only at hb5; omega, ?_⟩
      · intro a ha
        rcases List.mem_append.1 ha with ha | ha
        · exact h2 a ha
        · simp at ha; subst ha; exact hb1
      · intro i b' hi
        rw [List.getElem?_append] at hi
        split at hi
        · exact h3 i b' hi
        · rename_i hge
          have hi0 : i = n0 := by
            have : i - l.length < 1 := by simpa using (List.getElem?_eq_some_iff.1 hi).1
            omega
          subst hi0
          simp [h1] at hi
          subst hi
          refine ⟨hb3, fun j y hy => ?_⟩
          have hj : j < k := by rw [← hb3]; exact (List.getElem?_eq_some_iff.1 hy).1
          have hcj := hcell j hj
          rw [Deep.add_add] at hcj
          have hu' : cs'[j]? = some (cs'[j]'(by omega)) := List.getElem?_eq_getElem (by omega)
          exact ⟨_, by rw [hcj, hu'], hb4 j y _ hy hu'⟩
  obtain ⟨l, h1, h2, hz, h3⟩ := hcut len (Nat.le_refl _)
  refine ⟨l, ⟨by unfold maxLen at hm; omega, h2⟩, rfl, rfl, one_get ?_, ?_⟩
  rotate_left
  · rw [hxD]; simp only [bulk]; omega
  by_cases h0 : len = 0
  · have : l = [] := List.eq_nil_of_length_eq_zero (by omega)
    subst this
    subst h0
    exact .nil _ _ hm (fun e => by cases e)
  · -- the first cell tells that the address is a plain one
    have hl0 : 0 < l.length := by omega
    obtain ⟨hk0, hc0⟩ := h3 0 _ (List.getElem?_eq_getElem hl0)
    obtain ⟨u0, hu0, _⟩ := hc0 0 _ (List.getElem?_eq_getElem (by omega : 0 < (enc l[0]).length))
    have hspot : a.spot = none := by simpa [Addr.add] using World.cell?_spot hu0
    obtain ⟨b, off, spot⟩ := a
    simp only at hspot
    subst hspot
    have hb : b < w.heap.size := by
      rw [Addr.add_lit] at hu0
      unfold World.cell? at hu0
      cases hh : w.heap[b]? with
      | none => simp [hh] at hu0
      | some o => exact (Array.getElem?_eq_some_iff.1 hh).1
    have hlen : (l.map enc).length = len := by simp [h1]
    rw [← hlen]
    refine .sl _ b off m k (fun i j => (w.cell? ⟨b, off + (i * k + j), none⟩).getD undef) (by omega) hm trivial hb ?_ ?_ ?_
    · intro i cs hi
      rw [List.getElem?_map] at hi
      cases hx : l[i]? with
      | none => simp [hx] at hi
      | some y => simp [hx] at hi; subst hi; exact (h3 i y hx).1
    · intro i j hi hj
      have hil : i < l.length := by simpa using hi
      obtain ⟨e1, e2⟩ := h3 i _ (List.getElem?_eq_getElem hil)
      obtain ⟨u, hu, _⟩ := e2 j _ (List.getElem?_eq_getElem (by omega : j < (enc l[i]).length))
      rw [Addr.add_lit] at hu
      simp [hu]
    · intro i cs j x hi hx
      rw [List.getElem?_map] at hi
      cases hy : l[i]? with
      | none => simp [hy] at hi
      | some y =>
        simp [hy] at hi
        subst hi
        obtain ⟨u, hu, hd⟩ := (h3 i y hy).2 j x hx
        rw [Addr.add_lit] at hu
        simpa [hu] using hd

/-- The fields from offset off on. -/
structure OpnF (P : Program) (fs : List Field) (off k : Nat) {α : Type} (enc : α → List DV) (ok : α → Prop) (sz : α → Nat) : Prop where
  op : ∀ {H : Type} {en : TypeId × Value → H} {w : World} {n : Nat} {cs : List Value} {xs : List (DataW H × List MemPlace)}, xs.length = fs.length →
    (∀ (i : Nat) (f : Field), fs[i]? = some f → DataW.trod en P w 0 (fun _ => true) true n f.type ((cs.drop f.offset).take (P.cellsOf f.type)) = xs[i]?) →
    ∃ a, ok a ∧ (enc a).length = k ∧ (∀ (j : Nat) (y : DV) (u : Value), (enc a)[j]? = some y → cs[off + j]? = some u → DRd w All y u) ∧ sz a ≤ bulkAll (xs.map (·.1))

theorem OpnF.nil (off : Nat) : OpnF P [] off 0 (fun _ : Unit => []) (fun _ => True) (fun _ => 0) := ⟨fun _ _ => ⟨(), trivial, rfl, by simp, Nat.zero_le _⟩⟩
theorem OpnF.cons {f : Field} {fs : List Field} {off k1 k2 : Nat} {α β : Type} {e1 : α → List DV} {o1 : α → Prop} {e2 : β → List DV} {o2 : β → Prop} {z1 : α → Nat} {z2 : β → Nat} (h1 : Opn P f.type k1 e1 o1 z1) (ho : f.offset = off) (h2 : OpnF P fs (off + k1) k2 e2 o2 z2) :
    OpnF P (f :: fs) off (k1 + k2) (fun p : α × β => e1 p.1 ++ e2 p.2) (fun p => o1 p.1 ∧ o2 p.2) (fun p => z1 p.1 + z2 p.2) := by
  refine ⟨fun {H en w n cs xs} hlen hx => ?_⟩
  cases xs with
  | nil => simp at hlen
  | cons x xs =>
    have hx0 := hx 0 f rfl
    simp only [List.getElem?_cons_zero] at hx0
    obtain ⟨a, ha1, ha2, ha3, ha4, ha5⟩ := h1.op hx0
    obtain ⟨b, hb1, hb2, hb3, hb4⟩ := h2.op (xs := xs) (by simpa using hlen) (fun i f' hf => by have := hx (i + 1) f' (by simpa using hf); simpa using this)
    refine ⟨(a, b), ⟨ha1, hb1⟩, by simp [ha3, hb2], ?_, by simp only [List.map_cons, bulkAll]; omega⟩
    intro j y u hy hu
    simp only [List.getElem?_append] at hy
    by_cases hj : j < k1
    · rw [if_pos (by omega)] at hy
      refine ha4 j y u hy ?_
      rw [List.getElem?_take, h1.cells, if_pos hj, List.getElem?_drop, ho]
      exact hu
    · rw [if_neg (by omega), ha3] at hy
      refine hb3 (j - k1) y u hy ?_
      rw [← hu]
      congr 1
      omega
theorem Opn.struct {fs : List Field} {k : Nat} {α : Type} {enc : α → List DV} {ok : α → Prop} {sz : α → Nat} (hu : P.underlying t = some (.struct fs.toArray)) (hc : P.cellsOf t = k) (h : OpnF P fs 0 k enc ok sz) : Opn P t k enc ok (fun a => sz a + 1) := by
  refine ⟨hc, fun {H en w fuel cs x} hx => ?_⟩
  obtain ⟨xs, n, _, hxe, hlen, hxl, hf⟩ := DataW.trod_struct hu hx
  obtain ⟨a, h1, h2, h3, h4⟩ := h.op (cs := cs) (xs := xs) (by simpa using hxl) (fun i f hi => hf i f (by simpa using hi))
  exact ⟨a, h1, by rw [hlen, hc], h2, fun j y u hy hu => h3 j y u hy (by simpa using hu), by rw [hxe]; simp only [bulk]; omega⟩

/-- A one-cell argument. -/
theorem Opn.arg {H : Type} {en : TypeId × Value → H} {w : World} {v : Value} {d : DataW H} {ps : List MemPlace} {α : Type} {enc : α → DV} {ok : α → Prop} {sz : α → Nat} (h : Opn P t 1 (fun a => [enc a]) ok sz)
    (hx : DataW.Trod en P w 0 (fun _ => true) true t v d ps) (h1 : v.oneCell' = true) : ∃ a, ok a ∧ Rd w g0 All (.d (enc a)) v ∧ sz a ≤ bulk d := by
  obtain ⟨fuel, hf⟩ := hx
  obtain ⟨a, ha, _, _, hr, hz⟩ := h.op hf
  have hcs : v.cells.toList = [v] := by cases v <;> first | rfl | (simp [Value.oneCell'] at h1; done)
  exact ⟨a, ha, .d (hr 0 _ v rfl (by rw [hcs]; rfl)), hz⟩
theorem trodAll_below {H : Type} {en : TypeId × Value → H} (hl : laidOutB P = true) {W W' : World} (hb : Below W.heap.size W W') : ∀ {ts : List TypeId} {vs : List Value} {ds : List (DataW H)} {ps : List MemPlace},
    (∀ t ∈ ts, P.readableRec t = true ∧ t < P.types.size) → DataW.TrodAll en P W 0 (fun _ => true) true ts vs ds ps → (∀ x ∈ ps, x.block < W.heap.size) → DataW.TrodAll en P W' 0 (fun b => decide (b < W.heap.size)) true ts vs ds ps
  | [], [], [], ps, _, h, _ => h
  | t :: ts, v :: vs, d :: ds, ps, hr, h, hlt => by
    obtain ⟨p, q, h1, h2, rfl⟩ := h
    have hrt := hr t (by simp)
    exact ⟨p, q, Below.trod hl hrt.1 hrt.2 h1 hb (fun x hx => hlt x (List.mem_append.2 (.inl hx))), trodAll_below hl hb (fun t ht => hr t (by simp [ht])) h2 (fun x hx => hlt x (List.mem_append.2 (.inr hx))), rfl⟩
  | [], [], _ :: _, _, _, h, _ => h.elim
  | [], _ :: _, _, _, _, h, _ => h.elim
  | _ :: _, [], _, _, _, h, _ => h.elim
  | _ :: _, _ :: _, [], _, _, h, _ => h.elim
theorem trodAll_len {H : Type} {en : TypeId × Value → H} {w : World} {base : Nat} {sp : Nat → Bool} {hd : Bool} : ∀ {ts : List TypeId} {vs : List Value} {ds : List (DataW H)} {ps : List MemPlace}, DataW.TrodAll en P w base sp hd ts vs ds ps → ds.length = ts.length
  | [], [], [], _, _ => rfl
  | _ :: _, _ :: _, _ :: _, _, h => by
    obtain ⟨_, _, _, h2, _⟩ := h
    simp [trodAll_len h2]
  | [], [], _ :: _, _, h => h.elim
  | [], _ :: _, _, _, h => h.elim
  | _ :: _, [], _, _, h => h.elim
  | _ :: _, _ :: _, [], _, h => h.elim

/-- 'For every input true; the input reads as it did.' -/
theorem post_true {H : Type} {en : TypeId × Value → H} {fn : Func} {s : ChangeSpec} {tb : TypeId} {W W' : World} {args : Array Value} {ds gs : List (DataW H)} {before : List MemPlace} (hl : laidOutB P = true)
    (hW : DataW.Whole en P fn.params.toList s.vars false W args.toList ds gs before) (hv : s.vars = []) (hs : ∀ ds : List (DataW H), ds.length = fn.params.size → (s.fn H ds).results = [.lit (.bool true)] ∧ (s.fn H ds).args = ds ∧ (s.fn H ds).vars = [])
    (hres : fn.resultTypes = #[tb]) (htb : P.underlying tb = some .bool) (hr : ∀ t ∈ fn.params.toList, P.readableRec t = true ∧ t < P.types.size) (hb : Below W.heap.size W W') :
    s.post en P fn false true false false W args (.bool true) W' := by
  have hW' := hW
  obtain ⟨p, q, hA, hV, hpq, hfz, hnd⟩ := hW
  rw [hv] at hV
  obtain ⟨rfl, rfl⟩ := trodVars_none hV
  simp only [List.append_nil] at hpq
  subst hpq
  have hlt : ∀ x ∈ before, x.block < W.heap.size := fun x hx => by simpa using hW'.lt x hx
  have hlen : ds.length = fn.params.size := by simpa using trodAll_len hA
  obtain ⟨e1, e2, e3⟩ := hs (ds ++ []) (by simpa using hlen)
  refine ⟨ds, [], before, [], before, [], hW', ?_, ?_, ?_, hb.frame _, fun h => by cases h⟩
  · rw [e1, hres]
    exact trodAll_mk1 (shut_bool htb true)
  · rw [e2, List.append_nil]
    exact trodAll_below hl hb hr hA hlt
  · rw [e3, hv]; rfl
end
end Go.Ep

namespace Go.Ep
set_option linter.unusedVariables false

def L26Act.ok (x : L26Act) : Prop := okK .u8 x.kind ∧ okK .u8 x.slot ∧ okK .u64 x.try_ ∧ okK .u16 x.dev ∧ okK .u64 x.epoch
def L26Act.sz (x : L26Act) : Nat := (1 + (1 + (1 + (1 + (1 + 0))))) + 1
def TMember.ok (x : TMember) : Prop := okK .u16 x.dev ∧ okK .u8 x.slot ∧ okK .u64 x.try_
def TMember.sz (x : TMember) : Nat := (1 + (1 + (1 + 0))) + 1
end Go.Ep
namespace Go.Proofs
open Go.Ep
set_option maxRecDepth 100000
theorem opnL26Act : Opn Try.prog 30 5 L26Act.e L26Act.ok L26Act.sz := (Opn.struct Try.underlying30 (by kernel_rfl) (OpnF.cons (Opn.int Try.underlying5 (by kernel_rfl)) rfl (OpnF.cons (Opn.int Try.underlying5 (by kernel_rfl)) rfl (OpnF.cons (Opn.int Try.underlying28 (by kernel_rfl)) rfl (OpnF.cons (Opn.int Try.underlying27 (by kernel_rfl)) rfl (OpnF.cons (Opn.int Try.underlying28 (by kernel_rfl)) rfl (OpnF.nil _))))))).map (fun p => ⟨p.1, p.2.1, p.2.2.1, p.2.2.2.1, p.2.2.2.2.1⟩) (fun _ _ => rfl) (fun p h => ⟨h.1, h.2.1, h.2.2.1, h.2.2.2.1, h.2.2.2.2.1⟩) (fun _ => Nat.le_refl _)
end Go.Proofs


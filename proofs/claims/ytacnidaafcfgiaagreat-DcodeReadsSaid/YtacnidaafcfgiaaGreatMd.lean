/- What a function computes, plainly: a small calculus of results, loops, maps as lists. No program in sight. -/
import GoSem.Core.View
namespace Go.Ep

/-- A computation: what must hold of what it answers, for it to end and answer so. -/
structure M (α : Type) where
  wp : (α → Prop) → Prop
  mono : ∀ {P Q : α → Prop}, (∀ a, P a → Q a) → wp P → wp Q
  meet : ∀ {P Q : α → Prop}, wp P → wp Q → ∃ a, P a ∧ Q a

namespace M
variable {α β γ σ ρ : Type}

theorem ext' {x y : M α} (h : ∀ Q, x.wp Q ↔ y.wp Q) : x = y := by
  obtain ⟨a, _, _⟩ := x
  obtain ⟨b, _, _⟩ := y
  have : a = b := funext fun Q => propext (h Q)
  subst this
  rfl

def pure (a : α) : M α := ⟨fun Q => Q a, fun h p => h _ p, fun p q => ⟨a, p, q⟩⟩
def bind (x : M α) (f : α → M β) : M β :=
  ⟨fun Q => x.wp fun a => (f a).wp Q, fun h p => x.mono (fun a => (f a).mono h) p, fun p q => let ⟨a, h1, h2⟩ := x.meet p q; (f a).meet h1 h2⟩
def fail : M α := ⟨fun _ => False, fun _ h => h, fun h => h.elim⟩
/-- A condition that must hold. -/
def need (p : Prop) (x : M α) : M α := ⟨fun Q => p ∧ x.wp Q, fun h ⟨h1, h2⟩ => ⟨h1, x.mono h h2⟩, fun ⟨_, h1⟩ ⟨_, h2⟩ => x.meet h1 h2⟩
/-- The answer must be one. -/
def det (x : M α) : M α := ⟨fun Q => ∃ a, x.wp (· = a) ∧ Q a, fun h ⟨a, h1, h2⟩ => ⟨a, h1, h a h2⟩, fun ⟨a, h1, h2⟩ ⟨b, h3, h4⟩ => by
  obtain ⟨c, h5, h6⟩ := x.meet h1 h3
  exact ⟨a, h2, by rw [← h5, h6]; exact h4⟩⟩
/-- Whichever that fits. -/
def any (p : α → Prop) : M α := ⟨fun Q => (∃ a, p a) ∧ ∀ a, p a → Q a, fun h ⟨h0, h1⟩ => ⟨h0, fun a ha => h a (h1 a ha)⟩, fun ⟨⟨a, ha⟩, h1⟩ ⟨_, h2⟩ => ⟨a, h1 a ha, h2 a ha⟩⟩

inductive Step (σ ρ : Type) where
  | next (s : σ)
  | done (r : ρ)
/-- Out of a piece of code: on behind it, or away with an answer. -/
inductive Ex (τ α : Type) where
  | brk (t : τ)
  | ret (a : α)
def exk (k : β → M α) : Ex β α → M α
  | .brk t => k t
  | .ret a => pure a

def Step.post (X : σ → Prop) (Q : ρ → Prop) : Step σ ρ → Prop
  | .next s => X s
  | .done r => Q r

def loopP (body : σ → M (Step σ ρ)) (Q : ρ → Prop) (s : σ) : Prop := ∀ X : σ → Prop, (∀ s, (body s).wp (Step.post X Q) → X s) → X s
theorem loopP_in {body : σ → M (Step σ ρ)} {Q : ρ → Prop} {s : σ} (h : (body s).wp (Step.post (loopP body Q) Q)) : loopP body Q s := fun X hX =>
  hX s ((body s).mono (fun o ho => by cases o with | next s' => exact ho X hX | done r => exact ho) h)
theorem loopP_out {body : σ → M (Step σ ρ)} {Q : ρ → Prop} {s : σ} (h : loopP body Q s) : (body s).wp (Step.post (loopP body Q) Q) :=
  h (fun s => (body s).wp (Step.post (loopP body Q) Q)) fun s hs => (body s).mono (fun o ho => by cases o with | next s' => exact loopP_in ho | done r => exact ho) hs
def loop (body : σ → M (Step σ ρ)) (s : σ) : M ρ :=
  ⟨fun Q => loopP body Q s, fun h p X hX => p X fun s hs => hX s ((body s).mono (fun o ho => by cases o with | next s' => exact ho | done r => exact h r ho) hs), fun {P Q} hp => by
    refine hp (fun s => loopP body Q s → ∃ a, P a ∧ Q a) fun s hs hq => ?_
    obtain ⟨o, h1, h2⟩ := (body s).meet hs (loopP_out hq)
    cases o with
    | next s' => exact h1 h2
    | done r => exact ⟨r, h1, h2⟩⟩

/-! ### Laws -/
theorem pure_bind (a : α) (f : α → M β) : (pure a).bind f = f a := rfl
theorem bind_assoc (x : M α) (f : α → M β) (g : β → M γ) : (x.bind f).bind g = x.bind fun a => (f a).bind g := rfl
theorem bind_pure (x : M α) : x.bind pure = x := rfl
theorem fail_bind (f : α → M β) : (fail : M α).bind f = fail := rfl
theorem need_bind (p : Prop) (x : M α) (f : α → M β) : (need p x).bind f = need p (x.bind f) := rfl
theorem need_true {p : Prop} (h : p) (x : M α) : need p x = x := ext' fun _ => ⟨fun h => h.2, fun hx => ⟨h, hx⟩⟩
theorem eq_pure {x : M α} {a : α} (h : x.wp (· = a)) : x = pure a := ext' fun Q =>
  ⟨fun hq => let ⟨b, h1, h2⟩ := x.meet h hq; by subst h1; exact h2, fun hq => x.mono (fun b hb => by subst hb; exact hq) h⟩
theorem eq_pure_iff {x : M α} {a : α} : x.wp (· = a) ↔ x = pure a := ⟨eq_pure, fun h => by rw [h]; rfl⟩
theorem det_pure (a : α) : det (pure a) = pure a := eq_pure ⟨a, rfl, rfl⟩
theorem exk_brk (k : β → M α) (t : β) : exk k (.brk t) = k t := rfl
theorem exk_ret (k : β → M α) (a : α) : exk k (.ret a) = pure a := rfl
theorem loop_eq (body : σ → M (Step σ ρ)) (s : σ) : loop body s = (body s).bind fun o => match o with | .next s' => loop body s' | .done r => pure r := ext' fun Q =>
  ⟨fun h => (body s).mono (fun o ho => by cases o with | next s' => exact ho | done r => exact ho) (loopP_out h), fun h => loopP_in ((body s).mono (fun o ho => by cases o with | next s' => exact ho | done r => exact ho) h)⟩
theorem loop_next {body : σ → M (Step σ ρ)} {s s' : σ} (h : body s = pure (.next s')) : loop body s = loop body s' := by rw [loop_eq, h]; rfl
theorem loop_done {body : σ → M (Step σ ρ)} {s : σ} {r : ρ} (h : body s = pure (.done r)) : loop body s = pure r := by rw [loop_eq, h]; rfl
theorem cond_pure_and (a b : Bool) : (cond a (pure b) (pure false) : M Bool) = pure (a && b) := by cases a <;> rfl
theorem cond_pure_or (a b : Bool) : (cond a (pure true) (pure b) : M Bool) = pure (a || b) := by cases a <;> rfl
theorem cond_pure (a : Bool) (x y : α) : (cond a (pure x) (pure y) : M α) = pure (cond a x y) := by cases a <;> rfl
theorem bind_cond (a : Bool) (x y : M α) (f : α → M β) : (cond a x y).bind f = cond a (x.bind f) (y.bind f) := by cases a <;> rfl
theorem cond_same (a : Bool) (x : M α) : cond a x x = x := by cases a <;> rfl

/-- A loop: what holds at each round's head, and what goes down. -/
theorem loop_inv {body : σ → M (Step σ ρ)} {Q : ρ → Prop} (I : σ → Prop) (mu : σ → Nat) (h : ∀ s, I s → (body s).wp (Step.post (fun s' => I s' ∧ mu s' < mu s) Q)) (s0 : σ) (h0 : I s0) : (loop body s0).wp Q := by
  have key : ∀ n s, mu s = n → I s → loopP body Q s := by
    intro n
    induction n using Nat.strongRecOn with
    | _ n ih =>
      intro s hn hI
      refine loopP_in ((body s).mono (fun o ho => ?_) (h s hI))
      cases o with
      | next s' => exact ih (mu s') (hn ▸ ho.2) s' rfl ho.1
      | done r => exact ho
  exact key _ s0 rfl h0

/-- A loop over numbers up to n. -/
theorem loop_upto {τ : Type} {body : Int × τ → M (Step (Int × τ) ρ)} {n : Nat} (f : τ → Nat → τ) (g : τ → ρ)
    (I : Nat → τ → Prop) (h1 : ∀ (i : Nat) (t : τ), i < n → I i t → body ((i : Int), t) = pure (.next (((i + 1 : Nat) : Int), f t i)) ∧ I (i + 1) (f t i)) (h2 : ∀ t, I n t → body ((n : Int), t) = pure (.done (g t)))
    (t0 : τ) (h0 : I 0 t0) : loop body (0, t0) = pure (g ((List.range n).foldl f t0)) := by
  have key : ∀ k i t, i + k = n → I i t → loop body ((i : Int), t) = pure (g ((List.range' i k).foldl f t)) := by
    intro k
    induction k with
    | zero =>
      intro i t hi hI
      have : i = n := by omega
      subst this
      rw [loop_done (h2 t hI)]
      rfl
    | succ k ih =>
      intro i t hi hI
      obtain ⟨h3, h4⟩ := h1 i t (by omega) hI
      rw [loop_next h3, ih (i + 1) (f t i) (by omega) h4]
      rfl
  have := key n 0 t0 (by omega) h0
  rw [List.range_eq_range']
  exact this

/-- A loop over a list's places. -/
theorem loop_list {ε τ : Type} {body : Int × τ → M (Step (Int × τ) ρ)} (l : List ε) (f : τ → ε → τ) (g : τ → ρ)
    (I : Nat → τ → Prop) (h1 : ∀ (i : Nat) (x : ε) (t : τ), l[i]? = some x → I i t → body ((i : Int), t) = pure (.next (((i + 1 : Nat) : Int), f t x)) ∧ I (i + 1) (f t x)) (h2 : ∀ t, I l.length t → body ((l.length : Int), t) = pure (.done (g t)))
    (t0 : τ) (h0 : I 0 t0) : loop body (0, t0) = pure (g (l.foldl f t0)) := by
  have key : ∀ k i t, i + k = l.length → I i t → loop body ((i : Int), t) = pure (g ((l.drop i).foldl f t)) := by
    intro k
    induction k with
    | zero =>
      intro i t hi hI
      have : i = l.length := by omega
      subst this
      rw [loop_done (h2 t hI), List.drop_length]
      rfl
    | succ k ih =>
      intro i t hi hI
      have hlt : i < l.length := by omega
      obtain ⟨h3, h4⟩ := h1 i l[i] t (List.getElem?_eq_getElem hlt) hI
      rw [loop_next h3, ih (i + 1) _ (by omega) h4, List.drop_eq_getElem_cons hlt]
      rfl
  have := key l.length 0 t0 (by omega) h0
  simpa using this
end M

/-! ### Lists -/
namespace M
variable {α β : Type}
/-- An element. -/
def idx (l : List α) (i : Int) : M α := ⟨fun Q => ∃ y, (0 ≤ i ∧ l[i.toNat]? = some y) ∧ Q y, fun h ⟨y, h1, h2⟩ => ⟨y, h1, h y h2⟩, fun ⟨y, h1, h2⟩ ⟨z, h3, h4⟩ => ⟨y, h2, by have := h1.2.symm.trans h3.2; cases this; exact h4⟩⟩
theorem idx_eq {l : List α} {i : Int} {y : α} (h0 : 0 ≤ i) (h : l[i.toNat]? = some y) : idx l i = pure y := eq_pure ⟨y, ⟨h0, h⟩, rfl⟩
theorem idx_nat {l : List α} {i : Nat} {y : α} (h : l[i]? = some y) : idx l (i : Int) = pure y := idx_eq (by omega) (by simpa using h)
/-- A piece. -/
def cut (l : List α) (lo hi : Int) : M (List α) := need (0 ≤ lo ∧ lo ≤ hi ∧ hi ≤ l.length) (pure ((l.take hi.toNat).drop lo.toNat))
/-- More behind, each of so many bytes. -/
def app (bs : Nat) (l r : List α) : M (List α) := need ((l.length + r.length) * bs ≤ 140737488355328) (pure (l ++ r))
/-- Another element in a place. -/
def upd (l : List α) (i : Int) (y : α) : M (List α) := need (0 ≤ i ∧ i < l.length) (pure (l.set i.toNat y))
end M

/-- A string's bytes; a string of bytes. -/
def bytesL (s : ByteArray) : List Int := s.data.toList.map fun b => (b.toNat : Int)
def strL (l : List Int) : ByteArray := l.foldl (fun r n => r.push (UInt8.ofNat n.toNat)) ByteArray.empty
def bAnd (k : IntKind) (x y : Int) : Int := k.wrap (BitVec.ofInt k.bits x &&& BitVec.ofInt k.bits y).toNat
def bOr (k : IntKind) (x y : Int) : Int := k.wrap (BitVec.ofInt k.bits x ||| BitVec.ofInt k.bits y).toNat
def bXor (k : IntKind) (x y : Int) : Int := k.wrap (BitVec.ofInt k.bits x ^^^ BitVec.ofInt k.bits y).toNat

/-! ### Maps, as lists of what they have -/
namespace AL
variable {κ ν : Type} [DecidableEq κ]
def get : List (κ × ν) → κ → Option ν
  | [], _ => none
  | (k, v) :: r, x => if k = x then some v else get r x
def set : List (κ × ν) → κ → ν → List (κ × ν)
  | [], x, u => [(x, u)]
  | (k, v) :: r, x, u => if k = x then (k, u) :: r else (k, v) :: set r x u
def del : List (κ × ν) → κ → List (κ × ν)
  | [], _ => []
  | (k, v) :: r, x => if k = x then r else (k, v) :: del r x
def getZ (m : List (κ × ν)) (x : κ) (z : ν) : ν := (get m x).getD z
def has (m : List (κ × ν)) (x : κ) : Bool := (get m x).isSome
/-- Rows that grow, by keys. -/
def grow {α : Type} (m : List (κ × List α)) (l : List (κ × List α)) : List (κ × List α) := l.foldl (fun m x => set m x.1 (getZ m x.1 [] ++ x.2)) m
def growOK {α : Type} (bs n : Nat) (l : List (κ × List α)) : Prop := n < 9223372036854775807 ∧ (l.map fun x => x.2.length).sum * bs ≤ 140737488355328
end AL

namespace M
/-- The next entry of a map that is gone over: none, if all came; whichever that has not come, else. -/
def nxt (n : Nat) (L : List Nat) : M (Option Nat) := any fun o => match o with | none => ∀ i, i < n → i ∈ L | some i => i < n ∧ i ∉ L
/-- Is a list nil? At most one without elements is. -/
def isNil {α : Type} (l : List α) : M Bool := any fun b => b = true → l = []
/-- Sorted. -/
def srt {α : Type} (lt : α → α → Bool) (l : List α) : M (List α) := any fun l' => l'.Perm l ∧ l'.Pairwise fun x y => lt y x = false
end M
end Go.Ep

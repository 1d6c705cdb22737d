/- The pure states: values without addresses that stand for what a frame and the memory hold, and the relation between the two. No program in sight. -/
import Derived.WalkKit
namespace Go.Ep
open Go.RowKit

/-- Data that nobody writes any more: a plain value, or a slice of elements, each a list of cells. -/
inductive DV where
  | v (x : Value)
  | sl (l : List (List DV))

instance : Inhabited DV := ⟨.v undef⟩

/-- What a slot holds. -/
inductive PV where
  | junk
  | und
  | d (x : DV)
  | agg (cs : List PV)
  | tup (ps : List PV)
  | ref (id off : Nat)
  | row (id n : Nat)
  | rp (id i off k : Nat)
  | pc (id i n k : Nat)
  | ep (cs : List DV) (off : Nat)
  | mp (id : Nat)
  | md (ks : List IntKind) (ag : Bool) (m : List (List Int × List DV))

instance : Inhabited PV := ⟨.junk⟩

/-- What an object of the call's own holds. -/
inductive Ob where
  | cells (T : TypeId) (cs : List PV)
  | row (T : TypeId) (k : Nat) (l : List (List DV))
  | map (ks : List IntKind) (ag : Bool) (m : List (List Int × List DV)) (bs : List Nat) (ck : Nat)
  | iterO (mid : Nat) (bs : List Nat) (ck : Nat) (L : List Nat)
  | iterD (ks : List IntKind) (ag : Bool) (m : List (List Int × List DV)) (bs : List Nat) (ck : Nat) (L : List Nat)
  | pin (tgt blk n : Nat)
  | mapP (ks : List IntKind) (m : List (List Int × Value)) (ov : Option (Nat × PV)) (bs : List Nat) (ck : Nat)

/-- The slots that are known, the newest first; an older entry of a slot does not count. -/
structure PState where
  n : Nat
  sl : List (Nat × PV)
  objs : List (Nat × Ob)

def getS : List (Nat × PV) → Nat → Option PV
  | [], _ => none
  | (k, p) :: r, i => bif Nat.beq k i then some p else getS r i
def PState.at (s : PState) (i : Nat) : Option PV := bif Nat.blt i s.n then getS s.sl i else none
theorem at_lt {s : PState} {i : Nat} {p : PV} (h : s.at i = some p) : i < s.n := by
  unfold PState.at at h
  cases hb : Nat.blt i s.n with
  | true => simpa [Nat.blt_eq] using hb
  | false => simp [hb] at h
theorem at_get {s : PState} {i : Nat} {p : PV} (h : s.at i = some p) : getS s.sl i = some p := by
  unfold PState.at at h
  cases hb : Nat.blt i s.n with
  | true => simpa [hb] using h
  | false => simp [hb] at h
theorem at_of {s : PState} {i : Nat} {p : PV} (hi : i < s.n) (h : getS s.sl i = some p) : s.at i = some p := by
  unfold PState.at
  have : Nat.blt i s.n = true := by simpa [Nat.blt_eq] using hi
  simp [this, h]
theorem getS_cons (k i : Nat) (p : PV) (r : List (Nat × PV)) : getS ((k, p) :: r) i = if k = i then some p else getS r i := by
  show (bif Nat.beq k i then some p else getS r i) = _
  by_cases h : k = i
  · subst h; simp
  · have : Nat.beq k i = false := by
      cases hb : Nat.beq k i with
      | false => rfl
      | true => exact absurd (Nat.eq_of_beq_eq_true hb) h
    rw [this, if_neg h]; rfl
theorem getS_mem : ∀ {l : List (Nat × PV)} {i : Nat} {p : PV}, getS l i = some p → (i, p) ∈ l
  | [], _, _, h => by simp [getS] at h
  | (k, q) :: r, i, p, h => by
    rw [getS_cons] at h
    by_cases hk : k = i
    · subst hk; simp at h; subst h; simp
    · rw [if_neg hk] at h; exact List.mem_cons_of_mem _ (getS_mem h)

def look : List (Nat × Ob) → Nat → Option Ob
  | [], _ => none
  | (k, o) :: r, id => if id = k then some o else look r id

def putO (id : Nat) (o : Ob) : List (Nat × Ob) → List (Nat × Ob)
  | [] => [(id, o)]
  | (k, p) :: r => if id = k then (k, o) :: r else if id < k then (id, o) :: (k, p) :: r else (k, p) :: putO id o r

def delO (id : Nat) : List (Nat × Ob) → List (Nat × Ob)
  | [] => []
  | (k, p) :: r => if id = k then delO id r else (k, p) :: delO id r

theorem look_putO (id : Nat) (o : Ob) (j : Nat) : ∀ l, look (putO id o l) j = if j = id then some o else look l j
  | [] => by simp [putO, look]
  | (k, p) :: r => by
    unfold putO
    by_cases h : id = k
    · subst h
      simp only [if_true, look]
      by_cases hj : j = id <;> simp [hj]
    · by_cases h2 : id < k
      · simp only [h, h2, if_true, if_false, look]
      · simp only [h, h2, if_false, look, look_putO id o j r]
        by_cases hj : j = k
        · subst hj; simp [Ne.symm h]
        · simp [hj]

theorem look_delO (id j : Nat) : ∀ l, look (delO id l) j = if j = id then none else look l j
  | [] => by simp [delO, look]
  | (k, p) :: r => by
    unfold delO
    by_cases h : id = k
    · subst h
      simp only [if_true, look, look_delO id j r]
      by_cases hj : j = id <;> simp [hj]
    · simp only [h, if_false, look, look_delO id j r]
      by_cases hj : j = k
      · subst hj; simp [Ne.symm h]
      · simp [hj]

def PState.put (s : PState) (d : Nat) (p : PV) : PState := { s with sl := (d, p) :: s.sl }
theorem put_at (s : PState) (d : Nat) (p : PV) (i : Nat) (q : PV) (h : (s.put d p).at i = some q) : (d = i ∧ q = p) ∨ (d ≠ i ∧ s.at i = some q) := by
  have hlt := at_lt h
  have hg := at_get h
  simp only [PState.put, getS_cons] at hg
  by_cases hd : d = i
  · rw [if_pos hd] at hg; exact .inl ⟨hd, by simpa using hg.symm⟩
  · rw [if_neg hd] at hg; exact .inr ⟨hd, at_of hlt hg⟩
def PState.putD (s : PState) (d : Option Nat) (p : PV) : PState := match d with | some d => s.put d p | none => s

/-- A slot's value as an operand. -/
def PState.ev (s : PState) : Operand → Option PV
  | .tmp t => s.at t
  | .const (.tuple _) => none
  | .const (.agg _) => none
  | .const v => some (.d (.v v))
  | .func f => some (.d (.v (.func (.func f) #[] #[])))
  | .global _ => none

/-! ### The relation to real values -/

abbrev Ghost := Nat → Option (Nat × Nat)

inductive DRd (w : World) (S : Nat → Prop) : DV → Value → Prop
  | v (x : Value) (h : x.oneCell' = true) : DRd w S (.v x) x
  | nil (a : Option Addr) (cap : Nat) (hc : cap ≤ maxLen) (hn : a = none → cap = 0) : DRd w S (.sl []) (.slice a 0 cap)
  | sl (l : List (List DV)) (b off cap k : Nat) (c : Nat → Nat → Value) (hl : l.length ≤ cap) (hcap : cap ≤ maxLen) (hS : S b) (hb : b < w.heap.size)
      (hk : ∀ (i : Nat) (cs : List DV), l[i]? = some cs → cs.length = k)
      (hc : ∀ i j, i < l.length → j < k → w.cell? ⟨b, off + (i * k + j), none⟩ = some (c i j))
      (hr : ∀ (i : Nat) (cs : List DV) (j : Nat) (x : DV), l[i]? = some cs → cs[j]? = some x → DRd w S x (c i j)) : DRd w S (.sl l) (.slice (some ⟨b, off, none⟩) l.length cap)

theorem DRd.one {w : World} {S : Nat → Prop} {x : DV} {u : Value} (h : DRd w S x u) : u.oneCell' = true := by
  cases h with
  | v _ h => exact h
  | nil => rfl
  | sl => rfl

/-- All that lay in allowed blocks lies there still. -/
def Stays (w w' : World) (S : Nat → Prop) : Prop := w.heap.size ≤ w'.heap.size ∧ ∀ b, S b → b < w.heap.size → w'.heap[b]? = w.heap[b]?

theorem DRd.keep {w w' : World} {S S' : Nat → Prop} (hk : Stays w w' S) (hS : ∀ b, S b → b < w.heap.size → S' b) {x : DV} {u : Value} (h : DRd w S x u) : DRd w' S' x u := by
  induction h with
  | v x h => exact .v x h
  | nil a cap hc hn => exact .nil a cap hc hn
  | sl l b off cap k c hl hcap hs hb hkk hc hr ih =>
    exact .sl l b off cap k c hl hcap (hS b hs hb) (Nat.lt_of_lt_of_le hb hk.1) hkk
      (fun i j hi hj => by rw [World.cell?_of_block (w := w) (hk.2 b hs hb)]; exact hc i j hi hj) ih

/-- A map's key: one integer, or a struct of integers. -/
def keyV : List IntKind → List Int → Value
  | [k], [n] => .int k n
  | ks, ns => .agg (List.zipWith Value.int ks ns).toArray
/-- A map's element: one cell, or a struct. -/
def elV (ag : Bool) (us : List Value) : Value := if ag then .agg us.toArray else us.headD undef

/-- The entries of a map, in the order in which they lie, and their stamps. -/
structure MapRd (w : World) (S : Nat → Prop) (ks : List IntKind) (ag : Bool) (m : List (List Int × List DV)) (bs : List Nat) (ck : Nat) (es : Array MapEntry) : Prop where
  size : es.size = m.length
  stamps : bs = es.toList.map (·.born)
  below : ∀ b ∈ bs, b < ck
  nodup : bs.Nodup
  ent : ∀ (i : Nat) (ns : List Int) (cs : List DV), m[i]? = some (ns, cs) → ∃ e us, es[i]? = some e ∧ e.key = keyV ks ns ∧ e.val = elV ag us ∧ us.length = cs.length ∧ (ag = false → cs.length = 1) ∧ (∀ u ∈ us, u.oneCell' = true) ∧ ns.length = ks.length ∧
    ∀ (j : Nat) (x : DV) (u : Value), cs[j]? = some x → us[j]? = some u → DRd w S x u

theorem MapRd.keep {w w' : World} {S S' : Nat → Prop} (hk : Stays w w' S) (hS : ∀ b, S b → b < w.heap.size → S' b) {ks : List IntKind} {ag : Bool} {m : List (List Int × List DV)} {bs : List Nat} {ck : Nat} {es : Array MapEntry} (h : MapRd w S ks ag m bs ck es) : MapRd w' S' ks ag m bs ck es :=
  ⟨h.size, h.stamps, h.below, h.nodup, fun i ns cs hi => let ⟨e, us, h1, h2, h3, h4, h5, h7, h8, h6⟩ := h.ent i ns cs hi; ⟨e, us, h1, h2, h3, h4, h5, h7, h8, fun j x u hx hu => (h6 j x u hx hu).keep hk hS⟩⟩

/-- Values of slots and cells. -/
inductive Rd (w : World) (g : Ghost) (S : Nat → Prop) : PV → Value → Prop
  | junk (u : Value) : Rd w g S .junk u
  | und : Rd w g S .und undef
  | d {x : DV} {u : Value} (h : DRd w S x u) : Rd w g S (.d x) u
  | agg (cs : List PV) (us : List Value) (hl : cs.length = us.length) (h : ∀ (i : Nat) (p : PV) (u : Value), cs[i]? = some p → us[i]? = some u → Rd w g S p u) (h1 : ∀ u ∈ us, u.oneCell' = true) : Rd w g S (.agg cs) (.agg us.toArray)
  | tup (cs : List PV) (us : List Value) (hl : cs.length = us.length) (h : ∀ (i : Nat) (p : PV) (u : Value), cs[i]? = some p → us[i]? = some u → Rd w g S p u) : Rd w g S (.tup cs) (.tuple us.toArray)
  | ref (id off blk n : Nat) (h : g id = some (blk, n)) : Rd w g S (.ref id off) (.pointer (some ⟨blk, off, none⟩))
  | row (id n blk cap : Nat) (h : g id = some (blk, cap)) : Rd w g S (.row id n) (.slice (some ⟨blk, 0, none⟩) n cap)
  | rowNil (id : Nat) (h : g id = none) : Rd w g S (.row id 0) (.slice none 0 0)
  | rp (id i off k blk cap : Nat) (h : g id = some (blk, cap)) : Rd w g S (.rp id i off k) (.pointer (some ⟨blk, i * k + off, none⟩))
  | pc (id i n k blk cap : Nat) (h : g id = some (blk, cap)) (hi : i + n ≤ cap) : Rd w g S (.pc id i n k) (.slice (some ⟨blk, i * k, none⟩) n (cap - i))
  | pc0 (id i k : Nat) (a : Option Addr) (c : Nat) : Rd w g S (.pc id i 0 k) (.slice a 0 c)
  | ep (cs : List DV) (b off o : Nat) (c : Nat → Value) (hS : S b) (hb : b < w.heap.size)
      (hc : ∀ j, j < cs.length → w.cell? ⟨b, off + j, none⟩ = some (c j))
      (hr : ∀ (j : Nat) (x : DV), cs[j]? = some x → DRd w S x (c j)) : Rd w g S (.ep cs o) (.pointer (some ⟨b, off + o, none⟩))
  | mp (id blk n : Nat) (h : g id = some (blk, n)) : Rd w g S (.mp id) (.map (some blk))
  | md (ks : List IntKind) (ag : Bool) (m : List (List Int × List DV)) (bs : List Nat) (ck b : Nat) (es : Array MapEntry) (hS : S b) (hb : b < w.heap.size) (hh : w.heap[b]? = some (.map es ck)) (hm : MapRd w S ks ag m bs ck es) : Rd w g S (.md ks ag m) (.map (some b))
  | mdNil (ks : List IntKind) (ag : Bool) : Rd w g S (.md ks ag []) (.map none)

/-- Does a value name an object? -/
def PV.has (id : Nat) : PV → Bool
  | .ref i _ | .row i _ | .rp i _ _ _ | .pc i _ _ _ | .mp i => i == id
  | .agg cs => hasL id cs
  | .tup cs => hasL id cs
  | _ => false
where hasL (id : Nat) : List PV → Bool
  | [] => false
  | c :: r => c.has id || hasL id r

theorem hasL_mem {id : Nat} : ∀ {cs : List PV} {i : Nat} {p : PV}, PV.has.hasL id cs = false → cs[i]? = some p → p.has id = false
  | [], i, p, _, h => by simp at h
  | c :: r, 0, p, hh, h => by simp at h; subst h; simp [PV.has.hasL] at hh; exact hh.1
  | c :: r, i + 1, p, hh, h => by simp at h; simp [PV.has.hasL] at hh; exact hasL_mem hh.2 h

/-- One cell's worth. -/
def PV.isCell : PV → Bool
  | .d _ | .ref .. | .row .. | .rp .. | .pc .. | .ep .. | .mp .. | .md .. => true
  | _ => false

theorem Rd.one {w : World} {g : Ghost} {S : Nat → Prop} {p : PV} {u : Value} (h : Rd w g S p u) (hp : p.isCell = true) : u.oneCell' = true := by
  cases h <;> first | rfl | (simp [PV.isCell] at hp; done) | skip
  case d h => exact h.one

/-- The ghost may change where the value does not look; the allowed blocks may change where there was nothing. -/
theorem Rd.keep {w w' : World} {g g' : Ghost} {S S' : Nat → Prop} (hk : Stays w w' S) (hS : ∀ b, S b → b < w.heap.size → S' b) {p : PV} {u : Value} (h : Rd w g S p u)
    (hg : ∀ id, p.has id = true → g' id = g id) : Rd w' g' S' p u := by
  induction h with
  | junk u => exact .junk u
  | und => exact .und
  | d h => exact .d (h.keep hk hS)
  | agg cs us hl h h1 ih =>
    refine .agg cs us hl (fun i p u hp hu => ih i p u hp hu (fun id hid => hg id ?_)) h1
    cases hh : PV.has id (.agg cs) with
    | true => rfl
    | false => rw [hasL_mem (by simpa [PV.has] using hh) hp] at hid; cases hid
  | tup cs us hl h ih =>
    refine .tup cs us hl (fun i p u hp hu => ih i p u hp hu (fun id hid => hg id ?_))
    cases hh : PV.has id (.tup cs) with
    | true => rfl
    | false => rw [hasL_mem (by simpa [PV.has] using hh) hp] at hid; cases hid
  | ref id off blk n h => exact .ref id off blk n (by rw [hg id (by simp [PV.has])]; exact h)
  | row id n blk cap h => exact .row id n blk cap (by rw [hg id (by simp [PV.has])]; exact h)
  | rowNil id h => exact .rowNil id (by rw [hg id (by simp [PV.has])]; exact h)
  | rp id i off k blk cap h => exact .rp id i off k blk cap (by rw [hg id (by simp [PV.has])]; exact h)
  | pc id i n k blk cap h hi => exact .pc id i n k blk cap (by rw [hg id (by simp [PV.has])]; exact h) hi
  | pc0 id i k a c => exact .pc0 id i k a c
  | ep cs b off o c hs hb hc hr =>
    exact .ep cs b off o c (hS b hs hb) (Nat.lt_of_lt_of_le hb hk.1)
      (fun j hj => by rw [World.cell?_of_block (w := w) (hk.2 b hs hb)]; exact hc j hj) (fun j x h2 => (hr j x h2).keep hk hS)
  | mp id blk n h => exact .mp id blk n (by rw [hg id (by simp [PV.has])]; exact h)
  | md ks ag m bs ck b es hs hb hh hm => exact .md ks ag m bs ck b es (hS b hs hb) (Nat.lt_of_lt_of_le hb hk.1) (by rw [hk.2 b hs hb]; exact hh) (hm.keep hk hS)
  | mdNil ks ag => exact .mdNil ks ag

/-- What an object's block holds. -/
inductive ObRd (w : World) (g : Ghost) (S : Nat → Prop) (id : Nat) : Ob → Prop
  | cells (T : TypeId) (cs : List PV) (blk n : Nat) (us : List Value) (h : g id = some (blk, n)) (hh : w.heap[blk]? = some (.cells us.toArray T (0, 0))) (hl : cs.length = us.length)
      (hr : ∀ (i : Nat) (p : PV) (u : Value), cs[i]? = some p → us[i]? = some u → Rd w g S p u) (h1 : ∀ u ∈ us, u.oneCell' = true) : ObRd w g S id (.cells T cs)
  | rowNil (T : TypeId) (k : Nat) (h : g id = none) : ObRd w g S id (.row T k [])
  | row (T : TypeId) (k : Nat) (l : List (List DV)) (blk cap : Nat) (cur : List Value) (h : g id = some (blk, cap)) (hh : w.heap[blk]? = some (.cells cur.toArray T (0, 0)))
      (hlc : l.length ≤ cap) (hcap : cap ≤ maxLen) (hcs : cur.length = cap * k) (hk : ∀ (i : Nat) (cs : List DV), l[i]? = some cs → cs.length = k)
      (hr : ∀ (i : Nat) (cs : List DV) (j : Nat) (x : DV), l[i]? = some cs → cs[j]? = some x → ∃ u, cur[i * k + j]? = some u ∧ DRd w S x u) : ObRd w g S id (.row T k l)
  | map (ks : List IntKind) (ag : Bool) (m : List (List Int × List DV)) (bs : List Nat) (ck blk n : Nat) (es : Array MapEntry) (h : g id = some (blk, n)) (hh : w.heap[blk]? = some (.map es ck)) (hm : MapRd w S ks ag m bs ck es) : ObRd w g S id (.map ks ag m bs ck)
  | iterO (mid : Nat) (bs : List Nat) (ck : Nat) (L : List Nat) (blk n b n' : Nat) (h : g id = some (blk, n)) (hh : w.heap[blk]? = some (.mapIter (some b) ck (L.map fun i => bs.getD i 0).toArray ck)) (hm : g mid = some (b, n')) : ObRd w g S id (.iterO mid bs ck L)
  | iterD (ks : List IntKind) (ag : Bool) (m : List (List Int × List DV)) (bs : List Nat) (ck : Nat) (L : List Nat) (blk n b : Nat) (es : Array MapEntry) (h : g id = some (blk, n)) (hh : w.heap[blk]? = some (.mapIter (some b) ck (L.map fun i => bs.getD i 0).toArray ck))
      (hS : S b) (hb : b < w.heap.size) (hb2 : w.heap[b]? = some (.map es ck)) (hm : MapRd w S ks ag m bs ck es) : ObRd w g S id (.iterD ks ag m bs ck L)
  | iterN (ks : List IntKind) (ag : Bool) (blk n : Nat) (h : g id = some (blk, n)) (hh : w.heap[blk]? = some (.mapIter none 0 #[] 0)) : ObRd w g S id (.iterD ks ag [] [] 0 [])
  | pin (tgt blk n : Nat) (h : g id = none) (ht : g tgt = some (blk, n)) : ObRd w g S id (.pin tgt blk n)
  | mapP (ks : List IntKind) (m : List (List Int × Value)) (ov : Option (Nat × PV)) (bs : List Nat) (ck blk n : Nat) (es : Array MapEntry) (h : g id = some (blk, n)) (hh : w.heap[blk]? = some (.map es ck)) (hsz : es.size = m.length) (hst : bs = es.toList.map (·.born)) (hbl : ∀ b ∈ bs, b < ck) (hnd : bs.Nodup)
      (hent : ∀ (i : Nat) (ns : List Int) (u : Value), m[i]? = some (ns, u) → ∃ e, es[i]? = some e ∧ e.key = keyV ks ns ∧ ns.length = ks.length ∧ e.val.oneCell' = true ∧ ((∀ p, ov ≠ some (i, p)) → e.val = u))
      (hov : ∀ (j : Nat) (p : PV), ov = some (j, p) → ∃ e, es[j]? = some e ∧ Rd w g S p e.val) : ObRd w g S id (.mapP ks m ov bs ck)

def Ob.has (id : Nat) : Ob → Bool
  | .cells _ cs => PV.has.hasL id cs
  | .row .. => false
  | .map .. => false
  | .iterO mid _ _ _ => mid == id
  | .iterD .. => false
  | .pin tgt _ _ => tgt == id
  | .mapP _ _ ov _ _ => match ov with | some (_, p) => p.has id | none => false

/-- An object's own block is left alone, too. -/
theorem ObRd.keep {w w' : World} {g g' : Ghost} {S S' : Nat → Prop} (hk : Stays w w' S) (hS : ∀ b, S b → b < w.heap.size → S' b) {id : Nat} {o : Ob} (h : ObRd w g S id o)
    (hown : ∀ b n, g id = some (b, n) → w'.heap[b]? = w.heap[b]?) (hid : g' id = g id) (hg : ∀ j, o.has j = true → g' j = g j) : ObRd w' g' S' id o := by
  cases h with
  | cells T cs blk n us h hh hl hr h1 =>
    refine .cells T cs blk n us (by rw [hid]; exact h) (by rw [hown blk n h]; exact hh) hl (fun i p u hp hu => (hr i p u hp hu).keep hk hS (fun j hj => hg j ?_)) h1
    cases hh : PV.has.hasL j cs with
    | true => simpa [Ob.has] using hh
    | false => rw [hasL_mem hh hp] at hj; cases hj
  | rowNil T k h => exact .rowNil T k (by rw [hid]; exact h)
  | row T k l blk cap cur h hh hlc hcap hcs hkk hr =>
    exact .row T k l blk cap cur (by rw [hid]; exact h) (by rw [hown blk cap h]; exact hh) hlc hcap hcs hkk
      (fun i cs j x h1 h2 => let ⟨u, hu, hd⟩ := hr i cs j x h1 h2; ⟨u, hu, hd.keep hk hS⟩)
  | map ks ag m bs ck blk n es h hh hm => exact .map ks ag m bs ck blk n es (by rw [hid]; exact h) (by rw [hown blk n h]; exact hh) (hm.keep hk hS)
  | iterO mid bs ck L blk n b n' h hh hm => exact .iterO mid bs ck L blk n b n' (by rw [hid]; exact h) (by rw [hown blk n h]; exact hh) (by rw [hg mid (by simp [Ob.has])]; exact hm)
  | iterD ks ag m bs ck L blk n b es h hh hs hb hb2 hm => exact .iterD ks ag m bs ck L blk n b es (by rw [hid]; exact h) (by rw [hown blk n h]; exact hh) (hS b hs hb) (Nat.lt_of_lt_of_le hb hk.1) (by rw [hk.2 b hs hb]; exact hb2) (hm.keep hk hS)
  | iterN ks ag blk n h hh => exact .iterN ks ag blk n (by rw [hid]; exact h) (by rw [hown blk n h]; exact hh)
  | pin tgt blk n h ht => exact .pin tgt blk n (by rw [hid]; exact h) (by rw [hg tgt (by simp [Ob.has])]; exact ht)
  | mapP ks m ov bs ck blk n es h hh hsz hst hbl hnd hent hov =>
    refine .mapP ks m ov bs ck blk n es (by rw [hid]; exact h) (by rw [hown blk n h]; exact hh) hsz hst hbl hnd hent fun j p hj => ?_
    obtain ⟨e, h1, h2⟩ := hov j p hj
    subst hj
    exact ⟨e, h1, h2.keep hk hS fun i hi => hg i hi⟩

/-! ### The relation between a pure state, a frame and a world -/

/-- w0: the world at the call's start; S: the blocks that its data may lie in; K: the blocks that it may write, of those that were there. -/
structure Ctx where
  w0 : World
  S : Nat → Prop
  K : Nat → Prop

/-- A block for data: let in or new, and none of the call's own objects'. -/
def Free (ctx : Ctx) (g : Ghost) (objs : List (Nat × Ob)) (b : Nat) : Prop := (ctx.S b ∨ ctx.w0.heap.size ≤ b) ∧ ∀ id o n, look objs id = some o → g id = some (b, n) → False

structure RelG (ctx : Ctx) (g : Ghost) (s : PState) (a : Act) (w : World) : Prop where
  defers : a.defers = []
  size : a.tmps.size = s.n
  slots : ∀ i p, s.at i = some p → Rd w g (Free ctx g s.objs) p (a.tmps.getD i undef)
  objs : ∀ id o, look s.objs id = some o → ObRd w g (Free ctx g s.objs) id o
  inj : ∀ i j oi oj b n m, look s.objs i = some oi → look s.objs j = some oj → g i = some (b, n) → g j = some (b, m) → i = j
  own : ∀ id o b n, look s.objs id = some o → g id = some (b, n) → b < w.heap.size ∧ (ctx.w0.heap.size ≤ b ∨ ctx.K b)
  os : w.os = ctx.w0.os
  tape : w.tape = ctx.w0.tape
  output : w.output = ctx.w0.output
  grows : ctx.w0.heap.size ≤ w.heap.size
  keep : ∀ k, k < ctx.w0.heap.size → ¬ ctx.K k → w.heap[k]? = ctx.w0.heap[k]?

def Rel (ctx : Ctx) (s : PState) (a : Act) (w : World) : Prop := ∃ g, RelG ctx g s a w

theorem RelG.ev {ctx : Ctx} {g : Ghost} {s : PState} {a : Act} {w : World} (h : RelG ctx g s a w) {x : Operand} {p : PV} (hx : s.ev x = some p) : Rd w g (Free ctx g s.objs) p (a.eval x) := by
  cases x with
  | tmp t => exact h.slots t p hx
  | const v =>
    cases v <;> simp [PState.ev] at hx <;> subst hx <;> exact .d (.v _ rfl)
  | func f =>
    simp [PState.ev] at hx
    subst hx
    exact .d (.v _ rfl)
  | global g => simp [PState.ev] at hx

theorem put_defers (a : Act) (d : Option Nat) (v : Value) : (a.put d v).defers = a.defers := by cases d <;> rfl
theorem put_size (a : Act) (d : Option Nat) (v : Value) : (a.put d v).tmps.size = a.tmps.size := by cases d <;> simp [Act.put]
theorem putD_objs (s : PState) (d : Option Nat) (p : PV) : (s.putD d p).objs = s.objs := by cases d <;> rfl
theorem putD_len (s : PState) (d : Option Nat) (p : PV) : (s.putD d p).n = s.n := by cases d <;> rfl

/-- A value into a slot. -/
theorem RelG.put {ctx : Ctx} {g : Ghost} {s : PState} {a : Act} {w : World} (h : RelG ctx g s a w) (d : Option Nat) {p : PV} {v : Value} (hp : Rd w g (Free ctx g s.objs) p v) : RelG ctx g (s.putD d p) (a.put d v) w := by
  refine ⟨by rw [put_defers]; exact h.defers, by rw [put_size, putD_len]; exact h.size, ?_, by rw [putD_objs]; exact h.objs, by rw [putD_objs]; exact h.inj, by rw [putD_objs]; exact h.own, h.os, h.tape, h.output, h.grows, h.keep⟩
  intro i q hq
  rw [putD_objs]
  cases d with
  | none => exact h.slots i q hq
  | some d =>
    rcases put_at s d p i q hq with ⟨hd, rfl⟩ | ⟨hd, h2⟩
    · subst hd
      have hlt : d < a.tmps.size := by rw [h.size]; exact at_lt (s := s.put d q) hq
      simp [Act.put, Array.getD, hlt, hp]
    · have := h.slots i q h2
      have e : ((a.put (some d) v).tmps.getD i undef) = a.tmps.getD i undef := by
        simp [Act.put, Array.getD_eq_getD_getElem?, hd]
      rw [e]; exact this

end Go.Ep

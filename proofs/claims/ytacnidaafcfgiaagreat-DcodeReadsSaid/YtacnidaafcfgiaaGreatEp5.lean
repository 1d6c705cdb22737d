/- Walks over pure states: new rows, a row as data, tuples, nil checks, structs, contracts and calls. No program in sight. -/
import Derived.Test.YtacnidaafcfgiaaGreatEp4
namespace Go.Ep
open Go.RowKit

def dl : List PV → Option (List DV)
  | [] => some []
  | .d x :: r => match dl r with | some l => some (x :: l) | none => none
  | _ :: _ => none
def PV.dparts : PV → Option (List DV)
  | .d x => some [x]
  | .agg cs => dl cs
  | _ => none
theorem dl_map : ∀ {cs : List PV} {l : List DV}, dl cs = some l → cs = l.map .d
  | [], l, h => by simp [dl] at h; subst h; rfl
  | .d x :: r, l, h => by
    unfold dl at h
    cases hr : dl r with
    | none => simp [hr] at h
    | some l' => simp [hr] at h; subst h; simp [dl_map hr]
  | .junk :: _, _, h => by simp [dl] at h
  | .und :: _, _, h => by simp [dl] at h
  | .agg _ :: _, _, h => by simp [dl] at h
  | .tup _ :: _, _, h => by simp [dl] at h
  | .ref _ _ :: _, _, h => by simp [dl] at h
  | .row _ _ :: _, _, h => by simp [dl] at h
  | .rp _ _ _ _ :: _, _, h => by simp [dl] at h
  | .pc _ _ _ _ :: _, _, h => by simp [dl] at h
  | .ep _ _ :: _, _, h => by simp [dl] at h
  | .mp _ :: _, _, h => by simp [dl] at h
  | .md _ _ _ :: _, _, h => by simp [dl] at h
theorem dl_of_map : ∀ (l : List DV), dl (l.map .d) = some l
  | [] => rfl
  | x :: r => by simp [dl, dl_of_map r]
theorem PV.dparts_parts {p : PV} {l : List DV} (h : p.dparts = some l) : p.parts = some (l.map .d) := by
  cases p <;> simp [PV.dparts] at h
  case d x => subst h; rfl
  case agg cs => rw [dl_map h]; rfl

def zdv : Value → DV
  | .slice none 0 0 => .sl []
  | x => .v x
theorem zdv_rd (w : World) (S : Nat → Prop) (x : Value) (h : x.oneCell' = true) : DRd w S (zdv x) x := by
  unfold zdv
  split
  · exact .nil none 0 (Nat.zero_le _) (fun _ => rfl)
  · exact .v x h

/-- Data alone: no address. -/
def PV.isData : PV → Bool
  | .d _ => true
  | .md .. => true
  | .agg cs => isDataL cs
  | .tup cs => isDataL cs
  | _ => false
where isDataL : List PV → Bool
  | [] => true
  | c :: r => c.isData && isDataL r
theorem isDataL_mem : ∀ {cs : List PV} {i : Nat} {p : PV}, PV.isData.isDataL cs = true → cs[i]? = some p → p.isData = true
  | [], i, p, _, h => by simp at h
  | c :: r, 0, p, hh, h => by simp at h; subst h; simp [PV.isData.isDataL] at hh; exact hh.1
  | c :: r, i + 1, p, hh, h => by simp at h; simp [PV.isData.isDataL] at hh; exact isDataL_mem hh.2 h
theorem isData_map (l : List DV) : PV.isData.isDataL (l.map .d) = true := by
  induction l with
  | nil => rfl
  | cons x r ih => simp [PV.isData.isDataL, PV.isData, ih]

/-- Data does not hang on the ghost. -/
theorem Rd.data {w : World} {g : Ghost} {S : Nat → Prop} {p : PV} {u : Value} (h : Rd w g S p u) (hd : p.isData = true) (g' : Ghost) : Rd w g' S p u := by
  induction h with
  | junk u => simp [PV.isData] at hd
  | d h => exact .d h
  | md ks ag m bs ck b es hs hb hh hm => exact .md ks ag m bs ck b es hs hb hh hm
  | mdNil ks ag => exact .mdNil ks ag
  | agg cs us hl h h1 ih => exact .agg cs us hl (fun i p u hp hu => ih i p u hp hu (isDataL_mem (by simpa [PV.isData] using hd) hp)) h1
  | tup cs us hl h ih => exact .tup cs us hl (fun i p u hp hu => ih i p u hp hu (isDataL_mem (by simpa [PV.isData] using hd) hp))
  | _ => simp [PV.isData] at hd

abbrev g0 : Ghost := fun _ => none

/-- The contract of a function that only computes: it is handed data, and hands data back; nothing that was there has changed. -/
def PFun (P : Program) (f : FuncId) (ps : List PV) (r : PV) : Prop :=
  ∀ (w : World) (S : Nat → Prop) (vs : List Value), ps.length = vs.length → (∀ (i : Nat) (p : PV) (v : Value), ps[i]? = some p → vs[i]? = some v → Rd w g0 S p v) →
    Calls P f vs.toArray w (fun e w' => ∃ u, e = .returned u ∧ Below w.heap.size w w' ∧ Rd w' g0 (fun b => S b ∨ w.heap.size ≤ b) r u)

/-- A new row, whole and unshared. -/
inductive RowRd (w : World) (S : Nat → Prop) (base : Nat) (e : TypeId) (k : Nat) : List (List DV) → Value → Prop
  | nil : RowRd w S base e k [] (.slice none 0 0)
  | row (l : List (List DV)) (blk cap : Nat) (cur : List Value) (hb : base ≤ blk) (hh : w.heap[blk]? = some (.cells cur.toArray e (0, 0)))
      (hlc : l.length ≤ cap) (hcap : cap ≤ maxLen) (hcs : cur.length = cap * k) (hk : ∀ (i : Nat) (cs : List DV), l[i]? = some cs → cs.length = k)
      (hr : ∀ (i : Nat) (cs : List DV) (j : Nat) (x : DV), l[i]? = some cs → cs[j]? = some x → ∃ u, cur[i * k + j]? = some u ∧ DRd w (fun b => (S b ∨ base ≤ b) ∧ b ≠ blk) x u) : RowRd w S base e k l (.slice (some ⟨blk, 0, none⟩) l.length cap)

/-- The contract of a function that hands back a new slice, which may be written. -/
def PRow (P : Program) (f : FuncId) (ps : List PV) (e : TypeId) (k : Nat) (l : List (List DV)) : Prop :=
  ∀ (w : World) (S : Nat → Prop) (vs : List Value), ps.length = vs.length → (∀ (i : Nat) (p : PV) (v : Value), ps[i]? = some p → vs[i]? = some v → Rd w g0 S p v) →
    Calls P f vs.toArray w (fun en w' => ∃ u, en = .returned u ∧ Below w.heap.size w w' ∧ RowRd w' S w.heap.size e k l u)

theorem RowRd.data {w : World} {S : Nat → Prop} {base : Nat} {e : TypeId} {k : Nat} {l : List (List DV)} {u : Value} (h : RowRd w S base e k l u) : DRd w (fun b => S b ∨ base ≤ b) (.sl l) u := by
  cases h with
  | nil => exact .nil none 0 (Nat.zero_le _) (fun _ => rfl)
  | row _ blk cap cur hb hh hlc hcap hcs hk hr =>
    refine .sl l blk 0 cap k (fun i j => cur.getD (i * k + j) undef) hlc hcap (.inr hb) (Array.getElem?_eq_some_iff.1 hh).1 hk ?_ ?_
    · intro i j hi hj
      have hlt : i * k + j < cur.length := by rw [hcs]; exact idx_lt (by omega) hj
      rw [cell_of_heap hh]
      simp [hlt]
    · intro i cs j x hi hx
      obtain ⟨u, hu, hd⟩ := hr i cs j x hi hx
      have e : cur.getD (i * k + j) undef = u := by simp [List.getD, hu]
      show DRd w _ x (cur.getD (i * k + j) undef)
      rw [e]
      exact hd.keep ⟨Nat.le_refl _, fun _ _ _ => rfl⟩ (fun b hb _ => hb.1)

theorem PRow.fun {P : Program} {f : FuncId} {ps : List PV} {e : TypeId} {k : Nat} {l : List (List DV)} (h : PRow P f ps e k l) : PFun P f ps (.d (.sl l)) :=
  fun w S vs hl hv => (h w S vs hl hv).mono fun _ _ ⟨u, he, hb, hr⟩ => ⟨u, he, hb, .d hr.data⟩

def PState.evs (s : PState) : List Operand → Option (List PV)
  | [] => some []
  | x :: r => match s.ev x, s.evs r with | some p, some l => some (p :: l) | _, _ => none

theorem evs_len {s : PState} : ∀ {xs : List Operand} {ps : List PV}, s.evs xs = some ps → ps.length = xs.length
  | [], ps, h => by simp [PState.evs] at h; subst h; rfl
  | x :: r, ps, h => by
    unfold PState.evs at h
    cases h1 : s.ev x <;> cases h2 : s.evs r <;> simp [h1, h2] at h
    subst h
    simp [evs_len h2]
theorem evs_get {s : PState} : ∀ {xs : List Operand} {ps : List PV}, s.evs xs = some ps → ∀ {i : Nat} {p : PV} {x : Operand}, ps[i]? = some p → xs[i]? = some x → s.ev x = some p
  | [], ps, h, i, p, x, _, hx => by simp at hx
  | y :: r, ps, h, i, p, x, hp, hx => by
    unfold PState.evs at h
    cases h1 : s.ev y <;> cases h2 : s.evs r <;> simp [h1, h2] at h
    subst h
    cases i with
    | zero => simp at hp hx; subst hp; subst hx; exact h1
    | succ i => simp at hp hx; exact evs_get h2 hp hx

section
variable {P : Program} {ctx : Ctx} {Q : PQ} {s : PState}
variable {dst : Option Tmp} {ty : TypeId} {pos : String} {after : Array Edge} {gd : Option (Nat × Bool)}

/-! ### New rows -/
theorem LR.assignNilRow {id : Nat} (e : TypeId) (k : Nat) (hf : s.fresh id = true) : Local P ctx ⟨some id, .assign (.const (.slice none 0 0)), ty, pos, after, gd⟩ s (s.newO id (.row e k []) (.row id 0)) :=
  local_value (o := ⟨some id, .assign (.const (.slice none 0 0)), ty, pos, after, gd⟩) fun a w g hg => by
    refine ⟨.slice none 0 0, w, by simp [execOp, Act.eval], upd g id none, ?_⟩
    have := hg.new (Below.refl _ w) hf none (fun b n e => by cases e) (.row e k []) (.rowNil e k (upd_same _ _ _))
    exact this.put (some id) (.rowNil id (upd_same _ _ _))

theorem RelG.newRow {g : Ghost} {a : Act} {w : World} (hg : RelG ctx g s a w) {id : Nat} (hf : s.fresh id = true) {e k cap : Nat} {l : List (List DV)} {cur : List Value} (hlc : l.length ≤ cap) (hcap : cap ≤ maxLen) (hcs : cur.length = cap * k)
    (hk : ∀ (i : Nat) (cs : List DV), l[i]? = some cs → cs.length = k) (hr : ∀ (i : Nat) (cs : List DV) (j : Nat) (x : DV), l[i]? = some cs → cs[j]? = some x → ∃ u, cur[i * k + j]? = some u ∧ DRd w (Free ctx g s.objs) x u) :
    Rel ctx (s.newO id (.row e k l) (.row id l.length)) (a.put (some id) (.slice (some ⟨w.heap.size, 0, none⟩) l.length cap)) (w.alloc (.cells cur.toArray e)) := by
  have hb := Below.alloc1 w (.cells cur.toArray e)
  have hst : Stays w (w.alloc (.cells cur.toArray e)) (Free ctx g s.objs) := ⟨hb.size, fun b _ hlt => hb.block b hlt⟩
  have hF : ∀ b, Free ctx g s.objs b → b < w.heap.size → Free ctx (upd g id (some (w.heap.size, cap))) (putO id (.row e k l) s.objs) b := by
    intro b ⟨h1, h2⟩ hlt
    refine ⟨h1, fun j o n hl hg' => ?_⟩
    rw [look_putO] at hl
    by_cases hj : j = id
    · subst hj; rw [upd_same] at hg'; cases hg'; omega
    · rw [if_neg hj] at hl; rw [upd_ne hj] at hg'; exact h2 j o n hl hg'
  have hnew := hg.new hb hf (some (w.heap.size, cap)) (fun b n e => by cases e; simp) (.row e k l)
    (.row e k l w.heap.size cap cur (upd_same _ _ _) (heap_alloc_new w _) hlc hcap hcs hk (fun i cs j x hi hx => let ⟨u, hu, hd⟩ := hr i cs j x hi hx; ⟨u, hu, hd.keep hst hF⟩))
  exact ⟨_, hnew.put (some id) (.row id _ w.heap.size cap (upd_same _ _ _))⟩

/-- The operands of a slice literal, each an element. -/
inductive Elems (s : PState) (k : Nat) : List Operand → List (List DV) → Prop
  | nil : Elems s k [] []
  | cons {x : Operand} {p : PV} {cs : List DV} {xs : List Operand} {l : List (List DV)} (h : s.ev x = some p) (hp : p.dparts = some cs) (hk : cs.length = k) (r : Elems s k xs l) : Elems s k (x :: xs) (cs :: l)

theorem Elems.len {k : Nat} {xs : List Operand} {l : List (List DV)} (h : Elems s k xs l) : l.length = xs.length := by
  induction h with
  | nil => rfl
  | cons _ _ _ _ ih => simp [ih]
theorem Elems.each {k : Nat} {xs : List Operand} {l : List (List DV)} (h : Elems s k xs l) : ∀ (i : Nat) (cs : List DV), l[i]? = some cs → cs.length = k := by
  induction h with
  | nil => intro i cs hi; simp at hi
  | cons _ _ hk _ ih =>
    intro i cs hi
    cases i with
    | zero => simp at hi; subst hi; exact hk
    | succ i => simp at hi; exact ih i cs hi

/-- .. and as real cells. -/
theorem Elems.real {k : Nat} {xs : List Operand} {l : List (List DV)} (h : Elems s k xs l) {a : Act} {w : World} {g : Ghost} (hg : RelG ctx g s a w) :
    ∃ us : List (List Value), us.length = xs.length ∧ (∀ (i : Nat) (x : Operand) (u : List Value), xs[i]? = some x → us[i]? = some u → (a.eval x).cells = u.toArray ∧ u.length = k) ∧ (∀ u ∈ us, ∀ v ∈ u, v.oneCell' = true) ∧
      ∀ (i : Nat) (cs : List DV) (j : Nat) (x : DV), l[i]? = some cs → cs[j]? = some x → ∃ u v, us[i]? = some u ∧ u[j]? = some v ∧ DRd w (Free ctx g s.objs) x v := by
  induction h with
  | nil => exact ⟨[], rfl, by simp, by simp, by simp⟩
  | cons h hp hk _ ih =>
    obtain ⟨us, h1, h2, h3, h4⟩ := ih
    obtain ⟨u0, hu, hlen, hr, ho⟩ := (hg.ev h).parts (PV.dparts_parts hp)
    refine ⟨u0 :: us, by simp [h1], ?_, ?_, ?_⟩
    · intro i x u hx hu'
      cases i with
      | zero => simp at hx hu'; subst hx; subst hu'; exact ⟨hu, by rw [← hlen]; simpa using hk⟩
      | succ i => simp at hx hu'; exact h2 i x u hx hu'
    · intro u hu'
      simp at hu'
      rcases hu' with rfl | hu'
      · exact ho
      · exact h3 u hu'
    · intro i cs j x hi hx
      cases i with
      | zero =>
        simp at hi
        subst hi
        have hj : j < u0.length := by rw [← hlen, List.length_map]; exact (List.getElem?_eq_some_iff.1 hx).1
        refine ⟨u0, u0[j], rfl, List.getElem?_eq_getElem hj, ?_⟩
        have := hr j (.d x) u0[j] (by simp [hx]) (List.getElem?_eq_getElem hj)
        cases this with
        | d h => exact h
      | succ i =>
        simp at hi
        obtain ⟨u, v, e1, e2, e3⟩ := h4 i cs j x hi hx
        exact ⟨u, v, by simpa using e1, e2, e3⟩

def enum {α : Type} : Nat → List α → List (Nat × α)
  | _, [] => []
  | i, x :: r => (i, x) :: enum (i + 1) r

theorem foldl_set (vs : List Value) : ∀ (off j : Nat) (cs : Array Value), off + j + vs.length ≤ cs.size →
    ((vs.zipIdx j).foldl (fun cs (c, j) => cs.setIfInBounds (off + j) c) cs).toList = cs.toList.take (off + j) ++ vs ++ cs.toList.drop (off + j + vs.length) := by
  induction vs with
  | nil => intro off j cs h; simp
  | cons v r ih =>
    intro off j cs h
    simp only [List.zipIdx_cons, List.foldl_cons, List.length_cons] at h ⊢
    rw [show (fun (cs : Array Value) (x : Value × Nat) => cs.setIfInBounds (off + x.2) x.1) = (fun (cs : Array Value) (x : Value × Nat) => match x with | (c, j) => cs.setIfInBounds (off + j) c) from rfl]
    have := ih off (j + 1) (cs.setIfInBounds (off + j) v) (by simp; omega)
    rw [this]
    have e := list_seg_step cs.toList (off + j) v r (by simp; omega)
    simp only [Array.toList_setIfInBounds] at *
    rw [show off + (j + 1) = off + j + 1 from by omega, show off + j + 1 + r.length = off + j + 1 + r.length from rfl]
    rw [e]

theorem fill_enum {k : Nat} : ∀ (vs : List Value) (us : List (List Value)) (i : Nat) (pre z : List Value), vs.length = us.length → (∀ (j : Nat) (v : Value) (u : List Value), vs[j]? = some v → us[j]? = some u → v.cells = u.toArray ∧ u.length = k) →
    pre.length = i * k → z.length = vs.length * k → Instr.fill (fun i => some (i * k, k)) (pre ++ z).toArray (enum i vs) = some (pre ++ us.flatten).toArray
  | [], us, i, pre, z, hl, _, hp, hz => by
    have : us = [] := List.eq_nil_of_length_eq_zero hl.symm
    subst this
    have : z = [] := List.eq_nil_of_length_eq_zero (by simpa using hz)
    subst this
    simp [enum, Instr.fill]
  | v :: r, us, i, pre, z, hl, h, hp, hz => by
    cases us with
    | nil => simp at hl
    | cons u us =>
      obtain ⟨hc, hk⟩ := h 0 v u rfl rfl
      simp only [List.length_cons, Nat.add_mul, Nat.one_mul] at hz
      have hcs : v.cells.size = k := by rw [hc]; simpa using hk
      have hfit : ¬ (i * k + v.cells.size > (pre ++ z).toArray.size) := by simp only [List.size_toArray, List.length_append]; omega
      unfold enum Instr.fill
      simp only [hcs, ne_eq, not_true_eq_false]
      rw [hcs] at hfit
      rw [if_neg (by simpa using hfit)]
      have hf := foldl_set u (i * k) 0 (pre ++ z).toArray (by simp only [List.size_toArray, List.length_append]; omega)
      have e : (v.cells.zipIdx.foldl (fun cs (c, j) => cs.setIfInBounds (i * k + j) c) (pre ++ z).toArray) = ((pre ++ u) ++ z.drop k).toArray := by
        apply Array.ext'
        rw [hc]
        have e1 : (u.toArray.zipIdx).foldl (fun cs (c, j) => cs.setIfInBounds (i * k + j) c) (pre ++ z).toArray = (u.zipIdx 0).foldl (fun cs (c, j) => cs.setIfInBounds (i * k + j) c) (pre ++ z).toArray := by
          rw [← Array.foldl_toList]; simp
        rw [e1, hf]
        simp only [Nat.add_zero]
        rw [← hp, List.take_left, List.drop_append, hk]
        simp [List.drop_eq_nil_of_le]
      rw [e]
      have := fill_enum r us (i + 1) (pre ++ u) (z.drop k) (by simpa using hl) (fun j v' u' h1 h2 => h (j + 1) v' u' (by simpa using h1) (by simpa using h2)) (by simp [hp, hk, Nat.add_mul]) (by simp; omega)
      rw [this]
      simp
end
end Go.Ep

/- Texts that the walks and laws lean on, side by side. -/
import Derived.Test.YthcldkmidhhgbaaAOn3
import Derived.Test.YthcldkmidhhgbaaAOn4
set_option linter.unusedVariables false
set_option linter.unusedSimpArgs false
namespace Go.Ep
open Go.RowKit

/-- A row that an entry names. -/
def RowAt (w : World) (e : TypeId) (k : Nat) (l : List (List DV)) : Option (Nat × Nat) → Value → Prop
  | none, v => l = [] ∧ v = .slice none 0 0
  | some (b, cap), v => v = .slice (some ⟨b, 0, none⟩) l.length cap ∧ ∃ cur : List Value, w.heap[b]? = some (.cells cur.toArray e (0, 0)) ∧ l.length ≤ cap ∧ cap ≤ maxLen ∧ cur.length = cap * k ∧ (∀ (i : Nat) (cs : List DV), l[i]? = some cs → cs.length = k) ∧
      ∀ (i : Nat) (cs : List DV) (j : Nat) (x : DV), l[i]? = some cs → cs[j]? = some x → ∃ u, cur[i * k + j]? = some u ∧ x = .v u ∧ u.oneCell' = true
def PlainL (l : List (List DV)) : Prop := ∀ cs ∈ l, ∀ x ∈ cs, ∃ u, x = DV.v u
abbrev RowsM := List (List Int × List (List DV))
def rowsM (R : RowsM) : Mp := R.map fun p => (p.1, [DV.sl p.2])
/-- The blocks for data, beside the rows. -/
def Dt (ctx : Ctx) (mb : Nat) (blk : Nat → Option (Nat × Nat)) (b : Nat) : Prop := (ctx.S b ∨ ctx.w0.heap.size ≤ b) ∧ b ≠ mb ∧ ∀ i c, blk i ≠ some (b, c)

structure RelT (ctx : Ctx) (ks : List IntKind) (e : TypeId) (k mid n : Nat) (sl : List (Nat × PV)) (R : RowsM) (a : Act) (w : World) (g : Ghost) (mb : Nat) (blk : Nat → Option (Nat × Nat)) (es : Array MapEntry) (ck : Nat) : Prop where
  defers : a.defers = []
  size : a.tmps.size = n
  slots : ∀ i p, (PState.mk n sl []).at i = some p → Rd w g (Dt ctx mb blk) p (a.tmps.getD i undef)
  gm : ∃ q, g mid = some (mb, q)
  lt : mb < w.heap.size ∧ (ctx.w0.heap.size ≤ mb ∨ ctx.K mb)
  hh : w.heap[mb]? = some (.map es ck)
  sz : es.size = R.length
  below : ∀ b ∈ es.toList.map (·.born), b < ck
  nodup : (es.toList.map (·.born)).Nodup
  ent : ∀ (i : Nat) (ns : List Int) (l : List (List DV)), R[i]? = some (ns, l) → ∃ x, es[i]? = some x ∧ x.key = keyV ks ns ∧ ns.length = ks.length ∧ RowAt w e k l (blk i) x.val
  inj : ∀ i j b c c', blk i = some (b, c) → blk j = some (b, c') → i = j
  own : ∀ i b c, blk i = some (b, c) → b < w.heap.size ∧ (ctx.w0.heap.size ≤ b ∨ ctx.K b) ∧ b ≠ mb
  out : ∀ i, R.length ≤ i → blk i = none
  os : w.os = ctx.w0.os
  tape : w.tape = ctx.w0.tape
  output : w.output = ctx.w0.output
  grows : ctx.w0.heap.size ≤ w.heap.size
  keep : ∀ q, q < ctx.w0.heap.size → ¬ ctx.K q → w.heap[q]? = ctx.w0.heap[q]?

theorem at_mem {n : Nat} {sl : List (Nat × PV)} {o : List (Nat × Ob)} {i : Nat} {p : PV} (h : (PState.mk n sl o).at i = some p) : (i, p) ∈ sl := getS_mem (at_get h)

theorem rd_row {w : World} {g : Ghost} {S : Nat → Prop} {id n : Nat} {u : Value} (h : Rd w g S (.row id n) u) : (∃ b c, g id = some (b, c) ∧ u = .slice (some ⟨b, 0, none⟩) n c) ∨ (g id = none ∧ n = 0 ∧ u = .slice none 0 0) := by
  cases h with
  | row _ _ b c h => exact .inl ⟨b, c, h, rfl⟩
  | rowNil _ h => exact .inr ⟨h, rfl, rfl⟩
section
variable {ctx : Ctx} {ks : List IntKind} {e : TypeId} {k mid n : Nat} {sl : List (Nat × PV)} {a : Act} {w : World} {g : Ghost}
theorem RelT.start {bs0 : List Nat} {ck0 : Nat} (h : RelG ctx g ⟨n, sl, [(mid, .map ks false [] bs0 ck0)]⟩ a w) : ∃ mb es ck, RelT ctx ks e k mid n sl [] a w g mb (fun _ => none) es ck := by
  have hl : look [(mid, Ob.map ks false [] bs0 ck0)] mid = some (.map ks false [] bs0 ck0) := by simp [look]
  cases h.objs mid _ hl with
  | map _ _ _ _ _ blk q es hg hh hm =>
    refine ⟨blk, es, ck0, h.defers, h.size, fun i p hp => ?_, ⟨q, hg⟩, h.own mid _ blk q hl hg, hh, hm.size, by rw [← hm.stamps]; exact hm.below, by rw [← hm.stamps]; exact hm.nodup, (fun i ns l hi => by simp at hi), (fun i j b c c' hi => by cases hi), (fun i b c hi => by cases hi), fun _ _ => rfl, h.os, h.tape, h.output, h.grows, h.keep⟩
    refine (h.slots i p hp).keep ⟨Nat.le_refl _, fun _ _ _ => rfl⟩ (fun b hb _ => ⟨hb.1, fun eb => ?_, fun i c hc => by cases hc⟩) (fun _ _ => rfl)
    subst eb
    exact hb.2 mid _ q hl hg
theorem cell_cur {b : Nat} {cur : List Value} (hh : w.heap[b]? = some (.cells cur.toArray e (0, 0))) (o : Nat) : w.cell? ⟨b, o, none⟩ = cur[o]? := cell_of_heap hh o
theorem RelT.done {R : RowsM} {mb : Nat} {blk : Nat → Option (Nat × Nat)} {es : Array MapEntry} {ck : Nat} (hK : ∀ b, ctx.K b → ctx.S b) (h : RelT ctx ks e k mid n sl R a w g mb blk es ck) : RelG ctx g ⟨n, sl, [(mid, .map ks false (rowsM R) (es.toList.map (·.born)) ck)]⟩ a w := by
  obtain ⟨q, hg⟩ := h.gm
  have hlk : ∀ id o, look [(mid, Ob.map ks false (rowsM R) (es.toList.map (·.born)) ck)] id = some o → id = mid := fun id o ho => by
    simp only [look] at ho
    split at ho
    · assumption
    · cases ho
  have hfree : ∀ b, (ctx.S b ∨ ctx.w0.heap.size ≤ b) → b ≠ mb → Free ctx g [(mid, Ob.map ks false (rowsM R) (es.toList.map (·.born)) ck)] b := fun b h1 h2 => ⟨h1, fun id o m ho hgi => by
    rw [hlk id o ho, hg] at hgi; cases hgi; exact h2 rfl⟩
  refine ⟨h.defers, h.size, fun i p hp => ?_, fun id o ho => ?_, fun i j oi oj b m m' hi hj _ _ => by rw [hlk i oi hi, hlk j oj hj], fun id o b m ho hgi => ?_, h.os, h.tape, h.output, h.grows, h.keep⟩
  · exact (h.slots i p hp).keep ⟨Nat.le_refl _, fun _ _ _ => rfl⟩ (fun b hb _ => hfree b hb.1 hb.2.1) (fun _ _ => rfl)
  · have hid := hlk id o ho
    subst hid
    simp only [look, if_true] at ho
    cases ho
    refine .map ks false _ _ ck mb q es hg h.hh ⟨by simp [rowsM, h.sz], rfl, h.below, h.nodup, fun i ns cs hi => ?_⟩
    unfold rowsM at hi
    rw [List.getElem?_map] at hi
    cases hR : R[i]? with
    | none => rw [hR] at hi; cases hi
    | some r =>
      obtain ⟨ns', l⟩ := r
      rw [hR] at hi
      simp only [Option.map_some, Option.some.injEq, Prod.mk.injEq] at hi
      obtain ⟨rfl, rfl⟩ := hi
      obtain ⟨x, h1, h2, h3, h4⟩ := h.ent i _ l hR
      have hd : DRd w (Free ctx g [(id, Ob.map ks false (rowsM R) (es.toList.map (·.born)) ck)]) (.sl l) x.val := by
        cases hb : blk i with
        | none =>
          rw [hb] at h4
          obtain ⟨rfl, hv⟩ := h4
          rw [hv]
          exact .nil none 0 (Nat.zero_le _) (fun _ => rfl)
        | some bc =>
          obtain ⟨b, cap⟩ := bc
          rw [hb] at h4
          obtain ⟨hv, cur, hc, hlc, hcap, hcl, hkk, hr⟩ := h4
          rw [hv]
          obtain ⟨o1, o2, o3⟩ := h.own i b cap hb
          refine .sl l b 0 cap k (fun i j => cur.getD (i * k + j) undef) hlc hcap (hfree b (o2.elim .inr fun q => .inl (hK b q)) o3) o1 hkk (fun i' j' hi' hj' => ?_) fun i' cs j' x' hi' hx' => ?_
          · rw [cell_cur hc, Nat.zero_add]
            have : i' * k + j' < cur.length := by rw [hcl]; exact idx_lt (by omega) hj'
            simp [List.getD, this]
          · obtain ⟨u, hu, rfl, h1⟩ := hr i' cs j' x' hi' hx'
            simp only [List.getD, hu, Option.getD_some]
            exact .v u h1
      refine ⟨x, [x.val], h1, h2, rfl, rfl, fun _ => rfl, fun u hu => by rw [List.mem_singleton] at hu; rw [hu]; exact hd.one, h3, fun j y u hy hu => ?_⟩
      cases j with
      | zero => simp at hy hu; subst hy; subst hu; exact hd
      | succ j => simp at hy
  · rw [hlk id o ho, hg] at hgi
    cases hgi
    exact h.lt

/-- The values of the entries. -/
def valsT (R : RowsM) (es : Array MapEntry) : List (List Int × Value) := List.zipWith (fun r x => (r.1, x.val)) R es.toList
theorem valsT_len {R : RowsM} {es : Array MapEntry} (h : es.size = R.length) : (valsT R es).length = R.length := by simp [valsT, h]
theorem valsT_fst {R : RowsM} {es : Array MapEntry} (h : es.size = R.length) : (valsT R es).map (·.1) = R.map (·.1) := by
  apply List.ext_getElem?
  intro i
  simp only [valsT, List.getElem?_map, List.getElem?_zipWith]
  cases hR : R[i]? with
  | none => simp
  | some r =>
    have : i < es.toList.length := by have := (List.getElem?_eq_some_iff.1 hR).1; simp; omega
    simp [List.getElem?_eq_getElem this]
theorem valsT_get {R : RowsM} {es : Array MapEntry} {i : Nat} {ns : List Int} {u : Value} (h : (valsT R es)[i]? = some (ns, u)) : ∃ l x, R[i]? = some (ns, l) ∧ es[i]? = some x ∧ x.val = u := by
  simp only [valsT, List.getElem?_zipWith] at h
  cases hR : R[i]? with
  | none => rw [hR] at h; cases h
  | some r =>
    cases hx : es.toList[i]? with
    | none => rw [hR, hx] at h; cases h
    | some x =>
      rw [hR, hx] at h
      simp only [Option.some.injEq, Prod.mk.injEq] at h
      exact ⟨r.2, x, by rw [← h.1], by simpa using hx, h.2⟩
theorem valsT_of {R : RowsM} {es : Array MapEntry} {i : Nat} {ns : List Int} {l : List (List DV)} {x : MapEntry} (h : R[i]? = some (ns, l)) (hx : es[i]? = some x) : (valsT R es)[i]? = some (ns, x.val) := by
  have hx' : es.toList[i]? = some x := by simpa using hx
  rw [valsT, List.getElem?_zipWith, h, hx']

/-- The call's world while a round is walked. -/
def ctxT (ctx : Ctx) (mb : Nat) (blk : Nat → Option (Nat × Nat)) (j : Nat) (w : World) : Ctx := ⟨w, Dt ctx mb blk, fun b => b = mb ∨ ∃ c, blk j = some (b, c)⟩

section
variable {R : RowsM} {mb : Nat} {blk : Nat → Option (Nat × Nat)} {es : Array MapEntry} {ck : Nat}
/-- In: the row that is touched, taken out. -/
theorem RelT.found (h : RelT ctx ks e k mid n sl R a w g mb blk es ck) (hnm : ∀ x ∈ sl, ∀ id, x.2.has id = true → id = mid) (hm : mid ≠ 50) {j : Nat} {ns : List Int} {l : List (List DV)} (hj : R[j]? = some (ns, l)) :
    RelG (ctxT ctx mb blk j w) (upd g 50 (blk j)) ⟨n, sl, [(mid, .mapP ks (valsT R es) (some (j, .row 50 l.length)) (es.toList.map (·.born)) ck), (50, .row e k l)]⟩ a w := by
  obtain ⟨q, hg⟩ := h.gm
  have hgm : upd g 50 (blk j) mid = some (mb, q) := by rw [upd_ne hm]; exact hg
  have hg5 : upd g 50 (blk j) 50 = blk j := upd_same _ _ _
  have hlk : ∀ id o, look [(mid, Ob.mapP ks (valsT R es) (some (j, .row 50 l.length)) (es.toList.map (·.born)) ck), (50, Ob.row e k l)] id = some o → (id = mid ∧ o = .mapP ks (valsT R es) (some (j, .row 50 l.length)) (es.toList.map (·.born)) ck) ∨ (id = 50 ∧ o = .row e k l) := fun id o ho => by
    simp only [look] at ho
    split at ho
    · cases ho; exact .inl ⟨by assumption, rfl⟩
    · split at ho
      · cases ho; exact .inr ⟨by assumption, rfl⟩
      · cases ho
  have hfree : ∀ b, Dt ctx mb blk b → Free (ctxT ctx mb blk j w) (upd g 50 (blk j)) [(mid, Ob.mapP ks (valsT R es) (some (j, .row 50 l.length)) (es.toList.map (·.born)) ck), (50, Ob.row e k l)] b := fun b hb => ⟨.inl hb, fun id o m ho hgi => by
    rcases hlk id o ho with ⟨rfl, _⟩ | ⟨rfl, _⟩
    · rw [hgm] at hgi; cases hgi; exact hb.2.1 rfl
    · rw [hg5] at hgi; exact hb.2.2 j m hgi⟩
  obtain ⟨x, h1, h2, h3, h4⟩ := h.ent j ns l hj
  refine ⟨h.defers, h.size, fun i p hp => ?_, fun id o ho => ?_, fun i i' oi oj b m m' hi hi' hgi hgj => ?_, fun id o b m ho hgi => ?_, rfl, rfl, rfl, Nat.le_refl _, fun _ _ _ => rfl⟩
  · exact (h.slots i p hp).keep ⟨Nat.le_refl _, fun _ _ _ => rfl⟩ (fun b hb _ => hfree b hb) (fun id hid => by rw [hnm _ (at_mem hp) id hid, hgm, hg])
  · rcases hlk id o ho with ⟨rfl, rfl⟩ | ⟨rfl, rfl⟩
    · refine .mapP ks _ _ _ ck mb q es hgm h.hh (by rw [valsT_len h.sz, h.sz]) rfl h.below h.nodup (fun i ns' u hi => ?_) fun j' p hjp => ?_
      · obtain ⟨l', x', r1, r2, r3⟩ := valsT_get hi
        obtain ⟨x2, s1, s2, s3, s4⟩ := h.ent i ns' l' r1
        rw [r2] at s1; cases s1
        refine ⟨x', r2, s2, s3, ?_, fun _ => r3⟩
        cases hb : blk i with
        | none => rw [hb] at s4; rw [s4.2]; rfl
        | some bc => obtain ⟨b, c⟩ := bc; rw [hb] at s4; rw [s4.1]; rfl
      · cases hjp
        refine ⟨x, h1, ?_⟩
        cases hb : blk j with
        | none => rw [hb] at h4; obtain ⟨rfl, hv⟩ := h4; rw [hv]; exact .rowNil 50 (upd_same _ _ _)
        | some bc => obtain ⟨b, c⟩ := bc; rw [hb] at h4; rw [h4.1]; exact .row 50 _ b c (upd_same _ _ _)
    · cases hb : blk j with
      | none => rw [hb] at h4; obtain ⟨rfl, hv⟩ := h4; exact .rowNil e k (upd_same _ _ _)
      | some bc =>
        obtain ⟨b, c⟩ := bc
        rw [hb] at h4
        obtain ⟨hv, cur, hc, hlc, hcap, hcl, hkk, hr⟩ := h4
        refine .row e k l b c cur (upd_same _ _ _) hc hlc hcap hcl hkk fun i' cs j' x' hi' hx' => ?_
        obtain ⟨u, hu, rfl, ho1⟩ := hr i' cs j' x' hi' hx'
        exact ⟨u, hu, .v u ho1⟩
  · rcases hlk i oi hi with ⟨rfl, _⟩ | ⟨rfl, _⟩ <;> rcases hlk i' oj hi' with ⟨rfl, _⟩ | ⟨rfl, _⟩
    · rfl
    · rw [hgm] at hgi; cases hgi; rw [hg5] at hgj; exact ((h.own j _ _ hgj).2.2 rfl).elim
    · rw [hgm] at hgj; cases hgj; rw [hg5] at hgi; exact ((h.own j _ _ hgi).2.2 rfl).elim
    · rfl
  · rcases hlk id o ho with ⟨rfl, _⟩ | ⟨rfl, _⟩
    · rw [hgm] at hgi; cases hgi; exact ⟨h.lt.1, .inr (.inl rfl)⟩
    · rw [hg5] at hgi; exact ⟨(h.own j _ _ hgi).1, .inr (.inr ⟨_, hgi⟩)⟩
/-- In: no row is touched that is there. -/
theorem RelT.fresh (h : RelT ctx ks e k mid n sl R a w g mb blk es ck) (j : Nat) :
    RelG (ctxT ctx mb blk j w) g ⟨n, sl, [(mid, .mapP ks (valsT R es) none (es.toList.map (·.born)) ck)]⟩ a w := by
  obtain ⟨q, hg⟩ := h.gm
  have hlk : ∀ id o, look [(mid, Ob.mapP ks (valsT R es) none (es.toList.map (·.born)) ck)] id = some o → id = mid ∧ o = .mapP ks (valsT R es) none (es.toList.map (·.born)) ck := fun id o ho => by
    simp only [look] at ho
    split at ho
    · cases ho; exact ⟨by assumption, rfl⟩
    · cases ho
  have hfree : ∀ b, Dt ctx mb blk b → Free (ctxT ctx mb blk j w) g [(mid, Ob.mapP ks (valsT R es) none (es.toList.map (·.born)) ck)] b := fun b hb => ⟨.inl hb, fun id o m ho hgi => by
    rw [(hlk id o ho).1, hg] at hgi; cases hgi; exact hb.2.1 rfl⟩
  refine ⟨h.defers, h.size, fun i p hp => ?_, fun id o ho => ?_, fun i i' oi oj b m m' hi hi' hgi hgj => ?_, fun id o b m ho hgi => ?_, rfl, rfl, rfl, Nat.le_refl _, fun _ _ _ => rfl⟩
  · exact (h.slots i p hp).keep ⟨Nat.le_refl _, fun _ _ _ => rfl⟩ (fun b hb _ => hfree b hb) (fun _ _ => rfl)
  · obtain ⟨rfl, rfl⟩ := hlk id o ho
    refine .mapP ks _ _ _ ck mb q es hg h.hh (by rw [valsT_len h.sz, h.sz]) rfl h.below h.nodup (fun i ns' u hi => ?_) fun j' p hjp => by cases hjp
    obtain ⟨l', x', r1, r2, r3⟩ := valsT_get hi
    obtain ⟨x2, s1, s2, s3, s4⟩ := h.ent i ns' l' r1
    rw [r2] at s1; cases s1
    refine ⟨x', r2, s2, s3, ?_, fun _ => r3⟩
    cases hb : blk i with
    | none => rw [hb] at s4; rw [s4.2]; rfl
    | some bc => obtain ⟨b, c⟩ := bc; rw [hb] at s4; rw [s4.1]; rfl
  · rw [(hlk i oi hi).1, (hlk i' oj hi').1]
  · rw [(hlk id o ho).1, hg] at hgi; cases hgi; exact ⟨h.lt.1, .inr (.inl rfl)⟩
/-- Out: the touched row is put back. -/
theorem RelT.back (h : RelT ctx ks e k mid n sl R a w g mb blk es ck) {j q : Nat} {ns : List Int} {l : List (List DV)} {R' : RowsM} {vm : List (List Int × Value)} {sl' : List (Nat × PV)} {a' : Act} {w' : World} {g' : Ghost} {bs' : List Nat} {ck' : Nat} (hq : mid ≠ q) (hle : R.length ≤ R'.length)
    (hvl : vm.length = R'.length) (hj : R'[j]? = some (ns, l)) (hjv : ∃ u, vm[j]? = some (ns, u)) (hvm : ∀ i ns' l', i ≠ j → R'[i]? = some (ns', l') → R[i]? = some (ns', l') ∧ ∃ x, es[i]? = some x ∧ vm[i]? = some (ns', x.val)) (hpl : PlainL l)
    (hr : RelG (ctxT ctx mb blk j w) g' ⟨n, sl', [(mid, .mapP ks vm (some (j, .row q l.length)) bs' ck'), (q, .row e k l)]⟩ a' w') :
    ∃ mb' blk' es', RelT ctx ks e k mid n sl' R' a' w' g' mb' blk' es' ck' := by
  have hlm : look [(mid, Ob.mapP ks vm (some (j, .row q l.length)) bs' ck'), (q, Ob.row e k l)] mid = some (.mapP ks vm (some (j, .row q l.length)) bs' ck') := by simp [look]
  have hlq : look [(mid, Ob.mapP ks vm (some (j, .row q l.length)) bs' ck'), (q, Ob.row e k l)] q = some (.row e k l) := by simp [look, Ne.symm hq]
  cases hr.objs mid _ hlm with
  | mapP _ _ _ _ _ mb' n' es' hgm hh hsz hst hbl hnd hent hov =>
    subst hst
    have hgr : w.heap.size ≤ w'.heap.size := hr.grows
    have hbase : ctx.w0.heap.size ≤ w.heap.size := h.grows
    have hown : ∀ id o b m, look [(mid, Ob.mapP ks vm (some (j, .row q l.length)) (es'.toList.map (·.born)) ck'), (q, Ob.row e k l)] id = some o → g' id = some (b, m) → b < w'.heap.size ∧ (w.heap.size ≤ b ∨ b = mb ∨ ∃ c, blk j = some (b, c)) := fun id o b m ho hg => hr.own id o b m ho hg
    have hnew : ∀ b, (w.heap.size ≤ b ∨ b = mb ∨ ∃ c, blk j = some (b, c)) → ctx.w0.heap.size ≤ b ∨ ctx.K b := fun b hb => by
      rcases hb with hb | hb | ⟨c, hb⟩
      · exact .inl (by omega)
      · subst hb; exact h.lt.2
      · exact (h.own j b c hb).2.1
    have hkeep : ∀ i b c, i ≠ j → blk i = some (b, c) → w'.heap[b]? = w.heap[b]? := fun i b c hij hb => hr.keep b (h.own i b c hb).1 fun hk => by
      rcases hk with hk | ⟨c', hk⟩
      · exact (h.own i b c hb).2.2 hk
      · exact hij (h.inj i j b c c' hb hk)
    have hdiff : ∀ i b c, i ≠ j → blk i = some (b, c) → ¬ (w.heap.size ≤ b ∨ b = mb ∨ ∃ c, blk j = some (b, c)) := fun i b c hij hb hk => by
      rcases hk with hk | hk | ⟨c', hk⟩
      · have := (h.own i b c hb).1; omega
      · exact (h.own i b c hb).2.2 hk
      · exact hij (h.inj i j b c c' hb hk)
    refine ⟨mb', fun i => if i = j then g' q else blk i, es', hr.defers, hr.size, fun i p hp => ?_, ⟨n', hgm⟩, ⟨(hown mid _ mb' n' hlm hgm).1, hnew mb' (hown mid _ mb' n' hlm hgm).2⟩, hh, by rw [hsz, hvl], hbl, hnd, fun i ns' l' hi => ?_, fun i i' b c c' hi hi' => ?_, fun i b c hi => ?_, fun i hi => ?_, ?_, ?_, ?_, by omega, fun z hz hzK => ?_⟩
    · refine (hr.slots i p hp).keep ⟨Nat.le_refl _, fun _ _ _ => rfl⟩ (fun b hb _ => ⟨?_, fun eb => ?_, fun i' c hc => ?_⟩) (fun _ _ => rfl)
      · rcases hb.1 with h1 | h1
        · exact h1.1
        · have h1' : w.heap.size ≤ b := h1
          exact .inr (by omega)
      · subst eb; exact hb.2 mid _ n' hlm hgm
      · simp only at hc
        split at hc
        · exact hb.2 q _ c hlq hc
        · rcases hb.1 with h1 | h1
          · exact h1.2.2 i' c hc
          · have h1' : w.heap.size ≤ b := h1
            have := (h.own i' b c hc).1
            omega
    · by_cases hij : i = j
      · subst hij
        rw [hj] at hi
        cases hi
        obtain ⟨u, hu⟩ := hjv
        obtain ⟨x, r1, r2, r3, _, _⟩ := hent i _ u hu
        obtain ⟨x', s1, s2⟩ := hov i _ rfl
        rw [r1] at s1
        cases s1
        refine ⟨x, r1, r2, r3, ?_⟩
        simp only [if_true]
        have h2 := rd_row s2
        generalize hL : l.length = L at h2
        cases hr.objs q _ hlq with
        | rowNil _ _ hgq =>
          rw [hgq]
          rcases h2 with ⟨b, c, hgi, _⟩ | ⟨_, _, hv⟩
          · rw [hgq] at hgi; cases hgi
          · exact ⟨rfl, hv⟩
        | row _ _ _ b c cur hgq hc hlc hcap hcl hkk hrr =>
          rw [hgq]
          rcases h2 with ⟨b', c', hgi, hv⟩ | ⟨hgi, _, _⟩
          · rw [hgq] at hgi
            cases hgi
            subst hL
            refine ⟨hv, cur, hc, hlc, hcap, hcl, hkk, fun i' cs j' y hi' hy => ?_⟩
            obtain ⟨u', hu', hd⟩ := hrr i' cs j' y hi' hy
            obtain ⟨u2, rfl⟩ := hpl cs (List.mem_of_getElem? hi') y (List.mem_of_getElem? hy)
            cases hd with
            | v _ h1 => exact ⟨_, hu', rfl, h1⟩
          · rw [hgq] at hgi; cases hgi
      · obtain ⟨r0, x0, e0, r1⟩ := hvm i ns' l' hij hi
        obtain ⟨x, s1, s2, s3, s4, s5⟩ := hent i _ _ r1
        refine ⟨x, s1, s2, s3, ?_⟩
        have hxv := s5 fun p hp => by cases hp; exact hij rfl
        simp only [if_neg hij]
        obtain ⟨x', t1, _, _, t4⟩ := h.ent i ns' l' r0
        rw [e0] at t1
        cases t1
        rw [hxv]
        cases hb : blk i with
        | none => rw [hb] at t4; exact t4
        | some bc =>
          obtain ⟨b, c⟩ := bc
          rw [hb] at t4
          obtain ⟨hv, cur, hc, rest⟩ := t4
          exact ⟨hv, cur, by rw [hkeep i b c hij hb]; exact hc, rest⟩
    · have hi0 := hi
      have hi0' := hi'
      clear hi hi'
      have hi : (if i = j then g' q else blk i) = some (b, c) := hi0
      have hi' : (if i' = j then g' q else blk i') = some (b, c') := hi0'
      by_cases h1 : i = j <;> by_cases h2 : i' = j
      · rw [h1, h2]
      · rw [if_pos h1] at hi; rw [if_neg h2] at hi'
        exact (hdiff i' b c' h2 hi' (hown q _ b c hlq hi).2).elim
      · rw [if_neg h1] at hi; rw [if_pos h2] at hi'
        exact (hdiff i b c h1 hi (hown q _ b c' hlq hi').2).elim
      · rw [if_neg h1] at hi; rw [if_neg h2] at hi'
        exact h.inj i i' b c c' hi hi'
    · replace hi : (if i = j then g' q else blk i) = some (b, c) := hi
      by_cases h1 : i = j
      · rw [if_pos h1] at hi
        have := hown q _ b c hlq hi
        exact ⟨this.1, hnew b this.2, fun eb => by subst eb; exact hq (hr.inj mid q _ _ b n' c hlm hlq hgm hi)⟩
      · rw [if_neg h1] at hi
        have := h.own i b c hi
        exact ⟨by omega, this.2.1, fun eb => by subst eb; exact hdiff i b c h1 hi (hown mid _ b n' hlm hgm).2⟩
    · have hjl := (List.getElem?_eq_some_iff.1 hj).1
      simp only [if_neg (show i ≠ j by omega)]
      exact h.out i (by omega)
    · rw [← h.os]; exact hr.os
    · rw [← h.tape]; exact hr.tape
    · rw [← h.output]; exact hr.output
    · rw [← h.keep z hz hzK]
      refine hr.keep z (Nat.lt_of_lt_of_le hz hbase) fun hk => ?_
      rcases hk with hk | ⟨c, hk⟩
      · subst hk
        rcases h.lt.2 with h1 | h1
        · omega
        · exact hzK h1
      · rcases (h.own j z c hk).2.1 with h1 | h1
        · omega
        · exact hzK h1
/-- Out: nothing was touched. -/
theorem RelT.back0 (h : RelT ctx ks e k mid n sl R a w g mb blk es ck) {j : Nat} (hjn : blk j = none) {sl' : List (Nat × PV)} {a' : Act} {w' : World} {g' : Ghost} {bs' : List Nat} {ck' : Nat}
    (hr : RelG (ctxT ctx mb blk j w) g' ⟨n, sl', [(mid, .mapP ks (valsT R es) none bs' ck')]⟩ a' w') :
    ∃ mb' es', RelT ctx ks e k mid n sl' R a' w' g' mb' blk es' ck' := by
  have hlm : look [(mid, Ob.mapP ks (valsT R es) none bs' ck')] mid = some (.mapP ks (valsT R es) none bs' ck') := by simp [look]
  cases hr.objs mid _ hlm with
  | mapP _ _ _ _ _ mb' n' es' hgm hh hsz hst hbl hnd hent hov =>
    subst hst
    have hgr : w.heap.size ≤ w'.heap.size := hr.grows
    have hbase : ctx.w0.heap.size ≤ w.heap.size := h.grows
    have hown : mb' < w'.heap.size ∧ (w.heap.size ≤ mb' ∨ mb' = mb ∨ ∃ c, blk j = some (mb', c)) := hr.own mid _ mb' n' hlm hgm
    have hown2 : w.heap.size ≤ mb' ∨ mb' = mb := by
      rcases hown.2 with h1 | h1 | ⟨c, h1⟩
      · exact .inl h1
      · exact .inr h1
      · rw [hjn] at h1; cases h1
    have hkeep : ∀ i b c, blk i = some (b, c) → w'.heap[b]? = w.heap[b]? := fun i b c hb => hr.keep b (h.own i b c hb).1 fun hk => by
      rcases hk with hk | ⟨c', hk⟩
      · exact (h.own i b c hb).2.2 hk
      · rw [hjn] at hk; cases hk
    refine ⟨mb', es', hr.defers, hr.size, fun i p hp => ?_, ⟨n', hgm⟩, ⟨hown.1, ?_⟩, hh, by rw [hsz, valsT_len h.sz], hbl, hnd, fun i ns' l' hi => ?_, h.inj, fun i b c hi => ?_, h.out, ?_, ?_, ?_, by omega, fun z hz hzK => ?_⟩
    · refine (hr.slots i p hp).keep ⟨Nat.le_refl _, fun _ _ _ => rfl⟩ (fun b hb _ => ⟨?_, fun eb => ?_, fun i' c hc => ?_⟩) (fun _ _ => rfl)
      · rcases hb.1 with h1 | h1
        · exact h1.1
        · have h1' : w.heap.size ≤ b := h1
          exact .inr (by omega)
      · subst eb; exact hb.2 mid _ n' hlm hgm
      · rcases hb.1 with h1 | h1
        · exact h1.2.2 i' c hc
        · have h1' : w.heap.size ≤ b := h1
          have := (h.own i' b c hc).1
          omega
    · rcases hown2 with h1 | h1
      · exact .inl (by omega)
      · rw [h1]; exact h.lt.2
    · obtain ⟨x', t1, t2, t3, t4⟩ := h.ent i ns' l' hi
      obtain ⟨x, s1, s2, s3, s4, s5⟩ := hent i _ _ (valsT_of hi t1)
      refine ⟨x, s1, s2, s3, ?_⟩
      rw [s5 fun p hp => by cases hp]
      cases hb : blk i with
      | none => rw [hb] at t4; exact t4
      | some bc =>
        obtain ⟨b, c⟩ := bc
        rw [hb] at t4
        obtain ⟨hv, cur, hc, rest⟩ := t4
        exact ⟨hv, cur, by rw [hkeep i b c hb]; exact hc, rest⟩
    · have := h.own i b c hi
      refine ⟨by omega, this.2.1, fun eb => ?_⟩
      rcases hown2 with h1 | h1
      · omega
      · exact this.2.2 (by rw [eb, h1])
    · rw [← h.os]; exact hr.os
    · rw [← h.tape]; exact hr.tape
    · rw [← h.output]; exact hr.output
    · rw [← h.keep z hz hzK]
      refine hr.keep z (Nat.lt_of_lt_of_le hz hbase) fun hk => ?_
      rcases hk with hk | ⟨c, hk⟩
      · subst hk
        rcases h.lt.2 with h1 | h1
        · omega
        · exact hzK h1
      · rw [hjn] at hk; cases hk
end
end

section
variable {P : Program} {ctx : Ctx} {ks : List IntKind} {e : TypeId} {k mid n : Nat} {Q : PQ} {s : PState} {c : Code}
/-- What a round does: a row that is there grows; a new one comes; nothing. -/
inductive RoundT (P : Program) (c : Code) (ks : List IntKind) (e : TypeId) (k mid n : Nat) (sl : List (Nat × PV)) (R : RowsM) (sl' : List (Nat × PV)) (R' : RowsM) : Prop
  | found {j nl nl' : Nat} {ns : List Int} {l l' : List (List DV)} (hl : nl = l.length) (hl' : nl' = l'.length) (hj : R[j]? = some (ns, l)) (hR : R' = R.set j (ns, l'))
      (h : ∀ (ctx : Ctx) (vm : List (List Int × Value)) (bs : List Nat) (ck : Nat), vm.map (·.1) = R.map (·.1) → PWc P ctx c (fun x t => x = .normal ∧ Sub ctx t ⟨n, sl', [(mid, .mapP ks vm (some (j, .row 50 nl')) bs ck), (50, .row e k l')]⟩) ⟨n, sl, [(mid, .mapP ks vm (some (j, .row 50 nl)) bs ck), (50, .row e k l)]⟩)
  | fresh {q nl' : Nat} {ns : List Int} {l' : List (List DV)} (hl' : nl' = l'.length) (hq : mid ≠ q) (hR : R' = R ++ [(ns, l')])
      (h : ∀ (ctx : Ctx) (vm : List (List Int × Value)) (bs : List Nat) (ck : Nat), vm.map (·.1) = R.map (·.1) → PWc P ctx c (fun x t => x = .normal ∧ Sub ctx t ⟨n, sl', [(mid, .mapP ks (vm ++ [(ns, undef)]) (some (vm.length, .row q nl')) (bs ++ [ck]) (ck + 1)), (q, .row e k l')]⟩) ⟨n, sl, [(mid, .mapP ks vm none bs ck)]⟩)
  | skip (hR : R' = R) (h : ∀ (ctx : Ctx) (vm : List (List Int × Value)) (bs : List Nat) (ck : Nat), PWc P ctx c (fun x t => x = .normal ∧ Sub ctx t ⟨n, sl', [(mid, .mapP ks vm none bs ck)]⟩) ⟨n, sl, [(mid, .mapP ks vm none bs ck)]⟩)

theorem RoundT.run {sl sl' : List (Nat × PV)} {R R' : RowsM} (hr : RoundT P c ks e k mid n sl R sl' R') (hm : mid ≠ 50) (hnm : ∀ x ∈ sl, ∀ id, x.2.has id = true → id = mid) (hpl : ∀ p ∈ R', PlainL p.2)
    {a : Act} {w : World} {g : Ghost} {mb : Nat} {blk : Nat → Option (Nat × Nat)} {es : Array MapEntry} {ck : Nat} (h : RelT ctx ks e k mid n sl R a w g mb blk es ck) :
    c.wp P (fun x a' w' => x = .normal ∧ ∃ g' mb' blk' es' ck', RelT ctx ks e k mid n sl' R' a' w' g' mb' blk' es' ck') a w := by
  cases hr with
  | @found j nl nl' ns l l' hl hl' hj hR hw =>
    subst hl hl'
    refine wp_mono (hw (ctxT ctx mb blk j w) (valsT R es) (es.toList.map (·.born)) ck (valsT_fst h.sz) a w ⟨_, h.found hnm hm hj⟩) fun x a' w' ⟨t, ⟨hx, hs⟩, ht⟩ => ⟨hx, ?_⟩
    obtain ⟨g', hg'⟩ := hs a' w' ht
    subst hR
    have hjl := (List.getElem?_eq_some_iff.1 hj).1
    obtain ⟨x0, e0, _, _, _⟩ := h.ent j ns l hj
    have hj' : (R.set j (ns, l'))[j]? = some (ns, l') := by rw [List.getElem?_set_self hjl]
    obtain ⟨mb', blk', es', hT⟩ := h.back (R' := R.set j (ns, l')) (vm := valsT R es) (q := 50) hm (by simp) (by rw [valsT_len h.sz]; simp) hj' ⟨x0.val, valsT_of hj e0⟩ (fun i ns' l2 hij hi => by
      rw [List.getElem?_set_ne (Ne.symm hij)] at hi
      obtain ⟨x1, e1, _⟩ := h.ent i ns' l2 hi
      exact ⟨hi, x1, e1, valsT_of hi e1⟩) (hpl _ (List.mem_of_getElem? hj')) hg'
    exact ⟨g', mb', blk', es', _, hT⟩
  | @fresh q nl' ns l' hl' hq hR hw =>
    subst hl'
    refine wp_mono (hw (ctxT ctx mb blk R.length w) (valsT R es) (es.toList.map (·.born)) ck (valsT_fst h.sz) a w ⟨_, h.fresh R.length⟩) fun x a' w' ⟨t, ⟨hx, hs⟩, ht⟩ => ⟨hx, ?_⟩
    obtain ⟨g', hg'⟩ := hs a' w' ht
    subst hR
    have hj' : (R ++ [(ns, l')])[R.length]? = some (ns, l') := by simp
    rw [valsT_len h.sz] at hg'
    obtain ⟨mb', blk', es', hT⟩ := h.back (R' := R ++ [(ns, l')]) (j := R.length) (vm := valsT R es ++ [(ns, undef)]) (q := q) hq (by simp) (by simp [valsT_len h.sz]) hj' ⟨undef, by rw [List.getElem?_append_right (by rw [valsT_len h.sz]; exact Nat.le_refl _)]; simp [valsT_len h.sz]⟩ (fun i ns' l2 hij hi => by
      have hil : i < R.length := by
        have := (List.getElem?_eq_some_iff.1 hi).1
        simp at this
        omega
      rw [List.getElem?_append_left hil] at hi
      obtain ⟨x1, e1, _⟩ := h.ent i ns' l2 hi
      exact ⟨hi, x1, e1, by rw [List.getElem?_append_left (by rw [valsT_len h.sz]; exact hil)]; exact valsT_of hi e1⟩) (hpl _ (List.mem_of_getElem? hj')) hg'
    exact ⟨g', mb', blk', es', _, hT⟩
  | skip hR hw =>
    refine wp_mono (hw (ctxT ctx mb blk R.length w) (valsT R es) (es.toList.map (·.born)) ck a w ⟨_, h.fresh R.length⟩) fun x a' w' ⟨t, ⟨hx, hs⟩, ht⟩ => ⟨hx, ?_⟩
    obtain ⟨g', hg'⟩ := hs a' w' ht
    subst hR
    obtain ⟨mb', es', hT⟩ := h.back0 (h.out _ (Nat.le_refl _)) hg'
    exact ⟨g', mb', blk, es', _, hT⟩

end

section
variable {κ α : Type} {eK : κ → List Int} {enc : α → List DV}
variable [DecidableEq κ]
end
namespace AL
variable {κ α β : Type} [DecidableEq κ]
end AL
end Go.Ep

namespace Go.Proofs
open Go.Ep
set_option maxHeartbeats 1000000
set_option maxRecDepth 100000
set_option linter.unusedVariables false
set_option linter.unusedSimpArgs false


theorem roster_New_o_ok  (r0 : Int × Int × A16 × Bool × (List (Int × TMember))) (h : (roster_New_o ).wp (· = r0)) : PObj Try.prog 8 [] [] [] (.ref 3 0) (fun _ : Unit => [(3, .cells 55 [.d (.v (.int .u64 r0.1)), .d (.v (.int .u16 r0.2.1)), .mp 1, .d (.v (.int .u64 r0.2.2.1.1)), .d (.v (.int .u64 r0.2.2.1.2.1)), .d (.v (.int .u64 r0.2.2.1.2.2.1)), .d (.v (.int .u64 r0.2.2.1.2.2.2.1)), .d (.v (.int .u64 r0.2.2.1.2.2.2.2.1)), .d (.v (.int .u64 r0.2.2.1.2.2.2.2.2.1)), .d (.v (.int .u64 r0.2.2.1.2.2.2.2.2.2.1)), .d (.v (.int .u64 r0.2.2.1.2.2.2.2.2.2.2.1)), .d (.v (.int .u64 r0.2.2.1.2.2.2.2.2.2.2.2.1)), .d (.v (.int .u64 r0.2.2.1.2.2.2.2.2.2.2.2.2.1)), .d (.v (.int .u64 r0.2.2.1.2.2.2.2.2.2.2.2.2.2.1)), .d (.v (.int .u64 r0.2.2.1.2.2.2.2.2.2.2.2.2.2.2.1)), .d (.v (.int .u64 r0.2.2.1.2.2.2.2.2.2.2.2.2.2.2.2.1)), .d (.v (.int .u64 r0.2.2.1.2.2.2.2.2.2.2.2.2.2.2.2.2.1)), .d (.v (.int .u64 r0.2.2.1.2.2.2.2.2.2.2.2.2.2.2.2.2.2.1)), .d (.v (.int .u64 r0.2.2.1.2.2.2.2.2.2.2.2.2.2.2.2.2.2.2))]), (1, .mapH r0.2.2.2.1 [.u16] true (encM kI TMember.e r0.2.2.2.2))]) := by
  refine PObj.intro (sl := []) Try.func8 rfl Try.ntmps8 rfl rfl rfl ?_;intro ctx hK pv;refine PWc.seq ?_;refine PWc.region ?_;refine PWl.step (LR.assign rfl) rfl ?_;refine PWl.nil ?_;refine PWc.seq ?_;refine PWc.region ?_;refine PWl.step (LR.makeMap [.u16] true rfl) rfl ?_;refine PWl.step (LR.buildR (ns := [_, _, _, _, _, _, _, _, _, _, _, _, _, _, _, _, _, _, _]) build55 rfl rfl rfl) rfl ?_;refine PWl.step (LR.box rfl rfl rfl rfl) rfl ?_;refine PWl.step (LR.assign rfl) rfl ?_;refine PWl.nil ?_;refine PWc.ret ?_;replace h : _ = r0 := h;subst h;exact EndsO.mk () (.inr rfl) (Sub.trans (Sub.toH (id := 1) rfl) <| Sub.of (tl := [(0, _)]) (to := [(3, _), (1, _)]) rfl (.cons rfl rfl <| .nil) (.cons rfl rfl <| .cons rfl rfl <| .nil)) (.cons (.tmp rfl) <| .nil) rfl rfl

theorem roster_Roster_none_o_ok (epoch_1 : Int) (last_2 : Int) (c3 : A16) (nl4 : Bool) (m5 : List (Int × TMember)) (r0 : Bool) (h : (roster_Roster_none_o epoch_1 last_2 c3 nl4 m5).wp (· = r0)) : PObj Try.prog 26 [.ref 100 0] [(100, .cells 55 [.d (.v (.int .u64 epoch_1)), .d (.v (.int .u16 last_2)), .mp 101, .d (.v (.int .u64 c3.1)), .d (.v (.int .u64 c3.2.1)), .d (.v (.int .u64 c3.2.2.1)), .d (.v (.int .u64 c3.2.2.2.1)), .d (.v (.int .u64 c3.2.2.2.2.1)), .d (.v (.int .u64 c3.2.2.2.2.2.1)), .d (.v (.int .u64 c3.2.2.2.2.2.2.1)), .d (.v (.int .u64 c3.2.2.2.2.2.2.2.1)), .d (.v (.int .u64 c3.2.2.2.2.2.2.2.2.1)), .d (.v (.int .u64 c3.2.2.2.2.2.2.2.2.2.1)), .d (.v (.int .u64 c3.2.2.2.2.2.2.2.2.2.2.1)), .d (.v (.int .u64 c3.2.2.2.2.2.2.2.2.2.2.2.1)), .d (.v (.int .u64 c3.2.2.2.2.2.2.2.2.2.2.2.2.1)), .d (.v (.int .u64 c3.2.2.2.2.2.2.2.2.2.2.2.2.2.1)), .d (.v (.int .u64 c3.2.2.2.2.2.2.2.2.2.2.2.2.2.2.1)), .d (.v (.int .u64 c3.2.2.2.2.2.2.2.2.2.2.2.2.2.2.2))]), (101, .mapH nl4 [.u16] true (encM kI TMember.e m5))] [100, 101] (.d (.v (.bool r0))) (fun _ : Unit => [(100, .cells 55 [.d (.v (.int .u64 epoch_1)), .d (.v (.int .u16 last_2)), .mp 101, .d (.v (.int .u64 c3.1)), .d (.v (.int .u64 c3.2.1)), .d (.v (.int .u64 c3.2.2.1)), .d (.v (.int .u64 c3.2.2.2.1)), .d (.v (.int .u64 c3.2.2.2.2.1)), .d (.v (.int .u64 c3.2.2.2.2.2.1)), .d (.v (.int .u64 c3.2.2.2.2.2.2.1)), .d (.v (.int .u64 c3.2.2.2.2.2.2.2.1)), .d (.v (.int .u64 c3.2.2.2.2.2.2.2.2.1)), .d (.v (.int .u64 c3.2.2.2.2.2.2.2.2.2.1)), .d (.v (.int .u64 c3.2.2.2.2.2.2.2.2.2.2.1)), .d (.v (.int .u64 c3.2.2.2.2.2.2.2.2.2.2.2.1)), .d (.v (.int .u64 c3.2.2.2.2.2.2.2.2.2.2.2.2.1)), .d (.v (.int .u64 c3.2.2.2.2.2.2.2.2.2.2.2.2.2.1)), .d (.v (.int .u64 c3.2.2.2.2.2.2.2.2.2.2.2.2.2.2.1)), .d (.v (.int .u64 c3.2.2.2.2.2.2.2.2.2.2.2.2.2.2.2))]), (101, .mapH nl4 [.u16] true (encM kI TMember.e m5))]) := by
  refine PObj.intro (sl := [(0, _)]) Try.func26 rfl Try.ntmps26 rfl rfl rfl ?_;intro ctx hK pv;refine PWc.seq ?_;refine PWc.region ?_;refine PWl.step (LR.assign rfl) rfl ?_;refine PWl.nil ?_;refine PWc.seq ?_;refine PWc.region ?_;refine PWl.step (LR.move rfl) rfl ?_;refine PWl.step (LR.eqlPtr Try.underlying24 rfl) rfl ?_;refine PWl.step (LR.move rfl) rfl ?_;refine PWl.guardT (LR.move rfl) rfl rfl rfl ?_;refine PWl.guardT (LR.nilCheckRef rfl) rfl rfl rfl ?_;refine PWl.guardT (LR.fieldRef Try.underlying55 rfl Try.sizeOf28 (by decide) rfl rfl) rfl rfl rfl ?_;refine PWl.guardT (LR.loadRef Try.isAgg28 rfl rfl rfl) rfl rfl rfl ?_;refine PWl.guardT (LR.eql rfl rfl) rfl rfl rfl ?_;refine PWl.step (LR.pickF rfl rfl) rfl ?_;refine PWl.step (LR.assign rfl) rfl ?_;refine PWl.nil ?_;refine PWc.ret ?_;replace h : _ = r0 := h;subst h;exact EndsO.mk () (.inr rfl) (Sub.of (tl := [(2, _)]) (to := [(100, _), (101, _), (1100, _), (1101, _)]) rfl (.cons rfl rfl <| .nil) (.cons rfl rfl <| .cons rfl rfl <| .cons rfl rfl <| .cons rfl rfl <| .nil)) (.cons (.tmp rfl) <| .nil) rfl rfl
end Go.Proofs

namespace Go.Proofs
open Go.Ep
set_option maxHeartbeats 1000000
set_option maxRecDepth 100000
set_option linter.unusedVariables false
set_option linter.unusedSimpArgs false


theorem roster_Roster_Members_o_ok (epoch_1 : Int) (last_2 : Int) (c3 : A16) (nl4 : Bool) (m5 : List (Int × TMember)) (r0 : List TMember) (h : (roster_Roster_Members_o epoch_1 last_2 c3 nl4 m5).wp (· = r0)) : PObj Try.prog 10 [.ref 100 0] [(100, .cells 55 [.d (.v (.int .u64 epoch_1)), .d (.v (.int .u16 last_2)), .mp 101, .d (.v (.int .u64 c3.1)), .d (.v (.int .u64 c3.2.1)), .d (.v (.int .u64 c3.2.2.1)), .d (.v (.int .u64 c3.2.2.2.1)), .d (.v (.int .u64 c3.2.2.2.2.1)), .d (.v (.int .u64 c3.2.2.2.2.2.1)), .d (.v (.int .u64 c3.2.2.2.2.2.2.1)), .d (.v (.int .u64 c3.2.2.2.2.2.2.2.1)), .d (.v (.int .u64 c3.2.2.2.2.2.2.2.2.1)), .d (.v (.int .u64 c3.2.2.2.2.2.2.2.2.2.1)), .d (.v (.int .u64 c3.2.2.2.2.2.2.2.2.2.2.1)), .d (.v (.int .u64 c3.2.2.2.2.2.2.2.2.2.2.2.1)), .d (.v (.int .u64 c3.2.2.2.2.2.2.2.2.2.2.2.2.1)), .d (.v (.int .u64 c3.2.2.2.2.2.2.2.2.2.2.2.2.2.1)), .d (.v (.int .u64 c3.2.2.2.2.2.2.2.2.2.2.2.2.2.2.1)), .d (.v (.int .u64 c3.2.2.2.2.2.2.2.2.2.2.2.2.2.2.2))]), (101, .mapH nl4 [.u16] true (encM kI TMember.e m5))] [100, 101] (.d (.sl (List.map TMember.e r0))) (fun _ : Unit => [(100, .cells 55 [.d (.v (.int .u64 epoch_1)), .d (.v (.int .u16 last_2)), .mp 101, .d (.v (.int .u64 c3.1)), .d (.v (.int .u64 c3.2.1)), .d (.v (.int .u64 c3.2.2.1)), .d (.v (.int .u64 c3.2.2.2.1)), .d (.v (.int .u64 c3.2.2.2.2.1)), .d (.v (.int .u64 c3.2.2.2.2.2.1)), .d (.v (.int .u64 c3.2.2.2.2.2.2.1)), .d (.v (.int .u64 c3.2.2.2.2.2.2.2.1)), .d (.v (.int .u64 c3.2.2.2.2.2.2.2.2.1)), .d (.v (.int .u64 c3.2.2.2.2.2.2.2.2.2.1)), .d (.v (.int .u64 c3.2.2.2.2.2.2.2.2.2.2.1)), .d (.v (.int .u64 c3.2.2.2.2.2.2.2.2.2.2.2.1)), .d (.v (.int .u64 c3.2.2.2.2.2.2.2.2.2.2.2.2.1)), .d (.v (.int .u64 c3.2.2.2.2.2.2.2.2.2.2.2.2.2.1)), .d (.v (.int .u64 c3.2.2.2.2.2.2.2.2.2.2.2.2.2.2.1)), .d (.v (.int .u64 c3.2.2.2.2.2.2.2.2.2.2.2.2.2.2.2))]), (101, .mapH nl4 [.u16] true (encM kI TMember.e m5))]) := by
  refine PObj.intro (sl := [(0, _)]) Try.func10 rfl Try.ntmps10 rfl rfl rfl ?_;intro ctx hK pv;refine PWc.seq ?_;refine PWc.region ?_;refine PWl.step (LR.assignNilRow 35 3 rfl) rfl ?_;refine PWl.nil ?_;refine PWc.seq ?_;refine PWc.seq ?_;refine PWc.region ?_;refine PWl.step (LR.move rfl) rfl ?_;replace h := iDet h;obtain ⟨y6, hy7, h⟩ := h;refine PWl.step (LR.callObjS [(100, 100), (101, 101)] [] [100, 101] [] [(100, .cells 55 [.d (.v (.int .u64 epoch_1)), .d (.v (.int .u16 last_2)), .mp 101, .d (.v (.int .u64 c3.1)), .d (.v (.int .u64 c3.2.1)), .d (.v (.int .u64 c3.2.2.1)), .d (.v (.int .u64 c3.2.2.2.1)), .d (.v (.int .u64 c3.2.2.2.2.1)), .d (.v (.int .u64 c3.2.2.2.2.2.1)), .d (.v (.int .u64 c3.2.2.2.2.2.2.1)), .d (.v (.int .u64 c3.2.2.2.2.2.2.2.1)), .d (.v (.int .u64 c3.2.2.2.2.2.2.2.2.1)), .d (.v (.int .u64 c3.2.2.2.2.2.2.2.2.2.1)), .d (.v (.int .u64 c3.2.2.2.2.2.2.2.2.2.2.1)), .d (.v (.int .u64 c3.2.2.2.2.2.2.2.2.2.2.2.1)), .d (.v (.int .u64 c3.2.2.2.2.2.2.2.2.2.2.2.2.1)), .d (.v (.int .u64 c3.2.2.2.2.2.2.2.2.2.2.2.2.2.1)), .d (.v (.int .u64 c3.2.2.2.2.2.2.2.2.2.2.2.2.2.2.1)), .d (.v (.int .u64 c3.2.2.2.2.2.2.2.2.2.2.2.2.2.2.2))]), (101, .mapH nl4 [.u16] true (encM kI TMember.e m5))] (roster_Roster_none_o_ok epoch_1 last_2 c3 nl4 m5 y6 hy7) hK rfl Try.call26 rfl (by first | rfl | (simp; done) | (simp [PV.nilD, PV.ren, rn]; omega)) (.cons (by first | rfl | (congr 1; first | (simp; done) | (simp; omega) | omega)) <| .cons (by first | rfl | (congr 1; first | (simp; done) | (simp; omega) | omega)) <| .nil) (.nil) (.cons rfl <| .cons rfl <| .nil) (.cons (by first | rfl | (congr 1; first | (simp; done) | (simp; omega) | omega)) <| .cons (by first | rfl | (congr 1; first | (simp; done) | (simp; omega) | omega)) <| .nil) rfl rfl rfl rfl rfl rfl) rfl ?_;refine PWl.nil ?_;refine PWc.cond rfl (fun hc8 => ?_) (fun hc8 => ?_)
  · replace h := iT hc8 h;refine PWc.seq ?_;refine PWc.re (tl := []) (to := [(100, _), (101, _), (1100, _), (1101, _)]) rfl (.nil) (.cons rfl rfl <| .cons rfl rfl <| .cons rfl rfl <| .cons rfl rfl <| .nil) ?_;refine PWc.region ?_;refine PWl.step (LR.assignNilRow 35 3 rfl) rfl ?_;refine PWl.nil ?_;refine PWc.ret ?_;replace h : _ = r0 := h;subst h;exact EndsO.mk () (.inr rfl) (Sub.trans (Sub.frz [2] hK rfl (by first | (simp; done) | (simp; omega) | omega) (AllRow.get (.cons rfl <| .nil))) <| Sub.of (tl := [(2, _)]) (to := [(100, _), (101, _), (1100, _), (1101, _)]) rfl (.cons rfl rfl <| .nil) (.cons rfl rfl <| .cons rfl rfl <| .cons rfl rfl <| .cons rfl rfl <| .nil)) (.cons (.tmp rfl) <| .nil) rfl rfl
  · replace h := iF hc8 h;refine PWc.skip ?_;refine PWc.seq ?_;refine PWc.re (tl := [(0, _)]) (to := [(100, _), (101, _), (1100, _), (1101, _)]) rfl (.cons rfl rfl <| .nil) (.cons rfl rfl <| .cons rfl rfl <| .cons rfl rfl <| .cons rfl rfl <| .nil) ?_;refine PWc.region ?_;refine PWl.step (LR.assignNilRow 35 3 rfl) rfl ?_;refine PWl.nil ?_;refine PWc.seq ?_;refine PWc.seq ?_;refine PWc.region ?_;refine PWl.step (LR.move rfl) rfl ?_;refine PWl.step (LR.nilCheckRef rfl) rfl ?_;refine PWl.step (LR.fieldRef Try.underlying55 rfl Try.sizeOf53 (by decide) rfl rfl) rfl ?_;refine PWl.step (LR.loadRef Try.isAgg53 rfl rfl rfl) rfl ?_;refine PWl.openH (id := 101) rfl (fun bs9 ck9 => ?_);refine PWl.step (LR.rangeN Try.underlying53 rfl rfl rfl) rfl ?_;refine PWl.nil ?_;refine PWc.jn (iBind h) (fun (out10 : List TMember) (_ : Unit) => ⟨24, [(3, .row 3 (List.length out10))], [(3, .row 35 3 (List.map TMember.e out10)), (100, .cells 55 [.d (.v (.int .u64 epoch_1)), .d (.v (.int .u16 last_2)), .mp 101, .d (.v (.int .u64 c3.1)), .d (.v (.int .u64 c3.2.1)), .d (.v (.int .u64 c3.2.2.1)), .d (.v (.int .u64 c3.2.2.2.1)), .d (.v (.int .u64 c3.2.2.2.2.1)), .d (.v (.int .u64 c3.2.2.2.2.2.1)), .d (.v (.int .u64 c3.2.2.2.2.2.2.1)), .d (.v (.int .u64 c3.2.2.2.2.2.2.2.1)), .d (.v (.int .u64 c3.2.2.2.2.2.2.2.2.1)), .d (.v (.int .u64 c3.2.2.2.2.2.2.2.2.2.1)), .d (.v (.int .u64 c3.2.2.2.2.2.2.2.2.2.2.1)), .d (.v (.int .u64 c3.2.2.2.2.2.2.2.2.2.2.2.1)), .d (.v (.int .u64 c3.2.2.2.2.2.2.2.2.2.2.2.2.1)), .d (.v (.int .u64 c3.2.2.2.2.2.2.2.2.2.2.2.2.2.1)), .d (.v (.int .u64 c3.2.2.2.2.2.2.2.2.2.2.2.2.2.2.1)), .d (.v (.int .u64 c3.2.2.2.2.2.2.2.2.2.2.2.2.2.2.2))]), (101, .mapN nl4 [.u16] true (encM kI TMember.e m5) bs9 ck9), (1100, .pin 100 (pv 100)), (1101, .pin 101 (pv 101))]⟩) (fun h => ?_) ?_
    · refine PWc.block ?_;refine PWc.loopM (fun (⟨seen29, out30⟩ : List Nat × List TMember) (_ : Unit) => ⟨24, [(3, .row 3 (List.length out30)), (12, .ref 12 0)], [(3, .row 35 3 (List.map TMember.e out30)), (12, .iterO 101 bs9 ck9 seen29), (100, .cells 55 [.d (.v (.int .u64 epoch_1)), .d (.v (.int .u16 last_2)), .mp 101, .d (.v (.int .u64 c3.1)), .d (.v (.int .u64 c3.2.1)), .d (.v (.int .u64 c3.2.2.1)), .d (.v (.int .u64 c3.2.2.2.1)), .d (.v (.int .u64 c3.2.2.2.2.1)), .d (.v (.int .u64 c3.2.2.2.2.2.1)), .d (.v (.int .u64 c3.2.2.2.2.2.2.1)), .d (.v (.int .u64 c3.2.2.2.2.2.2.2.1)), .d (.v (.int .u64 c3.2.2.2.2.2.2.2.2.1)), .d (.v (.int .u64 c3.2.2.2.2.2.2.2.2.2.1)), .d (.v (.int .u64 c3.2.2.2.2.2.2.2.2.2.2.1)), .d (.v (.int .u64 c3.2.2.2.2.2.2.2.2.2.2.2.1)), .d (.v (.int .u64 c3.2.2.2.2.2.2.2.2.2.2.2.2.1)), .d (.v (.int .u64 c3.2.2.2.2.2.2.2.2.2.2.2.2.2.1)), .d (.v (.int .u64 c3.2.2.2.2.2.2.2.2.2.2.2.2.2.2.1)), .d (.v (.int .u64 c3.2.2.2.2.2.2.2.2.2.2.2.2.2.2.2))]), (101, .mapN nl4 [.u16] true (encM kI TMember.e m5) bs9 ck9), (1100, .pin 100 (pv 100)), (1101, .pin 101 (pv 101))]⟩) () h (Sub.of rfl (.cons rfl rfl <| .cons rfl rfl <| .nil) (.cons rfl rfl <| .cons rfl rfl <| .cons rfl rfl <| .cons rfl rfl <| .cons rfl rfl <| .cons rfl rfl <| .nil)) ?_;rintro N ⟨seen29, out30⟩ _ h;refine PWc.seq ?_;refine PWc.region ?_;replace h := iNeed h;obtain ⟨hy38, h⟩ := h;replace h := iNxt h;refine PWl.nextN rfl rfl rfl (nxtD hy38) rfl (fun hy32 => ?_) (fun j31 hy33 hy34 => ?_)
      · replace h := h.1 (nxtA hy32);refine PWl.step (LR.extract rfl rfl) rfl ?_;refine PWl.nil ?_;refine PWc.seq ?_;refine PWc.condF rfl ?_;refine PWc.exit ?_;exact ⟨out30, (), h, Sub.of rfl (.cons rfl rfl <| .nil) (.cons rfl rfl <| .cons rfl rfl <| .cons rfl rfl <| .cons rfl rfl <| .cons rfl rfl <| .nil)⟩
      · replace h := h.2 j31 (nxtB hy33) hy34;refine PWl.step (LR.extract rfl rfl) rfl ?_;refine PWl.nil ?_;refine PWc.seq ?_;refine PWc.condT rfl ?_;refine PWc.skip ?_;refine PWc.block ?_;refine PWc.seq ?_;refine PWc.region ?_;replace h := iIdx h;obtain ⟨kv35, hy36, h⟩ := h;refine PWl.step (LR.entryN rfl rfl rfl (entGet hy36) rfl rfl) rfl ?_;refine PWl.step (LR.extract rfl rfl) rfl ?_;refine PWl.step (LR.allocZ (cs := [_, _, _]) Try.zeroValue35 rfl rfl rfl rfl) rfl ?_;refine PWl.step (LR.storeB (ns := [_, _, _]) Try.sizeOf35 rfl rfl rfl rfl rfl rfl rfl) rfl ?_;refine PWl.nil ?_;refine PWc.region ?_;refine PWl.step (LR.move rfl) rfl ?_;refine PWl.step (LR.loadRefAgg (ps := [_, _, _]) Try.isAgg35 Try.sizeOf35 rfl rfl rfl rfl) rfl ?_;refine PWl.step (LR.buildSliceD [.tmp 18] elem32 rfl rfl (.cons rfl rfl rfl <| .nil) (by decide) (by decide)) rfl ?_;replace h := iNeed h;obtain ⟨hy37, h⟩ := h;refine PWl.step (LR.appT (enc := TMember.e) (L := out30) (R := [kv35.2]) [3, 17] elem32 Try.underlying32 rfl rfl rfl (Src.slT (enc := TMember.e) (R := [kv35.2]) rfl (fun _ => rfl)) (fun _ => rfl) hy37 rfl rfl) rfl ?_;refine PWl.step (LR.assign rfl) rfl ?_;refine PWl.nil ?_;exact ⟨((seen29 ++ [j31]), (out30 ++ [kv35.2])), (), h, Sub.of rfl (.cons rfl rfl <| .cons rfl rfl <| .nil) (.cons rfl rfl <| .cons rfl rfl <| .cons rfl rfl <| .cons rfl rfl <| .cons rfl rfl <| .cons rfl rfl <| .nil)⟩
    · rintro out10 _ h;refine PWc.seq ?_;refine PWc.region ?_;refine PWl.step (LR.move rfl) rfl ?_;replace h := iNeed h;obtain ⟨hy40, h⟩ := h;refine PWl.sortFn (encD := TMember.e) (enc := TMember.v) (l := out10) srt27_28 (fun _ => rfl) TMember.v1 (fun _ => rfl) rfl Try.call27 rfl rfl rfl (by simp) hy40 rfl (fun s39 hy41 hy42 => ?_);replace h := iSrt h s39 hy41 hy42;have hy41l := hy41.length_eq;refine PWl.nil ?_;refine PWc.seq ?_;refine PWc.region ?_;refine PWl.step (LR.move rfl) rfl ?_;refine PWl.step (LR.assign rfl) rfl ?_;refine PWl.nil ?_;refine PWc.ret ?_;replace h : _ = r0 := h;subst h;exact EndsO.mk () (.inr rfl) (Sub.trans (Sub.frz [2, 3, 21, 23] hK rfl (by first | (simp; done) | (simp; omega) | omega) (AllRow.get (.cons rfl <| .cons rfl <| .cons rfl <| .cons rfl <| .nil))) <| Sub.trans (Sub.nToH (id := 101) rfl) <| Sub.of (tl := [(2, _)]) (to := [(100, _), (101, _), (1100, _), (1101, _)]) rfl (.cons rfl rfl <| .nil) (.cons rfl rfl <| .cons rfl rfl <| .cons rfl rfl <| .cons rfl rfl <| .nil)) (.cons (.tmp rfl) <| .nil) rfl rfl

theorem roster_Roster_Of_o_ok (slot1 : Int) (epoch_2 : Int) (last_3 : Int) (c4 : A16) (nl5 : Bool) (m6 : List (Int × TMember)) (r0 : TMember × Bool) (h : (roster_Roster_Of_o slot1 epoch_2 last_3 c4 nl5 m6).wp (· = r0)) : PObj Try.prog 19 [.ref 100 0, .d (.v (.int .u8 slot1))] [(100, .cells 55 [.d (.v (.int .u64 epoch_2)), .d (.v (.int .u16 last_3)), .mp 101, .d (.v (.int .u64 c4.1)), .d (.v (.int .u64 c4.2.1)), .d (.v (.int .u64 c4.2.2.1)), .d (.v (.int .u64 c4.2.2.2.1)), .d (.v (.int .u64 c4.2.2.2.2.1)), .d (.v (.int .u64 c4.2.2.2.2.2.1)), .d (.v (.int .u64 c4.2.2.2.2.2.2.1)), .d (.v (.int .u64 c4.2.2.2.2.2.2.2.1)), .d (.v (.int .u64 c4.2.2.2.2.2.2.2.2.1)), .d (.v (.int .u64 c4.2.2.2.2.2.2.2.2.2.1)), .d (.v (.int .u64 c4.2.2.2.2.2.2.2.2.2.2.1)), .d (.v (.int .u64 c4.2.2.2.2.2.2.2.2.2.2.2.1)), .d (.v (.int .u64 c4.2.2.2.2.2.2.2.2.2.2.2.2.1)), .d (.v (.int .u64 c4.2.2.2.2.2.2.2.2.2.2.2.2.2.1)), .d (.v (.int .u64 c4.2.2.2.2.2.2.2.2.2.2.2.2.2.2.1)), .d (.v (.int .u64 c4.2.2.2.2.2.2.2.2.2.2.2.2.2.2.2))]), (101, .mapH nl5 [.u16] true (encM kI TMember.e m6))] [100, 101] (.tup [.agg (List.map .d (TMember.e r0.1)), .d (.v (.bool r0.2))]) (fun _ : Unit => [(100, .cells 55 [.d (.v (.int .u64 epoch_2)), .d (.v (.int .u16 last_3)), .mp 101, .d (.v (.int .u64 c4.1)), .d (.v (.int .u64 c4.2.1)), .d (.v (.int .u64 c4.2.2.1)), .d (.v (.int .u64 c4.2.2.2.1)), .d (.v (.int .u64 c4.2.2.2.2.1)), .d (.v (.int .u64 c4.2.2.2.2.2.1)), .d (.v (.int .u64 c4.2.2.2.2.2.2.1)), .d (.v (.int .u64 c4.2.2.2.2.2.2.2.1)), .d (.v (.int .u64 c4.2.2.2.2.2.2.2.2.1)), .d (.v (.int .u64 c4.2.2.2.2.2.2.2.2.2.1)), .d (.v (.int .u64 c4.2.2.2.2.2.2.2.2.2.2.1)), .d (.v (.int .u64 c4.2.2.2.2.2.2.2.2.2.2.2.1)), .d (.v (.int .u64 c4.2.2.2.2.2.2.2.2.2.2.2.2.1)), .d (.v (.int .u64 c4.2.2.2.2.2.2.2.2.2.2.2.2.2.1)), .d (.v (.int .u64 c4.2.2.2.2.2.2.2.2.2.2.2.2.2.2.1)), .d (.v (.int .u64 c4.2.2.2.2.2.2.2.2.2.2.2.2.2.2.2))]), (101, .mapH nl5 [.u16] true (encM kI TMember.e m6))]) := by
  refine PObj.intro (sl := [(0, _), (1, _)]) Try.func19 rfl Try.ntmps19 rfl rfl rfl ?_;intro ctx hK pv;refine PWc.seq ?_;refine PWc.region ?_;refine PWl.step (LR.allocZ (cs := [_, _, _]) Try.zeroValue35 rfl rfl rfl rfl) rfl ?_;refine PWl.step (LR.assign rfl) rfl ?_;refine PWl.nil ?_;refine PWc.seq ?_;refine PWc.seq ?_;refine PWc.region ?_;refine PWl.step (LR.move rfl) rfl ?_;replace h := iDet h;obtain ⟨y7, hy8, h⟩ := h;refine PWl.step (LR.callObjS [(100, 100), (101, 101)] [] [100, 101] [] [(100, .cells 55 [.d (.v (.int .u64 epoch_2)), .d (.v (.int .u16 last_3)), .mp 101, .d (.v (.int .u64 c4.1)), .d (.v (.int .u64 c4.2.1)), .d (.v (.int .u64 c4.2.2.1)), .d (.v (.int .u64 c4.2.2.2.1)), .d (.v (.int .u64 c4.2.2.2.2.1)), .d (.v (.int .u64 c4.2.2.2.2.2.1)), .d (.v (.int .u64 c4.2.2.2.2.2.2.1)), .d (.v (.int .u64 c4.2.2.2.2.2.2.2.1)), .d (.v (.int .u64 c4.2.2.2.2.2.2.2.2.1)), .d (.v (.int .u64 c4.2.2.2.2.2.2.2.2.2.1)), .d (.v (.int .u64 c4.2.2.2.2.2.2.2.2.2.2.1)), .d (.v (.int .u64 c4.2.2.2.2.2.2.2.2.2.2.2.1)), .d (.v (.int .u64 c4.2.2.2.2.2.2.2.2.2.2.2.2.1)), .d (.v (.int .u64 c4.2.2.2.2.2.2.2.2.2.2.2.2.2.1)), .d (.v (.int .u64 c4.2.2.2.2.2.2.2.2.2.2.2.2.2.2.1)), .d (.v (.int .u64 c4.2.2.2.2.2.2.2.2.2.2.2.2.2.2.2))]), (101, .mapH nl5 [.u16] true (encM kI TMember.e m6))] (roster_Roster_Members_o_ok epoch_2 last_3 c4 nl5 m6 y7 hy8) hK rfl Try.call10 rfl (by first | rfl | (simp; done) | (simp [PV.nilD, PV.ren, rn]; omega)) (.cons (by first | rfl | (congr 1; first | (simp; done) | (simp; omega) | omega)) <| .cons (by first | rfl | (congr 1; first | (simp; done) | (simp; omega) | omega)) <| .nil) (.nil) (.cons rfl <| .cons rfl <| .nil) (.cons (by first | rfl | (congr 1; first | (simp; done) | (simp; omega) | omega)) <| .cons (by first | rfl | (congr 1; first | (simp; done) | (simp; omega) | omega)) <| .nil) rfl rfl rfl rfl rfl rfl) rfl ?_;refine PWl.step (LR.lenMap (enc := TMember.e) (L := y7) Try.underlying32 rfl) rfl ?_;refine PWl.step (LR.move rfl) rfl ?_;refine PWl.nil ?_;refine PWc.jnX (iBind h) (fun (_ : Unit) (_ : Unit) => ⟨22, [(4, .ref 4 0)], [(4, .cells 35 [.d (.v (.int .u16 0)), .d (.v (.int .u8 0)), .d (.v (.int .u64 0))]), (100, .cells 55 [.d (.v (.int .u64 epoch_2)), .d (.v (.int .u16 last_3)), .mp 101, .d (.v (.int .u64 c4.1)), .d (.v (.int .u64 c4.2.1)), .d (.v (.int .u64 c4.2.2.1)), .d (.v (.int .u64 c4.2.2.2.1)), .d (.v (.int .u64 c4.2.2.2.2.1)), .d (.v (.int .u64 c4.2.2.2.2.2.1)), .d (.v (.int .u64 c4.2.2.2.2.2.2.1)), .d (.v (.int .u64 c4.2.2.2.2.2.2.2.1)), .d (.v (.int .u64 c4.2.2.2.2.2.2.2.2.1)), .d (.v (.int .u64 c4.2.2.2.2.2.2.2.2.2.1)), .d (.v (.int .u64 c4.2.2.2.2.2.2.2.2.2.2.1)), .d (.v (.int .u64 c4.2.2.2.2.2.2.2.2.2.2.2.1)), .d (.v (.int .u64 c4.2.2.2.2.2.2.2.2.2.2.2.2.1)), .d (.v (.int .u64 c4.2.2.2.2.2.2.2.2.2.2.2.2.2.1)), .d (.v (.int .u64 c4.2.2.2.2.2.2.2.2.2.2.2.2.2.2.1)), .d (.v (.int .u64 c4.2.2.2.2.2.2.2.2.2.2.2.2.2.2.2))]), (101, .mapH nl5 [.u16] true (encM kI TMember.e m6)), (1100, .pin 100 (pv 100)), (1101, .pin 101 (pv 101))]⟩) (fun h => ?_) ?_
  · refine PWc.block ?_;refine PWc.loopM (fun (v18 : Int) (_ : Unit) => ⟨22, [(1, .d (.v (.int .u8 slot1))), (4, .ref 4 0), (9, .d (.sl (List.map TMember.e y7))), (10, .d (.v (.int .i64 (List.length y7 : Int)))), (11, .d (.v (.int .i64 v18)))], [(4, .cells 35 [.d (.v (.int .u16 0)), .d (.v (.int .u8 0)), .d (.v (.int .u64 0))]), (100, .cells 55 [.d (.v (.int .u64 epoch_2)), .d (.v (.int .u16 last_3)), .mp 101, .d (.v (.int .u64 c4.1)), .d (.v (.int .u64 c4.2.1)), .d (.v (.int .u64 c4.2.2.1)), .d (.v (.int .u64 c4.2.2.2.1)), .d (.v (.int .u64 c4.2.2.2.2.1)), .d (.v (.int .u64 c4.2.2.2.2.2.1)), .d (.v (.int .u64 c4.2.2.2.2.2.2.1)), .d (.v (.int .u64 c4.2.2.2.2.2.2.2.1)), .d (.v (.int .u64 c4.2.2.2.2.2.2.2.2.1)), .d (.v (.int .u64 c4.2.2.2.2.2.2.2.2.2.1)), .d (.v (.int .u64 c4.2.2.2.2.2.2.2.2.2.2.1)), .d (.v (.int .u64 c4.2.2.2.2.2.2.2.2.2.2.2.1)), .d (.v (.int .u64 c4.2.2.2.2.2.2.2.2.2.2.2.2.1)), .d (.v (.int .u64 c4.2.2.2.2.2.2.2.2.2.2.2.2.2.1)), .d (.v (.int .u64 c4.2.2.2.2.2.2.2.2.2.2.2.2.2.2.1)), .d (.v (.int .u64 c4.2.2.2.2.2.2.2.2.2.2.2.2.2.2.2))]), (101, .mapH nl5 [.u16] true (encM kI TMember.e m6)), (1100, .pin 100 (pv 100)), (1101, .pin 101 (pv 101))]⟩) () h (Sub.of rfl (.cons rfl rfl <| .cons rfl rfl <| .cons rfl rfl <| .cons rfl rfl <| .cons rfl rfl <| .nil) (.cons rfl rfl <| .cons rfl rfl <| .cons rfl rfl <| .cons rfl rfl <| .cons rfl rfl <| .nil)) ?_;rintro N v18 _ h;refine PWc.seq ?_;refine PWc.region ?_;refine PWl.step (LR.lss rfl rfl) rfl ?_;refine PWl.nil ?_;refine PWc.seq ?_;refine PWc.cond rfl (fun hc19 => ?_) (fun hc19 => ?_)
    · replace h := iT hc19 h;refine PWc.skip ?_;refine PWc.seq ?_;refine PWc.block ?_;refine PWc.seq ?_;refine PWc.region ?_;replace h := iIdx h;obtain ⟨x20, hy21, h⟩ := h;refine PWl.step (LR.idxT (enc := TMember.e) (L := y7) (y := x20) Try.underlying32 Try.sizeOf35 rfl rfl hy21 (fun _ => rfl)) rfl ?_;refine PWl.step (LR.loadEpAgg (ys := [_, _, _]) Try.isAgg35 Try.sizeOf35 rfl rfl rfl) rfl ?_;refine PWl.step (LR.allocZ (cs := [_, _, _]) Try.zeroValue35 rfl rfl rfl rfl) rfl ?_;refine PWl.step (LR.storeB (ns := [_, _, _]) Try.sizeOf35 rfl rfl rfl rfl rfl rfl rfl) rfl ?_;refine PWl.nil ?_;refine PWc.seq ?_;refine PWc.region ?_;refine PWl.step (LR.fieldRef Try.underlying35 rfl Try.sizeOf5 (by decide) rfl rfl) rfl ?_;refine PWl.step (LR.loadRef Try.isAgg5 rfl rfl rfl) rfl ?_;refine PWl.step (LR.move rfl) rfl ?_;refine PWl.step (LR.eql rfl rfl) rfl ?_;refine PWl.nil ?_;refine PWc.cond rfl (fun hc22 => ?_) (fun hc22 => ?_)
      · replace h := iT hc22 h;refine PWc.seq ?_;refine PWc.region ?_;refine PWl.step (LR.loadRefAgg (ps := [_, _, _]) Try.isAgg35 Try.sizeOf35 rfl rfl rfl rfl) rfl ?_;refine PWl.step (LR.storeB (ns := [_, _, _]) Try.sizeOf35 rfl rfl rfl rfl rfl rfl rfl) rfl ?_;refine PWl.step (LR.assign rfl) rfl ?_;refine PWl.nil ?_;refine PWc.ret ?_;replace h : _ = r0 := h;subst h;exact EndsO.mkX (ex := [(4, _)]) () (.inr rfl) (Sub.of (tl := [(4, _), (5, _)]) (to := [(100, _), (101, _), (1100, _), (1101, _), (4, _)]) rfl (.cons rfl rfl <| .cons rfl rfl <| .nil) (.cons rfl rfl <| .cons rfl rfl <| .cons rfl rfl <| .cons rfl rfl <| .cons rfl rfl <| .nil)) (.cons (.agg Try.isAgg35 Try.sizeOf35 rfl rfl rfl) <| .cons (.tmp rfl) <| .nil) rfl rfl
      · replace h := iF hc22 h;refine PWc.skip ?_;refine PWc.region ?_;refine PWl.step (LR.addW rfl rfl) rfl ?_;refine PWl.step (LR.move rfl) rfl ?_;refine PWl.nil ?_;exact ⟨(IntKind.i64.wrap (v18 + 1)), (), h, Sub.of rfl (.cons rfl rfl <| .cons rfl rfl <| .cons rfl rfl <| .cons rfl rfl <| .cons rfl rfl <| .nil) (.cons rfl rfl <| .cons rfl rfl <| .cons rfl rfl <| .cons rfl rfl <| .cons rfl rfl <| .nil)⟩
    · replace h := iF hc19 h;refine PWc.exit ?_;exact ⟨(), (), h, Sub.of rfl (.cons rfl rfl <| .nil) (.cons rfl rfl <| .cons rfl rfl <| .cons rfl rfl <| .cons rfl rfl <| .cons rfl rfl <| .nil)⟩
  · rintro _ _ h;refine PWc.seq ?_;refine PWc.region ?_;refine PWl.step (LR.build (ns := [_, _, _]) build35 rfl rfl rfl) rfl ?_;refine PWl.step (LR.storeB (ns := [_, _, _]) Try.sizeOf35 rfl rfl rfl rfl rfl rfl rfl) rfl ?_;refine PWl.step (LR.assign rfl) rfl ?_;refine PWl.nil ?_;refine PWc.ret ?_;replace h : _ = r0 := h;subst h;exact EndsO.mkX (ex := [(4, _)]) () (.inr rfl) (Sub.of (tl := [(4, _), (5, _)]) (to := [(100, _), (101, _), (1100, _), (1101, _), (4, _)]) rfl (.cons rfl rfl <| .cons rfl rfl <| .nil) (.cons rfl rfl <| .cons rfl rfl <| .cons rfl rfl <| .cons rfl rfl <| .cons rfl rfl <| .nil)) (.cons (.agg Try.isAgg35 Try.sizeOf35 rfl rfl rfl) <| .cons (.tmp rfl) <| .nil) rfl rfl

theorem roster_Roster_Join_o_ok (slot1 : Int) (try2 : Int) (epoch_3 : Int) (last_4 : Int) (c5 : A16) (nl6 : Bool) (m7 : List (Int × TMember)) (r0 : TMember × Int × Int × Int × Int × A16 × Bool × (List (Int × TMember))) (h : (roster_Roster_Join_o slot1 try2 epoch_3 last_4 c5 nl6 m7).wp (· = r0)) : PObj Try.prog 11 [.ref 100 0, .d (.v (.int .u8 slot1)), .d (.v (.int .u64 try2))] [(100, .cells 55 [.d (.v (.int .u64 epoch_3)), .d (.v (.int .u16 last_4)), .mp 101, .d (.v (.int .u64 c5.1)), .d (.v (.int .u64 c5.2.1)), .d (.v (.int .u64 c5.2.2.1)), .d (.v (.int .u64 c5.2.2.2.1)), .d (.v (.int .u64 c5.2.2.2.2.1)), .d (.v (.int .u64 c5.2.2.2.2.2.1)), .d (.v (.int .u64 c5.2.2.2.2.2.2.1)), .d (.v (.int .u64 c5.2.2.2.2.2.2.2.1)), .d (.v (.int .u64 c5.2.2.2.2.2.2.2.2.1)), .d (.v (.int .u64 c5.2.2.2.2.2.2.2.2.2.1)), .d (.v (.int .u64 c5.2.2.2.2.2.2.2.2.2.2.1)), .d (.v (.int .u64 c5.2.2.2.2.2.2.2.2.2.2.2.1)), .d (.v (.int .u64 c5.2.2.2.2.2.2.2.2.2.2.2.2.1)), .d (.v (.int .u64 c5.2.2.2.2.2.2.2.2.2.2.2.2.2.1)), .d (.v (.int .u64 c5.2.2.2.2.2.2.2.2.2.2.2.2.2.2.1)), .d (.v (.int .u64 c5.2.2.2.2.2.2.2.2.2.2.2.2.2.2.2))]), (101, .mapH nl6 [.u16] true (encM kI TMember.e m7))] [100, 101] (.tup [.agg (List.map .d (TMember.e r0.1)), .d (.v (.int .u16 r0.2.1)), .d (.v (.int .i64 r0.2.2.1))]) (fun _ : Unit => [(100, .cells 55 [.d (.v (.int .u64 r0.2.2.2.1)), .d (.v (.int .u16 r0.2.2.2.2.1)), .mp 101, .d (.v (.int .u64 r0.2.2.2.2.2.1.1)), .d (.v (.int .u64 r0.2.2.2.2.2.1.2.1)), .d (.v (.int .u64 r0.2.2.2.2.2.1.2.2.1)), .d (.v (.int .u64 r0.2.2.2.2.2.1.2.2.2.1)), .d (.v (.int .u64 r0.2.2.2.2.2.1.2.2.2.2.1)), .d (.v (.int .u64 r0.2.2.2.2.2.1.2.2.2.2.2.1)), .d (.v (.int .u64 r0.2.2.2.2.2.1.2.2.2.2.2.2.1)), .d (.v (.int .u64 r0.2.2.2.2.2.1.2.2.2.2.2.2.2.1)), .d (.v (.int .u64 r0.2.2.2.2.2.1.2.2.2.2.2.2.2.2.1)), .d (.v (.int .u64 r0.2.2.2.2.2.1.2.2.2.2.2.2.2.2.2.1)), .d (.v (.int .u64 r0.2.2.2.2.2.1.2.2.2.2.2.2.2.2.2.2.1)), .d (.v (.int .u64 r0.2.2.2.2.2.1.2.2.2.2.2.2.2.2.2.2.2.1)), .d (.v (.int .u64 r0.2.2.2.2.2.1.2.2.2.2.2.2.2.2.2.2.2.2.1)), .d (.v (.int .u64 r0.2.2.2.2.2.1.2.2.2.2.2.2.2.2.2.2.2.2.2.1)), .d (.v (.int .u64 r0.2.2.2.2.2.1.2.2.2.2.2.2.2.2.2.2.2.2.2.2.1)), .d (.v (.int .u64 r0.2.2.2.2.2.1.2.2.2.2.2.2.2.2.2.2.2.2.2.2.2))]), (101, .mapH r0.2.2.2.2.2.2.1 [.u16] true (encM kI TMember.e r0.2.2.2.2.2.2.2))]) := by
  refine PObj.intro (sl := [(0, _), (1, _), (2, _)]) Try.func11 rfl Try.ntmps11 rfl rfl rfl ?_;intro ctx hK pv;refine PWc.seq ?_;refine PWc.region ?_;refine PWl.step (LR.allocZ (cs := [_, _, _]) Try.zeroValue35 rfl rfl rfl rfl) rfl ?_;refine PWl.step (LR.assign rfl) rfl ?_;refine PWl.step (LR.assign rfl) rfl ?_;refine PWl.nil ?_;refine PWc.seq ?_;refine PWc.seq ?_;refine PWc.jn (iBind h) (fun (v8 : Bool) (_ : Unit) => ⟨105, [(0, .ref 100 0), (1, .d (.v (.int .u8 slot1))), (2, .d (.v (.int .u64 try2))), (6, .ref 6 0), (22, .d (.v (.bool v8)))], [(6, .cells 35 [.d (.v (.int .u16 0)), .d (.v (.int .u8 0)), .d (.v (.int .u64 0))]), (100, .cells 55 [.d (.v (.int .u64 epoch_3)), .d (.v (.int .u16 last_4)), .mp 101, .d (.v (.int .u64 c5.1)), .d (.v (.int .u64 c5.2.1)), .d (.v (.int .u64 c5.2.2.1)), .d (.v (.int .u64 c5.2.2.2.1)), .d (.v (.int .u64 c5.2.2.2.2.1)), .d (.v (.int .u64 c5.2.2.2.2.2.1)), .d (.v (.int .u64 c5.2.2.2.2.2.2.1)), .d (.v (.int .u64 c5.2.2.2.2.2.2.2.1)), .d (.v (.int .u64 c5.2.2.2.2.2.2.2.2.1)), .d (.v (.int .u64 c5.2.2.2.2.2.2.2.2.2.1)), .d (.v (.int .u64 c5.2.2.2.2.2.2.2.2.2.2.1)), .d (.v (.int .u64 c5.2.2.2.2.2.2.2.2.2.2.2.1)), .d (.v (.int .u64 c5.2.2.2.2.2.2.2.2.2.2.2.2.1)), .d (.v (.int .u64 c5.2.2.2.2.2.2.2.2.2.2.2.2.2.1)), .d (.v (.int .u64 c5.2.2.2.2.2.2.2.2.2.2.2.2.2.2.1)), .d (.v (.int .u64 c5.2.2.2.2.2.2.2.2.2.2.2.2.2.2.2))]), (101, .mapH nl6 [.u16] true (encM kI TMember.e m7)), (1100, .pin 100 (pv 100)), (1101, .pin 101 (pv 101))]⟩) (fun h => ?_) ?_
  · refine PWc.region ?_;refine PWl.step (LR.move rfl) rfl ?_;replace h := iDet h;obtain ⟨y9, hy10, h⟩ := h;refine PWl.step (LR.callObjS [(100, 100), (101, 101)] [] [100, 101] [] [(100, .cells 55 [.d (.v (.int .u64 epoch_3)), .d (.v (.int .u16 last_4)), .mp 101, .d (.v (.int .u64 c5.1)), .d (.v (.int .u64 c5.2.1)), .d (.v (.int .u64 c5.2.2.1)), .d (.v (.int .u64 c5.2.2.2.1)), .d (.v (.int .u64 c5.2.2.2.2.1)), .d (.v (.int .u64 c5.2.2.2.2.2.1)), .d (.v (.int .u64 c5.2.2.2.2.2.2.1)), .d (.v (.int .u64 c5.2.2.2.2.2.2.2.1)), .d (.v (.int .u64 c5.2.2.2.2.2.2.2.2.1)), .d (.v (.int .u64 c5.2.2.2.2.2.2.2.2.2.1)), .d (.v (.int .u64 c5.2.2.2.2.2.2.2.2.2.2.1)), .d (.v (.int .u64 c5.2.2.2.2.2.2.2.2.2.2.2.1)), .d (.v (.int .u64 c5.2.2.2.2.2.2.2.2.2.2.2.2.1)), .d (.v (.int .u64 c5.2.2.2.2.2.2.2.2.2.2.2.2.2.1)), .d (.v (.int .u64 c5.2.2.2.2.2.2.2.2.2.2.2.2.2.2.1)), .d (.v (.int .u64 c5.2.2.2.2.2.2.2.2.2.2.2.2.2.2.2))]), (101, .mapH nl6 [.u16] true (encM kI TMember.e m7))] (roster_Roster_none_o_ok epoch_3 last_4 c5 nl6 m7 y9 hy10) hK rfl Try.call26 rfl (by first | rfl | (simp; done) | (simp [PV.nilD, PV.ren, rn]; omega)) (.cons (by first | rfl | (congr 1; first | (simp; done) | (simp; omega) | omega)) <| .cons (by first | rfl | (congr 1; first | (simp; done) | (simp; omega) | omega)) <| .nil) (.nil) (.cons rfl <| .cons rfl <| .nil) (.cons (by first | rfl | (congr 1; first | (simp; done) | (simp; omega) | omega)) <| .cons (by first | rfl | (congr 1; first | (simp; done) | (simp; omega) | omega)) <| .nil) rfl rfl rfl rfl rfl rfl) rfl ?_;refine PWl.step (LR.move rfl) rfl ?_;refine PWl.split (d := 15) rfl (fun hg11 => ?_) (fun hg11 => ?_)
    · replace h := iT hg11 h;refine PWl.guardF rfl rfl rfl (by decide) ?_;refine PWl.guardF rfl rfl rfl (by decide) ?_;refine PWl.step (LR.pickT rfl rfl) rfl ?_;refine PWl.step (LR.move rfl) rfl ?_;refine PWl.guardF rfl rfl rfl (by decide) ?_;refine PWl.guardF rfl rfl rfl (by decide) ?_;refine PWl.step (LR.pickT rfl rfl) rfl ?_;refine PWl.nil ?_;exact ⟨true, (), h, Sub.of rfl (.cons rfl rfl <| .cons rfl rfl <| .cons rfl rfl <| .cons rfl rfl <| .cons rfl rfl <| .nil) (.cons rfl rfl <| .cons rfl rfl <| .cons rfl rfl <| .cons rfl rfl <| .cons rfl rfl <| .nil)⟩
    · replace h := iF hg11 h;refine PWl.guardT (LR.move rfl) rfl rfl rfl ?_;refine PWl.guardT (LR.geq rfl rfl) rfl rfl rfl ?_;refine PWl.step (LR.pickF rfl rfl) rfl ?_;refine PWl.step (LR.move rfl) rfl ?_;refine PWl.split (d := 19) rfl (fun hg12 => ?_) (fun hg12 => ?_)
      · replace h := iT hg12 h;refine PWl.guardF rfl rfl rfl (by decide) ?_;refine PWl.guardF rfl rfl rfl (by decide) ?_;refine PWl.step (LR.pickT rfl rfl) rfl ?_;refine PWl.nil ?_;exact ⟨true, (), h, Sub.of rfl (.cons rfl rfl <| .cons rfl rfl <| .cons rfl rfl <| .cons rfl rfl <| .cons rfl rfl <| .nil) (.cons rfl rfl <| .cons rfl rfl <| .cons rfl rfl <| .cons rfl rfl <| .cons rfl rfl <| .nil)⟩
      · replace h := iF hg12 h;refine PWl.guardT (LR.move rfl) rfl rfl rfl ?_;refine PWl.guardT (LR.eql rfl rfl) rfl rfl rfl ?_;refine PWl.step (LR.pickF rfl rfl) rfl ?_;refine PWl.nil ?_;exact ⟨(decide (try2 = 0)), (), h, Sub.of rfl (.cons rfl rfl <| .cons rfl rfl <| .cons rfl rfl <| .cons rfl rfl <| .cons rfl rfl <| .nil) (.cons rfl rfl <| .cons rfl rfl <| .cons rfl rfl <| .cons rfl rfl <| .cons rfl rfl <| .nil)⟩
  · rintro v8 _ h;refine PWc.cond rfl (fun hc13 => ?_) (fun hc13 => ?_)
    · replace h := iT hc13 h;refine PWc.seq ?_;refine PWc.region ?_;refine PWl.step (LR.build (ns := [_, _, _]) build35 rfl rfl rfl) rfl ?_;refine PWl.step (LR.storeB (ns := [_, _, _]) Try.sizeOf35 rfl rfl rfl rfl rfl rfl rfl) rfl ?_;refine PWl.step (LR.assign rfl) rfl ?_;refine PWl.step (LR.assign rfl) rfl ?_;refine PWl.nil ?_;refine PWc.ret ?_;replace h : _ = r0 := h;subst h;exact EndsO.mkX (ex := [(6, _)]) () (.inr rfl) (Sub.of (tl := [(6, _), (7, _), (8, _)]) (to := [(100, _), (101, _), (1100, _), (1101, _), (6, _)]) rfl (.cons rfl rfl <| .cons rfl rfl <| .cons rfl rfl <| .nil) (.cons rfl rfl <| .cons rfl rfl <| .cons rfl rfl <| .cons rfl rfl <| .cons rfl rfl <| .nil)) (.cons (.agg Try.isAgg35 Try.sizeOf35 rfl rfl rfl) <| .cons (.tmp rfl) <| .cons (.tmp rfl) <| .nil) rfl rfl
    · replace h := iF hc13 h;refine PWc.skip ?_;refine PWc.seq ?_;refine PWc.region ?_;refine PWl.step (LR.move rfl) rfl ?_;refine PWl.step (LR.move rfl) rfl ?_;replace h := iDet h;obtain ⟨y14, hy15, h⟩ := h;refine PWl.step (LR.callObjS [(100, 100), (101, 101)] [] [100, 101] [] [(100, .cells 55 [.d (.v (.int .u64 epoch_3)), .d (.v (.int .u16 last_4)), .mp 101, .d (.v (.int .u64 c5.1)), .d (.v (.int .u64 c5.2.1)), .d (.v (.int .u64 c5.2.2.1)), .d (.v (.int .u64 c5.2.2.2.1)), .d (.v (.int .u64 c5.2.2.2.2.1)), .d (.v (.int .u64 c5.2.2.2.2.2.1)), .d (.v (.int .u64 c5.2.2.2.2.2.2.1)), .d (.v (.int .u64 c5.2.2.2.2.2.2.2.1)), .d (.v (.int .u64 c5.2.2.2.2.2.2.2.2.1)), .d (.v (.int .u64 c5.2.2.2.2.2.2.2.2.2.1)), .d (.v (.int .u64 c5.2.2.2.2.2.2.2.2.2.2.1)), .d (.v (.int .u64 c5.2.2.2.2.2.2.2.2.2.2.2.1)), .d (.v (.int .u64 c5.2.2.2.2.2.2.2.2.2.2.2.2.1)), .d (.v (.int .u64 c5.2.2.2.2.2.2.2.2.2.2.2.2.2.1)), .d (.v (.int .u64 c5.2.2.2.2.2.2.2.2.2.2.2.2.2.2.1)), .d (.v (.int .u64 c5.2.2.2.2.2.2.2.2.2.2.2.2.2.2.2))]), (101, .mapH nl6 [.u16] true (encM kI TMember.e m7))] (roster_Roster_Of_o_ok slot1 epoch_3 last_4 c5 nl6 m7 y14 hy15) hK rfl Try.call19 rfl (by first | rfl | (simp; done) | (simp [PV.nilD, PV.ren, rn]; omega)) (.cons (by first | rfl | (congr 1; first | (simp; done) | (simp; omega) | omega)) <| .cons (by first | rfl | (congr 1; first | (simp; done) | (simp; omega) | omega)) <| .nil) (.nil) (.cons rfl <| .cons rfl <| .nil) (.cons (by first | rfl | (congr 1; first | (simp; done) | (simp; omega) | omega)) <| .cons (by first | rfl | (congr 1; first | (simp; done) | (simp; omega) | omega)) <| .nil) rfl rfl rfl rfl rfl rfl) rfl ?_;refine PWl.step (LR.move rfl) rfl ?_;refine PWl.step (LR.extract rfl rfl) rfl ?_;refine PWl.step (LR.extract rfl rfl) rfl ?_;refine PWl.step (LR.allocZ (cs := [_, _, _]) Try.zeroValue35 rfl rfl rfl rfl) rfl ?_;refine PWl.step (LR.storeB (ns := [_, _, _]) Try.sizeOf35 rfl rfl rfl rfl rfl rfl rfl) rfl ?_;refine PWl.step (LR.assign rfl) rfl ?_;refine PWl.nil ?_;refine PWc.seq ?_;refine PWc.seq ?_;refine PWc.re (tl := [(0, _), (1, _), (2, _), (6, _), (9, _), (10, _)]) (to := [(6, _), (9, _), (100, _), (101, _), (1100, _), (1101, _)]) rfl (.cons rfl rfl <| .cons rfl rfl <| .cons rfl rfl <| .cons rfl rfl <| .cons rfl rfl <| .cons rfl rfl <| .nil) (.cons rfl rfl <| .cons rfl rfl <| .cons rfl rfl <| .cons rfl rfl <| .cons rfl rfl <| .cons rfl rfl <| .nil) ?_;refine PWc.region ?_;refine PWl.step (LR.move rfl) rfl ?_;refine PWl.step (LR.move rfl) rfl ?_;refine PWl.step (LR.nilCheckRef rfl) rfl ?_;refine PWl.step (LR.fieldRef Try.underlying55 rfl Try.sizeOf48 (by decide) rfl rfl) rfl ?_;replace h := iNeed h;obtain ⟨hy16, h⟩ := h;refine PWl.step (LR.idxArr Try.underlying48 rfl Try.sizeOf28 rfl rfl hy16) rfl ?_;refine PWl.step (LR.loadArr .u64 c5 Try.isAgg28 rfl rfl hy16 rfl) rfl ?_;refine PWl.step (LR.assign rfl) rfl ?_;refine PWl.nil ?_;refine PWc.block ?_;refine PWc.seq ?_;refine PWc.jn (iBind h) (fun (v17 : Bool) (_ : Unit) => ⟨105, [(0, .ref 100 0), (1, .d (.v (.int .u8 slot1))), (2, .d (.v (.int .u64 try2))), (6, .ref 6 0), (9, .ref 9 0), (11, .d (.v (.int .u64 (AR.get c5 (Int.toNat slot1))))), (36, .d (.v (.bool v17)))], [(6, .cells 35 [.d (.v (.int .u16 0)), .d (.v (.int .u8 0)), .d (.v (.int .u64 0))]), (9, .cells 35 [.d (.v (.int .u16 y14.1.dev)), .d (.v (.int .u8 y14.1.slot)), .d (.v (.int .u64 y14.1.try_))]), (100, .cells 55 [.d (.v (.int .u64 epoch_3)), .d (.v (.int .u16 last_4)), .mp 101, .d (.v (.int .u64 c5.1)), .d (.v (.int .u64 c5.2.1)), .d (.v (.int .u64 c5.2.2.1)), .d (.v (.int .u64 c5.2.2.2.1)), .d (.v (.int .u64 c5.2.2.2.2.1)), .d (.v (.int .u64 c5.2.2.2.2.2.1)), .d (.v (.int .u64 c5.2.2.2.2.2.2.1)), .d (.v (.int .u64 c5.2.2.2.2.2.2.2.1)), .d (.v (.int .u64 c5.2.2.2.2.2.2.2.2.1)), .d (.v (.int .u64 c5.2.2.2.2.2.2.2.2.2.1)), .d (.v (.int .u64 c5.2.2.2.2.2.2.2.2.2.2.1)), .d (.v (.int .u64 c5.2.2.2.2.2.2.2.2.2.2.2.1)), .d (.v (.int .u64 c5.2.2.2.2.2.2.2.2.2.2.2.2.1)), .d (.v (.int .u64 c5.2.2.2.2.2.2.2.2.2.2.2.2.2.1)), .d (.v (.int .u64 c5.2.2.2.2.2.2.2.2.2.2.2.2.2.2.1)), .d (.v (.int .u64 c5.2.2.2.2.2.2.2.2.2.2.2.2.2.2.2))]), (101, .mapH nl6 [.u16] true (encM kI TMember.e m7)), (1100, .pin 100 (pv 100)), (1101, .pin 101 (pv 101))]⟩) (fun h => ?_) ?_
      · refine PWc.region ?_;refine PWl.step (LR.move rfl) rfl ?_;refine PWl.step (LR.move rfl) rfl ?_;refine PWl.step (LR.lss rfl rfl) rfl ?_;refine PWl.step (LR.move rfl) rfl ?_;refine PWl.split (d := 40) rfl (fun hg18 => ?_) (fun hg18 => ?_)
        · replace h := iT hg18 h;refine PWl.guardF rfl rfl rfl (by decide) ?_;refine PWl.guardF rfl rfl rfl (by decide) ?_;refine PWl.guardF rfl rfl rfl (by decide) ?_;refine PWl.re (tl := [(0, _), (1, _), (2, _), (6, _), (9, _), (10, _), (11, _), (40, _), (43, _)]) (to := [(6, _), (9, _), (100, _), (101, _), (1100, _), (1101, _)]) rfl (.cons rfl rfl <| .cons rfl rfl <| .cons rfl rfl <| .cons rfl rfl <| .cons rfl rfl <| .cons rfl rfl <| .cons rfl rfl <| .cons rfl rfl <| .cons rfl rfl <| .nil) (.cons rfl rfl <| .cons rfl rfl <| .cons rfl rfl <| .cons rfl rfl <| .cons rfl rfl <| .cons rfl rfl <| .nil) ?_;refine PWl.guardF rfl rfl rfl (by decide) ?_;refine PWl.guardU rfl rfl rfl ?_;refine PWl.guardU rfl rfl rfl ?_;refine PWl.guardF rfl rfl rfl (by decide) ?_;refine PWl.step (LR.pickT rfl rfl) rfl ?_;refine PWl.step (LR.assign rfl) rfl ?_;refine PWl.nil ?_;exact ⟨true, (), h, Sub.of rfl (.cons rfl rfl <| .cons rfl rfl <| .cons rfl rfl <| .cons rfl rfl <| .cons rfl rfl <| .cons rfl rfl <| .cons rfl rfl <| .nil) (.cons rfl rfl <| .cons rfl rfl <| .cons rfl rfl <| .cons rfl rfl <| .cons rfl rfl <| .cons rfl rfl <| .nil)⟩
        · replace h := iF hg18 h;refine PWl.guardT (LR.move rfl) rfl rfl rfl ?_;refine PWl.guardT (LR.move rfl) rfl rfl rfl ?_;refine PWl.guardT (LR.eql rfl rfl) rfl rfl rfl ?_;refine PWl.re (tl := [(0, _), (1, _), (2, _), (6, _), (9, _), (10, _), (11, _), (40, _), (43, _)]) (to := [(6, _), (9, _), (100, _), (101, _), (1100, _), (1101, _)]) rfl (.cons rfl rfl <| .cons rfl rfl <| .cons rfl rfl <| .cons rfl rfl <| .cons rfl rfl <| .cons rfl rfl <| .cons rfl rfl <| .cons rfl rfl <| .cons rfl rfl <| .nil) (.cons rfl rfl <| .cons rfl rfl <| .cons rfl rfl <| .cons rfl rfl <| .cons rfl rfl <| .cons rfl rfl <| .nil) ?_;refine PWl.guardT (LR.move rfl) rfl rfl rfl ?_;refine PWl.split (d := 44) rfl (fun hg19 => ?_) (fun hg19 => ?_)
          · replace h := iT hg19 h;refine PWl.guardT (LR.move rfl) rfl rfl rfl ?_;refine PWl.guardT (LR.not rfl) rfl rfl rfl ?_;refine PWl.guardT (LR.pickT rfl rfl) rfl rfl rfl ?_;refine PWl.step (LR.pickF rfl rfl) rfl ?_;refine PWl.step (LR.assign rfl) rfl ?_;refine PWl.nil ?_;exact ⟨(!y14.2), (), h, Sub.of rfl (.cons rfl rfl <| .cons rfl rfl <| .cons rfl rfl <| .cons rfl rfl <| .cons rfl rfl <| .cons rfl rfl <| .cons rfl rfl <| .nil) (.cons rfl rfl <| .cons rfl rfl <| .cons rfl rfl <| .cons rfl rfl <| .cons rfl rfl <| .cons rfl rfl <| .nil)⟩
          · replace h := iF hg19 h;refine PWl.guardF rfl rfl rfl (by decide) ?_;refine PWl.guardF rfl rfl rfl (by decide) ?_;refine PWl.guardT (LR.pickF rfl rfl) rfl rfl rfl ?_;refine PWl.step (LR.pickF rfl rfl) rfl ?_;refine PWl.step (LR.assign rfl) rfl ?_;refine PWl.nil ?_;exact ⟨false, (), h, Sub.of rfl (.cons rfl rfl <| .cons rfl rfl <| .cons rfl rfl <| .cons rfl rfl <| .cons rfl rfl <| .cons rfl rfl <| .cons rfl rfl <| .nil) (.cons rfl rfl <| .cons rfl rfl <| .cons rfl rfl <| .cons rfl rfl <| .cons rfl rfl <| .cons rfl rfl <| .nil)⟩
      · rintro v17 _ h;refine PWc.cond rfl (fun hc20 => ?_) (fun hc20 => ?_)
        · replace h := iT hc20 h;refine PWc.seq ?_;refine PWc.region ?_;refine PWl.step (LR.build (ns := [_, _, _]) build35 rfl rfl rfl) rfl ?_;refine PWl.step (LR.storeB (ns := [_, _, _]) Try.sizeOf35 rfl rfl rfl rfl rfl rfl rfl) rfl ?_;refine PWl.step (LR.assign rfl) rfl ?_;refine PWl.step (LR.assign rfl) rfl ?_;refine PWl.nil ?_;refine PWc.ret ?_;replace h : _ = r0 := h;subst h;exact EndsO.mkX (ex := [(6, _)]) () (.inr rfl) (Sub.of (tl := [(6, _), (7, _), (8, _)]) (to := [(100, _), (101, _), (1100, _), (1101, _), (6, _)]) rfl (.cons rfl rfl <| .cons rfl rfl <| .cons rfl rfl <| .nil) (.cons rfl rfl <| .cons rfl rfl <| .cons rfl rfl <| .cons rfl rfl <| .cons rfl rfl <| .nil)) (.cons (.agg Try.isAgg35 Try.sizeOf35 rfl rfl rfl) <| .cons (.tmp rfl) <| .cons (.tmp rfl) <| .nil) rfl rfl
        · replace h := iF hc20 h;refine PWc.seq ?_;refine PWc.region ?_;refine PWl.step (LR.move rfl) rfl ?_;refine PWl.step (LR.move rfl) rfl ?_;refine PWl.step (LR.eql rfl rfl) rfl ?_;refine PWl.step (LR.assign rfl) rfl ?_;refine PWl.nil ?_;refine PWc.cond rfl (fun hc21 => ?_) (fun hc21 => ?_)
          · replace h := iT hc21 h;refine PWc.seq ?_;refine PWc.region ?_;refine PWl.step (LR.loadRefAgg (ps := [_, _, _]) Try.isAgg35 Try.sizeOf35 rfl rfl rfl rfl) rfl ?_;refine PWl.step (LR.storeB (ns := [_, _, _]) Try.sizeOf35 rfl rfl rfl rfl rfl rfl rfl) rfl ?_;refine PWl.step (LR.assign rfl) rfl ?_;refine PWl.step (LR.assign rfl) rfl ?_;refine PWl.nil ?_;refine PWc.ret ?_;replace h : _ = r0 := h;subst h;exact EndsO.mkX (ex := [(6, _)]) () (.inr rfl) (Sub.of (tl := [(6, _), (7, _), (8, _)]) (to := [(100, _), (101, _), (1100, _), (1101, _), (6, _)]) rfl (.cons rfl rfl <| .cons rfl rfl <| .cons rfl rfl <| .nil) (.cons rfl rfl <| .cons rfl rfl <| .cons rfl rfl <| .cons rfl rfl <| .cons rfl rfl <| .nil)) (.cons (.agg Try.isAgg35 Try.sizeOf35 rfl rfl rfl) <| .cons (.tmp rfl) <| .cons (.tmp rfl) <| .nil) rfl rfl
          · replace h := iF hc21 h;refine PWc.seq ?_;refine PWc.region ?_;refine PWl.step (LR.move rfl) rfl ?_;refine PWl.step (LR.nilCheckRef rfl) rfl ?_;refine PWl.step (LR.fieldRef Try.underlying55 rfl Try.sizeOf27 (by decide) rfl rfl) rfl ?_;refine PWl.step (LR.loadRef Try.isAgg27 rfl rfl rfl) rfl ?_;refine PWl.step (LR.eql rfl rfl) rfl ?_;refine PWl.step (LR.assign rfl) rfl ?_;refine PWl.nil ?_;refine PWc.cond rfl (fun hc22 => ?_) (fun hc22 => ?_)
            · replace h := iT hc22 h;refine PWc.seq ?_;refine PWc.region ?_;refine PWl.step (LR.build (ns := [_, _, _]) build35 rfl rfl rfl) rfl ?_;refine PWl.step (LR.storeB (ns := [_, _, _]) Try.sizeOf35 rfl rfl rfl rfl rfl rfl rfl) rfl ?_;refine PWl.step (LR.assign rfl) rfl ?_;refine PWl.step (LR.assign rfl) rfl ?_;refine PWl.nil ?_;refine PWc.ret ?_;replace h : _ = r0 := h;subst h;exact EndsO.mkX (ex := [(6, _)]) () (.inr rfl) (Sub.of (tl := [(6, _), (7, _), (8, _)]) (to := [(100, _), (101, _), (1100, _), (1101, _), (6, _)]) rfl (.cons rfl rfl <| .cons rfl rfl <| .cons rfl rfl <| .nil) (.cons rfl rfl <| .cons rfl rfl <| .cons rfl rfl <| .cons rfl rfl <| .cons rfl rfl <| .nil)) (.cons (.agg Try.isAgg35 Try.sizeOf35 rfl rfl rfl) <| .cons (.tmp rfl) <| .cons (.tmp rfl) <| .nil) rfl rfl
            · replace h := iF hc22 h;refine PWc.skip ?_;refine PWc.seq ?_;refine PWc.re (tl := [(0, _), (1, _), (2, _), (6, _), (9, _)]) (to := [(6, _), (9, _), (100, _), (101, _), (1100, _), (1101, _)]) rfl (.cons rfl rfl <| .cons rfl rfl <| .cons rfl rfl <| .cons rfl rfl <| .cons rfl rfl <| .nil) (.cons rfl rfl <| .cons rfl rfl <| .cons rfl rfl <| .cons rfl rfl <| .cons rfl rfl <| .cons rfl rfl <| .nil) ?_;refine PWc.regionE [⟨[62], [], [], [], [], [100], [], []⟩, ⟨[63], [], [], [], [], [100], [], []⟩, ⟨[64], [], [], [], [], [100], [], []⟩, ⟨[65], [], [100], [], [], [101], [], []⟩, ⟨[66], [], [], [], [], [9], [], []⟩, ⟨[67], [], [9], [], [], [], [], []⟩, ⟨[], [101], [101], [], [], [], [], []⟩] (by kernel_rfl) (by kernel_rfl) rfl ?_;refine PQe.stepP (fun _ he ho => LR.move (he rfl rfl)) (.inl rfl) rfl ?_;refine PQe.stepP (fun _ he ho => LR.nilCheckRef (he rfl rfl)) (.inl rfl) rfl ?_;refine PQe.stepP (fun _ he ho => LR.fieldRef Try.underlying55 rfl Try.sizeOf53 (by decide) rfl (he rfl rfl)) (.inl rfl) rfl ?_;refine PQe.stepP (fun _ he ho => LR.loadRef Try.isAgg53 (he rfl rfl) (ho rfl rfl) rfl) (.inl rfl) rfl ?_;refine PQe.stepP (fun _ he ho => LR.fieldRef Try.underlying35 rfl Try.sizeOf27 (by decide) rfl (he rfl rfl)) (.inl rfl) rfl ?_;refine PQe.stepP (fun _ he ho => LR.loadRef Try.isAgg27 (he rfl rfl) (ho rfl rfl) rfl) (.inl rfl) rfl ?_;refine PQe.stepSD (fun _ he ho => LR.delH (eV := TMember.e) (q := y14.1.dev) (m := m7) kI_inj Try.underlying53 key53 (he rfl rfl) (ho rfl rfl) (he rfl rfl) rfl rfl rfl) (.inl rfl) rfl ?_;refine PQe.nil ?_;refine PWc.seq ?_;refine PWc.region ?_;refine PWl.step (LR.move rfl) rfl ?_;refine PWl.step (LR.nilCheckRef rfl) rfl ?_;refine PWl.step (LR.fieldRef Try.underlying55 rfl Try.sizeOf28 (by decide) rfl rfl) rfl ?_;refine PWl.step (LR.loadRef Try.isAgg28 rfl rfl rfl) rfl ?_;refine PWl.step (LR.addW rfl rfl) rfl ?_;refine PWl.step (LR.nilCheckRef rfl) rfl ?_;refine PWl.step (LR.fieldRef Try.underlying55 rfl Try.sizeOf28 (by decide) rfl rfl) rfl ?_;refine PWl.step (LR.storeB (ns := [_, _, _, _, _, _, _, _, _, _, _, _, _, _, _, _, _, _, _]) Try.sizeOf28 rfl rfl rfl rfl rfl rfl rfl) rfl ?_;refine PWl.nil ?_;refine PWc.seq ?_;refine PWc.region ?_;refine PWl.step (LR.move rfl) rfl ?_;refine PWl.step (LR.nilCheckRef rfl) rfl ?_;refine PWl.step (LR.fieldRef Try.underlying55 rfl Try.sizeOf27 (by decide) rfl rfl) rfl ?_;refine PWl.re (tl := [(0, _), (1, _), (2, _), (6, _), (9, _), (75, _), (77, _)]) (to := [(6, _), (9, _), (100, _), (101, _), (1100, _), (1101, _)]) rfl (.cons rfl rfl <| .cons rfl rfl <| .cons rfl rfl <| .cons rfl rfl <| .cons rfl rfl <| .cons rfl rfl <| .cons rfl rfl <| .nil) (.cons rfl rfl <| .cons rfl rfl <| .cons rfl rfl <| .cons rfl rfl <| .cons rfl rfl <| .cons rfl rfl <| .nil) ?_;refine PWl.step (LR.loadRef Try.isAgg27 rfl rfl rfl) rfl ?_;refine PWl.step (LR.addW rfl rfl) rfl ?_;refine PWl.step (LR.nilCheckRef rfl) rfl ?_;refine PWl.step (LR.fieldRef Try.underlying55 rfl Try.sizeOf27 (by decide) rfl rfl) rfl ?_;refine PWl.step (LR.storeB (ns := [_, _, _, _, _, _, _, _, _, _, _, _, _, _, _, _, _, _, _]) Try.sizeOf27 rfl rfl rfl rfl rfl rfl rfl) rfl ?_;refine PWl.nil ?_;refine PWc.seq ?_;refine PWc.region ?_;refine PWl.step (LR.move rfl) rfl ?_;refine PWl.step (LR.move rfl) rfl ?_;refine PWl.step (LR.move rfl) rfl ?_;refine PWl.step (LR.nilCheckRef rfl) rfl ?_;refine PWl.step (LR.fieldRef Try.underlying55 rfl Try.sizeOf48 (by decide) rfl rfl) rfl ?_;replace h := iNeed h;obtain ⟨hy23, h⟩ := h;refine PWl.step (LR.idxArr Try.underlying48 rfl Try.sizeOf28 rfl rfl hy23) rfl ?_;refine PWl.step (LR.storeArr (ns := [_, _, _, _, _, _, _, _, _, _, _, _, _, _, _, _, _, _, _]) .u64 c5 Try.sizeOf28 rfl rfl rfl hy23 rfl rfl) rfl ?_;refine PWl.nil ?_;refine PWc.seq ?_;refine PWc.region ?_;refine PWl.step (LR.move rfl) rfl ?_;refine PWl.step (LR.nilCheckRef rfl) rfl ?_;refine PWl.step (LR.fieldRef Try.underlying55 rfl Try.sizeOf27 (by decide) rfl rfl) rfl ?_;refine PWl.step (LR.loadRef Try.isAgg27 rfl rfl rfl) rfl ?_;refine PWl.re (tl := [(0, _), (1, _), (2, _), (6, _), (9, _), (91, _)]) (to := [(6, _), (9, _), (100, _), (101, _), (1100, _), (1101, _)]) rfl (.cons rfl rfl <| .cons rfl rfl <| .cons rfl rfl <| .cons rfl rfl <| .cons rfl rfl <| .cons rfl rfl <| .nil) (.cons rfl rfl <| .cons rfl rfl <| .cons rfl rfl <| .cons rfl rfl <| .cons rfl rfl <| .cons rfl rfl <| .nil) ?_;refine PWl.step (LR.move rfl) rfl ?_;refine PWl.step (LR.move rfl) rfl ?_;refine PWl.step (LR.build (ns := [_, _, _]) build35 rfl rfl rfl) rfl ?_;refine PWl.step (LR.allocZ (cs := [_, _, _]) Try.zeroValue35 rfl rfl rfl rfl) rfl ?_;refine PWl.step (LR.storeB (ns := [_, _, _]) Try.sizeOf35 rfl rfl rfl rfl rfl rfl rfl) rfl ?_;refine PWl.nil ?_;refine PWc.seq ?_;refine PWc.re (tl := [(0, _), (6, _), (9, _), (12, _)]) (to := [(6, _), (9, _), (12, _), (100, _), (101, _), (1100, _), (1101, _)]) rfl (.cons rfl rfl <| .cons rfl rfl <| .cons rfl rfl <| .cons rfl rfl <| .nil) (.cons rfl rfl <| .cons rfl rfl <| .cons rfl rfl <| .cons rfl rfl <| .cons rfl rfl <| .cons rfl rfl <| .cons rfl rfl <| .nil) ?_;refine PWc.regionE [⟨[95], [], [], [], [], [100], [], []⟩, ⟨[96], [], [], [], [], [100], [], []⟩, ⟨[97], [], [], [], [], [100], [], []⟩, ⟨[98], [], [100], [], [], [101], [], []⟩, ⟨[99], [], [], [], [], [12], [], []⟩, ⟨[100], [], [12], [], [], [], [], []⟩, ⟨[101], [], [12], [], [], [], [], []⟩, ⟨[], [101], [101], [], [], [], [], []⟩] (by kernel_rfl) (by kernel_rfl) rfl ?_;refine PQe.stepP (fun _ he ho => LR.move (he rfl rfl)) (.inl rfl) rfl ?_;refine PQe.stepP (fun _ he ho => LR.nilCheckRef (he rfl rfl)) (.inl rfl) rfl ?_;refine PQe.stepP (fun _ he ho => LR.fieldRef Try.underlying55 rfl Try.sizeOf53 (by decide) rfl (he rfl rfl)) (.inl rfl) rfl ?_;refine PQe.stepP (fun _ he ho => LR.loadRef Try.isAgg53 (he rfl rfl) (ho rfl rfl) rfl) (.inl rfl) rfl ?_;refine PQe.stepP (fun _ he ho => LR.fieldRef Try.underlying35 rfl Try.sizeOf27 (by decide) rfl (he rfl rfl)) (.inl rfl) rfl ?_;refine PQe.stepP (fun _ he ho => LR.loadRef Try.isAgg27 (he rfl rfl) (ho rfl rfl) rfl) (.inl rfl) rfl ?_;refine PQe.stepP (fun _ he ho => LR.loadRefAgg (ps := [_, _, _]) Try.isAgg35 Try.sizeOf35 (he rfl rfl) (ho rfl rfl) rfl rfl) (.inl rfl) rfl ?_;replace h := iNeed h;obtain ⟨hy24, h⟩ := h;refine PQe.stepS (fun _ he ho => LR.setH (eV := TMember.e) (q := (IntKind.u16.wrap (last_4 + 1))) (v := (⟨(IntKind.u16.wrap (last_4 + 1)), slot1, try2⟩ : TMember)) (m := (AL.del m7 y14.1.dev)) kI_inj Try.underlying53 key53 (he rfl rfl) (ho rfl rfl) (he rfl rfl) rfl rfl (he rfl rfl) rfl (fun h => by cases h) hy24) (.inl rfl) rfl ?_;refine PQe.nil ?_;refine PWc.seq ?_;refine PWc.re (tl := [(6, _), (9, _), (12, _)]) (to := [(6, _), (9, _), (12, _), (100, _), (101, _), (1100, _), (1101, _)]) rfl (.cons rfl rfl <| .cons rfl rfl <| .cons rfl rfl <| .nil) (.cons rfl rfl <| .cons rfl rfl <| .cons rfl rfl <| .cons rfl rfl <| .cons rfl rfl <| .cons rfl rfl <| .cons rfl rfl <| .nil) ?_;refine PWc.regionE [⟨[102], [], [12], [], [], [], [], []⟩, ⟨[103], [], [], [], [], [9], [], []⟩, ⟨[104], [], [9], [], [], [], [], []⟩, ⟨[], [6], [6], [], [], [], [], []⟩, ⟨[7], [], [], [], [], [], [], []⟩, ⟨[8], [], [], [], [], [], [], []⟩] (by kernel_rfl) (by kernel_rfl) rfl ?_;refine PQe.stepP (fun _ he ho => LR.loadRefAgg (ps := [_, _, _]) Try.isAgg35 Try.sizeOf35 (he rfl rfl) (ho rfl rfl) rfl rfl) (.inl rfl) rfl ?_;refine PQe.stepP (fun _ he ho => LR.fieldRef Try.underlying35 rfl Try.sizeOf27 (by decide) rfl (he rfl rfl)) (.inl rfl) rfl ?_;refine PQe.stepP (fun _ he ho => LR.loadRef Try.isAgg27 (he rfl rfl) (ho rfl rfl) rfl) (.inl rfl) rfl ?_;refine PQe.stepS (fun _ he ho => LR.storeB (ns := [_, _, _]) Try.sizeOf35 (he rfl rfl) (he rfl rfl) rfl rfl (ho rfl rfl) rfl rfl) (.inl rfl) rfl ?_;refine PQe.stepP (fun _ he ho => LR.assign (he rfl rfl)) (.inl rfl) rfl ?_;refine PQe.stepP (fun _ he ho => LR.assign (he rfl rfl)) (.inl rfl) rfl ?_;refine PQe.nil ?_;refine PWc.ret ?_;replace h : _ = r0 := h;subst h;exact EndsO.mkX (ex := [(6, _)]) () (.inr rfl) (Sub.of (tl := [(6, _), (7, _), (8, _)]) (to := [(100, _), (101, _), (1100, _), (1101, _), (6, _)]) rfl (.cons rfl rfl <| .cons rfl rfl <| .cons rfl rfl <| .nil) (.cons rfl rfl <| .cons rfl rfl <| .cons rfl rfl <| .cons rfl rfl <| .cons rfl rfl <| .nil)) (.cons (.agg Try.isAgg35 Try.sizeOf35 rfl rfl rfl) <| .cons (.tmp rfl) <| .cons (.tmp rfl) <| .nil) rfl rfl

theorem roster_Roster_Epoch_o_ok (epoch_1 : Int) (last_2 : Int) (c3 : A16) (nl4 : Bool) (m5 : List (Int × TMember)) (r0 : Int) (h : (roster_Roster_Epoch_o epoch_1 last_2 c3 nl4 m5).wp (· = r0)) : PObj Try.prog 9 [.ref 100 0] [(100, .cells 55 [.d (.v (.int .u64 epoch_1)), .d (.v (.int .u16 last_2)), .mp 101, .d (.v (.int .u64 c3.1)), .d (.v (.int .u64 c3.2.1)), .d (.v (.int .u64 c3.2.2.1)), .d (.v (.int .u64 c3.2.2.2.1)), .d (.v (.int .u64 c3.2.2.2.2.1)), .d (.v (.int .u64 c3.2.2.2.2.2.1)), .d (.v (.int .u64 c3.2.2.2.2.2.2.1)), .d (.v (.int .u64 c3.2.2.2.2.2.2.2.1)), .d (.v (.int .u64 c3.2.2.2.2.2.2.2.2.1)), .d (.v (.int .u64 c3.2.2.2.2.2.2.2.2.2.1)), .d (.v (.int .u64 c3.2.2.2.2.2.2.2.2.2.2.1)), .d (.v (.int .u64 c3.2.2.2.2.2.2.2.2.2.2.2.1)), .d (.v (.int .u64 c3.2.2.2.2.2.2.2.2.2.2.2.2.1)), .d (.v (.int .u64 c3.2.2.2.2.2.2.2.2.2.2.2.2.2.1)), .d (.v (.int .u64 c3.2.2.2.2.2.2.2.2.2.2.2.2.2.2.1)), .d (.v (.int .u64 c3.2.2.2.2.2.2.2.2.2.2.2.2.2.2.2))]), (101, .mapH nl4 [.u16] true (encM kI TMember.e m5))] [100, 101] (.d (.v (.int .u64 r0))) (fun _ : Unit => [(100, .cells 55 [.d (.v (.int .u64 epoch_1)), .d (.v (.int .u16 last_2)), .mp 101, .d (.v (.int .u64 c3.1)), .d (.v (.int .u64 c3.2.1)), .d (.v (.int .u64 c3.2.2.1)), .d (.v (.int .u64 c3.2.2.2.1)), .d (.v (.int .u64 c3.2.2.2.2.1)), .d (.v (.int .u64 c3.2.2.2.2.2.1)), .d (.v (.int .u64 c3.2.2.2.2.2.2.1)), .d (.v (.int .u64 c3.2.2.2.2.2.2.2.1)), .d (.v (.int .u64 c3.2.2.2.2.2.2.2.2.1)), .d (.v (.int .u64 c3.2.2.2.2.2.2.2.2.2.1)), .d (.v (.int .u64 c3.2.2.2.2.2.2.2.2.2.2.1)), .d (.v (.int .u64 c3.2.2.2.2.2.2.2.2.2.2.2.1)), .d (.v (.int .u64 c3.2.2.2.2.2.2.2.2.2.2.2.2.1)), .d (.v (.int .u64 c3.2.2.2.2.2.2.2.2.2.2.2.2.2.1)), .d (.v (.int .u64 c3.2.2.2.2.2.2.2.2.2.2.2.2.2.2.1)), .d (.v (.int .u64 c3.2.2.2.2.2.2.2.2.2.2.2.2.2.2.2))]), (101, .mapH nl4 [.u16] true (encM kI TMember.e m5))]) := by
  refine PObj.intro (sl := [(0, _)]) Try.func9 rfl Try.ntmps9 rfl rfl rfl ?_;intro ctx hK pv;refine PWc.seq ?_;refine PWc.region ?_;refine PWl.step (LR.assign rfl) rfl ?_;refine PWl.nil ?_;refine PWc.seq ?_;refine PWc.seq ?_;refine PWc.region ?_;refine PWl.step (LR.move rfl) rfl ?_;replace h := iDet h;obtain ⟨y6, hy7, h⟩ := h;refine PWl.step (LR.callObjS [(100, 100), (101, 101)] [] [100, 101] [] [(100, .cells 55 [.d (.v (.int .u64 epoch_1)), .d (.v (.int .u16 last_2)), .mp 101, .d (.v (.int .u64 c3.1)), .d (.v (.int .u64 c3.2.1)), .d (.v (.int .u64 c3.2.2.1)), .d (.v (.int .u64 c3.2.2.2.1)), .d (.v (.int .u64 c3.2.2.2.2.1)), .d (.v (.int .u64 c3.2.2.2.2.2.1)), .d (.v (.int .u64 c3.2.2.2.2.2.2.1)), .d (.v (.int .u64 c3.2.2.2.2.2.2.2.1)), .d (.v (.int .u64 c3.2.2.2.2.2.2.2.2.1)), .d (.v (.int .u64 c3.2.2.2.2.2.2.2.2.2.1)), .d (.v (.int .u64 c3.2.2.2.2.2.2.2.2.2.2.1)), .d (.v (.int .u64 c3.2.2.2.2.2.2.2.2.2.2.2.1)), .d (.v (.int .u64 c3.2.2.2.2.2.2.2.2.2.2.2.2.1)), .d (.v (.int .u64 c3.2.2.2.2.2.2.2.2.2.2.2.2.2.1)), .d (.v (.int .u64 c3.2.2.2.2.2.2.2.2.2.2.2.2.2.2.1)), .d (.v (.int .u64 c3.2.2.2.2.2.2.2.2.2.2.2.2.2.2.2))]), (101, .mapH nl4 [.u16] true (encM kI TMember.e m5))] (roster_Roster_none_o_ok epoch_1 last_2 c3 nl4 m5 y6 hy7) hK rfl Try.call26 rfl (by first | rfl | (simp; done) | (simp [PV.nilD, PV.ren, rn]; omega)) (.cons (by first | rfl | (congr 1; first | (simp; done) | (simp; omega) | omega)) <| .cons (by first | rfl | (congr 1; first | (simp; done) | (simp; omega) | omega)) <| .nil) (.nil) (.cons rfl <| .cons rfl <| .nil) (.cons (by first | rfl | (congr 1; first | (simp; done) | (simp; omega) | omega)) <| .cons (by first | rfl | (congr 1; first | (simp; done) | (simp; omega) | omega)) <| .nil) rfl rfl rfl rfl rfl rfl) rfl ?_;refine PWl.nil ?_;refine PWc.cond rfl (fun hc8 => ?_) (fun hc8 => ?_)
  · replace h := iT hc8 h;refine PWc.seq ?_;refine PWc.re (tl := []) (to := [(100, _), (101, _), (1100, _), (1101, _)]) rfl (.nil) (.cons rfl rfl <| .cons rfl rfl <| .cons rfl rfl <| .cons rfl rfl <| .nil) ?_;refine PWc.region ?_;refine PWl.step (LR.assign rfl) rfl ?_;refine PWl.nil ?_;refine PWc.ret ?_;replace h : _ = r0 := h;subst h;exact EndsO.mk () (.inr rfl) (Sub.of (tl := [(2, _)]) (to := [(100, _), (101, _), (1100, _), (1101, _)]) rfl (.cons rfl rfl <| .nil) (.cons rfl rfl <| .cons rfl rfl <| .cons rfl rfl <| .cons rfl rfl <| .nil)) (.cons (.tmp rfl) <| .nil) rfl rfl
  · replace h := iF hc8 h;refine PWc.skip ?_;refine PWc.seq ?_;refine PWc.re (tl := [(0, _)]) (to := [(100, _), (101, _), (1100, _), (1101, _)]) rfl (.cons rfl rfl <| .nil) (.cons rfl rfl <| .cons rfl rfl <| .cons rfl rfl <| .cons rfl rfl <| .nil) ?_;refine PWc.region ?_;refine PWl.step (LR.move rfl) rfl ?_;refine PWl.step (LR.nilCheckRef rfl) rfl ?_;refine PWl.step (LR.fieldRef Try.underlying55 rfl Try.sizeOf28 (by decide) rfl rfl) rfl ?_;refine PWl.step (LR.loadRef Try.isAgg28 rfl rfl rfl) rfl ?_;refine PWl.step (LR.assign rfl) rfl ?_;refine PWl.nil ?_;refine PWc.ret ?_;replace h : _ = r0 := h;subst h;exact EndsO.mk () (.inr rfl) (Sub.of (tl := [(2, _)]) (to := [(100, _), (101, _), (1100, _), (1101, _)]) rfl (.cons rfl rfl <| .nil) (.cons rfl rfl <| .cons rfl rfl <| .cons rfl rfl <| .cons rfl rfl <| .nil)) (.cons (.tmp rfl) <| .nil) rfl rfl

theorem l26_works_ok  (r0 : Bool) (h : (l26_works ).wp (· = r0)) : PFun Try.prog 7 [] (.d (.v (.bool r0))) := by
  refine PFun.intro (sl := []) Try.func7 rfl Try.ntmps7 rfl rfl ?_;intro ctx hK;refine PWc.seq ?_;refine PWc.region ?_;refine PWl.step (LR.assign rfl) rfl ?_;refine PWl.nil ?_;refine PWc.seq ?_;refine PWc.region ?_;replace h := iDet h;obtain ⟨y1, hy2, h⟩ := h;refine PWl.step (LR.callObj [(3, 11), (1, 20221)] [] [3, 1] (roster_New_o_ok y1 hy2) hK rfl Try.call8 rfl (by first | rfl | (simp; done) | (simp [PV.nilD, PV.ren, rn]; omega)) (.nil) rfl rfl rfl rfl) rfl ?_;refine PWl.step (LR.assign rfl) rfl ?_;refine PWl.nil ?_;refine PWc.seq ?_;refine PWc.re (tl := [(1, _)]) (to := [(11, _), (20221, _)]) rfl (.cons rfl rfl <| .nil) (.cons rfl rfl <| .cons rfl rfl <| .nil) ?_;refine PWc.region ?_;refine PWl.step (LR.move rfl) rfl ?_;replace h := iDet h;obtain ⟨y3, hy4, h⟩ := h;refine PWl.step (LR.callObj [(100, 11), (101, 20221)] [] [100, 101] (roster_Roster_Join_o_ok 3 1 y1.1 y1.2.1 y1.2.2.1 y1.2.2.2.1 y1.2.2.2.2 y3 hy4) hK rfl Try.call11 rfl (by first | rfl | (simp; done) | (simp [PV.nilD, PV.ren, rn]; omega)) (.cons (by first | rfl | (congr 1; first | (simp; done) | (simp; omega) | omega)) <| .cons (by first | rfl | (congr 1; first | (simp; done) | (simp; omega) | omega)) <| .nil) rfl rfl rfl rfl) rfl ?_;refine PWl.step (LR.move rfl) rfl ?_;refine PWl.step (LR.extract rfl rfl) rfl ?_;refine PWl.step (LR.extract rfl rfl) rfl ?_;refine PWl.step (LR.extract rfl rfl) rfl ?_;refine PWl.step (LR.allocZ (cs := [_, _, _]) Try.zeroValue35 rfl rfl rfl rfl) rfl ?_;refine PWl.step (LR.storeB (ns := [_, _, _]) Try.sizeOf35 rfl rfl rfl rfl rfl rfl rfl) rfl ?_;refine PWl.step (LR.assign rfl) rfl ?_;refine PWl.step (LR.assign rfl) rfl ?_;refine PWl.nil ?_;refine PWc.seq ?_;refine PWc.re (tl := [(1, _), (2, _), (4, _)]) (to := [(2, _), (11, _), (20221, _)]) rfl (.cons rfl rfl <| .cons rfl rfl <| .cons rfl rfl <| .nil) (.cons rfl rfl <| .cons rfl rfl <| .cons rfl rfl <| .nil) ?_;refine PWc.region ?_;refine PWl.step (LR.move rfl) rfl ?_;replace h := iDet h;obtain ⟨y5, hy6, h⟩ := h;refine PWl.step (LR.callObj [(100, 11), (101, 20221)] [] [100, 101] (roster_Roster_Join_o_ok 3 1 y3.2.2.2.1 y3.2.2.2.2.1 y3.2.2.2.2.2.1 y3.2.2.2.2.2.2.1 y3.2.2.2.2.2.2.2 y5 hy6) hK rfl Try.call11 rfl (by first | rfl | (simp; done) | (simp [PV.nilD, PV.ren, rn]; omega)) (.cons (by first | rfl | (congr 1; first | (simp; done) | (simp; omega) | omega)) <| .cons (by first | rfl | (congr 1; first | (simp; done) | (simp; omega) | omega)) <| .nil) rfl rfl rfl rfl) rfl ?_;refine PWl.step (LR.move rfl) rfl ?_;refine PWl.step (LR.extract rfl rfl) rfl ?_;refine PWl.step (LR.extract rfl rfl) rfl ?_;refine PWl.step (LR.extract rfl rfl) rfl ?_;refine PWl.step (LR.allocZ (cs := [_, _, _]) Try.zeroValue35 rfl rfl rfl rfl) rfl ?_;refine PWl.step (LR.storeB (ns := [_, _, _]) Try.sizeOf35 rfl rfl rfl rfl rfl rfl rfl) rfl ?_;refine PWl.step (LR.assign rfl) rfl ?_;refine PWl.step (LR.assign rfl) rfl ?_;refine PWl.nil ?_;refine PWc.seq ?_;refine PWc.re (tl := [(1, _), (2, _), (4, _), (5, _), (7, _)]) (to := [(2, _), (5, _), (11, _), (20221, _)]) rfl (.cons rfl rfl <| .cons rfl rfl <| .cons rfl rfl <| .cons rfl rfl <| .cons rfl rfl <| .nil) (.cons rfl rfl <| .cons rfl rfl <| .cons rfl rfl <| .cons rfl rfl <| .nil) ?_;refine PWc.region ?_;refine PWl.step (LR.move rfl) rfl ?_;replace h := iDet h;obtain ⟨y7, hy8, h⟩ := h;refine PWl.step (LR.callObj [(100, 11), (101, 20221)] [] [100, 101] (roster_Roster_Join_o_ok 3 2 y5.2.2.2.1 y5.2.2.2.2.1 y5.2.2.2.2.2.1 y5.2.2.2.2.2.2.1 y5.2.2.2.2.2.2.2 y7 hy8) hK rfl Try.call11 rfl (by first | rfl | (simp; done) | (simp [PV.nilD, PV.ren, rn]; omega)) (.cons (by first | rfl | (congr 1; first | (simp; done) | (simp; omega) | omega)) <| .cons (by first | rfl | (congr 1; first | (simp; done) | (simp; omega) | omega)) <| .nil) rfl rfl rfl rfl) rfl ?_;refine PWl.step (LR.move rfl) rfl ?_;refine PWl.step (LR.extract rfl rfl) rfl ?_;refine PWl.step (LR.extract rfl rfl) rfl ?_;refine PWl.step (LR.extract rfl rfl) rfl ?_;refine PWl.step (LR.allocZ (cs := [_, _, _]) Try.zeroValue35 rfl rfl rfl rfl) rfl ?_;refine PWl.step (LR.storeB (ns := [_, _, _]) Try.sizeOf35 rfl rfl rfl rfl rfl rfl rfl) rfl ?_;refine PWl.step (LR.assign rfl) rfl ?_;refine PWl.step (LR.assign rfl) rfl ?_;refine PWl.nil ?_;refine PWc.seq ?_;refine PWc.re (tl := [(1, _), (2, _), (4, _), (5, _), (7, _), (8, _), (9, _), (10, _)]) (to := [(2, _), (5, _), (8, _), (11, _), (20221, _)]) rfl (.cons rfl rfl <| .cons rfl rfl <| .cons rfl rfl <| .cons rfl rfl <| .cons rfl rfl <| .cons rfl rfl <| .cons rfl rfl <| .cons rfl rfl <| .nil) (.cons rfl rfl <| .cons rfl rfl <| .cons rfl rfl <| .cons rfl rfl <| .cons rfl rfl <| .nil) ?_;refine PWc.jn (iBind h) (fun (v9 : Bool) (_ : Unit) => ⟨64, [(0, .d (.v (.bool v9)))], []⟩) (fun h => ?_) ?_
  · refine PWc.region ?_;refine PWl.step (LR.move rfl) rfl ?_;refine PWl.step (LR.eql rfl rfl) rfl ?_;refine PWl.step (LR.move rfl) rfl ?_;refine PWl.split (d := 32) rfl (fun hg10 => ?_) (fun hg10 => ?_)
    · replace h := iT hg10 h;refine PWl.guardT (LR.move rfl) rfl rfl rfl ?_;refine PWl.guardT (LR.eql rfl rfl) rfl rfl rfl ?_;refine PWl.step (LR.pickT rfl rfl) rfl ?_;refine PWl.step (LR.move rfl) rfl ?_;refine PWl.split (d := 36) rfl (fun hg11 => ?_) (fun hg11 => ?_)
      · replace h := iT hg11 h;refine PWl.guardT (LR.move rfl) rfl rfl rfl ?_;refine PWl.guardT (LR.eql rfl rfl) rfl rfl rfl ?_;refine PWl.step (LR.pickT rfl rfl) rfl ?_;refine PWl.step (LR.move rfl) rfl ?_;refine PWl.re (tl := [(1, _), (2, _), (5, _), (8, _), (9, _), (40, _)]) (to := [(2, _), (5, _), (8, _), (11, _), (20221, _)]) rfl (.cons rfl rfl <| .cons rfl rfl <| .cons rfl rfl <| .cons rfl rfl <| .cons rfl rfl <| .cons rfl rfl <| .nil) (.cons rfl rfl <| .cons rfl rfl <| .cons rfl rfl <| .cons rfl rfl <| .cons rfl rfl <| .nil) ?_;refine PWl.split (d := 40) rfl (fun hg12 => ?_) (fun hg12 => ?_)
        · replace h := iT hg12 h;refine PWl.guardT (LR.fieldRef Try.underlying35 rfl Try.sizeOf27 (by decide) rfl rfl) rfl rfl rfl ?_;refine PWl.guardT (LR.loadRef Try.isAgg27 rfl rfl rfl) rfl rfl rfl ?_;refine PWl.guardT (LR.eql rfl rfl) rfl rfl rfl ?_;refine PWl.step (LR.pickT rfl rfl) rfl ?_;refine PWl.step (LR.move rfl) rfl ?_;refine PWl.split (d := 45) rfl (fun hg13 => ?_) (fun hg13 => ?_)
          · replace h := iT hg13 h;refine PWl.guardT (LR.loadRefAgg (ps := [_, _, _]) Try.isAgg35 Try.sizeOf35 rfl rfl rfl rfl) rfl rfl rfl ?_;refine PWl.guardT (LR.loadRefAgg (ps := [_, _, _]) Try.isAgg35 Try.sizeOf35 rfl rfl rfl rfl) rfl rfl rfl ?_;refine PWl.guardT (LR.eqlAgg rfl rfl rfl rfl eq35) rfl rfl rfl ?_;refine PWl.step (LR.pickT rfl rfl) rfl ?_;refine PWl.step (LR.move rfl) rfl ?_;refine PWl.split (d := 50) rfl (fun hg14 => ?_) (fun hg14 => ?_)
            · replace h := iT hg14 h;refine PWl.guardT (LR.fieldRef Try.underlying35 rfl Try.sizeOf27 (by decide) rfl rfl) rfl rfl rfl ?_;refine PWl.guardT (LR.loadRef Try.isAgg27 rfl rfl rfl) rfl rfl rfl ?_;refine PWl.re (tl := [(1, _), (9, _), (50, _), (52, _)]) (to := [(11, _), (20221, _)]) rfl (.cons rfl rfl <| .cons rfl rfl <| .cons rfl rfl <| .cons rfl rfl <| .nil) (.cons rfl rfl <| .cons rfl rfl <| .nil) ?_;refine PWl.guardT (LR.eql rfl rfl) rfl rfl rfl ?_;refine PWl.step (LR.pickT rfl rfl) rfl ?_;refine PWl.step (LR.move rfl) rfl ?_;refine PWl.split (d := 55) rfl (fun hg15 => ?_) (fun hg15 => ?_)
              · replace h := iT hg15 h;refine PWl.guardT (LR.move rfl) rfl rfl rfl ?_;refine PWl.guardT (LR.eql rfl rfl) rfl rfl rfl ?_;refine PWl.step (LR.pickT rfl rfl) rfl ?_;refine PWl.step (LR.move rfl) rfl ?_;refine PWl.split (d := 59) rfl (fun hg16 => ?_) (fun hg16 => ?_)
                · replace h := iT hg16 h;refine PWl.guardT (LR.move rfl) rfl rfl rfl ?_;replace h := iDet h;obtain ⟨y17, hy18, h⟩ := h;refine PWl.guardT (LR.callObjS [(100, 11), (101, 20221)] [] [100, 101] [] [(100, .cells 55 [.d (.v (.int .u64 y7.2.2.2.1)), .d (.v (.int .u16 y7.2.2.2.2.1)), .mp 101, .d (.v (.int .u64 y7.2.2.2.2.2.1.1)), .d (.v (.int .u64 y7.2.2.2.2.2.1.2.1)), .d (.v (.int .u64 y7.2.2.2.2.2.1.2.2.1)), .d (.v (.int .u64 y7.2.2.2.2.2.1.2.2.2.1)), .d (.v (.int .u64 y7.2.2.2.2.2.1.2.2.2.2.1)), .d (.v (.int .u64 y7.2.2.2.2.2.1.2.2.2.2.2.1)), .d (.v (.int .u64 y7.2.2.2.2.2.1.2.2.2.2.2.2.1)), .d (.v (.int .u64 y7.2.2.2.2.2.1.2.2.2.2.2.2.2.1)), .d (.v (.int .u64 y7.2.2.2.2.2.1.2.2.2.2.2.2.2.2.1)), .d (.v (.int .u64 y7.2.2.2.2.2.1.2.2.2.2.2.2.2.2.2.1)), .d (.v (.int .u64 y7.2.2.2.2.2.1.2.2.2.2.2.2.2.2.2.2.1)), .d (.v (.int .u64 y7.2.2.2.2.2.1.2.2.2.2.2.2.2.2.2.2.2.1)), .d (.v (.int .u64 y7.2.2.2.2.2.1.2.2.2.2.2.2.2.2.2.2.2.2.1)), .d (.v (.int .u64 y7.2.2.2.2.2.1.2.2.2.2.2.2.2.2.2.2.2.2.2.1)), .d (.v (.int .u64 y7.2.2.2.2.2.1.2.2.2.2.2.2.2.2.2.2.2.2.2.2.1)), .d (.v (.int .u64 y7.2.2.2.2.2.1.2.2.2.2.2.2.2.2.2.2.2.2.2.2.2))]), (101, .mapH y7.2.2.2.2.2.2.1 [.u16] true (encM kI TMember.e y7.2.2.2.2.2.2.2))] (roster_Roster_Epoch_o_ok y7.2.2.2.1 y7.2.2.2.2.1 y7.2.2.2.2.2.1 y7.2.2.2.2.2.2.1 y7.2.2.2.2.2.2.2 y17 hy18) hK rfl Try.call9 rfl (by first | rfl | (simp; done) | (simp [PV.nilD, PV.ren, rn]; omega)) (.cons (by first | rfl | (congr 1; first | (simp; done) | (simp; omega) | omega)) <| .cons (by first | rfl | (congr 1; first | (simp; done) | (simp; omega) | omega)) <| .nil) (.nil) (.cons rfl <| .cons rfl <| .nil) (.cons (by first | rfl | (congr 1; first | (simp; done) | (simp; omega) | omega)) <| .cons (by first | rfl | (congr 1; first | (simp; done) | (simp; omega) | omega)) <| .nil) rfl rfl rfl rfl rfl rfl) rfl rfl rfl ?_;refine PWl.guardT (LR.eql rfl rfl) rfl rfl rfl ?_;refine PWl.step (LR.pickT rfl rfl) rfl ?_;refine PWl.step (LR.assign rfl) rfl ?_;refine PWl.nil ?_;exact ⟨(decide (y17 = 3)), (), h, Sub.of rfl (.cons rfl rfl <| .nil) (.nil)⟩
                · replace h := iF hg16 h;refine PWl.guardF rfl rfl rfl (by decide) ?_;refine PWl.guardF rfl rfl rfl (by decide) ?_;refine PWl.guardF rfl rfl rfl (by decide) ?_;refine PWl.step (LR.pickF rfl rfl) rfl ?_;refine PWl.step (LR.assign rfl) rfl ?_;refine PWl.nil ?_;exact ⟨false, (), h, Sub.of rfl (.cons rfl rfl <| .nil) (.nil)⟩
              · replace h := iF hg15 h;refine PWl.guardF rfl rfl rfl (by decide) ?_;refine PWl.guardF rfl rfl rfl (by decide) ?_;refine PWl.step (LR.pickF rfl rfl) rfl ?_;refine PWl.step (LR.move rfl) rfl ?_;refine PWl.guardF rfl rfl rfl (by decide) ?_;refine PWl.guardF rfl rfl rfl (by decide) ?_;refine PWl.guardF rfl rfl rfl (by decide) ?_;refine PWl.step (LR.pickF rfl rfl) rfl ?_;refine PWl.step (LR.assign rfl) rfl ?_;refine PWl.nil ?_;exact ⟨false, (), h, Sub.of rfl (.cons rfl rfl <| .nil) (.nil)⟩
            · replace h := iF hg14 h;refine PWl.guardF rfl rfl rfl (by decide) ?_;refine PWl.guardF rfl rfl rfl (by decide) ?_;refine PWl.re (tl := [(1, _), (9, _), (50, _), (52, _)]) (to := [(11, _), (20221, _)]) rfl (.cons rfl rfl <| .cons rfl rfl <| .cons rfl rfl <| .cons rfl rfl <| .nil) (.cons rfl rfl <| .cons rfl rfl <| .nil) ?_;refine PWl.guardF rfl rfl rfl (by decide) ?_;refine PWl.step (LR.pickF rfl rfl) rfl ?_;refine PWl.step (LR.move rfl) rfl ?_;refine PWl.guardF rfl rfl rfl (by decide) ?_;refine PWl.guardF rfl rfl rfl (by decide) ?_;refine PWl.step (LR.pickF rfl rfl) rfl ?_;refine PWl.step (LR.move rfl) rfl ?_;refine PWl.guardF rfl rfl rfl (by decide) ?_;refine PWl.guardF rfl rfl rfl (by decide) ?_;refine PWl.guardF rfl rfl rfl (by decide) ?_;refine PWl.step (LR.pickF rfl rfl) rfl ?_;refine PWl.step (LR.assign rfl) rfl ?_;refine PWl.nil ?_;exact ⟨false, (), h, Sub.of rfl (.cons rfl rfl <| .nil) (.nil)⟩
          · replace h := iF hg13 h;refine PWl.guardF rfl rfl rfl (by decide) ?_;refine PWl.guardF rfl rfl rfl (by decide) ?_;refine PWl.guardF rfl rfl rfl (by decide) ?_;refine PWl.step (LR.pickF rfl rfl) rfl ?_;refine PWl.step (LR.move rfl) rfl ?_;refine PWl.guardF rfl rfl rfl (by decide) ?_;refine PWl.guardF rfl rfl rfl (by decide) ?_;refine PWl.guardF rfl rfl rfl (by decide) ?_;refine PWl.re (tl := [(1, _), (9, _), (50, _), (53, _)]) (to := [(11, _), (20221, _)]) rfl (.cons rfl rfl <| .cons rfl rfl <| .cons rfl rfl <| .cons rfl rfl <| .nil) (.cons rfl rfl <| .cons rfl rfl <| .nil) ?_;refine PWl.step (LR.pickF rfl rfl) rfl ?_;refine PWl.step (LR.move rfl) rfl ?_;refine PWl.guardF rfl rfl rfl (by decide) ?_;refine PWl.guardF rfl rfl rfl (by decide) ?_;refine PWl.step (LR.pickF rfl rfl) rfl ?_;refine PWl.step (LR.move rfl) rfl ?_;refine PWl.guardF rfl rfl rfl (by decide) ?_;refine PWl.guardF rfl rfl rfl (by decide) ?_;refine PWl.guardF rfl rfl rfl (by decide) ?_;refine PWl.step (LR.pickF rfl rfl) rfl ?_;refine PWl.step (LR.assign rfl) rfl ?_;refine PWl.nil ?_;exact ⟨false, (), h, Sub.of rfl (.cons rfl rfl <| .nil) (.nil)⟩
        · replace h := iF hg12 h;refine PWl.guardF rfl rfl rfl (by decide) ?_;refine PWl.guardF rfl rfl rfl (by decide) ?_;refine PWl.guardF rfl rfl rfl (by decide) ?_;refine PWl.step (LR.pickF rfl rfl) rfl ?_;refine PWl.step (LR.move rfl) rfl ?_;refine PWl.guardF rfl rfl rfl (by decide) ?_;refine PWl.guardF rfl rfl rfl (by decide) ?_;refine PWl.guardF rfl rfl rfl (by decide) ?_;refine PWl.step (LR.pickF rfl rfl) rfl ?_;refine PWl.step (LR.move rfl) rfl ?_;refine PWl.guardF rfl rfl rfl (by decide) ?_;refine PWl.guardF rfl rfl rfl (by decide) ?_;refine PWl.guardF rfl rfl rfl (by decide) ?_;refine PWl.step (LR.pickF rfl rfl) rfl ?_;refine PWl.re (tl := [(1, _), (9, _), (54, _)]) (to := [(11, _), (20221, _)]) rfl (.cons rfl rfl <| .cons rfl rfl <| .cons rfl rfl <| .nil) (.cons rfl rfl <| .cons rfl rfl <| .nil) ?_;refine PWl.step (LR.move rfl) rfl ?_;refine PWl.guardF rfl rfl rfl (by decide) ?_;refine PWl.guardF rfl rfl rfl (by decide) ?_;refine PWl.step (LR.pickF rfl rfl) rfl ?_;refine PWl.step (LR.move rfl) rfl ?_;refine PWl.guardF rfl rfl rfl (by decide) ?_;refine PWl.guardF rfl rfl rfl (by decide) ?_;refine PWl.guardF rfl rfl rfl (by decide) ?_;refine PWl.step (LR.pickF rfl rfl) rfl ?_;refine PWl.step (LR.assign rfl) rfl ?_;refine PWl.nil ?_;exact ⟨false, (), h, Sub.of rfl (.cons rfl rfl <| .nil) (.nil)⟩
      · replace h := iF hg11 h;refine PWl.guardF rfl rfl rfl (by decide) ?_;refine PWl.guardF rfl rfl rfl (by decide) ?_;refine PWl.step (LR.pickF rfl rfl) rfl ?_;refine PWl.step (LR.move rfl) rfl ?_;refine PWl.re (tl := [(1, _), (2, _), (5, _), (8, _), (9, _), (40, _)]) (to := [(2, _), (5, _), (8, _), (11, _), (20221, _)]) rfl (.cons rfl rfl <| .cons rfl rfl <| .cons rfl rfl <| .cons rfl rfl <| .cons rfl rfl <| .cons rfl rfl <| .nil) (.cons rfl rfl <| .cons rfl rfl <| .cons rfl rfl <| .cons rfl rfl <| .cons rfl rfl <| .nil) ?_;refine PWl.guardF rfl rfl rfl (by decide) ?_;refine PWl.guardF rfl rfl rfl (by decide) ?_;refine PWl.guardF rfl rfl rfl (by decide) ?_;refine PWl.step (LR.pickF rfl rfl) rfl ?_;refine PWl.step (LR.move rfl) rfl ?_;refine PWl.guardF rfl rfl rfl (by decide) ?_;refine PWl.guardF rfl rfl rfl (by decide) ?_;refine PWl.guardF rfl rfl rfl (by decide) ?_;refine PWl.step (LR.pickF rfl rfl) rfl ?_;refine PWl.step (LR.move rfl) rfl ?_;refine PWl.guardF rfl rfl rfl (by decide) ?_;refine PWl.guardF rfl rfl rfl (by decide) ?_;refine PWl.guardF rfl rfl rfl (by decide) ?_;refine PWl.step (LR.pickF rfl rfl) rfl ?_;refine PWl.step (LR.move rfl) rfl ?_;refine PWl.re (tl := [(1, _), (9, _), (55, _)]) (to := [(11, _), (20221, _)]) rfl (.cons rfl rfl <| .cons rfl rfl <| .cons rfl rfl <| .nil) (.cons rfl rfl <| .cons rfl rfl <| .nil) ?_;refine PWl.guardF rfl rfl rfl (by decide) ?_;refine PWl.guardF rfl rfl rfl (by decide) ?_;refine PWl.step (LR.pickF rfl rfl) rfl ?_;refine PWl.step (LR.move rfl) rfl ?_;refine PWl.guardF rfl rfl rfl (by decide) ?_;refine PWl.guardF rfl rfl rfl (by decide) ?_;refine PWl.guardF rfl rfl rfl (by decide) ?_;refine PWl.step (LR.pickF rfl rfl) rfl ?_;refine PWl.step (LR.assign rfl) rfl ?_;refine PWl.nil ?_;exact ⟨false, (), h, Sub.of rfl (.cons rfl rfl <| .nil) (.nil)⟩
    · replace h := iF hg10 h;refine PWl.guardF rfl rfl rfl (by decide) ?_;refine PWl.guardF rfl rfl rfl (by decide) ?_;refine PWl.step (LR.pickF rfl rfl) rfl ?_;refine PWl.step (LR.move rfl) rfl ?_;refine PWl.guardF rfl rfl rfl (by decide) ?_;refine PWl.guardF rfl rfl rfl (by decide) ?_;refine PWl.step (LR.pickF rfl rfl) rfl ?_;refine PWl.step (LR.move rfl) rfl ?_;refine PWl.guardF rfl rfl rfl (by decide) ?_;refine PWl.re (tl := [(1, _), (2, _), (5, _), (8, _), (9, _), (40, _), (41, _)]) (to := [(2, _), (5, _), (8, _), (11, _), (20221, _)]) rfl (.cons rfl rfl <| .cons rfl rfl <| .cons rfl rfl <| .cons rfl rfl <| .cons rfl rfl <| .cons rfl rfl <| .cons rfl rfl <| .nil) (.cons rfl rfl <| .cons rfl rfl <| .cons rfl rfl <| .cons rfl rfl <| .cons rfl rfl <| .nil) ?_;refine PWl.guardF rfl rfl rfl (by decide) ?_;refine PWl.guardF rfl rfl rfl (by decide) ?_;refine PWl.step (LR.pickF rfl rfl) rfl ?_;refine PWl.step (LR.move rfl) rfl ?_;refine PWl.guardF rfl rfl rfl (by decide) ?_;refine PWl.guardF rfl rfl rfl (by decide) ?_;refine PWl.guardF rfl rfl rfl (by decide) ?_;refine PWl.step (LR.pickF rfl rfl) rfl ?_;refine PWl.step (LR.move rfl) rfl ?_;refine PWl.guardF rfl rfl rfl (by decide) ?_;refine PWl.guardF rfl rfl rfl (by decide) ?_;refine PWl.guardF rfl rfl rfl (by decide) ?_;refine PWl.step (LR.pickF rfl rfl) rfl ?_;refine PWl.step (LR.move rfl) rfl ?_;refine PWl.re (tl := [(1, _), (9, _), (55, _)]) (to := [(11, _), (20221, _)]) rfl (.cons rfl rfl <| .cons rfl rfl <| .cons rfl rfl <| .nil) (.cons rfl rfl <| .cons rfl rfl <| .nil) ?_;refine PWl.guardF rfl rfl rfl (by decide) ?_;refine PWl.guardF rfl rfl rfl (by decide) ?_;refine PWl.step (LR.pickF rfl rfl) rfl ?_;refine PWl.step (LR.move rfl) rfl ?_;refine PWl.guardF rfl rfl rfl (by decide) ?_;refine PWl.guardF rfl rfl rfl (by decide) ?_;refine PWl.guardF rfl rfl rfl (by decide) ?_;refine PWl.step (LR.pickF rfl rfl) rfl ?_;refine PWl.step (LR.assign rfl) rfl ?_;refine PWl.nil ?_;exact ⟨false, (), h, Sub.of rfl (.cons rfl rfl <| .nil) (.nil)⟩
  · rintro v9 _ h;refine PWc.ret ?_;replace h : _ = r0 := h;subst h;exact ⟨.inr rfl, _, .cons (.tmp rfl rfl) <| .nil, rfl⟩
end Go.Proofs


/- Loops that append to the rows of a map of one's own: each round is walked with the row that it touches taken out. No program in sight. -/
import Derived.Test.YtacnidaafcfgiaaGreatMp
namespace Go.Ep
open Go.RowKit

/-- A row that an entry names. -/
def RowAt (w : World) (e : TypeId) (k : Nat) (l : List (List DV)) : Option (Nat × Nat) → Value → Prop
  | none, v => l = [] ∧ v = .slice none 0 0
  | some (b, cap), v => v = .slice (some ⟨b, 0, none⟩) l.length cap ∧ ∃ cur : List Value, w.heap[b]? = some (.cells cur.toArray e (0, 0)) ∧ l.length ≤ cap ∧ cap ≤ maxLen ∧ cur.length = cap * k ∧ (∀ (i : Nat) (cs : List DV), l[i]? = some cs → cs.length = k) ∧
      ∀ (i : Nat) (cs : List DV) (j : Nat) (x : DV), l[i]? = some cs → cs[j]? = some x → ∃ u, cur[i * k + j]? = some u ∧ x = .v u ∧ u.oneCell' = true
def PlainL (l : List (List DV)) : Prop := ∀ cs ∈ l, ∀ x ∈ cs, ∃ u, x = DV.v u
abbrev RowsM := List (List Int × List (List DV))
def rowsM (R : RowsM) : Mp := R.map fun p => (p.1, [DV.sl p.2])
/-- The blocks for data, beside the rows. -/
def Dt (ctx : Ctx) (mb : Nat) (blk : Nat → Option (Nat × Nat)) (b : Nat) : Prop := (ctx.S b ∨ ctx.w0.heap.size ≤ b) ∧ b ≠ mb ∧ ∀ i c, blk i ≠ some (b, c)

structure RelT (ctx : Ctx) (ks : List IntKind) (e : TypeId) (k mid n : Nat) (sl : List (Nat × PV)) (R : RowsM) (a : Act) (w : World) (g : Ghost) (mb : Nat) (blk : Nat → Option (Nat × Nat)) (es : Array MapEntry) (ck : Nat) : Prop where
  defers : a.defers = []
  size : a.tmps.size = n
  slots : ∀ i p, (PState.mk n sl []).at i = some p → Rd w g (Dt ctx mb blk) p (a.tmps.getD i undef)
  gm : ∃ q, g mid = some (mb, q)
  lt : mb < w.heap.size ∧ (ctx.w0.heap.size ≤ mb ∨ ctx.K mb)
  hh : w.heap[mb]? = some (.map es ck)
  sz : es.size = R.length
  below : ∀ b ∈ es.toList.map (·.born), b < ck
  nodup : (es.toList.map (·.born)).Nodup
  ent : ∀ (i : Nat) (ns : List Int) (l : List (List DV)), R[i]? = some (ns, l) → ∃ x, es[i]? = some x ∧ x.key = keyV ks ns ∧ ns.length = ks.length ∧ RowAt w e k l (blk i) x.val
  inj : ∀ i j b c c', blk i = some (b, c) → blk j = some (b, c') → i = j
  own : ∀ i b c, blk i = some (b, c) → b < w.heap.size ∧ (ctx.w0.heap.size ≤ b ∨ ctx.K b) ∧ b ≠ mb
  out : ∀ i, R.length ≤ i → blk i = none
  os : w.os = ctx.w0.os
  tape : w.tape = ctx.w0.tape
  output : w.output = ctx.w0.output
  grows : ctx.w0.heap.size ≤ w.heap.size
  keep : ∀ q, q < ctx.w0.heap.size → ¬ ctx.K q → w.heap[q]? = ctx.w0.heap[q]?

theorem at_objs (n : Nat) (sl : List (Nat × PV)) (o o' : List (Nat × Ob)) (i : Nat) : (PState.mk n sl o).at i = (PState.mk n sl o').at i := rfl
theorem at_mem {n : Nat} {sl : List (Nat × PV)} {o : List (Nat × Ob)} {i : Nat} {p : PV} (h : (PState.mk n sl o).at i = some p) : (i, p) ∈ sl := getS_mem (at_get h)

theorem rd_row {w : World} {g : Ghost} {S : Nat → Prop} {id n : Nat} {u : Value} (h : Rd w g S (.row id n) u) : (∃ b c, g id = some (b, c) ∧ u = .slice (some ⟨b, 0, none⟩) n c) ∨ (g id = none ∧ n = 0 ∧ u = .slice none 0 0) := by
  cases h with
  | row _ _ b c h => exact .inl ⟨b, c, h, rfl⟩
  | rowNil _ h => exact .inr ⟨h, rfl, rfl⟩
section
variable {ctx : Ctx} {ks : List IntKind} {e : TypeId} {k mid n : Nat} {sl : List (Nat × PV)} {a : Act} {w : World} {g : Ghost}
theorem RelT.start {bs0 : List Nat} {ck0 : Nat} (h : RelG ctx g ⟨n, sl, [(mid, .map ks false [] bs0 ck0)]⟩ a w) : ∃ mb es ck, RelT ctx ks e k mid n sl [] a w g mb (fun _ => none) es ck := by
  have hl : look [(mid, Ob.map ks false [] bs0 ck0)] mid = some (.map ks false [] bs0 ck0) := by simp [look]
  cases h.objs mid _ hl with
  | map _ _ _ _ _ blk q es hg hh hm =>
    refine ⟨blk, es, ck0, h.defers, h.size, fun i p hp => ?_, ⟨q, hg⟩, h.own mid _ blk q hl hg, hh, hm.size, by rw [← hm.stamps]; exact hm.below, by rw [← hm.stamps]; exact hm.nodup, (fun i ns l hi => by simp at hi), (fun i j b c c' hi => by cases hi), (fun i b c hi => by cases hi), fun _ _ => rfl, h.os, h.tape, h.output, h.grows, h.keep⟩
    refine (h.slots i p hp).keep ⟨Nat.le_refl _, fun _ _ _ => rfl⟩ (fun b hb _ => ⟨hb.1, fun eb => ?_, fun i c hc => by cases hc⟩) (fun _ _ => rfl)
    subst eb
    exact hb.2 mid _ q hl hg
theorem cell_cur {b : Nat} {cur : List Value} (hh : w.heap[b]? = some (.cells cur.toArray e (0, 0))) (o : Nat) : w.cell? ⟨b, o, none⟩ = cur[o]? := cell_of_heap hh o
theorem RelT.done {R : RowsM} {mb : Nat} {blk : Nat → Option (Nat × Nat)} {es : Array MapEntry} {ck : Nat} (hK : ∀ b, ctx.K b → ctx.S b) (h : RelT ctx ks e k mid n sl R a w g mb blk es ck) : RelG ctx g ⟨n, sl, [(mid, .map ks false (rowsM R) (es.toList.map (·.born)) ck)]⟩ a w := by
  obtain ⟨q, hg⟩ := h.gm
  have hlk : ∀ id o, look [(mid, Ob.map ks false (rowsM R) (es.toList.map (·.born)) ck)] id = some o → id = mid := fun id o ho => by
    simp only [look] at ho
    split at ho
    · assumption
    · cases ho
  have hfree : ∀ b, (ctx.S b ∨ ctx.w0.heap.size ≤ b) → b ≠ mb → Free ctx g [(mid, Ob.map ks false (rowsM R) (es.toList.map (·.born)) ck)] b := fun b h1 h2 => ⟨h1, fun id o m ho hgi => by
    rw [hlk id o ho, hg] at hgi; cases hgi; exact h2 rfl⟩
  refine ⟨h.defers, h.size, fun i p hp => ?_, fun id o ho => ?_, fun i j oi oj b m m' hi hj _ _ => by rw [hlk i oi hi, hlk j oj hj], fun id o b m ho hgi => ?_, h.os, h.tape, h.output, h.grows, h.keep⟩
  · exact (h.slots i p hp).keep ⟨Nat.le_refl _, fun _ _ _ => rfl⟩ (fun b hb _ => hfree b hb.1 hb.2.1) (fun _ _ => rfl)
  · have hid := hlk id o ho
    subst hid
    simp only [look, if_true] at ho
    cases ho
    refine .map ks false _ _ ck mb q es hg h.hh ⟨by simp [rowsM, h.sz], rfl, h.below, h.nodup, fun i ns cs hi => ?_⟩
    unfold rowsM at hi
    rw [List.getElem?_map] at hi
    cases hR : R[i]? with
    | none => rw [hR] at hi; cases hi
    | some r =>
      obtain ⟨ns', l⟩ := r
      rw [hR] at hi
      simp only [Option.map_some, Option.some.injEq, Prod.mk.injEq] at hi
      obtain ⟨rfl, rfl⟩ := hi
      obtain ⟨x, h1, h2, h3, h4⟩ := h.ent i _ l hR
      have hd : DRd w (Free ctx g [(id, Ob.map ks false (rowsM R) (es.toList.map (·.born)) ck)]) (.sl l) x.val := by
        cases hb : blk i with
        | none =>
          rw [hb] at h4
          obtain ⟨rfl, hv⟩ := h4
          rw [hv]
          exact .nil none 0 (Nat.zero_le _) (fun _ => rfl)
        | some bc =>
          obtain ⟨b, cap⟩ := bc
          rw [hb] at h4
          obtain ⟨hv, cur, hc, hlc, hcap, hcl, hkk, hr⟩ := h4
          rw [hv]
          obtain ⟨o1, o2, o3⟩ := h.own i b cap hb
          refine .sl l b 0 cap k (fun i j => cur.getD (i * k + j) undef) hlc hcap (hfree b (o2.elim .inr fun q => .inl (hK b q)) o3) o1 hkk (fun i' j' hi' hj' => ?_) fun i' cs j' x' hi' hx' => ?_
          · rw [cell_cur hc, Nat.zero_add]
            have : i' * k + j' < cur.length := by rw [hcl]; exact idx_lt (by omega) hj'
            simp [List.getD, this]
          · obtain ⟨u, hu, rfl, h1⟩ := hr i' cs j' x' hi' hx'
            simp only [List.getD, hu, Option.getD_some]
            exact .v u h1
      refine ⟨x, [x.val], h1, h2, rfl, rfl, fun _ => rfl, fun u hu => by rw [List.mem_singleton] at hu; rw [hu]; exact hd.one, h3, fun j y u hy hu => ?_⟩
      cases j with
      | zero => simp at hy hu; subst hy; subst hu; exact hd
      | succ j => simp at hy
  · rw [hlk id o ho, hg] at hgi
    cases hgi
    exact h.lt

/-- The values of the entries. -/
def valsT (R : RowsM) (es : Array MapEntry) : List (List Int × Value) := List.zipWith (fun r x => (r.1, x.val)) R es.toList
theorem valsT_len {R : RowsM} {es : Array MapEntry} (h : es.size = R.length) : (valsT R es).length = R.length := by simp [valsT, h]
theorem valsT_fst {R : RowsM} {es : Array MapEntry} (h : es.size = R.length) : (valsT R es).map (·.1) = R.map (·.1) := by
  apply List.ext_getElem?
  intro i
  simp only [valsT, List.getElem?_map, List.getElem?_zipWith]
  cases hR : R[i]? with
  | none => simp
  | some r =>
    have : i < es.toList.length := by have := (List.getElem?_eq_some_iff.1 hR).1; simp; omega
    simp [List.getElem?_eq_getElem this]
theorem valsT_get {R : RowsM} {es : Array MapEntry} {i : Nat} {ns : List Int} {u : Value} (h : (valsT R es)[i]? = some (ns, u)) : ∃ l x, R[i]? = some (ns, l) ∧ es[i]? = some x ∧ x.val = u := by
  simp only [valsT, List.getElem?_zipWith] at h
  cases hR : R[i]? with
  | none => rw [hR] at h; cases h
  | some r =>
    cases hx : es.toList[i]? with
    | none => rw [hR, hx] at h; cases h
    | some x =>
      rw [hR, hx] at h
      simp only [Option.some.injEq, Prod.mk.injEq] at h
      exact ⟨r.2, x, by rw [← h.1], by simpa using hx, h.2⟩
theorem valsT_of {R : RowsM} {es : Array MapEntry} {i : Nat} {ns : List Int} {l : List (List DV)} {x : MapEntry} (h : R[i]? = some (ns, l)) (hx : es[i]? = some x) : (valsT R es)[i]? = some (ns, x.val) := by
  have hx' : es.toList[i]? = some x := by simpa using hx
  rw [valsT, List.getElem?_zipWith, h, hx']

/-- The call's world while a round is walked. -/
def ctxT (ctx : Ctx) (mb : Nat) (blk : Nat → Option (Nat × Nat)) (j : Nat) (w : World) : Ctx := ⟨w, Dt ctx mb blk, fun b => b = mb ∨ ∃ c, blk j = some (b, c)⟩

section
variable {R : RowsM} {mb : Nat} {blk : Nat → Option (Nat × Nat)} {es : Array MapEntry} {ck : Nat}
/-- In: the row that is touched, taken out. -/
theorem RelT.found (h : RelT ctx ks e k mid n sl R a w g mb blk es ck) (hnm : ∀ x ∈ sl, ∀ id, x.2.has id = true → id = mid) (hm : mid ≠ 50) {j : Nat} {ns : List Int} {l : List (List DV)} (hj : R[j]? = some (ns, l)) :
    RelG (ctxT ctx mb blk j w) (upd g 50 (blk j)) ⟨n, sl, [(mid, .mapP ks (valsT R es) (some (j, .row 50 l.length)) (es.toList.map (·.born)) ck), (50, .row e k l)]⟩ a w := by
  obtain ⟨q, hg⟩ := h.gm
  have hgm : upd g 50 (blk j) mid = some (mb, q) := by rw [upd_ne hm]; exact hg
  have hg5 : upd g 50 (blk j) 50 = blk j := upd_same _ _ _
  have hlk : ∀ id o, look [(mid, Ob.mapP ks (valsT R es) (some (j, .row 50 l.length)) (es.toList.map (·.born)) ck), (50, Ob.row e k l)] id = some o → (id = mid ∧ o = .mapP ks (valsT R es) (some (j, .row 50 l.length)) (es.toList.map (·.born)) ck) ∨ (id = 50 ∧ o = .row e k l) := fun id o ho => by
    simp only [look] at ho
    split at ho
    · cases ho; exact .inl ⟨by assumption, rfl⟩
    · split at ho
      · cases ho; exact .inr ⟨by assumption, rfl⟩
      · cases ho
  have hfree : ∀ b, Dt ctx mb blk b → Free (ctxT ctx mb blk j w) (upd g 50 (blk j)) [(mid, Ob.mapP ks (valsT R es) (some (j, .row 50 l.length)) (es.toList.map (·.born)) ck), (50, Ob.row e k l)] b := fun b hb => ⟨.inl hb, fun id o m ho hgi => by
    rcases hlk id o ho with ⟨rfl, _⟩ | ⟨rfl, _⟩
    · rw [hgm] at hgi; cases hgi; exact hb.2.1 rfl
    · rw [hg5] at hgi; exact hb.2.2 j m hgi⟩
  obtain ⟨x, h1, h2, h3, h4⟩ := h.ent j ns l hj
  refine ⟨h.defers, h.size, fun i p hp => ?_, fun id o ho => ?_, fun i i' oi oj b m m' hi hi' hgi hgj => ?_, fun id o b m ho hgi => ?_, rfl, rfl, rfl, Nat.le_refl _, fun _ _ _ => rfl⟩
  · exact (h.slots i p hp).keep ⟨Nat.le_refl _, fun _ _ _ => rfl⟩ (fun b hb _ => hfree b hb) (fun id hid => by rw [hnm _ (at_mem hp) id hid, hgm, hg])
  · rcases hlk id o ho with ⟨rfl, rfl⟩ | ⟨rfl, rfl⟩
    · refine .mapP ks _ _ _ ck mb q es hgm h.hh (by rw [valsT_len h.sz, h.sz]) rfl h.below h.nodup (fun i ns' u hi => ?_) fun j' p hjp => ?_
      · obtain ⟨l', x', r1, r2, r3⟩ := valsT_get hi
        obtain ⟨x2, s1, s2, s3, s4⟩ := h.ent i ns' l' r1
        rw [r2] at s1; cases s1
        refine ⟨x', r2, s2, s3, ?_, fun _ => r3⟩
        cases hb : blk i with
        | none => rw [hb] at s4; rw [s4.2]; rfl
        | some bc => obtain ⟨b, c⟩ := bc; rw [hb] at s4; rw [s4.1]; rfl
      · cases hjp
        refine ⟨x, h1, ?_⟩
        cases hb : blk j with
        | none => rw [hb] at h4; obtain ⟨rfl, hv⟩ := h4; rw [hv]; exact .rowNil 50 (upd_same _ _ _)
        | some bc => obtain ⟨b, c⟩ := bc; rw [hb] at h4; rw [h4.1]; exact .row 50 _ b c (upd_same _ _ _)
    · cases hb : blk j with
      | none => rw [hb] at h4; obtain ⟨rfl, hv⟩ := h4; exact .rowNil e k (upd_same _ _ _)
      | some bc =>
        obtain ⟨b, c⟩ := bc
        rw [hb] at h4
        obtain ⟨hv, cur, hc, hlc, hcap, hcl, hkk, hr⟩ := h4
        refine .row e k l b c cur (upd_same _ _ _) hc hlc hcap hcl hkk fun i' cs j' x' hi' hx' => ?_
        obtain ⟨u, hu, rfl, ho1⟩ := hr i' cs j' x' hi' hx'
        exact ⟨u, hu, .v u ho1⟩
  · rcases hlk i oi hi with ⟨rfl, _⟩ | ⟨rfl, _⟩ <;> rcases hlk i' oj hi' with ⟨rfl, _⟩ | ⟨rfl, _⟩
    · rfl
    · rw [hgm] at hgi; cases hgi; rw [hg5] at hgj; exact ((h.own j _ _ hgj).2.2 rfl).elim
    · rw [hgm] at hgj; cases hgj; rw [hg5] at hgi; exact ((h.own j _ _ hgi).2.2 rfl).elim
    · rfl
  · rcases hlk id o ho with ⟨rfl, _⟩ | ⟨rfl, _⟩
    · rw [hgm] at hgi; cases hgi; exact ⟨h.lt.1, .inr (.inl rfl)⟩
    · rw [hg5] at hgi; exact ⟨(h.own j _ _ hgi).1, .inr (.inr ⟨_, hgi⟩)⟩
/-- In: no row is touched that is there. -/
theorem RelT.fresh (h : RelT ctx ks e k mid n sl R a w g mb blk es ck) (j : Nat) :
    RelG (ctxT ctx mb blk j w) g ⟨n, sl, [(mid, .mapP ks (valsT R es) none (es.toList.map (·.born)) ck)]⟩ a w := by
  obtain ⟨q, hg⟩ := h.gm
  have hlk : ∀ id o, look [(mid, Ob.mapP ks (valsT R es) none (es.toList.map (·.born)) ck)] id = some o → id = mid ∧ o = .mapP ks (valsT R es) none (es.toList.map (·.born)) ck := fun id o ho => by
    simp only [look] at ho
    split at ho
    · cases ho; exact ⟨by assumption, rfl⟩
    · cases ho
  have hfree : ∀ b, Dt ctx mb blk b → Free (ctxT ctx mb blk j w) g [(mid, Ob.mapP ks (valsT R es) none (es.toList.map (·.born)) ck)] b := fun b hb => ⟨.inl hb, fun id o m ho hgi => by
    rw [(hlk id o ho).1, hg] at hgi; cases hgi; exact hb.2.1 rfl⟩
  refine ⟨h.defers, h.size, fun i p hp => ?_, fun id o ho => ?_, fun i i' oi oj b m m' hi hi' hgi hgj => ?_, fun id o b m ho hgi => ?_, rfl, rfl, rfl, Nat.le_refl _, fun _ _ _ => rfl⟩
  · exact (h.slots i p hp).keep ⟨Nat.le_refl _, fun _ _ _ => rfl⟩ (fun b hb _ => hfree b hb) (fun _ _ => rfl)
  · obtain ⟨rfl, rfl⟩ := hlk id o ho
    refine .mapP ks _ _ _ ck mb q es hg h.hh (by rw [valsT_len h.sz, h.sz]) rfl h.below h.nodup (fun i ns' u hi => ?_) fun j' p hjp => by cases hjp
    obtain ⟨l', x', r1, r2, r3⟩ := valsT_get hi
    obtain ⟨x2, s1, s2, s3, s4⟩ := h.ent i ns' l' r1
    rw [r2] at s1; cases s1
    refine ⟨x', r2, s2, s3, ?_, fun _ => r3⟩
    cases hb : blk i with
    | none => rw [hb] at s4; rw [s4.2]; rfl
    | some bc => obtain ⟨b, c⟩ := bc; rw [hb] at s4; rw [s4.1]; rfl
  · rw [(hlk i oi hi).1, (hlk i' oj hi').1]
  · rw [(hlk id o ho).1, hg] at hgi; cases hgi; exact ⟨h.lt.1, .inr (.inl rfl)⟩
/-- Out: the touched row is put back. -/
theorem RelT.back (h : RelT ctx ks e k mid n sl R a w g mb blk es ck) {j q : Nat} {ns : List Int} {l : List (List DV)} {R' : RowsM} {vm : List (List Int × Value)} {sl' : List (Nat × PV)} {a' : Act} {w' : World} {g' : Ghost} {bs' : List Nat} {ck' : Nat} (hq : mid ≠ q) (hle : R.length ≤ R'.length)
    (hvl : vm.length = R'.length) (hj : R'[j]? = some (ns, l)) (hjv : ∃ u, vm[j]? = some (ns, u)) (hvm : ∀ i ns' l', i ≠ j → R'[i]? = some (ns', l') → R[i]? = some (ns', l') ∧ ∃ x, es[i]? = some x ∧ vm[i]? = some (ns', x.val)) (hpl : PlainL l)
    (hr : RelG (ctxT ctx mb blk j w) g' ⟨n, sl', [(mid, .mapP ks vm (some (j, .row q l.length)) bs' ck'), (q, .row e k l)]⟩ a' w') :
    ∃ mb' blk' es', RelT ctx ks e k mid n sl' R' a' w' g' mb' blk' es' ck' := by
  have hlm : look [(mid, Ob.mapP ks vm (some (j, .row q l.length)) bs' ck'), (q, Ob.row e k l)] mid = some (.mapP ks vm (some (j, .row q l.length)) bs' ck') := by simp [look]
  have hlq : look [(mid, Ob.mapP ks vm (some (j, .row q l.length)) bs' ck'), (q, Ob.row e k l)] q = some (.row e k l) := by simp [look, Ne.symm hq]
  cases hr.objs mid _ hlm with
  | mapP _ _ _ _ _ mb' n' es' hgm hh hsz hst hbl hnd hent hov =>
    subst hst
    have hgr : w.heap.size ≤ w'.heap.size := hr.grows
    have hbase : ctx.w0.heap.size ≤ w.heap.size := h.grows
    have hown : ∀ id o b m, look [(mid, Ob.mapP ks vm (some (j, .row q l.length)) (es'.toList.map (·.born)) ck'), (q, Ob.row e k l)] id = some o → g' id = some (b, m) → b < w'.heap.size ∧ (w.heap.size ≤ b ∨ b = mb ∨ ∃ c, blk j = some (b, c)) := fun id o b m ho hg => hr.own id o b m ho hg
    have hnew : ∀ b, (w.heap.size ≤ b ∨ b = mb ∨ ∃ c, blk j = some (b, c)) → ctx.w0.heap.size ≤ b ∨ ctx.K b := fun b hb => by
      rcases hb with hb | hb | ⟨c, hb⟩
      · exact .inl (by omega)
      · subst hb; exact h.lt.2
      · exact (h.own j b c hb).2.1
    have hkeep : ∀ i b c, i ≠ j → blk i = some (b, c) → w'.heap[b]? = w.heap[b]? := fun i b c hij hb => hr.keep b (h.own i b c hb).1 fun hk => by
      rcases hk with hk | ⟨c', hk⟩
      · exact (h.own i b c hb).2.2 hk
      · exact hij (h.inj i j b c c' hb hk)
    have hdiff : ∀ i b c, i ≠ j → blk i = some (b, c) → ¬ (w.heap.size ≤ b ∨ b = mb ∨ ∃ c, blk j = some (b, c)) := fun i b c hij hb hk => by
      rcases hk with hk | hk | ⟨c', hk⟩
      · have := (h.own i b c hb).1; omega
      · exact (h.own i b c hb).2.2 hk
      · exact hij (h.inj i j b c c' hb hk)
    refine ⟨mb', fun i => if i = j then g' q else blk i, es', hr.defers, hr.size, fun i p hp => ?_, ⟨n', hgm⟩, ⟨(hown mid _ mb' n' hlm hgm).1, hnew mb' (hown mid _ mb' n' hlm hgm).2⟩, hh, by rw [hsz, hvl], hbl, hnd, fun i ns' l' hi => ?_, fun i i' b c c' hi hi' => ?_, fun i b c hi => ?_, fun i hi => ?_, ?_, ?_, ?_, by omega, fun z hz hzK => ?_⟩
    · refine (hr.slots i p hp).keep ⟨Nat.le_refl _, fun _ _ _ => rfl⟩ (fun b hb _ => ⟨?_, fun eb => ?_, fun i' c hc => ?_⟩) (fun _ _ => rfl)
      · rcases hb.1 with h1 | h1
        · exact h1.1
        · have h1' : w.heap.size ≤ b := h1
          exact .inr (by omega)
      · subst eb; exact hb.2 mid _ n' hlm hgm
      · simp only at hc
        split at hc
        · exact hb.2 q _ c hlq hc
        · rcases hb.1 with h1 | h1
          · exact h1.2.2 i' c hc
          · have h1' : w.heap.size ≤ b := h1
            have := (h.own i' b c hc).1
            omega
    · by_cases hij : i = j
      · subst hij
        rw [hj] at hi
        cases hi
        obtain ⟨u, hu⟩ := hjv
        obtain ⟨x, r1, r2, r3, _, _⟩ := hent i _ u hu
        obtain ⟨x', s1, s2⟩ := hov i _ rfl
        rw [r1] at s1
        cases s1
        refine ⟨x, r1, r2, r3, ?_⟩
        simp only [if_true]
        have h2 := rd_row s2
        generalize hL : l.length = L at h2
        cases hr.objs q _ hlq with
        | rowNil _ _ hgq =>
          rw [hgq]
          rcases h2 with ⟨b, c, hgi, _⟩ | ⟨_, _, hv⟩
          · rw [hgq] at hgi; cases hgi
          · exact ⟨rfl, hv⟩
        | row _ _ _ b c cur hgq hc hlc hcap hcl hkk hrr =>
          rw [hgq]
          rcases h2 with ⟨b', c', hgi, hv⟩ | ⟨hgi, _, _⟩
          · rw [hgq] at hgi
            cases hgi
            subst hL
            refine ⟨hv, cur, hc, hlc, hcap, hcl, hkk, fun i' cs j' y hi' hy => ?_⟩
            obtain ⟨u', hu', hd⟩ := hrr i' cs j' y hi' hy
            obtain ⟨u2, rfl⟩ := hpl cs (List.mem_of_getElem? hi') y (List.mem_of_getElem? hy)
            cases hd with
            | v _ h1 => exact ⟨_, hu', rfl, h1⟩
          · rw [hgq] at hgi; cases hgi
      · obtain ⟨r0, x0, e0, r1⟩ := hvm i ns' l' hij hi
        obtain ⟨x, s1, s2, s3, s4, s5⟩ := hent i _ _ r1
        refine ⟨x, s1, s2, s3, ?_⟩
        have hxv := s5 fun p hp => by cases hp; exact hij rfl
        simp only [if_neg hij]
        obtain ⟨x', t1, _, _, t4⟩ := h.ent i ns' l' r0
        rw [e0] at t1
        cases t1
        rw [hxv]
        cases hb : blk i with
        | none => rw [hb] at t4; exact t4
        | some bc =>
          obtain ⟨b, c⟩ := bc
          rw [hb] at t4
          obtain ⟨hv, cur, hc, rest⟩ := t4
          exact ⟨hv, cur, by rw [hkeep i b c hij hb]; exact hc, rest⟩
    · have hi0 := hi
      have hi0' := hi'
      clear hi hi'
      have hi : (if i = j then g' q else blk i) = some (b, c) := hi0
      have hi' : (if i' = j then g' q else blk i') = some (b, c') := hi0'
      by_cases h1 : i = j <;> by_cases h2 : i' = j
      · rw [h1, h2]
      · rw [if_pos h1] at hi; rw [if_neg h2] at hi'
        exact (hdiff i' b c' h2 hi' (hown q _ b c hlq hi).2).elim
      · rw [if_neg h1] at hi; rw [if_pos h2] at hi'
        exact (hdiff i b c h1 hi (hown q _ b c' hlq hi').2).elim
      · rw [if_neg h1] at hi; rw [if_neg h2] at hi'
        exact h.inj i i' b c c' hi hi'
    · replace hi : (if i = j then g' q else blk i) = some (b, c) := hi
      by_cases h1 : i = j
      · rw [if_pos h1] at hi
        have := hown q _ b c hlq hi
        exact ⟨this.1, hnew b this.2, fun eb => by subst eb; exact hq (hr.inj mid q _ _ b n' c hlm hlq hgm hi)⟩
      · rw [if_neg h1] at hi
        have := h.own i b c hi
        exact ⟨by omega, this.2.1, fun eb => by subst eb; exact hdiff i b c h1 hi (hown mid _ b n' hlm hgm).2⟩
    · have hjl := (List.getElem?_eq_some_iff.1 hj).1
      simp only [if_neg (show i ≠ j by omega)]
      exact h.out i (by omega)
    · rw [← h.os]; exact hr.os
    · rw [← h.tape]; exact hr.tape
    · rw [← h.output]; exact hr.output
    · rw [← h.keep z hz hzK]
      refine hr.keep z (Nat.lt_of_lt_of_le hz hbase) fun hk => ?_
      rcases hk with hk | ⟨c, hk⟩
      · subst hk
        rcases h.lt.2 with h1 | h1
        · omega
        · exact hzK h1
      · rcases (h.own j z c hk).2.1 with h1 | h1
        · omega
        · exact hzK h1
/-- Out: nothing was touched. -/
theorem RelT.back0 (h : RelT ctx ks e k mid n sl R a w g mb blk es ck) {j : Nat} (hjn : blk j = none) {sl' : List (Nat × PV)} {a' : Act} {w' : World} {g' : Ghost} {bs' : List Nat} {ck' : Nat}
    (hr : RelG (ctxT ctx mb blk j w) g' ⟨n, sl', [(mid, .mapP ks (valsT R es) none bs' ck')]⟩ a' w') :
    ∃ mb' es', RelT ctx ks e k mid n sl' R a' w' g' mb' blk es' ck' := by
  have hlm : look [(mid, Ob.mapP ks (valsT R es) none bs' ck')] mid = some (.mapP ks (valsT R es) none bs' ck') := by simp [look]
  cases hr.objs mid _ hlm with
  | mapP _ _ _ _ _ mb' n' es' hgm hh hsz hst hbl hnd hent hov =>
    subst hst
    have hgr : w.heap.size ≤ w'.heap.size := hr.grows
    have hbase : ctx.w0.heap.size ≤ w.heap.size := h.grows
    have hown : mb' < w'.heap.size ∧ (w.heap.size ≤ mb' ∨ mb' = mb ∨ ∃ c, blk j = some (mb', c)) := hr.own mid _ mb' n' hlm hgm
    have hown2 : w.heap.size ≤ mb' ∨ mb' = mb := by
      rcases hown.2 with h1 | h1 | ⟨c, h1⟩
      · exact .inl h1
      · exact .inr h1
      · rw [hjn] at h1; cases h1
    have hkeep : ∀ i b c, blk i = some (b, c) → w'.heap[b]? = w.heap[b]? := fun i b c hb => hr.keep b (h.own i b c hb).1 fun hk => by
      rcases hk with hk | ⟨c', hk⟩
      · exact (h.own i b c hb).2.2 hk
      · rw [hjn] at hk; cases hk
    refine ⟨mb', es', hr.defers, hr.size, fun i p hp => ?_, ⟨n', hgm⟩, ⟨hown.1, ?_⟩, hh, by rw [hsz, valsT_len h.sz], hbl, hnd, fun i ns' l' hi => ?_, h.inj, fun i b c hi => ?_, h.out, ?_, ?_, ?_, by omega, fun z hz hzK => ?_⟩
    · refine (hr.slots i p hp).keep ⟨Nat.le_refl _, fun _ _ _ => rfl⟩ (fun b hb _ => ⟨?_, fun eb => ?_, fun i' c hc => ?_⟩) (fun _ _ => rfl)
      · rcases hb.1 with h1 | h1
        · exact h1.1
        · have h1' : w.heap.size ≤ b := h1
          exact .inr (by omega)
      · subst eb; exact hb.2 mid _ n' hlm hgm
      · rcases hb.1 with h1 | h1
        · exact h1.2.2 i' c hc
        · have h1' : w.heap.size ≤ b := h1
          have := (h.own i' b c hc).1
          omega
    · rcases hown2 with h1 | h1
      · exact .inl (by omega)
      · rw [h1]; exact h.lt.2
    · obtain ⟨x', t1, t2, t3, t4⟩ := h.ent i ns' l' hi
      obtain ⟨x, s1, s2, s3, s4, s5⟩ := hent i _ _ (valsT_of hi t1)
      refine ⟨x, s1, s2, s3, ?_⟩
      rw [s5 fun p hp => by cases hp]
      cases hb : blk i with
      | none => rw [hb] at t4; exact t4
      | some bc =>
        obtain ⟨b, c⟩ := bc
        rw [hb] at t4
        obtain ⟨hv, cur, hc, rest⟩ := t4
        exact ⟨hv, cur, by rw [hkeep i b c hb]; exact hc, rest⟩
    · have := h.own i b c hi
      refine ⟨by omega, this.2.1, fun eb => ?_⟩
      rcases hown2 with h1 | h1
      · omega
      · exact this.2.2 (by rw [eb, h1])
    · rw [← h.os]; exact hr.os
    · rw [← h.tape]; exact hr.tape
    · rw [← h.output]; exact hr.output
    · rw [← h.keep z hz hzK]
      refine hr.keep z (Nat.lt_of_lt_of_le hz hbase) fun hk => ?_
      rcases hk with hk | ⟨c, hk⟩
      · subst hk
        rcases h.lt.2 with h1 | h1
        · omega
        · exact hzK h1
      · rw [hjn] at hk; cases hk
end
end

/-! ### The loop -/
section
variable {P : Program} {ctx : Ctx} {ks : List IntKind} {e : TypeId} {k mid n : Nat} {Q : PQ} {s : PState} {c : Code}
/-- What a round does: a row that is there grows; a new one comes; nothing. -/
inductive RoundT (P : Program) (c : Code) (ks : List IntKind) (e : TypeId) (k mid n : Nat) (sl : List (Nat × PV)) (R : RowsM) (sl' : List (Nat × PV)) (R' : RowsM) : Prop
  | found {j nl nl' : Nat} {ns : List Int} {l l' : List (List DV)} (hl : nl = l.length) (hl' : nl' = l'.length) (hj : R[j]? = some (ns, l)) (hR : R' = R.set j (ns, l'))
      (h : ∀ (ctx : Ctx) (vm : List (List Int × Value)) (bs : List Nat) (ck : Nat), vm.map (·.1) = R.map (·.1) → PWc P ctx c (fun x t => x = .normal ∧ Sub ctx t ⟨n, sl', [(mid, .mapP ks vm (some (j, .row 50 nl')) bs ck), (50, .row e k l')]⟩) ⟨n, sl, [(mid, .mapP ks vm (some (j, .row 50 nl)) bs ck), (50, .row e k l)]⟩)
  | fresh {q nl' : Nat} {ns : List Int} {l' : List (List DV)} (hl' : nl' = l'.length) (hq : mid ≠ q) (hR : R' = R ++ [(ns, l')])
      (h : ∀ (ctx : Ctx) (vm : List (List Int × Value)) (bs : List Nat) (ck : Nat), vm.map (·.1) = R.map (·.1) → PWc P ctx c (fun x t => x = .normal ∧ Sub ctx t ⟨n, sl', [(mid, .mapP ks (vm ++ [(ns, undef)]) (some (vm.length, .row q nl')) (bs ++ [ck]) (ck + 1)), (q, .row e k l')]⟩) ⟨n, sl, [(mid, .mapP ks vm none bs ck)]⟩)
  | skip (hR : R' = R) (h : ∀ (ctx : Ctx) (vm : List (List Int × Value)) (bs : List Nat) (ck : Nat), PWc P ctx c (fun x t => x = .normal ∧ Sub ctx t ⟨n, sl', [(mid, .mapP ks vm none bs ck)]⟩) ⟨n, sl, [(mid, .mapP ks vm none bs ck)]⟩)

theorem RoundT.run {sl sl' : List (Nat × PV)} {R R' : RowsM} (hr : RoundT P c ks e k mid n sl R sl' R') (hm : mid ≠ 50) (hnm : ∀ x ∈ sl, ∀ id, x.2.has id = true → id = mid) (hpl : ∀ p ∈ R', PlainL p.2)
    {a : Act} {w : World} {g : Ghost} {mb : Nat} {blk : Nat → Option (Nat × Nat)} {es : Array MapEntry} {ck : Nat} (h : RelT ctx ks e k mid n sl R a w g mb blk es ck) :
    c.wp P (fun x a' w' => x = .normal ∧ ∃ g' mb' blk' es' ck', RelT ctx ks e k mid n sl' R' a' w' g' mb' blk' es' ck') a w := by
  cases hr with
  | @found j nl nl' ns l l' hl hl' hj hR hw =>
    subst hl hl'
    refine wp_mono (hw (ctxT ctx mb blk j w) (valsT R es) (es.toList.map (·.born)) ck (valsT_fst h.sz) a w ⟨_, h.found hnm hm hj⟩) fun x a' w' ⟨t, ⟨hx, hs⟩, ht⟩ => ⟨hx, ?_⟩
    obtain ⟨g', hg'⟩ := hs a' w' ht
    subst hR
    have hjl := (List.getElem?_eq_some_iff.1 hj).1
    obtain ⟨x0, e0, _, _, _⟩ := h.ent j ns l hj
    have hj' : (R.set j (ns, l'))[j]? = some (ns, l') := by rw [List.getElem?_set_self hjl]
    obtain ⟨mb', blk', es', hT⟩ := h.back (R' := R.set j (ns, l')) (vm := valsT R es) (q := 50) hm (by simp) (by rw [valsT_len h.sz]; simp) hj' ⟨x0.val, valsT_of hj e0⟩ (fun i ns' l2 hij hi => by
      rw [List.getElem?_set_ne (Ne.symm hij)] at hi
      obtain ⟨x1, e1, _⟩ := h.ent i ns' l2 hi
      exact ⟨hi, x1, e1, valsT_of hi e1⟩) (hpl _ (List.mem_of_getElem? hj')) hg'
    exact ⟨g', mb', blk', es', _, hT⟩
  | @fresh q nl' ns l' hl' hq hR hw =>
    subst hl'
    refine wp_mono (hw (ctxT ctx mb blk R.length w) (valsT R es) (es.toList.map (·.born)) ck (valsT_fst h.sz) a w ⟨_, h.fresh R.length⟩) fun x a' w' ⟨t, ⟨hx, hs⟩, ht⟩ => ⟨hx, ?_⟩
    obtain ⟨g', hg'⟩ := hs a' w' ht
    subst hR
    have hj' : (R ++ [(ns, l')])[R.length]? = some (ns, l') := by simp
    rw [valsT_len h.sz] at hg'
    obtain ⟨mb', blk', es', hT⟩ := h.back (R' := R ++ [(ns, l')]) (j := R.length) (vm := valsT R es ++ [(ns, undef)]) (q := q) hq (by simp) (by simp [valsT_len h.sz]) hj' ⟨undef, by rw [List.getElem?_append_right (by rw [valsT_len h.sz]; exact Nat.le_refl _)]; simp [valsT_len h.sz]⟩ (fun i ns' l2 hij hi => by
      have hil : i < R.length := by
        have := (List.getElem?_eq_some_iff.1 hi).1
        simp at this
        omega
      rw [List.getElem?_append_left hil] at hi
      obtain ⟨x1, e1, _⟩ := h.ent i ns' l2 hi
      exact ⟨hi, x1, e1, by rw [List.getElem?_append_left (by rw [valsT_len h.sz]; exact hil)]; exact valsT_of hi e1⟩) (hpl _ (List.mem_of_getElem? hj')) hg'
    exact ⟨g', mb', blk', es', _, hT⟩
  | skip hR hw =>
    refine wp_mono (hw (ctxT ctx mb blk R.length w) (valsT R es) (es.toList.map (·.born)) ck a w ⟨_, h.fresh R.length⟩) fun x a' w' ⟨t, ⟨hx, hs⟩, ht⟩ => ⟨hx, ?_⟩
    obtain ⟨g', hg'⟩ := hs a' w' ht
    subst hR
    obtain ⟨mb', es', hT⟩ := h.back0 (h.out _ (Nat.le_refl _)) hg'
    exact ⟨g', mb', blk, es', _, hT⟩

theorem PWc.loopRows {bid N : Nat} (J : Nat → List (Nat × PV)) (R : Nat → RowsM) (Jf : List (Nat × PV)) (bs0 : List Nat) (ck0 : Nat) (hK : ∀ b, ctx.K b → ctx.S b) (hm : mid ≠ 50) (hJ : ∀ i, ∀ x ∈ J i, ∀ id, x.2.has id = true → id = mid)
    (h0 : R 0 = []) (hpl : ∀ i, ∀ p ∈ R i, PlainL p.2) (hs : Sub ctx s ⟨n, J 0, [(mid, .map ks false [] bs0 ck0)]⟩)
    (round : ∀ i, i < N → RoundT P c ks e k mid n (J i) (R i) (J (i + 1)) (R (i + 1)))
    (mf : Mp) (hmf : rowsM (R N) = mf) (last : ∀ (ctx : Ctx) (vm : List (List Int × Value)) (bs : List Nat) (ck : Nat), PWc P ctx c (fun x t => x = .exit bid ∧ Sub ctx t ⟨n, Jf, [(mid, .mapP ks vm none bs ck)]⟩) ⟨n, J N, [(mid, .mapP ks vm none bs ck)]⟩)
    (hQ : ∀ bs ck, Q (.exit bid) ⟨n, Jf, [(mid, .map ks false mf bs ck)]⟩) : PWc P ctx (.loop c) Q s := by
  subst hmf
  intro a w hr
  refine LoopAt.loop ?_
  have key : ∀ d i, i + d = N → ∀ a w g mb blk es ck, RelT ctx ks e k mid n (J i) (R i) a w g mb blk es ck → LoopAt P c (lift ctx Q) a w := by
    intro d
    induction d with
    | zero =>
      intro i hi a w g mb blk es ck h
      have : i = N := by omega
      subst this
      refine LoopAt.step (wp_mono (last (ctxT ctx mb blk (R i).length w) (valsT (R i) es) (es.toList.map (·.born)) ck a w ⟨_, h.fresh (R i).length⟩) fun x a' w' ⟨t, ⟨hx, hsb⟩, ht⟩ => ?_)
      obtain ⟨g', hg'⟩ := hsb a' w' ht
      obtain ⟨mb', es', hT⟩ := h.back0 (h.out _ (Nat.le_refl _)) hg'
      subst hx
      exact ⟨_, hQ _ _, g', hT.done hK⟩
    | succ d ih =>
      intro i hi a w g mb blk es ck h
      refine LoopAt.step (wp_mono ((round i (by omega)).run hm (hJ i) (hpl (i + 1)) h) fun x a' w' ⟨hx, g', mb', blk', es', ck', hT⟩ => ?_)
      subst hx
      exact ih (i + 1) (by omega) a' w' g' mb' blk' es' ck' hT
  obtain ⟨g, hg⟩ := hs a w hr
  obtain ⟨mb, es, ck, hT⟩ := RelT.start (e := e) (k := k) hg
  rw [← h0] at hT
  exact key N 0 (by omega) a w g mb _ es ck hT
end

/-! ### Typed rows -/
section
variable {κ α : Type} {eK : κ → List Int} {enc : α → List DV}
def rowsOf (eK : κ → List Int) (enc : α → List DV) (m : List (κ × List α)) : RowsM := m.map fun x => (eK x.1, x.2.map enc)
theorem rowsM_of (m : List (κ × List α)) : rowsM (rowsOf eK enc m) = encM eK (eL enc) m := by simp [rowsM, rowsOf, encM, eL]
theorem rowsOf_plain (h : ∀ x, ∀ d ∈ enc x, ∃ u, d = DV.v u) (m : List (κ × List α)) : ∀ p ∈ rowsOf eK enc m, PlainL p.2 := by
  intro p hp cs hcs d hd
  simp only [rowsOf, List.mem_map] at hp
  obtain ⟨x, _, rfl⟩ := hp
  obtain ⟨y, _, rfl⟩ := List.mem_map.1 hcs
  exact h y d hd
variable [DecidableEq κ]
theorem keysP_fst {vm : List (List Int × Value)} {R : RowsM} (h : vm.map (·.1) = R.map (·.1)) : keysP vm = R.map fun x => (x.1, []) := by
  have e1 : keysP vm = (vm.map (·.1)).map fun k => (k, []) := by simp [keysP]
  rw [e1, h]; simp
theorem pfind_rows (inj : ∀ a b, eK a = eK b → a = b) (q : κ) : ∀ m : List (κ × List α),
    (∃ j l, pfind (eK q) ((rowsOf eK enc m).map fun x => (x.1, ([] : List DV))) 0 = some j ∧ (rowsOf eK enc m)[j]? = some (eK q, l.map enc) ∧ AL.getZ m q [] = l ∧ ∀ l', rowsOf eK enc (AL.set m q l') = (rowsOf eK enc m).set j (eK q, l'.map enc)) ∨
    (pfind (eK q) ((rowsOf eK enc m).map fun x => (x.1, ([] : List DV))) 0 = none ∧ AL.getZ m q [] = [] ∧ ∀ l', rowsOf eK enc (AL.set m q l') = rowsOf eK enc m ++ [(eK q, l'.map enc)])
  | [] => .inr ⟨rfl, rfl, fun _ => rfl⟩
  | (k, v) :: r => by
    by_cases h : k = q
    · subst h
      refine .inl ⟨0, v, ?_, rfl, ?_, fun l' => ?_⟩
      · show (if eK k = eK k then _ else _) = _
        rw [if_pos rfl]
      · simp [AL.getZ, AL.get]
      · simp [rowsOf, AL.set]
    · have he : ¬ eK k = eK q := fun e => h (inj _ _ e)
      have hp : pfind (eK q) ((rowsOf eK enc ((k, v) :: r)).map fun x => (x.1, ([] : List DV))) 0 = (pfind (eK q) ((rowsOf eK enc r).map fun x => (x.1, ([] : List DV))) 0).map (1 + ·) := by
        show (if eK k = eK q then _ else _) = _
        rw [if_neg he, pfind_shift]
        rfl
      have hg : AL.getZ ((k, v) :: r) q [] = AL.getZ r q [] := by simp [AL.getZ, AL.get, h]
      rcases pfind_rows inj q r with ⟨j, l, h1, h2, h3, h4⟩ | ⟨h1, h2, h3⟩
      · refine .inl ⟨1 + j, l, by rw [hp, h1]; rfl, ?_, by rw [hg, h3], fun l' => ?_⟩
        · rw [Nat.add_comm]; exact h2
        · rw [Nat.add_comm]
          have := h4 l'
          simp only [AL.set, h, if_false]
          show _ :: rowsOf eK enc (AL.set r q l') = _ :: _
          rw [this]; rfl
      · refine .inr ⟨by rw [hp, h1]; rfl, by rw [hg, h2], fun l' => ?_⟩
        simp only [AL.set, h, if_false]
        show _ :: rowsOf eK enc (AL.set r q l') = _ :: _
        rw [h3 l']; rfl
end
namespace AL
variable {κ α β : Type} [DecidableEq κ]
theorem getZ_setT {ν : Type} (m : List (κ × ν)) (k q : κ) (v z : ν) : getZ (set m k v) q z = if k = q then v else getZ m q z := by
  induction m with
  | nil => by_cases h : k = q <;> simp [getZ, set, get, h]
  | cons x r ih =>
    obtain ⟨a, u⟩ := x
    by_cases ha : a = k
    · subst ha
      by_cases h : a = q <;> simp [getZ, set, get, h]
    · simp only [set, ha, if_false]
      by_cases h : a = q
      · subst h
        have : ¬ k = a := fun e => ha e.symm
        simp [getZ, get, this]
      · have e1 : getZ ((a, u) :: set r k v) q z = getZ (set r k v) q z := by simp [getZ, get, h]
        have e2 : getZ ((a, u) :: r) q z = getZ r q z := by simp [getZ, get, h]
        rw [e1, e2]; exact ih
theorem grow_append (m l l' : List (κ × List α)) : grow m (l ++ l') = grow (grow m l) l' := by simp [grow]
theorem grow_take {c : List β} {i : Nat} {p : β} (hp : c[i]? = some p) (f : β → Option (κ × List α)) : grow ([] : List (κ × List α)) ((c.take (i + 1)).filterMap f) = grow (grow [] ((c.take i).filterMap f)) (f p).toList := by
  rw [List.take_add_one, hp, List.filterMap_append, grow_append]
  cases h : f p <;> simp [h]
theorem grow_len (q : κ) (l : List (κ × List α)) : ∀ m : List (κ × List α), (getZ (grow m l) q []).length ≤ (getZ m q []).length + (l.map fun x => x.2.length).sum := by
  induction l with
  | nil => intro m; simp [grow]
  | cons x r ih =>
    intro m
    have h1 := ih (set m x.1 (getZ m x.1 [] ++ x.2))
    rw [getZ_setT] at h1
    show (getZ (grow (set m x.1 (getZ m x.1 [] ++ x.2)) r) q []).length ≤ _
    simp only [List.map_cons, List.sum_cons]
    by_cases h : x.1 = q
    · subst h
      rw [if_pos rfl, List.length_append] at h1
      omega
    · rw [if_neg h] at h1
      omega
theorem grow_bound {c : List β} {i n bs : Nat} {p : β} {x : κ × List α} {f : β → Option (κ × List α)} (hB : growOK bs n (c.filterMap f)) (hp : c[i]? = some p) (hf : f p = some x) :
    ((getZ (grow [] ((c.take i).filterMap f)) x.1 []).length + x.2.length) * bs ≤ 140737488355328 := by
  have h1 := grow_len x.1 ((c.take i).filterMap f) []
  have h2 : c = c.take i ++ p :: c.drop (i + 1) := by
    have hlt := (List.getElem?_eq_some_iff.1 hp).1
    have : c[i] = p := (List.getElem?_eq_some_iff.1 hp).2
    rw [← this, ← List.drop_eq_getElem_cons hlt, List.take_append_drop]
  have h3 : ((c.filterMap f).map fun x => x.2.length).sum = (((c.take i).filterMap f).map fun x => x.2.length).sum + (x.2.length + (((c.drop (i + 1)).filterMap f).map fun x => x.2.length).sum) := by
    conv => lhs; rw [h2]
    simp [List.filterMap_append, List.filterMap_cons, hf]
  have h4 : (getZ ([] : List (κ × List α)) x.1 []).length = 0 := by simp [getZ, get]
  refine Nat.le_trans (Nat.mul_le_mul_right bs ?_) hB.2
  omega
end AL
theorem evSame {s s' : PState} (h1 : s'.n = s.n) (h2 : s'.sl = s.sl) {y : Operand} {q : PV} (h : s.ev y = some q) : s'.ev y = some q := by
  cases y with
  | tmp t => show s'.at t = _; unfold PState.at; rw [h1, h2]; exact h
  | const v => cases v <;> exact h
  | func f => exact h
  | global g => exact h
theorem evObjs {s : PState} {objs : List (Nat × Ob)} {y : Operand} {q : PV} (h : s.ev y = some q) : ({ s with objs := objs } : PState).ev y = some q := evSame (s := s) rfl rfl h
theorem fresh_alone {s : PState} {id : Nat} {e k : Nat} {l : List (List DV)} (h : s.fresh id = true) : ({ s with objs := putO id (.row e k l) s.objs } : PState).alone id = true := by
  unfold PState.fresh at h
  unfold PState.alone
  rw [Bool.and_eq_true] at h ⊢
  refine ⟨h.1, List.all_eq_true.2 fun x hx => ?_⟩
  obtain ⟨xk, xo⟩ := x
  rcases putO_mem hx with h3 | h3
  · cases h3; rfl
  · have := List.all_eq_true.1 h.2 _ h3
    simp only [Bool.and_eq_true] at this
    exact this.2
theorem idxU {α : Type} {l : List α} {i : Int} {x y : α} (h1 : 0 ≤ i ∧ l[i.toNat]? = some x) (h2 : 0 ≤ i ∧ l[i.toNat]? = some y) : x = y := by have := h1.2.symm.trans h2.2; cases this; rfl
theorem detU {α : Type} {m : M α} {x y : α} (h1 : m.wp (· = x)) (h2 : m.wp (· = y)) : x = y := by obtain ⟨z, h3, h4⟩ := m.meet h1 h2; rw [← h3, h4]
theorem wrapNat {i : Nat} (h : i < 9223372036854775807) : IntKind.i64.wrap ((i : Int) + 1) = ((i + 1 : Nat) : Int) := by rw [wrap_i64 (by omega) (by omega)]; rfl
end Go.Ep

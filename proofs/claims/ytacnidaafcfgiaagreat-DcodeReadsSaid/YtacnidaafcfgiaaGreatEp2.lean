/- Walks over pure states: the rules for memory. No program in sight. -/
import Derived.Test.YtacnidaafcfgiaaGreatEp1
namespace Go.Ep
open Go.RowKit

def upd (g : Ghost) (id : Nat) (v : Option (Nat × Nat)) : Ghost := fun j => if j = id then v else g j
theorem upd_same (g : Ghost) (id : Nat) (v : Option (Nat × Nat)) : upd g id v id = v := by simp [upd]
theorem upd_ne {g : Ghost} {id j : Nat} {v : Option (Nat × Nat)} (h : j ≠ id) : upd g id v j = g j := by simp [upd, h]

/-- Does no entry that counts name the id? -/
def chkS (id : Nat) (full : List (Nat × PV)) : List (Nat × PV) → Bool
  | [] => true
  | (k, p) :: r => bif p.has id then (match getS full k with | some q => !q.has id | none => true) && chkS id full r else chkS id full r
theorem chkS_mem {id : Nat} {full : List (Nat × PV)} : ∀ {l : List (Nat × PV)} {k : Nat} {p q : PV}, chkS id full l = true → (k, p) ∈ l → getS full k = some q → p.has id = true → q.has id = false
  | [], _, _, _, _, hm, _, _ => by simp at hm
  | (k', p') :: r, k, p, q, h, hm, hg, hp => by
    unfold chkS at h
    rcases List.mem_cons.1 hm with e | hm
    · cases e
      rw [hp, hg] at h
      simp at h
      exact h.1
    · cases hb : p'.has id with
      | true => rw [hb] at h; simp only [cond_true, Bool.and_eq_true] at h; exact chkS_mem h.2 hm hg hp
      | false => rw [hb] at h; exact chkS_mem h hm hg hp
theorem chkS_at {s : PState} {id : Nat} (h : chkS id s.sl s.sl = true) {i : Nat} {p : PV} (hp : s.at i = some p) : p.has id = false := by
  have hg := at_get hp
  cases hb : p.has id with
  | false => rfl
  | true => rw [← hb]; exact chkS_mem h (getS_mem hg) hg hb

/-- No slot and no object names the id. -/
def PState.fresh (s : PState) (id : Nat) : Bool := chkS id s.sl s.sl && s.objs.all (fun x => x.1 != id && !x.2.has id)

theorem look_mem : ∀ {l : List (Nat × Ob)} {id : Nat} {o : Ob}, look l id = some o → (id, o) ∈ l
  | [], _, _, h => by simp [look] at h
  | (k, p) :: r, id, o, h => by
    unfold look at h
    by_cases hk : id = k
    · subst hk; simp at h; subst h; simp
    · simp only [hk, if_false] at h; exact List.mem_cons_of_mem _ (look_mem h)

theorem fresh_slot {s : PState} {id : Nat} (h : s.fresh id = true) {i : Nat} {p : PV} (hp : s.at i = some p) : p.has id = false := by
  simp only [PState.fresh, Bool.and_eq_true] at h
  exact chkS_at h.1 hp
theorem fresh_look {s : PState} {id : Nat} (h : s.fresh id = true) : look s.objs id = none := by
  simp only [PState.fresh, Bool.and_eq_true, List.all_eq_true] at h
  cases hl : look s.objs id with
  | none => rfl
  | some o => have := h.2 _ (look_mem hl); simp at this
theorem fresh_obj {s : PState} {id : Nat} (h : s.fresh id = true) {j : Nat} {o : Ob} (ho : look s.objs j = some o) : o.has id = false := by
  simp only [PState.fresh, Bool.and_eq_true, List.all_eq_true] at h
  have := h.2 _ (look_mem ho)
  simpa using this.2

section
variable {P : Program} {ctx : Ctx} {Q : PQ} {s : PState}

/-- A world in which no old block has changed. -/
theorem RelG.below {g : Ghost} {a : Act} {w w' : World} (h : RelG ctx g s a w) (hb : Below w.heap.size w w') : RelG ctx g s a w' := by
  have hst : Stays w w' (Free ctx g s.objs) := ⟨hb.size, fun b _ hlt => hb.block b hlt⟩
  refine ⟨h.defers, h.size, fun i p hp => (h.slots i p hp).keep hst (fun _ hb _ => hb) (fun _ _ => rfl), ?_, h.inj, ?_, hb.os.trans h.os, hb.tape.trans h.tape, hb.output.trans h.output, Nat.le_trans h.grows hb.size, ?_⟩
  · intro id o hl
    exact (h.objs id o hl).keep hst (fun _ hb _ => hb) (fun b n hg => hb.block b (h.own id o b n hl hg).1) rfl (fun _ _ => rfl)
  · intro id o b n hl hg
    have := h.own id o b n hl hg
    exact ⟨Nat.lt_of_lt_of_le this.1 hb.size, this.2⟩
  · intro k hk hK
    rw [hb.block k (Nat.lt_of_lt_of_le hk h.grows)]
    exact h.keep k hk hK

/-- A new object: in a new block, or (a nil slice) in none. -/
theorem RelG.new {g : Ghost} {a : Act} {w w' : World} (h : RelG ctx g s a w) (hb : Below w.heap.size w w') {id : Nat} (hf : s.fresh id = true) (gv : Option (Nat × Nat))
    (hgv : ∀ b n, gv = some (b, n) → w.heap.size ≤ b ∧ b < w'.heap.size) (ob : Ob)
    (ho : ObRd w' (upd g id gv) (Free ctx (upd g id gv) (putO id ob s.objs)) id ob) : RelG ctx (upd g id gv) { s with objs := putO id ob s.objs } a w' := by
  have h' := h.below hb
  have hF : ∀ b, Free ctx g s.objs b → b < w.heap.size → Free ctx (upd g id gv) (putO id ob s.objs) b := by
    intro b ⟨h1, h2⟩ hlt
    refine ⟨h1, fun j o n hl hg => ?_⟩
    rw [look_putO] at hl
    by_cases hj : j = id
    · subst hj
      rw [upd_same] at hg
      have := (hgv b n hg).1
      omega
    · rw [if_neg hj] at hl
      rw [upd_ne hj] at hg
      exact h2 j o n hl hg
  have hst : Stays w w' (Free ctx g s.objs) := ⟨hb.size, fun b _ hlt => hb.block b hlt⟩
  have hne : ∀ {i : Nat} {p : PV}, s.at i = some p → ∀ j, p.has j = true → upd g id gv j = g j := fun hp j hj => upd_ne fun e => by
    subst e; rw [fresh_slot hf hp] at hj; cases hj
  refine ⟨h.defers, h.size, fun i p hp => (h.slots i p hp).keep hst hF (hne hp), ?_, ?_, ?_, h'.os, h'.tape, h'.output, h'.grows, h'.keep⟩
  · intro j o hl
    rw [look_putO] at hl
    by_cases hj : j = id
    · subst hj
      rw [if_pos rfl] at hl
      cases hl
      exact ho
    · rw [if_neg hj] at hl
      refine (h.objs j o hl).keep hst hF (fun b n hg => hb.block b (h.own j o b n hl hg).1) (upd_ne hj) (fun i hi => upd_ne fun e => ?_)
      subst e; rw [fresh_obj hf hl] at hi; cases hi
  · intro i j oi oj b n m hi hj hgi hgj
    rw [look_putO] at hi hj
    by_cases h1 : i = id <;> by_cases h2 : j = id
    · exact h1.trans h2.symm
    · subst h1
      rw [upd_same] at hgi
      rw [if_neg h2] at hj
      rw [upd_ne h2] at hgj
      have := (hgv b n hgi).1
      have := (h.own j oj b m hj hgj).1
      omega
    · subst h2
      rw [upd_same] at hgj
      rw [if_neg h1] at hi
      rw [upd_ne h1] at hgi
      have := (hgv b m hgj).1
      have := (h.own i oi b n hi hgi).1
      omega
    · rw [if_neg h1] at hi
      rw [if_neg h2] at hj
      rw [upd_ne h1] at hgi
      rw [upd_ne h2] at hgj
      exact h.inj i j oi oj b n m hi hj hgi hgj
  · intro j o b n hl hg
    rw [look_putO] at hl
    by_cases hj : j = id
    · subst hj
      rw [upd_same] at hg
      have := hgv b n hg
      exact ⟨this.2, .inl (Nat.le_trans h.grows this.1)⟩
    · rw [if_neg hj] at hl
      rw [upd_ne hj] at hg
      exact h'.own j o b n hl hg

/-- An object's own block has been written, nothing else. -/
theorem RelG.wrote {g : Ghost} {a : Act} {w w' : World} (h : RelG ctx g s a w) {id blk n : Nat} {o0 ob : Ob} (hl : look s.objs id = some o0) (hgi : g id = some (blk, n))
    (hos : w'.os = w.os) (htape : w'.tape = w.tape) (hout : w'.output = w.output) (hsize : w.heap.size ≤ w'.heap.size) (hother : ∀ k, k < w.heap.size → k ≠ blk → w'.heap[k]? = w.heap[k]?)
    (hblk : ctx.w0.heap.size ≤ blk ∨ ctx.K blk)
    (ho : ObRd w' g (Free ctx g (putO id ob s.objs)) id ob) : RelG ctx g { s with objs := putO id ob s.objs } a w' := by
  have hF : ∀ b, Free ctx g s.objs b → Free ctx g (putO id ob s.objs) b := by
    intro b ⟨h1, h2⟩
    refine ⟨h1, fun j o m hj hg => ?_⟩
    rw [look_putO] at hj
    by_cases e : j = id
    · subst e; exact h2 j o0 m hl hg
    · rw [if_neg e] at hj; exact h2 j o m hj hg
  have hst : Stays w w' (Free ctx g s.objs) := ⟨hsize, fun b ⟨_, h2⟩ hlt => hother b hlt fun e => by subst e; exact h2 id o0 n hl hgi⟩
  refine ⟨h.defers, h.size, fun i p hp => (h.slots i p hp).keep hst (fun b hb _ => hF b hb) (fun _ _ => rfl), ?_, ?_, ?_, hos.trans h.os, htape.trans h.tape, hout.trans h.output, Nat.le_trans h.grows hsize, ?_⟩
  · intro j o hj
    rw [look_putO] at hj
    by_cases e : j = id
    · subst e; rw [if_pos rfl] at hj; cases hj; exact ho
    · rw [if_neg e] at hj
      exact (h.objs j o hj).keep hst (fun b hb _ => hF b hb) (fun b m hg => hother b (h.own j o b m hj hg).1 fun eb => e (h.inj j id o o0 b m n hj hl hg (by rw [hgi, eb]))) rfl (fun _ _ => rfl)
  · intro i j oi oj b m m' hi hj hgi' hgj'
    rw [look_putO] at hi hj
    have hi' : ∃ o, look s.objs i = some o := by
      by_cases e : i = id
      · subst e; exact ⟨o0, hl⟩
      · rw [if_neg e] at hi; exact ⟨oi, hi⟩
    have hj' : ∃ o, look s.objs j = some o := by
      by_cases e : j = id
      · subst e; exact ⟨o0, hl⟩
      · rw [if_neg e] at hj; exact ⟨oj, hj⟩
    obtain ⟨p, hp⟩ := hi'
    obtain ⟨q, hq⟩ := hj'
    exact h.inj i j p q b m m' hp hq hgi' hgj'
  · intro j o b m hj hg
    have hj' : ∃ o, look s.objs j = some o := by
      rw [look_putO] at hj
      by_cases e : j = id
      · subst e; exact ⟨o0, hl⟩
      · rw [if_neg e] at hj; exact ⟨o, hj⟩
    obtain ⟨q, hq⟩ := hj'
    have := h.own j q b m hq hg
    exact ⟨Nat.lt_of_lt_of_le this.1 hsize, this.2⟩
  · intro k hk hK
    have hne : k ≠ blk := fun e => by
      subst e
      rcases hblk with h1 | h1
      · omega
      · exact hK h1
    rw [hother k (Nat.lt_of_lt_of_le hk h.grows) hne]
    exact h.keep k hk hK

variable {dst : Option Tmp} {ty : TypeId} {pos : String} {after : Array Edge} {gd : Option (Nat × Bool)}

/-! ### Lengths -/
theorem LR.lenSl {x : Operand} {l : List (List DV)} {t e : TypeId} (hu : P.underlying t = some (.slice e)) (hx : s.ev x = some (.d (.sl l))) :
    Local P ctx ⟨dst, .call ⟨.builtin .len, #[x], #[t]⟩, ty, pos, after, gd⟩ s (s.putD dst (.d (.v (.int .i64 l.length)))) :=
  local_pure (o := ⟨dst, .call ⟨.builtin .len, #[x], #[t]⟩, ty, pos, after, gd⟩) fun a w g hg => by
    have h := hg.ev hx
    have hE : P.underlying t = some (.slice (P.elem t)) := by simp [Program.elem, hu]
    refine ⟨.int .i64 l.length, ?_, .d (.v _ rfl)⟩
    cases h with
    | d h =>
      generalize hv : a.eval x = v at h
      cases h <;> simp [execOp, resolve, invoke, builtin, hv, run_len_slice, hE, Result.andThen, goInt]
theorem LR.lenRow {x : Operand} {id n : Nat} {t e : TypeId} (hu : P.underlying t = some (.slice e)) (hx : s.ev x = some (.row id n)) :
    Local P ctx ⟨dst, .call ⟨.builtin .len, #[x], #[t]⟩, ty, pos, after, gd⟩ s (s.putD dst (.d (.v (.int .i64 n)))) :=
  local_pure (o := ⟨dst, .call ⟨.builtin .len, #[x], #[t]⟩, ty, pos, after, gd⟩) fun a w g hg => by
    have h := hg.ev hx
    have hE : P.underlying t = some (.slice (P.elem t)) := by simp [Program.elem, hu]
    refine ⟨.int .i64 n, ?_, .d (.v _ rfl)⟩
    generalize hv : a.eval x = v at h
    cases h <;> simp [execOp, resolve, invoke, builtin, hv, run_len_slice, hE, Result.andThen, goInt]
theorem LR.lenStr {x : Operand} {b : ByteArray} {t : TypeId} (hu : P.underlying t = some .string) (hx : s.ev x = some (.d (.v (.string b)))) :
    Local P ctx ⟨dst, .call ⟨.builtin .len, #[x], #[t]⟩, ty, pos, after, gd⟩ s (s.putD dst (.d (.v (.int .i64 b.size)))) :=
  local_pure (o := ⟨dst, .call ⟨.builtin .len, #[x], #[t]⟩, ty, pos, after, gd⟩) fun a w g hg =>
    ⟨.int .i64 b.size, by simp [execOp, resolve, invoke, builtin, ev_v hg hx, run_len_string, hu, Result.andThen, goInt], .d (.v _ rfl)⟩

theorem LR.maxI {x y : Operand} {k : IntKind} {m n : Int} {ts : Array TypeId} (hx : s.ev x = some (.d (.v (.int k m)))) (hy : s.ev y = some (.d (.v (.int k n)))) :
    Local P ctx ⟨dst, .call ⟨.builtin .max, #[x, y], ts⟩, ty, pos, after, gd⟩ s (s.putD dst (.d (.v (.int k (max m n))))) :=
  local_pure (o := ⟨dst, .call ⟨.builtin .max, #[x, y], ts⟩, ty, pos, after, gd⟩) fun a w g hg =>
    ⟨.int k (max m n), by
      have : max m n = if n > m then n else m := by omega
      rw [this]
      simp [execOp, resolve, invoke, builtin, ev_int hg hx, ev_int hg hy, run_max_int2, Result.andThen], .d (.v _ rfl)⟩
theorem LR.minI {x y : Operand} {k : IntKind} {m n : Int} {ts : Array TypeId} (hx : s.ev x = some (.d (.v (.int k m)))) (hy : s.ev y = some (.d (.v (.int k n)))) :
    Local P ctx ⟨dst, .call ⟨.builtin .min, #[x, y], ts⟩, ty, pos, after, gd⟩ s (s.putD dst (.d (.v (.int k (min m n))))) :=
  local_pure (o := ⟨dst, .call ⟨.builtin .min, #[x, y], ts⟩, ty, pos, after, gd⟩) fun a w g hg =>
    ⟨.int k (min m n), by
      have : min m n = if n < m then n else m := by omega
      rw [this]
      simp [execOp, resolve, invoke, builtin, ev_int hg hx, ev_int hg hy, run_min_int2, Result.andThen], .d (.v _ rfl)⟩

/-! ### Addresses -/
theorem run_fieldAt {st : TypeId} {fs : Array Field} {fi : Nat} {f : Field} {n : Nat} (hu : P.underlying st = some (.struct fs)) (hf : fs[fi]? = some f) (hs : ∀ w, (sizeOf f.type).run P w = .ok n w) (hn : n ≠ 0) (a : Addr) (w : World) :
    (Instr.fieldAt st (.pointer (some a)) fi).run P w = .ok (.pointer (some (a.add f.offset))) w := by
  simp [Instr.fieldAt, run_underlying hu, hf, Instr.sureAddr, fieldPlace, hs, hn]

section
variable {x : Operand} {st : TypeId} {fs : Array Field} {fi off m : Nat} {f : Field} (hu : P.underlying st = some (.struct fs)) (hf : fs[fi]? = some f) (hs : ∀ w, (sizeOf f.type).run P w = .ok m w) (hm : m ≠ 0) (ho : f.offset = off)
include hu hf hs hm ho
theorem LR.fieldRef {id o : Nat} (hx : s.ev x = some (.ref id o)) : Local P ctx ⟨dst, .fieldAddr st x fi, ty, pos, after, gd⟩ s (s.putD dst (.ref id (o + off))) :=
  local_pure (o := ⟨dst, .fieldAddr st x fi, ty, pos, after, gd⟩) fun a w g hg => by
    have h := hg.ev hx
    generalize hv : a.eval x = v at h
    cases h with
    | ref _ _ blk n h =>
      refine ⟨.pointer (some ⟨blk, o + off, none⟩), ?_, .ref id _ blk n h⟩
      simp [execOp, hv, run_fieldAt hu hf hs hm, Addr.add_lit, ho, Result.andThen]
theorem LR.fieldRp {id i o k : Nat} (hx : s.ev x = some (.rp id i o k)) : Local P ctx ⟨dst, .fieldAddr st x fi, ty, pos, after, gd⟩ s (s.putD dst (.rp id i (o + off) k)) :=
  local_pure (o := ⟨dst, .fieldAddr st x fi, ty, pos, after, gd⟩) fun a w g hg => by
    have h := hg.ev hx
    generalize hv : a.eval x = v at h
    cases h with
    | rp _ _ _ _ blk cap h =>
      refine ⟨.pointer (some ⟨blk, i * k + (o + off), none⟩), ?_, .rp id i _ k blk cap h⟩
      simp [execOp, hv, run_fieldAt hu hf hs hm, Addr.add_lit, ho, Result.andThen, Nat.add_assoc]
theorem LR.fieldEp {cs : List DV} {o : Nat} (hx : s.ev x = some (.ep cs o)) : Local P ctx ⟨dst, .fieldAddr st x fi, ty, pos, after, gd⟩ s (s.putD dst (.ep cs (o + off))) :=
  local_pure (o := ⟨dst, .fieldAddr st x fi, ty, pos, after, gd⟩) fun a w g hg => by
    have h := hg.ev hx
    generalize hv : a.eval x = v at h
    cases h with
    | ep _ b ofs _ c hS hb hc hr =>
      refine ⟨.pointer (some ⟨b, ofs + (o + off), none⟩), ?_, .ep cs b ofs _ c hS hb hc hr⟩
      simp [execOp, hv, run_fieldAt hu hf hs hm, Addr.add_lit, ho, Result.andThen, Nat.add_assoc]
end

theorem run_indexAt {t e : TypeId} {k : Nat} (hu : P.underlying t = some (.slice e)) (hs : ∀ w, (sizeOf e).run P w = .ok k w) (b off len cap : Nat) (ki : IntKind) (i : Int) (n : Nat) (hi : i = n) (hn : n < len) (w : World) :
    (Instr.indexAt t (.slice (some ⟨b, off, none⟩) len cap) (.int ki i)).run P w = .ok (.pointer (some ⟨b, off + n * k, none⟩)) w := by
  subst hi
  have h1 : (0 : Int) ≤ n ∧ (n : Int) < len := by omega
  simp [Instr.indexAt, asIntOf, run_underlying hu, h1, hs, Addr.add_lit, Result.andThen]
  omega

theorem LR.idxSl {x ix : Operand} {l : List (List DV)} {ki : IntKind} {i : Int} {n k : Nat} {cs : List DV} {t e : TypeId} (hu : P.underlying t = some (.slice e)) (hs : ∀ w, (sizeOf e).run P w = .ok k w)
    (hx : s.ev x = some (.d (.sl l))) (hix : s.ev ix = some (.d (.v (.int ki i)))) (hi : i = n) (hn : l[n]? = some cs) (hk : cs.length = k) :
    Local P ctx ⟨dst, .indexAddr t x ix, ty, pos, after, gd⟩ s (s.putD dst (.ep cs 0)) :=
  local_pure (o := ⟨dst, .indexAddr t x ix, ty, pos, after, gd⟩) fun a w g hg => by
    have h := hg.ev hx
    generalize hv : a.eval x = v at h
    cases h with
    | d h =>
      cases h with
      | nil => simp at hn
      | sl _ b off cap k' c hl hcap hS hb hkk hc hr =>
        have hk' : k' = k := by rw [← hkk n cs hn, hk]
        subst hk'
        have hlt : n < l.length := (List.getElem?_eq_some_iff.1 hn).1
        refine ⟨.pointer (some ⟨b, off + n * k' + 0, none⟩), ?_, .ep cs b (off + n * k') 0 (c n) hS hb ?_ ?_⟩
        · simp [execOp, hv, ev_int hg hix, run_indexAt hu hs b off l.length cap ki i n hi hlt, Result.andThen]
        · intro j hj
          rw [Nat.add_assoc]
          exact hc n j hlt (by omega)
        · intro j x hx
          exact hr n cs j x hn hx

theorem LR.idxRow {x ix : Operand} {id m : Nat} {ki : IntKind} {i : Int} {n k : Nat} {t e : TypeId} (hu : P.underlying t = some (.slice e)) (hs : ∀ w, (sizeOf e).run P w = .ok k w)
    (hx : s.ev x = some (.row id m)) (hix : s.ev ix = some (.d (.v (.int ki i)))) (hi : i = n) (hn : n < m) :
    Local P ctx ⟨dst, .indexAddr t x ix, ty, pos, after, gd⟩ s (s.putD dst (.rp id n 0 k)) :=
  local_pure (o := ⟨dst, .indexAddr t x ix, ty, pos, after, gd⟩) fun a w g hg => by
    have h := hg.ev hx
    generalize hv : a.eval x = v at h
    cases h with
    | row _ _ blk cap h =>
      refine ⟨.pointer (some ⟨blk, n * k + 0, none⟩), ?_, .rp id n 0 k blk cap h⟩
      simp [execOp, hv, ev_int hg hix, run_indexAt hu hs blk 0 m cap ki i n hi hn, Result.andThen]
    | rowNil => omega

/-! ### Loads -/
theorem run_loadOne {T : TypeId} (ha : ∀ w, (isAgg T).run P w = .ok false w) {w : World} {ad : Addr} {u : Value} (h : w.cell? ad = some u) : (loadVar T ad).run P w = .ok u w := by
  simp [loadVar, ha, h]
theorem run_loadAgg {T : TypeId} {us : List Value} (ha : ∀ w, (isAgg T).run P w = .ok true w) (hs : ∀ w, (sizeOf T).run P w = .ok us.length w) {w : World} {b o : Nat} (h : ∀ j u, us[j]? = some u → w.cell? ⟨b, o + j, none⟩ = some u) :
    (loadVar T ⟨b, o, none⟩).run P w = .ok (.agg us.toArray) w := by
  have := run_loadCells_list (P := P) w ⟨b, o, none⟩ us (fun j v hv => by rw [Addr.add_lit]; exact h j v hv)
  simp [loadVar, ha, hs, this]

theorem cell_of_heap {w : World} {blk : Nat} {us : List Value} {T : TypeId} (h : w.heap[blk]? = some (.cells us.toArray T (0, 0))) (o : Nat) : w.cell? ⟨blk, o, none⟩ = us[o]? := by
  simp [World.cell?, h]

theorem LR.loadRef {x : Operand} {id o : Nat} {T T0 : TypeId} {cs : List PV} {p : PV} (ha : ∀ w, (isAgg T).run P w = .ok false w) (hx : s.ev x = some (.ref id o)) (hl : look s.objs id = some (.cells T0 cs)) (hp : cs[o]? = some p) :
    Local P ctx ⟨dst, .load T x, ty, pos, after, gd⟩ s (s.putD dst p) :=
  local_pure (o := ⟨dst, .load T x, ty, pos, after, gd⟩) fun a w g hg => by
    have h := hg.ev hx
    generalize hv : a.eval x = v at h
    cases h with
    | ref _ _ blk n hgi =>
      have hob := hg.objs id _ hl
      cases hob with
      | cells _ _ blk' n' us h' hh hlen hr h1 =>
        rw [hgi] at h'
        cases h'
        have hlt : o < us.length := by rw [← hlen]; exact (List.getElem?_eq_some_iff.1 hp).1
        have hu : us[o]? = some us[o] := List.getElem?_eq_getElem hlt
        refine ⟨us[o], ?_, hr o p _ hp hu⟩
        have := run_loadOne (P := P) ha (w := w) (ad := ⟨blk, o, none⟩) (u := us[o]) (by rw [cell_of_heap hh]; exact hu)
        simp [execOp, hv, Instr.loadAt, Instr.sureAddr, this, Result.andThen]

theorem LR.loadRefAgg {x : Operand} {id o k : Nat} {T T0 : TypeId} {cs ps : List PV} (ha : ∀ w, (isAgg T).run P w = .ok true w) (hs : ∀ w, (sizeOf T).run P w = .ok k w) (hx : s.ev x = some (.ref id o)) (hl : look s.objs id = some (.cells T0 cs)) (hps : (cs.drop o).take k = ps) (hk : ps.length = k) :
    Local P ctx ⟨dst, .load T x, ty, pos, after, gd⟩ s (s.putD dst (.agg ps)) :=
  local_pure (o := ⟨dst, .load T x, ty, pos, after, gd⟩) fun a w g hg => by
    have h := hg.ev hx
    generalize hv : a.eval x = v at h
    cases h with
    | ref _ _ blk n hgi =>
      have hob := hg.objs id _ hl
      cases hob with
      | cells _ _ blk' n' us h' hh hlen hr h1 =>
        rw [hgi] at h'
        cases h'
        subst hps
        have hlen2 : ((us.drop o).take k).length = k := by
          simp only [List.length_take, List.length_drop] at hk ⊢
          omega
        refine ⟨.agg ((us.drop o).take k).toArray, ?_, .agg _ _ (by rw [hk, hlen2]) ?_ ?_⟩
        · have := run_loadAgg (P := P) (us := (us.drop o).take k) ha (by rw [hlen2]; exact hs) (w := w) (b := blk) (o := o) (fun j u hu => by
            rw [cell_of_heap hh]
            simp only [List.getElem?_take, List.getElem?_drop] at hu
            split at hu
            · exact hu
            · cases hu)
          simp [execOp, hv, Instr.loadAt, Instr.sureAddr, this, Result.andThen]
        · intro i p u hp hu
          simp only [List.getElem?_take, List.getElem?_drop] at hp hu
          split at hp
          · rename_i hlt; rw [if_pos hlt] at hu; exact hr _ p u hp hu
          · cases hp
        · intro u hu
          exact h1 u (List.mem_of_mem_drop (List.mem_of_mem_take hu))

theorem LR.loadEp {x : Operand} {o : Nat} {T : TypeId} {cs : List DV} {y : DV} (ha : ∀ w, (isAgg T).run P w = .ok false w) (hx : s.ev x = some (.ep cs o)) (hy : cs[o]? = some y) :
    Local P ctx ⟨dst, .load T x, ty, pos, after, gd⟩ s (s.putD dst (.d y)) :=
  local_pure (o := ⟨dst, .load T x, ty, pos, after, gd⟩) fun a w g hg => by
    have h := hg.ev hx
    generalize hv : a.eval x = v at h
    cases h with
    | ep _ b off _ c hS hb hc hr =>
      have hlt : o < cs.length := (List.getElem?_eq_some_iff.1 hy).1
      refine ⟨c o, ?_, .d (hr o y hy)⟩
      have := run_loadOne (P := P) ha (w := w) (ad := ⟨b, off + o, none⟩) (u := c o) (hc o hlt)
      simp [execOp, hv, Instr.loadAt, Instr.sureAddr, this, Result.andThen]

theorem LR.loadEpAgg {x : Operand} {o k : Nat} {T : TypeId} {cs ys : List DV} (ha : ∀ w, (isAgg T).run P w = .ok true w) (hs : ∀ w, (sizeOf T).run P w = .ok k w) (hx : s.ev x = some (.ep cs o)) (hys : (cs.drop o).take k = ys) (hk : ys.length = k) :
    Local P ctx ⟨dst, .load T x, ty, pos, after, gd⟩ s (s.putD dst (.agg (ys.map .d))) :=
  local_pure (o := ⟨dst, .load T x, ty, pos, after, gd⟩) fun a w g hg => by
    have h := hg.ev hx
    generalize hv : a.eval x = v at h
    cases h with
    | ep _ b off _ c hS hb hc hr =>
      subst hys
      have hk2 : o + k ≤ cs.length ∨ k = 0 := by
        simp only [List.length_take, List.length_drop] at hk; omega
      let us : List Value := (List.range k).map fun j => c (o + j)
      have hul : us.length = k := by simp [us]
      refine ⟨.agg us.toArray, ?_, .agg _ _ (by rw [List.length_map, hk, hul]) ?_ ?_⟩
      · have := run_loadAgg (P := P) (us := us) ha (by rw [hul]; exact hs) (w := w) (b := b) (o := off + o) (fun j u hu => by
          have hj : j < k := by rw [← hul]; exact (List.getElem?_eq_some_iff.1 hu).1
          have : u = c (o + j) := by simp [us, hj] at hu; exact hu.symm
          rw [this, Nat.add_assoc]
          exact hc (o + j) (by omega))
        simp [execOp, hv, Instr.loadAt, Instr.sureAddr, this, Result.andThen]
      · intro i p u hp hu
        have hi : i < k := by rw [← hul]; exact (List.getElem?_eq_some_iff.1 hu).1
        have hu' : u = c (o + i) := by simp [us, hi] at hu; exact hu.symm
        simp only [List.getElem?_map, List.getElem?_take, List.getElem?_drop, hi, if_true] at hp
        cases hx : cs[o + i]? with
        | none => simp [hx] at hp
        | some y =>
          simp [hx] at hp
          subst hp
          rw [hu']
          exact .d (hr (o + i) y hx)
      · intro u hu
        simp only [us, List.mem_map, List.mem_range] at hu
        obtain ⟨j, hj, rfl⟩ := hu
        have hlt : o + j < cs.length := by omega
        exact (hr (o + j) _ (List.getElem?_eq_getElem hlt)).one

theorem row_cell {g : Ghost} {S : Nat → Prop} {w : World} {id blk cap k : Nat} {T : TypeId} {l : List (List DV)} (hob : ObRd w g S id (.row T k l)) (hgi : g id = some (blk, cap)) {i : Nat} {cs : List DV} (hi : l[i]? = some cs) :
    cs.length = k ∧ ∃ c : Nat → Value, ∀ j x, cs[j]? = some x → w.cell? ⟨blk, i * k + j, none⟩ = some (c j) ∧ DRd w S x (c j) := by
  cases hob with
  | rowNil => simp at hi
  | row _ _ _ blk' cap' cur h' hh hlc hcap hcs hk hr =>
    rw [hgi] at h'
    cases h'
    refine ⟨hk i cs hi, fun j => cur.getD (i * k + j) undef, fun j x hx => ?_⟩
    obtain ⟨u, hu, hd⟩ := hr i cs j x hi hx
    have e : cur.getD (i * k + j) undef = u := by simp [List.getD, hu]
    show w.cell? _ = some (cur.getD (i * k + j) undef) ∧ DRd w S x (cur.getD (i * k + j) undef)
    rw [e]
    exact ⟨by rw [cell_of_heap hh]; exact hu, hd⟩

theorem LR.loadRp {x : Operand} {id i o k : Nat} {T T0 : TypeId} {l : List (List DV)} {cs : List DV} {y : DV} (ha : ∀ w, (isAgg T).run P w = .ok false w) (hx : s.ev x = some (.rp id i o k)) (hl : look s.objs id = some (.row T0 k l)) (hi : l[i]? = some cs) (hy : cs[o]? = some y) :
    Local P ctx ⟨dst, .load T x, ty, pos, after, gd⟩ s (s.putD dst (.d y)) :=
  local_pure (o := ⟨dst, .load T x, ty, pos, after, gd⟩) fun a w g hg => by
    have h := hg.ev hx
    generalize hv : a.eval x = v at h
    cases h with
    | rp _ _ _ _ blk cap hgi =>
      obtain ⟨_, c, hc⟩ := row_cell (hg.objs id _ hl) hgi hi
      obtain ⟨h1, h2⟩ := hc o y hy
      refine ⟨c o, ?_, .d h2⟩
      have := run_loadOne (P := P) ha (w := w) (ad := ⟨blk, i * k + o, none⟩) (u := c o) h1
      simp [execOp, hv, Instr.loadAt, Instr.sureAddr, this, Result.andThen]

theorem LR.loadRpAgg {x : Operand} {id i k : Nat} {T T0 : TypeId} {l : List (List DV)} {cs : List DV} (ha : ∀ w, (isAgg T).run P w = .ok true w) (hs : ∀ w, (sizeOf T).run P w = .ok k w) (hx : s.ev x = some (.rp id i 0 k)) (hl : look s.objs id = some (.row T0 k l)) (hi : l[i]? = some cs) :
    Local P ctx ⟨dst, .load T x, ty, pos, after, gd⟩ s (s.putD dst (.agg (cs.map .d))) :=
  local_pure (o := ⟨dst, .load T x, ty, pos, after, gd⟩) fun a w g hg => by
    have h := hg.ev hx
    generalize hv : a.eval x = v at h
    cases h with
    | rp _ _ _ _ blk cap hgi =>
      obtain ⟨hlen, c, hc⟩ := row_cell (hg.objs id _ hl) hgi hi
      let us : List Value := (List.range k).map c
      have hul : us.length = k := by simp [us]
      have hcj : ∀ j, j < k → ∃ x, cs[j]? = some x ∧ w.cell? ⟨blk, i * k + j, none⟩ = some (c j) ∧ DRd w (Free ctx g s.objs) x (c j) := fun j hj => by
        have : j < cs.length := by omega
        exact ⟨cs[j], List.getElem?_eq_getElem this, hc j _ (List.getElem?_eq_getElem this)⟩
      refine ⟨.agg us.toArray, ?_, .agg _ _ (by rw [List.length_map, hlen, hul]) ?_ ?_⟩
      · have := run_loadAgg (P := P) (us := us) ha (by rw [hul]; exact hs) (w := w) (b := blk) (o := i * k) (fun j u hu => by
          have hj : j < k := by rw [← hul]; exact (List.getElem?_eq_some_iff.1 hu).1
          have : u = c j := by simp [us, hj] at hu; exact hu.symm
          rw [this]
          exact (hcj j hj).choose_spec.2.1)
        simp [execOp, hv, Instr.loadAt, Instr.sureAddr, this, Result.andThen]
      · intro j p u hp hu
        have hj : j < k := by rw [← hul]; exact (List.getElem?_eq_some_iff.1 hu).1
        have hu' : u = c j := by simp [us, hj] at hu; exact hu.symm
        obtain ⟨x, hx, _, hd⟩ := hcj j hj
        simp [hx] at hp
        subst hp
        rw [hu']
        exact .d hd
      · intro u hu
        simp only [us, List.mem_map, List.mem_range] at hu
        obtain ⟨j, hj, rfl⟩ := hu
        obtain ⟨x, hx, _, hd⟩ := hcj j hj
        exact hd.one
end
end Go.Ep

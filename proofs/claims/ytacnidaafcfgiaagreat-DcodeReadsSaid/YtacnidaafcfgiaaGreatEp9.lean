/- Walks over pure states: statements whose order is drawn. Each operation yields what its operands say, in whichever order. No program in sight. -/
import Derived.Test.YtacnidaafcfgiaaGreatEp8
import Derived.Orders
namespace Go.Ep
open Go.RowKit

def readsX (o : Oper) : Operand → Bool
  | .tmp t => o.op.operands.toList.any fun x => match x with | .tmp u => Nat.beq u t | _ => false
  | _ => true

/-- The operation yields p wherever its operands are what they are here. -/
def DLocal (P : Program) (ctx : Ctx) (o : Oper) (s : PState) (p : PV) : Prop :=
  ∀ s' : PState, (∀ {x q}, readsX o x = true → s.ev x = some q → s'.ev x = some q) → (∀ {id ob}, look s.objs id = some ob → look s'.objs id = some ob) → Local P ctx o s' (s'.putD o.dst p)

inductive PQl (P : Program) (ctx : Ctx) (ops : Array Oper) (Q : PState → Prop) : List Oper → PState → Prop
  | fin {s t : PState} (h : Q t) (hs : Sub ctx s t) : PQl P ctx ops Q [] s
  | step {s : PState} {o : Oper} {rest : List Oper} {p : PV} (hl : DLocal P ctx o s p) (hg : o.guard = none) (h : PQl P ctx ops Q rest (s.putD o.dst p)) : PQl P ctx ops Q (o :: rest) s
  | guardT {s : PState} {o : Oper} {rest : List Oper} {p : PV} {j d : Nat} {b : Bool} (hl : DLocal P ctx o s p) (hg : o.guard = some (j, b)) (hd : (ops[j]?).bind (·.dst) = some d) (hs : s.at d = some (.d (.v (.bool b))))
      (h : PQl P ctx ops Q rest (s.putD o.dst p)) : PQl P ctx ops Q (o :: rest) s
  | guardF {s : PState} {o : Oper} {rest : List Oper} {j d : Nat} {b c : Bool} (hg : o.guard = some (j, b)) (hd : (ops[j]?).bind (·.dst) = some d) (hs : s.at d = some (.d (.v (.bool c)))) (hbc : c ≠ b)
      (h : PQl P ctx ops Q rest (s.putD o.dst .und)) : PQl P ctx ops Q (o :: rest) s
  | guardU {s : PState} {o : Oper} {rest : List Oper} {j d : Nat} {b : Bool} (hg : o.guard = some (j, b)) (hd : (ops[j]?).bind (·.dst) = some d) (hs : s.at d = some .und)
      (h : PQl P ctx ops Q rest (s.putD o.dst .und)) : PQl P ctx ops Q (o :: rest) s

section
variable {P : Program} {ctx : Ctx} {ops : Array Oper} {Q : PState → Prop}

theorem PQl.nil {s : PState} (h : Q s) : PQl P ctx ops Q [] s := .fin h (Sub.refl _)

/-- The same slots, the same objects. -/
def Same (s t : PState) : Prop := s.n = t.n ∧ (∀ i, s.at i = t.at i) ∧ s.objs = t.objs
theorem Same.ev {s t : PState} (h : Same s t) (x : Operand) : s.ev x = t.ev x := by
  cases x with
  | tmp i => exact h.2.1 i
  | const v => cases v <;> rfl
  | func f => rfl
  | global g => rfl
theorem at_eq (s : PState) (i : Nat) : s.at i = if i < s.n then getS s.sl i else none := by
  unfold PState.at
  by_cases h : i < s.n
  · have : Nat.blt i s.n = true := by simpa [Nat.blt_eq] using h
    rw [this, if_pos h]; rfl
  · have : Nat.blt i s.n = false := by
      cases hb : Nat.blt i s.n with
      | false => rfl
      | true => exact absurd (by simpa [Nat.blt_eq] using hb) h
    rw [this, if_neg h]; rfl
theorem put_at_eq (s : PState) (d : Nat) (p : PV) (i : Nat) : (s.put d p).at i = if i < s.n then (if d = i then some p else s.at i) else none := by
  rw [at_eq, at_eq]
  simp only [PState.put, getS_cons]
  by_cases h : i < s.n <;> simp [h]
theorem Same.putD {s t : PState} (h : Same s t) (d : Option Nat) (p : PV) : Same (s.putD d p) (t.putD d p) := by
  cases d with
  | none => exact h
  | some d => exact ⟨h.1, fun i => by simp only [PState.putD, put_at_eq, h.1, h.2.1], h.2.2⟩
theorem Same.sub {s t : PState} (h : Same s t) : Sub ctx s t := Sub.drop h.1 (fun i p hp => by rw [h.2.1]; exact hp) (fun id o ho => by rw [h.2.2]; exact ho)

theorem PQl.same {l : List Oper} {t : PState} (h : PQl P ctx ops Q l t) : ∀ {s : PState}, Same s t → PQl P ctx ops Q l s := by
  induction h with
  | fin h hs => intro s he; exact .fin h (Sub.trans he.sub hs)
  | step hl hg _ ih => intro s he; exact .step (fun s' h1 h2 => hl s' (fun hx hq => h1 hx (by rw [he.ev]; exact hq)) (fun ho => h2 (by rw [he.2.2]; exact ho))) hg (ih (he.putD _ _))
  | guardT hl hg hd hs _ ih => intro s he; exact .guardT (fun s' h1 h2 => hl s' (fun hx hq => h1 hx (by rw [he.ev]; exact hq)) (fun ho => h2 (by rw [he.2.2]; exact ho))) hg hd (by rw [he.2.1]; exact hs) (ih (he.putD _ _))
  | guardF hg hd hs hbc _ ih => intro s he; exact .guardF hg hd (by rw [he.2.1]; exact hs) hbc (ih (he.putD _ _))
  | guardU hg hd hs _ ih => intro s he; exact .guardU hg hd (by rw [he.2.1]; exact hs) (ih (he.putD _ _))

theorem PQl.split {s : PState} {rest : List Oper} {d : Nat} {b : Bool} (hs : s.at d = some (.d (.v (.bool b)))) (ht : b = true → PQl P ctx ops Q rest (s.put d (.d (.v (.bool true))))) (hf : b = false → PQl P ctx ops Q rest (s.put d (.d (.v (.bool false))))) : PQl P ctx ops Q rest s := by
  have e : Same s (s.put d (.d (.v (.bool b)))) := by
    refine ⟨rfl, fun i => ?_, rfl⟩
    rw [put_at_eq]
    by_cases hi : i < s.n
    · rw [if_pos hi]
      by_cases hd : d = i
      · subst hd; rw [if_pos rfl]; exact hs
      · rw [if_neg hd]
    · rw [if_neg hi, at_eq, if_neg hi]
  cases b with
  | true => exact (ht rfl).same e
  | false => exact (hf rfl).same e

/-- What an operation yields in the order of the text. -/
def Yields (P : Program) (ctx : Ctx) (ops : Array Oper) (o : Oper) (s : PState) (p : PV) : Prop :=
  ((o.guard = none ∨ ∃ j b d, o.guard = some (j, b) ∧ (ops[j]?).bind (·.dst) = some d ∧ s.at d = some (.d (.v (.bool b)))) ∧ DLocal P ctx o s p) ∨
  (∃ j b c d, o.guard = some (j, b) ∧ (ops[j]?).bind (·.dst) = some d ∧ s.at d = some (.d (.v (.bool c))) ∧ c ≠ b ∧ p = .und) ∨
  (∃ j b d, o.guard = some (j, b) ∧ (ops[j]?).bind (·.dst) = some d ∧ s.at d = some .und ∧ p = .und)

inductive Lex (P : Program) (ctx : Ctx) (ops : Array Oper) : List Oper → PState → List PV → PState → Prop
  | nil {s : PState} : Lex P ctx ops [] s [] s
  | cons {o : Oper} {rest : List Oper} {s t : PState} {p : PV} {ps : List PV} (y : Yields P ctx ops o s p) (h : Lex P ctx ops rest (s.putD o.dst p) ps t) : Lex P ctx ops (o :: rest) s (p :: ps) t

theorem PQl.lex {l : List Oper} {s : PState} (h : PQl P ctx ops Q l s) : ∃ ps t, Lex P ctx ops l s ps t ∧ ∃ u, Q u ∧ Sub ctx t u := by
  induction h with
  | fin h hs => exact ⟨[], _, .nil, _, h, hs⟩
  | step hl hg _ ih => obtain ⟨ps, t, h1, h2⟩ := ih; exact ⟨_, t, .cons (.inl ⟨.inl hg, hl⟩) h1, h2⟩
  | guardT hl hg hd hs _ ih => obtain ⟨ps, t, h1, h2⟩ := ih; exact ⟨_, t, .cons (.inl ⟨.inr ⟨_, _, _, hg, hd, hs⟩, hl⟩) h1, h2⟩
  | guardF hg hd hs hbc _ ih => obtain ⟨ps, t, h1, h2⟩ := ih; exact ⟨_, t, .cons (.inr (.inl ⟨_, _, _, _, hg, hd, hs, hbc, rfl⟩)) h1, h2⟩
  | guardU hg hd hs _ ih => obtain ⟨ps, t, h1, h2⟩ := ih; exact ⟨_, t, .cons (.inr (.inr ⟨_, _, _, hg, hd, hs, rfl⟩)) h1, h2⟩

/-- An operation, carried out where all that it looks at is what it was in the order of the text. -/
theorem Yields.run {o : Oper} {s s' : PState} {p : PV} (y : Yields P ctx ops o s p) (hn : s'.n = s.n) (ho : s'.objs = s.objs) (hl : ∀ t, t ∈ o.looksAt ops → getS s'.sl t = getS s.sl t) {i : Nat} (hi : ops[i]? = some o)
    {a : Act} {w : World} (hr : Rel ctx s' a w) {K : Act → World → Prop} {Qx : Exit → Act → World → Prop} (hK : ∀ a' w', Rel ctx (s'.putD o.dst p) a' w' → K a' w') : wpOp P ops Qx i K a w := by
  have hat : ∀ t, t ∈ o.looksAt ops → s'.at t = s.at t := fun t ht => by rw [at_eq, at_eq, hn, hl t ht]
  unfold wpOp
  simp only [hi]
  rcases y with ⟨hg, hd⟩ | ⟨j, b, c, d, hg, hd, hs, hbc, rfl⟩ | ⟨j, b, d, hg, hd, hs, rfl⟩
  · have hloc : Local P ctx o s' (s'.putD o.dst p) := by
      refine hd s' (fun {x q} hx hq => ?_) (fun h => by rw [ho]; exact h)
      cases x with
      | tmp t =>
        show s'.at t = some q
        rw [hat t ?_]
        · exact hq
        · simp only [readsX, List.any_eq_true] at hx
          obtain ⟨x, hx1, hx2⟩ := hx
          unfold Oper.looksAt
          refine List.mem_append_left _ (List.mem_filterMap.2 ⟨x, hx1, ?_⟩)
          cases x with
          | tmp u => simp only at hx2; rw [Nat.eq_of_beq_eq_true hx2]
          | _ => simp at hx2
      | const v => cases v <;> exact hq
      | func f => exact hq
      | global g => exact hq
    have hw : Region.wanted o (yielded ops a.tmps) = true := by
      rcases hg with hg | ⟨j, b, d, hg, hd2, hs⟩
      · simp [Region.wanted, hg]
      · obtain ⟨g, hrg⟩ := hr
        have hs' : s'.at d = some (.d (.v (.bool b))) := by
          rw [hat d (by unfold Oper.looksAt; rw [hg]; refine List.mem_append_right _ ?_; simp [hd2])]; exact hs
        simp [Region.wanted, hg, yielded_of hrg hd2 hs']
    rw [if_pos hw]
    exact .inl (hloc a w hr K Qx hK)
  · obtain ⟨g, hrg⟩ := hr
    have hs' : s'.at d = some (.d (.v (.bool c))) := by
      rw [hat d (by unfold Oper.looksAt; rw [hg]; refine List.mem_append_right _ ?_; simp [hd])]; exact hs
    have hw : Region.wanted o (yielded ops a.tmps) = false := by simp [Region.wanted, hg, yielded_of hrg hd hs', hbc]
    rw [hw]
    exact hK _ _ ⟨g, hrg.put o.dst Rd.und⟩
  · obtain ⟨g, hrg⟩ := hr
    have hs' : s'.at d = some .und := by
      rw [hat d (by unfold Oper.looksAt; rw [hg]; refine List.mem_append_right _ ?_; simp [hd])]; exact hs
    have hw : Region.wanted o (yielded ops a.tmps) = false := by simp [Region.wanted, hg, yielded_und hrg hd hs']
    rw [hw]
    exact hK _ _ ⟨g, hrg.put o.dst Rd.und⟩

/-! ### Any order -/
def dstAt (ops : Array Oper) (i : Nat) : Option Nat := (ops[i]?).bind (·.dst)

/-- Behind the operations of L: their slots hold what they yield, all other ones what they held. -/
structure Holds (ops : Array Oper) (ps : List PV) (s0 : PState) (L : Nat → Prop) (s : PState) : Prop where
  n : s.n = s0.n
  objs : s.objs = s0.objs
  done : ∀ j t, L j → dstAt ops j = some t → getS s.sl t = ps[j]?
  else_ : ∀ t, (∀ j, L j → dstAt ops j ≠ some t) → getS s.sl t = getS s0.sl t

def Inj (ops : Array Oper) : Prop := ∀ i j t, dstAt ops i = some t → dstAt ops j = some t → i = j

theorem Holds.step {ps : List PV} {s0 s : PState} {L L' : Nat → Prop} (h : Holds ops ps s0 L s) (hinj : Inj ops) {i : Nat} {o : Oper} {p : PV} (hi : ops[i]? = some o) (hp : ps[i]? = some p) (hL : ∀ j, L' j ↔ L j ∨ j = i) : Holds ops ps s0 L' (s.putD o.dst p) := by
  have hd : dstAt ops i = o.dst := by simp [dstAt, hi]
  refine ⟨by rw [putD_len]; exact h.n, by rw [putD_objs]; exact h.objs, ?_, ?_⟩
  · intro j t hj ht
    rcases (hL j).1 hj with hj | rfl
    · cases hdst : o.dst with
      | none => exact h.done j t hj ht
      | some d =>
        simp only [PState.putD, PState.put, getS_cons]
        by_cases e : d = t
        · subst e
          have : j = i := hinj j i d ht (by rw [hd, hdst])
          subst this
          rw [if_pos rfl, hp]
        · rw [if_neg e]; exact h.done j t hj ht
    · rw [hd] at ht
      simp only [ht, PState.putD, PState.put, getS_cons, if_true, hp]
  · intro t ht
    have h1 := h.else_ t fun j hj => ht j ((hL j).2 (.inl hj))
    have h2 := ht i ((hL i).2 (.inr rfl))
    rw [hd] at h2
    cases hdst : o.dst with
    | none => exact h1
    | some d =>
      rw [hdst] at h2
      simp only [PState.putD, PState.put, getS_cons]
      rw [if_neg (fun e => h2 (by rw [e]))]
      exact h1

/-- What the order of the text has at each place. -/
theorem Lex.at_ {ops : Array Oper} (hinj : Inj ops) : ∀ {rest : List Oper} {s t s0 : PState} {ps pre : List PV} {all : List PV} {b : Nat}, Lex P ctx ops rest s ps t → all = pre ++ ps → pre.length = b → (∀ i, rest[i]? = ops[b + i]?) → Holds ops all s0 (· < b) s →
    (∀ i o, rest[i]? = some o → ∃ S p, all[b + i]? = some p ∧ Holds ops all s0 (· < b + i) S ∧ Yields P ctx ops o S p) ∧ Holds ops all s0 (· < b + rest.length) t := by
  intro rest
  induction rest with
  | nil =>
    intro s t s0 ps pre all b h _ _ _ hh
    cases h
    exact ⟨by simp, by simpa using hh⟩
  | cons o rest ih =>
    intro s t s0 ps pre all b h hall hb hops hh
    cases h with
    | @cons _ _ _ _ p ps y h =>
      have hi : ops[b]? = some o := by have := hops 0; simpa using this.symm
      have hp : all[b]? = some p := by subst hall; subst hb; simp
      have hst := hh.step hinj hi hp (L' := (· < b + 1)) (fun j => by omega)
      obtain ⟨h1, h2⟩ := ih (b := b + 1) (pre := pre ++ [p]) h (by simp [hall]) (by simp [hb]) (fun i => by have := hops (i + 1); rw [show b + 1 + i = b + (i + 1) by omega, ← this]; simp) hst
      refine ⟨fun i o' ho => ?_, by rw [List.length_cons, show b + (rest.length + 1) = b + 1 + rest.length by omega]; exact h2⟩
      cases i with
      | zero => simp at ho; subst ho; exact ⟨s, p, hp, hh, y⟩
      | succ i =>
        simp at ho
        obtain ⟨S, q, e1, e2, e3⟩ := h1 i o' ho
        exact ⟨S, q, by rw [← e1]; congr 1; omega, by rw [show b + (i + 1) = b + 1 + i by omega]; exact e2, e3⟩

/-- What is asked of the operations: slots that are written once, edges that lead backwards, and none that looks at what does not stand ahead of it. -/
def drawOK (ops : Array Oper) : Bool :=
  (List.range ops.size).all (fun i => (List.range ops.size).all fun j => match dstAt ops i, dstAt ops j with | some d, some e => Nat.beq i j || !Nat.beq d e | _, _ => true) &&
  (List.range ops.size).all fun i => match ops[i]? with
    | none => true
    | some o => o.after.toList.all (fun e => Nat.blt e.on i || !Region.binds .any e) &&
      (o.looksAt ops).all fun t => (List.range ops.size).all fun j => match dstAt ops j with
        | some d => bif Nat.beq d t then Nat.blt j i && o.after.toList.any (fun e => Region.binds .any e && Nat.beq e.on j) else true
        | none => true

theorem drawOK_inj (h : drawOK ops = true) : Inj ops := by
  intro i j t hi hj
  simp only [drawOK, Bool.and_eq_true, List.all_eq_true, List.mem_range] at h
  have hlt : ∀ {k t}, dstAt ops k = some t → k < ops.size := fun {k t} hk => by
    unfold dstAt at hk
    cases ho : ops[k]? with
    | none => rw [ho] at hk; simp at hk
    | some o => exact (Array.getElem?_eq_some_iff.1 ho).1
  have := h.1 i (hlt hi) j (hlt hj)
  rw [hi, hj] at this
  simpa using this
theorem drawOK_edge (h : drawOK ops = true) {i : Nat} {o : Oper} (hi : ops[i]? = some o) : ∀ e ∈ o.after, Region.binds .any e = true → e.on < i := by
  simp only [drawOK, Bool.and_eq_true, List.all_eq_true, List.mem_range] at h
  have := h.2 i (Array.getElem?_eq_some_iff.1 hi).1
  rw [hi] at this
  simp only [Bool.and_eq_true, List.all_eq_true] at this
  intro e he hb
  have := this.1 e (by simpa using he)
  simpa [Nat.blt_eq, hb] using this
theorem drawOK_looks (h : drawOK ops = true) {i : Nat} {o : Oper} (hi : ops[i]? = some o) {t : Nat} (ht : t ∈ o.looksAt ops) {j : Nat} (hj : dstAt ops j = some t) : j < i ∧ ∃ e ∈ o.after, Region.binds .any e = true ∧ e.on = j := by
  simp only [drawOK, Bool.and_eq_true, List.all_eq_true, List.mem_range] at h
  have h1 := h.2 i (Array.getElem?_eq_some_iff.1 hi).1
  rw [hi] at h1
  simp only [Bool.and_eq_true, List.all_eq_true, List.mem_range] at h1
  have hlt : j < ops.size := by
    unfold dstAt at hj
    cases ho : ops[j]? with
    | none => rw [ho] at hj; simp at hj
    | some o => exact (Array.getElem?_eq_some_iff.1 ho).1
  have h2 := h1.2 t ht j hlt
  rw [hj] at h2
  simp only [Nat.beq_refl, cond_true, Bool.and_eq_true, List.any_eq_true] at h2
  obtain ⟨h3, e, he, h4, h5⟩ := h2
  exact ⟨by simpa [Nat.blt_eq] using h3, e, by simpa using he, h4, Nat.eq_of_beq_eq_true h5⟩

theorem mem_ready {listed : Array Bool} {i : Nat} : i ∈ Region.ready .any ops listed ↔ i < ops.size ∧ listed.getD i true = false ∧ ∃ o, ops[i]? = some o ∧ ∀ e ∈ o.after, Region.binds .any e = true → listed.getD e.on false = true := by
  unfold Region.ready
  simp only [List.mem_filter, List.mem_range, Bool.and_eq_true, Bool.not_eq_true']
  refine and_congr_right fun hlt => and_congr_right fun _ => ?_
  cases ho : ops[i]? with
  | none => simp
  | some o =>
    simp only [Option.map_some, Option.getD_some, Array.all_eq_true_iff_forall_mem, Option.some.injEq, exists_eq_left']
    refine forall_congr' fun e => forall_congr' fun _ => ?_
    cases hb : Region.binds .any e <;> simp

theorem count_set {l : List Bool} : ∀ {i : Nat}, l[i]? = some false → (l.set i true).count false + 1 = l.count false := by
  induction l with
  | nil => intro i h; simp at h
  | cons x r ih =>
    intro i h
    cases i with
    | zero => simp at h; subst h; simp
    | succ i =>
      simp at h
      have := ih h
      simp only [List.set_cons_succ, List.count_cons]
      omega

theorem any_order {ps : List PV} {s0 S : PState} {Qx : Exit → Act → World → Prop} (hB : drawOK ops = true) (_hlen : ps.length = ops.size)
    (hY : ∀ i o, ops[i]? = some o → ∃ T p, ps[i]? = some p ∧ Holds ops ps s0 (· < i) T ∧ Yields P ctx ops o T p) (hS : Holds ops ps s0 (· < ops.size) S)
    (hQ : ∀ a w, Rel ctx S a w → Qx .normal a w) : ∀ (fuel : Nat) (listed : Array Bool) (s : PState) (a : Act) (w : World), listed.size = ops.size → listed.toList.count false ≤ fuel → Holds ops ps s0 (fun j => listed.getD j false = true) s → Rel ctx s a w →
      wpAny P .any ops Qx fuel listed a w := by
  have hinj := drawOK_inj hB
  -- all are listed where none is ready
  have hall : ∀ listed : Array Bool, listed.size = ops.size → Region.ready .any ops listed = [] → ∀ i, i < ops.size → listed.getD i false = true := by
    intro listed hsz hr i
    induction i using Nat.strongRecOn with
    | _ i ih =>
      intro hi
      cases hb : listed.getD i false with
      | true => rfl
      | false =>
        have hlt : i < listed.size := by omega
        have hmem : i ∈ Region.ready .any ops listed := by
          refine mem_ready.2 ⟨hi, ?_, ops[i], Array.getElem?_eq_getElem hi, fun e he hbe => ?_⟩
          · simp [Array.getD, hlt] at hb ⊢; exact hb
          · have := drawOK_edge hB (Array.getElem?_eq_getElem hi) e he hbe
            exact ih e.on this (by omega)
        rw [hr] at hmem
        cases hmem
  have hfin : ∀ (listed : Array Bool) (s : PState) (a : Act) (w : World), listed.size = ops.size → Holds ops ps s0 (fun j => listed.getD j false = true) s → Rel ctx s a w → Region.ready .any ops listed = [] → Qx .normal a w := by
    intro listed s a w hsz hh hr hrdy
    have ha := hall listed hsz hrdy
    have hlt : ∀ {k t}, dstAt ops k = some t → k < ops.size := fun {k t} hk => by
      unfold dstAt at hk
      cases ho : ops[k]? with
      | none => rw [ho] at hk; simp at hk
      | some o => exact (Array.getElem?_eq_some_iff.1 ho).1
    have hg : ∀ t, getS s.sl t = getS S.sl t := by
      intro t
      by_cases hex : ∃ j, dstAt ops j = some t
      · obtain ⟨j, hj⟩ := hex
        rw [hh.done j t (ha j (hlt hj)) hj, hS.done j t (hlt hj) hj]
      · have hex' : ∀ j, dstAt ops j ≠ some t := fun j hj => hex ⟨j, hj⟩
        rw [hh.else_ t (fun j _ => hex' j), hS.else_ t (fun j _ => hex' j)]
    refine hQ a w (Same.sub (s := s) (t := S) ⟨by rw [hh.n, hS.n], fun i => by rw [at_eq, at_eq, hh.n, hS.n, hg], by rw [hh.objs, hS.objs]⟩ a w hr)
  intro fuel
  induction fuel with
  | zero =>
    intro listed s a w hsz hc hh hr
    have hrdy : Region.ready .any ops listed = [] := by
      apply List.eq_nil_iff_forall_not_mem.2
      intro i hi
      obtain ⟨h1, h2, _⟩ := mem_ready.1 hi
      have hlt : i < listed.size := by omega
      have hm : false ∈ listed.toList := by
        simp [Array.getD, hlt] at h2
        rw [← h2]; simp
      have := List.count_pos_iff.2 hm
      omega
    exact ⟨hrdy, hfin listed s a w hsz hh hr hrdy⟩
  | succ fuel ih =>
    intro listed s a w hsz hc hh hr
    refine ⟨hfin listed s a w hsz hh hr, fun i hi => ?_⟩
    obtain ⟨h1, h2, o, ho, he⟩ := mem_ready.1 hi
    have hlt : i < listed.size := by omega
    have hli : listed[i] = false := by simpa [Array.getD, hlt] using h2
    obtain ⟨T, p, hp, hT, y⟩ := hY i o ho
    refine y.run (hh.n.trans hT.n.symm) (hh.objs.trans hT.objs.symm) (fun t ht => ?_) ho hr fun a' w' hr' => ?_
    · by_cases hex : ∃ j, dstAt ops j = some t
      · obtain ⟨j, hj⟩ := hex
        obtain ⟨hji, e, he1, he2, he3⟩ := drawOK_looks hB ho ht hj
        subst he3
        rw [hh.done _ t (he e he1 he2) hj, hT.done _ t hji hj]
      · have hex' : ∀ j, dstAt ops j ≠ some t := fun j hj => hex ⟨j, hj⟩
        rw [hh.else_ t (fun j _ => hex' j), hT.else_ t (fun j _ => hex' j)]
    · refine ih _ _ a' w' (by simpa using hsz) ?_ (hh.step hinj ho hp (fun j => ?_)) hr'
      · have := count_set (l := listed.toList) (i := i) (by simp [hlt, hli])
        simp only [Array.toList_setIfInBounds]
        omega
      · by_cases hj : j = i
        · subst hj; simp [Array.getD, hlt]
        · have : (listed.setIfInBounds i true).getD j false = listed.getD j false := by
            simp [Array.getD_eq_getD_getElem?, Ne.symm hj]
          rw [this]; simp [hj]
end

/-- A statement whose order is drawn: one walk in the order of the text serves them all. -/
theorem PWc.regionD {P : Program} {ctx : Ctx} {Q : PQ} {s : PState} {id : Nat} {l : List Oper} (hm : P.follows .mixedOrders = true) (hB : drawOK l.toArray = true) (h : PQl P ctx l.toArray (Q .normal) l s) : PWc P ctx (.region id l.toArray true) Q s := by
  intro a w ⟨g, hr⟩
  obtain ⟨ps, t, hlex, u, hu, hsub⟩ := h.lex
  have hinj := drawOK_inj hB
  have h0 : Holds l.toArray ps s (· < 0) s := ⟨rfl, rfl, fun j t hj => absurd hj (Nat.not_lt_zero _), fun _ _ => rfl⟩
  obtain ⟨h1, h2⟩ := hlex.at_ hinj (all := ps) (pre := []) (b := 0) (s0 := s) rfl rfl (fun i => by simp) h0
  have hpl : ps.length = l.toArray.size := by
    have : ∀ {ops : Array Oper} {l : List Oper} {s t : PState} {ps : List PV}, Lex P ctx ops l s ps t → ps.length = l.length := by
      intro ops l s t ps h
      induction h with
      | nil => rfl
      | cons _ _ ih => simp [ih]
    simpa using this hlex
  refine wp_region_any hm ?_
  refine any_order (ps := ps) (s0 := s) (S := t) hB hpl (fun i o ho => ?_) (by simpa using h2) (fun a w hr => ⟨u, hu, hsub a w hr⟩) _ _ s a _ (by simp) ?_ ?_ ⟨g, hr.below (Below.refl _ w).drew⟩
  · obtain ⟨S, p, e1, e2, e3⟩ := h1 i o (by simpa using ho)
    exact ⟨S, p, by simpa using e1, by simpa using e2, e3⟩
  · simp
  · refine ⟨rfl, rfl, fun j t hj => ?_, fun _ _ => rfl⟩
    simp [Array.getD] at hj

/-! ### Operands, wherever -/
theorem evsE {o : Oper} {s s' : PState} (he : ∀ {x q}, readsX o x = true → s.ev x = some q → s'.ev x = some q) : ∀ {xs : List Operand} {ps : List PV}, xs.all (readsX o) = true → s.evs xs = some ps → s'.evs xs = some ps
  | [], ps, _, h => h
  | x :: r, ps, hr, h => by
    simp only [List.all_cons, Bool.and_eq_true] at hr
    unfold PState.evs at h ⊢
    cases h1 : s.ev x <;> cases h2 : s.evs r <;> simp [h1, h2] at h
    rw [he hr.1 h1, evsE he hr.2 h2]
    simp [h]
theorem evpE {o : Oper} {s s' : PState} (he : ∀ {x q}, readsX o x = true → s.ev x = some q → s'.ev x = some q) : ∀ {xs : List (Nat × Operand)} {ps : List (Nat × PV)}, xs.all (fun x => readsX o x.2) = true → s.evp xs = some ps → s'.evp xs = some ps
  | [], ps, _, h => h
  | (i, x) :: r, ps, hr, h => by
    simp only [List.all_cons, Bool.and_eq_true] at hr
    unfold PState.evp at h ⊢
    cases h1 : s.ev x <;> cases h2 : s.evp r <;> simp [h1, h2] at h
    rw [he hr.1 h1, evpE he hr.2 h2]
    simp [h]

section
variable {P : Program} {ctx : Ctx} {s : PState}
variable {dst : Option Tmp} {ty : TypeId} {pos : String} {after : Array Edge} {gd : Option (Nat × Bool)}

/-- A new row that nobody will write: data at once. -/
theorem RelG.newData {g : Ghost} {a : Act} {w : World} (hg : RelG ctx g s a w) {e k cap : Nat} {l : List (List DV)} {cur : List Value} (hlc : l.length ≤ cap) (hcap : cap ≤ maxLen) (hcs : cur.length = cap * k)
    (hk : ∀ (i : Nat) (cs : List DV), l[i]? = some cs → cs.length = k) (hr : ∀ (i : Nat) (cs : List DV) (j : Nat) (x : DV), l[i]? = some cs → cs[j]? = some x → ∃ u, cur[i * k + j]? = some u ∧ DRd w (Free ctx g s.objs) x u) :
    Rel ctx (s.putD dst (.d (.sl l))) (a.put dst (.slice (some ⟨w.heap.size, 0, none⟩) l.length cap)) (w.alloc (.cells cur.toArray e)) := by
  have hb := Below.alloc1 w (.cells cur.toArray e)
  have hg' := hg.below hb
  refine ⟨g, hg'.put dst (.d ?_)⟩
  have hst : Stays w (w.alloc (.cells cur.toArray e)) (Free ctx g s.objs) := ⟨hb.size, fun b _ hlt => hb.block b hlt⟩
  refine .sl l w.heap.size 0 cap k (fun i j => cur.getD (i * k + j) undef) hlc hcap (free_new hg (.inr (Nat.le_refl _))) (by simp) hk ?_ ?_
  · intro i j hi hj
    have hlt : i * k + j < cur.length := by rw [hcs]; exact idx_lt (by omega) hj
    rw [cell_of_heap (heap_alloc_new w _)]
    simp [hlt]
  · intro i cs j x hi hx
    obtain ⟨u, hu, hd⟩ := hr i cs j x hi hx
    have e : cur.getD (i * k + j) undef = u := by simp [List.getD, hu]
    show DRd _ _ x (cur.getD (i * k + j) undef)
    rw [e]
    exact hd.keep hst (fun b hb _ => hb)

theorem run_buildSlice {t e k bs : Nat} (hE : ElemOK P t e k bs) {xs : List Operand} {us : List (List Value)} {a : Act} (hul : us.length = xs.length) (h2 : ∀ (i : Nat) (x : Operand) (u : List Value), xs[i]? = some x → us[i]? = some u → (a.eval x).cells = u.toArray ∧ u.length = k)
    (hsmall : xs.length * k ≤ 16777216) (w : World) :
    (Instr.buildSlice t xs.length ((enum 0 xs).toArray.map fun (i, x) => (i, a.eval x))).run P w = .ok (.slice (some ⟨w.heap.size, 0, none⟩) xs.length xs.length) (w.alloc (.cells us.flatten.toArray e)) ∧ us.flatten.length = xs.length * k ∧ ∀ u ∈ us, u.length = k := by
  obtain ⟨i, z, hi, hz, hsize, hbytes, hzs⟩ := hE.i
  have huk : ∀ u ∈ us, u.length = k := fun u hu => by
    obtain ⟨j, hj, rfl⟩ := List.getElem_of_mem hu
    exact (h2 j (xs[j]'(by omega)) us[j] (List.getElem?_eq_getElem (by omega)) (List.getElem?_eq_getElem hj)).2
  have hfl : us.flatten.length = xs.length * k := by
    rw [← hul]
    clear hul h2
    induction us with
    | nil => simp
    | cons u r ih => simp [ih (fun v hv => huk v (by simp [hv])), huk u (by simp), Nat.add_mul]; omega
  refine ⟨?_, hfl, huk⟩
  have e1 : ((enum 0 xs).toArray.map fun (i, x) => (i, a.eval x)).toList = enum 0 (xs.map a.eval) := by simp; exact enum_map a.eval xs 0
  have hfill : ∀ zz : List Value, zz.length = xs.length * k → Instr.fill (fun i => some (i * k, k)) zz.toArray (enum 0 (xs.map a.eval)) = some us.flatten.toArray := fun zz hzz => by
    have := fill_enum (k := k) (xs.map a.eval) us 0 [] zz (by simp [hul]) (fun j v u hv hu => by
      simp at hv
      obtain ⟨x, hx, rfl⟩ := hv
      exact h2 j x u hx hu) (by simp) (by simpa using hzz)
    simpa using this
  have hs' : ∀ w, (sizeOf e).run P w = .ok k w := hE.sizeOf
  unfold Instr.buildSlice
  simp only [Sem.run_bind, run_underlying hE.u, Result.andThen_ok, hs', e1]
  have n1 : ¬ (xs.length * k > 2 ^ 24) := by omega
  simp only [n1, if_false]
  by_cases h0 : xs.length * k = 0
  · have hz0 := hfill [] (by simp [h0])
    have e0 : (Array.range 0).map (fun _ : Nat => (default : Value)) = #[] := by simp [Array.range_zero']
    simp [h0, hz0, newRow, e0]
  · have hzz : ((Array.range (xs.length * k)).map fun x => z.cells[x % z.cells.size]!).toList.length = xs.length * k := by simp
    have := hfill _ hzz
    simp only [Array.toArray_toList] at this
    simp [h0, zeroValue, typeInfo, hi, hz, this, newRow]

theorem LR.buildSliceD {n k bs : Nat} {t e : TypeId} {parts : Array (Nat × Operand)} (xs : List Operand) {l : List (List DV)} (hE : ElemOK P t e k bs) (hparts : parts = (enum 0 xs).toArray) (hn : n = xs.length) (hel : Elems s k xs l) (hsmall : n * k ≤ 16777216) (hk0 : 0 < k) :
    Local P ctx ⟨dst, .buildSlice t n parts, ty, pos, after, gd⟩ s (s.putD dst (.d (.sl l))) :=
  local_value (o := ⟨dst, .buildSlice t n parts, ty, pos, after, gd⟩) fun a w g hg => by
    obtain ⟨us, h1, h2, h3, h4⟩ := hel.real hg
    subst hparts
    subst hn
    have hll : l.length = xs.length := hel.len
    obtain ⟨hrun, hfl, huk⟩ := run_buildSlice (P := P) hE h1 h2 hsmall w
    have hres := hg.newData (dst := dst) (e := e) (k := k) (cap := xs.length) (l := l) (cur := us.flatten) (by omega) (by unfold maxLen; have : xs.length ≤ 16777216 := Nat.le_trans (Nat.le_mul_of_pos_right _ hk0) hsmall; omega) hfl hel.each (fun i cs j x hi hx => by
      obtain ⟨u, v, e1, e2, e3⟩ := h4 i cs j x hi hx
      exact ⟨v, flat_get us i j u v huk e1 e2, e3⟩)
    rw [hll] at hres
    exact ⟨_, _, by simp only [execOp, Sem.run_bind, hrun, Result.andThen_ok, Sem.run_pure], hres⟩
end
end Go.Ep

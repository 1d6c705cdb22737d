/- Walks over pure states: the judgements, and the rules for code, for plain operations, and for calls. No program in sight. -/
import Derived.Test.YtacnidaafcfgiaaGreatEp0
namespace Go.Ep
open Go.RowKit

abbrev PQ := Exit → PState → Prop

def lift (ctx : Ctx) (Q : PQ) : Exit → Act → World → Prop := fun e a w => ∃ s, Q e s ∧ Rel ctx s a w

def PWc (P : Program) (ctx : Ctx) (c : Code) (Q : PQ) (s : PState) : Prop := ∀ a w, Rel ctx s a w → c.wp P (lift ctx Q) a w
def PWl (P : Program) (ctx : Ctx) (ops : Array Oper) (Q : PQ) (l : List Oper) (s : PState) : Prop := ∀ a w, Rel ctx s a w → wpList P ops (lift ctx Q) l a w

def Then (K : PState → Prop) (Q : PQ) : PQ
  | .normal, s => K s
  | e, s => Q e s
def InBlk (id : Nat) (Q : PQ) : PQ
  | .exit id', s => if id' = id then Q .normal s else Q (.exit id') s
  | e, s => Q e s

/-- t forgets something of s. -/
def Sub (ctx : Ctx) (s t : PState) : Prop := ∀ a w, Rel ctx s a w → Rel ctx t a w

theorem Rd.of_v {w : World} {g : Ghost} {S : Nat → Prop} {x u : Value} (h : Rd w g S (.d (.v x)) u) : u = x := by
  cases h with
  | d h => cases h; rfl

theorem least {p : Nat → Prop} (h : ∃ n, p n) : ∃ n, p n ∧ ∀ m, p m → n ≤ m := by
  classical
  obtain ⟨n, hn⟩ := h
  induction n using Nat.strongRecOn with
  | _ n ih =>
    by_cases hm : ∃ m, m < n ∧ p m
    · obtain ⟨m, hlt, hp⟩ := hm
      exact ih m hlt hp
    · exact ⟨n, hn, fun m hp => Nat.le_of_not_lt fun hlt => hm ⟨m, hlt, hp⟩⟩

section
variable {P : Program} {ctx : Ctx} {Q : PQ} {s : PState}

theorem PWc.mono {c : Code} {Q' : PQ} (h : PWc P ctx c Q s) (hq : ∀ e t, Q e t → Q' e t) : PWc P ctx c Q' s :=
  fun a w hr => wp_mono (h a w hr) fun e _ _ ⟨t, h1, h2⟩ => ⟨t, hq e t h1, h2⟩
theorem PWc.sub {c : Code} {t : PState} (hs : Sub ctx s t) (h : PWc P ctx c Q t) : PWc P ctx c Q s := fun a w hr => h a w (hs a w hr)
theorem PWl.sub {ops : Array Oper} {l : List Oper} {t : PState} (hs : Sub ctx s t) (h : PWl P ctx ops Q l t) : PWl P ctx ops Q l s := fun a w hr => h a w (hs a w hr)

theorem PWc.skip (h : Q .normal s) : PWc P ctx .skip Q s := fun _ _ hr => wp_skip ⟨s, h, hr⟩
theorem PWc.ret (h : Q .ret s) : PWc P ctx .ret Q s := fun _ _ hr => wp_ret ⟨s, h, hr⟩
theorem PWc.exit {id : Nat} (h : Q (.exit id) s) : PWc P ctx (.exit id) Q s := fun _ _ hr => wp_exit ⟨s, h, hr⟩
theorem PWc.seq {x y : Code} (h : PWc P ctx x (Then (PWc P ctx y Q) Q) s) : PWc P ctx (x.seq y) Q s := fun a w hr =>
  wp_seq (wp_mono (h a w hr) fun e a' w' ⟨t, h1, h2⟩ => by
    cases e <;> first | exact h1 a' w' h2 | exact ⟨t, h1, h2⟩)
theorem PWc.block {id : Nat} {c : Code} (h : PWc P ctx c (InBlk id Q) s) : PWc P ctx (.block id c) Q s := fun a w hr =>
  wp_block (wp_mono (h a w hr) fun e a' w' ⟨t, h1, h2⟩ => by
    cases e with
    | exit id' =>
      simp only [InBlk] at h1
      simp only [Exit.inBlock]
      split at h1
      · rename_i he; rw [if_pos he]; exact ⟨t, h1, h2⟩
      · rename_i he; rw [if_neg he]; exact ⟨t, h1, h2⟩
    | _ => exact ⟨t, h1, h2⟩)
theorem PWc.cond {c : Operand} {x y : Code} {b : Bool} (hc : s.ev c = some (.d (.v (.bool b)))) (ht : b = true → PWc P ctx x Q s) (hf : b = false → PWc P ctx y Q s) : PWc P ctx (.cond c x y) Q s := by
  intro a w hr
  obtain ⟨g, hg⟩ := hr
  have hv : a.eval c = .bool b := (hg.ev hc).of_v
  refine wp_cond hv ?_
  cases b with
  | true => exact ht rfl a w ⟨g, hg⟩
  | false => exact hf rfl a w ⟨g, hg⟩
/-- A loop: X is what changes from round to round, J the state at a round's head, I what holds there, mu what goes down. -/
theorem PWc.loop {c : Code} {X : Type} (J : X → PState) (I : X → Prop) (mu : X → Nat) (x0 : X) (h0 : Sub ctx s (J x0)) (hI : I x0)
    (round : ∀ x, I x → PWc P ctx c (Then (fun t => ∃ y, I y ∧ mu y < mu x ∧ Sub ctx t (J y)) Q) (J x)) : PWc P ctx (.loop c) Q s := by
  intro a w hr
  classical
  let M : Act → World → Nat → Prop := fun a w n => ∃ x, I x ∧ mu x = n ∧ Rel ctx (J x) a w
  have hM : M a w (mu x0) := ⟨x0, hI, rfl, h0 a w hr⟩
  let μ : Act → World → Nat := fun a w => if h : ∃ n, M a w n then Classical.choose (least h) else 0
  refine wp_loop (fun a w => ∃ n, M a w n) μ ⟨_, hM⟩ ?_
  intro a w hI'
  obtain ⟨x, hx, hmx, hrx⟩ := (Classical.choose_spec (least hI')).1
  have hmu : μ a w = mu x := by simp only [μ, dif_pos hI']; exact hmx.symm
  refine wp_mono (round x hx a w hrx) fun e a' w' ⟨t, h1, h2⟩ => ?_
  cases e with
  | normal =>
    obtain ⟨y, hy, hlt, hs⟩ := h1
    have hMy : M a' w' (mu y) := ⟨y, hy, rfl, hs a' w' h2⟩
    refine ⟨⟨_, hMy⟩, ?_⟩
    rw [hmu]
    have : μ a' w' ≤ mu y := by simp only [μ, dif_pos (⟨_, hMy⟩ : ∃ n, M a' w' n)]; exact (Classical.choose_spec (least ⟨_, hMy⟩)).2 _ hMy
    omega
  | _ => exact ⟨t, h1, h2⟩
theorem PWc.region {id : Nat} {l : List Oper} (h : PWl P ctx l.toArray Q l s) : PWc P ctx (.region id l.toArray false) Q s := fun a w hr => wp_region_lit (h a w hr)

theorem PWl.nil {ops : Array Oper} (h : Q .normal s) : PWl P ctx ops Q [] s := fun _ _ hr => wpList_nil ⟨s, h, hr⟩

/-- What one operation does to a pure state. -/
def Local (P : Program) (ctx : Ctx) (o : Oper) (s t : PState) : Prop := ∀ a w, Rel ctx s a w → ∀ K Qx, (∀ a' w', Rel ctx t a' w' → K a' w') → o.wp P a w K Qx

theorem PWl.step {ops : Array Oper} {rest : List Oper} {o : Oper} {t : PState} (hl : Local P ctx o s t) (hg : o.guard = none) (h : PWl P ctx ops Q rest t) : PWl P ctx ops Q (o :: rest) s :=
  fun a w hr => wpList_plain hg fun K hK => hl a w hr K _ fun a' w' hr' => hK a' w' (h a' w' hr')

theorem yielded_of {ops : Array Oper} {a : Act} {w : World} {g : Ghost} (hr : RelG ctx g s a w) {j d : Nat} {b : Bool} (hd : (ops[j]?).bind (·.dst) = some d) (hs : s.at d = some (.d (.v (.bool b)))) : yielded ops a.tmps j = some b := by
  have h1 := hr.slots d _ hs
  have hlt : d < a.tmps.size := by rw [hr.size]; exact at_lt hs
  have hv : a.tmps.getD d undef = .bool b := h1.of_v
  have : a.tmps[d]? = some (.bool b) := by
    rw [Array.getElem?_eq_getElem hlt]
    simp [Array.getD, hlt] at hv
    rw [hv]
  simp [yielded, hd, this]

theorem PWl.guardT {ops : Array Oper} {rest : List Oper} {o : Oper} {t : PState} {j d : Nat} {b : Bool} (hl : Local P ctx o s t) (hg : o.guard = some (j, b)) (hd : (ops[j]?).bind (·.dst) = some d) (hs : s.at d = some (.d (.v (.bool b))))
    (h : PWl P ctx ops Q rest t) : PWl P ctx ops Q (o :: rest) s := fun a w ⟨g, hr⟩ => by
  have hw : Region.wanted o (yielded ops a.tmps) = true := by simp [Region.wanted, hg, yielded_of hr hd hs]
  unfold wpList
  rw [if_pos hw]
  exact .inl (hl a w ⟨g, hr⟩ _ _ fun a' w' hr' => h a' w' hr')

theorem PWl.guardF {ops : Array Oper} {rest : List Oper} {o : Oper} {j d : Nat} {b c : Bool} (hg : o.guard = some (j, b)) (hd : (ops[j]?).bind (·.dst) = some d) (hs : s.at d = some (.d (.v (.bool c)))) (hbc : c ≠ b)
    (h : PWl P ctx ops Q rest (s.putD o.dst PV.und)) : PWl P ctx ops Q (o :: rest) s := fun a w ⟨g, hr⟩ => by
  have hw : Region.wanted o (yielded ops a.tmps) = false := by simp [Region.wanted, hg, yielded_of hr hd hs, hbc]
  exact wpList_skip hw (h _ _ ⟨g, hr.put o.dst Rd.und⟩)

theorem yielded_und {ops : Array Oper} {a : Act} {w : World} {g : Ghost} (hr : RelG ctx g s a w) {j d : Nat} (hd : (ops[j]?).bind (·.dst) = some d) (hs : s.at d = some .und) : yielded ops a.tmps j = none := by
  have h1 := hr.slots d _ hs
  have hlt : d < a.tmps.size := by rw [hr.size]; exact at_lt hs
  have hv : a.tmps.getD d undef = undef := by
    generalize a.tmps.getD d undef = v at h1
    unfold undef
    cases h1
    rfl
  have : a.tmps[d]? = some undef := by
    rw [Array.getElem?_eq_getElem hlt]
    simp [Array.getD, hlt] at hv
    rw [hv]
  simp [yielded, hd, this, undef]

/-- The operation waits for one that was passed by. -/
theorem PWl.guardU {ops : Array Oper} {rest : List Oper} {o : Oper} {j d : Nat} {b : Bool} (hg : o.guard = some (j, b)) (hd : (ops[j]?).bind (·.dst) = some d) (hs : s.at d = some .und)
    (h : PWl P ctx ops Q rest (s.putD o.dst PV.und)) : PWl P ctx ops Q (o :: rest) s := fun a w ⟨g, hr⟩ => by
  have hw : Region.wanted o (yielded ops a.tmps) = false := by simp [Region.wanted, hg, yielded_und hr hd hs]
  exact wpList_skip hw (h _ _ ⟨g, hr.put o.dst Rd.und⟩)

/-! ### Forgetting -/
theorem Sub.refl (s : PState) : Sub ctx s s := fun _ _ h => h
theorem Sub.trans {s t u : PState} (h : Sub ctx s t) (k : Sub ctx t u) : Sub ctx s u := fun a w hr => k a w (h a w hr)

/-- Slots forgotten, objects dropped. -/
theorem Sub.drop {s t : PState} (hlen : s.n = t.n) (hs : ∀ (i : Nat) (p : PV), t.at i = some p → s.at i = some p)
    (ho : ∀ id o, look t.objs id = some o → look s.objs id = some o) : Sub ctx s t := by
  rintro a w ⟨g, h⟩
  have hF : ∀ b, Free ctx g s.objs b → Free ctx g t.objs b := fun b ⟨h1, h2⟩ => ⟨h1, fun id o n hl hg => h2 id o n (ho id o hl) hg⟩
  have hst : Stays w w (Free ctx g s.objs) := ⟨Nat.le_refl _, fun _ _ _ => rfl⟩
  refine ⟨g, ⟨h.defers, by rw [h.size]; exact hlen, ?_, ?_, ?_, ?_, h.os, h.tape, h.output, h.grows, h.keep⟩⟩
  · intro i p hp
    exact (h.slots i p (hs i p hp)).keep hst (fun b hb _ => hF b hb) (fun _ _ => rfl)
  · intro id o hl
    exact (h.objs id o (ho id o hl)).keep hst (fun b hb _ => hF b hb) (fun _ _ _ => rfl) rfl (fun _ _ => rfl)
  · exact fun i j oi oj b n m hi hj => h.inj i j oi oj b n m (ho i oi hi) (ho j oj hj)
  · exact fun id o b n hl => h.own id o b n (ho id o hl)

/-! ### Operations that leave the memory alone -/
theorem local_value {o : Oper} {t : PState} (h : ∀ a w g, RelG ctx g s a w → ∃ v w', (execOp a.eval o).run P w = .ok (.value v) w' ∧ Rel ctx t (a.put o.dst v) w') : Local P ctx o s t := by
  rintro a w ⟨g, hg⟩ K Qx hK
  obtain ⟨v, w', hrun, hr⟩ := h a w g hg
  unfold Oper.wp
  rw [hrun]
  exact hK _ _ hr
theorem local_skip {o : Oper} {t : PState} (h : ∀ a w g, RelG ctx g s a w → ∃ w', (execOp a.eval o).run P w = .ok .skip w' ∧ Rel ctx t (a.put o.dst undef) w') : Local P ctx o s t := by
  rintro a w ⟨g, hg⟩ K Qx hK
  obtain ⟨w', hrun, hr⟩ := h a w g hg
  unfold Oper.wp
  rw [hrun]
  exact hK _ _ hr
/-- A plain value, reckoned in the world as it is. -/
theorem local_pure {o : Oper} {p : PV} (h : ∀ a w g, RelG ctx g s a w → ∃ v, (execOp a.eval o).run P w = .ok (.value v) w ∧ Rd w g (Free ctx g s.objs) p v) : Local P ctx o s (s.putD o.dst p) :=
  local_value fun a w g hg => let ⟨v, h1, h2⟩ := h a w g hg; ⟨v, w, h1, g, hg.put o.dst h2⟩

variable {dst : Option Tmp} {ty : TypeId} {pos : String} {after : Array Edge} {gd : Option (Nat × Bool)}

theorem LR.move {x : Operand} {p : PV} (hx : s.ev x = some p) : Local P ctx ⟨dst, .move x, ty, pos, after, gd⟩ s (s.putD dst p) :=
  local_pure (o := ⟨dst, .move x, ty, pos, after, gd⟩) fun a w _ hg => ⟨a.eval x, by simp [execOp], hg.ev hx⟩
theorem LR.assign {x : Operand} {p : PV} (hx : s.ev x = some p) : Local P ctx ⟨dst, .assign x, ty, pos, after, gd⟩ s (s.putD dst p) :=
  local_pure (o := ⟨dst, .assign x, ty, pos, after, gd⟩) fun a w _ hg => ⟨a.eval x, by simp [execOp], hg.ev hx⟩
/-- A nil slice, as data. -/
theorem LR.assignNil : Local P ctx ⟨dst, .assign (.const (.slice none 0 0)), ty, pos, after, gd⟩ s (s.putD dst (.d (.sl []))) :=
  local_pure (o := ⟨dst, .assign (.const (.slice none 0 0)), ty, pos, after, gd⟩) fun a w _ hg => ⟨.slice none 0 0, by simp [execOp, Act.eval], .d (.nil none 0 (Nat.zero_le _) (fun _ => rfl))⟩

theorem ev_bool {a : Act} {w : World} {g : Ghost} (hg : RelG ctx g s a w) {x : Operand} {b : Bool} (hx : s.ev x = some (.d (.v (.bool b)))) : a.eval x = .bool b := (hg.ev hx).of_v
theorem ev_int {a : Act} {w : World} {g : Ghost} (hg : RelG ctx g s a w) {x : Operand} {k : IntKind} {n : Int} (hx : s.ev x = some (.d (.v (.int k n)))) : a.eval x = .int k n := (hg.ev hx).of_v
theorem ev_v {a : Act} {w : World} {g : Ghost} (hg : RelG ctx g s a w) {x : Operand} {u : Value} (hx : s.ev x = some (.d (.v u))) : a.eval x = u := (hg.ev hx).of_v

theorem LR.pickT {c x y : Operand} {p : PV} (hc : s.ev c = some (.d (.v (.bool true)))) (hx : s.ev x = some p) : Local P ctx ⟨dst, .pick c x y, ty, pos, after, gd⟩ s (s.putD dst p) :=
  local_pure (o := ⟨dst, .pick c x y, ty, pos, after, gd⟩) fun a w _ hg => ⟨a.eval x, by simp [execOp, ev_bool hg hc, asBool], hg.ev hx⟩
theorem LR.pickF {c x y : Operand} {p : PV} (hc : s.ev c = some (.d (.v (.bool false)))) (hy : s.ev y = some p) : Local P ctx ⟨dst, .pick c x y, ty, pos, after, gd⟩ s (s.putD dst p) :=
  local_pure (o := ⟨dst, .pick c x y, ty, pos, after, gd⟩) fun a w _ hg => ⟨a.eval y, by simp [execOp, ev_bool hg hc, asBool], hg.ev hy⟩
theorem LR.not {x : Operand} {b : Bool} {t : TypeId} (hx : s.ev x = some (.d (.v (.bool b)))) : Local P ctx ⟨dst, .unOp .not t x, ty, pos, after, gd⟩ s (s.putD dst (.d (.v (.bool (!b))))) :=
  local_pure (o := ⟨dst, .unOp .not t x, ty, pos, after, gd⟩) fun a w _ hg => ⟨_, by simp [execOp, ev_bool hg hx, Op.unary], .d (.v _ rfl)⟩

/-- The integers' arithmetic and comparisons. -/
theorem local_bin {op : BinOp} {x y : Operand} {k : IntKind} {m n : Int} {u : Value} {t t' : TypeId} (hx : s.ev x = some (.d (.v (.int k m)))) (hy : s.ev y = some (.d (.v (.int k n)))) (hu : ∀ w, (binOp op t (.int k m) (.int k n)).run P w = .ok u w) (h1 : u.oneCell' = true) :
    Local P ctx ⟨dst, .binOp op t x y t', ty, pos, after, gd⟩ s (s.putD dst (.d (.v u))) :=
  local_pure (o := ⟨dst, .binOp op t x y t', ty, pos, after, gd⟩) fun a w _ hg => ⟨u, by simp [execOp, ev_int hg hx, ev_int hg hy, eqGuard_at_int, hu], .d (.v _ h1)⟩

section
variable {x y : Operand} {k : IntKind} {m n : Int} {t t' : TypeId} (hx : s.ev x = some (.d (.v (.int k m)))) (hy : s.ev y = some (.d (.v (.int k n))))
include hx hy
theorem LR.addW : Local P ctx ⟨dst, .binOp .add t x y t', ty, pos, after, gd⟩ s (s.putD dst (.d (.v (.int k (k.wrap (m + n)))))) := local_bin hx hy (fun w => by simp [binOp_add, Op.intArith]) rfl
theorem LR.subW : Local P ctx ⟨dst, .binOp .sub t x y t', ty, pos, after, gd⟩ s (s.putD dst (.d (.v (.int k (k.wrap (m - n)))))) := local_bin hx hy (fun w => by simp [binOp_sub, Op.intArith]) rfl
theorem LR.mulW : Local P ctx ⟨dst, .binOp .mul t x y t', ty, pos, after, gd⟩ s (s.putD dst (.d (.v (.int k (k.wrap (m * n)))))) := local_bin hx hy (fun w => by simp [binOp_mul, Op.intArith]) rfl
theorem LR.quoW (h0 : n ≠ 0) : Local P ctx ⟨dst, .binOp .quo t x y t', ty, pos, after, gd⟩ s (s.putD dst (.d (.v (.int k (k.wrap (m.tdiv n)))))) := local_bin hx hy (fun w => by simp [binOp_quo, Op.intDiv, h0]) rfl
theorem LR.rem (h0 : n ≠ 0) : Local P ctx ⟨dst, .binOp .rem t x y t', ty, pos, after, gd⟩ s (s.putD dst (.d (.v (.int k (m.tmod n))))) := local_bin hx hy (fun w => by simp [binOp_rem, Op.intDiv, h0]) rfl
theorem LR.eql : Local P ctx ⟨dst, .binOp .eql t x y t', ty, pos, after, gd⟩ s (s.putD dst (.d (.v (.bool (decide (m = n)))))) := local_bin hx hy (fun w => by simp [binOp_eql]; rfl) rfl
theorem LR.neq : Local P ctx ⟨dst, .binOp .neq t x y t', ty, pos, after, gd⟩ s (s.putD dst (.d (.v (.bool (!decide (m = n)))))) := local_bin hx hy (fun w => by simp [binOp_neq]; rfl) rfl
theorem LR.lss : Local P ctx ⟨dst, .binOp .lss t x y t', ty, pos, after, gd⟩ s (s.putD dst (.d (.v (.bool (decide (m < n)))))) := local_bin hx hy (fun w => by simp [binOp_lss]) rfl
theorem LR.leq : Local P ctx ⟨dst, .binOp .leq t x y t', ty, pos, after, gd⟩ s (s.putD dst (.d (.v (.bool (decide (m ≤ n)))))) := local_bin hx hy (fun w => by simp [binOp_leq]) rfl
theorem LR.gtr : Local P ctx ⟨dst, .binOp .gtr t x y t', ty, pos, after, gd⟩ s (s.putD dst (.d (.v (.bool (decide (n < m)))))) := local_bin hx hy (fun w => by simp [binOp_gtr]) rfl
theorem LR.geq : Local P ctx ⟨dst, .binOp .geq t x y t', ty, pos, after, gd⟩ s (s.putD dst (.d (.v (.bool (decide (n ≤ m)))))) := local_bin hx hy (fun w => by simp [binOp_geq]) rfl
end

theorem wrap_i64 {n : Int} (h : -9223372036854775808 ≤ n) (h' : n ≤ 9223372036854775807) : IntKind.i64.wrap n = n := by simp [IntKind.wrap, IntKind.bits, IntKind.signed]; omega
theorem wrap_u64 {n : Int} (h : 0 ≤ n) (h' : n ≤ 18446744073709551615) : IntKind.u64.wrap n = n := by simp [IntKind.wrap, IntKind.bits, IntKind.signed]; omega
theorem wrap_u16 {n : Int} (h : 0 ≤ n) (h' : n ≤ 65535) : IntKind.u16.wrap n = n := by simp [IntKind.wrap, IntKind.bits, IntKind.signed]; omega
theorem wrap_u8 {n : Int} (h : 0 ≤ n) (h' : n ≤ 255) : IntKind.u8.wrap n = n := by simp [IntKind.wrap, IntKind.bits, IntKind.signed]; omega

section
variable {x y : Operand} {m n : Int} {t t' : TypeId}
theorem LR.add_i64 (hx : s.ev x = some (.d (.v (.int .i64 m)))) (hy : s.ev y = some (.d (.v (.int .i64 n)))) (h1 : -9223372036854775808 ≤ m + n) (h2 : m + n ≤ 9223372036854775807) :
    Local P ctx ⟨dst, .binOp .add t x y t', ty, pos, after, gd⟩ s (s.putD dst (.d (.v (.int .i64 (m + n))))) := by have := LR.addW (P := P) (ctx := ctx) (dst := dst) (ty := ty) (pos := pos) (after := after) (gd := gd) (t := t) (t' := t') hx hy; rwa [wrap_i64 h1 h2] at this
theorem LR.sub_i64 (hx : s.ev x = some (.d (.v (.int .i64 m)))) (hy : s.ev y = some (.d (.v (.int .i64 n)))) (h1 : -9223372036854775808 ≤ m - n) (h2 : m - n ≤ 9223372036854775807) :
    Local P ctx ⟨dst, .binOp .sub t x y t', ty, pos, after, gd⟩ s (s.putD dst (.d (.v (.int .i64 (m - n))))) := by have := LR.subW (P := P) (ctx := ctx) (dst := dst) (ty := ty) (pos := pos) (after := after) (gd := gd) (t := t) (t' := t') hx hy; rwa [wrap_i64 h1 h2] at this
theorem LR.mul_i64 (hx : s.ev x = some (.d (.v (.int .i64 m)))) (hy : s.ev y = some (.d (.v (.int .i64 n)))) (h1 : -9223372036854775808 ≤ m * n) (h2 : m * n ≤ 9223372036854775807) :
    Local P ctx ⟨dst, .binOp .mul t x y t', ty, pos, after, gd⟩ s (s.putD dst (.d (.v (.int .i64 (m * n))))) := by have := LR.mulW (P := P) (ctx := ctx) (dst := dst) (ty := ty) (pos := pos) (after := after) (gd := gd) (t := t) (t' := t') hx hy; rwa [wrap_i64 h1 h2] at this
theorem LR.add_u64 (hx : s.ev x = some (.d (.v (.int .u64 m)))) (hy : s.ev y = some (.d (.v (.int .u64 n)))) (h1 : 0 ≤ m + n) (h2 : m + n ≤ 18446744073709551615) :
    Local P ctx ⟨dst, .binOp .add t x y t', ty, pos, after, gd⟩ s (s.putD dst (.d (.v (.int .u64 (m + n))))) := by have := LR.addW (P := P) (ctx := ctx) (dst := dst) (ty := ty) (pos := pos) (after := after) (gd := gd) (t := t) (t' := t') hx hy; rwa [wrap_u64 h1 h2] at this
theorem LR.sub_u64 (hx : s.ev x = some (.d (.v (.int .u64 m)))) (hy : s.ev y = some (.d (.v (.int .u64 n)))) (h1 : 0 ≤ m - n) (h2 : m - n ≤ 18446744073709551615) :
    Local P ctx ⟨dst, .binOp .sub t x y t', ty, pos, after, gd⟩ s (s.putD dst (.d (.v (.int .u64 (m - n))))) := by have := LR.subW (P := P) (ctx := ctx) (dst := dst) (ty := ty) (pos := pos) (after := after) (gd := gd) (t := t) (t' := t') hx hy; rwa [wrap_u64 h1 h2] at this
theorem LR.add_u16 (hx : s.ev x = some (.d (.v (.int .u16 m)))) (hy : s.ev y = some (.d (.v (.int .u16 n)))) (h1 : 0 ≤ m + n) (h2 : m + n ≤ 65535) :
    Local P ctx ⟨dst, .binOp .add t x y t', ty, pos, after, gd⟩ s (s.putD dst (.d (.v (.int .u16 (m + n))))) := by have := LR.addW (P := P) (ctx := ctx) (dst := dst) (ty := ty) (pos := pos) (after := after) (gd := gd) (t := t) (t' := t') hx hy; rwa [wrap_u16 h1 h2] at this
/-- Division by what is above 0. -/
theorem LR.quo_i64 (hx : s.ev x = some (.d (.v (.int .i64 m)))) (hy : s.ev y = some (.d (.v (.int .i64 n)))) (h1 : 0 ≤ m) (h2 : 0 < n) (h3 : m ≤ 9223372036854775807) :
    Local P ctx ⟨dst, .binOp .quo t x y t', ty, pos, after, gd⟩ s (s.putD dst (.d (.v (.int .i64 (m / n))))) := by
  have := LR.quoW (P := P) (ctx := ctx) (dst := dst) (ty := ty) (pos := pos) (after := after) (gd := gd) (t := t) (t' := t') hx hy (by omega)
  have h4 : m / n ≤ m := Int.ediv_le_self n h1
  have h5 : 0 ≤ m / n := Int.ediv_nonneg h1 (by omega)
  rwa [Int.tdiv_eq_ediv_of_nonneg h1, wrap_i64 (by omega) (by omega)] at this
end
end
end Go.Ep

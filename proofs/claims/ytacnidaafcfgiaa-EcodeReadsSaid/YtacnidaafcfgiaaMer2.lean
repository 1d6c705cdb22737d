/- Texts that the walks and laws lean on, side by side. -/
import GoSem.Core.View
import Derived.Test.YtacnidaafcfgiaaProg
import Derived.KernelRfl
import Derived.Test.YtacnidaafcfgiaaMer1
set_option linter.unusedVariables false
set_option linter.unusedSimpArgs false
namespace Go.Ep
open Go.RowKit

/-- What is known of 'slices.SortFunc' (number f) with the comparison g: the row holds a permutation of what it held, in which no later one is less than an earlier one. -/
structure SortLaw {α : Type} (P : Program) (f g : FuncId) (k : Nat) (enc : α → List Value) (lt : α → α → Bool) : Prop where
  nil : ∀ w : World, Calls P f #[.slice none 0 0, .func (.func g) #[] #[]] w fun e w' => e = .returned (.tuple #[]) ∧ Below w.heap.size w w'
  row : ∀ (w : World) (blk cap : Nat) (l : List α) (T : TypeId) (cur : List Value), w.heap[blk]? = some (.cells cur.toArray T (0, 0)) → l.length ≤ cap → cur.length = cap * k → l.length < 4611686018427387904 →
    (∀ (i : Nat) (x : α) (j : Nat) (u : Value), l[i]? = some x → (enc x)[j]? = some u → cur[i * k + j]? = some u) →
    Calls P f #[.slice (some ⟨blk, 0, none⟩) l.length cap, .func (.func g) #[] #[]] w fun e w' => e = .returned (.tuple #[]) ∧ ∃ (l' : List α) (cur' : List Value), l'.Perm l ∧ l'.Pairwise (fun x y => lt y x = false) ∧
      w'.heap[blk]? = some (.cells cur'.toArray T (0, 0)) ∧ cur'.length = cur.length ∧ (∀ (i : Nat) (x : α) (j : Nat) (u : Value), l'[i]? = some x → (enc x)[j]? = some u → cur'[i * k + j]? = some u) ∧
      w'.os = w.os ∧ w'.tape = w.tape ∧ w'.output = w.output ∧ w.heap.size ≤ w'.heap.size ∧ ∀ b, b < w.heap.size → b ≠ blk → w'.heap[b]? = w.heap[b]?

section
variable {P : Program} {ctx : Ctx} {Q : PQ} {s : PState}
variable {dst : Option Tmp} {ty : TypeId} {pos : String} {after : Array Edge} {gd : Option (Nat × Bool)}

theorem PWl.sortFn {α : Type} {ops : Array Oper} {rest : List Oper} {id n k : Nat} {e : TypeId} {fx x gx : Operand} {ats : Array TypeId} {f g : FuncId} {enc : α → List Value} {encD : α → List DV} {lt : α → α → Bool} {l : List α} (hS : SortLaw P f g k enc lt)
    (henc : ∀ y, encD y = (enc y).map .v) (h1 : ∀ y, ∀ u ∈ enc y, u.oneCell' = true) (hk : ∀ y, (enc y).length = k) (hfx : s.ev fx = some (.d (.v (.func (.func f) #[] #[])))) (he : ∀ args w, (callFunc f args).run P w = .ok (.enter f args) w) (hx : s.ev x = some (.row id n)) (hgx : s.ev gx = some (.d (.v (.func (.func g) #[] #[]))))
    (hl : look s.objs id = some (.row e k (l.map encD))) (hn : l.length = n) (hlen : l.length < 4611686018427387904) (hgd : gd = none)
    (h : ∀ l' : List α, l'.Perm l → l'.Pairwise (fun x y => lt y x = false) → PWl P ctx ops Q rest ((s.setO id (.row e k (l'.map encD))).putD dst (.tup []))) :
    PWl P ctx ops Q (⟨dst, .call ⟨.value fx, #[x, gx], ats⟩, ty, pos, after, gd⟩ :: rest) s := by
  rintro a w ⟨gh, hg⟩
  refine wpList_plain hgd fun K hK => ?_
  have hxv := hg.ev hx
  have hob := hg.objs id _ hl
  unfold Oper.wp
  rw [exec_call (o := ⟨dst, .call ⟨.value fx, #[x, gx], ats⟩, ty, pos, after, gd⟩) rfl (ev_v hg hfx) he w]
  generalize hv : a.eval x = v at hxv
  have hargs : (#[x, gx] : Array Operand).map a.eval = #[v, .func (.func g) #[] #[]] := by simp [hv, ev_v hg hgx]
  rw [hargs]
  generalize hL : l.map encD = L at hob
  cases hob with
  | rowNil _ _ hgn =>
    have hl0 : l = [] := by simpa using hL
    subst hl0
    cases hxv with
    | row _ _ blk cap hgi => rw [hgn] at hgi; cases hgi
    | rowNil =>
      refine (hS.nil w).mono fun en w' ⟨hen, hb⟩ => ?_
      subst hen
      have hsub : Sub ctx s (s.setO id (.row e k ([].map encD))) := Sub.drop rfl (fun i p hp => hp) (fun j o hj => by
        simp only [PState.setO, look_putO] at hj
        split at hj
        · rename_i ej; subst ej; cases hj; rw [hl]
        · exact hj)
      obtain ⟨g2, hg2⟩ := hsub a w' ⟨gh, hg.below hb⟩
      exact hK _ _ (h [] (List.Perm.refl _) List.Pairwise.nil _ _ ⟨g2, hg2.put dst (.tup [] [] rfl (by simp))⟩)
  | row _ _ _ blk' cap' cur hgi hh hlc hcap hcs hkk hr' =>
    cases hxv with
    | rowNil _ hgn => rw [hgn] at hgi; cases hgi
    | row _ _ blk cap hgi' =>
      rw [hgi] at hgi'
      cases hgi'
      subst hL
      subst hn
      have hcells : ∀ (i : Nat) (y : α) (j : Nat) (u : Value), l[i]? = some y → (enc y)[j]? = some u → cur[i * k + j]? = some u := by
        intro i y j u hi hu
        obtain ⟨v, hv1, hv2⟩ := hr' i (encD y) j (.v u) (by simp [hi]) (by rw [henc]; simp [hu])
        cases hv2 with
        | v _ _ => exact hv1
      refine (hS.row w blk' cap' l e cur hh (by simpa using hlc) hcs hlen hcells).mono fun en w' ⟨hen, l', cur', hperm, hsort, hh', hcl, hc', hos, htape, hout, hsz, hother⟩ => ?_
      subst hen
      have hown := hg.own id _ blk' cap' hl hgi
      have hst : Stays w w' (Free ctx gh s.objs) := ⟨hsz, fun b ⟨_, h2⟩ hlt => hother b hlt fun eb => by subst eb; exact h2 id _ cap' hl hgi⟩
      have hpl : l'.length = l.length := hperm.length_eq
      have hwr := hg.wrote hl hgi (w' := w') hos htape hout hsz hother hown.2 (ob := .row e k (l'.map encD)) (.row e k _ blk' cap' cur' hgi hh' (by simpa [hpl] using hlc) hcap (by rw [hcl]; exact hcs)
        (fun i cs hi => by
          rw [List.getElem?_map] at hi
          cases hy : l'[i]? with
          | none => simp [hy] at hi
          | some y => simp [hy] at hi; subst hi; rw [henc]; simp [hk])
        (fun i cs j d hi hd => by
          rw [List.getElem?_map] at hi
          cases hy : l'[i]? with
          | none => simp [hy] at hi
          | some y =>
            simp [hy] at hi
            subst hi
            rw [henc, List.getElem?_map] at hd
            cases hu : (enc y)[j]? with
            | none => simp [hu] at hd
            | some u => simp [hu] at hd; subst hd; exact ⟨u, hc' i y j u hy hu, .v u (h1 y u (List.mem_of_getElem? hu))⟩))
      exact hK _ _ (h l' hperm hsort _ _ ⟨gh, hwr.put dst (.tup [] [] rfl (by simp))⟩)
end
end Go.Ep

namespace Go.Ep
open Go.RowKit

section
variable {P : Program} {ctx : Ctx} {Q : PQ} {s : PState}
variable {dst : Option Tmp} {ty : TypeId} {pos : String} {after : Array Edge} {gd : Option (Nat × Bool)}

/-- The first m elements of a row of one's own. -/
theorem LR.cutRow {x hi : Operand} {id n m k : Nat} {t e : TypeId} {l : List (List DV)} {kx : IntKind} {j : Int} (js : List Nat) (hu : P.underlying t = some (.slice e)) (hs : ∀ w, (sizeOf e).run P w = .ok k w) (hx : s.ev x = some (.row id n)) (hl : look s.objs id = some (.row e k l)) (hn : l.length = n)
    (hh : s.ev hi = some (.d (.v (.int kx j)))) (hj : j = m) (hm : m ≤ n) (ha : (s.junks js).alone id = true) :
    Local P ctx ⟨dst, .slice t x none (some hi) none, ty, pos, after, gd⟩ s (((s.junks js).setO id (.row e k (l.take m))).putD dst (.row id m)) :=
  local_value (o := ⟨dst, .slice t x none (some hi) none, ty, pos, after, gd⟩) fun a w g hg => by
    have hxv := hg.ev hx
    have hob := hg.objs id _ hl
    have hgj := hg.junks js
    have hlj : look (s.junks js).objs id = some (.row e k l) := by rw [junks_objs]; exact hl
    have hupd : upd g id (g id) = g := by funext q; unfold upd; split <;> simp_all
    have hre : ∀ (ob' : ObRd w g (Free ctx g (putO id (.row e k (l.take m)) (s.junks js).objs)) id (.row e k (l.take m))), RelG ctx g ((s.junks js).setO id (.row e k (l.take m))) a w := fun ob' => by
      have := hgj.reown hlj ha (g id) (ob := .row e k (l.take m)) rfl rfl rfl (Nat.le_refl _) (fun _ _ _ => rfl) (fun b n eb => .inl ⟨n, eb⟩) (by rw [hupd]; exact ob')
      rw [hupd] at this
      exact this
    have hst : Stays w w (Free ctx g s.objs) := ⟨Nat.le_refl _, fun _ _ _ => rfl⟩
    generalize hv : a.eval x = v at hxv
    cases hob with
    | rowNil _ _ hgn =>
      cases hxv with
      | row _ _ blk cap hgi => rw [hgn] at hgi; cases hgi
      | rowNil =>
        have hm0 : m = 0 := by omega
        subst hm0
        refine ⟨.slice none 0 0, w, ?_, g, (hre (.rowNil e k hgn)).put dst (.rowNil id hgn)⟩
        simp [execOp, hv, ev_int hg hh, Instr.sliceAt, Instr.slice, Instr.sliceBounds, run_underlying hu, hs, run_sliceBound' (P := P) hj (show 0 ≤ 0 from Nat.le_refl _), Result.andThen]
    | row _ _ _ blk' cap' cur hgi hh' hlc hcap hcs hkk hr' =>
      cases hxv with
      | rowNil _ hgn => rw [hgn] at hgi; cases hgi
      | row _ _ blk cap hgi' =>
        rw [hgi] at hgi'
        cases hgi'
        have hrow : ObRd w g (Free ctx g (putO id (.row e k (l.take m)) (s.junks js).objs)) id (.row e k (l.take m)) := by
          rw [junks_objs]
          refine .row e k _ blk' cap' cur hgi hh' (by simp; omega) hcap hcs (fun i cs hi => ?_) (fun i cs t x hi hx => ?_)
          · rw [List.getElem?_take] at hi
            split at hi
            · exact hkk i cs hi
            · cases hi
          · rw [List.getElem?_take] at hi
            split at hi
            · obtain ⟨u, h1, h2⟩ := hr' i cs t x hi hx
              exact ⟨u, h1, h2.keep hst (fun b hb _ => free_put hl b hb)⟩
            · cases hi
        refine ⟨.slice (some ⟨blk', 0, none⟩) m cap', w, ?_, g, (hre hrow).put dst (.row id m blk' cap' hgi)⟩
        simp [execOp, hv, ev_int hg hh, Instr.sliceAt, Instr.slice, Instr.sliceBounds, run_underlying hu, hs, run_sliceBound' (P := P) hj (show m ≤ cap' by omega), Addr.add_lit, Result.andThen]
end
end Go.Ep

namespace Go.Ep

/-- A computation: what must hold of what it answers, for it to end and answer so. -/
structure M (α : Type) where
  wp : (α → Prop) → Prop
  mono : ∀ {P Q : α → Prop}, (∀ a, P a → Q a) → wp P → wp Q
  meet : ∀ {P Q : α → Prop}, wp P → wp Q → ∃ a, P a ∧ Q a

namespace M
variable {α β γ σ ρ : Type}

theorem ext' {x y : M α} (h : ∀ Q, x.wp Q ↔ y.wp Q) : x = y := by
  obtain ⟨a, _, _⟩ := x
  obtain ⟨b, _, _⟩ := y
  have : a = b := funext fun Q => propext (h Q)
  subst this
  rfl

def pure (a : α) : M α := ⟨fun Q => Q a, fun h p => h _ p, fun p q => ⟨a, p, q⟩⟩
def bind (x : M α) (f : α → M β) : M β :=
  ⟨fun Q => x.wp fun a => (f a).wp Q, fun h p => x.mono (fun a => (f a).mono h) p, fun p q => let ⟨a, h1, h2⟩ := x.meet p q; (f a).meet h1 h2⟩
def fail : M α := ⟨fun _ => False, fun _ h => h, fun h => h.elim⟩
/-- A condition that must hold. -/
def need (p : Prop) (x : M α) : M α := ⟨fun Q => p ∧ x.wp Q, fun h ⟨h1, h2⟩ => ⟨h1, x.mono h h2⟩, fun ⟨_, h1⟩ ⟨_, h2⟩ => x.meet h1 h2⟩
/-- The answer must be one. -/
def det (x : M α) : M α := ⟨fun Q => ∃ a, x.wp (· = a) ∧ Q a, fun h ⟨a, h1, h2⟩ => ⟨a, h1, h a h2⟩, fun ⟨a, h1, h2⟩ ⟨b, h3, h4⟩ => by
  obtain ⟨c, h5, h6⟩ := x.meet h1 h3
  exact ⟨a, h2, by rw [← h5, h6]; exact h4⟩⟩
/-- Whichever that fits. -/
def any (p : α → Prop) : M α := ⟨fun Q => (∃ a, p a) ∧ ∀ a, p a → Q a, fun h ⟨h0, h1⟩ => ⟨h0, fun a ha => h a (h1 a ha)⟩, fun ⟨⟨a, ha⟩, h1⟩ ⟨_, h2⟩ => ⟨a, h1 a ha, h2 a ha⟩⟩

inductive Step (σ ρ : Type) where
  | next (s : σ)
  | done (r : ρ)
/-- Out of a piece of code: on behind it, or away with an answer. -/
inductive Ex (τ α : Type) where
  | brk (t : τ)
  | ret (a : α)
def exk (k : β → M α) : Ex β α → M α
  | .brk t => k t
  | .ret a => pure a

def Step.post (X : σ → Prop) (Q : ρ → Prop) : Step σ ρ → Prop
  | .next s => X s
  | .done r => Q r

def loopP (body : σ → M (Step σ ρ)) (Q : ρ → Prop) (s : σ) : Prop := ∀ X : σ → Prop, (∀ s, (body s).wp (Step.post X Q) → X s) → X s
theorem loopP_in {body : σ → M (Step σ ρ)} {Q : ρ → Prop} {s : σ} (h : (body s).wp (Step.post (loopP body Q) Q)) : loopP body Q s := fun X hX =>
  hX s ((body s).mono (fun o ho => by cases o with | next s' => exact ho X hX | done r => exact ho) h)
theorem loopP_out {body : σ → M (Step σ ρ)} {Q : ρ → Prop} {s : σ} (h : loopP body Q s) : (body s).wp (Step.post (loopP body Q) Q) :=
  h (fun s => (body s).wp (Step.post (loopP body Q) Q)) fun s hs => (body s).mono (fun o ho => by cases o with | next s' => exact loopP_in ho | done r => exact ho) hs
def loop (body : σ → M (Step σ ρ)) (s : σ) : M ρ :=
  ⟨fun Q => loopP body Q s, fun h p X hX => p X fun s hs => hX s ((body s).mono (fun o ho => by cases o with | next s' => exact ho | done r => exact h r ho) hs), fun {P Q} hp => by
    refine hp (fun s => loopP body Q s → ∃ a, P a ∧ Q a) fun s hs hq => ?_
    obtain ⟨o, h1, h2⟩ := (body s).meet hs (loopP_out hq)
    cases o with
    | next s' => exact h1 h2
    | done r => exact ⟨r, h1, h2⟩⟩

theorem pure_bind (a : α) (f : α → M β) : (pure a).bind f = f a := rfl
theorem bind_assoc (x : M α) (f : α → M β) (g : β → M γ) : (x.bind f).bind g = x.bind fun a => (f a).bind g := rfl
theorem need_true {p : Prop} (h : p) (x : M α) : need p x = x := ext' fun _ => ⟨fun h => h.2, fun hx => ⟨h, hx⟩⟩
theorem eq_pure {x : M α} {a : α} (h : x.wp (· = a)) : x = pure a := ext' fun Q =>
  ⟨fun hq => let ⟨b, h1, h2⟩ := x.meet h hq; by subst h1; exact h2, fun hq => x.mono (fun b hb => by subst hb; exact hq) h⟩
theorem det_pure (a : α) : det (pure a) = pure a := eq_pure ⟨a, rfl, rfl⟩
theorem exk_brk (k : β → M α) (t : β) : exk k (.brk t) = k t := rfl
theorem exk_ret (k : β → M α) (a : α) : exk k (.ret a) = pure a := rfl
theorem loop_eq (body : σ → M (Step σ ρ)) (s : σ) : loop body s = (body s).bind fun o => match o with | .next s' => loop body s' | .done r => pure r := ext' fun Q =>
  ⟨fun h => (body s).mono (fun o ho => by cases o with | next s' => exact ho | done r => exact ho) (loopP_out h), fun h => loopP_in ((body s).mono (fun o ho => by cases o with | next s' => exact ho | done r => exact ho) h)⟩
theorem loop_next {body : σ → M (Step σ ρ)} {s s' : σ} (h : body s = pure (.next s')) : loop body s = loop body s' := by rw [loop_eq, h]; rfl
theorem loop_done {body : σ → M (Step σ ρ)} {s : σ} {r : ρ} (h : body s = pure (.done r)) : loop body s = pure r := by rw [loop_eq, h]; rfl
theorem cond_pure_and (a b : Bool) : (cond a (pure b) (pure false) : M Bool) = pure (a && b) := by cases a <;> rfl
theorem cond_pure_or (a b : Bool) : (cond a (pure true) (pure b) : M Bool) = pure (a || b) := by cases a <;> rfl
end M

namespace M
variable {α β : Type}
/-- An element. -/
def idx (l : List α) (i : Int) : M α := ⟨fun Q => ∃ y, (0 ≤ i ∧ l[i.toNat]? = some y) ∧ Q y, fun h ⟨y, h1, h2⟩ => ⟨y, h1, h y h2⟩, fun ⟨y, h1, h2⟩ ⟨z, h3, h4⟩ => ⟨y, h2, by have := h1.2.symm.trans h3.2; cases this; exact h4⟩⟩
theorem idx_eq {l : List α} {i : Int} {y : α} (h0 : 0 ≤ i) (h : l[i.toNat]? = some y) : idx l i = pure y := eq_pure ⟨y, ⟨h0, h⟩, rfl⟩
theorem idx_nat {l : List α} {i : Nat} {y : α} (h : l[i]? = some y) : idx l (i : Int) = pure y := idx_eq (by omega) (by simpa using h)
/-- More behind, each of so many bytes. -/
def app (bs : Nat) (l r : List α) : M (List α) := need ((l.length + r.length) * bs ≤ 140737488355328) (pure (l ++ r))
/-- Another element in a place. -/
def upd (l : List α) (i : Int) (y : α) : M (List α) := need (0 ≤ i ∧ i < l.length) (pure (l.set i.toNat y))
end M

/-- A string's bytes; a string of bytes. -/
def bytesL (s : ByteArray) : List Int := s.data.toList.map fun b => (b.toNat : Int)
def strL (l : List Int) : ByteArray := l.foldl (fun r n => r.push (UInt8.ofNat n.toNat)) ByteArray.empty
def bAnd (k : IntKind) (x y : Int) : Int := k.wrap (BitVec.ofInt k.bits x &&& BitVec.ofInt k.bits y).toNat
def bOr (k : IntKind) (x y : Int) : Int := k.wrap (BitVec.ofInt k.bits x ||| BitVec.ofInt k.bits y).toNat
namespace AL
variable {κ ν : Type} [DecidableEq κ]
def get : List (κ × ν) → κ → Option ν
  | [], _ => none
  | (k, v) :: r, x => if k = x then some v else get r x
def set : List (κ × ν) → κ → ν → List (κ × ν)
  | [], x, u => [(x, u)]
  | (k, v) :: r, x, u => if k = x then (k, u) :: r else (k, v) :: set r x u
def getZ (m : List (κ × ν)) (x : κ) (z : ν) : ν := (get m x).getD z
def has (m : List (κ × ν)) (x : κ) : Bool := (get m x).isSome
/-- Rows that grow, by keys. -/
def grow {α : Type} (m : List (κ × List α)) (l : List (κ × List α)) : List (κ × List α) := l.foldl (fun m x => set m x.1 (getZ m x.1 [] ++ x.2)) m
def growOK {α : Type} (bs n : Nat) (l : List (κ × List α)) : Prop := n < 9223372036854775807 ∧ (l.map fun x => x.2.length).sum * bs ≤ 140737488355328
end AL

namespace M
/-- The next entry of a map that is gone over: none, if all came; whichever that has not come, else. -/
def nxt (n : Nat) (L : List Nat) : M (Option Nat) := any fun o => match o with | none => ∀ i, i < n → i ∈ L | some i => i < n ∧ i ∉ L
/-- Is a list nil? At most one without elements is. -/
def isNil {α : Type} (l : List α) : M Bool := any fun b => b = true → l = []
/-- Sorted. -/
def srt {α : Type} (lt : α → α → Bool) (l : List α) : M (List α) := any fun l' => l'.Perm l ∧ l'.Pairwise fun x y => lt y x = false
end M
end Go.Ep

namespace Go.Ep
open Go.RowKit

section
variable {α β : Type} {Q : β → Prop}
theorem iIdx {l : List α} {i : Int} {k : α → M β} (h : ((M.idx l i).bind k).wp Q) : ∃ y, (0 ≤ i ∧ l[i.toNat]? = some y) ∧ (k y).wp Q := h
theorem iNeed {p : Prop} {x : M β} (h : (M.need p x).wp Q) : p ∧ x.wp Q := h
theorem iDet {x : M α} {k : α → M β} (h : (x.det.bind k).wp Q) : ∃ r, x.wp (· = r) ∧ (k r).wp Q := h
theorem iSrt {lt : α → α → Bool} {l : List α} {k : List α → M β} (h : ((M.srt lt l).bind k).wp Q) : ∀ l' : List α, l'.Perm l → l'.Pairwise (fun x y => lt y x = false) → (k l').wp Q := fun l' h1 h2 => h.2 l' ⟨h1, h2⟩
theorem iNil {l : List α} {k : Bool → M β} (h : ((M.isNil l).bind k).wp Q) : ∀ b, (b = true → l = []) → (k b).wp Q := fun b hb => h.2 b hb
theorem iBind {x : M α} {k : α → M β} (h : (x.bind k).wp Q) : x.wp fun a => (k a).wp Q := h
theorem iT {b : Bool} {x y : M β} (hb : b = true) (h : (cond b x y).wp Q) : x.wp Q := by subst hb; exact h
theorem iF {b : Bool} {x y : M β} (hb : b = false) (h : (cond b x y).wp Q) : y.wp Q := by subst hb; exact h
end

def encM {κ ν : Type} (eK : κ → List Int) (eV : ν → List DV) (m : List (κ × ν)) : Mp := m.map fun x => (eK x.1, eV x.2)
section
variable {κ ν : Type} [DecidableEq κ] {eK : κ → List Int} {eV : ν → List DV} (inj : ∀ a b, eK a = eK b → a = b)
include inj
theorem mget_encM (m : List (κ × ν)) (k : κ) : mget (encM eK eV m) (eK k) = (AL.get m k).map eV := by
  induction m with
  | nil => rfl
  | cons x r ih =>
    obtain ⟨a, v⟩ := x
    show (if eK a = eK k then _ else _) = _
    by_cases h : a = k
    · subst h; simp [AL.get]
    · rw [if_neg (fun e => h (inj _ _ e))]
      simp only [AL.get, h, if_false]
      exact ih
end
section
variable {P : Program} {ctx : Ctx} {Q : PQ} {s : PState}
variable {dst : Option Tmp} {ty : TypeId} {pos : String} {after : Array Edge} {gd : Option (Nat × Bool)}

def LoopAt (P : Program) (c : Code) (Q : Exit → Act → World → Prop) (a : Act) (w : World) : Prop := ∀ (b : Frame) (k : List Item) (cs : List Frame),
  ∃ e a' w', Q e a' w' ∧ Arrives P (lone (b.at a (.code c :: .inLoop c :: k)) cs w) b k cs e a' w'
theorem LoopAt.step {c : Code} {Q : Exit → Act → World → Prop} {a : Act} {w : World} (h : c.wp P (Exit.then (LoopAt P c Q) Q) a w) : LoopAt P c Q a w := by
  intro b k cs
  obtain ⟨e, a₁, w₁, hq, harr⟩ := h b (.inLoop c :: k) cs
  cases e with
  | normal =>
    obtain ⟨e₂, a₂, w₂, hq₂, harr₂⟩ := hq b k cs
    exact ⟨e₂, a₂, w₂, hq₂, .of_steps (Steps.trans harr (.one step_inLoop)) harr₂⟩
  | exit id => exact ⟨_, a₁, w₁, hq, .pass (x := .inLoop c) rfl (fun _ _ => .inl (by simp)) harr⟩
  | goto l => exact ⟨_, a₁, w₁, hq, .pass (x := .inLoop c) rfl (fun _ _ => .inl (by simp)) harr⟩
  | ret => exact ⟨_, a₁, w₁, hq, .pass (x := .inLoop c) rfl (fun _ _ => .inl (by simp)) harr⟩
  | panic ch => exact ⟨_, a₁, w₁, hq, .pass (x := .inLoop c) rfl (fun _ _ => .inl (by simp)) harr⟩
  | outgrown => exact ⟨_, a₁, w₁, hq, .pass (x := .inLoop c) rfl (fun _ _ => .inl (by simp)) harr⟩
theorem LoopAt.loop {c : Code} {Q : Exit → Act → World → Prop} {a : Act} {w : World} (h : LoopAt P c Q a w) : (Code.loop c).wp P Q a w := fun b k cs =>
  let ⟨e, a', w', hq, harr⟩ := h b k cs
  ⟨e, a', w', hq, .of_steps (.one step_loop) harr⟩

theorem PWc.loopM {σ ρ G : Type} {c : Code} {body : σ → M (M.Step σ ρ)} {s0 : σ} {R : ρ → Prop} (J : σ → G → PState) (g0 : G) (h : (M.loop body s0).wp R) (hs : Sub ctx s (J s0 g0))
    (round : ∀ (N : σ → Prop) (x : σ) (g : G), (body x).wp (M.Step.post N R) → PWc P ctx c (Then (fun t => ∃ y g', N y ∧ Sub ctx t (J y g')) Q) (J x g)) : PWc P ctx (.loop c) Q s := by
  intro a w hr
  refine LoopAt.loop ?_
  have key : ∀ g a w, Rel ctx (J s0 g) a w → LoopAt P c (lift ctx Q) a w := by
    refine h (fun x => ∀ g a w, Rel ctx (J x g) a w → LoopAt P c (lift ctx Q) a w) fun x hx g a w hr => ?_
    refine LoopAt.step (wp_mono (round _ x g hx a w hr) fun e a' w' ⟨t, h1, h2⟩ => ?_)
    cases e with
    | normal =>
      obtain ⟨y, g', hy, hsub⟩ := h1
      exact hy g' a' w' (hsub a' w' h2)
    | _ => exact ⟨t, h1, h2⟩
  exact key g0 a w (hs a w hr)

def Jn (ctx : Ctx) (Q : PQ) {τ G : Type} (J : τ → G → PState) (N : τ → Prop) : PQ
  | .normal, t => ∃ v g, N v ∧ Sub ctx t (J v g)
  | e, t => Q e t
section
variable {α : Type} {enc : α → List DV} {L R : List α}
theorem LR.idxT {x ix : Operand} {ki : IntKind} {i : Int} {k : Nat} {y : α} {t e : TypeId} (hu : P.underlying t = some (.slice e)) (hs : ∀ w, (sizeOf e).run P w = .ok k w)
    (hx : s.ev x = some (.d (.sl (L.map enc)))) (hix : s.ev ix = some (.d (.v (.int ki i)))) (hy : 0 ≤ i ∧ L[i.toNat]? = some y) (hk : ∀ x, (enc x).length = k) :
    Local P ctx ⟨dst, .indexAddr t x ix, ty, pos, after, gd⟩ s (s.putD dst (.ep (enc y) 0)) :=
  LR.idxSl (n := i.toNat) hu hs hx hix (by omega) (by simp [hy.2]) (hk _)
theorem LR.idxRowT {x ix : Operand} {id m : Nat} {ki : IntKind} {i : Int} {k : Nat} {y : α} {t e : TypeId} (hu : P.underlying t = some (.slice e)) (hs : ∀ w, (sizeOf e).run P w = .ok k w)
    (hx : s.ev x = some (.row id m)) (hm : m = L.length) (hix : s.ev ix = some (.d (.v (.int ki i)))) (hy : 0 ≤ i ∧ L[i.toNat]? = some y) :
    Local P ctx ⟨dst, .indexAddr t x ix, ty, pos, after, gd⟩ s (s.putD dst (.rp id i.toNat 0 k)) :=
  LR.idxRow hu hs hx hix (by omega) (by rw [hm]; exact (List.getElem?_eq_some_iff.1 hy.2).1)
theorem LR.loadRpT {x : Operand} {id n k : Nat} {T T0 : TypeId} {y : α} (ha : ∀ w, (isAgg T).run P w = .ok true w) (hs : ∀ w, (sizeOf T).run P w = .ok k w) (hx : s.ev x = some (.rp id n 0 k)) (hl : look s.objs id = some (.row T0 k (L.map enc))) (hy : L[n]? = some y) :
    Local P ctx ⟨dst, .load T x, ty, pos, after, gd⟩ s (s.putD dst (.agg ((enc y).map .d))) := LR.loadRpAgg ha hs hx hl (by simp [hy])
theorem LR.storeRpT {x y : Operand} {id n o k m : Nat} {T T0 : TypeId} {a b : α} {ys : List DV} {p : PV} (hs : ∀ w, (sizeOf T).run P w = .ok m w) (hx : s.ev x = some (.rp id n o k)) (hy : s.ev y = some p) (hp : p.dparts = some ys) (hm : ys.length = m)
    (hl : look s.objs id = some (.row T0 k (L.map enc))) (hi : L[n]? = some a) (hlen : Nat.ble (o + m) k = true) (hns : (enc a).take o ++ ys ++ (enc a).drop (o + m) = enc b) :
    Local P ctx ⟨none, .store T x y, ty, pos, after, gd⟩ s (s.setO id (.row T0 k ((L.set n b).map enc))) := by
  have := LR.storeRpB (P := P) (ctx := ctx) (ty := ty) (pos := pos) (after := after) (gd := gd) hs hx hy hp hm hl (by simp [hi]) hlen hns
  rwa [← List.map_set] at this
theorem LR.cutT {x lo hi : Operand} {k : Nat} {t e : TypeId} {k1 k2 : IntKind} {i j : Int} (hu : P.underlying t = some (.slice e)) (hs : ∀ w, (sizeOf e).run P w = .ok k w) (hx : s.ev x = some (.d (.sl (L.map enc)))) (hk : ∀ x, (enc x).length = k)
    (h1 : s.ev lo = some (.d (.v (.int k1 i)))) (h2 : s.ev hi = some (.d (.v (.int k2 j)))) (hb : 0 ≤ i ∧ i ≤ j ∧ j ≤ L.length) :
    Local P ctx ⟨dst, .slice t x (some lo) (some hi) none, ty, pos, after, gd⟩ s (s.putD dst (.d (.sl (((L.take j.toNat).drop i.toNat).map enc)))) := by
  have := LR.sliceLH (P := P) (ctx := ctx) (dst := dst) (ty := ty) (pos := pos) (after := after) (gd := gd) (m := i.toNat) (n := j.toNat) hu hs hx (eachMap hk L) h1 h2 (by omega) (by omega) (by omega) (by simp; omega)
  rwa [← List.map_take, ← List.map_drop] at this
theorem LR.cutLT {x lo : Operand} {k : Nat} {t e : TypeId} {k1 : IntKind} {i : Int} (hu : P.underlying t = some (.slice e)) (hs : ∀ w, (sizeOf e).run P w = .ok k w) (hx : s.ev x = some (.d (.sl (L.map enc)))) (hk : ∀ x, (enc x).length = k)
    (h1 : s.ev lo = some (.d (.v (.int k1 i)))) (hb : 0 ≤ i ∧ i ≤ (L.length : Int) ∧ (L.length : Int) ≤ L.length) :
    Local P ctx ⟨dst, .slice t x (some lo) none none, ty, pos, after, gd⟩ s (s.putD dst (.d (.sl (((L.take (L.length : Int).toNat).drop i.toNat).map enc)))) := by
  have := LR.sliceL (P := P) (ctx := ctx) (dst := dst) (ty := ty) (pos := pos) (after := after) (gd := gd) (m := i.toNat) hu hs hx (eachMap hk L) h1 (by omega) (by simp; omega)
  rw [← List.map_drop] at this
  simpa using this
theorem LR.cutHT {x hi : Operand} {k : Nat} {t e : TypeId} {k2 : IntKind} {j : Int} (hu : P.underlying t = some (.slice e)) (hs : ∀ w, (sizeOf e).run P w = .ok k w) (hx : s.ev x = some (.d (.sl (L.map enc)))) (hk : ∀ x, (enc x).length = k)
    (h2 : s.ev hi = some (.d (.v (.int k2 j)))) (hb : 0 ≤ (0 : Int) ∧ 0 ≤ j ∧ j ≤ L.length) :
    Local P ctx ⟨dst, .slice t x none (some hi) none, ty, pos, after, gd⟩ s (s.putD dst (.d (.sl (((L.take j.toNat).drop (0 : Int).toNat).map enc)))) := by
  have := LR.sliceH (P := P) (ctx := ctx) (dst := dst) (ty := ty) (pos := pos) (after := after) (gd := gd) (n := j.toNat) hu hs hx (eachMap hk L) h2 (by omega) (by simp; omega)
  rw [← List.map_take] at this
  simpa using this
theorem LR.appT {x y : Operand} {id m k bs : Nat} {t t' e e' : TypeId} (js : List Nat) (hE : ElemOK P t e k bs) (hu' : P.underlying t' = some (.slice e')) (hx : s.ev x = some (.row id m)) (hm : m = L.length) (hl : look s.objs id = some (.row e k (L.map enc)))
    (hy : Src ctx s y (R.map enc) k) (hk : ∀ x, (enc x).length = k) (hb : (L.length + R.length) * bs ≤ 140737488355328) (h1 : Nat.ble 1 bs = true) (ha : (s.junks js).alone id = true) :
    Local P ctx ⟨dst, .call ⟨.builtin .append, #[x, y], #[t, t']⟩, ty, pos, after, gd⟩ s (((s.junks js).setO id (.row e k ((L ++ R).map enc))).putD dst (.row id (L ++ R).length)) := by
  subst hm
  have h2 := Nat.le_of_ble_eq_true h1
  have h3 : (L.length + R.length) * 1 ≤ (L.length + R.length) * bs := Nat.mul_le_mul_left _ h2
  have := LR.append (P := P) (ctx := ctx) (dst := dst) (ty := ty) (pos := pos) (after := after) (gd := gd) js hE hu' hx hl (by simp) hy (eachMap hk R) (by simpa using hb) (by simp; omega) ha
  simpa using this
theorem LR.appNilT {id k bs : Nat} {y : Operand} {t t' e e' : TypeId} (hE : ElemOK P t e k bs) (hu' : P.underlying t' = some (.slice e')) (hf : s.fresh id = true)
    (hy : Src ctx { s with objs := putO id (.row e k []) s.objs } y (R.map enc) k) (hk : ∀ x, (enc x).length = k) (hb : R.length * bs ≤ 140737488355328) (h1 : Nat.ble 1 bs = true) (ha : ({ s with objs := putO id (.row e k []) s.objs } : PState).alone id = true) :
    Local P ctx ⟨some id, .call ⟨.builtin .append, #[.const (.slice none 0 0), y], #[t, t']⟩, ty, pos, after, gd⟩ s ((({ s with objs := putO id (.row e k []) s.objs } : PState).setO id (.row e k (R.map enc))).putD (some id) (.row id R.length)) := by
  have h2 := Nat.le_of_ble_eq_true h1
  have h3 : R.length * 1 ≤ R.length * bs := Nat.mul_le_mul_left _ h2
  have := LR.appendNil (P := P) (ctx := ctx) (ty := ty) (pos := pos) (after := after) (gd := gd) hE hu' hf hy (eachMap hk R) (by simpa using hb) (by simp; omega) ha
  simpa using this
theorem Src.slT {y : Operand} {k : Nat} (hy : s.ev y = some (.d (.sl (R.map enc)))) (hk : ∀ x, (enc x).length = k) : Src ctx s y (R.map enc) k := Src.sl hy (eachMap hk R)
theorem Src.rowT {y : Operand} {id m k : Nat} {T : TypeId} (hy : s.ev y = some (.row id m)) (hl : look s.objs id = some (.row T k (R.map enc))) (hm : m = R.length) : Src ctx s y (R.map enc) k := Src.row hy hl (by simpa using hm.symm)
theorem LR.rowT {id : Nat} {x : Operand} {xs : List Operand} {ats : Array TypeId} {f : FuncId} {ps : List PV} {e : TypeId} {k : Nat} (hc : PRow P f ps e k (L.map enc)) (hx : s.ev x = some (.d (.v (.func (.func f) #[] #[])))) (he : ∀ args w, (callFunc f args).run P w = .ok (.enter f args) w)
    (hps : s.evs xs = some ps) (hd : PV.isData.isDataL ps = true) (hf : s.fresh id = true) :
    Local P ctx ⟨some id, .call ⟨.value x, xs.toArray, ats⟩, ty, pos, after, gd⟩ s (s.newO id (.row e k (L.map enc)) (.row id L.length)) := by
  have := LR.callRow (P := P) (ctx := ctx) (ty := ty) (pos := pos) (after := after) (gd := gd) (id := id) (ats := ats) hc hx he hps hd hf
  rwa [List.length_map] at this
end

section
variable {κ ν : Type} [DecidableEq κ] {eK : κ → List Int} {eV : ν → List DV} {m : List (κ × ν)} {q : κ} {zv : ν} (inj : ∀ a b, eK a = eK b → a = b)
variable {x kx : Operand} {t kt et : TypeId} {ks : List IntKind} {ag : Bool} {z : Value} {p kp : PV}
theorem getD_map {o : Option ν} : (o.map eV).getD (eV zv) = eV (o.getD zv) := by cases o <;> rfl
section
variable (hu : P.underlying t = some (.map kt et)) (K : KeyOK P kt ks) (hz : ∀ w, (zeroValue et).run P w = .ok z w) (hzr : ∀ (w : World) (g : Ghost) (S : Nat → Prop), Rd w g S (elP ag (eV zv)) z) (hk : s.ev kx = some kp) (hkp : kp = keyP ks (eK q)) (hn : (eK q).length = ks.length) (hp : elP ag (eV (AL.getZ m q zv)) = p)
include inj hu K hz hzr hk hkp hn hp
theorem LR.getD (hx : s.ev x = some (.md ks ag (encM eK eV m))) : Local P ctx ⟨dst, .lookup t x kx false, ty, pos, after, gd⟩ s (s.putD dst p) :=
  LR.lookupD hu K hz hzr (by rw [hk, hkp]) hn (by rw [mget_encM inj, getD_map]; exact hp) hx
end
section
variable {id : Nat} {bs : List Nat} {ck : Nat} {vx : Operand} {v : ν} (hu : P.underlying t = some (.map kt et)) (K : KeyOK P kt ks) (hx : s.ev x = some (.mp id)) (hl : look s.objs id = some (.map ks ag (encM eK eV m) bs ck))
    (hk : s.ev kx = some kp) (hkp : kp = keyP ks (eK q)) (hn : (eK q).length = ks.length)
include inj hu K hx hl hk hkp hn
end
end
end
end Go.Ep
namespace Go.Ep
def PV.nilD : PV → PV
  | .d (.v (.slice none 0 0)) => .d (.sl [])
  | p => p
theorem Rd.nilD {w : World} {g : Ghost} {S : Nat → Prop} {p : PV} {u : Value} (h : Rd w g S p u) : Rd w g S p.nilD u := by
  unfold PV.nilD
  split
  · have := h.of_v; subst this; exact .d (.nil none 0 (Nat.zero_le _) (fun _ => rfl))
  · exact h
section
variable {P : Program} {ctx : Ctx} {Q : PQ} {s : PState}
variable {dst : Option Tmp} {ty : TypeId} {pos : String} {after : Array Edge} {gd : Option (Nat × Bool)}
theorem PV.isData_nilD {p : PV} (h : p.nilD.isData = true) : p.isData = true := by
  unfold PV.nilD at h
  split at h
  · rfl
  · exact h
theorem isDataL_nilD : ∀ {ps : List PV}, PV.isData.isDataL (ps.map PV.nilD) = true → PV.isData.isDataL ps = true
  | [], _ => rfl
  | p :: r, h => by
    simp only [List.map_cons, PV.isData.isDataL, Bool.and_eq_true] at h ⊢
    exact ⟨PV.isData_nilD h.1, isDataL_nilD h.2⟩
theorem PFun.nilD {f : FuncId} {ps : List PV} {r : PV} (h : PFun P f (ps.map PV.nilD) r) : PFun P f ps r := fun w S vs hl hv =>
  h w S vs (by simpa using hl) fun i p v hp hu => by
    rw [List.getElem?_map] at hp
    cases hq : ps[i]? with
    | none => simp [hq] at hp
    | some q => simp [hq] at hp; subst hp; exact (hv i q v hq hu).nilD
theorem PRow.nilD {f : FuncId} {ps : List PV} {e : TypeId} {k : Nat} {l : List (List DV)} (h : PRow P f (ps.map PV.nilD) e k l) : PRow P f ps e k l := fun w S vs hl hv =>
  h w S vs (by simpa using hl) fun i p v hp hu => by
    rw [List.getElem?_map] at hp
    cases hq : ps[i]? with
    | none => simp [hq] at hp
    | some q => simp [hq] at hp; subst hp; exact (hv i q v hq hu).nilD
theorem PMap.nilD {f : FuncId} {ps : List PV} {ks : List IntKind} {ag : Bool} {m : Mp} (h : PMap P f (ps.map PV.nilD) ks ag m) : PMap P f ps ks ag m := fun w S vs hl hv =>
  h w S vs (by simpa using hl) fun i p v hp hu => by
    rw [List.getElem?_map] at hp
    cases hq : ps[i]? with
    | none => simp [hq] at hp
    | some q => simp [hq] at hp; subst hp; exact (hv i q v hq hu).nilD
theorem LR.callN {x : Operand} {xs : List Operand} {ats : Array TypeId} {f : FuncId} {ps qs : List PV} {r : PV} (hc : PFun P f ps r) (hx : s.ev x = some (.d (.v (.func (.func f) #[] #[])))) (he : ∀ args w, (callFunc f args).run P w = .ok (.enter f args) w)
    (hps : s.evs xs = some qs) (hq : qs.map PV.nilD = ps) (hd : PV.isData.isDataL ps = true) (hr : r.isData = true) :
    Local P ctx ⟨dst, .call ⟨.value x, xs.toArray, ats⟩, ty, pos, after, gd⟩ s (s.putD dst r) := by
  subst hq
  exact LR.call hc.nilD hx he hps (isDataL_nilD hd) hr
theorem LR.rowN {α : Type} {enc : α → List DV} {L : List α} {id : Nat} {x : Operand} {xs : List Operand} {ats : Array TypeId} {f : FuncId} {ps qs : List PV} {e : TypeId} {k : Nat} (hc : PRow P f ps e k (L.map enc)) (hx : s.ev x = some (.d (.v (.func (.func f) #[] #[])))) (he : ∀ args w, (callFunc f args).run P w = .ok (.enter f args) w)
    (hps : s.evs xs = some qs) (hq : qs.map PV.nilD = ps) (hd : PV.isData.isDataL ps = true) (hf : s.fresh id = true) :
    Local P ctx ⟨some id, .call ⟨.value x, xs.toArray, ats⟩, ty, pos, after, gd⟩ s (s.newO id (.row e k (L.map enc)) (.row id L.length)) := by
  subst hq
  exact LR.rowT hc.nilD hx he hps (isDataL_nilD hd) hf
end
end Go.Ep
namespace Go.Ep
def eK (k : IntKind) (n : Int) : List DV := [.v (.int k n)]
def eL {α : Type} (enc : α → List DV) (l : List α) : List DV := [.sl (l.map enc)]
section
variable {P : Program} {ctx : Ctx} {Q : PQ} {s : PState}
variable {dst : Option Tmp} {ty : TypeId} {pos : String} {after : Array Edge} {gd : Option (Nat × Bool)}

/-- Ways that meet again. -/
theorem PWc.jn {c : Code} {τ G : Type} {m : M τ} {N : τ → Prop} (h : m.wp N) (J : τ → G → PState) (i : m.wp N → PWc P ctx c (Jn ctx Q J N) s) (k : ∀ v g, N v → Q .normal (J v g))
    (hK : ∀ t u, Sub ctx t u → Q .normal u → Q .normal t := by first | exact fun _ _ hs h => PWc.sub hs h | exact fun _ _ hs ⟨v, g, h1, h2⟩ => ⟨v, g, h1, Sub.trans hs h2⟩) : PWc P ctx c Q s :=
  (i h).mono fun e t hq => by
    cases e with
    | normal => obtain ⟨v, g, hv, hs⟩ := hq; exact hK t _ hs (k v g hv)
    | _ => exact hq
theorem PWc.jnX {c : Code} {τ G α : Type} {m : M (M.Ex τ α)} {N : M.Ex τ α → Prop} (h : m.wp N) (J : τ → G → PState) (i : m.wp N → PWc P ctx c (Jn ctx Q J fun v => N (.brk v)) s) (k : ∀ v g, N (.brk v) → Q .normal (J v g))
    (hK : ∀ t u, Sub ctx t u → Q .normal u → Q .normal t := by first | exact fun _ _ hs h => PWc.sub hs h | exact fun _ _ hs ⟨v, g, h1, h2⟩ => ⟨v, g, h1, Sub.trans hs h2⟩) : PWc P ctx c Q s :=
  (i h).mono fun e t hq => by
    cases e with
    | normal => obtain ⟨v, g, hv, hs⟩ := hq; exact hK t _ hs (k v g hv)
    | _ => exact hq

section
variable {κ ν : Type} {eK : κ → List Int} {eV : ν → List DV} {m : List (κ × ν)}
end
end
end Go.Ep
namespace Go.Ep
section
variable {P : Program} {ctx : Ctx} {Q : PQ} {s : PState}
variable {dst : Option Tmp} {ty : TypeId} {pos : String} {after : Array Edge} {gd : Option (Nat × Bool)}
section
variable {x y : Operand} {k ky : IntKind} {m n r : Int} {t t' : TypeId} (hx : s.ev x = some (.d (.v (.int k m)))) (hy : s.ev y = some (.d (.v (.int ky n))))
include hx hy
theorem LR.shr (h0 : 0 ≤ n) (hr : m.fdiv (2 ^ min n.toNat k.bits) = r) : Local P ctx ⟨dst, .binOp .shr t x y t', ty, pos, after, gd⟩ s (s.putD dst (.d (.v (.int k r)))) := by
  subst hr
  have hn : ¬ n < 0 := by omega
  exact local_pure (o := ⟨dst, .binOp .shr t x y t', ty, pos, after, gd⟩) fun a w _ hg => ⟨_, by simp [execOp, ev_int hg hx, ev_int hg hy, eqGuard_shr, binOp_shr, Op.shift, hn], .d (.v _ rfl)⟩
theorem LR.shl (h0 : 0 ≤ n) (hr : k.wrap (m * 2 ^ min n.toNat k.bits) = r) : Local P ctx ⟨dst, .binOp .shl t x y t', ty, pos, after, gd⟩ s (s.putD dst (.d (.v (.int k r)))) := by
  subst hr
  have hn : ¬ n < 0 := by omega
  exact local_pure (o := ⟨dst, .binOp .shl t x y t', ty, pos, after, gd⟩) fun a w _ hg => ⟨_, by simp [execOp, ev_int hg hx, ev_int hg hy, eqGuard_shl, binOp_shl, Op.shift, hn], .d (.v _ rfl)⟩
end
section
variable {x y : Operand} {k : IntKind} {m n : Int} {t t' : TypeId} (hx : s.ev x = some (.d (.v (.int k m)))) (hy : s.ev y = some (.d (.v (.int k n))))
include hx hy
theorem LR.and : Local P ctx ⟨dst, .binOp .and t x y t', ty, pos, after, gd⟩ s (s.putD dst (.d (.v (.int k (Go.bits .and k m n))))) := local_bin hx hy (fun w => by simp [binOp_and, intBits_and]) rfl
theorem LR.or : Local P ctx ⟨dst, .binOp .or t x y t', ty, pos, after, gd⟩ s (s.putD dst (.d (.v (.int k (Go.bits .or k m n))))) := local_bin hx hy (fun w => by simp [binOp_or, intBits_or]) rfl
end
end
end Go.Ep
namespace Go.Ep
theorem PWl.eqlNilT {P : Program} {ctx : Ctx} {Q : PQ} {s : PState} {dst : Option Tmp} {ty : TypeId} {pos : String} {after : Array Edge} {gd : Option (Nat × Bool)} {α : Type} {enc : α → List DV} {L : List α} {ops : Array Oper} {rest : List Oper} {x : Operand} {t t' e : TypeId} (hu : P.underlying t = some (.slice e)) (hx : s.ev x = some (.d (.sl (L.map enc)))) (hg : gd = none)
    (h : ∀ b : Bool, (b = true → L = []) → PWl P ctx ops Q rest (s.putD dst (.d (.v (.bool b))))) : PWl P ctx ops Q (⟨dst, .binOp .eql t x (.const (.slice none 0 0)) t', ty, pos, after, gd⟩ :: rest) s :=
  PWl.eqlNil hu hx hg fun b hb => h b fun e => by simpa using hb e
end Go.Ep
namespace Go.Ep
section
variable {P : Program} {ctx : Ctx} {Q : PQ} {s : PState}
variable {dst : Option Tmp} {ty : TypeId} {pos : String} {after : Array Edge} {gd : Option (Nat × Bool)}
theorem LR.cutRowT {α : Type} {enc : α → List DV} {L : List α} {x hi : Operand} {id m k : Nat} {t e : TypeId} {kx : IntKind} {j : Int} (js : List Nat) (hu : P.underlying t = some (.slice e)) (hs : ∀ w, (sizeOf e).run P w = .ok k w) (hx : s.ev x = some (.row id m)) (hm : m = L.length) (hl : look s.objs id = some (.row e k (L.map enc)))
    (hh : s.ev hi = some (.d (.v (.int kx j)))) (hb : 0 ≤ (0 : Int) ∧ 0 ≤ j ∧ j ≤ (L.length : Int)) (ha : (s.junks js).alone id = true) :
    Local P ctx ⟨dst, .slice t x none (some hi) none, ty, pos, after, gd⟩ s (((s.junks js).setO id (.row e k (List.map enc (L.take j.toNat)))).putD dst (.row id j.toNat)) := by
  have := LR.cutRow (P := P) (ctx := ctx) (dst := dst) (ty := ty) (pos := pos) (after := after) (gd := gd) (m := j.toNat) js hu hs hx hl (by simp [hm]) hh (by omega) (by omega) ha
  rwa [← List.map_take] at this
end
end Go.Ep
namespace Go.Ep
end Go.Ep
namespace Go.Ep
section
variable {P : Program} {ctx : Ctx} {ops : Array Oper} {Q : PState → Prop}
theorem putD_sub {s t : PState} (hn : s.n = t.n) (h : ∀ i p, t.at i = some p → s.at i = some p) (d : Option Nat) (q : PV) : ∀ i p, (t.putD d q).at i = some p → (s.putD d q).at i = some p := by
  cases d with
  | none => exact h
  | some d =>
    intro i p hp
    simp only [PState.putD, put_at_eq] at hp ⊢
    by_cases h1 : i < t.n
    · rw [if_pos h1] at hp; rw [if_pos (by omega)]
      by_cases h2 : d = i
      · rw [if_pos h2] at hp ⊢; exact hp
      · rw [if_neg h2] at hp ⊢; exact h i p hp
    · rw [if_neg h1] at hp; cases hp
theorem ev_sub {s t : PState} (h : ∀ i p, t.at i = some p → s.at i = some p) {x : Operand} {q : PV} (hx : t.ev x = some q) : s.ev x = some q := by
  cases x with
  | tmp i => exact h i q hx
  | const v => cases v <;> exact hx
  | func f => exact hx
  | global g => exact hx
theorem PQl.forget {l : List Oper} {t : PState} (h : PQl P ctx ops Q l t) : ∀ {s : PState}, s.n = t.n → (∀ i p, t.at i = some p → s.at i = some p) → s.objs = t.objs → PQl P ctx ops Q l s := by
  induction h with
  | fin h hs => intro s hn hi ho; exact .fin h (Sub.trans (Sub.drop hn hi (fun id o hl => by rw [ho]; exact hl)) hs)
  | step hl hg _ ih => intro s hn hi ho; exact .step (fun s' h1 h2 => hl s' (fun hx hq => h1 hx (ev_sub hi hq)) (fun hob => h2 (by rw [ho]; exact hob))) hg (ih (by simp [putD_len, hn]) (putD_sub hn hi _ _) (by simp [putD_objs, ho]))
  | guardT hl hg hd hs _ ih => intro s hn hi ho; exact .guardT (fun s' h1 h2 => hl s' (fun hx hq => h1 hx (ev_sub hi hq)) (fun hob => h2 (by rw [ho]; exact hob))) hg hd (hi _ _ hs) (ih (by simp [putD_len, hn]) (putD_sub hn hi _ _) (by simp [putD_objs, ho]))
  | guardF hg hd hs hbc _ ih => intro s hn hi ho; exact .guardF hg hd (hi _ _ hs) hbc (ih (by simp [putD_len, hn]) (putD_sub hn hi _ _) (by simp [putD_objs, ho]))
  | guardU hg hd hs _ ih => intro s hn hi ho; exact .guardU hg hd (hi _ _ hs) (ih (by simp [putD_len, hn]) (putD_sub hn hi _ _) (by simp [putD_objs, ho]))
theorem PQl.keep {l : List Oper} {s : PState} {n : Nat} {tl : List (Nat × PV)} (hn : s.n = n) (h : Fgt s tl) (k : PQl P ctx ops Q l ⟨n, tl, s.objs⟩) : PQl P ctx ops Q l s :=
  k.forget (t := ⟨n, tl, s.objs⟩) hn (fun i p hp => h.get i p (at_get hp)) rfl
end
end Go.Ep
namespace Go.Ep
section
variable {P : Program} {ctx : Ctx}
theorem PWl.re {Q : PQ} {ops : Array Oper} {l : List Oper} {s : PState} {n : Nat} {tl : List (Nat × PV)} {to : List (Nat × Ob)} (hn : s.n = n) (h : Fgt s tl) (ho : OFgt s.objs to) (k : PWl P ctx ops Q l ⟨n, tl, to⟩) : PWl P ctx ops Q l s := PWl.sub (Sub.of hn h ho) k
end
end Go.Ep

namespace Go.Ep
structure TDot where
  dev : Int
  n : Int
  deriving DecidableEq
structure TEvent where
  dot : TDot
  kind : Int
  cid : Int
  field : Int
  text : ByteArray
  kills : List TDot
  deriving DecidableEq
structure PpackWriter where
  b : List Int
  deriving DecidableEq
structure R04Reader where
  b : List Int
  at_ : Int
  bad : Int
  deriving DecidableEq
structure TRun where
  lo : Int
  hi : Int
  deriving DecidableEq
structure TPart where
  dev : Int
  runs : List TRun
  deriving DecidableEq
structure Ppackrest where
  b : List Int
  deriving DecidableEq
structure PpackReader where
  rest : Ppackrest
  bad : Int
  deriving DecidableEq
end Go.Ep

namespace Go.Ep
def TDot.e (x : TDot) : List DV := [.v (.int .u16 x.dev), .v (.int .u64 x.n)]
def TDot.v (x : TDot) : List Value := [(.int .u16 x.dev), (.int .u64 x.n)]
theorem TDot.v1 (x : TDot) : ∀ u ∈ x.v, u.oneCell' = true := by
  intro u hu
  simp only [TDot.v, List.mem_cons, List.not_mem_nil, or_false] at hu
  rcases hu with rfl | rfl <;> rfl
def TDot.k (x : TDot) : List Int := [x.dev, x.n]
def TEvent.e (x : TEvent) : List DV := [.v (.int .u16 x.dot.dev), .v (.int .u64 x.dot.n), .v (.int .u8 x.kind), .v (.int .u64 x.cid), .v (.int .u8 x.field), .v (.string x.text), .sl (List.map TDot.e x.kills)]
def PpackWriter.e (x : PpackWriter) : List DV := [.sl (List.map (eK .u8) x.b)]
def R04Reader.e (x : R04Reader) : List DV := [.sl (List.map (eK .u8) x.b), .v (.int .i64 x.at_), .v (.int .i64 x.bad)]
def TRun.e (x : TRun) : List DV := [.v (.int .u64 x.lo), .v (.int .u64 x.hi)]
def TRun.v (x : TRun) : List Value := [(.int .u64 x.lo), (.int .u64 x.hi)]
theorem TRun.v1 (x : TRun) : ∀ u ∈ x.v, u.oneCell' = true := by
  intro u hu
  simp only [TRun.v, List.mem_cons, List.not_mem_nil, or_false] at hu
  rcases hu with rfl | rfl <;> rfl
def TRun.k (x : TRun) : List Int := [x.lo, x.hi]
def TPart.e (x : TPart) : List DV := [.v (.int .u16 x.dev), .sl (List.map TRun.e x.runs)]
def Ppackrest.e (x : Ppackrest) : List DV := [.sl (List.map (eK .u8) x.b)]
def PpackReader.e (x : PpackReader) : List DV := [.sl (List.map (eK .u8) x.rest.b), .v (.int .i64 x.bad)]
end Go.Ep

namespace Go.Proofs
open Go.Ep
set_option linter.unusedSimpArgs false

theorem elem22 : ElemOK Try.prog 22 41 7 80 := ElemOK.mk' (z := .agg #[.int .u16 0, .int .u64 0, .int .u8 0, .int .u64 0, .int .u8 0, .string ⟨#[]⟩, .slice none 0 0]) Try.underlying22 (by kernel_rfl) rfl
theorem elem39 : ElemOK Try.prog 39 38 2 16 := ElemOK.mk' (z := .agg #[.int .u16 0, .int .u64 0]) Try.underlying39 (by kernel_rfl) rfl
theorem elem45 : ElemOK Try.prog 45 5 1 1 := ElemOK.mk' (z := .int .u8 0) Try.underlying45 (by kernel_rfl) rfl
theorem build38 : BuildOK Try.prog 38 [(0, 1), (1, 1)] [.int .u16 0, .int .u64 0] := fun parts => by kernel_rfl
theorem build41 : BuildOK Try.prog 41 [(0, 2), (2, 1), (3, 1), (4, 1), (5, 1), (6, 1)] [.int .u16 0, .int .u64 0, .int .u8 0, .int .u64 0, .int .u8 0, .string ⟨#[]⟩, .slice none 0 0] := fun parts => by kernel_rfl
theorem build85 : BuildOK Try.prog 85 [(0, 1), (1, 1), (2, 1)] [.slice none 0 0, .int .i64 0, .int .i64 0] := fun parts => by kernel_rfl
theorem build131 : BuildOK Try.prog 131 [(0, 1)] [.slice none 0 0] := fun parts => by kernel_rfl
theorem build133 : BuildOK Try.prog 133 [(0, 1), (1, 1)] [.slice none 0 0, .int .i64 0] := fun parts => by kernel_rfl
theorem eq38 {a0 b0 : Int} {a1 b1 : Int} : AggEq Try.prog 38 [.int .u16 a0, .int .u64 a1] [.int .u16 b0, .int .u64 b1] ((decide (a0 = b0) && decide (a1 = b1))) := by
  refine ⟨by kernel_rfl, fun w => ?_⟩
  have hu : Try.prog.underlying 38 = some (.struct (Try.prog.fieldsOf 38)) := by simp only [Program.fieldsOf, Try.underlying38]
  rw [run_equalIn_agg w 9999 38 _ _ hu (by kernel_rfl)]
  simp [Program.fieldsOf, Try.underlying38, Op.eqFields, part, Try.isAgg28, Try.isAgg36, run_equalIn_int _ 9998 28 _ _ _ _ Try.underlying28, run_equalIn_int _ 9998 36 _ _ _ _ Try.underlying36, Result.andThen, beq_bytes]
  all_goals (repeat' split) <;> simp_all
end Go.Proofs

namespace Go.Ep
def ltDot (x y : TDot) : Bool := decide (x.dev < y.dev) || (decide (x.dev = y.dev) && decide (x.n < y.n))
def ltRun (x y : TRun) : Bool := decide (x.lo < y.lo)
def ltPart (x y : TPart) : Bool := decide (x.dev < y.dev)
end Go.Ep

namespace Go.Ep
open Go

/-- slices.Clone[[]epitaph/api.Dot,epitaph/api.Dot] -/
def slices_Clone_sl_Dot_Dot (s1 : List TDot) : M (List TDot) :=
  M.bind (M.isNil s1) fun b2 =>
  cond b2
    (M.pure ([] : List TDot))
    (M.need ((List.length ([] : List TDot) + List.length s1) * 16 ≤ 140737488355328) <|
    M.pure (([] : List TDot) ++ s1))

def r07_Same_l0 (a1 : List TDot) (b2 : List TDot) : Int → M (M.Step Int (M.Ex Unit Bool)) := fun i17 =>
  cond ((decide (i17 < (List.length a1 : Int))))
    (M.bind (M.idx a1 i17) fun x19 =>
    M.bind (M.idx b2 i17) fun x21 =>
    cond ((!(decide (x19.dev = x21.dev) && decide (x19.n = x21.n))))
      (M.pure (.done (.ret false)))
      (M.pure (.next (IntKind.i64.wrap (i17 + 1)))))
    (M.pure (.done (.brk ())))
/-- epitaph/epitaphref07.Same -/
def r07_Same (a1 : List TDot) (b2 : List TDot) : M Bool :=
  cond ((!decide ((List.length a1 : Int) = (List.length b2 : Int))))
    (M.pure false)
    (M.bind (M.loop (r07_Same_l0 a1 b2) 0) (M.exk (fun _ =>
    M.pure true)))

/-- epitaph/epitaphref13.Same -/
def r13_Same (a1 : TEvent) (b2 : TEvent) : M Bool :=
  M.bind (cond (((decide (a1.dot.dev = b2.dot.dev) && decide (a1.dot.n = b2.dot.n))))
    (cond (decide (a1.kind = b2.kind))
      (cond (decide (a1.cid = b2.cid))
        (cond (decide (a1.field = b2.field))
          (cond (decide (a1.text = b2.text))
            (M.bind (M.det (r07_Same a1.kills b2.kills)) fun v9 =>
            M.pure v9)
            (M.pure false))
          (M.pure false))
        (M.pure false))
      (M.pure false))
    (M.pure false)) (fun v3 =>
  M.pure v3)

def r13_All_l0 (a1 : List TEvent) (b2 : List TEvent) : Int → M (M.Step Int (M.Ex Unit Bool)) := fun i21 =>
  cond ((decide (i21 < (List.length a1 : Int))))
    (M.bind (M.idx a1 i21) fun x23 =>
    M.bind (M.idx b2 i21) fun x25 =>
    M.bind (M.det (r13_Same x23 x25)) fun v27 =>
    cond (!v27)
      (M.pure (.done (.ret false)))
      (M.pure (.next (IntKind.i64.wrap (i21 + 1)))))
    (M.pure (.done (.brk ())))
/-- epitaph/epitaphref13.All -/
def r13_All (a1 : List TEvent) (b2 : List TEvent) : M Bool :=
  cond ((!decide ((List.length a1 : Int) = (List.length b2 : Int))))
    (M.pure false)
    (M.bind (M.loop (r13_All_l0 a1 b2) 0) (M.exk (fun _ =>
    M.pure true)))

def ctx_toldF (p : TPart) : Option (Int × List TRun) := if 0 < p.dev then some (p.dev, p.runs) else none
/-- epitaph/ctx.told -/
def ctx_told (c1 : List TPart) : M (List (Int × List TRun)) :=
  M.need (AL.growOK 16 (List.length c1) (List.filterMap ctx_toldF c1)) <|
  M.pure ((AL.grow ([] : List (Int × List TRun)) (List.filterMap ctx_toldF c1)))

/-- cmp.isNaN[uint64] -/
def cmp_isNaN_uint64 (x1 : Int) : M Bool :=
  M.pure (!decide (x1 = x1))

/-- cmp.Compare[uint64] -/
def cmp_Compare_uint64 (x1 : Int) (y2 : Int) : M Int :=
  M.bind (M.det (cmp_isNaN_uint64 x1)) fun v3 =>
  M.bind (M.det (cmp_isNaN_uint64 y2)) fun v5 =>
  cond v3
    (cond v5
      (M.pure 0)
      (M.pure (-1)))
    (cond v5
      (M.pure 1)
      (cond (decide (x1 < y2))
        (M.pure (-1))
        (cond (decide (y2 < x1))
          (M.pure 1)
          (M.pure 0))))

def runs_Norm_l0 (l1 : List TRun) : Int × List TRun → M (M.Step (Int × List TRun) (List TRun)) := fun ⟨v23, some24⟩ =>
  cond ((decide (v23 < (List.length l1 : Int))))
    (M.bind (M.bind (M.idx l1 v23) fun x27 =>
    M.bind (cond (decide (0 < x27.lo))
      (cond (decide (x27.lo ≤ x27.hi))
        (M.pure (decide (x27.hi ≤ 281474976710655)))
        (M.pure false))
      (M.pure false)) (fun v29 =>
    cond v29
      (M.need ((List.length some24 + List.length ([x27])) * 16 ≤ 140737488355328) <|
      M.pure (some24 ++ [x27]))
      (M.pure some24))) (fun some26 =>
    M.pure (.next (((IntKind.i64.wrap (v23 + 1)), some26)))))
    (M.pure (.done some24))
def runs_Norm_l1 (some2 : List TRun) (s34 : List TRun) : Int × List TRun → M (M.Step (Int × List TRun) (List TRun)) := fun ⟨v69, out70⟩ =>
  cond ((decide (v69 < ((List.length some2) : Int))))
    (M.bind (M.bind (M.idx s34 v69) fun x73 =>
    M.bind (cond ((decide (0 ≤ ((IntKind.i64.wrap (((List.length out70) : Int) - 1))))))
      (M.bind (M.idx out70 ((IntKind.i64.wrap (((List.length out70) : Int) - 1)))) fun x77 =>
      M.pure ((decide (x73.lo ≤ (IntKind.u64.wrap (x77.hi + 1))))))
      (M.pure false)) (fun v75 =>
    cond v75
      (M.bind (M.idx out70 ((IntKind.i64.wrap (((List.length out70) : Int) - 1)))) fun x80 =>
      M.bind (M.idx out70 ((IntKind.i64.wrap (((List.length out70) : Int) - 1)))) fun x82 =>
      M.pure ((List.set out70 ((Int.toNat ((IntKind.i64.wrap (((List.length out70) : Int) - 1))))) (⟨x82.lo, (max x80.hi x73.hi)⟩ : TRun))))
      (M.need ((List.length out70 + List.length ([x73])) * 16 ≤ 140737488355328) <|
      M.pure (out70 ++ [x73])))) (fun out72 =>
    M.pure (.next (((IntKind.i64.wrap (v69 + 1)), out72)))))
    (M.pure (.done out70))
/-- epitaph/runs.Norm -/
def runs_Norm (l1 : List TRun) : M (List TRun) :=
  M.bind (M.loop (runs_Norm_l0 l1) (0, ([] : List TRun))) (fun some2 =>
  M.need (List.length some2 < 4611686018427387904) <| M.bind (M.srt ltRun some2) fun s34 =>
  M.bind (M.loop (runs_Norm_l1 some2 s34) (0, ([] : List TRun))) (fun out38 =>
  M.pure out38))

/-- cmp.isNaN[uint16] -/
def cmp_isNaN_uint16 (x1 : Int) : M Bool :=
  M.pure (!decide (x1 = x1))

/-- cmp.Compare[uint16] -/
def cmp_Compare_uint16 (x1 : Int) (y2 : Int) : M Int :=
  M.bind (M.det (cmp_isNaN_uint16 x1)) fun v3 =>
  M.bind (M.det (cmp_isNaN_uint16 y2)) fun v5 =>
  cond v3
    (cond v5
      (M.pure 0)
      (M.pure (-1)))
    (cond v5
      (M.pure 1)
      (cond (decide (x1 < y2))
        (M.pure (-1))
        (cond (decide (y2 < x1))
          (M.pure 1)
          (M.pure 0))))

/-- epitaph/dot.Cmp -/
def dot_Cmp (a1 : TDot) (b2 : TDot) : M Int :=
  M.bind (M.det (cmp_Compare_uint16 a1.dev b2.dev)) fun v3 =>
  cond (!decide (v3 = 0))
    (M.pure v3)
    (M.bind (M.det (cmp_Compare_uint64 a1.n b2.n)) fun v6 =>
    M.pure v6)

def slices_Compact_sl_Dot_Dot_o_l0 (row1 : List TDot) (k148 : Int) : Int × Int × List TDot → M (M.Step (Int × Int × List TDot) (Int × List TDot)) := fun ⟨k197, k2_198, v199⟩ =>
  cond ((decide (k2_198 < ((((List.length row1 - Int.toNat k148) : Nat) : Int)))))
    (M.bind (M.need ((0 : Int) ≤ k2_198 ∧ k2_198 < (((List.length row1 - Int.toNat k148) : Nat) : Int)) <| M.bind (M.idx v199 ((((Int.toNat k148) + Int.toNat k2_198) : Nat) : Int)) fun x203 =>
    M.need ((0 : Int) ≤ (IntKind.i64.wrap (k2_198 - 1)) ∧ (IntKind.i64.wrap (k2_198 - 1)) < (((List.length row1 - Int.toNat k148) : Nat) : Int)) <| M.bind (M.idx v199 ((((Int.toNat k148) + Int.toNat (IntKind.i64.wrap (k2_198 - 1))) : Nat) : Int)) fun x207 =>
    cond ((!(decide (x203.dev = x207.dev) && decide (x203.n = x207.n))))
      (M.need ((0 : Int) ≤ k2_198 ∧ k2_198 < (((List.length row1 - Int.toNat k148) : Nat) : Int)) <| M.bind (M.idx v199 ((((Int.toNat k148) + Int.toNat k2_198) : Nat) : Int)) fun x212 =>
      M.bind (M.idx v199 k197) fun x216 =>
      M.pure (((IntKind.i64.wrap (k197 + 1)), (List.set v199 (Int.toNat k197) x212))))
      (M.pure (k197, v199))) (fun ⟨k201, v202⟩ =>
    M.pure (.next ((k201, (IntKind.i64.wrap (k2_198 + 1)), v202)))))
    (M.pure (.done (k197, v199)))
def slices_Compact_sl_Dot_Dot_o_l1 (row1 : List TDot) : Int → M (M.Step Int (M.Ex Unit (List TDot))) := fun k148 =>
  cond ((decide (k148 < ((List.length row1) : Int))))
    (M.bind (M.bind (M.idx row1 k148) fun x150 =>
    M.bind (M.idx row1 (IntKind.i64.wrap (k148 - 1))) fun x152 =>
    cond (((decide (x150.dev = x152.dev) && decide (x150.n = x152.n))))
      (M.need ((0 : Int) ≤ k148 ∧ k148 ≤ (List.length row1 : Int)) <|
      M.bind (M.loop (slices_Compact_sl_Dot_Dot_o_l0 row1 k148) (k148, 1, row1)) (fun ⟨k156, v157⟩ =>
      M.need ((0 : Int) ≤ k156 ∧ k156 ≤ (List.length v157 : Int)) <|
      M.need ((Int.toNat k156) + (List.length v157 - Int.toNat k156) ≤ List.length v157) <|
      M.need ((0 : Int) ≤ 0 ∧ (0 : Int) ≤ k156 ∧ k156 ≤ (List.length ((List.take (Int.toNat k156) v157 ++ List.replicate (List.length v157 - Int.toNat k156) (⟨0, 0⟩ : TDot) ++ List.drop ((Int.toNat k156) + (List.length v157 - Int.toNat k156)) v157)) : Int)) <|
      M.pure (.ret ((.done ((.ret (((List.take (Int.toNat k156) ((List.take (Int.toNat k156) v157 ++ List.replicate (List.length v157 - Int.toNat k156) (⟨0, 0⟩ : TDot) ++ List.drop ((Int.toNat k156) + (List.length v157 - Int.toNat k156)) v157))))))))))))
      (M.pure (.brk ()))) (M.exk (fun _ =>
    M.pure (.next (IntKind.i64.wrap (k148 + 1))))))
    (M.pure (.done (.brk ())))
/-- slices.Compact[[]epitaph/api.Dot,epitaph/api.Dot] -/
def slices_Compact_sl_Dot_Dot_o (row1 : List TDot) : M (List TDot) :=
  cond ((decide (((List.length row1) : Int) < 2)))
    (M.pure row1)
    (M.bind (M.loop (slices_Compact_sl_Dot_Dot_o_l1 row1) 1) (M.exk (fun _ =>
    M.pure row1)))

/-- epitaph/dot.Sort -/
def dot_Sort (l1 : List TDot) : M (List TDot) :=
  M.bind (M.det (slices_Clone_sl_Dot_Dot l1)) fun v2 =>
  M.need (List.length v2 < 4611686018427387904) <| M.bind (M.srt ltDot v2) fun s4 =>
  M.bind (M.det (slices_Compact_sl_Dot_Dot_o s4)) fun y8 =>
  M.pure y8

/-- epitaph/epitaphref06.may -/
def r06_may (x1 : TRun) : M Bool :=
  M.bind (cond (decide (1 ≤ x1.lo))
    (cond (decide (x1.lo ≤ x1.hi))
      (M.pure (decide (x1.hi ≤ 281474976710655)))
      (M.pure false))
    (M.pure false)) (fun v2 =>
  M.pure v2)

def r06_Has_l0 (l1 : List TRun) (n2 : Int) : Int → M (M.Step Int (M.Ex Unit Bool)) := fun i30 =>
  cond ((decide (i30 < (List.length l1 : Int))))
    (M.bind (M.bind (M.idx l1 i30) fun x33 =>
    M.bind (M.det (r06_may x33)) fun v35 =>
    cond v35
      (M.bind (M.idx l1 i30) fun x38 =>
      cond (decide (x38.lo ≤ n2))
        (M.bind (M.idx l1 i30) fun x41 =>
        M.pure (decide (n2 ≤ x41.hi)))
        (M.pure false))
      (M.pure false)) (fun v32 =>
    cond v32
      (M.pure (.done (.ret true)))
      (M.pure (.next (IntKind.i64.wrap (i30 + 1))))))
    (M.pure (.done (.brk ())))
/-- epitaph/epitaphref06.Has -/
def r06_Has (l1 : List TRun) (n2 : Int) : M Bool :=
  M.bind (M.loop (r06_Has_l0 l1 n2) 0) (M.exk (fun _ =>
  M.pure false))

def r06_put_l0 (l1 : List Int) (n2 : Int) : Bool × Int × List Int → M (M.Step (Bool × Int × List Int) (Bool × List Int)) := fun ⟨done43, i44, out45⟩ =>
  cond ((decide (i44 < (List.length l1 : Int))))
    (M.bind (M.bind (cond (!done43)
      (M.bind (M.idx l1 i44) fun x51 =>
      M.pure (decide (n2 ≤ x51)))
      (M.pure false)) (fun v49 =>
    M.bind (cond v49
      (M.need ((List.length out45 + List.length ([n2])) * 8 ≤ 140737488355328) <|
      M.pure (true, (out45 ++ [n2])))
      (M.pure (done43, out45))) (fun ⟨done53, out54⟩ =>
    M.bind (M.idx l1 i44) fun x57 =>
    cond (!decide (x57 = n2))
      (M.bind (M.idx l1 i44) fun x60 =>
      M.need ((List.length out54 + List.length ([x60])) * 8 ≤ 140737488355328) <|
      M.pure (done53, (out54 ++ [x60])))
      (M.pure (done53, out54))))) (fun ⟨done47, out48⟩ =>
    M.pure (.next ((done47, (IntKind.i64.wrap (i44 + 1)), out48)))))
    (M.pure (.done (done43, out45)))
/-- epitaph/epitaphref06.put -/
def r06_put (l1 : List Int) (n2 : Int) : M (List Int) :=
  M.bind (M.loop (r06_put_l0 l1 n2) (false, 0, ([] : List Int))) (fun ⟨done3, out4⟩ =>
  M.bind (cond (!done3)
    (M.need ((List.length out4 + List.length ([n2])) * 8 ≤ 140737488355328) <|
    M.pure (out4 ++ [n2]))
    (M.pure out4)) (fun out63 =>
  M.pure out63))

def r06_points_l0 (a1 : List TRun) (b2 : List TRun) : List Int × Int → M (M.Step (List Int × Int) (List Int)) := fun ⟨out38, i39⟩ =>
  cond ((decide (i39 < (((List.length ((([] : List TRun) ++ a1) ++ b2)) : Int)))))
    (M.bind (M.bind (M.idx (((([] : List TRun) ++ a1) ++ b2)) i39) fun x42 =>
    M.bind (M.det (r06_may x42)) fun v44 =>
    cond v44
      (M.bind (M.idx (((([] : List TRun) ++ a1) ++ b2)) i39) fun x47 =>
      M.bind (M.det (r06_put out38 x47.lo)) fun v49 =>
      M.bind (M.idx (((([] : List TRun) ++ a1) ++ b2)) i39) fun x51 =>
      M.bind (M.det (r06_put v49 (IntKind.u64.wrap (x51.hi + 1)))) fun v53 =>
      M.pure v53)
      (M.pure out38)) (fun out41 =>
    M.pure (.next ((out41, (IntKind.i64.wrap (i39 + 1)))))))
    (M.pure (.done out38))
/-- epitaph/epitaphref06.points -/
def r06_points (a1 : List TRun) (b2 : List TRun) : M (List Int) :=
  M.need ((List.length ([] : List TRun) + List.length a1) * 16 ≤ 140737488355328) <|
  M.need ((List.length (([] : List TRun) ++ a1) + List.length b2) * 16 ≤ 140737488355328) <|
  M.bind (M.loop (r06_points_l0 a1 b2) (([] : List Int), 0)) (fun out5 =>
  M.pure out5)

def r06_set_l0 (v4 : List Int) (a1 : List TRun) (b2 : List TRun) (how3 : Int) : Int × List TRun → M (M.Step (Int × List TRun) (List TRun)) := fun ⟨i85, out86⟩ =>
  cond ((decide ((IntKind.i64.wrap (i85 + 1)) < (List.length v4 : Int))))
    (M.bind (M.bind (M.idx v4 i85) fun x89 =>
    M.bind (M.det (r06_Has a1 x89)) fun v91 =>
    M.bind (M.idx v4 i85) fun x93 =>
    M.bind (M.det (r06_Has b2 x93)) fun v95 =>
    M.bind (cond v91
      (M.pure true)
      (M.pure v95)) (fun in97 =>
    M.bind (cond (decide (how3 = 1))
      (M.bind (cond v91
        (M.pure v95)
        (M.pure false)) (fun in101 =>
      M.pure in101))
      (M.pure in97)) (fun in99 =>
    M.bind (cond (decide (how3 = 2))
      (M.bind (cond v91
        (M.pure (!v95))
        (M.pure false)) (fun in105 =>
      M.pure in105))
      (M.pure in99)) (fun in103 =>
    M.bind (cond in103
      (cond ((decide (0 ≤ ((IntKind.i64.wrap (((List.length out86) : Int) - 1))))))
        (M.bind (M.idx out86 ((IntKind.i64.wrap (((List.length out86) : Int) - 1)))) fun x110 =>
        M.bind (M.idx v4 i85) fun x112 =>
        M.pure ((decide ((IntKind.u64.wrap (x110.hi + 1)) = x112))))
        (M.pure false))
      (M.pure false)) (fun v107 =>
    cond v107
      (M.bind (M.idx v4 (IntKind.i64.wrap (i85 + 1))) fun x115 =>
      M.bind (M.idx out86 ((IntKind.i64.wrap (((List.length out86) : Int) - 1)))) fun x117 =>
      M.pure ((List.set out86 ((Int.toNat ((IntKind.i64.wrap (((List.length out86) : Int) - 1))))) ((⟨x117.lo, (IntKind.u64.wrap (x115 - 1))⟩ : TRun)))))
      (cond in103
        (M.bind (M.idx v4 i85) fun x120 =>
        M.bind (M.idx v4 (IntKind.i64.wrap (i85 + 1))) fun x122 =>
        M.need ((List.length out86 + List.length ([(⟨x120, (IntKind.u64.wrap (x122 - 1))⟩ : TRun)])) * 16 ≤ 140737488355328) <|
        M.pure ((out86 ++ [(⟨x120, (IntKind.u64.wrap (x122 - 1))⟩ : TRun)])))
        (M.pure out86))))))) (fun out88 =>
    M.pure (.next (((IntKind.i64.wrap (i85 + 1)), out88)))))
    (M.pure (.done out86))
/-- epitaph/epitaphref06.set -/
def r06_set (a1 : List TRun) (b2 : List TRun) (how3 : Int) : M (List TRun) :=
  M.bind (M.det (r06_points a1 b2)) fun v4 =>
  M.bind (M.loop (r06_set_l0 v4 a1 b2 how3) (0, ([] : List TRun))) (fun out6 =>
  M.pure out6)

/-- epitaph/epitaphref06.Join -/
def r06_Join (a1 : List TRun) (b2 : List TRun) : M (List TRun) :=
  M.bind (M.det (r06_set a1 b2 0)) fun v3 =>
  M.pure v3

def r09_Runs_l0 (c1 : List TPart) (dev2 : Int) : List TRun × Int → M (M.Step (List TRun × Int) (List TRun)) := fun ⟨out28, i29⟩ =>
  cond ((decide (i29 < (List.length c1 : Int))))
    (M.bind (M.bind (M.bind (M.idx c1 i29) fun x33 =>
    cond (decide (x33.dev = dev2))
      (M.pure (!decide (dev2 = 0)))
      (M.pure false)) (fun v32 =>
    cond v32
      (M.bind (M.idx c1 i29) fun x37 =>
      M.bind (M.det (r06_Join out28 x37.runs)) fun v39 =>
      M.pure v39)
      (M.pure out28))) (fun out31 =>
    M.pure (.next ((out31, (IntKind.i64.wrap (i29 + 1)))))))
    (M.pure (.done out28))
/-- epitaph/epitaphref09.Runs -/
def r09_Runs (c1 : List TPart) (dev2 : Int) : M (List TRun) :=
  M.bind (M.loop (r09_Runs_l0 c1 dev2) (([] : List TRun), 0)) (fun out3 =>
  M.pure out3)

/-- epitaph/epitaphref07.Good -/
def r07_Good (d1 : TDot) : M Bool :=
  M.bind (cond (decide (1 ≤ d1.dev))
    (cond (decide (1 ≤ d1.n))
      (M.pure (decide (d1.n < 281474976710656)))
      (M.pure false))
    (M.pure false)) (fun v2 =>
  M.pure v2)

/-- epitaph/epitaphref09.Has -/
def r09_Has (c1 : List TPart) (d2 : TDot) : M Bool :=
  M.bind (M.bind (M.det (r07_Good d2)) fun v4 =>
  cond v4
    (M.bind (M.det (r09_Runs c1 d2.dev)) fun v7 =>
    M.bind (M.det (r06_Has v7 d2.n)) fun v9 =>
    M.pure v9)
    (M.pure false)) (fun v3 =>
  M.pure v3)

/-- epitaph/epitaphref07.Cmp -/
def r07_Cmp (a1 : TDot) (b2 : TDot) : M Int :=
  cond (((decide (a1.dev = b2.dev) && decide (a1.n = b2.n))))
    (M.pure 0)
    (M.bind (cond (decide (a1.dev < b2.dev))
      (M.pure true)
      (cond (decide (a1.dev = b2.dev))
        (M.pure (decide (a1.n < b2.n)))
        (M.pure false))) (fun v4 =>
    cond v4
      (M.pure (-1))
      (M.pure 1)))

def r07_Put_l0 (l1 : List TDot) (d2 : TDot) : Int × List TDot → M (M.Step (Int × List TDot) (List TDot)) := fun ⟨i26, out27⟩ =>
  cond ((decide (i26 < (List.length l1 : Int))))
    (M.bind (M.bind (M.idx l1 i26) fun x30 =>
    M.bind (M.det (r07_Cmp x30 d2)) fun v32 =>
    cond (decide (v32 < 0))
      (M.bind (M.idx l1 i26) fun x35 =>
      M.need ((List.length out27 + List.length ([x35])) * 16 ≤ 140737488355328) <|
      M.pure (out27 ++ [x35]))
      (M.pure out27)) (fun out29 =>
    M.pure (.next (((IntKind.i64.wrap (i26 + 1)), out29)))))
    (M.pure (.done out27))
def r07_Put_l1 (l1 : List TDot) (d2 : TDot) : Int × List TDot → M (M.Step (Int × List TDot) (List TDot)) := fun ⟨i62, out63⟩ =>
  cond ((decide (i62 < (List.length l1 : Int))))
    (M.bind (M.bind (M.idx l1 i62) fun x66 =>
    M.bind (M.det (r07_Cmp x66 d2)) fun v68 =>
    cond (decide (0 < v68))
      (M.bind (M.idx l1 i62) fun x71 =>
      M.need ((List.length out63 + List.length ([x71])) * 16 ≤ 140737488355328) <|
      M.pure (out63 ++ [x71]))
      (M.pure out63)) (fun out65 =>
    M.pure (.next (((IntKind.i64.wrap (i62 + 1)), out65)))))
    (M.pure (.done out63))
/-- epitaph/epitaphref07.Put -/
def r07_Put (l1 : List TDot) (d2 : TDot) : M (List TDot) :=
  M.bind (M.loop (r07_Put_l0 l1 d2) (0, ([] : List TDot))) (fun out3 =>
  M.need ((List.length out3 + List.length ([d2])) * 16 ≤ 140737488355328) <|
  M.bind (M.loop (r07_Put_l1 l1 d2) (0, (out3 ++ [d2]))) (fun out39 =>
  M.pure out39))

/-- epitaph/epitaphlaw15.equal -/
def l15_equal (a1 : List Int) (b2 : List Int) : M Bool :=
  M.pure ((decide ((strL a1) = (strL b2))))

def shift_Len_l0  : Int × Int → M (M.Step (Int × Int) Int) := fun ⟨v7, n8⟩ =>
  cond (decide (0 < v7))
    (M.pure (.next (((Int.fdiv v7 (2 ^ 8)), (IntKind.i64.wrap (n8 + 1))))))
    (M.pure (.done n8))
/-- epitaph/shift.Len -/
def shift_Len (v1 : Int) : M Int :=
  M.bind (M.loop shift_Len_l0 (v1, 0)) (fun n2 =>
  M.pure n2)

/-- epitaph/shift.Byte -/
def shift_Byte (v1 : Int) (i2 : Int) : M Int :=
  cond ((decide (7 < (IntKind.u64.wrap i2))))
    (M.pure 0)
    (M.need ((0 : Int) ≤ ((IntKind.u64.wrap (8 * (IntKind.u64.wrap i2))))) <|
    M.pure ((IntKind.u8.wrap ((Int.fdiv v1 (2 ^ (min (Int.toNat ((IntKind.u64.wrap (8 * (IntKind.u64.wrap i2))))) 64)))))))

def num_Append_l0 (v2 : Int) : Int × List Int → M (M.Step (Int × List Int) (List Int)) := fun ⟨i19, v20⟩ =>
  cond (decide (0 ≤ i19))
    (M.bind (M.det (shift_Byte v2 i19)) fun v22 =>
    M.need ((List.length v20 + List.length ([v22])) * 1 ≤ 140737488355328) <|
    M.pure (.next (((IntKind.i64.wrap (i19 - 1)), (v20 ++ [v22])))))
    (M.pure (.done v20))
/-- epitaph/num.Append -/
def num_Append (b1 : List Int) (v2 : Int) : M (List Int) :=
  M.bind (M.det (shift_Len v2)) fun v3 =>
  M.need ((0 : Int) ≤ ((IntKind.i64.wrap (((IntKind.i64.wrap ((List.length b1 : Int) + v3))) + 1))) ∧ ((IntKind.i64.wrap (((IntKind.i64.wrap ((List.length b1 : Int) + v3))) + 1))) * 1 ≤ 140737488355328) <|
  M.need ((List.length ([] : List Int) + List.length b1) * 1 ≤ 140737488355328) <|
  M.need ((List.length (([] : List Int) ++ b1) + List.length ([(IntKind.u8.wrap v3)])) * 1 ≤ 140737488355328) <|
  M.bind (M.loop (num_Append_l0 v2) (((IntKind.i64.wrap (v3 - 1)), ((([] : List Int) ++ b1) ++ [(IntKind.u8.wrap v3)])))) (fun v8 =>
  M.pure v8)

def ctx_order_l0 (m1 : List (Int × List TRun)) : List Nat × List TPart → M (M.Step (List Nat × List TPart) (List TPart)) := fun ⟨seen28, c29⟩ =>
  M.need (∀ i ∈ seen28, i < List.length m1) <| M.bind (M.nxt (List.length m1) seen28) fun o => match o with
  | none =>
    M.pure (.done c29)
  | some j30 =>
    M.bind (M.idx m1 (Int.ofNat j30)) fun kv34 =>
    M.bind (M.det (runs_Norm kv34.2)) fun v36 =>
    cond ((decide (0 < ((List.length v36) : Int))))
      (M.need ((List.length c29 + List.length ([(⟨kv34.1, v36⟩ : TPart)])) * 32 ≤ 140737488355328) <|
      M.pure (.next (((seen28 ++ [j30]), (c29 ++ [(⟨kv34.1, v36⟩ : TPart)])))))
      (M.pure (.next ((seen28 ++ [j30]), c29)))
/-- epitaph/ctx.order -/
def ctx_order (m1 : List (Int × List TRun)) : M (List TPart) :=
  M.bind (M.loop (ctx_order_l0 m1) ([], ([] : List TPart))) (fun c3 =>
  M.need (List.length c3 < 4611686018427387904) <| M.bind (M.srt ltPart c3) fun s41 =>
  M.pure s41)

/-- epitaph/ctx.Norm -/
def ctx_Norm (c1 : List TPart) : M (List TPart) :=
  M.bind (M.det (ctx_told c1)) fun v2 =>
  M.bind (M.det (ctx_order v2)) fun v5 =>
  M.pure v5

/-- (*epitaph/pack.Writer).put -/
def pack_Writer_put_o (b1 : List Int) (row2 : List Int) : M (List Int) :=
  M.need ((List.length row2 + List.length b1) * 1 ≤ 140737488355328) <|
  M.pure (row2 ++ b1)

/-- (*epitaph/pack.Writer).Num -/
def pack_Writer_Num_o (v1 : Int) (row2 : List Int) : M (List Int) :=
  M.bind (M.det (num_Append ([] : List Int) v1)) fun v3 =>
  M.bind (M.det (pack_Writer_put_o v3 row2)) fun y5 =>
  M.pure y5

def dcode_PutCtx_o_l0 (x79 : TPart) : Int × List Int → M (M.Step (Int × List Int) (List Int)) := fun ⟨v101, v102⟩ =>
  cond ((decide (v101 < (List.length x79.runs : Int))))
    (M.bind (M.idx x79.runs v101) fun x104 =>
    M.bind (M.det (pack_Writer_Num_o x104.lo v102)) fun y106 =>
    M.bind (M.det (pack_Writer_Num_o x104.hi y106)) fun y108 =>
    M.pure (.next (((IntKind.i64.wrap (v101 + 1)), y108))))
    (M.pure (.done v102))
def dcode_PutCtx_o_l1 (v3 : List TPart) : Int × List Int → M (M.Step (Int × List Int) (List Int)) := fun ⟨v75, v76⟩ =>
  cond ((decide (v75 < ((List.length v3) : Int))))
    (M.bind (M.bind (M.idx v3 v75) fun x79 =>
    M.bind (M.det (pack_Writer_Num_o (IntKind.u64.wrap x79.dev) v76)) fun y81 =>
    M.bind (M.det (pack_Writer_Num_o (IntKind.u64.wrap (List.length x79.runs : Int)) y81)) fun y83 =>
    M.loop (dcode_PutCtx_o_l0 x79) (0, y83)) (fun v78 =>
    M.pure (.next (((IntKind.i64.wrap (v75 + 1)), v78)))))
    (M.pure (.done v76))
/-- epitaph/dcode.PutCtx -/
def dcode_PutCtx_o (c1 : List TPart) (row2 : List Int) : M (List Int) :=
  M.bind (M.det (ctx_Norm c1)) fun v3 =>
  M.bind (M.det (pack_Writer_Num_o ((IntKind.u64.wrap ((List.length v3) : Int))) row2)) fun y5 =>
  M.loop (dcode_PutCtx_o_l1 v3) (0, y5)

/-- (*epitaph/pack.Writer).Bytes -/
def pack_Writer_Bytes_o (row1 : List Int) : M (List Int × List Int) :=
  M.need (List.length row1 * 1 ≤ 140737488355328) <|
  M.pure (row1, row1)

/-- epitaph/dcode.Encode -/
def dcode_Encode (c1 : List TPart) : M (List Int) :=
  M.bind (M.det (dcode_PutCtx_o c1 ([] : List Int))) fun y2 =>
  M.bind (M.det (pack_Writer_Bytes_o y2)) fun y4 =>
  M.pure y4.1

/-- epitaph/epitaphlaw15.works -/
def l15_works  : M Bool :=
  M.bind (M.det (dcode_Encode ([(⟨1, [(⟨1, 2⟩ : TRun)]⟩ : TPart)]))) fun v1 =>
  M.bind (M.det (l15_equal v1 ([1, 1, 1, 1, 1, 1, 1, 1, 1, 2]))) fun v3 =>
  M.pure v3

/-- epitaph/dot.Good -/
def dot_Good (d1 : TDot) : M Bool :=
  M.bind (cond (decide (0 < d1.dev))
    (cond (decide (0 < d1.n))
      (M.pure (decide (d1.n ≤ 281474976710655)))
      (M.pure false))
    (M.pure false)) (fun v2 =>
  M.pure v2)

def r01_Len_l0  : Int × Int → M (M.Step (Int × Int) Int) := fun ⟨v7, n8⟩ =>
  cond (decide (0 < v7))
    (M.pure (.next (((IntKind.u64.wrap (Int.tdiv v7 256)), (IntKind.i64.wrap (n8 + 1))))))
    (M.pure (.done n8))
/-- epitaph/epitaphref01.Len -/
def r01_Len (v1 : Int) : M Int :=
  M.bind (M.loop r01_Len_l0 (v1, 0)) (fun n2 =>
  M.pure n2)

def r01_Byte_l0 (i2 : Int) : Int × Int → M (M.Step (Int × Int) Int) := fun ⟨v11, k12⟩ =>
  cond (decide (k12 < i2))
    (M.pure (.next (((IntKind.u64.wrap (Int.tdiv v11 256)), (IntKind.i64.wrap (k12 + 1))))))
    (M.pure (.done v11))
/-- epitaph/epitaphref01.Byte -/
def r01_Byte (v1 : Int) (i2 : Int) : M Int :=
  M.bind (cond (decide (i2 < 0))
    (M.pure true)
    (M.pure (decide (7 < i2)))) (fun v3 =>
  cond v3
    (M.pure 0)
    (M.bind (M.loop (r01_Byte_l0 i2) (v1, 0)) (fun v6 =>
    M.pure (IntKind.u8.wrap (Int.tmod v6 256)))))

def r03_Append_l0 (v2 : Int) : Int × List Int → M (M.Step (Int × List Int) (List Int)) := fun ⟨i18, v19⟩ =>
  cond (decide (0 ≤ i18))
    (M.bind (M.det (r01_Byte v2 i18)) fun v21 =>
    M.need ((List.length v19 + List.length ([v21])) * 1 ≤ 140737488355328) <|
    M.pure (.next (((IntKind.i64.wrap (i18 - 1)), (v19 ++ [v21])))))
    (M.pure (.done v19))
/-- epitaph/epitaphref03.Append -/
def r03_Append (b1 : List Int) (v2 : Int) : M (List Int) :=
  M.need ((List.length ([] : List Int) + List.length b1) * 1 ≤ 140737488355328) <|
  M.bind (M.det (r01_Len v2)) fun v4 =>
  M.need ((List.length (([] : List Int) ++ b1) + List.length ([(IntKind.u8.wrap v4)])) * 1 ≤ 140737488355328) <|
  M.bind (M.loop (r03_Append_l0 v2) (((IntKind.i64.wrap (v4 - 1)), ((([] : List Int) ++ b1) ++ [(IntKind.u8.wrap v4)])))) (fun v7 =>
  M.pure v7)

/-- epitaph/epitaphref15.PutDot -/
def r15_PutDot (b1 : List Int) (d2 : TDot) : M (List Int) :=
  M.bind (M.det (r03_Append b1 (IntKind.u64.wrap d2.dev))) fun v3 =>
  M.bind (M.det (r03_Append v3 d2.n)) fun v5 =>
  M.pure v5

def r15_PutDots_l0 (l2 : List TDot) : List TDot × Int → M (M.Step (List TDot × Int) (List TDot)) := fun ⟨some28, i29⟩ =>
  cond ((decide (i29 < (List.length l2 : Int))))
    (M.bind (M.bind (M.idx l2 i29) fun x32 =>
    M.bind (M.det (r07_Good x32)) fun v34 =>
    cond v34
      (M.bind (M.idx l2 i29) fun x37 =>
      M.bind (M.det (r07_Put some28 x37)) fun v39 =>
      M.pure v39)
      (M.pure some28)) (fun some31 =>
    M.pure (.next ((some31, (IntKind.i64.wrap (i29 + 1)))))))
    (M.pure (.done some28))
def r15_PutDots_l1 (some3 : List TDot) : List Int × Int → M (M.Step (List Int × Int) (List Int)) := fun ⟨out56, i57⟩ =>
  cond ((decide (i57 < (List.length some3 : Int))))
    (M.bind (M.idx some3 i57) fun x59 =>
    M.bind (M.det (r15_PutDot out56 x59)) fun v61 =>
    M.pure (.next ((v61, (IntKind.i64.wrap (i57 + 1))))))
    (M.pure (.done out56))
/-- epitaph/epitaphref15.PutDots -/
def r15_PutDots (b1 : List Int) (l2 : List TDot) : M (List Int) :=
  M.bind (M.loop (r15_PutDots_l0 l2) (([] : List TDot), 0)) (fun some3 =>
  M.bind (M.det (r03_Append b1 (IntKind.u64.wrap (List.length some3 : Int)))) fun v41 =>
  M.bind (M.loop (r15_PutDots_l1 some3) (v41, 0)) (fun out43 =>
  M.pure out43))

def r09_devs_l0 (a1 : List TPart) : List TDot × Int → M (M.Step (List TDot × Int) (List TDot)) := fun ⟨out16, i17⟩ =>
  cond ((decide (i17 < (List.length a1 : Int))))
    (M.bind (M.idx a1 i17) fun x19 =>
    M.bind (M.det (r07_Put out16 (⟨x19.dev, 1⟩ : TDot))) fun v21 =>
    M.pure (.next ((v21, (IntKind.i64.wrap (i17 + 1))))))
    (M.pure (.done out16))
def r09_devs_l1 (b2 : List TPart) : List TDot × Int → M (M.Step (List TDot × Int) (List TDot)) := fun ⟨out36, i37⟩ =>
  cond ((decide (i37 < (List.length b2 : Int))))
    (M.bind (M.idx b2 i37) fun x39 =>
    M.bind (M.det (r07_Put out36 (⟨x39.dev, 1⟩ : TDot))) fun v41 =>
    M.pure (.next ((v41, (IntKind.i64.wrap (i37 + 1))))))
    (M.pure (.done out36))
/-- epitaph/epitaphref09.devs -/
def r09_devs (a1 : List TPart) (b2 : List TPart) : M (List TDot) :=
  M.bind (M.loop (r09_devs_l0 a1) (([] : List TDot), 0)) (fun out3 =>
  M.bind (M.loop (r09_devs_l1 b2) (out3, 0)) (fun out23 =>
  M.pure out23))

/-- epitaph/epitaphref06.Meet -/
def r06_Meet (a1 : List TRun) (b2 : List TRun) : M (List TRun) :=
  M.bind (M.det (r06_set a1 b2 1)) fun v3 =>
  M.pure v3

/-- epitaph/epitaphref06.Minus -/
def r06_Minus (a1 : List TRun) (b2 : List TRun) : M (List TRun) :=
  M.bind (M.det (r06_set a1 b2 2)) fun v3 =>
  M.pure v3

def r09_set_l0 (v4 : List TDot) (a1 : List TPart) (b2 : List TPart) (how3 : Int) : Int × List TPart → M (M.Step (Int × List TPart) (List TPart)) := fun ⟨i57, out58⟩ =>
  cond ((decide (i57 < (List.length v4 : Int))))
    (M.bind (M.bind (M.idx v4 i57) fun x61 =>
    M.bind (M.det (r09_Runs a1 x61.dev)) fun v63 =>
    M.bind (M.idx v4 i57) fun x65 =>
    M.bind (M.det (r09_Runs b2 x65.dev)) fun v67 =>
    M.bind (M.det (r06_Join v63 v67)) fun v69 =>
    M.bind (cond (decide (how3 = 1))
      (M.bind (M.det (r06_Meet v63 v67)) fun v73 =>
      M.pure v73)
      (M.pure v69)) (fun z71 =>
    M.bind (cond (decide (how3 = 2))
      (M.bind (M.det (r06_Minus v63 v67)) fun v77 =>
      M.pure v77)
      (M.pure z71)) (fun z75 =>
    cond ((decide (0 < (List.length z75 : Int))))
      (M.bind (M.idx v4 i57) fun x80 =>
      M.need ((List.length out58 + List.length ([(⟨x80.dev, z75⟩ : TPart)])) * 32 ≤ 140737488355328) <|
      M.pure (out58 ++ [(⟨x80.dev, z75⟩ : TPart)]))
      (M.pure out58)))) (fun out60 =>
    M.pure (.next (((IntKind.i64.wrap (i57 + 1)), out60)))))
    (M.pure (.done out58))
/-- epitaph/epitaphref09.set -/
def r09_set (a1 : List TPart) (b2 : List TPart) (how3 : Int) : M (List TPart) :=
  M.bind (M.det (r09_devs a1 b2)) fun v4 =>
  M.bind (M.loop (r09_set_l0 v4 a1 b2 how3) (0, ([] : List TPart))) (fun out6 =>
  M.pure out6)

/-- epitaph/dcode.PutDot -/
def dcode_PutDot_o (d1 : TDot) (row2 : List Int) : M (List Int) :=
  M.bind (M.det (pack_Writer_Num_o (IntKind.u64.wrap d1.dev) row2)) fun y3 =>
  M.bind (M.det (pack_Writer_Num_o d1.n y3)) fun y5 =>
  M.pure y5

def dcode_PutDots_o_l0 (l1 : List TDot) : Int × List TDot → M (M.Step (Int × List TDot) (List TDot)) := fun ⟨v22, some23⟩ =>
  cond ((decide (v22 < (List.length l1 : Int))))
    (M.bind (M.bind (M.idx l1 v22) fun x26 =>
    M.bind (M.det (dot_Good x26)) fun v28 =>
    cond v28
      (M.need ((List.length some23 + List.length ([x26])) * 16 ≤ 140737488355328) <|
      M.pure (some23 ++ [x26]))
      (M.pure some23)) (fun some25 =>
    M.pure (.next (((IntKind.i64.wrap (v22 + 1)), some25)))))
    (M.pure (.done some23))
def dcode_PutDots_o_l1 (v32 : List TDot) : Int × List Int → M (M.Step (Int × List Int) (List Int)) := fun ⟨v48, v49⟩ =>
  cond ((decide (v48 < ((List.length v32) : Int))))
    (M.bind (M.idx v32 v48) fun x51 =>
    M.bind (M.det (dcode_PutDot_o x51 v49)) fun y53 =>
    M.pure (.next (((IntKind.i64.wrap (v48 + 1)), y53))))
    (M.pure (.done v49))
/-- epitaph/dcode.PutDots -/
def dcode_PutDots_o (l1 : List TDot) (row2 : List Int) : M (List Int) :=
  M.bind (M.loop (dcode_PutDots_o_l0 l1) (0, ([] : List TDot))) (fun some3 =>
  M.bind (M.det (dot_Sort some3)) fun v32 =>
  M.bind (M.det (pack_Writer_Num_o ((IntKind.u64.wrap ((List.length v32) : Int))) row2)) fun y34 =>
  M.loop (dcode_PutDots_o_l1 v32) (0, y34))

/-- epitaph/epitaphref01.Split -/
def r01_Split (v1 : Int) : M (Int × Int) :=
  M.pure (((IntKind.u16.wrap (IntKind.u64.wrap (Int.tdiv v1 281474976710656))), (Int.tmod v1 281474976710656)))

/-- epitaph/epitaphref07.Unpack -/
def r07_Unpack (v1 : Int) : M (TDot × Bool) :=
  M.bind (M.det (r01_Split v1)) fun v2 =>
  M.bind (M.det (r07_Good (⟨v2.1, v2.2⟩ : TDot))) fun v4 =>
  cond (!v4)
    (M.pure ((⟨0, 0⟩ : TDot), false))
    (M.pure ((⟨v2.1, v2.2⟩ : TDot), true))

/-- epitaph/epitaphref11.Good -/
def r11_Good (f1 : Int) : M Bool :=
  M.bind (cond (decide (1 ≤ f1))
    (M.pure (decide (f1 ≤ 5)))
    (M.pure false)) (fun v2 =>
  M.pure v2)

def r11_Text_l0 (s1 : ByteArray) : Int → M (M.Step Int (M.Ex Unit Bool)) := fun i19 =>
  cond ((decide (i19 < (ByteArray.size s1 : Int))))
    (M.bind (M.bind (M.idx (bytesL s1) i19) fun b22 =>
    cond (decide (b22 < 32))
      (M.pure true)
      (M.bind (M.idx (bytesL s1) i19) fun b25 =>
      M.pure (decide (126 < b25)))) (fun v21 =>
    cond v21
      (M.pure (.done (.ret false)))
      (M.pure (.next (IntKind.i64.wrap (i19 + 1))))))
    (M.pure (.done (.brk ())))
/-- epitaph/epitaphref11.Text -/
def r11_Text (s1 : ByteArray) : M Bool :=
  M.bind (M.loop (r11_Text_l0 s1) 0) (M.exk (fun _ =>
  M.pure ((decide ((ByteArray.size s1 : Int) ≤ 60)))))

def r07_Rising_l0 (l1 : List TDot) : Int → M (M.Step Int (M.Ex Unit Bool)) := fun i19 =>
  cond ((decide (i19 < (List.length l1 : Int))))
    (M.bind (M.idx l1 (IntKind.i64.wrap (i19 - 1))) fun x21 =>
    M.bind (M.idx l1 i19) fun x23 =>
    M.bind (M.det (r07_Cmp x21 x23)) fun v25 =>
    cond (decide (0 ≤ v25))
      (M.pure (.done (.ret false)))
      (M.pure (.next (IntKind.i64.wrap (i19 + 1)))))
    (M.pure (.done (.brk ())))
/-- epitaph/epitaphref07.Rising -/
def r07_Rising (l1 : List TDot) : M Bool :=
  M.bind (M.loop (r07_Rising_l0 l1) 1) (M.exk (fun _ =>
  M.pure true))

def r07_Has_l0 (l1 : List TDot) (d2 : TDot) : Int → M (M.Step Int (M.Ex Unit Bool)) := fun i12 =>
  cond ((decide (i12 < (List.length l1 : Int))))
    (M.bind (M.idx l1 i12) fun x14 =>
    cond (((decide (x14.dev = d2.dev) && decide (x14.n = d2.n))))
      (M.pure (.done (.ret true)))
      (M.pure (.next (IntKind.i64.wrap (i12 + 1)))))
    (M.pure (.done (.brk ())))
/-- epitaph/epitaphref07.Has -/
def r07_Has (l1 : List TDot) (d2 : TDot) : M Bool :=
  M.bind (M.loop (r07_Has_l0 l1 d2) 0) (M.exk (fun _ =>
  M.pure false))

def r13_Good_l0 (e1 : TEvent) : Int → M (M.Step Int (M.Ex Unit Bool)) := fun i37 =>
  cond ((decide (i37 < (List.length e1.kills : Int))))
    (M.bind (M.idx e1.kills i37) fun x39 =>
    M.bind (M.det (r07_Good x39)) fun v41 =>
    cond (!v41)
      (M.pure (.done (.ret false)))
      (M.pure (.next (IntKind.i64.wrap (i37 + 1)))))
    (M.pure (.done (.brk ())))
/-- epitaph/epitaphref13.Good -/
def r13_Good (e1 : TEvent) : M Bool :=
  M.bind (M.det (r07_Unpack e1.cid)) fun v2 =>
  M.bind (cond (!v2.2)
    (M.pure true)
    (M.bind (M.det (r07_Good e1.dot)) fun v6 =>
    cond (!v6)
      (M.pure true)
      (cond (!decide (e1.kind = 1))
        (M.pure (!decide (e1.kind = 2)))
        (M.pure false)))) (fun v4 =>
  cond v4
    (M.pure false)
    (M.bind (cond (decide (e1.kind = 1))
      (M.bind (M.det (r11_Good e1.field)) fun v13 =>
      cond (!v13)
        (M.pure true)
        (M.bind (M.det (r11_Text e1.text)) fun v16 =>
        cond (!v16)
          (M.pure true)
          (cond (decide (e1.kind = 2))
            (cond (!decide (e1.field = 0))
              (M.pure true)
              (M.pure ((!decide (e1.text = (⟨#[]⟩ : ByteArray))))))
            (M.pure false))))
      (cond (decide (e1.kind = 2))
        (cond (!decide (e1.field = 0))
          (M.pure true)
          (M.pure ((!decide (e1.text = (⟨#[]⟩ : ByteArray))))))
        (M.pure false))) (fun v11 =>
    cond v11
      (M.pure false)
      (M.bind (M.loop (r13_Good_l0 e1) 0) (M.exk (fun _ =>
      M.bind (cond ((decide ((List.length e1.kills : Int) ≤ 256)))
        (M.bind (M.det (r07_Rising e1.kills)) fun v46 =>
        cond v46
          (M.bind (M.det (r07_Has e1.kills e1.dot)) fun v49 =>
          M.pure (!v49))
          (M.pure false))
        (M.pure false)) (fun v44 =>
      M.pure v44)))))))

/-- epitaph/epitaphlaw16.equal -/
def l16_equal (a1 : List Int) (b2 : List Int) : M Bool :=
  M.pure ((decide ((strL a1) = (strL b2))))

/-- epitaph/shift.Split -/
def shift_Split (v1 : Int) : M (Int × Int) :=
  M.pure (((IntKind.u16.wrap (Int.fdiv v1 (2 ^ 48))), (bAnd .u64 v1 281474976710655)))

/-- epitaph/dot.Unpack -/
def dot_Unpack (v1 : Int) : M (TDot × Bool) :=
  M.bind (M.det (shift_Split v1)) fun v2 =>
  M.bind (M.det (dot_Good (⟨v2.1, v2.2⟩ : TDot))) fun v4 =>
  cond (!v4)
    (M.pure ((⟨0, 0⟩ : TDot), false))
    (M.pure ((⟨v2.1, v2.2⟩ : TDot), true))

/-- epitaph/field.Good -/
def field_Good (f1 : Int) : M Bool :=
  M.bind (cond (decide (1 ≤ f1))
    (M.pure (decide (f1 ≤ 5)))
    (M.pure false)) (fun v2 =>
  M.pure v2)

def field_Text_l0 (s1 : ByteArray) : Int → M (M.Step Int (M.Ex Unit Bool)) := fun v20 =>
  cond ((decide (v20 < (ByteArray.size s1 : Int))))
    (M.bind (M.bind (M.idx (bytesL s1) v20) fun b23 =>
    cond (decide (b23 < 32))
      (M.pure true)
      (M.bind (M.idx (bytesL s1) v20) fun b26 =>
      M.pure (decide (126 < b26)))) (fun v22 =>
    cond v22
      (M.pure (.done (.ret false)))
      (M.pure (.next (IntKind.i64.wrap (v20 + 1))))))
    (M.pure (.done (.brk ())))
/-- epitaph/field.Text -/
def field_Text (s1 : ByteArray) : M Bool :=
  cond ((decide (60 < (ByteArray.size s1 : Int))))
    (M.pure false)
    (M.bind (M.loop (field_Text_l0 s1) 0) (M.exk (fun _ =>
    M.pure true)))

def dot_Rising_l0 (l1 : List TDot) : Int → M (M.Step Int (M.Ex Unit Bool)) := fun v23 =>
  cond ((decide (v23 < (List.length l1 : Int))))
    (M.bind (cond (decide (0 < v23))
      (M.bind (M.idx l1 (IntKind.i64.wrap (v23 - 1))) fun x27 =>
      M.bind (M.idx l1 v23) fun x29 =>
      M.bind (M.det (dot_Cmp x27 x29)) fun v31 =>
      M.pure (decide (0 ≤ v31)))
      (M.pure false)) (fun v25 =>
    cond v25
      (M.pure (.done (.ret false)))
      (M.pure (.next (IntKind.i64.wrap (v23 + 1))))))
    (M.pure (.done (.brk ())))
/-- epitaph/dot.Rising -/
def dot_Rising (l1 : List TDot) : M Bool :=
  M.bind (M.loop (dot_Rising_l0 l1) 0) (M.exk (fun _ =>
  M.pure true))

def event_Good_l0 (e1 : TEvent) : Int → M (M.Step Int (M.Ex Unit Bool)) := fun v43 =>
  cond ((decide (v43 < (List.length e1.kills : Int))))
    (M.bind (M.idx e1.kills v43) fun x45 =>
    M.bind (M.bind (M.det (dot_Good x45)) fun v48 =>
    cond (!v48)
      (M.pure true)
      (M.pure (((decide (x45.dev = e1.dot.dev) && decide (x45.n = e1.dot.n)))))) (fun v47 =>
    cond v47
      (M.pure (.done (.ret false)))
      (M.pure (.next (IntKind.i64.wrap (v43 + 1))))))
    (M.pure (.done (.brk ())))
/-- epitaph/event.Good -/
def event_Good (e1 : TEvent) : M Bool :=
  M.bind (M.det (dot_Unpack e1.cid)) fun v2 =>
  M.bind (cond (!v2.2)
    (M.pure true)
    (M.bind (M.det (dot_Good e1.dot)) fun v6 =>
    M.pure (!v6))) (fun v4 =>
  cond v4
    (M.pure false)
    (M.bind (cond (decide (e1.kind = 1))
      (M.bind (M.bind (M.det (field_Good e1.field)) fun v11 =>
      cond (!v11)
        (M.pure true)
        (M.bind (M.det (field_Text e1.text)) fun v14 =>
        M.pure (!v14))) (fun v10 =>
      cond v10
        (M.pure (.ret false))
        (M.pure (.brk ()))))
      (cond (decide (e1.kind = 2))
        (M.bind (cond (!decide (e1.field = 0))
          (M.pure true)
          (M.pure ((!decide (e1.text = (⟨#[]⟩ : ByteArray)))))) (fun v18 =>
        cond v18
          (M.pure (.ret false))
          (M.pure (.brk ()))))
        (M.pure (.ret false)))) (M.exk (fun _ =>
    M.bind (cond ((decide (256 < (List.length e1.kills : Int))))
      (M.pure true)
      (M.bind (M.det (dot_Rising e1.kills)) fun v23 =>
      M.pure (!v23))) (fun v21 =>
    cond v21
      (M.pure false)
      (M.bind (M.loop (event_Good_l0 e1) 0) (M.exk (fun _ =>
      M.pure true))))))))

/-- (*epitaph/pack.Writer).Byte -/
def pack_Writer_Byte_o (c1 : Int) (row2 : List Int) : M (List Int) :=
  M.bind (M.det (pack_Writer_put_o ([c1]) row2)) fun y3 =>
  M.pure y3

/-- (*epitaph/pack.Writer).Text -/
def pack_Writer_Text_o (s1 : ByteArray) (row2 : List Int) : M (List Int) :=
  M.bind (M.det (pack_Writer_Num_o (IntKind.u64.wrap (ByteArray.size s1 : Int)) row2)) fun y3 =>
  M.need (ByteArray.size s1 ≤ 9223372036854775807) <|
  M.bind (M.det (pack_Writer_put_o (bytesL s1) y3)) fun y6 =>
  M.pure y6

/-- epitaph/ecode.Put -/
def ecode_Put_o (e1 : TEvent) (row2 : List Int) : M (List Int) :=
  M.bind (M.det (dcode_PutDot_o e1.dot row2)) fun y3 =>
  M.bind (M.det (pack_Writer_Byte_o e1.kind y3)) fun y5 =>
  M.bind (M.det (pack_Writer_Num_o e1.cid y5)) fun y7 =>
  M.bind (M.det (pack_Writer_Byte_o e1.field y7)) fun y9 =>
  M.bind (M.det (pack_Writer_Text_o e1.text y9)) fun y11 =>
  M.bind (M.det (dcode_PutDots_o e1.kills y11)) fun y13 =>
  M.pure y13

/-- epitaph/ecode.Encode -/
def ecode_Encode (e1 : TEvent) : M (List Int × Int) :=
  M.bind (M.det (event_Good e1)) fun v2 =>
  cond (!v2)
    (M.pure (([] : List Int), 1))
    (M.bind (M.det (ecode_Put_o e1 ([] : List Int))) fun y5 =>
    M.bind (M.det (pack_Writer_Bytes_o y5)) fun y7 =>
    M.pure (y7.1, 0))

/-- epitaph/epitaphlaw16.works -/
def l16_works  : M Bool :=
  M.bind (M.det (ecode_Encode (⟨(⟨1, 2⟩ : TDot), 2, 281474976710657, 0, (⟨#[]⟩ : ByteArray), [(⟨1, 1⟩ : TDot)]⟩ : TEvent))) fun v1 =>
  M.bind (cond (decide (v1.2 = 0))
    (M.bind (M.det (l16_equal v1.1 ([1, 1, 1, 2, 2, 7, 1, 0, 0, 0, 0, 0, 1, 0, 0, 1, 1, 1, 1, 1, 1]))) fun v5 =>
    M.pure v5)
    (M.pure false)) (fun v3 =>
  M.pure v3)

def r04_Text_l0 (s2 : ByteArray) : Int × List Int → M (M.Step (Int × List Int) (List Int)) := fun ⟨i16, v17⟩ =>
  cond ((decide (i16 < (ByteArray.size s2 : Int))))
    (M.bind (M.idx (bytesL s2) i16) fun b19 =>
    M.need ((List.length v17 + List.length ([b19])) * 1 ≤ 140737488355328) <|
    M.pure (.next (((IntKind.i64.wrap (i16 + 1)), (v17 ++ [b19])))))
    (M.pure (.done v17))
/-- epitaph/epitaphref04.Text -/
def r04_Text (b1 : List Int) (s2 : ByteArray) : M (List Int) :=
  M.bind (M.det (r03_Append b1 (IntKind.u64.wrap (ByteArray.size s2 : Int)))) fun v3 =>
  M.bind (M.loop (r04_Text_l0 s2) (0, v3)) (fun v5 =>
  M.pure v5)

/-- epitaph/epitaphref16.Put -/
def r16_Put (b1 : List Int) (e2 : TEvent) : M (List Int) :=
  M.bind (M.det (r15_PutDot b1 e2.dot)) fun v3 =>
  M.need ((List.length v3 + List.length ([e2.kind])) * 1 ≤ 140737488355328) <|
  M.bind (M.det (r03_Append (v3 ++ [e2.kind]) e2.cid)) fun v6 =>
  M.need ((List.length v6 + List.length ([e2.field])) * 1 ≤ 140737488355328) <|
  M.bind (M.det (r04_Text (v6 ++ [e2.field]) e2.text)) fun v9 =>
  M.bind (M.det (r15_PutDots v9 e2.kills)) fun v11 =>
  M.pure v11

def slices_Equal_sl_Run_Run_l0 (s1_1 : List TRun) (s2_2 : List TRun) : Int → M (M.Step Int (M.Ex Unit Bool)) := fun v17 =>
  cond ((decide (v17 < (List.length s1_1 : Int))))
    (M.bind (M.idx s1_1 v17) fun x19 =>
    M.bind (M.idx s2_2 v17) fun x21 =>
    cond ((!(decide (x19.lo = x21.lo) && decide (x19.hi = x21.hi))))
      (M.pure (.done (.ret false)))
      (M.pure (.next (IntKind.i64.wrap (v17 + 1)))))
    (M.pure (.done (.brk ())))
/-- slices.Equal[[]epitaph/api.Run,epitaph/api.Run] -/
def slices_Equal_sl_Run_Run (s1_1 : List TRun) (s2_2 : List TRun) : M Bool :=
  cond ((!decide ((List.length s1_1 : Int) = (List.length s2_2 : Int))))
    (M.pure false)
    (M.bind (M.loop (slices_Equal_sl_Run_Run_l0 s1_1 s2_2) 0) (M.exk (fun _ =>
    M.pure true)))

/-- epitaph/ctx.eq$1 -/
def ctx_eq_c1 (x1 : TPart) (y2 : TPart) : M Bool :=
  M.bind (cond (decide (x1.dev = y2.dev))
    (M.bind (M.det (slices_Equal_sl_Run_Run x1.runs y2.runs)) fun v5 =>
    M.pure v5)
    (M.pure false)) (fun v3 =>
  M.pure v3)

def slices_EqualFunc_Ctx_Ctx_Part_Part_ctx_eq_c1_l0 (s1_1 : List TPart) (s2_2 : List TPart) : Int → M (M.Step Int (M.Ex Unit Bool)) := fun v21 =>
  cond ((decide (v21 < (List.length s1_1 : Int))))
    (M.bind (M.idx s1_1 v21) fun x23 =>
    M.bind (M.idx s2_2 v21) fun x25 =>
    M.bind (M.det (ctx_eq_c1 x23 x25)) fun v27 =>
    cond (!v27)
      (M.pure (.done (.ret false)))
      (M.pure (.next (IntKind.i64.wrap (v21 + 1)))))
    (M.pure (.done (.brk ())))
/-- slices.EqualFunc[epitaph/api.Ctx,epitaph/api.Ctx,epitaph/api.Part,epitaph/api.Part] -/
def slices_EqualFunc_Ctx_Ctx_Part_Part_ctx_eq_c1 (s1_1 : List TPart) (s2_2 : List TPart) : M Bool :=
  cond ((!decide ((List.length s1_1 : Int) = (List.length s2_2 : Int))))
    (M.pure false)
    (M.bind (M.loop (slices_EqualFunc_Ctx_Ctx_Part_Part_ctx_eq_c1_l0 s1_1 s2_2) 0) (M.exk (fun _ =>
    M.pure true)))

/-- epitaph/ctx.eq -/
def ctx_eq (a1 : List TPart) (b2 : List TPart) : M Bool :=
  M.bind (M.det (slices_EqualFunc_Ctx_Ctx_Part_Part_ctx_eq_c1 a1 b2)) fun v3 =>
  M.pure v3

/-- epitaph/ctx.Good -/
def ctx_Good (c1 : List TPart) : M Bool :=
  M.bind (M.det (ctx_Norm c1)) fun v2 =>
  M.bind (M.det (ctx_eq c1 v2)) fun v4 =>
  M.pure v4

def num_Read_l0 (x7 : Int) (at2 : Int) (b1 : List Int) : Int × Int → M (M.Step (Int × Int) Int) := fun ⟨v28, v29⟩ =>
  cond ((decide (v29 < ((List.length ((List.drop (Int.toNat 0) (List.take (Int.toNat (IntKind.i64.wrap x7)) ((List.drop (Int.toNat (IntKind.i64.wrap (at2 + 1))) (List.take (Int.toNat (List.length b1 : Int)) b1)))))) : Int)))))
    (M.bind (M.idx ((List.drop (Int.toNat 0) (List.take (Int.toNat (IntKind.i64.wrap x7)) ((List.drop (Int.toNat (IntKind.i64.wrap (at2 + 1))) (List.take (Int.toNat (List.length b1 : Int)) b1)))))) v29) fun x31 =>
    M.pure (.next (((bOr .u64 (IntKind.u64.wrap (v28 * 2 ^ 8)) (IntKind.u64.wrap x31)), (IntKind.i64.wrap (v29 + 1))))))
    (M.pure (.done v28))
/-- epitaph/num.Read -/
def num_Read (b1 : List Int) (at2 : Int) : M (Int × Int × Int) :=
  M.bind (cond (decide (at2 < 0))
    (M.pure true)
    (M.pure ((decide ((List.length b1 : Int) < at2))))) (fun v3 =>
  cond v3
    (M.pure (0, 0, 1))
    (cond ((decide (at2 = (List.length b1 : Int))))
      (M.pure (0, 0, 2))
      (M.bind (M.idx b1 at2) fun x7 =>
      M.need ((0 : Int) ≤ (IntKind.i64.wrap (at2 + 1)) ∧ ((IntKind.i64.wrap (at2 + 1)) : Int) ≤ (List.length b1 : Int) ∧ (List.length b1 : Int) ≤ (List.length b1 : Int)) <|
      M.bind (cond ((decide (8 < (IntKind.i64.wrap x7))))
        (M.pure true)
        (cond ((decide (0 < (IntKind.i64.wrap x7))))
          (cond ((decide (0 < ((List.length ((List.drop (Int.toNat (IntKind.i64.wrap (at2 + 1))) (List.take (Int.toNat (List.length b1 : Int)) b1))) : Int)))))
            (M.bind (M.idx ((List.drop (Int.toNat (IntKind.i64.wrap (at2 + 1))) (List.take (Int.toNat (List.length b1 : Int)) b1))) 0) fun x14 =>
            M.pure (decide (x14 = 0)))
            (M.pure false))
          (M.pure false))) (fun v10 =>
      cond v10
        (M.pure (0, 0, 4))
        (cond ((decide (((List.length ((List.drop (Int.toNat (IntKind.i64.wrap (at2 + 1))) (List.take (Int.toNat (List.length b1 : Int)) b1))) : Int)) < (IntKind.i64.wrap x7))))
          (M.pure (0, 0, 2))
          (M.need ((0 : Int) ≤ 0 ∧ (0 : Int) ≤ (IntKind.i64.wrap x7) ∧ (IntKind.i64.wrap x7) ≤ (List.length ((List.drop (Int.toNat (IntKind.i64.wrap (at2 + 1))) (List.take (Int.toNat (List.length b1 : Int)) b1))) : Int)) <|
          M.bind (M.loop (num_Read_l0 x7 at2 b1) (0, 0)) (fun v19 =>
          M.pure ((v19, (IntKind.i64.wrap ((IntKind.i64.wrap (at2 + 1)) + (IntKind.i64.wrap x7))), 0)))))))))

/-- epitaph/pack.New -/
def pack_New_o (b1 : List Int) : M (List Int × Int) :=
  M.need (List.length b1 * 1 ≤ 140737488355328) <|
  M.pure (b1, 0)

/-- (*epitaph/pack.Reader).Err -/
def pack_Reader_Err_o (b_1 : List Int) (bad_2 : Int) : M (Int × List Int × Int) :=
  M.pure (bad_2, b_1, bad_2)

/-- (*epitaph/pack.Reader).Fail -/
def pack_Reader_Fail_o (e1 : Int) (b_2 : List Int) (bad_3 : Int) : M (List Int × Int) :=
  M.bind (cond (decide (bad_3 = 0))
    (M.pure (!decide (e1 = 0)))
    (M.pure false)) (fun v4 =>
  cond v4
    (M.pure (([] : List Int), e1))
    (M.pure (b_2, bad_3)))

/-- (*epitaph/pack.rest).take -/
def pack_rest_take_o (n1 : Int) (b_2 : List Int) (bad_3 : Int) : M (List Int × List Int × Int) :=
  M.need ((0 : Int) ≤ 0 ∧ (0 : Int) ≤ n1 ∧ n1 ≤ (List.length b_2 : Int)) <|
  M.need ((0 : Int) ≤ n1 ∧ (n1 : Int) ≤ (List.length b_2 : Int) ∧ (List.length b_2 : Int) ≤ (List.length b_2 : Int)) <|
  M.pure (((List.drop (Int.toNat 0) (List.take (Int.toNat n1) b_2)), (List.drop (Int.toNat n1) (List.take (Int.toNat (List.length b_2 : Int)) b_2)), bad_3))

/-- (*epitaph/pack.Reader).Num -/
def pack_Reader_Num_o (b_1 : List Int) (bad_2 : Int) : M (Int × List Int × Int) :=
  M.bind (M.det (pack_Reader_Err_o b_1 bad_2)) fun y3 =>
  cond (!decide (y3.1 = 0))
    (M.pure (0, y3.2.1, y3.2.2))
    (M.bind (M.det (num_Read y3.2.1 0)) fun v6 =>
    cond (!decide (v6.2.2 = 0))
      (M.bind (M.det (pack_Reader_Fail_o v6.2.2 y3.2.1 y3.2.2)) fun y9 =>
      M.pure (0, y9.1, y9.2))
      (M.bind (M.det (pack_rest_take_o v6.2.1 y3.2.1 y3.2.2)) fun y11 =>
      M.pure (v6.1, y11.2.1, y11.2.2)))

/-- (*epitaph/pack.Reader).Upto -/
def pack_Reader_Upto_o (most1 : Int) (b_2 : List Int) (bad_3 : Int) : M (Int × List Int × Int) :=
  M.bind (M.det (pack_Reader_Num_o b_2 bad_3)) fun y4 =>
  cond (decide (most1 < y4.1))
    (M.bind (M.det (pack_Reader_Fail_o 4 y4.2.1 y4.2.2)) fun y7 =>
    M.pure (0, y7.1, y7.2))
    (M.pure (y4.1, y4.2.1, y4.2.2))

def dcode_part_o_l0 (y5 : Int × List Int × Int) : Int × List TRun × List Int × Int → M (M.Step (Int × List TRun × List Int × Int) (List TRun × List Int × Int)) := fun ⟨v32, v33, v34, v35⟩ =>
  cond (decide (v32 < y5.1))
    (M.bind (M.det (pack_Reader_Num_o v34 v35)) fun y37 =>
    M.bind (M.det (pack_Reader_Num_o y37.2.1 y37.2.2)) fun y39 =>
    M.need ((List.length v33 + List.length ([(⟨y37.1, y39.1⟩ : TRun)])) * 16 ≤ 140737488355328) <|
    M.bind (M.det (pack_Reader_Err_o y39.2.1 y39.2.2)) fun y42 =>
    cond (!decide (y42.1 = 0))
      (M.pure (.done ((((v33 ++ [(⟨y37.1, y39.1⟩ : TRun)]), y42.2.1, y42.2.2)))))
      (M.pure (.next (((IntKind.u64.wrap (v32 + 1)), (v33 ++ [(⟨y37.1, y39.1⟩ : TRun)]), y42.2.1, y42.2.2)))))
    (M.pure (.done (v33, v34, v35)))
/-- epitaph/dcode.part -/
def dcode_part_o (b_1 : List Int) (bad_2 : Int) : M (TPart × List Int × Int) :=
  M.bind (M.det (pack_Reader_Upto_o 65535 b_1 bad_2)) fun y3 =>
  M.bind (M.det (pack_Reader_Num_o y3.2.1 y3.2.2)) fun y5 =>
  M.bind (M.loop (dcode_part_o_l0 y5) (0, ([] : List TRun), y5.2.1, y5.2.2)) (fun ⟨v7, v8, v9⟩ =>
  M.pure (((⟨(IntKind.u16.wrap y3.1), v7⟩ : TPart), v8, v9)))

def dcode_Ctx_o_l0 (y3 : Int × List Int × Int) : Int × List TPart × List Int × Int → M (M.Step (Int × List TPart × List Int × Int) (M.Ex (List TPart × List Int × Int) (List TPart × List Int × Int))) := fun ⟨v26, c27, v28, v29⟩ =>
  cond (decide (v26 < y3.1))
    (M.bind (M.det (dcode_part_o v28 v29)) fun y31 =>
    M.need ((List.length c27 + List.length ([y31.1])) * 32 ≤ 140737488355328) <|
    M.bind (M.det (pack_Reader_Err_o y31.2.1 y31.2.2)) fun y34 =>
    cond (!decide (y34.1 = 0))
      (M.pure (.done ((.ret (([] : List TPart), y34.2.1, y34.2.2)))))
      (M.pure (.next (((IntKind.u64.wrap (v26 + 1)), (c27 ++ [y31.1]), y34.2.1, y34.2.2)))))
    (M.pure (.done (.brk (c27, v28, v29))))
/-- epitaph/dcode.Ctx -/
def dcode_Ctx_o (b_1 : List Int) (bad_2 : Int) : M (List TPart × List Int × Int) :=
  M.bind (M.det (pack_Reader_Num_o b_1 bad_2)) fun y3 =>
  M.bind (M.loop (dcode_Ctx_o_l0 y3) (0, ([] : List TPart), y3.2.1, y3.2.2)) (M.exk (fun ⟨c5, v6, v7⟩ =>
  M.bind (M.det (ctx_Good c5)) fun v37 =>
  cond (!v37)
    (M.bind (M.det (pack_Reader_Fail_o 4 v6 v7)) fun y40 =>
    M.pure (([] : List TPart), y40.1, y40.2))
    (M.pure (c5, v6, v7))))

/-- (*epitaph/pack.rest).Left -/
def pack_rest_Left_o (b_1 : List Int) (bad_2 : Int) : M (Int × List Int × Int) :=
  M.pure ((List.length b_1 : Int), b_1, bad_2)

/-- (*epitaph/pack.Reader).Left -/
def pack_Reader_Left_o (b_1 : List Int) (bad_2 : Int) : M (Int × List Int × Int) :=
  M.bind (M.det (pack_rest_Left_o b_1 bad_2)) fun y3 =>
  M.pure (y3.1, y3.2.1, y3.2.2)

/-- (*epitaph/pack.Reader).End -/
def pack_Reader_End_o (b_1 : List Int) (bad_2 : Int) : M (Int × List Int × Int) :=
  M.bind (M.det (pack_Reader_Left_o b_1 bad_2)) fun y3 =>
  M.bind (cond (decide (0 < y3.1))
    (M.bind (M.det (pack_Reader_Fail_o 4 y3.2.1 y3.2.2)) fun y8 =>
    M.pure (y8.1, y8.2))
    (M.pure (y3.2.1, y3.2.2))) (fun ⟨v5, v6⟩ =>
  M.bind (M.det (pack_Reader_Err_o v5 v6)) fun y10 =>
  M.pure (y10.1, y10.2.1, y10.2.2))

/-- epitaph/dcode.Decode -/
def dcode_Decode (b1 : List Int) : M (List TPart × Int) :=
  M.bind (M.det (pack_New_o b1)) fun y2 =>
  M.bind (M.det (dcode_Ctx_o y2.1 y2.2)) fun y4 =>
  M.bind (M.det (pack_Reader_End_o y4.2.1 y4.2.2)) fun y6 =>
  cond (!decide (y6.1 = 0))
    (M.pure (([] : List TPart), y6.1))
    (M.pure (y4.1, 0))

def r03_Read_l0 (x7 : Int) (b1 : List Int) (at2 : Int) : Int × Int → M (M.Step (Int × Int) Int) := fun ⟨v26, i27⟩ =>
  cond ((decide (i27 ≤ (IntKind.i64.wrap x7))))
    (M.bind (M.idx b1 (IntKind.i64.wrap (at2 + i27))) fun x29 =>
    M.pure (.next (((IntKind.u64.wrap ((IntKind.u64.wrap (v26 * 256)) + (IntKind.u64.wrap x29))), (IntKind.i64.wrap (i27 + 1))))))
    (M.pure (.done v26))
/-- epitaph/epitaphref03.Read -/
def r03_Read (b1 : List Int) (at2 : Int) : M (Int × Int × Int) :=
  M.bind (cond (decide (at2 < 0))
    (M.pure true)
    (M.pure ((decide ((List.length b1 : Int) < at2))))) (fun v3 =>
  cond v3
    (M.pure (0, 0, 1))
    (cond ((decide (at2 = (List.length b1 : Int))))
      (M.pure (0, 0, 2))
      (M.bind (M.idx b1 at2) fun x7 =>
      M.bind (cond ((decide (8 < (IntKind.i64.wrap x7))))
        (M.pure true)
        (cond ((decide (0 < (IntKind.i64.wrap x7))))
          (cond ((decide (0 < ((IntKind.i64.wrap (((IntKind.i64.wrap ((List.length b1 : Int) - at2))) - 1))))))
            (M.bind (M.idx b1 (IntKind.i64.wrap (at2 + 1))) fun x13 =>
            M.pure (decide (x13 = 0)))
            (M.pure false))
          (M.pure false))) (fun v9 =>
      cond v9
        (M.pure (0, 0, 4))
        (cond ((decide (((IntKind.i64.wrap (((IntKind.i64.wrap ((List.length b1 : Int) - at2))) - 1))) < (IntKind.i64.wrap x7))))
          (M.pure (0, 0, 2))
          (M.bind (M.loop (r03_Read_l0 x7 b1 at2) (0, 1)) (fun v17 =>
          M.pure ((v17, (IntKind.i64.wrap ((IntKind.i64.wrap (at2 + 1)) + (IntKind.i64.wrap x7))), 0)))))))))

/-- epitaph/dcode.Dot -/
def dcode_Dot_o (b_1 : List Int) (bad_2 : Int) : M (TDot × List Int × Int) :=
  M.bind (M.det (pack_Reader_Upto_o 65535 b_1 bad_2)) fun y3 =>
  M.bind (M.det (pack_Reader_Num_o y3.2.1 y3.2.2)) fun y5 =>
  M.bind (M.det (dot_Good (⟨(IntKind.u16.wrap y3.1), y5.1⟩ : TDot))) fun v7 =>
  M.bind (cond (!v7)
    (M.bind (M.det (pack_Reader_Fail_o 4 y5.2.1 y5.2.2)) fun y12 =>
    M.pure (y12.1, y12.2))
    (M.pure (y5.2.1, y5.2.2))) (fun ⟨v9, v10⟩ =>
  M.bind (M.det (pack_Reader_Err_o v9 v10)) fun y14 =>
  cond (!decide (y14.1 = 0))
    (M.pure ((⟨0, 0⟩ : TDot), y14.2.1, y14.2.2))
    (M.pure (((⟨(IntKind.u16.wrap y3.1), y5.1⟩ : TDot), y14.2.1, y14.2.2))))

/-- (*epitaph/pack.Reader).Byte -/
def pack_Reader_Byte_o (b_1 : List Int) (bad_2 : Int) : M (Int × List Int × Int) :=
  M.bind (M.det (pack_Reader_Err_o b_1 bad_2)) fun y3 =>
  cond (!decide (y3.1 = 0))
    (M.pure (0, y3.2.1, y3.2.2))
    (M.bind (M.det (pack_Reader_Left_o y3.2.1 y3.2.2)) fun y6 =>
    cond (decide (y6.1 = 0))
      (M.bind (M.det (pack_Reader_Fail_o 2 y6.2.1 y6.2.2)) fun y9 =>
      M.pure (0, y9.1, y9.2))
      (M.bind (M.det (pack_rest_take_o 1 y6.2.1 y6.2.2)) fun y11 =>
      M.bind (M.idx y11.1 0) fun x13 =>
      M.pure (x13, y11.2.1, y11.2.2)))

/-- (*epitaph/pack.Reader).Text -/
def pack_Reader_Text_o (most1 : Int) (b_2 : List Int) (bad_3 : Int) : M (ByteArray × List Int × Int) :=
  M.bind (M.det (pack_Reader_Num_o b_2 bad_3)) fun y4 =>
  M.bind (M.det (pack_Reader_Err_o y4.2.1 y4.2.2)) fun y6 =>
  cond (!decide (y6.1 = 0))
    (M.pure ((⟨#[]⟩ : ByteArray), y6.2.1, y6.2.2))
    (cond ((decide ((IntKind.u64.wrap (max most1 0)) < y4.1)))
      (M.bind (M.det (pack_Reader_Fail_o 3 y6.2.1 y6.2.2)) fun y10 =>
      M.pure ((⟨#[]⟩ : ByteArray), y10.1, y10.2))
      (M.bind (M.det (pack_Reader_Left_o y6.2.1 y6.2.2)) fun y12 =>
      cond ((decide ((IntKind.u64.wrap y12.1) < y4.1)))
        (M.bind (M.det (pack_Reader_Fail_o 2 y12.2.1 y12.2.2)) fun y15 =>
        M.pure ((⟨#[]⟩ : ByteArray), y15.1, y15.2))
        (M.bind (M.det (pack_rest_take_o (IntKind.i64.wrap y4.1) y12.2.1 y12.2.2)) fun y17 =>
        M.pure ((strL y17.1), y17.2.1, y17.2.2))))

def dcode_Dots_o_l0 (y4 : Int × List Int × Int) : Int × List TDot × List Int × Int → M (M.Step (Int × List TDot × List Int × Int) (M.Ex (List TDot × List Int × Int) (List TDot × List Int × Int))) := fun ⟨v52, out53, v54, v55⟩ =>
  cond (decide (v52 < y4.1))
    (M.bind (M.det (dcode_Dot_o v54 v55)) fun y57 =>
    M.bind (cond ((decide (0 ≤ ((IntKind.i64.wrap (((List.length out53) : Int) - 1))))))
      (M.bind (M.idx out53 ((IntKind.i64.wrap (((List.length out53) : Int) - 1)))) fun x61 =>
      M.bind (M.det (dot_Cmp x61 y57.1)) fun v63 =>
      M.pure (decide (0 ≤ v63)))
      (M.pure false)) (fun v59 =>
    M.bind (cond v59
      (M.bind (M.det (pack_Reader_Fail_o 4 y57.2.1 y57.2.2)) fun y68 =>
      M.pure (y68.1, y68.2))
      (M.pure (y57.2.1, y57.2.2))) (fun ⟨v65, v66⟩ =>
    M.bind (M.det (pack_Reader_Err_o v65 v66)) fun y70 =>
    cond (!decide (y70.1 = 0))
      (M.pure (.done ((.ret (([] : List TDot), y70.2.1, y70.2.2)))))
      (M.need ((List.length out53 + List.length ([y57.1])) * 16 ≤ 140737488355328) <|
      M.pure (.next (((IntKind.u64.wrap (v52 + 1)), (out53 ++ [y57.1]), y70.2.1, y70.2.2)))))))
    (M.pure (.done (.brk (out53, v54, v55))))
/-- epitaph/dcode.Dots -/
def dcode_Dots_o (most1 : Int) (b_2 : List Int) (bad_3 : Int) : M (List TDot × List Int × Int) :=
  M.bind (M.det (pack_Reader_Num_o b_2 bad_3)) fun y4 =>
  cond ((decide ((IntKind.u64.wrap (max most1 0)) < y4.1)))
    (M.bind (M.det (pack_Reader_Fail_o 3 y4.2.1 y4.2.2)) fun y7 =>
    M.pure (([] : List TDot), y7.1, y7.2))
    (M.bind (M.loop (dcode_Dots_o_l0 y4) (0, ([] : List TDot), y4.2.1, y4.2.2)) (M.exk (fun ⟨out9, v10, v11⟩ =>
    M.pure (out9, v10, v11))))

/-- epitaph/ecode.Get -/
def ecode_Get_o (b_1 : List Int) (bad_2 : Int) : M (TEvent × List Int × Int) :=
  M.bind (M.det (dcode_Dot_o b_1 bad_2)) fun y3 =>
  M.bind (M.det (pack_Reader_Byte_o y3.2.1 y3.2.2)) fun y5 =>
  M.bind (M.det (pack_Reader_Num_o y5.2.1 y5.2.2)) fun y7 =>
  M.bind (M.det (pack_Reader_Byte_o y7.2.1 y7.2.2)) fun y9 =>
  M.bind (M.det (pack_Reader_Text_o 60 y9.2.1 y9.2.2)) fun y11 =>
  M.bind (M.det (dcode_Dots_o 256 y11.2.1 y11.2.2)) fun y13 =>
  M.bind (M.det (event_Good (⟨y3.1, y5.1, y7.1, y9.1, y11.1, y13.1⟩ : TEvent))) fun v15 =>
  M.bind (cond (!v15)
    (M.bind (M.det (pack_Reader_Fail_o 4 y13.2.1 y13.2.2)) fun y20 =>
    M.pure (y20.1, y20.2))
    (M.pure (y13.2.1, y13.2.2))) (fun ⟨v17, v18⟩ =>
  M.bind (M.det (pack_Reader_Err_o v17 v18)) fun y22 =>
  cond (!decide (y22.1 = 0))
    (M.pure (((⟨(⟨0, 0⟩ : TDot), 0, 0, 0, (⟨#[]⟩ : ByteArray), ([] : List TDot)⟩ : TEvent), y22.2.1, y22.2.2)))
    (M.pure ((⟨y3.1, y5.1, y7.1, y9.1, y11.1, y13.1⟩ : TEvent), y22.2.1, y22.2.2)))

/-- epitaph/ecode.Decode -/
def ecode_Decode (b1 : List Int) : M (TEvent × Int) :=
  M.bind (M.det (pack_New_o b1)) fun y2 =>
  M.bind (M.det (ecode_Get_o y2.1 y2.2)) fun y4 =>
  M.bind (M.det (pack_Reader_End_o y4.2.1 y4.2.2)) fun y6 =>
  cond (!decide (y6.1 = 0))
    (M.pure (((⟨(⟨0, 0⟩ : TDot), 0, 0, 0, (⟨#[]⟩ : ByteArray), ([] : List TDot)⟩ : TEvent), y6.1)))
    (M.pure (y4.1, 0))

/-- (*epitaph/epitaphref04.Reader).Fail -/
def epitaphref04_Reader_Fail_o (e1 : Int) (b_2 : List Int) (at_3 : Int) (bad_4 : Int) : M (List Int × Int × Int) :=
  cond (decide (bad_4 = 0))
    (M.pure (b_2, at_3, e1))
    (M.pure (b_2, at_3, bad_4))

/-- (*epitaph/epitaphref04.Reader).Num -/
def epitaphref04_Reader_Num_o (b_1 : List Int) (at_2 : Int) (bad_3 : Int) : M (Int × List Int × Int × Int) :=
  cond (!decide (bad_3 = 0))
    (M.pure (0, b_1, at_2, bad_3))
    (M.bind (M.det (r03_Read b_1 at_2)) fun v5 =>
    cond (!decide (v5.2.2 = 0))
      (M.bind (M.det (epitaphref04_Reader_Fail_o v5.2.2 b_1 at_2 bad_3)) fun y8 =>
      M.pure (0, y8.1, y8.2.1, y8.2.2))
      (M.pure (v5.1, b_1, v5.2.1, bad_3)))

/-- (*epitaph/epitaphref04.Reader).Upto -/
def epitaphref04_Reader_Upto_o (most1 : Int) (b_2 : List Int) (at_3 : Int) (bad_4 : Int) : M (Int × List Int × Int × Int) :=
  M.bind (M.det (epitaphref04_Reader_Num_o b_2 at_3 bad_4)) fun y5 =>
  cond (decide (most1 < y5.1))
    (M.bind (M.det (epitaphref04_Reader_Fail_o 4 y5.2.1 y5.2.2.1 y5.2.2.2)) fun y8 =>
    M.pure (0, y8.1, y8.2.1, y8.2.2))
    (M.pure (y5.1, y5.2.1, y5.2.2.1, y5.2.2.2))

/-- epitaph/epitaphref15.Dot -/
def r15_Dot_o (b_1 : List Int) (at_2 : Int) (bad_3 : Int) : M (TDot × List Int × Int × Int) :=
  M.bind (M.det (epitaphref04_Reader_Upto_o 65535 b_1 at_2 bad_3)) fun y4 =>
  M.bind (M.det (epitaphref04_Reader_Num_o y4.2.1 y4.2.2.1 y4.2.2.2)) fun y6 =>
  M.bind (cond (decide (y6.2.2.2 = 0))
    (M.bind (M.det (r07_Good (⟨(IntKind.u16.wrap y4.1), y6.1⟩ : TDot))) fun v10 =>
    M.pure (!v10))
    (M.pure false)) (fun v8 =>
  M.bind (cond v8
    (M.bind (M.det (epitaphref04_Reader_Fail_o 4 y6.2.1 y6.2.2.1 y6.2.2.2)) fun y16 =>
    M.pure (y16.1, y16.2.1, y16.2.2))
    (M.pure (y6.2.1, y6.2.2.1, y6.2.2.2))) (fun ⟨v12, v13, v14⟩ =>
  cond (!decide (v14 = 0))
    (M.pure ((⟨0, 0⟩ : TDot), v12, v13, v14))
    (M.pure (((⟨(IntKind.u16.wrap y4.1), y6.1⟩ : TDot), v12, v13, v14)))))

/-- (*epitaph/epitaphref04.Reader).Byte -/
def epitaphref04_Reader_Byte_o (b_1 : List Int) (at_2 : Int) (bad_3 : Int) : M (Int × List Int × Int × Int) :=
  cond (!decide (bad_3 = 0))
    (M.pure (0, b_1, at_2, bad_3))
    (cond ((decide ((List.length b_1 : Int) ≤ at_2)))
      (M.bind (M.det (epitaphref04_Reader_Fail_o 2 b_1 at_2 bad_3)) fun y6 =>
      M.pure (0, y6.1, y6.2.1, y6.2.2))
      (M.bind (M.idx b_1 ((IntKind.i64.wrap ((IntKind.i64.wrap (at_2 + 1)) - 1)))) fun x8 =>
      M.pure ((x8, b_1, (IntKind.i64.wrap (at_2 + 1)), bad_3))))

/-- (*epitaph/epitaphref04.Reader).Text -/
def epitaphref04_Reader_Text_o (most1 : Int) (b_2 : List Int) (at_3 : Int) (bad_4 : Int) : M (ByteArray × List Int × Int × Int) :=
  M.bind (M.det (epitaphref04_Reader_Num_o b_2 at_3 bad_4)) fun y5 =>
  M.bind (cond (decide (most1 < 0))
    (M.pure 0)
    (M.pure most1)) (fun most7 =>
  M.bind (cond ((decide ((IntKind.u64.wrap most7) < y5.1)))
    (M.bind (M.det (epitaphref04_Reader_Fail_o 3 y5.2.1 y5.2.2.1 y5.2.2.2)) fun y13 =>
    M.pure (y13.1, y13.2.1, y13.2.2))
    (M.pure (y5.2.1, y5.2.2.1, y5.2.2.2))) (fun ⟨v9, v10, v11⟩ =>
  M.bind (cond (decide (v11 = 0))
    (M.pure ((decide (((IntKind.u64.wrap ((IntKind.i64.wrap ((List.length v9 : Int) - v10))))) < y5.1))))
    (M.pure false)) (fun v15 =>
  M.bind (cond v15
    (M.bind (M.det (epitaphref04_Reader_Fail_o 2 v9 v10 v11)) fun y21 =>
    M.pure (y21.1, y21.2.1, y21.2.2))
    (M.pure (v9, v10, v11))) (fun ⟨v17, v18, v19⟩ =>
  cond (!decide (v19 = 0))
    (M.pure ((⟨#[]⟩ : ByteArray), v17, v18, v19))
    (M.need ((0 : Int) ≤ v18 ∧ (v18 : Int) ≤ ((IntKind.i64.wrap (v18 + (IntKind.i64.wrap y5.1)))) ∧ ((IntKind.i64.wrap (v18 + (IntKind.i64.wrap y5.1)))) ≤ (List.length v17 : Int)) <|
    M.pure (((strL ((List.drop (Int.toNat v18) (List.take (Int.toNat ((IntKind.i64.wrap (v18 + (IntKind.i64.wrap y5.1))))) v17)))), v17, (IntKind.i64.wrap (v18 + (IntKind.i64.wrap y5.1))), v19)))))))

def r15_Dots_o_l0 (y7 : Int × List Int × Int × Int) : Int × List TDot × List Int × Int × Int → M (M.Step (Int × List TDot × List Int × Int × Int) (List TDot × List Int × Int × Int)) := fun ⟨i62, out63, v64, v65, v66⟩ =>
  M.bind (cond (decide (i62 < y7.1))
    (M.pure (decide (v66 = 0)))
    (M.pure false)) (fun v67 =>
  cond v67
    (M.bind (M.det (r15_Dot_o v64 v65 v66)) fun y70 =>
    M.bind (cond (decide (y70.2.2.2 = 0))
      (cond ((decide (0 ≤ ((IntKind.i64.wrap (((List.length out63) : Int) - 1))))))
        (M.bind (M.idx out63 ((IntKind.i64.wrap (((List.length out63) : Int) - 1)))) fun x75 =>
        M.bind (M.det (r07_Cmp x75 y70.1)) fun v77 =>
        M.pure (decide (0 ≤ v77)))
        (M.pure false))
      (M.pure false)) (fun v72 =>
    M.bind (cond v72
      (M.bind (M.det (epitaphref04_Reader_Fail_o 4 y70.2.1 y70.2.2.1 y70.2.2.2)) fun y83 =>
      M.pure (y83.1, y83.2.1, y83.2.2))
      (M.pure (y70.2.1, y70.2.2.1, y70.2.2.2))) (fun ⟨v79, v80, v81⟩ =>
    M.need ((List.length out63 + List.length ([y70.1])) * 16 ≤ 140737488355328) <|
    M.pure (.next (((IntKind.u64.wrap (i62 + 1)), (out63 ++ [y70.1]), v79, v80, v81))))))
    (M.pure (.done (out63, v64, v65, v66))))
/-- epitaph/epitaphref15.Dots -/
def r15_Dots_o (most1 : Int) (b_2 : List Int) (at_3 : Int) (bad_4 : Int) : M (List TDot × List Int × Int × Int) :=
  M.bind (cond (decide (most1 < 0))
    (M.pure 0)
    (M.pure most1)) (fun most5 =>
  M.bind (M.det (epitaphref04_Reader_Num_o b_2 at_3 bad_4)) fun y7 =>
  M.bind (cond ((decide ((IntKind.u64.wrap most5) < y7.1)))
    (M.bind (M.det (epitaphref04_Reader_Fail_o 3 y7.2.1 y7.2.2.1 y7.2.2.2)) fun y13 =>
    M.pure (y13.1, y13.2.1, y13.2.2))
    (M.pure (y7.2.1, y7.2.2.1, y7.2.2.2))) (fun ⟨v9, v10, v11⟩ =>
  M.bind (M.loop (r15_Dots_o_l0 y7) (0, ([] : List TDot), v9, v10, v11)) (fun ⟨out15, v16, v17, v18⟩ =>
  cond (!decide (v18 = 0))
    (M.pure (([] : List TDot), v16, v17, v18))
    (M.pure (out15, v16, v17, v18)))))

/-- epitaph/epitaphref16.Get -/
def r16_Get_o (b_1 : List Int) (at_2 : Int) (bad_3 : Int) : M (TEvent × List Int × Int × Int) :=
  M.bind (M.det (r15_Dot_o b_1 at_2 bad_3)) fun y4 =>
  M.bind (M.det (epitaphref04_Reader_Byte_o y4.2.1 y4.2.2.1 y4.2.2.2)) fun y6 =>
  M.bind (M.det (epitaphref04_Reader_Num_o y6.2.1 y6.2.2.1 y6.2.2.2)) fun y8 =>
  M.bind (M.det (epitaphref04_Reader_Byte_o y8.2.1 y8.2.2.1 y8.2.2.2)) fun y10 =>
  M.bind (M.det (epitaphref04_Reader_Text_o 60 y10.2.1 y10.2.2.1 y10.2.2.2)) fun y12 =>
  M.bind (M.det (r15_Dots_o 256 y12.2.1 y12.2.2.1 y12.2.2.2)) fun y14 =>
  M.bind (cond (decide (y14.2.2.2 = 0))
    (M.bind (M.det (r13_Good (⟨y4.1, y6.1, y8.1, y10.1, y12.1, y14.1⟩ : TEvent))) fun v18 =>
    M.pure (!v18))
    (M.pure false)) (fun v16 =>
  M.bind (cond v16
    (M.bind (M.det (epitaphref04_Reader_Fail_o 4 y14.2.1 y14.2.2.1 y14.2.2.2)) fun y24 =>
    M.pure (y24.1, y24.2.1, y24.2.2))
    (M.pure (y14.2.1, y14.2.2.1, y14.2.2.2))) (fun ⟨v20, v21, v22⟩ =>
  cond (!decide (v22 = 0))
    (M.pure (((⟨(⟨0, 0⟩ : TDot), 0, 0, 0, (⟨#[]⟩ : ByteArray), ([] : List TDot)⟩ : TEvent), v20, v21, v22)))
    (M.pure ((⟨y4.1, y6.1, y8.1, y10.1, y12.1, y14.1⟩ : TEvent), v20, v21, v22))))

/-- (*epitaph/epitaphref04.Reader).Left -/
def epitaphref04_Reader_Left_o (b_1 : List Int) (at_2 : Int) (bad_3 : Int) : M (Int × List Int × Int × Int) :=
  cond (!decide (bad_3 = 0))
    (M.pure (0, b_1, at_2, bad_3))
    (M.pure (((IntKind.i64.wrap ((List.length b_1 : Int) - at_2)), b_1, at_2, bad_3)))

/-- (*epitaph/epitaphref04.Reader).End -/
def epitaphref04_Reader_End_o (b_1 : List Int) (at_2 : Int) (bad_3 : Int) : M (Int × List Int × Int × Int) :=
  M.bind (M.det (epitaphref04_Reader_Left_o b_1 at_2 bad_3)) fun y4 =>
  M.bind (cond (decide (0 < y4.1))
    (M.bind (M.det (epitaphref04_Reader_Fail_o 4 y4.2.1 y4.2.2.1 y4.2.2.2)) fun y10 =>
    M.pure (y10.1, y10.2.1, y10.2.2))
    (M.pure (y4.2.1, y4.2.2.1, y4.2.2.2))) (fun ⟨v6, v7, v8⟩ =>
  M.pure (v8, v6, v7, v8))

/-- epitaph/epitaphref16.Decode -/
def r16_Decode (b1 : List Int) : M (TEvent × Int) :=
  M.bind (M.det (r16_Get_o b1 0 0)) fun y2 =>
  M.bind (M.det (epitaphref04_Reader_End_o y2.2.1 y2.2.2.1 y2.2.2.2)) fun y4 =>
  cond (!decide (y4.1 = 0))
    (M.pure (((⟨(⟨0, 0⟩ : TDot), 0, 0, 0, (⟨#[]⟩ : ByteArray), ([] : List TDot)⟩ : TEvent), y4.1)))
    (M.pure (y2.1, 0))

def ecode_GetAll_o_l0 (y4 : Int × List Int × Int) : Int × List TEvent × List Int × Int → M (M.Step (Int × List TEvent × List Int × Int) (M.Ex (List TEvent × List Int × Int) (List TEvent × List Int × Int))) := fun ⟨v52, out53, v54, v55⟩ =>
  cond (decide (v52 < y4.1))
    (M.bind (M.det (ecode_Get_o v54 v55)) fun y57 =>
    M.bind (cond ((decide (0 ≤ ((IntKind.i64.wrap (((List.length out53) : Int) - 1))))))
      (M.bind (M.idx out53 ((IntKind.i64.wrap (((List.length out53) : Int) - 1)))) fun x61 =>
      M.bind (M.det (dot_Cmp x61.dot y57.1.dot)) fun v63 =>
      M.pure (decide (0 ≤ v63)))
      (M.pure false)) (fun v59 =>
    M.bind (cond v59
      (M.bind (M.det (pack_Reader_Fail_o 4 y57.2.1 y57.2.2)) fun y68 =>
      M.pure (y68.1, y68.2))
      (M.pure (y57.2.1, y57.2.2))) (fun ⟨v65, v66⟩ =>
    M.bind (M.det (pack_Reader_Err_o v65 v66)) fun y70 =>
    cond (!decide (y70.1 = 0))
      (M.pure (.done ((.ret (([] : List TEvent), y70.2.1, y70.2.2)))))
      (M.need ((List.length out53 + List.length ([y57.1])) * 80 ≤ 140737488355328) <|
      M.pure (.next (((IntKind.u64.wrap (v52 + 1)), (out53 ++ [y57.1]), y70.2.1, y70.2.2)))))))
    (M.pure (.done (.brk (out53, v54, v55))))
/-- epitaph/ecode.GetAll -/
def ecode_GetAll_o (most1 : Int) (b_2 : List Int) (bad_3 : Int) : M (List TEvent × List Int × Int) :=
  M.bind (M.det (pack_Reader_Num_o b_2 bad_3)) fun y4 =>
  cond ((decide ((IntKind.u64.wrap (max most1 0)) < y4.1)))
    (M.bind (M.det (pack_Reader_Fail_o 3 y4.2.1 y4.2.2)) fun y7 =>
    M.pure (([] : List TEvent), y7.1, y7.2))
    (M.bind (M.loop (ecode_GetAll_o_l0 y4) (0, ([] : List TEvent), y4.2.1, y4.2.2)) (M.exk (fun ⟨out9, v10, v11⟩ =>
    M.pure (out9, v10, v11))))

def r16_GetAll_o_l0 (y7 : Int × List Int × Int × Int) : Int × List TEvent × List Int × Int × Int → M (M.Step (Int × List TEvent × List Int × Int × Int) (List TEvent × List Int × Int × Int)) := fun ⟨i62, out63, v64, v65, v66⟩ =>
  M.bind (cond (decide (i62 < y7.1))
    (M.pure (decide (v66 = 0)))
    (M.pure false)) (fun v67 =>
  cond v67
    (M.bind (M.det (r16_Get_o v64 v65 v66)) fun y70 =>
    M.bind (cond (decide (y70.2.2.2 = 0))
      (cond ((decide (0 ≤ ((IntKind.i64.wrap (((List.length out63) : Int) - 1))))))
        (M.bind (M.idx out63 ((IntKind.i64.wrap (((List.length out63) : Int) - 1)))) fun x75 =>
        M.bind (M.det (r07_Cmp x75.dot y70.1.dot)) fun v77 =>
        M.pure (decide (0 ≤ v77)))
        (M.pure false))
      (M.pure false)) (fun v72 =>
    M.bind (cond v72
      (M.bind (M.det (epitaphref04_Reader_Fail_o 4 y70.2.1 y70.2.2.1 y70.2.2.2)) fun y83 =>
      M.pure (y83.1, y83.2.1, y83.2.2))
      (M.pure (y70.2.1, y70.2.2.1, y70.2.2.2))) (fun ⟨v79, v80, v81⟩ =>
    M.need ((List.length out63 + List.length ([y70.1])) * 80 ≤ 140737488355328) <|
    M.pure (.next (((IntKind.u64.wrap (i62 + 1)), (out63 ++ [y70.1]), v79, v80, v81))))))
    (M.pure (.done (out63, v64, v65, v66))))
/-- epitaph/epitaphref16.GetAll -/
def r16_GetAll_o (most1 : Int) (b_2 : List Int) (at_3 : Int) (bad_4 : Int) : M (List TEvent × List Int × Int × Int) :=
  M.bind (cond (decide (most1 < 0))
    (M.pure 0)
    (M.pure most1)) (fun most5 =>
  M.bind (M.det (epitaphref04_Reader_Num_o b_2 at_3 bad_4)) fun y7 =>
  M.bind (cond ((decide ((IntKind.u64.wrap most5) < y7.1)))
    (M.bind (M.det (epitaphref04_Reader_Fail_o 3 y7.2.1 y7.2.2.1 y7.2.2.2)) fun y13 =>
    M.pure (y13.1, y13.2.1, y13.2.2))
    (M.pure (y7.2.1, y7.2.2.1, y7.2.2.2))) (fun ⟨v9, v10, v11⟩ =>
  M.bind (M.loop (r16_GetAll_o_l0 y7) (0, ([] : List TEvent), v9, v10, v11)) (fun ⟨out15, v16, v17, v18⟩ =>
  cond (!decide (v18 = 0))
    (M.pure (([] : List TEvent), v16, v17, v18))
    (M.pure (out15, v16, v17, v18)))))

/-- epitaph/epitaphlaw16.EcodeReads -/
def l16_EcodeReads (b1 : List Int) (most2 : Int) : M Bool :=
  cond ((decide (1000 < (List.length b1 : Int))))
    (M.bind (M.det (l16_works)) fun v4 =>
    M.pure v4)
    (M.bind (M.det (pack_New_o b1)) fun y6 =>
    M.bind (M.bind (M.det (ecode_GetAll_o most2 y6.1 y6.2)) fun y9 =>
    M.bind (M.det (r16_GetAll_o most2 b1 0 0)) fun y11 =>
    M.bind (M.det (r13_All y9.1 y11.1)) fun v13 =>
    cond (!v13)
      (M.pure true)
      (M.bind (M.det (pack_Reader_End_o y9.2.1 y9.2.2)) fun y16 =>
      M.bind (M.det (epitaphref04_Reader_End_o y11.2.1 y11.2.2.1 y11.2.2.2)) fun y18 =>
      M.pure (!decide (y16.1 = y18.1)))) (fun v8 =>
    cond v8
      (M.pure false)
      (M.bind (M.det (ecode_Decode b1)) fun v21 =>
      M.bind (M.det (r16_Decode b1)) fun v23 =>
      M.bind (M.det (pack_New_o b1)) fun y25 =>
      M.bind (M.bind (M.det (r13_Same v21.1 v23.1)) fun v28 =>
      cond v28
        (cond (decide (v21.2 = v23.2))
          (M.bind (M.det (ecode_Get_o y25.1 y25.2)) fun y32 =>
          M.bind (M.det (r16_Get_o b1 0 0)) fun y34 =>
          M.bind (M.det (r13_Same y32.1 y34.1)) fun v36 =>
          cond v36
            (M.bind (M.det (pack_Reader_Err_o y32.2.1 y32.2.2)) fun y39 =>
            cond (decide (y39.1 = y34.2.2.2))
              (M.bind (M.det (l16_works)) fun v42 =>
              M.pure v42)
              (M.pure false))
            (M.pure false))
          (M.pure false))
        (M.pure false)) (fun v27 =>
      M.pure v27))))

end Go.Ep


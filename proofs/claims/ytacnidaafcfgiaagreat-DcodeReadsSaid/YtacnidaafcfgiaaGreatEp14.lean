/- Walks over pure states: a row that is sorted by a library function. No program in sight. -/
import Derived.Test.YtacnidaafcfgiaaGreatEp13
namespace Go.Ep
open Go.RowKit

/-- What is known of 'slices.SortFunc' (number f) with the comparison g: the row holds a permutation of what it held, in which no later one is less than an earlier one. -/
structure SortLaw {α : Type} (P : Program) (f g : FuncId) (k : Nat) (enc : α → List Value) (lt : α → α → Bool) : Prop where
  nil : ∀ w : World, Calls P f #[.slice none 0 0, .func (.func g) #[] #[]] w fun e w' => e = .returned (.tuple #[]) ∧ Below w.heap.size w w'
  row : ∀ (w : World) (blk cap : Nat) (l : List α) (T : TypeId) (cur : List Value), w.heap[blk]? = some (.cells cur.toArray T (0, 0)) → l.length ≤ cap → cur.length = cap * k → l.length < 4611686018427387904 →
    (∀ (i : Nat) (x : α) (j : Nat) (u : Value), l[i]? = some x → (enc x)[j]? = some u → cur[i * k + j]? = some u) →
    Calls P f #[.slice (some ⟨blk, 0, none⟩) l.length cap, .func (.func g) #[] #[]] w fun e w' => e = .returned (.tuple #[]) ∧ ∃ (l' : List α) (cur' : List Value), l'.Perm l ∧ l'.Pairwise (fun x y => lt y x = false) ∧
      w'.heap[blk]? = some (.cells cur'.toArray T (0, 0)) ∧ cur'.length = cur.length ∧ (∀ (i : Nat) (x : α) (j : Nat) (u : Value), l'[i]? = some x → (enc x)[j]? = some u → cur'[i * k + j]? = some u) ∧
      w'.os = w.os ∧ w'.tape = w.tape ∧ w'.output = w.output ∧ w.heap.size ≤ w'.heap.size ∧ ∀ b, b < w.heap.size → b ≠ blk → w'.heap[b]? = w.heap[b]?

section
variable {P : Program} {ctx : Ctx} {Q : PQ} {s : PState}
variable {dst : Option Tmp} {ty : TypeId} {pos : String} {after : Array Edge} {gd : Option (Nat × Bool)}

theorem PWl.sortFn {α : Type} {ops : Array Oper} {rest : List Oper} {id n k : Nat} {e : TypeId} {fx x gx : Operand} {ats : Array TypeId} {f g : FuncId} {enc : α → List Value} {encD : α → List DV} {lt : α → α → Bool} {l : List α} (hS : SortLaw P f g k enc lt)
    (henc : ∀ y, encD y = (enc y).map .v) (h1 : ∀ y, ∀ u ∈ enc y, u.oneCell' = true) (hk : ∀ y, (enc y).length = k) (hfx : s.ev fx = some (.d (.v (.func (.func f) #[] #[])))) (he : ∀ args w, (callFunc f args).run P w = .ok (.enter f args) w) (hx : s.ev x = some (.row id n)) (hgx : s.ev gx = some (.d (.v (.func (.func g) #[] #[]))))
    (hl : look s.objs id = some (.row e k (l.map encD))) (hn : l.length = n) (hlen : l.length < 4611686018427387904) (hgd : gd = none)
    (h : ∀ l' : List α, l'.Perm l → l'.Pairwise (fun x y => lt y x = false) → PWl P ctx ops Q rest ((s.setO id (.row e k (l'.map encD))).putD dst (.tup []))) :
    PWl P ctx ops Q (⟨dst, .call ⟨.value fx, #[x, gx], ats⟩, ty, pos, after, gd⟩ :: rest) s := by
  rintro a w ⟨gh, hg⟩
  refine wpList_plain hgd fun K hK => ?_
  have hxv := hg.ev hx
  have hob := hg.objs id _ hl
  unfold Oper.wp
  rw [exec_call (o := ⟨dst, .call ⟨.value fx, #[x, gx], ats⟩, ty, pos, after, gd⟩) rfl (ev_v hg hfx) he w]
  generalize hv : a.eval x = v at hxv
  have hargs : (#[x, gx] : Array Operand).map a.eval = #[v, .func (.func g) #[] #[]] := by simp [hv, ev_v hg hgx]
  rw [hargs]
  generalize hL : l.map encD = L at hob
  cases hob with
  | rowNil _ _ hgn =>
    have hl0 : l = [] := by simpa using hL
    subst hl0
    cases hxv with
    | row _ _ blk cap hgi => rw [hgn] at hgi; cases hgi
    | rowNil =>
      refine (hS.nil w).mono fun en w' ⟨hen, hb⟩ => ?_
      subst hen
      have hsub : Sub ctx s (s.setO id (.row e k ([].map encD))) := Sub.drop rfl (fun i p hp => hp) (fun j o hj => by
        simp only [PState.setO, look_putO] at hj
        split at hj
        · rename_i ej; subst ej; cases hj; rw [hl]
        · exact hj)
      obtain ⟨g2, hg2⟩ := hsub a w' ⟨gh, hg.below hb⟩
      exact hK _ _ (h [] (List.Perm.refl _) List.Pairwise.nil _ _ ⟨g2, hg2.put dst (.tup [] [] rfl (by simp))⟩)
  | row _ _ _ blk' cap' cur hgi hh hlc hcap hcs hkk hr' =>
    cases hxv with
    | rowNil _ hgn => rw [hgn] at hgi; cases hgi
    | row _ _ blk cap hgi' =>
      rw [hgi] at hgi'
      cases hgi'
      subst hL
      subst hn
      have hcells : ∀ (i : Nat) (y : α) (j : Nat) (u : Value), l[i]? = some y → (enc y)[j]? = some u → cur[i * k + j]? = some u := by
        intro i y j u hi hu
        obtain ⟨v, hv1, hv2⟩ := hr' i (encD y) j (.v u) (by simp [hi]) (by rw [henc]; simp [hu])
        cases hv2 with
        | v _ _ => exact hv1
      refine (hS.row w blk' cap' l e cur hh (by simpa using hlc) hcs hlen hcells).mono fun en w' ⟨hen, l', cur', hperm, hsort, hh', hcl, hc', hos, htape, hout, hsz, hother⟩ => ?_
      subst hen
      have hown := hg.own id _ blk' cap' hl hgi
      have hst : Stays w w' (Free ctx gh s.objs) := ⟨hsz, fun b ⟨_, h2⟩ hlt => hother b hlt fun eb => by subst eb; exact h2 id _ cap' hl hgi⟩
      have hpl : l'.length = l.length := hperm.length_eq
      have hwr := hg.wrote hl hgi (w' := w') hos htape hout hsz hother hown.2 (ob := .row e k (l'.map encD)) (.row e k _ blk' cap' cur' hgi hh' (by simpa [hpl] using hlc) hcap (by rw [hcl]; exact hcs)
        (fun i cs hi => by
          rw [List.getElem?_map] at hi
          cases hy : l'[i]? with
          | none => simp [hy] at hi
          | some y => simp [hy] at hi; subst hi; rw [henc]; simp [hk])
        (fun i cs j d hi hd => by
          rw [List.getElem?_map] at hi
          cases hy : l'[i]? with
          | none => simp [hy] at hi
          | some y =>
            simp [hy] at hi
            subst hi
            rw [henc, List.getElem?_map] at hd
            cases hu : (enc y)[j]? with
            | none => simp [hu] at hd
            | some u => simp [hu] at hd; subst hd; exact ⟨u, hc' i y j u hy hu, .v u (h1 y u (List.mem_of_getElem? hu))⟩))
      exact hK _ _ (h l' hperm hsort _ _ ⟨gh, hwr.put dst (.tup [] [] rfl (by simp))⟩)
end
end Go.Ep

/- A row that is sorted by a library function, of elements that hold slices: the sort moves cells, and looks at the first ones alone. No program in sight. -/
import Derived.Test.YtacnidaafcfgiaaGreatMr
namespace Go.Ep
open Go.RowKit

theorem perm_lift {α β : Type} (f : α → β) {l l' : List β} (h : l'.Perm l) : ∀ Z : List α, Z.map f = l → ∃ Z' : List α, Z'.Perm Z ∧ Z'.map f = l' := by
  induction h with
  | nil => intro Z hZ; exact ⟨[], by have : Z = [] := by simpa using hZ
                                     rw [this], rfl⟩
  | cons x _ ih =>
    intro Z hZ
    cases Z with
    | nil => cases hZ
    | cons z r =>
      simp only [List.map_cons, List.cons.injEq] at hZ
      obtain ⟨Z', h1, h2⟩ := ih r hZ.2
      exact ⟨z :: Z', h1.cons z, by simp [hZ.1, h2]⟩
  | swap x y _ =>
    intro Z hZ
    match Z, hZ with
    | a :: b :: r, hZ =>
      simp only [List.map_cons, List.cons.injEq] at hZ
      exact ⟨b :: a :: r, List.Perm.swap a b r, by simp [hZ]⟩
    | [a], hZ => simp at hZ
    | [], hZ => cases hZ
  | trans _ _ ih1 ih2 =>
    intro Z hZ
    obtain ⟨Z1, h1, h2⟩ := ih2 Z hZ
    obtain ⟨Z2, h3, h4⟩ := ih1 Z1 h2
    exact ⟨Z2, h3.trans h1, h4⟩

section
variable {P : Program} {ctx : Ctx} {Q : PQ} {s : PState}
variable {dst : Option Tmp} {ty : TypeId} {pos : String} {after : Array Edge} {gd : Option (Nat × Bool)}

/-- The real elements of a row. -/
theorem raws {α X : Type} {enc : α → List Value} {encD : X → List DV} {R : X → α → Prop} {k : Nat} {w : World} {S : Nat → Prop} {cur : List Value}
    (hraw : ∀ (x : X) (us : List Value), us.length = k → (∀ (j : Nat) (d : DV) (u : Value), (encD x)[j]? = some d → us[j]? = some u → DRd w S d u) → ∃ r : α, enc r = us ∧ R x r) (hk : ∀ y, (encD y).length = k) :
    ∀ (l : List X) (b : Nat), (∀ (i : Nat) (x : X) (j : Nat) (d : DV), l[i]? = some x → (encD x)[j]? = some d → ∃ u, cur[(b + i) * k + j]? = some u ∧ DRd w S d u) →
      ∃ Z : List (X × α), Z.map (·.1) = l ∧ ∀ i z, Z[i]? = some z → R z.1 z.2 ∧ (∀ (j : Nat) (u : Value), (enc z.2)[j]? = some u → cur[(b + i) * k + j]? = some u) ∧ ∀ (j : Nat) (d : DV) (u : Value), (encD z.1)[j]? = some d → (enc z.2)[j]? = some u → DRd w S d u
  | [], b, _ => ⟨[], rfl, fun i z h => by simp at h⟩
  | x :: r, b, h => by
    obtain ⟨Z, h1, h2⟩ := raws hraw hk r (b + 1) fun i y j d hi hd => by
      have := h (i + 1) y j d (by simpa using hi) hd
      rwa [show b + (i + 1) = b + 1 + i by omega] at this
    let us : List Value := (List.range k).map fun j => cur.getD (b * k + j) undef
    have hget : ∀ j d, (encD x)[j]? = some d → ∃ u, us[j]? = some u ∧ cur[b * k + j]? = some u ∧ DRd w S d u := fun j d hd => by
      obtain ⟨u, h3, h4⟩ := h 0 x j d rfl hd
      rw [Nat.add_zero] at h3
      have hj : j < k := by rw [← hk x]; exact (List.getElem?_eq_some_iff.1 hd).1
      exact ⟨u, by simp [us, hj, List.getD, h3], h3, h4⟩
    obtain ⟨q, h3, h4⟩ := hraw x us (by simp [us]) fun j d u hd hu => by
      obtain ⟨u', h5, _, h6⟩ := hget j d hd
      rw [h5] at hu; cases hu; exact h6
    refine ⟨(x, q) :: Z, by simp [h1], fun i z hz => ?_⟩
    cases i with
    | zero =>
      simp only [List.getElem?_cons_zero, Option.some.injEq] at hz
      subst hz
      refine ⟨h4, fun j u hu => ?_, fun j d u hd hu => ?_⟩
      · rw [Nat.add_zero]
        simp only [h3] at hu
        have hj : j < k := by have := (List.getElem?_eq_some_iff.1 hu).1; simpa [us] using this
        have hj2 : j < (encD x).length := by rw [hk]; exact hj
        obtain ⟨u', h5, h6, _⟩ := hget j _ (List.getElem?_eq_getElem hj2)
        rw [h5] at hu; cases hu; exact h6
      · simp only [h3] at hu
        obtain ⟨u', h5, _, h6⟩ := hget j d hd
        rw [h5] at hu; cases hu; exact h6
    | succ i =>
      have := h2 i z (by simpa using hz)
      rwa [show b + 1 + i = b + (i + 1) by omega] at this

theorem PWl.sortFnR {α X : Type} {ops : Array Oper} {rest : List Oper} {id n k : Nat} {e : TypeId} {fx x gx : Operand} {ats : Array TypeId} {f g : FuncId} {enc : α → List Value} {encD : X → List DV} {ltR : α → α → Bool} {lt : X → X → Bool} {R : X → α → Prop} {l : List X} (hS : SortLaw P f g k enc ltR)
    (hraw : ∀ (w : World) (S : Nat → Prop) (x : X) (us : List Value), us.length = k → (∀ (j : Nat) (d : DV) (u : Value), (encD x)[j]? = some d → us[j]? = some u → DRd w S d u) → ∃ r : α, enc r = us ∧ R x r) (hlt : ∀ x y r r', R x r → R y r' → ltR r r' = lt x y) (hk : ∀ y, (encD y).length = k) (hk2 : ∀ y, (enc y).length = k)
    (hfx : s.ev fx = some (.d (.v (.func (.func f) #[] #[])))) (he : ∀ args w, (callFunc f args).run P w = .ok (.enter f args) w) (hx : s.ev x = some (.row id n)) (hgx : s.ev gx = some (.d (.v (.func (.func g) #[] #[]))))
    (hl : look s.objs id = some (.row e k (l.map encD))) (hn : l.length = n) (hlen : l.length < 4611686018427387904) (hgd : gd = none)
    (h : ∀ l' : List X, l'.Perm l → l'.Pairwise (fun x y => lt y x = false) → PWl P ctx ops Q rest ((s.setO id (.row e k (l'.map encD))).putD dst (.tup []))) :
    PWl P ctx ops Q (⟨dst, .call ⟨.value fx, #[x, gx], ats⟩, ty, pos, after, gd⟩ :: rest) s := by
  rintro a w ⟨gh, hg⟩
  refine wpList_plain hgd fun K hK => ?_
  have hxv := hg.ev hx
  have hob := hg.objs id _ hl
  unfold Oper.wp
  rw [exec_call (o := ⟨dst, .call ⟨.value fx, #[x, gx], ats⟩, ty, pos, after, gd⟩) rfl (ev_v hg hfx) he w]
  generalize hv : a.eval x = v at hxv
  have hargs : (#[x, gx] : Array Operand).map a.eval = #[v, .func (.func g) #[] #[]] := by simp [hv, ev_v hg hgx]
  rw [hargs]
  generalize hL : l.map encD = L at hob
  cases hob with
  | rowNil _ _ hgn =>
    have hl0 : l = [] := by simpa using hL
    subst hl0
    cases hxv with
    | row _ _ blk cap hgi => rw [hgn] at hgi; cases hgi
    | rowNil =>
      refine (hS.nil w).mono fun en w' ⟨hen, hb⟩ => ?_
      subst hen
      have hsub : Sub ctx s (s.setO id (.row e k ([].map encD))) := Sub.drop rfl (fun i p hp => hp) (fun j o hj => by
        simp only [PState.setO, look_putO] at hj
        split at hj
        · rename_i ej; subst ej; cases hj; rw [hl]
        · exact hj)
      obtain ⟨g2, hg2⟩ := hsub a w' ⟨gh, hg.below hb⟩
      exact hK _ _ (h [] (List.Perm.refl _) List.Pairwise.nil _ _ ⟨g2, hg2.put dst (.tup [] [] rfl (by simp))⟩)
  | row _ _ _ blk' cap' cur hgi hh hlc hcap hcs hkk hr' =>
    cases hxv with
    | rowNil _ hgn => rw [hgn] at hgi; cases hgi
    | row _ _ blk cap hgi' =>
      rw [hgi] at hgi'
      cases hgi'
      subst hL
      subst hn
      obtain ⟨Z, hZ1, hZ2⟩ := raws (cur := cur) (hraw w (Free ctx gh s.objs)) hk l 0 fun i y j d hi hd => by
        rw [Nat.zero_add]
        exact hr' i (encD y) j d (by simp [hi]) hd
      have hZl : (Z.map (·.2)).length = l.length := by rw [← hZ1]; simp
      have hcells : ∀ (i : Nat) (y : α) (j : Nat) (u : Value), (Z.map (·.2))[i]? = some y → (enc y)[j]? = some u → cur[i * k + j]? = some u := by
        intro i y j u hi hu
        rw [List.getElem?_map] at hi
        cases hz : Z[i]? with
        | none => rw [hz] at hi; cases hi
        | some z =>
          rw [hz] at hi
          simp only [Option.map_some, Option.some.injEq] at hi
          subst hi
          have := (hZ2 i z hz).2.1 j u hu
          rwa [Nat.zero_add] at this
      have hrow := hS.row w blk' cap' (Z.map (·.2)) e cur hh (by rw [hZl]; simpa using hlc) hcs (by rw [hZl]; exact hlen) hcells
      rw [hZl] at hrow
      refine hrow.mono fun en w' ⟨hen, l2, cur', hperm, hsort, hh', hcl, hc', hos, htape, hout, hsz, hother⟩ => ?_
      subst hen
      obtain ⟨Z', hP, hZ'⟩ := perm_lift (·.2) hperm Z rfl
      have hmem : ∀ z ∈ Z', R z.1 z.2 ∧ ∀ (j : Nat) (d : DV) (u : Value), (encD z.1)[j]? = some d → (enc z.2)[j]? = some u → DRd w (Free ctx gh s.objs) d u := fun z hz => by
        obtain ⟨i, hi⟩ := List.mem_iff_getElem?.1 (hP.subset hz)
        exact ⟨(hZ2 i z hi).1, (hZ2 i z hi).2.2⟩
      let l' := Z'.map (·.1)
      have hl'p : l'.Perm l := by rw [← hZ1]; exact hP.map _
      have hl's : l'.Pairwise (fun x y => lt y x = false) := by
        rw [← hZ'] at hsort
        rw [List.pairwise_map] at hsort ⊢
        refine List.Pairwise.imp_of_mem (fun {p q} hp hq hpq => ?_) hsort
        rw [← hlt _ _ _ _ (hmem q hq).1 (hmem p hp).1]
        exact hpq
      have hown := hg.own id _ blk' cap' hl hgi
      have hst : Stays w w' (Free ctx gh s.objs) := ⟨hsz, fun b ⟨_, h2⟩ hlt => hother b hlt fun eb => by subst eb; exact h2 id _ cap' hl hgi⟩
      have hpl : l'.length = l.length := hl'p.length_eq
      have hsetF : ∀ b, Free ctx gh s.objs b → Free ctx gh s.objs b := fun _ h => h
      have hwr := hg.wrote hl hgi (w' := w') hos htape hout hsz hother hown.2 (ob := .row e k (l'.map encD)) (.row e k _ blk' cap' cur' hgi hh' (by simpa [hpl] using hlc) hcap (by rw [hcl]; exact hcs)
        (fun i cs hi => by
          rw [List.getElem?_map] at hi
          cases hy : l'[i]? with
          | none => simp [hy] at hi
          | some y => simp [hy] at hi; subst hi; exact hk y)
        (fun i cs j d hi hd => by
          rw [List.getElem?_map] at hi
          cases hy : l'[i]? with
          | none => simp [hy] at hi
          | some y =>
            simp [hy] at hi
            subst hi
            simp only [l', List.getElem?_map] at hy
            cases hz : Z'[i]? with
            | none => rw [hz] at hy; cases hy
            | some z =>
              rw [hz] at hy
              simp only [Option.map_some, Option.some.injEq] at hy
              subst hy
              have hj : j < (enc z.2).length := by rw [hk2, ← hk z.1]; exact (List.getElem?_eq_some_iff.1 hd).1
              have hu : (enc z.2)[j]? = some (enc z.2)[j] := List.getElem?_eq_getElem hj
              refine ⟨_, hc' i z.2 j _ (by rw [← hZ', List.getElem?_map, hz]; rfl) hu, ?_⟩
              exact ((hmem z (List.mem_of_getElem? hz)).2 j d _ hd hu).keep hst (fun b hb _ => free_put hl b hb)))
      exact hK _ _ (h l' hl'p hl's _ _ ⟨gh, hwr.put dst (.tup [] [] rfl (by simp))⟩)
end
end Go.Ep

/- Calls of functions that are handed objects, in statements whose order is drawn; nil stored. No program in sight. -/
import Derived.Test.YtacnidaafcfgiaaGreatOb
namespace Go.Ep
open Go.RowKit
def effO (ρ : List (Nat × Nat)) (js : List Nat) (dst : Option Nat) (r : PV) (os' : List (Nat × Ob)) : Ef := ⟨dstL dst (r.ren ρ) ++ (js.map fun t => (t, PV.junk)).reverse, os'.map fun x => (rn ρ x.1, x.2.ren ρ)⟩
def calO (ρ : List (Nat × Nat)) (js okeys pins ks : List Nat) (f : Ft) : Bool :=
  ((okeys ++ ks).all fun i => (okeys ++ ks).all fun j => Nat.beq i j || !Nat.beq (rn ρ i) (rn ρ j)) && ks.all (inL okeys) && okeys.all (inL ks) && f.ao.all (inL (okeys.map (rn ρ))) &&
  (ks.all fun i => inL pins i || f.al.any fun a => Nat.beq a.1 (rn ρ i) && a.2 == js) && okeys.all fun i => inL f.ro (rn ρ i)
section
variable {P : Program} {ctx : Ctx} {Q : PState → Prop} {s : PState} {ops : Array Oper} {rest : List Oper} {fs : List Ft} {f : Ft}
variable {dst : Option Tmp} {ty : TypeId} {pos : String} {after : Array Edge} {gd : Option (Nat × Bool)}
theorem AllOb.keep {ρ : List (Nat × Nat)} {os : List (Nat × Ob)} {s' : PState} (h : AllOb s ρ os) (hk : ∀ {id ob}, inL f.ro id = true → look s.objs id = some ob → look s'.objs id = some ob) (hr : ((os.map (·.1)).all fun i => inL f.ro (rn ρ i)) = true) : AllOb s' ρ os := by
  induction h with
  | nil => exact .nil
  | cons h _ ih =>
    simp only [List.map_cons, List.all_cons, Bool.and_eq_true] at hr
    exact .cons (hk hr.1 h) (ih hr.2)
theorem PQe.callObj {x : Operand} {xs : List Operand} {ats : Array TypeId} {fn : FuncId} {ps qs : List PV} {os os' : List (Nat × Ob)} {pins : List Nat} {r : PV} (ρ : List (Nat × Nat)) (js ks : List Nat)
    (hc : PObj P fn ps os pins r (fun _ : Unit => os')) (hK : ∀ b, ctx.K b → ctx.S b)
    (hev : ∀ s' : PState, (∀ {y q}, readsX (⟨dst, .call ⟨.value x, xs.toArray, ats⟩, ty, pos, after, gd⟩ : Oper) y = true → s.ev y = some q → s'.ev y = some q) → s'.ev x = some (.d (.v (.func (.func fn) #[] #[]))) ∧ s'.evs xs = some qs)
    (he : ∀ args w, (callFunc fn args).run P w = .ok (.enter fn args) w) (hq : qs.map PV.nilD = ps.map (PV.ren ρ)) (hos : AllOb s ρ os)
    (hks : os'.map (·.1) = ks) (hcl : os'.all (fun x => x.2.named ks) = true) (hr : r.named ks = true) (hok : calO ρ js (os.map (·.1)) pins ks f = true)
    (hg : Wd ops (⟨dst, .call ⟨.value x, xs.toArray, ats⟩, ty, pos, after, gd⟩ : Oper) s) (hk : okE f (effO ρ js dst r os') = true) (h : PQe P ctx ops Q rest fs (s.app (effO ρ js dst r os'))) :
    PQe P ctx ops Q (⟨dst, .call ⟨.value x, xs.toArray, ats⟩, ty, pos, after, gd⟩ :: rest) (f :: fs) s := by
  simp only [calO, Bool.and_eq_true] at hok
  obtain ⟨⟨⟨⟨⟨c1, c2⟩, c3⟩, c4⟩, c5⟩, c6⟩ := hok
  refine .step (e := effO ρ js dst r os') (fun s' hn hee ho _ hal => ?_) hg hk h
  obtain ⟨h1, h2⟩ := hev s' (fun hx hq => hee hx hq)
  have hok' : callOK s' ρ js (os.map (·.1)) pins ks = true := by
    unfold callOK
    rw [Bool.and_eq_true, Bool.and_eq_true]
    refine ⟨⟨c1, ?_⟩, ?_⟩
    · rw [List.all_eq_true] at c2 ⊢
      intro i hi
      rw [c2 i hi]; rfl
    · rw [List.all_eq_true] at c5 ⊢
      intro i hi
      have := c5 i hi
      rw [Bool.or_eq_true] at this ⊢
      rcases this with h | h
      · exact .inl h
      · refine .inr ?_
        obtain ⟨a, ha1, ha2⟩ := List.any_eq_true.1 h
        simp only [Bool.and_eq_true, beq_iff_eq] at ha2
        have hx := hal a ha1
        rw [Nat.eq_of_beq_eq_true ha2.1, ha2.2] at hx
        unfold PState.aloneX at hx
        rw [Bool.and_eq_true, junks_objs] at hx
        rw [Bool.and_eq_true]
        refine ⟨hx.1, ?_⟩
        rw [List.all_eq_true] at c4
        have hx2 := hx.2
        rw [List.all_eq_true] at hx2 ⊢
        intro y hy
        have := hx2 y hy
        rw [Bool.or_eq_true] at this ⊢
        rcases this with h | h
        · exact .inr (c4 _ (inL_iff.1 h))
        · exact .inl h
  have hl := LR.callObj (P := P) (ctx := ctx) (dst := dst) (ty := ty) (pos := pos) (after := after) (gd := gd) (ats := ats) ρ js ks hc hK h1 he h2 hq (hos.keep (fun hi hl => ho (inL_iff.1 hi) hl) c6) hks hcl hr hok'
  suffices hs : Sub ctx ((s'.callO ρ js os os').putD dst (r.ren ρ)) (s'.app (effO ρ js dst r os')) from fun a w hr K Qx hK => hl a w hr K Qx fun a' w' h' => hK a' w' (hs a' w' h')
  refine Sub.drop ?_ ?_ ?_
  · cases dst <;> rfl
  · intro i p hp
    have hat := at_get hp
    have hlt : i < s'.n := at_lt (s := s'.app (effO ρ js dst r os')) hp
    refine at_of (by cases dst <;> exact hlt) ?_
    simp only [PState.app, effO] at hat
    cases dst with
    | none => simpa [dstL, PState.putD, PState.callO, junks_sl] using hat
    | some d => simpa [dstL, PState.putD, PState.put, PState.callO, junks_sl] using hat
  · intro id o hlo
    have e1 : (s'.app (effO ρ js dst r os')).objs = os'.foldr (fun x l => putO (rn ρ x.1) (x.2.ren ρ) l) s'.objs := by
      simp only [PState.app, effO, List.foldr_map]
    have e2 : ((s'.callO ρ js os os').putD dst (r.ren ρ)).objs = os'.foldr (fun x l => putO (rn ρ x.1) (x.2.ren ρ) l) (os.foldr (fun x l => delO (rn ρ x.1) l) s'.objs) := by cases dst <;> rfl
    rw [e1] at hlo
    rw [e2]
    have hF : ∀ (l : List (Nat × Ob)) (A B : List (Nat × Ob)), (∀ j, (∀ y ∈ l, rn ρ y.1 ≠ j) → look A j = look B j) → ∀ j, look (l.foldr (fun x l => putO (rn ρ x.1) (x.2.ren ρ) l) A) j = look (l.foldr (fun x l => putO (rn ρ x.1) (x.2.ren ρ) l) B) j := by
      intro l
      induction l with
      | nil => intro A B h j; exact h j (by simp)
      | cons y r ih =>
        intro A B h j
        rw [List.foldr_cons, List.foldr_cons, look_putO, look_putO]
        by_cases hj : j = rn ρ y.1
        · rw [if_pos hj, if_pos hj]
        · rw [if_neg hj, if_neg hj]
          have gen : ∀ (q : List (Nat × Ob)) (A B : List (Nat × Ob)) (j : Nat), (∀ y ∈ q, rn ρ y.1 ≠ j) → look (q.foldr (fun x l => putO (rn ρ x.1) (x.2.ren ρ) l) A) j = look A j := by
            intro q A B j hq
            induction q with
            | nil => rfl
            | cons z t iht =>
              rw [List.foldr_cons, look_putO, if_neg (fun e => hq z (by simp) e.symm)]
              exact iht fun y hy => hq y (by simp [hy])
          by_cases hr : ∀ z ∈ r, rn ρ z.1 ≠ j
          · rw [gen r A B j hr, gen r B A j hr]
            exact h j fun z hz => by
              rcases List.mem_cons.1 hz with rfl | hz
              · exact fun e => hj e.symm
              · exact hr z hz
          · obtain ⟨z, hz, hzj⟩ : ∃ z ∈ r, rn ρ z.1 = j := by
              refine Classical.byContradiction fun hc => hr fun z hz e => hc ⟨z, hz, e⟩
            have hin : ∀ (q : List (Nat × Ob)) (A B : List (Nat × Ob)), z ∈ q → look (q.foldr (fun x l => putO (rn ρ x.1) (x.2.ren ρ) l) A) j = look (q.foldr (fun x l => putO (rn ρ x.1) (x.2.ren ρ) l) B) j := by
              intro q A B hq
              induction q with
              | nil => cases hq
              | cons y t iht =>
                rw [List.foldr_cons, List.foldr_cons, look_putO, look_putO]
                by_cases hy : j = rn ρ y.1
                · rw [if_pos hy, if_pos hy]
                · rw [if_neg hy, if_neg hy]
                  refine iht ?_
                  rcases List.mem_cons.1 hq with rfl | h
                  · exact absurd hzj.symm hy
                  · exact h
            exact hin r A B hz
    rw [hF os' _ s'.objs (fun j hj => ?_) id]
    · exact hlo
    · have hdel : ∀ (q : List (Nat × Ob)), (∀ y ∈ q, rn ρ y.1 ≠ j) → look (q.foldr (fun x l => delO (rn ρ x.1) l) s'.objs) j = look s'.objs j := by
        intro q hq
        induction q with
        | nil => rfl
        | cons z t iht =>
          rw [List.foldr_cons, look_delO, if_neg (fun e => hq z (by simp) e.symm)]
          exact iht fun y hy => hq y (by simp [hy])
      refine hdel os fun y hy e => ?_
      rw [List.all_eq_true] at c3
      have := inL_iff.1 (c3 y.1 (List.mem_map.2 ⟨y, hy, rfl⟩))
      rw [← hks] at this
      obtain ⟨z, hz, hze⟩ := List.mem_map.1 this
      exact hj z hz (by rw [hze]; exact e)
end
section
variable {ctx : Ctx} {s : PState}
/-- A nil slice in a cell, taken as data. -/
theorem Sub.nilCell {id j : Nat} {T : TypeId} {cs : List PV} (hl : look s.objs id = some (.cells T cs)) (hj : cs[j]? = some (.d (.v (.slice none 0 0)))) : Sub ctx s { s with objs := putO id (.cells T (cs.set j (.d (.sl [])))) s.objs } := by
  rintro a w ⟨g, h1⟩
  refine ⟨g, ?_⟩
  have hF : ∀ b, Free ctx g s.objs b → Free ctx g (putO id (.cells T (cs.set j (.d (.sl [])))) s.objs) b := fun b hb => ⟨hb.1, fun i o n ho hgi => by
    rw [look_putO] at ho
    by_cases ei : i = id
    · subst ei; exact hb.2 i _ n hl hgi
    · rw [if_neg ei] at ho; exact hb.2 i o n ho hgi⟩
  have hst : Stays w w (Free ctx g s.objs) := ⟨Nat.le_refl _, fun _ _ _ => rfl⟩
  refine ⟨h1.defers, h1.size, fun i p hp => (h1.slots i p hp).keep hst (fun b hb _ => hF b hb) (fun _ _ => rfl), fun i o ho => ?_, fun i i2 o o2 b n m ho ho2 hgi hgi2 => ?_, fun i o b n ho hgi => ?_, h1.os, h1.tape, h1.output, h1.grows, h1.keep⟩
  · rw [look_putO] at ho
    by_cases ei : i = id
    · subst ei
      rw [if_pos rfl] at ho
      cases ho
      cases h1.objs i _ hl with
      | cells _ _ blk n us hgi hh hlen hr h1' =>
        refine .cells T _ blk n us hgi hh (by simpa using hlen) (fun q p u hp hu => ?_) h1'
        rw [List.getElem?_set] at hp
        split at hp
        · rename_i e
          subst e
          split at hp
          · simp only [Option.some.injEq] at hp
            subst hp
            have := (hr j _ u hj hu).of_v
            subst this
            exact .d (.nil none 0 (Nat.zero_le _) (fun _ => rfl))
          · cases hp
        · exact (hr q p u hp hu).keep hst (fun b hb _ => hF b hb) (fun _ _ => rfl)
    · rw [if_neg ei] at ho
      exact (h1.objs i o ho).keep hst (fun b hb _ => hF b hb) (fun _ _ _ => rfl) rfl (fun _ _ => rfl)
  · have lk : ∀ {i : Nat} {o : Ob}, look (putO id (.cells T (cs.set j (.d (.sl [])))) s.objs) i = some o → ∃ o', look s.objs i = some o' := fun {i o} h => by
      rw [look_putO] at h
      by_cases ei : i = id
      · subst ei; exact ⟨_, hl⟩
      · rw [if_neg ei] at h; exact ⟨_, h⟩
    obtain ⟨_, h5⟩ := lk ho
    obtain ⟨_, h6⟩ := lk ho2
    exact h1.inj i i2 _ _ b n m h5 h6 hgi hgi2
  · rw [look_putO] at ho
    by_cases ei : i = id
    · subst ei; exact h1.own i _ b n hl hgi
    · rw [if_neg ei] at ho; exact h1.own i o b n ho hgi
end
end Go.Ep

/- Texts that the walks and laws lean on, side by side. -/
import Derived.Laws.BytesString
import Derived.Laws.IdiomStrings
import Derived.Test.YtacnidaafcfgiaaMeb2
import Derived.Test.YtacnidaafcfgiaaMeb3
set_option linter.unusedVariables false
set_option linter.unusedSimpArgs false
namespace Go.Ep
open Go.RowKit
def effO (ρ : List (Nat × Nat)) (js : List Nat) (dst : Option Nat) (r : PV) (os' : List (Nat × Ob)) : Ef := ⟨dstL dst (r.ren ρ) ++ (js.map fun t => (t, PV.junk)).reverse, os'.map fun x => (rn ρ x.1, x.2.ren ρ)⟩
def calO (ρ : List (Nat × Nat)) (js okeys pins ks : List Nat) (f : Ft) : Bool :=
  ((okeys ++ ks).all fun i => (okeys ++ ks).all fun j => Nat.beq i j || !Nat.beq (rn ρ i) (rn ρ j)) && ks.all (inL okeys) && okeys.all (inL ks) && f.ao.all (inL (okeys.map (rn ρ))) &&
  (ks.all fun i => inL pins i || f.al.any fun a => Nat.beq a.1 (rn ρ i) && a.2 == js) && okeys.all fun i => inL f.ro (rn ρ i)
section
variable {P : Program} {ctx : Ctx} {Q : PState → Prop} {s : PState} {ops : Array Oper} {rest : List Oper} {fs : List Ft} {f : Ft}
variable {dst : Option Tmp} {ty : TypeId} {pos : String} {after : Array Edge} {gd : Option (Nat × Bool)}
theorem AllOb.keep {ρ : List (Nat × Nat)} {os : List (Nat × Ob)} {s' : PState} (h : AllOb s ρ os) (hk : ∀ {id ob}, inL f.ro id = true → look s.objs id = some ob → look s'.objs id = some ob) (hr : ((os.map (·.1)).all fun i => inL f.ro (rn ρ i)) = true) : AllOb s' ρ os := by
  induction h with
  | nil => exact .nil
  | cons h _ ih =>
    simp only [List.map_cons, List.all_cons, Bool.and_eq_true] at hr
    exact .cons (hk hr.1 h) (ih hr.2)
theorem PQe.callObj {x : Operand} {xs : List Operand} {ats : Array TypeId} {fn : FuncId} {ps qs : List PV} {os os' : List (Nat × Ob)} {pins : List Nat} {r : PV} (ρ : List (Nat × Nat)) (js ks : List Nat)
    (hc : PObj P fn ps os pins r (fun _ : Unit => os')) (hK : ∀ b, ctx.K b → ctx.S b)
    (hev : ∀ s' : PState, (∀ {y q}, readsX (⟨dst, .call ⟨.value x, xs.toArray, ats⟩, ty, pos, after, gd⟩ : Oper) y = true → s.ev y = some q → s'.ev y = some q) → s'.ev x = some (.d (.v (.func (.func fn) #[] #[]))) ∧ s'.evs xs = some qs)
    (he : ∀ args w, (callFunc fn args).run P w = .ok (.enter fn args) w) (hq : qs.map PV.nilD = ps.map (PV.ren ρ)) (hos : AllOb s ρ os)
    (hks : os'.map (·.1) = ks) (hcl : os'.all (fun x => x.2.named ks) = true) (hr : r.named ks = true) (hok : calO ρ js (os.map (·.1)) pins ks f = true)
    (hg : Wd ops (⟨dst, .call ⟨.value x, xs.toArray, ats⟩, ty, pos, after, gd⟩ : Oper) s) (hk : okE f (effO ρ js dst r os') = true) (h : PQe P ctx ops Q rest fs (s.app (effO ρ js dst r os'))) :
    PQe P ctx ops Q (⟨dst, .call ⟨.value x, xs.toArray, ats⟩, ty, pos, after, gd⟩ :: rest) (f :: fs) s := by
  simp only [calO, Bool.and_eq_true] at hok
  obtain ⟨⟨⟨⟨⟨c1, c2⟩, c3⟩, c4⟩, c5⟩, c6⟩ := hok
  refine .step (e := effO ρ js dst r os') (fun s' hn hee ho _ hal => ?_) hg hk h
  obtain ⟨h1, h2⟩ := hev s' (fun hx hq => hee hx hq)
  have hok' : callOK s' ρ js (os.map (·.1)) pins ks = true := by
    unfold callOK
    rw [Bool.and_eq_true, Bool.and_eq_true]
    refine ⟨⟨c1, ?_⟩, ?_⟩
    · rw [List.all_eq_true] at c2 ⊢
      intro i hi
      rw [c2 i hi]; rfl
    · rw [List.all_eq_true] at c5 ⊢
      intro i hi
      have := c5 i hi
      rw [Bool.or_eq_true] at this ⊢
      rcases this with h | h
      · exact .inl h
      · refine .inr ?_
        obtain ⟨a, ha1, ha2⟩ := List.any_eq_true.1 h
        simp only [Bool.and_eq_true, beq_iff_eq] at ha2
        have hx := hal a ha1
        rw [Nat.eq_of_beq_eq_true ha2.1, ha2.2] at hx
        unfold PState.aloneX at hx
        rw [Bool.and_eq_true, junks_objs] at hx
        rw [Bool.and_eq_true]
        refine ⟨hx.1, ?_⟩
        rw [List.all_eq_true] at c4
        have hx2 := hx.2
        rw [List.all_eq_true] at hx2 ⊢
        intro y hy
        have := hx2 y hy
        rw [Bool.or_eq_true] at this ⊢
        rcases this with h | h
        · exact .inr (c4 _ (inL_iff.1 h))
        · exact .inl h
  have hl := LR.callObj (P := P) (ctx := ctx) (dst := dst) (ty := ty) (pos := pos) (after := after) (gd := gd) (ats := ats) ρ js ks hc hK h1 he h2 hq (hos.keep (fun hi hl => ho (inL_iff.1 hi) hl) c6) hks hcl hr hok'
  suffices hs : Sub ctx ((s'.callO ρ js os os').putD dst (r.ren ρ)) (s'.app (effO ρ js dst r os')) from fun a w hr K Qx hK => hl a w hr K Qx fun a' w' h' => hK a' w' (hs a' w' h')
  refine Sub.drop ?_ ?_ ?_
  · cases dst <;> rfl
  · intro i p hp
    have hat := at_get hp
    have hlt : i < s'.n := at_lt (s := s'.app (effO ρ js dst r os')) hp
    refine at_of (by cases dst <;> exact hlt) ?_
    simp only [PState.app, effO] at hat
    cases dst with
    | none => simpa [dstL, PState.putD, PState.callO, junks_sl] using hat
    | some d => simpa [dstL, PState.putD, PState.put, PState.callO, junks_sl] using hat
  · intro id o hlo
    have e1 : (s'.app (effO ρ js dst r os')).objs = os'.foldr (fun x l => putO (rn ρ x.1) (x.2.ren ρ) l) s'.objs := by
      simp only [PState.app, effO, List.foldr_map]
    have e2 : ((s'.callO ρ js os os').putD dst (r.ren ρ)).objs = os'.foldr (fun x l => putO (rn ρ x.1) (x.2.ren ρ) l) (os.foldr (fun x l => delO (rn ρ x.1) l) s'.objs) := by cases dst <;> rfl
    rw [e1] at hlo
    rw [e2]
    have hF : ∀ (l : List (Nat × Ob)) (A B : List (Nat × Ob)), (∀ j, (∀ y ∈ l, rn ρ y.1 ≠ j) → look A j = look B j) → ∀ j, look (l.foldr (fun x l => putO (rn ρ x.1) (x.2.ren ρ) l) A) j = look (l.foldr (fun x l => putO (rn ρ x.1) (x.2.ren ρ) l) B) j := by
      intro l
      induction l with
      | nil => intro A B h j; exact h j (by simp)
      | cons y r ih =>
        intro A B h j
        rw [List.foldr_cons, List.foldr_cons, look_putO, look_putO]
        by_cases hj : j = rn ρ y.1
        · rw [if_pos hj, if_pos hj]
        · rw [if_neg hj, if_neg hj]
          have gen : ∀ (q : List (Nat × Ob)) (A B : List (Nat × Ob)) (j : Nat), (∀ y ∈ q, rn ρ y.1 ≠ j) → look (q.foldr (fun x l => putO (rn ρ x.1) (x.2.ren ρ) l) A) j = look A j := by
            intro q A B j hq
            induction q with
            | nil => rfl
            | cons z t iht =>
              rw [List.foldr_cons, look_putO, if_neg (fun e => hq z (by simp) e.symm)]
              exact iht fun y hy => hq y (by simp [hy])
          by_cases hr : ∀ z ∈ r, rn ρ z.1 ≠ j
          · rw [gen r A B j hr, gen r B A j hr]
            exact h j fun z hz => by
              rcases List.mem_cons.1 hz with rfl | hz
              · exact fun e => hj e.symm
              · exact hr z hz
          · obtain ⟨z, hz, hzj⟩ : ∃ z ∈ r, rn ρ z.1 = j := by
              refine Classical.byContradiction fun hc => hr fun z hz e => hc ⟨z, hz, e⟩
            have hin : ∀ (q : List (Nat × Ob)) (A B : List (Nat × Ob)), z ∈ q → look (q.foldr (fun x l => putO (rn ρ x.1) (x.2.ren ρ) l) A) j = look (q.foldr (fun x l => putO (rn ρ x.1) (x.2.ren ρ) l) B) j := by
              intro q A B hq
              induction q with
              | nil => cases hq
              | cons y t iht =>
                rw [List.foldr_cons, List.foldr_cons, look_putO, look_putO]
                by_cases hy : j = rn ρ y.1
                · rw [if_pos hy, if_pos hy]
                · rw [if_neg hy, if_neg hy]
                  refine iht ?_
                  rcases List.mem_cons.1 hq with rfl | h
                  · exact absurd hzj.symm hy
                  · exact h
            exact hin r A B hz
    rw [hF os' _ s'.objs (fun j hj => ?_) id]
    · exact hlo
    · have hdel : ∀ (q : List (Nat × Ob)), (∀ y ∈ q, rn ρ y.1 ≠ j) → look (q.foldr (fun x l => delO (rn ρ x.1) l) s'.objs) j = look s'.objs j := by
        intro q hq
        induction q with
        | nil => rfl
        | cons z t iht =>
          rw [List.foldr_cons, look_delO, if_neg (fun e => hq z (by simp) e.symm)]
          exact iht fun y hy => hq y (by simp [hy])
      refine hdel os fun y hy e => ?_
      rw [List.all_eq_true] at c3
      have := inL_iff.1 (c3 y.1 (List.mem_map.2 ⟨y, hy, rfl⟩))
      rw [← hks] at this
      obtain ⟨z, hz, hze⟩ := List.mem_map.1 this
      exact hj z hz (by rw [hze]; exact e)
end
section
variable {ctx : Ctx} {s : PState}
/-- A nil slice in a cell, taken as data. -/
theorem Sub.nilCell {id j : Nat} {T : TypeId} {cs : List PV} (hl : look s.objs id = some (.cells T cs)) (hj : cs[j]? = some (.d (.v (.slice none 0 0)))) : Sub ctx s { s with objs := putO id (.cells T (cs.set j (.d (.sl [])))) s.objs } := by
  rintro a w ⟨g, h1⟩
  refine ⟨g, ?_⟩
  have hF : ∀ b, Free ctx g s.objs b → Free ctx g (putO id (.cells T (cs.set j (.d (.sl [])))) s.objs) b := fun b hb => ⟨hb.1, fun i o n ho hgi => by
    rw [look_putO] at ho
    by_cases ei : i = id
    · subst ei; exact hb.2 i _ n hl hgi
    · rw [if_neg ei] at ho; exact hb.2 i o n ho hgi⟩
  have hst : Stays w w (Free ctx g s.objs) := ⟨Nat.le_refl _, fun _ _ _ => rfl⟩
  refine ⟨h1.defers, h1.size, fun i p hp => (h1.slots i p hp).keep hst (fun b hb _ => hF b hb) (fun _ _ => rfl), fun i o ho => ?_, fun i i2 o o2 b n m ho ho2 hgi hgi2 => ?_, fun i o b n ho hgi => ?_, h1.os, h1.tape, h1.output, h1.grows, h1.keep⟩
  · rw [look_putO] at ho
    by_cases ei : i = id
    · subst ei
      rw [if_pos rfl] at ho
      cases ho
      cases h1.objs i _ hl with
      | cells _ _ blk n us hgi hh hlen hr h1' =>
        refine .cells T _ blk n us hgi hh (by simpa using hlen) (fun q p u hp hu => ?_) h1'
        rw [List.getElem?_set] at hp
        split at hp
        · rename_i e
          subst e
          split at hp
          · simp only [Option.some.injEq] at hp
            subst hp
            have := (hr j _ u hj hu).of_v
            subst this
            exact .d (.nil none 0 (Nat.zero_le _) (fun _ => rfl))
          · cases hp
        · exact (hr q p u hp hu).keep hst (fun b hb _ => hF b hb) (fun _ _ => rfl)
    · rw [if_neg ei] at ho
      exact (h1.objs i o ho).keep hst (fun b hb _ => hF b hb) (fun _ _ _ => rfl) rfl (fun _ _ => rfl)
  · have lk : ∀ {i : Nat} {o : Ob}, look (putO id (.cells T (cs.set j (.d (.sl [])))) s.objs) i = some o → ∃ o', look s.objs i = some o' := fun {i o} h => by
      rw [look_putO] at h
      by_cases ei : i = id
      · subst ei; exact ⟨_, hl⟩
      · rw [if_neg ei] at h; exact ⟨_, h⟩
    obtain ⟨_, h5⟩ := lk ho
    obtain ⟨_, h6⟩ := lk ho2
    exact h1.inj i i2 _ _ b n m h5 h6 hgi hgi2
  · rw [look_putO] at ho
    by_cases ei : i = id
    · subst ei; exact h1.own i _ b n hl hgi
    · rw [if_neg ei] at ho; exact h1.own i o b n ho hgi
end
end Go.Ep

namespace Go.Ep
open Go.RowKit
section
variable {P : Program} {ctx : Ctx} {s : PState}
variable {dst : Option Tmp} {ty : TypeId} {pos : String} {after : Array Edge} {gd : Option (Nat × Bool)}
/-- A part of an element of a row of one's own. -/
theorem LR.loadRpPart {x : Operand} {id i o m k : Nat} {T T0 : TypeId} {l : List (List DV)} {cs ys : List DV} (ha : ∀ w, (isAgg T).run P w = .ok true w) (hs : ∀ w, (sizeOf T).run P w = .ok m w) (hx : s.ev x = some (.rp id i o k)) (hl : look s.objs id = some (.row T0 k l)) (hi : l[i]? = some cs) (hm : o + m ≤ k) (hy : (cs.drop o).take m = ys) :
    Local P ctx ⟨dst, .load T x, ty, pos, after, gd⟩ s (s.putD dst (.agg (ys.map .d))) :=
  local_pure (o := ⟨dst, .load T x, ty, pos, after, gd⟩) fun a w g hg => by
    subst hy
    have h := hg.ev hx
    generalize hv : a.eval x = v at h
    cases h with
    | rp _ _ _ _ blk cap hgi =>
      obtain ⟨hlen, c, hc⟩ := row_cell (hg.objs id _ hl) hgi hi
      let us : List Value := (List.range m).map fun j => c (o + j)
      have hul : us.length = m := by simp [us]
      have hcj : ∀ j, j < m → ∃ x, cs[o + j]? = some x ∧ w.cell? ⟨blk, i * k + (o + j), none⟩ = some (c (o + j)) ∧ DRd w (Free ctx g s.objs) x (c (o + j)) := fun j hj => by
        have : o + j < cs.length := by omega
        exact ⟨cs[o + j], List.getElem?_eq_getElem this, hc _ _ (List.getElem?_eq_getElem this)⟩
      refine ⟨.agg us.toArray, ?_, .agg _ _ (by rw [List.length_map, hul, List.length_take, List.length_drop]; omega) ?_ ?_⟩
      · have := run_loadAgg (P := P) (us := us) ha (by rw [hul]; exact hs) (w := w) (b := blk) (o := i * k + o) (fun j u hu => by
          have hj : j < m := by rw [← hul]; exact (List.getElem?_eq_some_iff.1 hu).1
          have : u = c (o + j) := by simp [us, hj] at hu; exact hu.symm
          rw [this, Nat.add_assoc]
          exact (hcj j hj).choose_spec.2.1)
        simp [execOp, hv, Instr.loadAt, Instr.sureAddr, this, Result.andThen]
      · intro j p u hp hu
        have hj : j < m := by rw [← hul]; exact (List.getElem?_eq_some_iff.1 hu).1
        have hu' : u = c (o + j) := by simp [us, hj] at hu; exact hu.symm
        obtain ⟨x, hx, _, hd⟩ := hcj j hj
        rw [List.getElem?_map, List.getElem?_take, if_pos hj, List.getElem?_drop, hx] at hp
        simp only [Option.map_some, Option.some.injEq] at hp
        subst hp
        rw [hu']
        exact .d hd
      · intro u hu
        simp only [us, List.mem_map, List.mem_range] at hu
        obtain ⟨j, hj, rfl⟩ := hu
        obtain ⟨x, hx, _, hd⟩ := hcj j hj
        exact hd.one
theorem LR.loadRpPartT {α : Type} {enc : α → List DV} {L : List α} {x : Operand} {id n o m k : Nat} {T T0 : TypeId} {y : α} {ys : List DV} (ha : ∀ w, (isAgg T).run P w = .ok true w) (hs : ∀ w, (sizeOf T).run P w = .ok m w) (hx : s.ev x = some (.rp id n o k)) (hl : look s.objs id = some (.row T0 k (L.map enc))) (hy : L[n]? = some y) (hm : Nat.ble (o + m) k = true) (hys : ((enc y).drop o).take m = ys) :
    Local P ctx ⟨dst, .load T x, ty, pos, after, gd⟩ s (s.putD dst (.agg (ys.map .d))) := LR.loadRpPart ha hs hx hl (by simp [hy]) (Nat.le_of_ble_eq_true hm) hys

end
section
variable {P : Program} {ctx : Ctx} {ops : Array Oper} {Q : PState → Prop} {s : PState}
variable {dst : Option Tmp} {ty : TypeId} {pos : String} {after : Array Edge} {gd : Option (Nat × Bool)}
variable {α : Type} {enc : α → List DV} {L R : List α} {x y : Operand} {id oid m k bs' j : Nat} {t t' e e' T : TypeId} {cs : List PV}
end
end Go.Ep
namespace Go.Ep
/-- An end whose results lie in variables of the call's own. -/
theorem EndsO.mkX {G : Type} {P : Program} {ctx : Ctx} {fn : Func} {pl ex : List (Nat × Ob)} {r : PV} {os' : G → List (Nat × Ob)} {e : Exit} {s : PState} (gh : G) {n : Nat} {sl : List (Nat × PV)} {ps : List PV} (he : e = .normal ∨ e = .ret) (hsub : Sub ctx s ⟨n, sl, (os' gh ++ pl) ++ ex⟩)
    (hres : ResLO P ⟨n, sl, (os' gh ++ pl) ++ ex⟩ fn.results.toList ps) (hq : tupOf ps = r) (hd : (pl.all fun x => !inL ((os' gh).map (·.1)) x.1) = true) : EndsO P ctx fn pl r os' e s := by
  refine ⟨he, gh, ps, _, hsub, hres, hq, fun id o h => look_left (look_left h), fun id o h => look_left ?_⟩
  rw [look_append]
  cases hl : look (os' gh) id with
  | none => rw [Option.none_or]; exact h
  | some q =>
    have h1 := List.all_eq_true.1 hd _ (look_mem h)
    have h2 := inL_iff.2 (look_key hl)
    rw [h2] at h1; cases h1
end Go.Ep

namespace Go.Ep
open Go.RowKit
section
variable {P : Program} {ctx : Ctx} {Q : PQ} {s : PState}
variable {dst : Option Tmp} {ty : TypeId} {pos : String} {after : Array Edge} {gd : Option (Nat × Bool)}
theorem LR.strIdx {x i : Operand} {t : TypeId} {b : ByteArray} {k : IntKind} {n y : Int} (hu : P.underlying t = some .string) (hx : s.ev x = some (.d (.v (.string b)))) (hi : s.ev i = some (.d (.v (.int k n)))) (hy : 0 ≤ n ∧ (bytesL b)[n.toNat]? = some y) :
    Local P ctx ⟨dst, .index t x i, ty, pos, after, gd⟩ s (s.putD dst (.d (.v (.int .u8 y)))) :=
  local_pure (o := ⟨dst, .index t x i, ty, pos, after, gd⟩) fun a w g hg => by
    obtain ⟨h0, h1⟩ := hy
    have hlt : n.toNat < b.size := by
      have := (List.getElem?_eq_some_iff.1 h1).1
      simpa [bytesL] using this
    have hb : 0 ≤ n ∧ n < b.size := ⟨h0, by omega⟩
    have hv : ((b[n.toNat]'hlt).toNat : Int) = y := by
      have := (List.getElem?_eq_some_iff.1 h1).2
      simp only [bytesL, List.getElem_map, Array.getElem_toList] at this
      exact this
    refine ⟨.int .u8 y, ?_, .d (.v _ rfl)⟩
    simp only [execOp, ev_v hg hx, ev_v hg hi, Sem.run_bind, run_index_string w t b k n hu, dif_pos hb, hv, Result.andThen_ok, Sem.run_pure]
theorem LR.bytesStr {x : Operand} {src dt e : TypeId} {l : List Int} (hs : P.underlying src = some (.slice e)) (he : P.underlying e = some (.int .u8)) (hd : P.underlying dt = some .string) (hx : s.ev x = some (.d (.sl (l.map (eK .u8))))) :
    Local P ctx ⟨dst, .convert src dt x, ty, pos, after, gd⟩ s (s.putD dst (.d (.v (.string (strL l))))) :=
  local_pure (o := ⟨dst, .convert src dt x, ty, pos, after, gd⟩) fun a w g hg => by
    have h := hg.ev hx
    generalize hv : a.eval x = v at h
    refine ⟨.string (strL l), ?_, .d (.v _ rfl)⟩
    generalize hq : l.map (eK .u8) = q at h
    cases h with
    | d h =>
      cases h with
      | nil ao cap =>
        have hl : l = [] := by simpa using hq
        subst hl
        simp only [execOp, hv, Sem.run_bind, run_convert_bytes_string w src dt e ao 0 cap hs he hd]
        cases ao with
        | none => simp [Conv.bytesToString, strL, Result.andThen]
        | some ad =>
          have := run_bytesToString (P := P) w ad 0 cap [] (by simp [loadCells, loadCellsFrom])
          rw [this]
          rfl
      | sl _ b off cap k c hl hcap hS hb hk hc hr =>
        subst hq
        simp only [execOp, hv, Sem.run_bind, run_convert_bytes_string w src dt e _ _ cap hs he hd, List.length_map]
        have hload := run_loadCells_list (P := P) w ⟨b, off, none⟩ (l.map (Value.int .u8)) (fun j v hj => by
          rw [List.getElem?_map] at hj
          cases hlj : l[j]? with
          | none => rw [hlj] at hj; cases hj
          | some n =>
            rw [hlj] at hj
            simp only [Option.map_some, Option.some.injEq] at hj
            subst hj
            have hjl : j < l.length := (List.getElem?_eq_some_iff.1 hlj).1
            have hkk := hk j (eK .u8 n) (by simp [hlj])
            have hk1 : k = 1 := by simpa [eK] using hkk.symm
            subst hk1
            have h1 := hc j 0 (by simpa using hjl) (by omega)
            have h2 := hr j (eK .u8 n) 0 (.v (.int .u8 n)) (by simp [hlj]) rfl
            generalize c j 0 = q at h1 h2
            cases h2
            simp only [Nat.mul_one, Nat.add_zero] at h1
            by_cases hj0 : j = 0
            · subst hj0; simpa [Addr.add] using h1
            · simpa [Addr.add, hj0] using h1)
        rw [List.length_map] at hload
        rw [run_bytesToString w _ l.length cap l hload]
        rfl
end
end Go.Ep
namespace Go.Ep
open Go.RowKit
section
variable {P : Program} {ctx : Ctx} {s : PState}
variable {dst : Option Tmp} {ty : TypeId} {pos : String} {after : Array Edge} {gd : Option (Nat × Bool)}
theorem LR.strBytes {x : Operand} {src dt e : TypeId} {b : ByteArray} (hs : P.underlying src = some .string) (hd : P.underlying dt = some (.slice e)) (he : P.underlying e = some (.int .u8)) (hx : s.ev x = some (.d (.v (.string b)))) (hsz : b.size ≤ 9223372036854775807) :
    Local P ctx ⟨dst, .convert src dt x, ty, pos, after, gd⟩ s (s.putD dst (.d (.sl ((bytesL b).map (eK .u8))))) :=
  local_value (o := ⟨dst, .convert src dt x, ty, pos, after, gd⟩) fun a w g hg => by
    have hrun := run_bytes_of_string (P := P) w src dt e b hs hd he
    have hge := grownCap_ge w b.size 0 e
    have hcm := grownCap_le_maxLen w b.size 0 e (by unfold maxLen; omega)
    generalize grownCap w b.size 0 e = cap at hrun hge hcm
    generalize hfr : ((bytesRow b cap).size, (bytesRow b cap).size + 1) = fr at hrun
    have hb : Below w.heap.size w (w.drew.alloc (.cells (bytesRow b cap) e fr)) := (Below.refl w.heap.size w).drew.alloc (Nat.le_refl _) _
    have hg' := hg.below hb
    refine ⟨.slice (some ⟨w.heap.size, 0, none⟩) b.size cap, w.drew.alloc (.cells (bytesRow b cap) e fr), by simp only [execOp, ev_v hg hx, hrun, Sem.run_bind, Result.andThen_ok, Sem.run_pure], g, hg'.put dst (.d ?_)⟩
    have hlen : ((bytesL b).map (eK .u8)).length = b.size := by simp [bytesL]
    have hS : Free ctx g s.objs w.heap.size := free_new hg (.inr (Nat.le_refl _))
    have := DRd.sl (w := w.drew.alloc (.cells (bytesRow b cap) e fr)) (S := Free ctx g s.objs) ((bytesL b).map (eK .u8)) w.heap.size 0 cap 1 (fun i _ => ((bytesRow b cap)[i]?).getD undef) (by rw [hlen]; exact hge) hcm hS (by rw [World.size_alloc]; exact Nat.lt_succ_self _) (fun i cs hi => by
      rw [List.getElem?_map] at hi
      cases h2 : (bytesL b)[i]? with
      | none => rw [h2] at hi; cases hi
      | some n => rw [h2] at hi; cases hi; rfl) (fun i j hi hj => by
      rw [hlen] at hi
      have hj0 : j = 0 := by omega
      subst hj0
      have := World.cell?_alloc_mark w.drew (bytesRow b cap) e fr i
      simp only [Nat.mul_one, Nat.add_zero, Nat.zero_add]
      have e1 : w.drew.heap.size = w.heap.size := rfl
      rw [e1] at this
      rw [this, bytesRow_at b cap i hi]
      rfl) (fun i cs j x hi hx2 => by
      rw [List.getElem?_map] at hi
      cases h2 : (bytesL b)[i]? with
      | none => rw [h2] at hi; cases hi
      | some n =>
        rw [h2] at hi
        simp only [Option.map_some, Option.some.injEq] at hi
        subst hi
        have hj0 : j = 0 := by have := (List.getElem?_eq_some_iff.1 hx2).1; simp [eK] at this; exact this
        subst hj0
        simp [eK] at hx2
        subst hx2
        have hi2 : i < b.data.size := by have := (List.getElem?_eq_some_iff.1 h2).1; simpa [bytesL] using this
        have hn : n = (b.data[i].toNat : Int) := by
          have := (List.getElem?_eq_some_iff.1 h2).2
          simp only [bytesL, List.getElem_map, Array.getElem_toList] at this
          exact this.symm
        rw [bytesRow_at b cap i hi2, hn]
        exact .v _ rfl)
    rw [hlen] at this
    exact this
end
end Go.Ep

namespace Go.Ep
open Go Go.RowKit
section
variable {P : Program} {ctx : Ctx} {Q : PQ} {s : PState}
variable {dst : Option Tmp} {ty : TypeId} {pos : String} {after : Array Edge} {gd : Option (Nat × Bool)}

/-- A piece of a row of one's own: from lo on. -/
theorem LR.pieceRow {x lo : Operand} {id n k : Nat} {t e : TypeId} {kx : IntKind} {i : Int} {l : List (List DV)} (hu : P.underlying t = some (.slice e)) (hs : ∀ w, (sizeOf e).run P w = .ok k w)
    (hx : s.ev x = some (.row id n)) (hl : look s.objs id = some (.row e k l)) (hn : n ≤ l.length) (hlo : s.ev lo = some (.d (.v (.int kx i)))) (hi : (0 : Int) ≤ i ∧ i ≤ (n : Int)) :
    Local P ctx ⟨dst, .slice t x (some lo) none none, ty, pos, after, gd⟩ s (s.putD dst (.pc id i.toNat (n - i.toNat) k)) :=
  local_pure (o := ⟨dst, .slice t x (some lo) none none, ty, pos, after, gd⟩) fun a w g hg => by
    have h := hg.ev hx
    have hob := hg.objs id _ hl
    have hit : i = (i.toNat : Int) := by omega
    have hle : i.toNat ≤ n := by omega
    generalize hv : a.eval x = v at h
    cases h with
    | row _ _ blk cap hgi =>
      cases hob with
      | rowNil _ _ hgn => rw [hgn] at hgi; cases hgi
      | row _ _ _ blk' cap' cur h' hh hlc hcap hcs hkk hr =>
        rw [hgi] at h'
        cases h'
        refine ⟨.slice (if cap = i.toNat then some ⟨blk, 0, none⟩ else some ⟨blk, 0 + i.toNat * k, none⟩) (n - i.toNat) (cap - i.toNat), ?_, ?_⟩
        · by_cases hc : cap = i.toNat <;>
          simp [execOp, hv, ev_int hg hlo, Instr.sliceAt, Instr.slice, Instr.sliceBounds, run_underlying hu, hs, run_sliceBound' (P := P) hit hle, Addr.add_lit, Result.andThen, hc]
        · by_cases h0 : n - i.toNat = 0
          · rw [h0]; exact .pc0 _ _ _ _ _
          · rw [if_neg (by omega), Nat.zero_add]
            exact .pc id _ _ k blk cap hgi (by omega)
    | rowNil _ hgn =>
      have h0 : i.toNat = 0 := by omega
      refine ⟨.slice none 0 0, ?_, ?_⟩
      · rw [h0] at hit
        simp [execOp, hv, ev_int hg hlo, Instr.sliceAt, Instr.slice, Instr.sliceBounds, run_underlying hu, hs, run_sliceBound' (P := P) hit (show 0 ≤ 0 from Nat.le_refl _), Result.andThen]
      · rw [Nat.zero_sub]; exact .pc0 _ _ _ _ _

theorem LR.lenPc {x : Operand} {id i n k : Nat} {t e : TypeId} (hu : P.underlying t = some (.slice e)) (hx : s.ev x = some (.pc id i n k)) :
    Local P ctx ⟨dst, .call ⟨.builtin .len, #[x], #[t]⟩, ty, pos, after, gd⟩ s (s.putD dst (.d (.v (.int .i64 n)))) :=
  local_pure (o := ⟨dst, .call ⟨.builtin .len, #[x], #[t]⟩, ty, pos, after, gd⟩) fun a w g hg => by
    have h := hg.ev hx
    have hE : P.underlying t = some (.slice (P.elem t)) := by simp [Program.elem, hu]
    refine ⟨.int .i64 n, ?_, .d (.v _ rfl)⟩
    generalize hv : a.eval x = v at h
    cases h <;> simp [execOp, resolve, invoke, builtin, hv, run_len_slice, hE, Result.andThen, goInt]

theorem LR.idxPc {x ix : Operand} {id i m : Nat} {ki : IntKind} {j : Int} {k : Nat} {t e : TypeId} (hu : P.underlying t = some (.slice e)) (hs : ∀ w, (sizeOf e).run P w = .ok k w)
    (hx : s.ev x = some (.pc id i m k)) (hix : s.ev ix = some (.d (.v (.int ki j)))) (hj : (0 : Int) ≤ j ∧ j < (m : Int)) :
    Local P ctx ⟨dst, .indexAddr t x ix, ty, pos, after, gd⟩ s (s.putD dst (.rp id (i + j.toNat) 0 k)) :=
  local_pure (o := ⟨dst, .indexAddr t x ix, ty, pos, after, gd⟩) fun a w g hg => by
    have h := hg.ev hx
    generalize hv : a.eval x = v at h
    cases h with
    | pc _ _ _ _ blk cap hgi hi =>
      refine ⟨.pointer (some ⟨blk, (i + j.toNat) * k + 0, none⟩), ?_, .rp id _ 0 k blk cap hgi⟩
      have := run_indexAt (P := P) hu hs blk (i * k) m (cap - i) ki j j.toNat (by omega) (by omega) w
      rw [show i * k + j.toNat * k = (i + j.toNat) * k + 0 by rw [Nat.add_mul, Nat.add_zero]] at this
      simp [execOp, hv, ev_int hg hix, this, Result.andThen]
    | pc0 => omega

/-- A piece is cleared. -/
theorem LR.clearPc {x : Operand} {id i n k : Nat} {t e : TypeId} {l : List (List DV)} {z : Value} {zs : List Value} (hu : P.underlying t = some (.slice e)) (hx : s.ev x = some (.pc id i n k)) (hl : look s.objs id = some (.row e k l))
    (hz : ∀ w, (zeroValue e).run P w = .ok z w) (hzs : z.cells = zs.toArray) (h1 : (zs.all Value.oneCell') = true) (hk : zs.length = k) (hin : i + n ≤ l.length) (hd : dst = none) :
    Local P ctx ⟨dst, .call ⟨.builtin .clear, #[x], #[t]⟩, ty, pos, after, gd⟩ s (s.setO id (.row e k (l.take i ++ List.replicate n (zs.map zdv) ++ l.drop (i + n)))) := by
  subst hd
  refine local_value (o := ⟨none, .call ⟨.builtin .clear, #[x], #[t]⟩, ty, pos, after, gd⟩) fun a w g hg => ?_
  have h := hg.ev hx
  have hob := hg.objs id _ hl
  have hE : P.underlying t = some (.slice e) := hu
  generalize hv : a.eval x = v at h
  have hnil : n = 0 → ∀ g', Rel ctx (s.setO id (.row e k (l.take i ++ List.replicate n (zs.map zdv) ++ l.drop (i + n)))) a w ∨ g' = g := by
    intro h0
    subst h0
    intro g'
    left
    simp only [List.replicate_zero, List.append_nil, Nat.add_zero, List.take_append_drop]
    refine ⟨g, ?_⟩
    have hlk : ∀ j o, look (s.setO id (.row e k l)).objs j = some o ↔ look s.objs j = some o := by
      intro j o
      simp only [PState.setO]
      rw [look_putO]
      by_cases hj : j = id
      · subst hj; rw [if_pos rfl, hl]
      · rw [if_neg hj]
    have hF : ∀ b, Free ctx g s.objs b → Free ctx g (s.setO id (.row e k l)).objs b := fun b ⟨h1, h2⟩ => ⟨h1, fun j o m hj => h2 j o m ((hlk j o).1 hj)⟩
    have hst : Stays w w (Free ctx g s.objs) := ⟨Nat.le_refl _, fun _ _ _ => rfl⟩
    exact ⟨hg.defers, hg.size, fun q p hp => (hg.slots q p hp).keep hst (fun b hb _ => hF b hb) (fun _ _ => rfl), fun j o hj => (hg.objs j o ((hlk j o).1 hj)).keep hst (fun b hb _ => hF b hb) (fun _ _ _ => rfl) rfl (fun _ _ => rfl),
      fun p q op oq b n m hp hq => hg.inj p q op oq b n m ((hlk p op).1 hp) ((hlk q oq).1 hq), fun j o b n hj => hg.own j o b n ((hlk j o).1 hj), hg.os, hg.tape, hg.output, hg.grows, hg.keep⟩
  cases h with
  | pc0 _ _ _ ao c =>
    rcases hnil rfl (fun _ => none) with hr | hr
    · refine ⟨.tuple #[], w, ?_, hr⟩
      cases ao <;> simp [execOp, resolve, invoke, builtin, hv, Builtin.clear_, run_underlying hE, Result.andThen]
    · rcases hnil rfl (fun _ => some (0, 0)) with hr2 | hr2
      · refine ⟨.tuple #[], w, ?_, hr2⟩
        cases ao <;> simp [execOp, resolve, invoke, builtin, hv, Builtin.clear_, run_underlying hE, Result.andThen]
      · have := congrFun (hr.trans hr2.symm) 0; cases this
  | pc _ _ _ _ blk cap hgi hi =>
    by_cases hn0 : n = 0
    · have hr : Rel ctx (s.setO id (.row e k (l.take i ++ List.replicate n (zs.map zdv) ++ l.drop (i + n)))) a w := by
        rcases hnil hn0 (fun _ => none) with hr | hr
        · exact hr
        · have := congrFun hr id; rw [hgi] at this; cases this
      subst hn0
      refine ⟨.tuple #[], w, ?_, hr⟩
      simp [execOp, resolve, invoke, builtin, hv, Builtin.clear_, run_underlying hE, Result.andThen]
    cases hob with
    | rowNil _ _ hgn => rw [hgn] at hgi; cases hgi
    | row _ _ _ blk' cap' cur h' hh hlc hcap hcs hkk hr =>
      rw [hgi] at h'
      cases h'
      have hlen : ((Builtin.zeroCells z.cells n).toList).length = n * k := by rw [zc_len, hzs]; simp [hk]
      have hroom : i * k + n * k ≤ cur.length := by
        rw [hcs, ← Nat.add_mul]; exact Nat.mul_le_mul_right k hi
      have hz1 : ∀ u ∈ (Builtin.zeroCells z.cells n).toList, u.oneCell' = true := by
        intro u hu
        obtain ⟨j, hj⟩ := List.getElem?_of_mem hu
        have hjl := (List.getElem?_eq_some_iff.1 hj).1
        rw [hlen] at hjl
        have hk0 : 0 < k := by
          rcases Nat.eq_zero_or_pos k with h | h
          · subst h; omega
          · exact h
        rw [hzs] at hj
        simp [Builtin.zeroCells, hk, hjl] at hj
        have ht : j % k < zs.length := by rw [hk]; exact Nat.mod_lt _ hk0
        rw [List.getElem?_eq_getElem ht] at hj
        simp at hj
        subst hj
        simp at h1
        exact h1 _ (List.getElem_mem ht)
      have hrun := run_storeCells_at P blk (i * k) e (Builtin.zeroCells z.cells n).toList 0 cur.toArray w hh (by simpa [hlen] using hroom) hz1
      let new : List Value := cur.take (i * k) ++ (Builtin.zeroCells z.cells n).toList ++ cur.drop (i * k + n * k)
      have hrun' : (storeCells ⟨blk, i * k, none⟩ (Builtin.zeroCells z.cells n).toList).run P w = .ok () (w.setRow blk new.toArray) := by
        simpa [hlen, new] using hrun
      refine ⟨.tuple #[], w.setRow blk new.toArray, ?_, g, ?_⟩
      · have hn' : ∃ n', n = n' + 1 := ⟨n - 1, by omega⟩
        obtain ⟨n', rfl⟩ := hn'
        simp [execOp, resolve, invoke, builtin, hv, Builtin.clear_, run_underlying hE, hz, hrun', Result.andThen]
      · have hown := hg.own id _ blk cap hl hgi
        have hother : ∀ k, k < w.heap.size → k ≠ blk → (w.setRow blk new.toArray).heap[k]? = w.heap[k]? := fun k _ hne => setRow_other w blk k _ hne
        have hst : Stays w (w.setRow blk new.toArray) (Free ctx g s.objs) := ⟨by simp, fun b ⟨_, h2⟩ hlt => hother b hlt fun e => by subst e; exact h2 id _ cap hl hgi⟩
        refine hg.wrote hl hgi rfl rfl rfl (by simp) hother hown.2 ?_
        have hll : (l.take i ++ List.replicate n (zs.map zdv) ++ l.drop (i + n)).length = l.length := by simp; omega
        have hget : ∀ t, new[t]? = if t < i * k then cur[t]? else if t < i * k + n * k then (Builtin.zeroCells z.cells n).toList[t - i * k]? else cur[t]? := by
          intro t
          show (cur.take (i * k) ++ (Builtin.zeroCells z.cells n).toList ++ cur.drop (i * k + n * k))[t]? = _
          rw [List.append_assoc, List.getElem?_append]
          have l1 : (cur.take (i * k)).length = i * k := by simp; omega
          rw [l1]
          by_cases h3 : t < i * k
          · rw [if_pos h3, if_pos h3]; simp [h3]
          · rw [if_neg h3, if_neg h3, List.getElem?_append, hlen]
            by_cases h4 : t - i * k < n * k
            · rw [if_pos h4, if_pos (by omega)]
            · rw [if_neg h4, if_neg (by omega), List.getElem?_drop]
              congr 1; omega
        have hlget : ∀ q, (l.take i ++ List.replicate n (zs.map zdv) ++ l.drop (i + n))[q]? = if q < i then l[q]? else if q < i + n then some (zs.map zdv) else l[q]? := by
          intro q
          rw [List.append_assoc, List.getElem?_append]
          have l1 : (l.take i).length = i := by simp; omega
          rw [l1]
          by_cases h3 : q < i
          · rw [if_pos h3, if_pos h3]; simp [h3]
          · rw [if_neg h3, if_neg h3, List.getElem?_append]
            simp only [List.length_replicate]
            by_cases h4 : q - i < n
            · rw [if_pos h4, if_pos (by omega), List.getElem?_replicate, if_pos h4]
            · rw [if_neg h4, if_neg (by omega), List.getElem?_drop]
              congr 1; omega
        refine .row e k _ blk cap new hgi (heap_setRow_same hh) (by rw [hll]; exact hlc) hcap (by show (cur.take (i * k) ++ (Builtin.zeroCells z.cells n).toList ++ cur.drop (i * k + n * k)).length = _; rw [List.length_append, List.length_append, hlen, List.length_take, List.length_drop, Nat.min_eq_left (by omega), ← hcs]; omega) (fun q cs hq => ?_) (fun q cs t x hq hx => ?_)
        · rw [hlget] at hq
          split at hq
          · exact hkk q cs hq
          · split at hq
            · simp only [Option.some.injEq] at hq; subst hq; simpa using hk
            · exact hkk q cs hq
        · have hcsk : cs.length = k := by
            rw [hlget] at hq
            split at hq
            · exact hkk q cs hq
            · split at hq
              · simp only [Option.some.injEq] at hq; subst hq; simpa using hk
              · exact hkk q cs hq
          have htk : t < k := by rw [← hcsk]; exact (List.getElem?_eq_some_iff.1 hx).1
          rw [hlget] at hq
          rw [hget]
          by_cases h3 : q < i
          · rw [if_pos h3] at hq
            have : q * k + t < i * k := by
              have := Nat.mul_le_mul_right k (show q + 1 ≤ i by omega)
              rw [Nat.add_mul, Nat.one_mul] at this; omega
            rw [if_pos this]
            obtain ⟨u, h5, h6⟩ := hr q cs t x hq hx
            exact ⟨u, h5, h6.keep hst (fun b hb _ => free_put hl b hb)⟩
          · rw [if_neg h3] at hq
            have h3' : ¬ q * k + t < i * k := by
              have := Nat.mul_le_mul_right k (show i ≤ q by omega); omega
            rw [if_neg h3']
            by_cases h4 : q < i + n
            · rw [if_pos h4] at hq
              have : q * k + t < i * k + n * k := by
                have := Nat.mul_le_mul_right k (show q + 1 ≤ i + n by omega)
                rw [Nat.add_mul, Nat.one_mul, Nat.add_mul] at this; omega
              rw [if_pos this]
              simp only [Option.some.injEq] at hq
              subst hq
              have htz : t < zs.length := by rw [hk]; exact htk
              rw [List.getElem?_map, List.getElem?_eq_getElem htz] at hx
              simp only [Option.map_some, Option.some.injEq] at hx
              subst hx
              refine ⟨zs[t], ?_, zdv_rd _ _ _ (by simp at h1; exact h1 _ (List.getElem_mem htz))⟩
              have e1 : q * k + t - i * k = (q - i) * k + t := by rw [Nat.sub_mul]; have := Nat.mul_le_mul_right k (show i ≤ q by omega); omega
              have hlt : (q - i) * k + t < n * k := by rw [← e1]; omega
              have e2 : ((q - i) * k + t) % k = t := by rw [Nat.mul_comm, Nat.mul_add_mod, Nat.mod_eq_of_lt htk]
              rw [e1, hzs]
              simp [Builtin.zeroCells, hlt, hk, e2]
              rw [List.getElem?_eq_getElem htz]; rfl
            · rw [if_neg h4] at hq
              have : ¬ q * k + t < i * k + n * k := by
                have := Nat.mul_le_mul_right k (show i + n ≤ q by omega)
                rw [Nat.add_mul] at this; omega
              rw [if_neg this]
              obtain ⟨u, h5, h6⟩ := hr q cs t x hq hx
              exact ⟨u, h5, h6.keep hst (fun b hb _ => free_put hl b hb)⟩

variable {α : Type} {enc : α → List DV} {L : List α}
theorem LR.pieceRowT {x lo : Operand} {id n k : Nat} {t e : TypeId} {kx : IntKind} {i : Int} (hu : P.underlying t = some (.slice e)) (hs : ∀ w, (sizeOf e).run P w = .ok k w)
    (hx : s.ev x = some (.row id n)) (hm : n = L.length) (hl : look s.objs id = some (.row e k (L.map enc))) (hlo : s.ev lo = some (.d (.v (.int kx i)))) (hi : (0 : Int) ≤ i ∧ i ≤ (L.length : Int)) :
    Local P ctx ⟨dst, .slice t x (some lo) none none, ty, pos, after, gd⟩ s (s.putD dst (.pc id i.toNat (L.length - i.toNat) k)) := by
  subst hm
  exact LR.pieceRow hu hs hx hl (by simp) hlo hi
theorem LR.clearPcT {x : Operand} {id i n k : Nat} {t e : TypeId} {z : α} {zv : Value} {zs : List Value} (hu : P.underlying t = some (.slice e)) (hx : s.ev x = some (.pc id i n k)) (hl : look s.objs id = some (.row e k (L.map enc)))
    (hz : ∀ w, (zeroValue e).run P w = .ok zv w) (hzs : zv.cells = zs.toArray) (h1 : (zs.all Value.oneCell') = true) (hk : zs.length = k) (he : zs.map zdv = enc z) (hin : i + n ≤ L.length) (hd : dst = none) :
    Local P ctx ⟨dst, .call ⟨.builtin .clear, #[x], #[t]⟩, ty, pos, after, gd⟩ s (s.setO id (.row e k ((L.take i ++ List.replicate n z ++ L.drop (i + n)).map enc))) := by
  have := LR.clearPc (P := P) (ctx := ctx) (dst := dst) (ty := ty) (pos := pos) (after := after) (gd := gd) hu hx hl hz hzs h1 hk (by simpa using hin) hd
  rw [he, ← List.map_take, ← List.map_drop, ← List.map_replicate, ← List.map_append, ← List.map_append] at this
  exact this
end
end Go.Ep

namespace Go.Proofs
open Go.Ep
set_option maxHeartbeats 1000000
set_option maxRecDepth 100000
set_option linter.unusedVariables false
set_option linter.unusedSimpArgs false


theorem r13_Few_ok (l1 : List TEvent) (most2 : Int) (r0 : Bool) (h : (r13_Few l1 most2).wp (· = r0)) : PFun Try.prog 12 [.d (.sl (List.map TEvent.e l1)), .d (.v (.int .i64 most2))] (.d (.v (.bool r0))) := by
  refine PFun.intro (sl := [(0, _), (1, _)]) Try.func12 rfl Try.ntmps12 rfl rfl ?_
  intro ctx hK
  refine PWc.seq ?_
  refine PWc.region ?_
  refine PWl.step (LR.assign rfl) rfl ?_
  refine PWl.nil ?_
  refine PWc.seq ?_
  refine PWc.seq ?_
  refine PWc.region ?_
  refine PWl.step (LR.move rfl) rfl ?_
  refine PWl.step (LR.lenMap (enc := TEvent.e) (L := l1) Try.underlying22 rfl) rfl ?_
  refine PWl.step (LR.move rfl) rfl ?_
  refine PWl.step (LR.gtr rfl rfl) rfl ?_
  refine PWl.nil ?_
  refine PWc.cond rfl (fun hc3 => ?_) (fun hc3 => ?_)
  · replace h := iT hc3 h
    refine PWc.seq ?_
    refine PWc.region ?_
    refine PWl.step (LR.assign rfl) rfl ?_
    refine PWl.nil ?_
    refine PWc.ret ?_
    replace h : _ = r0 := h
    subst h
    exact ⟨.inr rfl, _, .cons (.tmp rfl rfl) <| .nil, rfl⟩
  · replace h := iF hc3 h
    refine PWc.skip ?_
    refine PWc.seq ?_
    refine PWc.seq ?_
    refine PWc.region ?_
    refine PWl.step (LR.assign rfl) rfl ?_
    refine PWl.nil ?_
    refine PWc.jnX (iBind h) (fun (_ : Unit) (_ : Unit) => ⟨32, [], []⟩) (fun h => ?_) ?_
    · refine PWc.block ?_
      refine PWc.loopM (fun (i21 : Int) (_ : Unit) => ⟨32, [(0, .d (.sl (List.map TEvent.e l1))), (5, .d (.v (.int .i64 i21)))], []⟩) () h (Sub.of rfl (.cons rfl rfl <| .cons rfl rfl <| .nil) (.nil)) ?_
      rintro N i21 _ h
      refine PWc.seq ?_
      refine PWc.seq ?_
      refine PWc.region ?_
      refine PWl.step (LR.move rfl) rfl ?_
      refine PWl.step (LR.move rfl) rfl ?_
      refine PWl.step (LR.lenMap (enc := TEvent.e) (L := l1) Try.underlying22 rfl) rfl ?_
      refine PWl.step (LR.lss rfl rfl) rfl ?_
      refine PWl.nil ?_
      refine PWc.cond rfl (fun hc22 => ?_) (fun hc22 => ?_)
      · replace h := iT hc22 h
        refine PWc.skip ?_
        refine PWc.seq ?_
        refine PWc.block ?_
        refine PWc.seq ?_
        refine PWc.jn (iBind h) (fun (v23 : Bool) (_ : Unit) => ⟨32, [(0, .d (.sl (List.map TEvent.e l1))), (5, .d (.v (.int .i64 i21))), (31, .d (.v (.bool v23)))], []⟩) (fun h => ?_) ?_
        · refine PWc.region ?_
          refine PWl.step (LR.move rfl) rfl ?_
          refine PWl.step (LR.move rfl) rfl ?_
          replace h := iIdx h
          obtain ⟨x24, hy25, h⟩ := h
          refine PWl.step (LR.idxT (enc := TEvent.e) (L := l1) (y := x24) Try.underlying22 Try.sizeOf41 rfl rfl hy25 (fun _ => rfl)) rfl ?_
          refine PWl.step (LR.fieldEp Try.underlying41 rfl Try.sizeOf39 (by decide) rfl rfl) rfl ?_
          refine PWl.step (LR.loadEp Try.isAgg39 rfl rfl) rfl ?_
          refine PWl.step (LR.lenMap (enc := TDot.e) (L := x24.kills) Try.underlying39 rfl) rfl ?_
          refine PWl.step (LR.gtr rfl rfl) rfl ?_
          refine PWl.step (LR.move rfl) rfl ?_
          refine PWl.split (d := 23) rfl (fun hg26 => ?_) (fun hg26 => ?_)
          · replace h := iT hg26 h
            refine PWl.guardF rfl rfl rfl (by decide) ?_
            refine PWl.guardF rfl rfl rfl (by decide) ?_
            refine PWl.guardF rfl rfl rfl (by decide) ?_
            refine PWl.guardF rfl rfl rfl (by decide) ?_
            refine PWl.guardF rfl rfl rfl (by decide) ?_
            refine PWl.guardF rfl rfl rfl (by decide) ?_
            refine PWl.re (tl := [(0, _), (5, _), (23, _), (24, _), (25, _), (26, _), (27, _), (28, _), (29, _)]) (to := []) rfl (.cons rfl rfl <| .cons rfl rfl <| .cons rfl rfl <| .cons rfl rfl <| .cons rfl rfl <| .cons rfl rfl <| .cons rfl rfl <| .cons rfl rfl <| .cons rfl rfl <| .nil) (.nil) ?_
            refine PWl.guardF rfl rfl rfl (by decide) ?_
            refine PWl.step (LR.pickT rfl rfl) rfl ?_
            refine PWl.nil ?_
            exact ⟨true, (), h, Sub.of rfl (.cons rfl rfl <| .cons rfl rfl <| .cons rfl rfl <| .nil) (.nil)⟩
          · replace h := iF hg26 h
            refine PWl.guardT (LR.move rfl) rfl rfl rfl ?_
            refine PWl.guardT (LR.move rfl) rfl rfl rfl ?_
            replace h := iIdx h
            obtain ⟨x27, hy28, h⟩ := h
            refine PWl.guardT (LR.idxT (enc := TEvent.e) (L := l1) (y := x27) Try.underlying22 Try.sizeOf41 rfl rfl hy28 (fun _ => rfl)) rfl rfl rfl ?_
            refine PWl.guardT (LR.fieldEp Try.underlying41 rfl Try.sizeOf9 (by decide) rfl rfl) rfl rfl rfl ?_
            refine PWl.guardT (LR.loadEp Try.isAgg9 rfl rfl) rfl rfl rfl ?_
            refine PWl.guardT (LR.lenStr Try.underlying9 rfl) rfl rfl rfl ?_
            refine PWl.re (tl := [(0, _), (5, _), (23, _), (24, _), (25, _), (26, _), (27, _), (28, _), (29, _)]) (to := []) rfl (.cons rfl rfl <| .cons rfl rfl <| .cons rfl rfl <| .cons rfl rfl <| .cons rfl rfl <| .cons rfl rfl <| .cons rfl rfl <| .cons rfl rfl <| .cons rfl rfl <| .nil) (.nil) ?_
            refine PWl.guardT (LR.gtr rfl rfl) rfl rfl rfl ?_
            refine PWl.step (LR.pickF rfl rfl) rfl ?_
            refine PWl.nil ?_
            exact ⟨(decide (200 < (ByteArray.size x27.text : Int))), (), h, Sub.of rfl (.cons rfl rfl <| .cons rfl rfl <| .cons rfl rfl <| .nil) (.nil)⟩
        · rintro v23 _ h
          refine PWc.cond rfl (fun hc29 => ?_) (fun hc29 => ?_)
          · replace h := iT hc29 h
            refine PWc.seq ?_
            refine PWc.region ?_
            refine PWl.step (LR.assign rfl) rfl ?_
            refine PWl.nil ?_
            refine PWc.ret ?_
            replace h : _ = r0 := h
            subst h
            exact ⟨.inr rfl, _, .cons (.tmp rfl rfl) <| .nil, rfl⟩
          · replace h := iF hc29 h
            refine PWc.skip ?_
            refine PWc.region ?_
            refine PWl.step (LR.move rfl) rfl ?_
            refine PWl.step (LR.addW rfl rfl) rfl ?_
            refine PWl.step (LR.assign rfl) rfl ?_
            refine PWl.nil ?_
            exact ⟨(IntKind.i64.wrap (i21 + 1)), (), h, Sub.of rfl (.cons rfl rfl <| .cons rfl rfl <| .nil) (.nil)⟩
      · replace h := iF hc22 h
        refine PWc.exit ?_
        exact ⟨(), (), h, Sub.of rfl (.nil) (.nil)⟩
    · rintro _ _ h
      refine PWc.seq ?_
      refine PWc.region ?_
      refine PWl.step (LR.assign rfl) rfl ?_
      refine PWl.nil ?_
      refine PWc.ret ?_
      replace h : _ = r0 := h
      subst h
      exact ⟨.inr rfl, _, .cons (.tmp rfl rfl) <| .nil, rfl⟩

theorem slices_Clone_sl_Dot_Dot_ok (s1 : List TDot) (r0 : List TDot) (h : (slices_Clone_sl_Dot_Dot s1).wp (· = r0)) : PRow Try.prog 121 [.d (.sl (List.map TDot.e s1))] 38 2 (List.map TDot.e r0) := by
  refine PRow.intro (sl := [(0, _)]) Try.func121 rfl Try.ntmps121 rfl rfl ?_
  intro ctx hK
  refine PWc.seq ?_
  refine PWc.region ?_
  refine PWl.step (LR.assignNilRow 38 2 rfl) rfl ?_
  refine PWl.nil ?_
  refine PWc.seq ?_
  refine PWc.seq ?_
  refine PWc.region ?_
  refine PWl.step (LR.move rfl) rfl ?_
  replace h := iNil h
  refine PWl.eqlNilT (enc := TDot.e) (L := s1) Try.underlying39 rfl rfl (fun b2 hy3 => ?_)
  replace h := h b2 hy3
  refine PWl.nil ?_
  refine PWc.cond rfl (fun hc4 => ?_) (fun hc4 => ?_)
  · replace h := iT hc4 h
    refine PWc.seq ?_
    refine PWc.region ?_
    refine PWl.re (tl := [(0, _), (3, _), (4, _)]) (to := []) rfl (.cons rfl rfl <| .cons rfl rfl <| .cons rfl rfl <| .nil) (.nil) ?_
    refine PWl.step (LR.assignNilRow 38 2 rfl) rfl ?_
    refine PWl.nil ?_
    refine PWc.ret ?_
    replace h : _ = r0 := h
    subst h
    exact ⟨.inr rfl, 2, rfl, .inr ⟨2, _, rfl, (by first | (simp; done) | (simp; omega) | omega), rfl⟩⟩
  · replace h := iF hc4 h
    refine PWc.skip ?_
    refine PWc.seq ?_
    refine PWc.region ?_
    refine PWl.step (LR.buildSlice [] elem39 rfl rfl (.nil) (by decide) (by decide) rfl) rfl ?_
    refine PWl.step (LR.move rfl) rfl ?_
    replace h := iNeed h
    obtain ⟨hy5, h⟩ := h
    refine PWl.step (LR.appT (enc := TDot.e) (L := ([] : List TDot)) (R := s1) [5] elem39 Try.underlying39 rfl (by first | (simp; done) | (simp; omega) | omega) rfl (Src.slT (enc := TDot.e) (R := s1) rfl (fun _ => rfl)) (fun _ => rfl) hy5 rfl rfl) rfl ?_
    refine PWl.re (tl := [(0, _), (3, _), (4, _), (6, _), (7, _)]) (to := [(5, _)]) rfl (.cons rfl rfl <| .cons rfl rfl <| .cons rfl rfl <| .cons rfl rfl <| .cons rfl rfl <| .nil) (.cons rfl rfl <| .nil) ?_
    refine PWl.step (LR.assign rfl) rfl ?_
    refine PWl.nil ?_
    refine PWc.ret ?_
    replace h : _ = r0 := h
    subst h
    exact ⟨.inr rfl, 2, rfl, .inr ⟨5, _, rfl, (by simp), rfl⟩⟩

end Go.Proofs

namespace Go.Proofs
open Go.Ep
set_option maxHeartbeats 1000000
set_option maxRecDepth 100000
set_option linter.unusedVariables false
set_option linter.unusedSimpArgs false


theorem r07_Same_ok (a1 : List TDot) (b2 : List TDot) (r0 : Bool) (h : (r07_Same a1 b2).wp (· = r0)) : PFun Try.prog 50 [.d (.sl (List.map TDot.e a1)), .d (.sl (List.map TDot.e b2))] (.d (.v (.bool r0))) := by
  refine PFun.intro (sl := [(0, _), (1, _)]) Try.func50 rfl Try.ntmps50 rfl rfl ?_
  intro ctx hK
  refine PWc.seq ?_
  refine PWc.region ?_
  refine PWl.step (LR.assign rfl) rfl ?_
  refine PWl.nil ?_
  refine PWc.seq ?_
  refine PWc.seq ?_
  refine PWc.region ?_
  refine PWl.step (LR.move rfl) rfl ?_
  refine PWl.step (LR.lenMap (enc := TDot.e) (L := a1) Try.underlying39 rfl) rfl ?_
  refine PWl.step (LR.move rfl) rfl ?_
  refine PWl.step (LR.lenMap (enc := TDot.e) (L := b2) Try.underlying39 rfl) rfl ?_
  refine PWl.step (LR.neq rfl rfl) rfl ?_
  refine PWl.nil ?_
  refine PWc.cond rfl (fun hc3 => ?_) (fun hc3 => ?_)
  · replace h := iT hc3 h
    refine PWc.seq ?_
    refine PWc.region ?_
    refine PWl.step (LR.assign rfl) rfl ?_
    refine PWl.nil ?_
    refine PWc.ret ?_
    replace h : _ = r0 := h
    subst h
    exact ⟨.inr rfl, _, .cons (.tmp rfl rfl) <| .nil, rfl⟩
  · replace h := iF hc3 h
    refine PWc.skip ?_
    refine PWc.seq ?_
    refine PWc.seq ?_
    refine PWc.region ?_
    refine PWl.step (LR.assign rfl) rfl ?_
    refine PWl.nil ?_
    refine PWc.jnX (iBind h) (fun (_ : Unit) (_ : Unit) => ⟨26, [], []⟩) (fun h => ?_) ?_
    · refine PWc.block ?_
      refine PWc.loopM (fun (i17 : Int) (_ : Unit) => ⟨26, [(0, .d (.sl (List.map TDot.e a1))), (1, .d (.sl (List.map TDot.e b2))), (5, .d (.v (.int .i64 i17)))], []⟩) () h (Sub.of rfl (.cons rfl rfl <| .cons rfl rfl <| .cons rfl rfl <| .nil) (.nil)) ?_
      rintro N i17 _ h
      refine PWc.seq ?_
      refine PWc.seq ?_
      refine PWc.region ?_
      refine PWl.step (LR.move rfl) rfl ?_
      refine PWl.step (LR.move rfl) rfl ?_
      refine PWl.step (LR.lenMap (enc := TDot.e) (L := a1) Try.underlying39 rfl) rfl ?_
      refine PWl.step (LR.lss rfl rfl) rfl ?_
      refine PWl.nil ?_
      refine PWc.cond rfl (fun hc18 => ?_) (fun hc18 => ?_)
      · replace h := iT hc18 h
        refine PWc.skip ?_
        refine PWc.seq ?_
        refine PWc.block ?_
        refine PWc.seq ?_
        refine PWc.regionD (by kernel_rfl) (by kernel_rfl) ?_
        refine PQl.step (fun _ he ho => LR.move (he rfl rfl)) rfl ?_
        refine PQl.step (fun _ he ho => LR.move (he rfl rfl)) rfl ?_
        replace h := iIdx h
        obtain ⟨x19, hy20, h⟩ := h
        refine PQl.step (fun _ he ho => LR.idxT (enc := TDot.e) (L := a1) (y := x19) Try.underlying39 Try.sizeOf38 (he rfl rfl) (he rfl rfl) hy20 (fun _ => rfl)) rfl ?_
        refine PQl.step (fun _ he ho => LR.loadEpAgg (ys := [_, _]) Try.isAgg38 Try.sizeOf38 (he rfl rfl) rfl rfl) rfl ?_
        refine PQl.step (fun _ he ho => LR.move (he rfl rfl)) rfl ?_
        refine PQl.step (fun _ he ho => LR.move (he rfl rfl)) rfl ?_
        replace h := iIdx h
        obtain ⟨x21, hy22, h⟩ := h
        refine PQl.step (fun _ he ho => LR.idxT (enc := TDot.e) (L := b2) (y := x21) Try.underlying39 Try.sizeOf38 (he rfl rfl) (he rfl rfl) hy22 (fun _ => rfl)) rfl ?_
        refine PQl.step (fun _ he ho => LR.loadEpAgg (ys := [_, _]) Try.isAgg38 Try.sizeOf38 (he rfl rfl) rfl rfl) rfl ?_
        refine PQl.step (fun _ he ho => LR.neqAgg (he rfl rfl) (he rfl rfl) rfl rfl eq38) rfl ?_
        refine PQl.nil ?_
        refine PWc.cond rfl (fun hc23 => ?_) (fun hc23 => ?_)
        · replace h := iT hc23 h
          refine PWc.seq ?_
          refine PWc.region ?_
          refine PWl.step (LR.assign rfl) rfl ?_
          refine PWl.nil ?_
          refine PWc.ret ?_
          replace h : _ = r0 := h
          subst h
          exact ⟨.inr rfl, _, .cons (.tmp rfl rfl) <| .nil, rfl⟩
        · replace h := iF hc23 h
          refine PWc.skip ?_
          refine PWc.region ?_
          refine PWl.step (LR.move rfl) rfl ?_
          refine PWl.step (LR.addW rfl rfl) rfl ?_
          refine PWl.step (LR.assign rfl) rfl ?_
          refine PWl.nil ?_
          exact ⟨(IntKind.i64.wrap (i17 + 1)), (), h, Sub.of rfl (.cons rfl rfl <| .cons rfl rfl <| .cons rfl rfl <| .nil) (.nil)⟩
      · replace h := iF hc18 h
        refine PWc.exit ?_
        exact ⟨(), (), h, Sub.of rfl (.nil) (.nil)⟩
    · rintro _ _ h
      refine PWc.seq ?_
      refine PWc.region ?_
      refine PWl.step (LR.assign rfl) rfl ?_
      refine PWl.nil ?_
      refine PWc.ret ?_
      replace h : _ = r0 := h
      subst h
      exact ⟨.inr rfl, _, .cons (.tmp rfl rfl) <| .nil, rfl⟩

theorem r13_Same_ok (a1 : TEvent) (b2 : TEvent) (r0 : Bool) (h : (r13_Same a1 b2).wp (· = r0)) : PFun Try.prog 65 [.agg (List.map .d (TEvent.e a1)), .agg (List.map .d (TEvent.e b2))] (.d (.v (.bool r0))) := by
  refine PFun.intro (sl := [(0, _), (1, _)]) Try.func65 rfl Try.ntmps65 rfl rfl ?_
  intro ctx hK
  refine PWc.seq ?_
  refine PWc.region ?_
  refine PWl.step (LR.box rfl rfl rfl rfl) rfl ?_
  refine PWl.step (LR.box rfl rfl rfl rfl) rfl ?_
  refine PWl.step (LR.assign rfl) rfl ?_
  refine PWl.nil ?_
  refine PWc.seq ?_
  refine PWc.jn (iBind h) (fun (v3 : Bool) (_ : Unit) => ⟨45, [(4, .d (.v (.bool v3)))], []⟩) (fun h => ?_) ?_
  · refine PWc.region ?_
    refine PWl.step (LR.fieldRef Try.underlying41 rfl Try.sizeOf38 (by decide) rfl rfl) rfl ?_
    refine PWl.step (LR.loadRefAgg (ps := [_, _]) Try.isAgg38 Try.sizeOf38 rfl rfl rfl rfl) rfl ?_
    refine PWl.step (LR.fieldRef Try.underlying41 rfl Try.sizeOf38 (by decide) rfl rfl) rfl ?_
    refine PWl.step (LR.loadRefAgg (ps := [_, _]) Try.isAgg38 Try.sizeOf38 rfl rfl rfl rfl) rfl ?_
    refine PWl.step (LR.eqlAgg rfl rfl rfl rfl eq38) rfl ?_
    refine PWl.step (LR.move rfl) rfl ?_
    refine PWl.split (d := 10) rfl (fun hg4 => ?_) (fun hg4 => ?_)
    · replace h := iT hg4 h
      refine PWl.guardT (LR.fieldRef Try.underlying41 rfl Try.sizeOf5 (by decide) rfl rfl) rfl rfl rfl ?_
      refine PWl.guardT (LR.loadRef Try.isAgg5 rfl rfl rfl) rfl rfl rfl ?_
      refine PWl.guardT (LR.fieldRef Try.underlying41 rfl Try.sizeOf5 (by decide) rfl rfl) rfl rfl rfl ?_
      refine PWl.guardT (LR.loadRef Try.isAgg5 rfl rfl rfl) rfl rfl rfl ?_
      refine PWl.guardT (LR.eql rfl rfl) rfl rfl rfl ?_
      refine PWl.step (LR.pickT rfl rfl) rfl ?_
      refine PWl.step (LR.move rfl) rfl ?_
      refine PWl.split (d := 17) rfl (fun hg5 => ?_) (fun hg5 => ?_)
      · replace h := iT hg5 h
        refine PWl.guardT (LR.fieldRef Try.underlying41 rfl Try.sizeOf36 (by decide) rfl rfl) rfl rfl rfl ?_
        refine PWl.re (tl := [(2, _), (3, _), (4, _), (17, _), (18, _)]) (to := [(2, _), (3, _)]) rfl (.cons rfl rfl <| .cons rfl rfl <| .cons rfl rfl <| .cons rfl rfl <| .cons rfl rfl <| .nil) (.cons rfl rfl <| .cons rfl rfl <| .nil) ?_
        refine PWl.guardT (LR.loadRef Try.isAgg36 rfl rfl rfl) rfl rfl rfl ?_
        refine PWl.guardT (LR.fieldRef Try.underlying41 rfl Try.sizeOf36 (by decide) rfl rfl) rfl rfl rfl ?_
        refine PWl.guardT (LR.loadRef Try.isAgg36 rfl rfl rfl) rfl rfl rfl ?_
        refine PWl.guardT (LR.eql rfl rfl) rfl rfl rfl ?_
        refine PWl.step (LR.pickT rfl rfl) rfl ?_
        refine PWl.step (LR.move rfl) rfl ?_
        refine PWl.split (d := 24) rfl (fun hg6 => ?_) (fun hg6 => ?_)
        · replace h := iT hg6 h
          refine PWl.guardT (LR.fieldRef Try.underlying41 rfl Try.sizeOf5 (by decide) rfl rfl) rfl rfl rfl ?_
          refine PWl.guardT (LR.loadRef Try.isAgg5 rfl rfl rfl) rfl rfl rfl ?_
          refine PWl.guardT (LR.fieldRef Try.underlying41 rfl Try.sizeOf5 (by decide) rfl rfl) rfl rfl rfl ?_
          refine PWl.guardT (LR.loadRef Try.isAgg5 rfl rfl rfl) rfl rfl rfl ?_
          refine PWl.guardT (LR.eql rfl rfl) rfl rfl rfl ?_
          refine PWl.step (LR.pickT rfl rfl) rfl ?_
          refine PWl.step (LR.move rfl) rfl ?_
          refine PWl.split (d := 31) rfl (fun hg7 => ?_) (fun hg7 => ?_)
          · replace h := iT hg7 h
            refine PWl.guardT (LR.fieldRef Try.underlying41 rfl Try.sizeOf9 (by decide) rfl rfl) rfl rfl rfl ?_
            refine PWl.re (tl := [(2, _), (3, _), (4, _), (31, _), (32, _)]) (to := [(2, _), (3, _)]) rfl (.cons rfl rfl <| .cons rfl rfl <| .cons rfl rfl <| .cons rfl rfl <| .cons rfl rfl <| .nil) (.cons rfl rfl <| .cons rfl rfl <| .nil) ?_
            refine PWl.guardT (LR.loadRef Try.isAgg9 rfl rfl rfl) rfl rfl rfl ?_
            refine PWl.guardT (LR.fieldRef Try.underlying41 rfl Try.sizeOf9 (by decide) rfl rfl) rfl rfl rfl ?_
            refine PWl.guardT (LR.loadRef Try.isAgg9 rfl rfl rfl) rfl rfl rfl ?_
            refine PWl.guardT (LR.eqlStr rfl rfl) rfl rfl rfl ?_
            refine PWl.step (LR.pickT rfl rfl) rfl ?_
            refine PWl.step (LR.move rfl) rfl ?_
            refine PWl.split (d := 38) rfl (fun hg8 => ?_) (fun hg8 => ?_)
            · replace h := iT hg8 h
              refine PWl.guardT (LR.fieldRef Try.underlying41 rfl Try.sizeOf39 (by decide) rfl rfl) rfl rfl rfl ?_
              refine PWl.guardT (LR.loadRef Try.isAgg39 rfl rfl rfl) rfl rfl rfl ?_
              refine PWl.guardT (LR.fieldRef Try.underlying41 rfl Try.sizeOf39 (by decide) rfl rfl) rfl rfl rfl ?_
              refine PWl.guardT (LR.loadRef Try.isAgg39 rfl rfl rfl) rfl rfl rfl ?_
              replace h := iDet h
              obtain ⟨v9, hy10, h⟩ := h
              refine PWl.guardT (LR.callN (r07_Same_ok a1.kills b2.kills v9 hy10) rfl Try.call50 rfl rfl rfl rfl) rfl rfl rfl ?_
              refine PWl.step (LR.pickT rfl rfl) rfl ?_
              refine PWl.step (LR.assign rfl) rfl ?_
              refine PWl.nil ?_
              exact ⟨v9, (), h, Sub.of rfl (.cons rfl rfl <| .nil) (.nil)⟩
            · replace h := iF hg8 h
              refine PWl.guardF rfl rfl rfl (by decide) ?_
              refine PWl.guardF rfl rfl rfl (by decide) ?_
              refine PWl.guardF rfl rfl rfl (by decide) ?_
              refine PWl.guardF rfl rfl rfl (by decide) ?_
              refine PWl.guardF rfl rfl rfl (by decide) ?_
              refine PWl.step (LR.pickF rfl rfl) rfl ?_
              refine PWl.step (LR.assign rfl) rfl ?_
              refine PWl.nil ?_
              exact ⟨false, (), h, Sub.of rfl (.cons rfl rfl <| .nil) (.nil)⟩
          · replace h := iF hg7 h
            refine PWl.guardF rfl rfl rfl (by decide) ?_
            refine PWl.re (tl := [(2, _), (3, _), (4, _), (31, _), (32, _)]) (to := [(2, _), (3, _)]) rfl (.cons rfl rfl <| .cons rfl rfl <| .cons rfl rfl <| .cons rfl rfl <| .cons rfl rfl <| .nil) (.cons rfl rfl <| .cons rfl rfl <| .nil) ?_
            refine PWl.guardF rfl rfl rfl (by decide) ?_
            refine PWl.guardF rfl rfl rfl (by decide) ?_
            refine PWl.guardF rfl rfl rfl (by decide) ?_
            refine PWl.guardF rfl rfl rfl (by decide) ?_
            refine PWl.step (LR.pickF rfl rfl) rfl ?_
            refine PWl.step (LR.move rfl) rfl ?_
            refine PWl.guardF rfl rfl rfl (by decide) ?_
            refine PWl.guardF rfl rfl rfl (by decide) ?_
            refine PWl.guardF rfl rfl rfl (by decide) ?_
            refine PWl.guardF rfl rfl rfl (by decide) ?_
            refine PWl.guardF rfl rfl rfl (by decide) ?_
            refine PWl.step (LR.pickF rfl rfl) rfl ?_
            refine PWl.step (LR.assign rfl) rfl ?_
            refine PWl.nil ?_
            exact ⟨false, (), h, Sub.of rfl (.cons rfl rfl <| .nil) (.nil)⟩
        · replace h := iF hg6 h
          refine PWl.guardF rfl rfl rfl (by decide) ?_
          refine PWl.guardF rfl rfl rfl (by decide) ?_
          refine PWl.guardF rfl rfl rfl (by decide) ?_
          refine PWl.guardF rfl rfl rfl (by decide) ?_
          refine PWl.guardF rfl rfl rfl (by decide) ?_
          refine PWl.step (LR.pickF rfl rfl) rfl ?_
          refine PWl.step (LR.move rfl) rfl ?_
          refine PWl.guardF rfl rfl rfl (by decide) ?_
          refine PWl.guardF rfl rfl rfl (by decide) ?_
          refine PWl.re (tl := [(2, _), (3, _), (4, _), (31, _), (33, _)]) (to := [(2, _), (3, _)]) rfl (.cons rfl rfl <| .cons rfl rfl <| .cons rfl rfl <| .cons rfl rfl <| .cons rfl rfl <| .nil) (.cons rfl rfl <| .cons rfl rfl <| .nil) ?_
          refine PWl.guardF rfl rfl rfl (by decide) ?_
          refine PWl.guardF rfl rfl rfl (by decide) ?_
          refine PWl.guardF rfl rfl rfl (by decide) ?_
          refine PWl.step (LR.pickF rfl rfl) rfl ?_
          refine PWl.step (LR.move rfl) rfl ?_
          refine PWl.guardF rfl rfl rfl (by decide) ?_
          refine PWl.guardF rfl rfl rfl (by decide) ?_
          refine PWl.guardF rfl rfl rfl (by decide) ?_
          refine PWl.guardF rfl rfl rfl (by decide) ?_
          refine PWl.guardF rfl rfl rfl (by decide) ?_
          refine PWl.step (LR.pickF rfl rfl) rfl ?_
          refine PWl.step (LR.assign rfl) rfl ?_
          refine PWl.nil ?_
          exact ⟨false, (), h, Sub.of rfl (.cons rfl rfl <| .nil) (.nil)⟩
      · replace h := iF hg5 h
        refine PWl.guardF rfl rfl rfl (by decide) ?_
        refine PWl.re (tl := [(2, _), (3, _), (4, _), (17, _), (18, _)]) (to := [(2, _), (3, _)]) rfl (.cons rfl rfl <| .cons rfl rfl <| .cons rfl rfl <| .cons rfl rfl <| .cons rfl rfl <| .nil) (.cons rfl rfl <| .cons rfl rfl <| .nil) ?_
        refine PWl.guardF rfl rfl rfl (by decide) ?_
        refine PWl.guardF rfl rfl rfl (by decide) ?_
        refine PWl.guardF rfl rfl rfl (by decide) ?_
        refine PWl.guardF rfl rfl rfl (by decide) ?_
        refine PWl.step (LR.pickF rfl rfl) rfl ?_
        refine PWl.step (LR.move rfl) rfl ?_
        refine PWl.guardF rfl rfl rfl (by decide) ?_
        refine PWl.guardF rfl rfl rfl (by decide) ?_
        refine PWl.guardF rfl rfl rfl (by decide) ?_
        refine PWl.guardF rfl rfl rfl (by decide) ?_
        refine PWl.guardF rfl rfl rfl (by decide) ?_
        refine PWl.step (LR.pickF rfl rfl) rfl ?_
        refine PWl.step (LR.move rfl) rfl ?_
        refine PWl.guardF rfl rfl rfl (by decide) ?_
        refine PWl.guardF rfl rfl rfl (by decide) ?_
        refine PWl.guardF rfl rfl rfl (by decide) ?_
        refine PWl.re (tl := [(2, _), (3, _), (4, _), (31, _), (33, _), (34, _)]) (to := [(2, _), (3, _)]) rfl (.cons rfl rfl <| .cons rfl rfl <| .cons rfl rfl <| .cons rfl rfl <| .cons rfl rfl <| .cons rfl rfl <| .nil) (.cons rfl rfl <| .cons rfl rfl <| .nil) ?_
        refine PWl.guardF rfl rfl rfl (by decide) ?_
        refine PWl.guardF rfl rfl rfl (by decide) ?_
        refine PWl.step (LR.pickF rfl rfl) rfl ?_
        refine PWl.step (LR.move rfl) rfl ?_
        refine PWl.guardF rfl rfl rfl (by decide) ?_
        refine PWl.guardF rfl rfl rfl (by decide) ?_
        refine PWl.guardF rfl rfl rfl (by decide) ?_
        refine PWl.guardF rfl rfl rfl (by decide) ?_
        refine PWl.guardF rfl rfl rfl (by decide) ?_
        refine PWl.step (LR.pickF rfl rfl) rfl ?_
        refine PWl.step (LR.assign rfl) rfl ?_
        refine PWl.nil ?_
        exact ⟨false, (), h, Sub.of rfl (.cons rfl rfl <| .nil) (.nil)⟩
    · replace h := iF hg4 h
      refine PWl.guardF rfl rfl rfl (by decide) ?_
      refine PWl.guardF rfl rfl rfl (by decide) ?_
      refine PWl.guardF rfl rfl rfl (by decide) ?_
      refine PWl.guardF rfl rfl rfl (by decide) ?_
      refine PWl.guardF rfl rfl rfl (by decide) ?_
      refine PWl.step (LR.pickF rfl rfl) rfl ?_
      refine PWl.step (LR.move rfl) rfl ?_
      refine PWl.guardF rfl rfl rfl (by decide) ?_
      refine PWl.guardF rfl rfl rfl (by decide) ?_
      refine PWl.re (tl := [(2, _), (3, _), (4, _), (17, _), (19, _)]) (to := [(2, _), (3, _)]) rfl (.cons rfl rfl <| .cons rfl rfl <| .cons rfl rfl <| .cons rfl rfl <| .cons rfl rfl <| .nil) (.cons rfl rfl <| .cons rfl rfl <| .nil) ?_
      refine PWl.guardF rfl rfl rfl (by decide) ?_
      refine PWl.guardF rfl rfl rfl (by decide) ?_
      refine PWl.guardF rfl rfl rfl (by decide) ?_
      refine PWl.step (LR.pickF rfl rfl) rfl ?_
      refine PWl.step (LR.move rfl) rfl ?_
      refine PWl.guardF rfl rfl rfl (by decide) ?_
      refine PWl.guardF rfl rfl rfl (by decide) ?_
      refine PWl.guardF rfl rfl rfl (by decide) ?_
      refine PWl.guardF rfl rfl rfl (by decide) ?_
      refine PWl.guardF rfl rfl rfl (by decide) ?_
      refine PWl.step (LR.pickF rfl rfl) rfl ?_
      refine PWl.step (LR.move rfl) rfl ?_
      refine PWl.guardF rfl rfl rfl (by decide) ?_
      refine PWl.guardF rfl rfl rfl (by decide) ?_
      refine PWl.guardF rfl rfl rfl (by decide) ?_
      refine PWl.guardF rfl rfl rfl (by decide) ?_
      refine PWl.re (tl := [(2, _), (3, _), (4, _), (31, _), (33, _), (35, _)]) (to := [(2, _), (3, _)]) rfl (.cons rfl rfl <| .cons rfl rfl <| .cons rfl rfl <| .cons rfl rfl <| .cons rfl rfl <| .cons rfl rfl <| .nil) (.cons rfl rfl <| .cons rfl rfl <| .nil) ?_
      refine PWl.guardF rfl rfl rfl (by decide) ?_
      refine PWl.step (LR.pickF rfl rfl) rfl ?_
      refine PWl.step (LR.move rfl) rfl ?_
      refine PWl.guardF rfl rfl rfl (by decide) ?_
      refine PWl.guardF rfl rfl rfl (by decide) ?_
      refine PWl.guardF rfl rfl rfl (by decide) ?_
      refine PWl.guardF rfl rfl rfl (by decide) ?_
      refine PWl.guardF rfl rfl rfl (by decide) ?_
      refine PWl.step (LR.pickF rfl rfl) rfl ?_
      refine PWl.step (LR.assign rfl) rfl ?_
      refine PWl.nil ?_
      exact ⟨false, (), h, Sub.of rfl (.cons rfl rfl <| .nil) (.nil)⟩
  · rintro v3 _ h
    refine PWc.ret ?_
    replace h : _ = r0 := h
    subst h
    exact ⟨.inr rfl, _, .cons (.tmp rfl rfl) <| .nil, rfl⟩

theorem r13_All_ok (a1 : List TEvent) (b2 : List TEvent) (r0 : Bool) (h : (r13_All a1 b2).wp (· = r0)) : PFun Try.prog 17 [.d (.sl (List.map TEvent.e a1)), .d (.sl (List.map TEvent.e b2))] (.d (.v (.bool r0))) := by
  refine PFun.intro (sl := [(0, _), (1, _)]) Try.func17 rfl Try.ntmps17 rfl rfl ?_
  intro ctx hK
  refine PWc.seq ?_
  refine PWc.region ?_
  refine PWl.step (LR.assign rfl) rfl ?_
  refine PWl.nil ?_
  refine PWc.seq ?_
  refine PWc.seq ?_
  refine PWc.region ?_
  refine PWl.step (LR.move rfl) rfl ?_
  refine PWl.step (LR.lenMap (enc := TEvent.e) (L := a1) Try.underlying22 rfl) rfl ?_
  refine PWl.step (LR.move rfl) rfl ?_
  refine PWl.step (LR.lenMap (enc := TEvent.e) (L := b2) Try.underlying22 rfl) rfl ?_
  refine PWl.step (LR.neq rfl rfl) rfl ?_
  refine PWl.nil ?_
  refine PWc.cond rfl (fun hc3 => ?_) (fun hc3 => ?_)
  · replace h := iT hc3 h
    refine PWc.seq ?_
    refine PWc.region ?_
    refine PWl.step (LR.assign rfl) rfl ?_
    refine PWl.nil ?_
    refine PWc.ret ?_
    replace h : _ = r0 := h
    subst h
    exact ⟨.inr rfl, _, .cons (.tmp rfl rfl) <| .nil, rfl⟩
  · replace h := iF hc3 h
    refine PWc.skip ?_
    refine PWc.seq ?_
    refine PWc.seq ?_
    refine PWc.region ?_
    refine PWl.step (LR.assign rfl) rfl ?_
    refine PWl.nil ?_
    refine PWc.jnX (iBind h) (fun (_ : Unit) (_ : Unit) => ⟨27, [], []⟩) (fun h => ?_) ?_
    · refine PWc.block ?_
      refine PWc.loopM (fun (i21 : Int) (_ : Unit) => ⟨27, [(0, .d (.sl (List.map TEvent.e a1))), (1, .d (.sl (List.map TEvent.e b2))), (5, .d (.v (.int .i64 i21)))], []⟩) () h (Sub.of rfl (.cons rfl rfl <| .cons rfl rfl <| .cons rfl rfl <| .nil) (.nil)) ?_
      rintro N i21 _ h
      refine PWc.seq ?_
      refine PWc.seq ?_
      refine PWc.region ?_
      refine PWl.step (LR.move rfl) rfl ?_
      refine PWl.step (LR.move rfl) rfl ?_
      refine PWl.step (LR.lenMap (enc := TEvent.e) (L := a1) Try.underlying22 rfl) rfl ?_
      refine PWl.step (LR.lss rfl rfl) rfl ?_
      refine PWl.nil ?_
      refine PWc.cond rfl (fun hc22 => ?_) (fun hc22 => ?_)
      · replace h := iT hc22 h
        refine PWc.skip ?_
        refine PWc.seq ?_
        refine PWc.block ?_
        refine PWc.seq ?_
        refine PWc.regionD (by kernel_rfl) (by kernel_rfl) ?_
        refine PQl.step (fun _ he ho => LR.move (he rfl rfl)) rfl ?_
        refine PQl.step (fun _ he ho => LR.move (he rfl rfl)) rfl ?_
        replace h := iIdx h
        obtain ⟨x23, hy24, h⟩ := h
        refine PQl.step (fun _ he ho => LR.idxT (enc := TEvent.e) (L := a1) (y := x23) Try.underlying22 Try.sizeOf41 (he rfl rfl) (he rfl rfl) hy24 (fun _ => rfl)) rfl ?_
        refine PQl.step (fun _ he ho => LR.loadEpAgg (ys := [_, _, _, _, _, _, _]) Try.isAgg41 Try.sizeOf41 (he rfl rfl) rfl rfl) rfl ?_
        refine PQl.step (fun _ he ho => LR.move (he rfl rfl)) rfl ?_
        refine PQl.step (fun _ he ho => LR.move (he rfl rfl)) rfl ?_
        replace h := iIdx h
        obtain ⟨x25, hy26, h⟩ := h
        refine PQl.step (fun _ he ho => LR.idxT (enc := TEvent.e) (L := b2) (y := x25) Try.underlying22 Try.sizeOf41 (he rfl rfl) (he rfl rfl) hy26 (fun _ => rfl)) rfl ?_
        refine PQl.step (fun _ he ho => LR.loadEpAgg (ys := [_, _, _, _, _, _, _]) Try.isAgg41 Try.sizeOf41 (he rfl rfl) rfl rfl) rfl ?_
        replace h := iDet h
        obtain ⟨v27, hy28, h⟩ := h
        refine PQl.step (fun _ he ho => LR.callN (r13_Same_ok x23 x25 v27 hy28) (he rfl rfl) Try.call65 (evsE he rfl rfl) rfl rfl rfl) rfl ?_
        refine PQl.step (fun _ he ho => LR.not (he rfl rfl)) rfl ?_
        refine PQl.nil ?_
        refine PWc.cond rfl (fun hc29 => ?_) (fun hc29 => ?_)
        · replace h := iT hc29 h
          refine PWc.seq ?_
          refine PWc.region ?_
          refine PWl.step (LR.assign rfl) rfl ?_
          refine PWl.nil ?_
          refine PWc.ret ?_
          replace h : _ = r0 := h
          subst h
          exact ⟨.inr rfl, _, .cons (.tmp rfl rfl) <| .nil, rfl⟩
        · replace h := iF hc29 h
          refine PWc.skip ?_
          refine PWc.region ?_
          refine PWl.step (LR.move rfl) rfl ?_
          refine PWl.step (LR.addW rfl rfl) rfl ?_
          refine PWl.step (LR.assign rfl) rfl ?_
          refine PWl.nil ?_
          exact ⟨(IntKind.i64.wrap (i21 + 1)), (), h, Sub.of rfl (.cons rfl rfl <| .cons rfl rfl <| .cons rfl rfl <| .nil) (.nil)⟩
      · replace h := iF hc22 h
        refine PWc.exit ?_
        exact ⟨(), (), h, Sub.of rfl (.nil) (.nil)⟩
    · rintro _ _ h
      refine PWc.seq ?_
      refine PWc.region ?_
      refine PWl.step (LR.assign rfl) rfl ?_
      refine PWl.nil ?_
      refine PWc.ret ?_
      replace h : _ = r0 := h
      subst h
      exact ⟨.inr rfl, _, .cons (.tmp rfl rfl) <| .nil, rfl⟩

end Go.Proofs

namespace Go.Proofs
open Go.Ep
set_option maxHeartbeats 1000000
set_option maxRecDepth 100000
set_option linter.unusedVariables false
set_option linter.unusedSimpArgs false


theorem cmp_isNaN_uint64_ok (x1 : Int) (r0 : Bool) (h : (cmp_isNaN_uint64 x1).wp (· = r0)) : PFun Try.prog 172 [.d (.v (.int .u64 x1))] (.d (.v (.bool r0))) := by
  refine PFun.intro (sl := [(0, _)]) Try.func172 rfl Try.ntmps172 rfl rfl ?_
  intro ctx hK
  refine PWc.seq ?_
  refine PWc.region ?_
  refine PWl.step (LR.assign rfl) rfl ?_
  refine PWl.nil ?_
  refine PWc.seq ?_
  refine PWc.region ?_
  refine PWl.step (LR.move rfl) rfl ?_
  refine PWl.step (LR.move rfl) rfl ?_
  refine PWl.step (LR.neq rfl rfl) rfl ?_
  refine PWl.step (LR.assign rfl) rfl ?_
  refine PWl.nil ?_
  refine PWc.ret ?_
  replace h : _ = r0 := h
  subst h
  exact ⟨.inr rfl, _, .cons (.tmp rfl rfl) <| .nil, rfl⟩

theorem cmp_Compare_uint64_ok (x1 : Int) (y2 : Int) (r0 : Int) (h : (cmp_Compare_uint64 x1 y2).wp (· = r0)) : PFun Try.prog 143 [.d (.v (.int .u64 x1)), .d (.v (.int .u64 y2))] (.d (.v (.int .i64 r0))) := by
  refine PFun.intro (sl := [(0, _), (1, _)]) Try.func143 rfl Try.ntmps143 rfl rfl ?_
  intro ctx hK
  refine PWc.seq ?_
  refine PWc.region ?_
  refine PWl.step (LR.assign rfl) rfl ?_
  refine PWl.nil ?_
  refine PWc.seq ?_
  refine PWc.region ?_
  refine PWl.step (LR.move rfl) rfl ?_
  replace h := iDet h
  obtain ⟨v3, hy4, h⟩ := h
  refine PWl.step (LR.callN (cmp_isNaN_uint64_ok x1 v3 hy4) rfl Try.call172 rfl rfl rfl rfl) rfl ?_
  refine PWl.step (LR.assign rfl) rfl ?_
  refine PWl.nil ?_
  refine PWc.seq ?_
  refine PWc.region ?_
  refine PWl.step (LR.move rfl) rfl ?_
  replace h := iDet h
  obtain ⟨v5, hy6, h⟩ := h
  refine PWl.step (LR.callN (cmp_isNaN_uint64_ok y2 v5 hy6) rfl Try.call172 rfl rfl rfl rfl) rfl ?_
  refine PWl.step (LR.assign rfl) rfl ?_
  refine PWl.nil ?_
  refine PWc.seq ?_
  refine PWc.seq ?_
  refine PWc.region ?_
  refine PWl.step (LR.move rfl) rfl ?_
  refine PWl.nil ?_
  refine PWc.cond rfl (fun hc7 => ?_) (fun hc7 => ?_)
  · replace h := iT hc7 h
    refine PWc.seq ?_
    refine PWc.seq ?_
    refine PWc.region ?_
    refine PWl.step (LR.move rfl) rfl ?_
    refine PWl.nil ?_
    refine PWc.cond rfl (fun hc8 => ?_) (fun hc8 => ?_)
    · replace h := iT hc8 h
      refine PWc.seq ?_
      refine PWc.region ?_
      refine PWl.step (LR.assign rfl) rfl ?_
      refine PWl.nil ?_
      refine PWc.ret ?_
      replace h : _ = r0 := h
      subst h
      exact ⟨.inr rfl, _, .cons (.tmp rfl rfl) <| .nil, rfl⟩
    · replace h := iF hc8 h
      refine PWc.skip ?_
      refine PWc.seq ?_
      refine PWc.region ?_
      refine PWl.step (LR.assign rfl) rfl ?_
      refine PWl.nil ?_
      refine PWc.ret ?_
      replace h : _ = r0 := h
      subst h
      exact ⟨.inr rfl, _, .cons (.tmp rfl rfl) <| .nil, rfl⟩
  · replace h := iF hc7 h
    refine PWc.skip ?_
    refine PWc.seq ?_
    refine PWc.seq ?_
    refine PWc.region ?_
    refine PWl.step (LR.move rfl) rfl ?_
    refine PWl.nil ?_
    refine PWc.cond rfl (fun hc9 => ?_) (fun hc9 => ?_)
    · replace h := iT hc9 h
      refine PWc.seq ?_
      refine PWc.region ?_
      refine PWl.step (LR.assign rfl) rfl ?_
      refine PWl.nil ?_
      refine PWc.ret ?_
      replace h : _ = r0 := h
      subst h
      exact ⟨.inr rfl, _, .cons (.tmp rfl rfl) <| .nil, rfl⟩
    · replace h := iF hc9 h
      refine PWc.skip ?_
      refine PWc.seq ?_
      refine PWc.seq ?_
      refine PWc.region ?_
      refine PWl.step (LR.move rfl) rfl ?_
      refine PWl.step (LR.move rfl) rfl ?_
      refine PWl.step (LR.lss rfl rfl) rfl ?_
      refine PWl.nil ?_
      refine PWc.cond rfl (fun hc10 => ?_) (fun hc10 => ?_)
      · replace h := iT hc10 h
        refine PWc.seq ?_
        refine PWc.region ?_
        refine PWl.step (LR.assign rfl) rfl ?_
        refine PWl.nil ?_
        refine PWc.ret ?_
        replace h : _ = r0 := h
        subst h
        exact ⟨.inr rfl, _, .cons (.tmp rfl rfl) <| .nil, rfl⟩
      · replace h := iF hc10 h
        refine PWc.skip ?_
        refine PWc.seq ?_
        refine PWc.seq ?_
        refine PWc.region ?_
        refine PWl.step (LR.move rfl) rfl ?_
        refine PWl.step (LR.move rfl) rfl ?_
        refine PWl.step (LR.gtr rfl rfl) rfl ?_
        refine PWl.nil ?_
        refine PWc.cond rfl (fun hc11 => ?_) (fun hc11 => ?_)
        · replace h := iT hc11 h
          refine PWc.seq ?_
          refine PWc.region ?_
          refine PWl.step (LR.assign rfl) rfl ?_
          refine PWl.nil ?_
          refine PWc.ret ?_
          replace h : _ = r0 := h
          subst h
          exact ⟨.inr rfl, _, .cons (.tmp rfl rfl) <| .nil, rfl⟩
        · replace h := iF hc11 h
          refine PWc.skip ?_
          refine PWc.seq ?_
          refine PWc.region ?_
          refine PWl.step (LR.assign rfl) rfl ?_
          refine PWl.nil ?_
          refine PWc.ret ?_
          replace h : _ = r0 := h
          subst h
          exact ⟨.inr rfl, _, .cons (.tmp rfl rfl) <| .nil, rfl⟩

end Go.Proofs

namespace Go.Proofs
open Go.Ep
set_option maxHeartbeats 1000000
set_option maxRecDepth 100000
set_option linter.unusedVariables false
set_option linter.unusedSimpArgs false


theorem cmp_isNaN_uint16_ok (x1 : Int) (r0 : Bool) (h : (cmp_isNaN_uint16 x1).wp (· = r0)) : PFun Try.prog 174 [.d (.v (.int .u16 x1))] (.d (.v (.bool r0))) := by
  refine PFun.intro (sl := [(0, _)]) Try.func174 rfl Try.ntmps174 rfl rfl ?_
  intro ctx hK
  refine PWc.seq ?_
  refine PWc.region ?_
  refine PWl.step (LR.assign rfl) rfl ?_
  refine PWl.nil ?_
  refine PWc.seq ?_
  refine PWc.region ?_
  refine PWl.step (LR.move rfl) rfl ?_
  refine PWl.step (LR.move rfl) rfl ?_
  refine PWl.step (LR.neq rfl rfl) rfl ?_
  refine PWl.step (LR.assign rfl) rfl ?_
  refine PWl.nil ?_
  refine PWc.ret ?_
  replace h : _ = r0 := h
  subst h
  exact ⟨.inr rfl, _, .cons (.tmp rfl rfl) <| .nil, rfl⟩

theorem cmp_Compare_uint16_ok (x1 : Int) (y2 : Int) (r0 : Int) (h : (cmp_Compare_uint16 x1 y2).wp (· = r0)) : PFun Try.prog 146 [.d (.v (.int .u16 x1)), .d (.v (.int .u16 y2))] (.d (.v (.int .i64 r0))) := by
  refine PFun.intro (sl := [(0, _), (1, _)]) Try.func146 rfl Try.ntmps146 rfl rfl ?_
  intro ctx hK
  refine PWc.seq ?_
  refine PWc.region ?_
  refine PWl.step (LR.assign rfl) rfl ?_
  refine PWl.nil ?_
  refine PWc.seq ?_
  refine PWc.region ?_
  refine PWl.step (LR.move rfl) rfl ?_
  replace h := iDet h
  obtain ⟨v3, hy4, h⟩ := h
  refine PWl.step (LR.callN (cmp_isNaN_uint16_ok x1 v3 hy4) rfl Try.call174 rfl rfl rfl rfl) rfl ?_
  refine PWl.step (LR.assign rfl) rfl ?_
  refine PWl.nil ?_
  refine PWc.seq ?_
  refine PWc.region ?_
  refine PWl.step (LR.move rfl) rfl ?_
  replace h := iDet h
  obtain ⟨v5, hy6, h⟩ := h
  refine PWl.step (LR.callN (cmp_isNaN_uint16_ok y2 v5 hy6) rfl Try.call174 rfl rfl rfl rfl) rfl ?_
  refine PWl.step (LR.assign rfl) rfl ?_
  refine PWl.nil ?_
  refine PWc.seq ?_
  refine PWc.seq ?_
  refine PWc.region ?_
  refine PWl.step (LR.move rfl) rfl ?_
  refine PWl.nil ?_
  refine PWc.cond rfl (fun hc7 => ?_) (fun hc7 => ?_)
  · replace h := iT hc7 h
    refine PWc.seq ?_
    refine PWc.seq ?_
    refine PWc.region ?_
    refine PWl.step (LR.move rfl) rfl ?_
    refine PWl.nil ?_
    refine PWc.cond rfl (fun hc8 => ?_) (fun hc8 => ?_)
    · replace h := iT hc8 h
      refine PWc.seq ?_
      refine PWc.region ?_
      refine PWl.step (LR.assign rfl) rfl ?_
      refine PWl.nil ?_
      refine PWc.ret ?_
      replace h : _ = r0 := h
      subst h
      exact ⟨.inr rfl, _, .cons (.tmp rfl rfl) <| .nil, rfl⟩
    · replace h := iF hc8 h
      refine PWc.skip ?_
      refine PWc.seq ?_
      refine PWc.region ?_
      refine PWl.step (LR.assign rfl) rfl ?_
      refine PWl.nil ?_
      refine PWc.ret ?_
      replace h : _ = r0 := h
      subst h
      exact ⟨.inr rfl, _, .cons (.tmp rfl rfl) <| .nil, rfl⟩
  · replace h := iF hc7 h
    refine PWc.skip ?_
    refine PWc.seq ?_
    refine PWc.seq ?_
    refine PWc.region ?_
    refine PWl.step (LR.move rfl) rfl ?_
    refine PWl.nil ?_
    refine PWc.cond rfl (fun hc9 => ?_) (fun hc9 => ?_)
    · replace h := iT hc9 h
      refine PWc.seq ?_
      refine PWc.region ?_
      refine PWl.step (LR.assign rfl) rfl ?_
      refine PWl.nil ?_
      refine PWc.ret ?_
      replace h : _ = r0 := h
      subst h
      exact ⟨.inr rfl, _, .cons (.tmp rfl rfl) <| .nil, rfl⟩
    · replace h := iF hc9 h
      refine PWc.skip ?_
      refine PWc.seq ?_
      refine PWc.seq ?_
      refine PWc.region ?_
      refine PWl.step (LR.move rfl) rfl ?_
      refine PWl.step (LR.move rfl) rfl ?_
      refine PWl.step (LR.lss rfl rfl) rfl ?_
      refine PWl.nil ?_
      refine PWc.cond rfl (fun hc10 => ?_) (fun hc10 => ?_)
      · replace h := iT hc10 h
        refine PWc.seq ?_
        refine PWc.region ?_
        refine PWl.step (LR.assign rfl) rfl ?_
        refine PWl.nil ?_
        refine PWc.ret ?_
        replace h : _ = r0 := h
        subst h
        exact ⟨.inr rfl, _, .cons (.tmp rfl rfl) <| .nil, rfl⟩
      · replace h := iF hc10 h
        refine PWc.skip ?_
        refine PWc.seq ?_
        refine PWc.seq ?_
        refine PWc.region ?_
        refine PWl.step (LR.move rfl) rfl ?_
        refine PWl.step (LR.move rfl) rfl ?_
        refine PWl.step (LR.gtr rfl rfl) rfl ?_
        refine PWl.nil ?_
        refine PWc.cond rfl (fun hc11 => ?_) (fun hc11 => ?_)
        · replace h := iT hc11 h
          refine PWc.seq ?_
          refine PWc.region ?_
          refine PWl.step (LR.assign rfl) rfl ?_
          refine PWl.nil ?_
          refine PWc.ret ?_
          replace h : _ = r0 := h
          subst h
          exact ⟨.inr rfl, _, .cons (.tmp rfl rfl) <| .nil, rfl⟩
        · replace h := iF hc11 h
          refine PWc.skip ?_
          refine PWc.seq ?_
          refine PWc.region ?_
          refine PWl.step (LR.assign rfl) rfl ?_
          refine PWl.nil ?_
          refine PWc.ret ?_
          replace h : _ = r0 := h
          subst h
          exact ⟨.inr rfl, _, .cons (.tmp rfl rfl) <| .nil, rfl⟩
end Go.Proofs

namespace Go.Proofs
open Go.Ep
set_option maxHeartbeats 1000000
set_option maxRecDepth 100000
set_option linter.unusedVariables false
set_option linter.unusedSimpArgs false


theorem dot_Cmp_ok (a1 : TDot) (b2 : TDot) (r0 : Int) (h : (dot_Cmp a1 b2).wp (· = r0)) : PFun Try.prog 107 [.agg (List.map .d (TDot.e a1)), .agg (List.map .d (TDot.e b2))] (.d (.v (.int .i64 r0))) := by
  refine PFun.intro (sl := [(0, _), (1, _)]) Try.func107 rfl Try.ntmps107 rfl rfl ?_
  intro ctx hK
  refine PWc.seq ?_
  refine PWc.region ?_
  refine PWl.step (LR.box rfl rfl rfl rfl) rfl ?_
  refine PWl.step (LR.box rfl rfl rfl rfl) rfl ?_
  refine PWl.step (LR.assign rfl) rfl ?_
  refine PWl.nil ?_
  refine PWc.seq ?_
  refine PWc.seq ?_
  refine PWc.region ?_
  refine PWl.step (LR.fieldRef Try.underlying38 rfl Try.sizeOf28 (by decide) rfl rfl) rfl ?_
  refine PWl.step (LR.loadRef Try.isAgg28 rfl rfl rfl) rfl ?_
  refine PWl.step (LR.fieldRef Try.underlying38 rfl Try.sizeOf28 (by decide) rfl rfl) rfl ?_
  refine PWl.step (LR.loadRef Try.isAgg28 rfl rfl rfl) rfl ?_
  replace h := iDet h
  obtain ⟨v3, hy4, h⟩ := h
  refine PWl.step (LR.callN (cmp_Compare_uint16_ok a1.dev b2.dev v3 hy4) rfl Try.call146 rfl rfl rfl rfl) rfl ?_
  refine PWl.step (LR.assign rfl) rfl ?_
  refine PWl.nil ?_
  refine PWc.seq ?_
  refine PWc.region ?_
  refine PWl.step (LR.move rfl) rfl ?_
  refine PWl.step (LR.neq rfl rfl) rfl ?_
  refine PWl.nil ?_
  refine PWc.cond rfl (fun hc5 => ?_) (fun hc5 => ?_)
  · replace h := iT hc5 h
    refine PWc.seq ?_
    refine PWc.region ?_
    refine PWl.step (LR.move rfl) rfl ?_
    refine PWl.step (LR.assign rfl) rfl ?_
    refine PWl.nil ?_
    refine PWc.ret ?_
    replace h : _ = r0 := h
    subst h
    exact ⟨.inr rfl, _, .cons (.tmp rfl rfl) <| .nil, rfl⟩
  · replace h := iF hc5 h
    refine PWc.skip ?_
    refine PWc.seq ?_
    refine PWc.region ?_
    refine PWl.step (LR.fieldRef Try.underlying38 rfl Try.sizeOf36 (by decide) rfl rfl) rfl ?_
    refine PWl.step (LR.loadRef Try.isAgg36 rfl rfl rfl) rfl ?_
    refine PWl.step (LR.fieldRef Try.underlying38 rfl Try.sizeOf36 (by decide) rfl rfl) rfl ?_
    refine PWl.step (LR.loadRef Try.isAgg36 rfl rfl rfl) rfl ?_
    replace h := iDet h
    obtain ⟨v6, hy7, h⟩ := h
    refine PWl.step (LR.callN (cmp_Compare_uint64_ok a1.n b2.n v6 hy7) rfl Try.call143 rfl rfl rfl rfl) rfl ?_
    refine PWl.step (LR.assign rfl) rfl ?_
    refine PWl.nil ?_
    refine PWc.ret ?_
    replace h : _ = r0 := h
    subst h
    exact ⟨.inr rfl, _, .cons (.tmp rfl rfl) <| .nil, rfl⟩

theorem slices_Compact_sl_Dot_Dot_o_ok (row1 : List TDot) (r0 : List TDot) (h : (slices_Compact_sl_Dot_Dot_o row1).wp (· = r0)) : PObj Try.prog 129 [.row 100 (List.length row1)] [(100, .row 38 2 (List.map TDot.e row1))] [] (.row 100 (List.length r0)) (fun _ : Unit => [(100, .row 38 2 (List.map TDot.e r0))]) := by
  refine PObj.intro (sl := [(0, _)]) Try.func129 rfl Try.ntmps129 rfl rfl rfl ?_
  intro ctx hK pv
  refine PWc.seq ?_
  refine PWc.region ?_
  refine PWl.step (LR.assignNilRow 38 2 rfl) rfl ?_
  refine PWl.nil ?_
  refine PWc.seq ?_
  refine PWc.seq ?_
  refine PWc.region ?_
  refine PWl.step (LR.move rfl) rfl ?_
  refine PWl.step (LR.lenRow Try.underlying39 rfl) rfl ?_
  refine PWl.step (LR.lss rfl rfl) rfl ?_
  refine PWl.nil ?_
  refine PWc.cond rfl (fun hc2 => ?_) (fun hc2 => ?_)
  · replace h := iT hc2 h
    refine PWc.seq ?_
    refine PWc.region ?_
    refine PWl.step (LR.move rfl) rfl ?_
    refine PWl.re (tl := [(0, _), (6, _), (7, _), (8, _), (9, _)]) (to := [(100, _)]) rfl (.cons rfl rfl <| .cons rfl rfl <| .cons rfl rfl <| .cons rfl rfl <| .cons rfl rfl <| .nil) (.cons rfl rfl <| .nil) ?_
    refine PWl.step (LR.assign rfl) rfl ?_
    refine PWl.nil ?_
    refine PWc.ret ?_
    replace h : _ = r0 := h
    subst h
    exact EndsO.mk () (.inr rfl) (Sub.of (tl := [(2, _)]) (to := [(100, _)]) rfl (.cons rfl (by first | rfl | (simp; done) | (congr 1; first | (simp; done) | (simp; omega))) <| .nil) (.cons rfl rfl <| .nil)) (.cons (.tmp rfl) <| .nil) rfl rfl
  · replace h := iF hc2 h
    refine PWc.skip ?_
    refine PWc.seq ?_
    refine PWc.seq ?_
    refine PWc.region ?_
    refine PWl.step (LR.assign rfl) rfl ?_
    refine PWl.nil ?_
    refine PWc.jnX (iBind h) (fun (_ : Unit) (_ : Unit) => ⟨61, [(0, .row 100 (List.length row1))], [(100, .row 38 2 (List.map TDot.e row1))]⟩) (fun h => ?_) ?_
    · refine PWc.block ?_
      refine PWc.loopM (fun (k148 : Int) (_ : Unit) => ⟨61, [(0, .row 100 (List.length row1)), (3, .d (.v (.int .i64 k148)))], [(100, .row 38 2 (List.map TDot.e row1))]⟩) () h (Sub.of rfl (.cons rfl rfl <| .cons rfl rfl <| .nil) (.cons rfl rfl <| .nil)) ?_
      rintro N k148 _ h
      refine PWc.seq ?_
      refine PWc.seq ?_
      refine PWc.region ?_
      refine PWl.step (LR.move rfl) rfl ?_
      refine PWl.step (LR.move rfl) rfl ?_
      refine PWl.step (LR.lenRow Try.underlying39 rfl) rfl ?_
      refine PWl.step (LR.lss rfl rfl) rfl ?_
      refine PWl.nil ?_
      refine PWc.cond rfl (fun hc149 => ?_) (fun hc149 => ?_)
      · replace h := iT hc149 h
        refine PWc.skip ?_
        refine PWc.seq ?_
        refine PWc.jnX (iBind h) (fun (_ : Unit) (_ : Unit) => ⟨61, [(0, .row 100 (List.length row1)), (3, .d (.v (.int .i64 k148)))], [(100, .row 38 2 (List.map TDot.e row1))]⟩) (fun h => ?_) ?_
        · refine PWc.block ?_
          refine PWc.seq ?_
          refine PWc.regionD (by kernel_rfl) (by kernel_rfl) ?_
          refine PQl.step (fun _ he ho => LR.move (he rfl rfl)) rfl ?_
          refine PQl.step (fun _ he ho => LR.move (he rfl rfl)) rfl ?_
          replace h := iIdx h
          obtain ⟨x150, hy151, h⟩ := h
          refine PQl.step (fun _ he ho => LR.idxRowT (L := row1) (y := x150) Try.underlying39 Try.sizeOf38 (he rfl rfl) rfl (he rfl rfl) hy151) rfl ?_
          refine PQl.step (fun _ he ho => LR.loadRpT (enc := TDot.e) (L := row1) (y := x150) Try.isAgg38 Try.sizeOf38 (he rfl rfl) (ho rfl) hy151.2) rfl ?_
          refine PQl.step (fun _ he ho => LR.move (he rfl rfl)) rfl ?_
          refine PQl.step (fun _ he ho => LR.move (he rfl rfl)) rfl ?_
          refine PQl.step (fun _ he ho => LR.subW (he rfl rfl) (he rfl rfl)) rfl ?_
          replace h := iIdx h
          obtain ⟨x152, hy153, h⟩ := h
          refine PQl.step (fun _ he ho => LR.idxRowT (L := row1) (y := x152) Try.underlying39 Try.sizeOf38 (he rfl rfl) rfl (he rfl rfl) hy153) rfl ?_
          refine PQl.step (fun _ he ho => LR.loadRpT (enc := TDot.e) (L := row1) (y := x152) Try.isAgg38 Try.sizeOf38 (he rfl rfl) (ho rfl) hy153.2) rfl ?_
          refine PQl.step (fun _ he ho => LR.eqlAgg (he rfl rfl) (he rfl rfl) rfl rfl eq38) rfl ?_
          refine PQl.nil ?_
          refine PWc.cond rfl (fun hc154 => ?_) (fun hc154 => ?_)
          · replace h := iT hc154 h
            refine PWc.seq ?_
            refine PWc.region ?_
            refine PWl.step (LR.move rfl) rfl ?_
            refine PWl.step (LR.move rfl) rfl ?_
            replace h := iNeed h
            obtain ⟨hy155, h⟩ := h
            refine PWl.step (LR.pieceRowT (enc := TDot.e) (L := row1) Try.underlying39 Try.sizeOf38 rfl rfl rfl rfl hy155) rfl ?_
            refine PWl.step (LR.assign rfl) rfl ?_
            refine PWl.nil ?_
            refine PWc.seq ?_
            refine PWc.seq ?_
            refine PWc.region ?_
            refine PWl.step (LR.assign rfl) rfl ?_
            refine PWl.nil ?_
            refine PWc.jn (iBind h) (fun (⟨k156, v157⟩ : Int × List TDot) (_ : Unit) => ⟨61, [(0, .row 100 (List.length v157)), (3, .d (.v (.int .i64 k156)))], [(100, .row 38 2 (List.map TDot.e v157))]⟩) (fun h => ?_) ?_
            · refine PWc.block ?_
              refine PWc.loopM (fun (⟨k197, k2_198, v199⟩ : Int × Int × List TDot) (_ : Unit) => ⟨61, [(0, .row 100 (List.length v199)), (3, .d (.v (.int .i64 k197))), (4, .pc 100 (Int.toNat k148) (List.length row1 - Int.toNat k148) 2), (5, .d (.v (.int .i64 k2_198)))], [(100, .row 38 2 (List.map TDot.e v199))]⟩) () h (Sub.of rfl (.cons rfl rfl <| .cons rfl rfl <| .cons rfl rfl <| .cons rfl rfl <| .nil) (.cons rfl rfl <| .nil)) ?_
              rintro N ⟨k197, k2_198, v199⟩ _ h
              refine PWc.seq ?_
              refine PWc.seq ?_
              refine PWc.region ?_
              refine PWl.step (LR.move rfl) rfl ?_
              refine PWl.step (LR.move rfl) rfl ?_
              refine PWl.step (LR.lenPc Try.underlying39 rfl) rfl ?_
              refine PWl.step (LR.lss rfl rfl) rfl ?_
              refine PWl.nil ?_
              refine PWc.cond rfl (fun hc200 => ?_) (fun hc200 => ?_)
              · replace h := iT hc200 h
                refine PWc.skip ?_
                refine PWc.seq ?_
                refine PWc.jn (iBind h) (fun (⟨k201, v202⟩ : Int × List TDot) (_ : Unit) => ⟨61, [(0, .row 100 (List.length v202)), (3, .d (.v (.int .i64 k201))), (4, .pc 100 (Int.toNat k148) (List.length row1 - Int.toNat k148) 2), (5, .d (.v (.int .i64 k2_198)))], [(100, .row 38 2 (List.map TDot.e v202))]⟩) (fun h => ?_) ?_
                · refine PWc.block ?_
                  refine PWc.seq ?_
                  refine PWc.regionD (by kernel_rfl) (by kernel_rfl) ?_
                  refine PQl.step (fun _ he ho => LR.move (he rfl rfl)) rfl ?_
                  refine PQl.step (fun _ he ho => LR.move (he rfl rfl)) rfl ?_
                  replace h := iNeed h
                  obtain ⟨hy205, h⟩ := h
                  replace h := iIdx h
                  obtain ⟨x203, hy204, h⟩ := h
                  have hy206 : True ∧ v199[((Int.toNat k148) + Int.toNat k2_198)]? = some x203 := ⟨trivial, hy204.2⟩
                  refine PQl.step (fun _ he ho => LR.idxPc Try.underlying39 Try.sizeOf38 (he rfl rfl) (he rfl rfl) hy205) rfl ?_
                  refine PQl.step (fun _ he ho => LR.loadRpT (enc := TDot.e) (L := v199) (y := x203) Try.isAgg38 Try.sizeOf38 (he rfl rfl) (ho rfl) hy206.2) rfl ?_
                  refine PQl.step (fun _ he ho => LR.move (he rfl rfl)) rfl ?_
                  refine PQl.step (fun _ he ho => LR.move (he rfl rfl)) rfl ?_
                  refine PQl.step (fun _ he ho => LR.subW (he rfl rfl) (he rfl rfl)) rfl ?_
                  replace h := iNeed h
                  obtain ⟨hy209, h⟩ := h
                  replace h := iIdx h
                  obtain ⟨x207, hy208, h⟩ := h
                  have hy210 : True ∧ v199[((Int.toNat k148) + Int.toNat (IntKind.i64.wrap (k2_198 - 1)))]? = some x207 := ⟨trivial, hy208.2⟩
                  refine PQl.step (fun _ he ho => LR.idxPc Try.underlying39 Try.sizeOf38 (he rfl rfl) (he rfl rfl) hy209) rfl ?_
                  refine PQl.step (fun _ he ho => LR.loadRpT (enc := TDot.e) (L := v199) (y := x207) Try.isAgg38 Try.sizeOf38 (he rfl rfl) (ho rfl) hy210.2) rfl ?_
                  refine PQl.step (fun _ he ho => LR.neqAgg (he rfl rfl) (he rfl rfl) rfl rfl eq38) rfl ?_
                  refine PQl.nil ?_
                  refine PWc.cond rfl (fun hc211 => ?_) (fun hc211 => ?_)
                  · replace h := iT hc211 h
                    refine PWc.seq ?_
                    refine PWc.region ?_
                    refine PWl.step (LR.move rfl) rfl ?_
                    refine PWl.step (LR.move rfl) rfl ?_
                    refine PWl.step (LR.move rfl) rfl ?_
                    refine PWl.re (tl := [(0, _), (3, _), (4, _), (5, _), (45, _), (46, _), (47, _)]) (to := [(100, _)]) rfl (.cons rfl rfl <| .cons rfl rfl <| .cons rfl rfl <| .cons rfl rfl <| .cons rfl rfl <| .cons rfl rfl <| .cons rfl rfl <| .nil) (.cons rfl rfl <| .nil) ?_
                    refine PWl.step (LR.move rfl) rfl ?_
                    replace h := iNeed h
                    obtain ⟨hy214, h⟩ := h
                    replace h := iIdx h
                    obtain ⟨x212, hy213, h⟩ := h
                    have hy215 : True ∧ v199[((Int.toNat k148) + Int.toNat k2_198)]? = some x212 := ⟨trivial, hy213.2⟩
                    refine PWl.step (LR.idxPc Try.underlying39 Try.sizeOf38 rfl rfl hy214) rfl ?_
                    refine PWl.step (LR.loadRpT (enc := TDot.e) (L := v199) (y := x212) Try.isAgg38 Try.sizeOf38 rfl rfl hy215.2) rfl ?_
                    replace h := iIdx h
                    obtain ⟨x216, hy217, h⟩ := h
                    refine PWl.step (LR.idxRowT (L := v199) (y := x216) Try.underlying39 Try.sizeOf38 rfl rfl rfl hy217) rfl ?_
                    refine PWl.step (LR.storeRpT (enc := TDot.e) (L := v199) (a := x216) (b := x212) Try.sizeOf38 rfl rfl rfl rfl rfl hy217.2 rfl rfl) rfl ?_
                    refine PWl.nil ?_
                    refine PWc.region ?_
                    refine PWl.step (LR.move rfl) rfl ?_
                    refine PWl.step (LR.addW rfl rfl) rfl ?_
                    refine PWl.step (LR.assign rfl) rfl ?_
                    refine PWl.nil ?_
                    exact ⟨((IntKind.i64.wrap (k197 + 1)), (List.set v199 (Int.toNat k197) x212)), (), h, Sub.of rfl (.cons rfl (by first | rfl | (simp; done) | (congr 1; first | (simp; done) | (simp; omega))) <| .cons rfl rfl <| .cons rfl rfl <| .cons rfl rfl <| .nil) (.cons rfl rfl <| .nil)⟩
                  · replace h := iF hc211 h
                    refine PWc.skip ?_
                    exact ⟨(k197, v199), (), h, Sub.of rfl (.cons rfl rfl <| .cons rfl rfl <| .cons rfl rfl <| .cons rfl rfl <| .nil) (.cons rfl rfl <| .nil)⟩
                · rintro ⟨k201, v202⟩ _ h
                  refine PWc.region ?_
                  refine PWl.step (LR.move rfl) rfl ?_
                  refine PWl.step (LR.addW rfl rfl) rfl ?_
                  refine PWl.step (LR.assign rfl) rfl ?_
                  refine PWl.nil ?_
                  exact ⟨(k201, (IntKind.i64.wrap (k2_198 + 1)), v202), (), h, Sub.of rfl (.cons rfl rfl <| .cons rfl rfl <| .cons rfl rfl <| .cons rfl rfl <| .nil) (.cons rfl rfl <| .nil)⟩
              · replace h := iF hc200 h
                refine PWc.exit ?_
                exact ⟨(k197, v199), (), h, Sub.of rfl (.cons rfl rfl <| .cons rfl rfl <| .nil) (.cons rfl rfl <| .nil)⟩
            · rintro ⟨k156, v157⟩ _ h
              refine PWc.seq ?_
              refine PWc.region ?_
              refine PWl.step (LR.move rfl) rfl ?_
              refine PWl.step (LR.move rfl) rfl ?_
              replace h := iNeed h
              obtain ⟨hy218, h⟩ := h
              refine PWl.step (LR.pieceRowT (enc := TDot.e) (L := v157) Try.underlying39 Try.sizeOf38 rfl rfl rfl rfl hy218) rfl ?_
              replace h := iNeed h
              obtain ⟨hy219, h⟩ := h
              refine PWl.step (LR.clearPcT (enc := TDot.e) (L := v157) (z := (⟨0, 0⟩ : TDot)) Try.underlying39 rfl rfl Try.zeroValue38 rfl rfl rfl rfl hy219 rfl) rfl ?_
              refine PWl.nil ?_
              refine PWc.seq ?_
              refine PWc.region ?_
              refine PWl.step (LR.move rfl) rfl ?_
              refine PWl.step (LR.move rfl) rfl ?_
              replace h := iNeed h
              obtain ⟨hy220, h⟩ := h
              refine PWl.step (LR.cutRowT (enc := TDot.e) (L := (List.take (Int.toNat k156) v157 ++ List.replicate (List.length v157 - Int.toNat k156) (⟨0, 0⟩ : TDot) ++ List.drop ((Int.toNat k156) + (List.length v157 - Int.toNat k156)) v157)) [0, 54, 56, 57] Try.underlying39 Try.sizeOf38 rfl (by first | (simp; done) | (simp; omega) | omega) rfl rfl hy220 rfl) rfl ?_
              refine PWl.step (LR.assign rfl) rfl ?_
              refine PWl.nil ?_
              refine PWc.ret ?_
              replace h : _ = r0 := h
              subst h
              exact EndsO.mk () (.inr rfl) (Sub.of (tl := [(2, _)]) (to := [(100, _)]) rfl (.cons rfl (by first | rfl | (simp; done) | (congr 1; first | (simp; done) | (simp; omega))) <| .nil) (.cons rfl rfl <| .nil)) (.cons (.tmp rfl) <| .nil) rfl rfl
          · replace h := iF hc154 h
            refine PWc.skip ?_
            exact ⟨(), (), h, Sub.of rfl (.cons rfl rfl <| .cons rfl rfl <| .nil) (.cons rfl rfl <| .nil)⟩
        · rintro _ _ h
          refine PWc.region ?_
          refine PWl.step (LR.move rfl) rfl ?_
          refine PWl.step (LR.addW rfl rfl) rfl ?_
          refine PWl.step (LR.assign rfl) rfl ?_
          refine PWl.nil ?_
          exact ⟨(IntKind.i64.wrap (k148 + 1)), (), h, Sub.of rfl (.cons rfl rfl <| .cons rfl rfl <| .nil) (.cons rfl rfl <| .nil)⟩
      · replace h := iF hc149 h
        refine PWc.exit ?_
        exact ⟨(), (), h, Sub.of rfl (.cons rfl rfl <| .nil) (.cons rfl rfl <| .nil)⟩
    · rintro _ _ h
      refine PWc.seq ?_
      refine PWc.region ?_
      refine PWl.step (LR.move rfl) rfl ?_
      refine PWl.step (LR.assign rfl) rfl ?_
      refine PWl.nil ?_
      refine PWc.ret ?_
      replace h : _ = r0 := h
      subst h
      exact EndsO.mk () (.inr rfl) (Sub.of (tl := [(2, _)]) (to := [(100, _)]) rfl (.cons rfl (by first | rfl | (simp; done) | (congr 1; first | (simp; done) | (simp; omega))) <| .nil) (.cons rfl rfl <| .nil)) (.cons (.tmp rfl) <| .nil) rfl rfl

theorem dot_Sort_ok (l1 : List TDot) (r0 : List TDot) (h : (dot_Sort l1).wp (· = r0)) : PRow Try.prog 83 [.d (.sl (List.map TDot.e l1))] 38 2 (List.map TDot.e r0) := by
  refine PRow.intro (sl := [(0, _)]) Try.func83 rfl Try.ntmps83 rfl rfl ?_
  intro ctx hK
  refine PWc.seq ?_
  refine PWc.region ?_
  refine PWl.step (LR.assignNilRow 38 2 rfl) rfl ?_
  refine PWl.nil ?_
  refine PWc.seq ?_
  refine PWc.region ?_
  refine PWl.step (LR.move rfl) rfl ?_
  replace h := iDet h
  obtain ⟨v2, hy3, h⟩ := h
  refine PWl.step (LR.rowN (slices_Clone_sl_Dot_Dot_ok l1 v2 hy3) rfl Try.call121 rfl rfl rfl rfl) rfl ?_
  refine PWl.step (LR.assign rfl) rfl ?_
  refine PWl.nil ?_
  refine PWc.seq ?_
  refine PWc.region ?_
  refine PWl.step (LR.move rfl) rfl ?_
  replace h := iNeed h
  obtain ⟨hy5, h⟩ := h
  refine PWl.sortFn (encD := TDot.e) (enc := TDot.v) (l := v2) srt128_107 (fun _ => rfl) TDot.v1 (fun _ => rfl) rfl Try.call128 rfl rfl rfl (by simp) hy5 rfl (fun s4 hy6 hy7 => ?_)
  replace h := iSrt h s4 hy6 hy7
  have hy6l := hy6.length_eq
  refine PWl.nil ?_
  refine PWc.seq ?_
  refine PWc.region ?_
  refine PWl.step (LR.move rfl) rfl ?_
  replace h := iDet h
  obtain ⟨y8, hy9, h⟩ := h
  refine PWl.step (LR.callObj [(100, 5)] [3, 5, 6, 8] [100] (slices_Compact_sl_Dot_Dot_o_ok s4 y8 hy9) hK rfl Try.call129 rfl (by first | rfl | (simp; done) | (simp [PV.nilD, PV.ren, rn]; omega)) (.cons (by first | rfl | (congr 1; first | (simp; done) | (simp; omega))) <| .nil) rfl rfl rfl rfl) rfl ?_
  refine PWl.re (tl := [(0, _), (4, _), (7, _), (9, _)]) (to := [(5, _)]) rfl (.cons rfl rfl <| .cons rfl rfl <| .cons rfl rfl <| .cons rfl rfl <| .nil) (.cons rfl rfl <| .nil) ?_
  refine PWl.step (LR.assign rfl) rfl ?_
  refine PWl.nil ?_
  refine PWc.ret ?_
  replace h : _ = r0 := h
  subst h
  exact ⟨.inr rfl, 2, rfl, .inr ⟨5, _, rfl, (by simp), rfl⟩⟩

end Go.Proofs

namespace Go.Proofs
open Go.Ep
set_option maxHeartbeats 1000000
set_option maxRecDepth 100000
set_option linter.unusedVariables false
set_option linter.unusedSimpArgs false


theorem r07_Good_ok (d1 : TDot) (r0 : Bool) (h : (r07_Good d1).wp (· = r0)) : PFun Try.prog 75 [.agg (List.map .d (TDot.e d1))] (.d (.v (.bool r0))) := by
  refine PFun.intro (sl := [(0, _)]) Try.func75 rfl Try.ntmps75 rfl rfl ?_
  intro ctx hK
  refine PWc.seq ?_
  refine PWc.region ?_
  refine PWl.step (LR.box rfl rfl rfl rfl) rfl ?_
  refine PWl.step (LR.assign rfl) rfl ?_
  refine PWl.nil ?_
  refine PWc.seq ?_
  refine PWc.jn (iBind h) (fun (v2 : Bool) (_ : Unit) => ⟨16, [(2, .d (.v (.bool v2)))], []⟩) (fun h => ?_) ?_
  · refine PWc.region ?_
    refine PWl.step (LR.fieldRef Try.underlying38 rfl Try.sizeOf28 (by decide) rfl rfl) rfl ?_
    refine PWl.step (LR.loadRef Try.isAgg28 rfl rfl rfl) rfl ?_
    refine PWl.step (LR.geq rfl rfl) rfl ?_
    refine PWl.step (LR.move rfl) rfl ?_
    refine PWl.split (d := 6) rfl (fun hg3 => ?_) (fun hg3 => ?_)
    · replace h := iT hg3 h
      refine PWl.guardT (LR.fieldRef Try.underlying38 rfl Try.sizeOf36 (by decide) rfl rfl) rfl rfl rfl ?_
      refine PWl.guardT (LR.loadRef Try.isAgg36 rfl rfl rfl) rfl rfl rfl ?_
      refine PWl.guardT (LR.geq rfl rfl) rfl rfl rfl ?_
      refine PWl.step (LR.pickT rfl rfl) rfl ?_
      refine PWl.step (LR.move rfl) rfl ?_
      refine PWl.split (d := 11) rfl (fun hg4 => ?_) (fun hg4 => ?_)
      · replace h := iT hg4 h
        refine PWl.guardT (LR.fieldRef Try.underlying38 rfl Try.sizeOf36 (by decide) rfl rfl) rfl rfl rfl ?_
        refine PWl.guardT (LR.loadRef Try.isAgg36 rfl rfl rfl) rfl rfl rfl ?_
        refine PWl.guardT (LR.lss rfl rfl) rfl rfl rfl ?_
        refine PWl.step (LR.pickT rfl rfl) rfl ?_
        refine PWl.step (LR.assign rfl) rfl ?_
        refine PWl.nil ?_
        exact ⟨(decide (d1.n < 281474976710656)), (), h, Sub.of rfl (.cons rfl rfl <| .nil) (.nil)⟩
      · replace h := iF hg4 h
        refine PWl.guardF rfl rfl rfl (by decide) ?_
        refine PWl.guardF rfl rfl rfl (by decide) ?_
        refine PWl.guardF rfl rfl rfl (by decide) ?_
        refine PWl.step (LR.pickF rfl rfl) rfl ?_
        refine PWl.step (LR.assign rfl) rfl ?_
        refine PWl.nil ?_
        exact ⟨false, (), h, Sub.of rfl (.cons rfl rfl <| .nil) (.nil)⟩
    · replace h := iF hg3 h
      refine PWl.guardF rfl rfl rfl (by decide) ?_
      refine PWl.guardF rfl rfl rfl (by decide) ?_
      refine PWl.guardF rfl rfl rfl (by decide) ?_
      refine PWl.step (LR.pickF rfl rfl) rfl ?_
      refine PWl.step (LR.move rfl) rfl ?_
      refine PWl.guardF rfl rfl rfl (by decide) ?_
      refine PWl.guardF rfl rfl rfl (by decide) ?_
      refine PWl.guardF rfl rfl rfl (by decide) ?_
      refine PWl.step (LR.pickF rfl rfl) rfl ?_
      refine PWl.step (LR.assign rfl) rfl ?_
      refine PWl.nil ?_
      exact ⟨false, (), h, Sub.of rfl (.cons rfl rfl <| .nil) (.nil)⟩
  · rintro v2 _ h
    refine PWc.ret ?_
    replace h : _ = r0 := h
    subst h
    exact ⟨.inr rfl, _, .cons (.tmp rfl rfl) <| .nil, rfl⟩

theorem r07_Cmp_ok (a1 : TDot) (b2 : TDot) (r0 : Int) (h : (r07_Cmp a1 b2).wp (· = r0)) : PFun Try.prog 110 [.agg (List.map .d (TDot.e a1)), .agg (List.map .d (TDot.e b2))] (.d (.v (.int .i64 r0))) := by
  refine PFun.intro (sl := [(0, _), (1, _)]) Try.func110 rfl Try.ntmps110 rfl rfl ?_
  intro ctx hK
  refine PWc.seq ?_
  refine PWc.region ?_
  refine PWl.step (LR.box rfl rfl rfl rfl) rfl ?_
  refine PWl.step (LR.box rfl rfl rfl rfl) rfl ?_
  refine PWl.step (LR.assign rfl) rfl ?_
  refine PWl.nil ?_
  refine PWc.seq ?_
  refine PWc.seq ?_
  refine PWc.region ?_
  refine PWl.step (LR.loadRefAgg (ps := [_, _]) Try.isAgg38 Try.sizeOf38 rfl rfl rfl rfl) rfl ?_
  refine PWl.step (LR.loadRefAgg (ps := [_, _]) Try.isAgg38 Try.sizeOf38 rfl rfl rfl rfl) rfl ?_
  refine PWl.step (LR.eqlAgg rfl rfl rfl rfl eq38) rfl ?_
  refine PWl.nil ?_
  refine PWc.cond rfl (fun hc3 => ?_) (fun hc3 => ?_)
  · replace h := iT hc3 h
    refine PWc.seq ?_
    refine PWc.region ?_
    refine PWl.step (LR.assign rfl) rfl ?_
    refine PWl.nil ?_
    refine PWc.ret ?_
    replace h : _ = r0 := h
    subst h
    exact ⟨.inr rfl, _, .cons (.tmp rfl rfl) <| .nil, rfl⟩
  · replace h := iF hc3 h
    refine PWc.skip ?_
    refine PWc.seq ?_
    refine PWc.seq ?_
    refine PWc.jn (iBind h) (fun (v4 : Bool) (_ : Unit) => ⟨27, [(26, .d (.v (.bool v4)))], []⟩) (fun h => ?_) ?_
    · refine PWc.region ?_
      refine PWl.step (LR.fieldRef Try.underlying38 rfl Try.sizeOf28 (by decide) rfl rfl) rfl ?_
      refine PWl.step (LR.loadRef Try.isAgg28 rfl rfl rfl) rfl ?_
      refine PWl.step (LR.fieldRef Try.underlying38 rfl Try.sizeOf28 (by decide) rfl rfl) rfl ?_
      refine PWl.step (LR.loadRef Try.isAgg28 rfl rfl rfl) rfl ?_
      refine PWl.step (LR.lss rfl rfl) rfl ?_
      refine PWl.step (LR.move rfl) rfl ?_
      refine PWl.split (d := 13) rfl (fun hg5 => ?_) (fun hg5 => ?_)
      · replace h := iT hg5 h
        refine PWl.guardF rfl rfl rfl (by decide) ?_
        refine PWl.guardF rfl rfl rfl (by decide) ?_
        refine PWl.guardF rfl rfl rfl (by decide) ?_
        refine PWl.guardF rfl rfl rfl (by decide) ?_
        refine PWl.guardF rfl rfl rfl (by decide) ?_
        refine PWl.guardF rfl rfl rfl (by decide) ?_
        refine PWl.re (tl := [(2, _), (3, _), (13, _), (19, _)]) (to := [(2, _), (3, _)]) rfl (.cons rfl rfl <| .cons rfl rfl <| .cons rfl rfl <| .cons rfl rfl <| .nil) (.cons rfl rfl <| .cons rfl rfl <| .nil) ?_
        refine PWl.guardU rfl rfl rfl ?_
        refine PWl.guardU rfl rfl rfl ?_
        refine PWl.guardU rfl rfl rfl ?_
        refine PWl.guardU rfl rfl rfl ?_
        refine PWl.guardU rfl rfl rfl ?_
        refine PWl.guardF rfl rfl rfl (by decide) ?_
        refine PWl.step (LR.pickT rfl rfl) rfl ?_
        refine PWl.nil ?_
        exact ⟨true, (), h, Sub.of rfl (.cons rfl rfl <| .nil) (.nil)⟩
      · replace h := iF hg5 h
        refine PWl.guardT (LR.fieldRef Try.underlying38 rfl Try.sizeOf28 (by decide) rfl rfl) rfl rfl rfl ?_
        refine PWl.guardT (LR.loadRef Try.isAgg28 rfl rfl rfl) rfl rfl rfl ?_
        refine PWl.guardT (LR.fieldRef Try.underlying38 rfl Try.sizeOf28 (by decide) rfl rfl) rfl rfl rfl ?_
        refine PWl.guardT (LR.loadRef Try.isAgg28 rfl rfl rfl) rfl rfl rfl ?_
        refine PWl.guardT (LR.eql rfl rfl) rfl rfl rfl ?_
        refine PWl.guardT (LR.move rfl) rfl rfl rfl ?_
        refine PWl.re (tl := [(2, _), (3, _), (13, _), (19, _)]) (to := [(2, _), (3, _)]) rfl (.cons rfl rfl <| .cons rfl rfl <| .cons rfl rfl <| .cons rfl rfl <| .nil) (.cons rfl rfl <| .cons rfl rfl <| .nil) ?_
        refine PWl.split (d := 19) rfl (fun hg6 => ?_) (fun hg6 => ?_)
        · replace h := iT hg6 h
          refine PWl.guardT (LR.fieldRef Try.underlying38 rfl Try.sizeOf36 (by decide) rfl rfl) rfl rfl rfl ?_
          refine PWl.guardT (LR.loadRef Try.isAgg36 rfl rfl rfl) rfl rfl rfl ?_
          refine PWl.guardT (LR.fieldRef Try.underlying38 rfl Try.sizeOf36 (by decide) rfl rfl) rfl rfl rfl ?_
          refine PWl.guardT (LR.loadRef Try.isAgg36 rfl rfl rfl) rfl rfl rfl ?_
          refine PWl.guardT (LR.lss rfl rfl) rfl rfl rfl ?_
          refine PWl.guardT (LR.pickT rfl rfl) rfl rfl rfl ?_
          refine PWl.step (LR.pickF rfl rfl) rfl ?_
          refine PWl.nil ?_
          exact ⟨(decide (a1.n < b2.n)), (), h, Sub.of rfl (.cons rfl rfl <| .nil) (.nil)⟩
        · replace h := iF hg6 h
          refine PWl.guardF rfl rfl rfl (by decide) ?_
          refine PWl.guardF rfl rfl rfl (by decide) ?_
          refine PWl.guardF rfl rfl rfl (by decide) ?_
          refine PWl.guardF rfl rfl rfl (by decide) ?_
          refine PWl.guardF rfl rfl rfl (by decide) ?_
          refine PWl.guardT (LR.pickF rfl rfl) rfl rfl rfl ?_
          refine PWl.step (LR.pickF rfl rfl) rfl ?_
          refine PWl.nil ?_
          exact ⟨false, (), h, Sub.of rfl (.cons rfl rfl <| .nil) (.nil)⟩
    · rintro v4 _ h
      refine PWc.cond rfl (fun hc7 => ?_) (fun hc7 => ?_)
      · replace h := iT hc7 h
        refine PWc.seq ?_
        refine PWc.region ?_
        refine PWl.step (LR.assign rfl) rfl ?_
        refine PWl.nil ?_
        refine PWc.ret ?_
        replace h : _ = r0 := h
        subst h
        exact ⟨.inr rfl, _, .cons (.tmp rfl rfl) <| .nil, rfl⟩
      · replace h := iF hc7 h
        refine PWc.skip ?_
        refine PWc.seq ?_
        refine PWc.region ?_
        refine PWl.step (LR.assign rfl) rfl ?_
        refine PWl.nil ?_
        refine PWc.ret ?_
        replace h : _ = r0 := h
        subst h
        exact ⟨.inr rfl, _, .cons (.tmp rfl rfl) <| .nil, rfl⟩

end Go.Proofs

namespace Go.Proofs
open Go.Ep
set_option maxHeartbeats 1000000
set_option maxRecDepth 100000
set_option linter.unusedVariables false
set_option linter.unusedSimpArgs false


theorem shift_Len_ok (v1 : Int) (r0 : Int) (h : (shift_Len v1).wp (· = r0)) : PFun Try.prog 161 [.d (.v (.int .u64 v1))] (.d (.v (.int .i64 r0))) := by
  refine PFun.intro (sl := [(0, _)]) Try.func161 rfl Try.ntmps161 rfl rfl ?_
  intro ctx hK
  refine PWc.seq ?_
  refine PWc.region ?_
  refine PWl.step (LR.assign rfl) rfl ?_
  refine PWl.nil ?_
  refine PWc.seq ?_
  refine PWc.region ?_
  refine PWl.step (LR.assign rfl) rfl ?_
  refine PWl.nil ?_
  refine PWc.seq ?_
  refine PWc.jn (iBind h) (fun (n2 : Int) (_ : Unit) => ⟨11, [(3, .d (.v (.int .i64 n2)))], []⟩) (fun h => ?_) ?_
  · refine PWc.block ?_
    refine PWc.loopM (fun (⟨v7, n8⟩ : Int × Int) (_ : Unit) => ⟨11, [(0, .d (.v (.int .u64 v7))), (3, .d (.v (.int .i64 n8)))], []⟩) () h (Sub.of rfl (.cons rfl rfl <| .cons rfl rfl <| .nil) (.nil)) ?_
    rintro N ⟨v7, n8⟩ _ h
    refine PWc.seq ?_
    refine PWc.seq ?_
    refine PWc.region ?_
    refine PWl.step (LR.move rfl) rfl ?_
    refine PWl.step (LR.gtr rfl rfl) rfl ?_
    refine PWl.nil ?_
    refine PWc.cond rfl (fun hc9 => ?_) (fun hc9 => ?_)
    · replace h := iT hc9 h
      refine PWc.skip ?_
      refine PWc.seq ?_
      refine PWc.block ?_
      refine PWc.region ?_
      refine PWl.step (LR.move rfl) rfl ?_
      refine PWl.step (LR.addW rfl rfl) rfl ?_
      refine PWl.step (LR.assign rfl) rfl ?_
      refine PWl.nil ?_
      refine PWc.region ?_
      refine PWl.step (LR.move rfl) rfl ?_
      refine PWl.step (LR.shr rfl rfl (by decide) rfl) rfl ?_
      refine PWl.step (LR.assign rfl) rfl ?_
      refine PWl.nil ?_
      exact ⟨((Int.fdiv v7 (2 ^ 8)), (IntKind.i64.wrap (n8 + 1))), (), h, Sub.of rfl (.cons rfl rfl <| .cons rfl rfl <| .nil) (.nil)⟩
    · replace h := iF hc9 h
      refine PWc.exit ?_
      exact ⟨n8, (), h, Sub.of rfl (.cons rfl rfl <| .nil) (.nil)⟩
  · rintro n2 _ h
    refine PWc.seq ?_
    refine PWc.region ?_
    refine PWl.step (LR.move rfl) rfl ?_
    refine PWl.step (LR.assign rfl) rfl ?_
    refine PWl.nil ?_
    refine PWc.ret ?_
    replace h : _ = r0 := h
    subst h
    exact ⟨.inr rfl, _, .cons (.tmp rfl rfl) <| .nil, rfl⟩

theorem shift_Byte_ok (v1 : Int) (i2 : Int) (r0 : Int) (h : (shift_Byte v1 i2).wp (· = r0)) : PFun Try.prog 162 [.d (.v (.int .u64 v1)), .d (.v (.int .i64 i2))] (.d (.v (.int .u8 r0))) := by
  refine PFun.intro (sl := [(0, _), (1, _)]) Try.func162 rfl Try.ntmps162 rfl rfl ?_
  intro ctx hK
  refine PWc.seq ?_
  refine PWc.region ?_
  refine PWl.step (LR.assign rfl) rfl ?_
  refine PWl.nil ?_
  refine PWc.seq ?_
  refine PWc.seq ?_
  refine PWc.region ?_
  refine PWl.step (LR.move rfl) rfl ?_
  refine PWl.step (LR.convInt Try.underlying184 (by rw [Try.underlying3]; rfl) rfl rfl) rfl ?_
  refine PWl.step (LR.gtr rfl rfl) rfl ?_
  refine PWl.nil ?_
  refine PWc.cond rfl (fun hc3 => ?_) (fun hc3 => ?_)
  · replace h := iT hc3 h
    refine PWc.seq ?_
    refine PWc.region ?_
    refine PWl.step (LR.assign rfl) rfl ?_
    refine PWl.nil ?_
    refine PWc.ret ?_
    replace h : _ = r0 := h
    subst h
    exact ⟨.inr rfl, _, .cons (.tmp rfl rfl) <| .nil, rfl⟩
  · replace h := iF hc3 h
    refine PWc.skip ?_
    refine PWc.seq ?_
    refine PWc.region ?_
    refine PWl.step (LR.move rfl) rfl ?_
    refine PWl.step (LR.move rfl) rfl ?_
    refine PWl.step (LR.convInt Try.underlying184 (by rw [Try.underlying3]; rfl) rfl rfl) rfl ?_
    refine PWl.step (LR.mulW rfl rfl) rfl ?_
    replace h := iNeed h
    obtain ⟨hy4, h⟩ := h
    refine PWl.step (LR.shr rfl rfl hy4 rfl) rfl ?_
    refine PWl.step (LR.convInt Try.underlying5 (by rw [Try.underlying36]; rfl) rfl rfl) rfl ?_
    refine PWl.step (LR.assign rfl) rfl ?_
    refine PWl.nil ?_
    refine PWc.ret ?_
    replace h : _ = r0 := h
    subst h
    exact ⟨.inr rfl, _, .cons (.tmp rfl rfl) <| .nil, rfl⟩

theorem num_Append_ok (b1 : List Int) (v2 : Int) (r0 : List Int) (h : (num_Append b1 v2).wp (· = r0)) : PRow Try.prog 127 [.d (.sl (List.map (eK .u8) b1)), .d (.v (.int .u64 v2))] 5 1 (List.map (eK .u8) r0) := by
  refine PRow.intro (sl := [(0, _), (1, _)]) Try.func127 rfl Try.ntmps127 rfl rfl ?_
  intro ctx hK
  refine PWc.seq ?_
  refine PWc.region ?_
  refine PWl.step (LR.assignNilRow 5 1 rfl) rfl ?_
  refine PWl.nil ?_
  refine PWc.seq ?_
  refine PWc.region ?_
  refine PWl.step (LR.move rfl) rfl ?_
  replace h := iDet h
  obtain ⟨v3, hy4, h⟩ := h
  refine PWl.step (LR.callN (shift_Len_ok v2 v3 hy4) rfl Try.call161 rfl rfl rfl rfl) rfl ?_
  refine PWl.step (LR.assign rfl) rfl ?_
  refine PWl.nil ?_
  refine PWc.seq ?_
  refine PWc.region ?_
  refine PWl.step (LR.move rfl) rfl ?_
  refine PWl.step (LR.lenMap (enc := (eK .u8)) (L := b1) Try.underlying45 rfl) rfl ?_
  refine PWl.step (LR.move rfl) rfl ?_
  refine PWl.step (LR.addW rfl rfl) rfl ?_
  refine PWl.step (LR.addW rfl rfl) rfl ?_
  replace h := iNeed h
  obtain ⟨hy5, h⟩ := h
  refine PWl.step (LR.make0 (n := Int.toNat ((IntKind.i64.wrap (((IntKind.i64.wrap ((List.length b1 : Int) + v3))) + 1)))) elem45 rfl rfl (by omega) (by omega) (by omega) rfl) rfl ?_
  refine PWl.step (LR.assign rfl) rfl ?_
  refine PWl.nil ?_
  refine PWc.seq ?_
  refine PWc.region ?_
  refine PWl.step (LR.move rfl) rfl ?_
  refine PWl.step (LR.move rfl) rfl ?_
  replace h := iNeed h
  obtain ⟨hy6, h⟩ := h
  refine PWl.step (LR.appT (enc := (eK .u8)) (L := ([] : List Int)) (R := b1) [6, 15, 16] elem45 Try.underlying45 rfl (by first | (simp; done) | (simp; omega) | omega) rfl (Src.slT (enc := (eK .u8)) (R := b1) rfl (fun _ => rfl)) (fun _ => rfl) hy6 rfl rfl) rfl ?_
  refine PWl.step (LR.move rfl) rfl ?_
  refine PWl.step (LR.convInt Try.underlying5 (by rw [Try.underlying3]; rfl) rfl rfl) rfl ?_
  refine PWl.step (LR.buildSliceD [.tmp 20] elem45 rfl rfl (.cons rfl rfl rfl <| .nil) (by decide) (by decide)) rfl ?_
  replace h := iNeed h
  obtain ⟨hy7, h⟩ := h
  refine PWl.step (LR.appT (enc := (eK .u8)) (L := (([] : List Int) ++ b1)) (R := [(IntKind.u8.wrap v3)]) [18] elem45 Try.underlying45 rfl rfl rfl (Src.slT (enc := (eK .u8)) (R := [(IntKind.u8.wrap v3)]) rfl (fun _ => rfl)) (fun _ => rfl) hy7 rfl rfl) rfl ?_
  refine PWl.step (LR.assign rfl) rfl ?_
  refine PWl.nil ?_
  refine PWc.seq ?_
  refine PWc.seq ?_
  refine PWc.region ?_
  refine PWl.re (tl := [(1, _), (5, _), (6, _)]) (to := [(15, _)]) rfl (.cons rfl rfl <| .cons rfl rfl <| .cons rfl rfl <| .nil) (.cons rfl rfl <| .nil) ?_
  refine PWl.step (LR.move rfl) rfl ?_
  refine PWl.step (LR.subW rfl rfl) rfl ?_
  refine PWl.step (LR.assign rfl) rfl ?_
  refine PWl.nil ?_
  refine PWc.jn (iBind h) (fun (v8 : List Int) (_ : Unit) => ⟨36, [(6, .row 15 (List.length v8))], [(15, .row 5 1 (List.map (eK .u8) v8))]⟩) (fun h => ?_) ?_
  · refine PWc.block ?_
    refine PWc.loopM (fun (⟨i19, v20⟩ : Int × List Int) (_ : Unit) => ⟨36, [(1, .d (.v (.int .u64 v2))), (6, .row 15 (List.length v20)), (7, .d (.v (.int .i64 i19)))], [(15, .row 5 1 (List.map (eK .u8) v20))]⟩) () h (Sub.of rfl (.cons rfl rfl <| .cons rfl (by first | rfl | (simp; done) | (congr 1; first | (simp; done) | (simp; omega))) <| .cons rfl rfl <| .nil) (.cons rfl rfl <| .nil)) ?_
    rintro N ⟨i19, v20⟩ _ h
    refine PWc.seq ?_
    refine PWc.seq ?_
    refine PWc.region ?_
    refine PWl.step (LR.move rfl) rfl ?_
    refine PWl.step (LR.geq rfl rfl) rfl ?_
    refine PWl.nil ?_
    refine PWc.cond rfl (fun hc21 => ?_) (fun hc21 => ?_)
    · replace h := iT hc21 h
      refine PWc.skip ?_
      refine PWc.seq ?_
      refine PWc.block ?_
      refine PWc.region ?_
      refine PWl.step (LR.move rfl) rfl ?_
      refine PWl.step (LR.move rfl) rfl ?_
      refine PWl.step (LR.move rfl) rfl ?_
      replace h := iDet h
      obtain ⟨v22, hy23, h⟩ := h
      refine PWl.step (LR.callN (shift_Byte_ok v2 i19 v22 hy23) rfl Try.call162 rfl rfl rfl rfl) rfl ?_
      refine PWl.step (LR.buildSliceD [.tmp 32] elem45 rfl rfl (.cons rfl rfl rfl <| .nil) (by decide) (by decide)) rfl ?_
      replace h := iNeed h
      obtain ⟨hy24, h⟩ := h
      refine PWl.step (LR.appT (enc := (eK .u8)) (L := v20) (R := [v22]) [6, 29] elem45 Try.underlying45 rfl rfl rfl (Src.slT (enc := (eK .u8)) (R := [v22]) rfl (fun _ => rfl)) (fun _ => rfl) hy24 rfl rfl) rfl ?_
      refine PWl.step (LR.assign rfl) rfl ?_
      refine PWl.nil ?_
      refine PWc.region ?_
      refine PWl.step (LR.move rfl) rfl ?_
      refine PWl.step (LR.subW rfl rfl) rfl ?_
      refine PWl.step (LR.assign rfl) rfl ?_
      refine PWl.nil ?_
      exact ⟨((IntKind.i64.wrap (i19 - 1)), (v20 ++ [v22])), (), h, Sub.of rfl (.cons rfl rfl <| .cons rfl rfl <| .cons rfl rfl <| .nil) (.cons rfl rfl <| .nil)⟩
    · replace h := iF hc21 h
      refine PWc.exit ?_
      exact ⟨v20, (), h, Sub.of rfl (.cons rfl rfl <| .nil) (.cons rfl rfl <| .nil)⟩
  · rintro v8 _ h
    refine PWc.seq ?_
    refine PWc.region ?_
    refine PWl.step (LR.move rfl) rfl ?_
    refine PWl.step (LR.assign rfl) rfl ?_
    refine PWl.nil ?_
    refine PWc.ret ?_
    replace h : _ = r0 := h
    subst h
    exact ⟨.inr rfl, 4, rfl, .inr ⟨15, _, rfl, (by simp), rfl⟩⟩
end Go.Proofs

namespace Go.Proofs
open Go.Ep
set_option maxHeartbeats 1000000
set_option maxRecDepth 100000
set_option linter.unusedVariables false
set_option linter.unusedSimpArgs false


theorem pack_Writer_put_o_ok (b1 : List Int) (row2 : List Int) (r0 : List Int) (h : (pack_Writer_put_o b1 row2).wp (· = r0)) : PObj Try.prog 126 [.ref 100 0, .d (.sl (List.map (eK .u8) b1))] [(100, .cells 47 [.row 101 (List.length row2)]), (101, .row 5 1 (List.map (eK .u8) row2))] [100] (.tup []) (fun _ : Unit => [(100, .cells 47 [.row 101 (List.length r0)]), (101, .row 5 1 (List.map (eK .u8) r0))]) := by
  refine PObj.intro (sl := [(0, _), (1, _)]) Try.func126 rfl Try.ntmps126 rfl rfl rfl ?_
  intro ctx hK pv
  refine PWc.seq ?_
  refine PWc.region ?_
  refine PWl.step (LR.move rfl) rfl ?_
  refine PWl.step (LR.neqPtr Try.underlying49 rfl) rfl ?_
  refine PWl.nil ?_
  refine PWc.condT rfl ?_
  refine PWc.region ?_
  refine PWl.step (LR.move rfl) rfl ?_
  refine PWl.step (LR.move rfl) rfl ?_
  refine PWl.step (LR.nilCheckRef rfl) rfl ?_
  refine PWl.step (LR.fieldRef Try.underlying47 rfl Try.sizeOf45 (by decide) rfl rfl) rfl ?_
  refine PWl.step (LR.loadRef Try.isAgg45 rfl rfl rfl) rfl ?_
  refine PWl.step (LR.move rfl) rfl ?_
  replace h := iNeed h
  obtain ⟨hy3, h⟩ := h
  refine PWl.sub (Sub.junkCell (id := 100) (j := 0) rfl) ?_
  refine PWl.step (LR.appT (enc := (eK .u8)) (L := row2) (R := b1) [10] elem45 Try.underlying45 rfl rfl rfl (Src.slT (enc := (eK .u8)) (R := b1) rfl (fun _ => rfl)) (fun _ => rfl) hy3 rfl rfl) rfl ?_
  refine PWl.step (LR.nilCheckRef rfl) rfl ?_
  refine PWl.step (LR.fieldRef Try.underlying47 rfl Try.sizeOf45 (by decide) rfl rfl) rfl ?_
  refine PWl.step (LR.storeB (ns := [_]) Try.sizeOf45 rfl rfl rfl rfl rfl rfl rfl) rfl ?_
  refine PWl.nil ?_
  replace h : _ = r0 := h
  subst h
  exact EndsO.mk () (.inl rfl) (Sub.of (tl := []) (to := [(100, _), (101, _), (1100, _)]) rfl (.nil) (.cons rfl (by first | rfl | (congr 1; congr 2; first | (simp; done) | (simp; omega))) <| .cons rfl rfl <| .cons rfl rfl <| .nil)) (.nil) rfl rfl

theorem pack_Writer_Num_o_ok (v1 : Int) (row2 : List Int) (r0 : List Int) (h : (pack_Writer_Num_o v1 row2).wp (· = r0)) : PObj Try.prog 81 [.ref 100 0, .d (.v (.int .u64 v1))] [(100, .cells 47 [.row 101 (List.length row2)]), (101, .row 5 1 (List.map (eK .u8) row2))] [100] (.tup []) (fun _ : Unit => [(100, .cells 47 [.row 101 (List.length r0)]), (101, .row 5 1 (List.map (eK .u8) r0))]) := by
  refine PObj.intro (sl := [(0, _), (1, _)]) Try.func81 rfl Try.ntmps81 rfl rfl rfl ?_
  intro ctx hK pv
  refine PWc.region ?_
  refine PWl.step (LR.move rfl) rfl ?_
  refine PWl.step (LR.move rfl) rfl ?_
  replace h := iDet h
  obtain ⟨v3, hy4, h⟩ := h
  refine PWl.step (LR.rowN (num_Append_ok ([] : List Int) v1 v3 hy4) rfl Try.call127 rfl rfl rfl rfl) rfl ?_
  replace h := iDet h
  obtain ⟨y5, hy6, h⟩ := h
  refine PWl.frz [6] hK (.cons rfl <| .nil) rfl (by simp) ?_
  refine PWl.step (LR.callObj [(100, 100), (101, 101)] [] [100, 101] (pack_Writer_put_o_ok v3 row2 y5 hy6) hK rfl Try.call126 rfl (by first | rfl | (simp; done) | (simp [PV.nilD, PV.ren, rn]; omega)) (.cons (by first | rfl | (congr 1; first | (simp; done) | (simp; omega))) <| .cons (by first | rfl | (congr 1; first | (simp; done) | (simp; omega))) <| .nil) rfl rfl rfl rfl) rfl ?_
  refine PWl.nil ?_
  replace h : _ = r0 := h
  subst h
  exact EndsO.mk () (.inl rfl) (Sub.of (tl := []) (to := [(100, _), (101, _), (1100, _)]) rfl (.nil) (.cons rfl (by first | rfl | (congr 1; congr 2; first | (simp; done) | (simp; omega))) <| .cons rfl rfl <| .cons rfl rfl <| .nil)) (.nil) rfl rfl

end Go.Proofs


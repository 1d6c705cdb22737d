/- Walks over pure states: tuples, nil checks, structs, calls; a function's contract from its walk. No program in sight. -/
import Derived.Test.YtacnidaafcfgiaaGreatEp6
namespace Go.Ep
open Go.RowKit

section
variable {P : Program} {ctx : Ctx} {Q : PQ} {s : PState}
variable {dst : Option Tmp} {ty : TypeId} {pos : String} {after : Array Edge} {gd : Option (Nat × Bool)}

theorem LR.extract {x : Operand} {n : Nat} {ps : List PV} {p : PV} (hx : s.ev x = some (.tup ps)) (hp : ps[n]? = some p) : Local P ctx ⟨dst, .extract x n, ty, pos, after, gd⟩ s (s.putD dst p) :=
  local_pure (o := ⟨dst, .extract x n, ty, pos, after, gd⟩) fun a w g hg => by
    have h := hg.ev hx
    generalize hv : a.eval x = v at h
    cases h with
    | tup _ us hl hr =>
      have hlt : n < us.length := by rw [← hl]; exact (List.getElem?_eq_some_iff.1 hp).1
      refine ⟨us[n], ?_, hr n p _ hp (List.getElem?_eq_getElem hlt)⟩
      simp [execOp, hv, Instr.extract, hlt]

theorem LR.nilCheckRef {x : Operand} {id o : Nat} (hx : s.ev x = some (.ref id o)) : Local P ctx ⟨dst, .nilCheck x, ty, pos, after, gd⟩ s (s.putD dst (.ref id o)) :=
  local_pure (o := ⟨dst, .nilCheck x, ty, pos, after, gd⟩) fun a w g hg => by
    have h := hg.ev hx
    generalize hv : a.eval x = v at h
    cases h with
    | ref _ _ blk n hgi => exact ⟨_, by simp [execOp, hv], .ref id o blk n hgi⟩

/-! ### Structs -/
def BuildOK (P : Program) (t : TypeId) (places : List (Nat × Nat)) (zs : List Value) : Prop := ∀ parts, P.built t parts = Instr.fill (fun i => places.toArray[i]?) zs.toArray parts

def pfill (places : List (Nat × Nat)) : List PV → List (Nat × PV) → Option (List PV)
  | cs, [] => some cs
  | cs, (i, p) :: r =>
    match places[i]?, p.parts with
    | some (off, size), some ps => if ps.length = size ∧ off + size ≤ cs.length then pfill places (cs.take off ++ ps ++ cs.drop (off + size)) r else none
    | _, _ => none

theorem fill_rd {places : List (Nat × Nat)} {w : World} {g : Ghost} {S : Nat → Prop} : ∀ (ps : List (Nat × PV)) (rs : List (Nat × Value)) (cs : List PV) (us : List Value) (ns : List PV), ps.length = rs.length →
    (∀ (j : Nat) (p : Nat × PV) (r : Nat × Value), ps[j]? = some p → rs[j]? = some r → p.1 = r.1 ∧ Rd w g S p.2 r.2) → cs.length = us.length →
    (∀ (i : Nat) (p : PV) (u : Value), cs[i]? = some p → us[i]? = some u → Rd w g S p u) → (∀ u ∈ us, u.oneCell' = true) → pfill places cs ps = some ns →
    ∃ vs : List Value, Instr.fill (fun i => places.toArray[i]?) us.toArray rs = some vs.toArray ∧ ns.length = vs.length ∧ (∀ (i : Nat) (p : PV) (u : Value), ns[i]? = some p → vs[i]? = some u → Rd w g S p u) ∧ ∀ u ∈ vs, u.oneCell' = true
  | [], rs, cs, us, ns, hl, _, hcu, hr, h1, hf => by
    have : rs = [] := List.eq_nil_of_length_eq_zero hl.symm
    subst this
    simp [pfill] at hf
    subst hf
    exact ⟨us, by simp [Instr.fill], hcu, hr, h1⟩
  | (i, p) :: ps, rs, cs, us, ns, hl, hpr, hcu, hr, h1, hf => by
    cases rs with
    | nil => simp at hl
    | cons r rs =>
      obtain ⟨ri, rv⟩ := r
      obtain ⟨e1, hp⟩ := hpr 0 (i, p) (ri, rv) rfl rfl
      simp only at e1 hp
      subst e1
      unfold pfill at hf
      cases hpl : places[i]? with
      | none => simp [hpl] at hf
      | some os =>
        obtain ⟨off, size⟩ := os
        cases hpp : p.parts with
        | none => simp [hpl, hpp] at hf
        | some qs =>
          simp only [hpl, hpp] at hf
          split at hf
          · rename_i hc
            obtain ⟨hqs, hfit⟩ := hc
            obtain ⟨vs, hv1, hv2, hv3, hv4⟩ := hp.parts hpp
            have hvl : vs.length = size := by omega
            have hset := foldl_set vs off 0 us.toArray (by simp; omega)
            have e2 : (rv.cells.zipIdx.foldl (fun cs (c, j) => cs.setIfInBounds (off + j) c) us.toArray) = (us.take off ++ vs ++ us.drop (off + size)).toArray := by
              apply Array.ext'
              rw [hv1]
              have e1 : (vs.toArray.zipIdx).foldl (fun cs (c, j) => cs.setIfInBounds (off + j) c) us.toArray = (vs.zipIdx 0).foldl (fun cs (c, j) => cs.setIfInBounds (off + j) c) us.toArray := by
                rw [← Array.foldl_toList]; simp
              rw [e1, hset]
              simp [hvl]
            obtain ⟨xs, hx1, hx2, hx3, hx4⟩ := fill_rd ps rs (cs.take off ++ qs ++ cs.drop (off + size)) (us.take off ++ vs ++ us.drop (off + size)) ns (by simpa using hl) (fun j p' r' h1 h2 => hpr (j + 1) p' r' (by simpa using h1) (by simpa using h2))
              (by simp; omega) (by
                intro t q u hq hu
                rw [List.append_assoc, List.getElem?_append] at hq hu
                have l1 : (cs.take off).length = off := by simp; omega
                have l2 : (us.take off).length = off := by simp; omega
                rw [l1] at hq; rw [l2] at hu
                by_cases h3 : t < off
                · rw [if_pos h3] at hq hu
                  simp only [List.getElem?_take, h3, if_true] at hq hu
                  exact hr t q u hq hu
                · rw [if_neg h3, List.getElem?_append] at hq hu
                  by_cases h4 : t - off < size
                  · rw [if_pos (by omega)] at hq hu
                    exact hv3 _ q u hq hu
                  · rw [if_neg (by omega), List.getElem?_drop] at hq hu
                    rw [hqs] at hq
                    rw [hvl] at hu
                    exact hr _ q u hq hu) (by
                intro u hu
                simp only [List.append_assoc, List.mem_append] at hu
                rcases hu with hu | hu | hu
                · exact h1 u (List.mem_of_mem_take hu)
                · exact hv4 u hu
                · exact h1 u (List.mem_of_mem_drop hu)) hf
            refine ⟨xs, ?_, hx2, hx3, hx4⟩
            unfold Instr.fill
            have hsz : rv.cells.size = size := by rw [hv1]; simpa using hvl
            have hpl' : places.toArray[i]? = some (off, size) := by simpa using hpl
            simp only [hpl', hsz, ne_eq, not_true_eq_false]
            rw [if_neg (by simp; omega), e2]
            exact hx1
          · cases hf

def PState.evp (s : PState) : List (Nat × Operand) → Option (List (Nat × PV))
  | [] => some []
  | (i, x) :: r => match s.ev x, s.evp r with | some p, some l => some ((i, p) :: l) | _, _ => none
theorem evp_len : ∀ {xs : List (Nat × Operand)} {ps : List (Nat × PV)}, s.evp xs = some ps → ps.length = xs.length
  | [], ps, h => by simp [PState.evp] at h; subst h; rfl
  | (i, x) :: r, ps, h => by
    unfold PState.evp at h
    cases h1 : s.ev x <;> cases h2 : s.evp r <;> simp [h1, h2] at h
    subst h
    simp [evp_len h2]
theorem evp_get : ∀ {xs : List (Nat × Operand)} {ps : List (Nat × PV)}, s.evp xs = some ps → ∀ {j : Nat} {p : Nat × PV} {x : Nat × Operand}, ps[j]? = some p → xs[j]? = some x → p.1 = x.1 ∧ s.ev x.2 = some p.2
  | [], ps, h, j, p, x, _, hx => by simp at hx
  | (i, y) :: r, ps, h, j, p, x, hp, hx => by
    unfold PState.evp at h
    cases h1 : s.ev y <;> cases h2 : s.evp r <;> simp [h1, h2] at h
    subst h
    cases j with
    | zero => simp at hp hx; subst hp; subst hx; exact ⟨rfl, h1⟩
    | succ j => simp at hp hx; exact evp_get h2 hp hx

theorem LR.build {t : TypeId} {places : List (Nat × Nat)} {zs : List Value} {parts : Array (Nat × Operand)} {ps : List (Nat × PV)} {ns : List PV} (hB : BuildOK P t places zs) (hz1 : (zs.all Value.oneCell') = true) (hps : s.evp parts.toList = some ps) (hns : pfill places (zs.map zpv) ps = some ns) :
    Local P ctx ⟨dst, .build t parts, ty, pos, after, gd⟩ s (s.putD dst (.agg ns)) :=
  local_pure (o := ⟨dst, .build t parts, ty, pos, after, gd⟩) fun a w g hg => by
    have hz1' : ∀ u ∈ zs, u.oneCell' = true := by simpa using hz1
    obtain ⟨vs, h1, h2, h3, h4⟩ := fill_rd (w := w) (g := g) (S := Free ctx g s.objs) ps (parts.toList.map fun x => (x.1, a.eval x.2)) (zs.map zpv) zs ns (by simpa using evp_len hps) (by
      intro j p r hp hr
      rw [List.getElem?_map] at hr
      cases hx : parts.toList[j]? with
      | none => simp [hx] at hr
      | some x =>
        simp [hx] at hr
        subst hr
        obtain ⟨e1, e2⟩ := evp_get hps hp hx
        exact ⟨e1, hg.ev e2⟩) (by simp) (by
      intro i p u hp hu
      simp [hu] at hp
      subst hp
      exact zpv_rd w g _ u (hz1' u (List.mem_of_getElem? hu))) hz1' hns
    refine ⟨.agg vs.toArray, ?_, .agg ns vs h2 h3 h4⟩
    have hb : P.built t (parts.map fun (i, x) => (i, a.eval x)).toList = some vs.toArray := by
      rw [hB]; simpa using h1
    have hrun := run_build w t (parts.map fun (i, x) => (i, a.eval x)) vs.toArray hb
    simp only [execOp, Sem.run_bind, hrun, Result.andThen_ok, Sem.run_pure]

/-! ### Calls -/
theorem local_enter {o : Oper} {t : PState} (h : ∀ a w g, RelG ctx g s a w → ∃ f args, (execOp a.eval o).run P w = .ok (.enter f args) w ∧ Calls P f args w (fun e w' => ∃ v, e = .returned v ∧ Rel ctx t (a.put o.dst v) w')) : Local P ctx o s t := by
  rintro a w ⟨g, hg⟩ K Qx hK
  obtain ⟨f, args, hrun, hc⟩ := h a w g hg
  unfold Oper.wp
  rw [hrun]
  exact hc.mono fun e w' ⟨v, he, hr⟩ => by subst he; exact hK _ _ hr

theorem exec_call {o : Oper} {x : Operand} {f : FuncId} {args : Array Operand} {ats : Array TypeId} {a : Act} (ho : o.op = .call ⟨.value x, args, ats⟩) (hx : a.eval x = .func (.func f) #[] #[]) (he : ∀ args w, (callFunc f args).run P w = .ok (.enter f args) w) (w : World) :
    (execOp a.eval o).run P w = .ok (.enter f (args.map a.eval)) w := by
  simp [execOp, ho, resolve, Deferred.ofValue, invoke, hx, he]

theorem free_new {g : Ghost} {a : Act} {w : World} (hg : RelG ctx g s a w) {b : Nat} (h : Free ctx g s.objs b ∨ w.heap.size ≤ b) : Free ctx g s.objs b := by
  rcases h with h | h
  · exact h
  · exact ⟨.inr (Nat.le_trans hg.grows h), fun id o n hl hgi => by have := (hg.own id o b n hl hgi).1; omega⟩

theorem evs_real {xs : List Operand} {ps : List PV} (hps : s.evs xs = some ps) (hd : PV.isData.isDataL ps = true) {a : Act} {w : World} {g : Ghost} (hg : RelG ctx g s a w) :
    ps.length = (xs.map a.eval).length ∧ ∀ (i : Nat) (p : PV) (v : Value), ps[i]? = some p → (xs.map a.eval)[i]? = some v → Rd w g0 (Free ctx g s.objs) p v := by
  refine ⟨by simpa using evs_len hps, fun i p v hp hv => ?_⟩
  rw [List.getElem?_map] at hv
  cases hx : xs[i]? with
  | none => simp [hx] at hv
  | some x =>
    simp [hx] at hv
    subst hv
    exact (hg.ev (evs_get hps hp hx)).data (isDataL_mem hd hp) g0

/-- A call of a function that only computes. -/
theorem LR.call {x : Operand} {xs : List Operand} {ats : Array TypeId} {f : FuncId} {ps : List PV} {r : PV} (hc : PFun P f ps r) (hx : s.ev x = some (.d (.v (.func (.func f) #[] #[])))) (he : ∀ args w, (callFunc f args).run P w = .ok (.enter f args) w)
    (hps : s.evs xs = some ps) (hd : PV.isData.isDataL ps = true) (hr : r.isData = true) :
    Local P ctx ⟨dst, .call ⟨.value x, xs.toArray, ats⟩, ty, pos, after, gd⟩ s (s.putD dst r) :=
  local_enter (o := ⟨dst, .call ⟨.value x, xs.toArray, ats⟩, ty, pos, after, gd⟩) fun a w g hg => by
    obtain ⟨hlen, hreal⟩ := evs_real hps hd hg
    refine ⟨f, _, exec_call (o := ⟨dst, .call ⟨.value x, xs.toArray, ats⟩, ty, pos, after, gd⟩) rfl (ev_v hg hx) he w, ?_⟩
    rw [List.map_toArray]
    refine (hc w (Free ctx g s.objs) _ hlen hreal).mono fun e w' ⟨u, he, hb, hru⟩ => ⟨u, he, g, ?_⟩
    exact (hg.below hb).put dst ((hru.data hr g).keep ⟨Nat.le_refl _, fun _ _ _ => rfl⟩ (fun b hb' _ => free_new hg hb') (fun _ _ => rfl))

/-- A call of a function that hands back a new slice, taken as a row of one's own. -/
theorem LR.callRow {id : Nat} {x : Operand} {xs : List Operand} {ats : Array TypeId} {f : FuncId} {ps : List PV} {e : TypeId} {k : Nat} {l : List (List DV)} (hc : PRow P f ps e k l) (hx : s.ev x = some (.d (.v (.func (.func f) #[] #[])))) (he : ∀ args w, (callFunc f args).run P w = .ok (.enter f args) w)
    (hps : s.evs xs = some ps) (hd : PV.isData.isDataL ps = true) (hf : s.fresh id = true) :
    Local P ctx ⟨some id, .call ⟨.value x, xs.toArray, ats⟩, ty, pos, after, gd⟩ s (s.newO id (.row e k l) (.row id l.length)) :=
  local_enter (o := ⟨some id, .call ⟨.value x, xs.toArray, ats⟩, ty, pos, after, gd⟩) fun a w g hg => by
    obtain ⟨hlen, hreal⟩ := evs_real hps hd hg
    refine ⟨f, _, exec_call (o := ⟨some id, .call ⟨.value x, xs.toArray, ats⟩, ty, pos, after, gd⟩) rfl (ev_v hg hx) he w, ?_⟩
    rw [List.map_toArray]
    refine (hc w (Free ctx g s.objs) _ hlen hreal).mono fun en w' ⟨u, he, hb, hru⟩ => ⟨u, he, ?_⟩
    cases hru with
    | nil =>
      exact ⟨upd g id none, (hg.new hb hf none (fun b n e => by cases e) (.row e k []) (.rowNil e k (upd_same _ _ _))).put (some id) (.rowNil id (upd_same _ _ _))⟩
    | row _ blk cap cur hbase hh hlc hcap hcs hk hr =>
      have hlt : blk < w'.heap.size := (Array.getElem?_eq_some_iff.1 hh).1
      refine ⟨upd g id (some (blk, cap)), (hg.new hb hf (some (blk, cap)) (fun b n e => by cases e; exact ⟨hbase, hlt⟩) (.row e k l) ?_).put (some id) (.row id _ blk cap (upd_same _ _ _))⟩
      refine .row e k l blk cap cur (upd_same _ _ _) hh hlc hcap hcs hk fun i cs j x hi hx => ?_
      obtain ⟨u, hu, hd⟩ := hr i cs j x hi hx
      refine ⟨u, hu, hd.keep ⟨Nat.le_refl _, fun _ _ _ => rfl⟩ fun b ⟨h1, h2⟩ hblt => ?_⟩
      have hfr := free_new hg h1
      refine ⟨hfr.1, fun j o m hj hgj => ?_⟩
      rw [look_putO] at hj
      by_cases ej : j = id
      · subst ej; rw [upd_same] at hgj; cases hgj; exact h2 rfl
      · rw [if_neg ej] at hj; rw [upd_ne ej] at hgj; exact hfr.2 j o m hj hgj

/-! ### A function's contract -/
/-- A result: data, or a row of one's own, which is data from then on; or what a variable holds. -/
inductive Res (P : Program) (s : PState) : ResultVar → PV → Prop
  | tmp {t : Tmp} {p : PV} (h : s.at t = some p) (hd : p.isData = true) : Res P s (.tmp t) p
  | row {t : Tmp} {id n k : Nat} {e : TypeId} {l : List (List DV)} (h : s.at t = some (.row id n)) (hl : look s.objs id = some (.row e k l)) (hn : l.length = n) : Res P s (.tmp t) (.d (.sl l))
  | map {t : Tmp} {id : Nat} {ks : List IntKind} {ag : Bool} {m : List (List Int × List DV)} {bs : List Nat} {ck : Nat} (h : s.at t = some (.mp id)) (hl : look s.objs id = some (.map ks ag m bs ck)) : Res P s (.tmp t) (.md ks ag m)
  | agg {t T k id : Nat} {T0 : TypeId} {cs : List PV} (ha : ∀ w, (isAgg T).run P w = .ok true w) (hs : ∀ w, (sizeOf T).run P w = .ok k w) (h : s.at t = some (.ref id 0)) (hl : look s.objs id = some (.cells T0 cs)) (hk : cs.length = k) (hd : PV.isData.isDataL cs = true) : Res P s (.cell t T) (.agg cs)
  | cell {t T id : Nat} {T0 : TypeId} {p : PV} (ha : ∀ w, (isAgg T).run P w = .ok false w) (h : s.at t = some (.ref id 0)) (hl : look s.objs id = some (.cells T0 [p])) (hd : p.isData = true) : Res P s (.cell t T) p

inductive ResL (P : Program) (s : PState) : List ResultVar → List PV → Prop
  | nil : ResL P s [] []
  | cons {r : ResultVar} {p : PV} {rs : List ResultVar} {ps : List PV} (h : Res P s r p) (t : ResL P s rs ps) : ResL P s (r :: rs) (p :: ps)

def tupOf : List PV → PV
  | [p] => p
  | ps => .tup ps

/-- The walk's end. -/
def Ends (P : Program) (fn : Func) (r : PV) : PQ := fun e s => (e = .normal ∨ e = .ret) ∧ ∃ ps, ResL P s fn.results.toList ps ∧ tupOf ps = r

theorem row_data {g : Ghost} {a : Act} {w : World} (hg : RelG ctx g s a w) (hK : ∀ b, ctx.K b → ctx.S b) {id n k : Nat} {e : TypeId} {l : List (List DV)} {v : Value} (hr : Rd w g (Free ctx g s.objs) (.row id n) v) (hl : look s.objs id = some (.row e k l)) (hn : l.length = n) :
    DRd w (fun b => ctx.S b ∨ ctx.w0.heap.size ≤ b) (.sl l) v := by
  have hob := hg.objs id _ hl
  cases hob with
  | rowNil _ _ hgn =>
    cases hr with
    | row _ _ blk cap hgi => rw [hgn] at hgi; cases hgi
    | rowNil => exact .nil none 0 (Nat.zero_le _) (fun _ => rfl)
  | row _ _ _ blk' cap' cur hgi hh hlc hcap hcs hkk hr' =>
    cases hr with
    | rowNil _ hgn => rw [hgn] at hgi; cases hgi
    | row _ _ blk cap hgi' =>
      rw [hgi] at hgi'
      cases hgi'
      subst hn
      have hown := hg.own id _ blk' cap' hl hgi
      refine .sl l blk' 0 cap' k (fun i j => cur.getD (i * k + j) undef) hlc hcap (hown.2.elim .inr fun hh => .inl (hK _ hh)) hown.1 hkk ?_ ?_
      · intro i j hi hj
        have hlt : i * k + j < cur.length := by rw [hcs]; exact idx_lt (by omega) hj
        rw [cell_of_heap hh]
        simp [hlt]
      · intro i cs j x hi hx
        obtain ⟨u, hu, hd⟩ := hr' i cs j x hi hx
        have e : cur.getD (i * k + j) undef = u := by simp [List.getD, hu]
        show DRd w _ x (cur.getD (i * k + j) undef)
        rw [e]
        exact hd.keep ⟨Nat.le_refl _, fun _ _ _ => rfl⟩ (fun b hb _ => hb.1)

def resOne (tmps : Array Value) : ResultVar → Sem Value
  | .tmp t => pure (tmps.getD t undef)
  | .cell a t => do loadVar t (← asAddr (tmps.getD a undef))
theorem results_eq (fn : Func) (tmps : Array Value) : results fn tmps = (do let vs ← fn.results.mapM (resOne tmps); pure (if h : vs.size = 1 then vs[0] else .tuple vs)) := by
  unfold results
  congr 1

theorem res_real {g : Ghost} {a : Act} {w : World} (hg : RelG ctx g s a w) (hK : ∀ b, ctx.K b → ctx.S b) {rv : ResultVar} {p : PV} (h : Res P s rv p) :
    ∃ v, (resOne a.tmps rv).run P w = .ok v w ∧ Rd w g0 (fun b => ctx.S b ∨ ctx.w0.heap.size ≤ b) p v := by
  have weak : ∀ {q : PV} {v : Value}, Rd w g (Free ctx g s.objs) q v → q.isData = true → Rd w g0 (fun b => ctx.S b ∨ ctx.w0.heap.size ≤ b) q v := fun h hd =>
    (h.keep (w' := w) (g' := g) (S' := fun b => ctx.S b ∨ ctx.w0.heap.size ≤ b) ⟨Nat.le_refl _, fun _ _ _ => rfl⟩ (fun b hb _ => hb.1) (fun _ _ => rfl)).data hd g0
  cases h with
  | @tmp t _ h hd => exact ⟨_, rfl, weak (hg.slots t _ h) hd⟩
  | @row t id n k e l h hl hn => exact ⟨_, rfl, .d (row_data hg hK (hg.slots t _ h) hl hn)⟩
  | @map t id ks ag m bs ck h hl =>
    have hr := hg.slots t _ h
    show ∃ v, (pure (a.tmps.getD t undef) : Sem Value).run P w = .ok v w ∧ _
    generalize hv : a.tmps.getD t undef = v at hr
    refine ⟨v, rfl, ?_⟩
    cases hr with
    | mp _ blk n hgi =>
      cases hg.objs id _ hl with
      | map _ _ _ _ _ blk' n' es h' hh hm =>
        rw [hgi] at h'
        cases h'
        have hown := hg.own id _ blk n hl hgi
        exact .md ks ag m bs ck blk es (hown.2.elim .inr fun hh => .inl (hK _ hh)) hown.1 hh (hm.keep ⟨Nat.le_refl _, fun _ _ _ => rfl⟩ (fun b hb _ => hb.1))
  | @agg t T k id T0 cs ha hs h hl hk hd =>
    have hr := hg.slots t _ h
    generalize hv : a.tmps.getD t undef = v at hr
    cases hr with
    | ref _ _ blk n hgi =>
      cases hg.objs id _ hl with
      | cells _ _ blk' n' us h' hh hlen hr' h1 =>
        rw [hgi] at h'
        cases h'
        refine ⟨.agg us.toArray, ?_, ?_⟩
        · have := run_loadAgg (P := P) (us := us) ha (by rw [← hlen, hk]; exact hs) (w := w) (b := blk) (o := 0) (fun j u hu => by rw [Nat.zero_add, cell_of_heap hh]; exact hu)
          show (do loadVar T (← asAddr (a.tmps.getD t undef)) : Sem Value).run P w = _
          rw [hv]
          simp only [asAddr, Sem.run_bind, Sem.run_pure, Result.andThen_ok]
          exact this
        · exact weak (.agg cs us hlen hr' h1) (by simpa [PV.isData] using hd)
  | @cell t T id T0 p ha h hl hd =>
    have hr := hg.slots t _ h
    generalize hv : a.tmps.getD t undef = v at hr
    cases hr with
    | ref _ _ blk n hgi =>
      cases hg.objs id _ hl with
      | cells _ _ blk' n' us h' hh hlen hr' h1 =>
        rw [hgi] at h'
        cases h'
        have hlt : 0 < us.length := by rw [← hlen]; simp
        have hu : us[0]? = some us[0] := List.getElem?_eq_getElem hlt
        refine ⟨us[0], ?_, weak (hr' 0 p _ rfl hu) hd⟩
        have := run_loadOne (P := P) ha (w := w) (ad := ⟨blk, 0, none⟩) (u := us[0]) (by rw [cell_of_heap hh]; exact hu)
        show (do loadVar T (← asAddr (a.tmps.getD t undef)) : Sem Value).run P w = _
        rw [hv]
        simp only [asAddr, Sem.run_bind, Sem.run_pure, Result.andThen_ok]
        exact this

theorem resL_real {g : Ghost} {a : Act} {w : World} (hg : RelG ctx g s a w) (hK : ∀ b, ctx.K b → ctx.S b) {rs : List ResultVar} {ps : List PV} (h : ResL P s rs ps) :
    ∃ vs : List Value, (rs.mapM (resOne a.tmps)).run P w = .ok vs w ∧ ps.length = vs.length ∧
      ∀ (i : Nat) (p : PV) (v : Value), ps[i]? = some p → vs[i]? = some v → Rd w g0 (fun b => ctx.S b ∨ ctx.w0.heap.size ≤ b) p v := by
  induction h with
  | nil => exact ⟨[], by simp, rfl, by simp⟩
  | cons h _ ih =>
    obtain ⟨vs, h1, h2, h3⟩ := ih
    obtain ⟨v, hv1, hv2⟩ := res_real hg hK h
    refine ⟨v :: vs, ?_, by simp [h2], ?_⟩
    · simp only [List.mapM_cons, Sem.run_bind, hv1, h1, Result.andThen_ok, Sem.run_pure]
    · intro i p u hp hu
      cases i with
      | zero => simp at hp hu; subst hp; subst hu; exact hv2
      | succ i => simp at hp hu; exact h3 i p u hp hu

def args : Nat → List PV → List (Nat × PV)
  | _, [] => []
  | i, p :: r => (i, p) :: args (i + 1) r
theorem args_get : ∀ {ps : List PV} {b i : Nat} {p : PV}, getS (args b ps) i = some p → ∃ j, i = b + j ∧ ps[j]? = some p
  | [], b, i, p, h => by simp [args, getS] at h
  | q :: r, b, i, p, h => by
    rw [args, getS_cons] at h
    by_cases e : b = i
    · rw [if_pos e] at h; exact ⟨0, by omega, by simpa using h⟩
    · rw [if_neg e] at h
      obtain ⟨j, h1, h2⟩ := args_get h
      exact ⟨j + 1, by omega, by simpa using h2⟩
theorem rel_args {w : World} {S K : Nat → Prop} {ps : List PV} {vs : List Value} {n : Nat} (hlen : ps.length = vs.length) (hreal : ∀ (i : Nat) (p : PV) (v : Value), ps[i]? = some p → vs[i]? = some v → Rd w g0 S p v) (hnn : vs.length ≤ n) :
    RelG ⟨w, S, K⟩ g0 ⟨n, args 0 ps, []⟩ { tmps := vs.toArray ++ Array.replicate (n - vs.toArray.size) undef, defers := [] } w := by
  refine ⟨rfl, by simp; omega, ?_, by simp [look], by simp [look], by simp [look], rfl, rfl, rfl, Nat.le_refl _, fun _ _ _ => rfl⟩
  intro i p hp
  obtain ⟨j, h1, h2⟩ := args_get (at_get hp)
  have e : i = j := by omega
  subst e
  have hi' : i < vs.length := by rw [← hlen]; exact (List.getElem?_eq_some_iff.1 h2).1
  have hv : vs[i]? = some vs[i] := List.getElem?_eq_getElem hi'
  have e : (vs.toArray ++ Array.replicate (n - vs.toArray.size) undef).getD i undef = vs[i] := by
    simp [Array.getD_eq_getD_getElem?, Array.getElem?_append, hi']
  rw [e]
  exact (hreal i p _ h2 hv).keep (w' := w) (g' := g0) ⟨Nat.le_refl _, fun _ _ _ => rfl⟩ (fun b hb _ => ⟨.inl hb, fun id o n hl => by simp [look] at hl⟩) (fun _ _ => rfl)

theorem PFun.intro {f : FuncId} {fn : Func} {c : Code} {ps : List PV} {r : PV} {n : Nat} {sl : List (Nat × PV)} (hf : P.funcs[f]? = some fn) (hb : fn.body = some c) (hn : fn.ntmps = n) (hsl : args 0 ps = sl) (hpn : Nat.ble ps.length n = true)
    (body : ∀ ctx : Ctx, (∀ b, ctx.K b → ctx.S b) → PWc P ctx c (Ends P fn r) ⟨n, sl, []⟩) : PFun P f ps r := by
  intro w S vs hlen hreal
  let ctx : Ctx := ⟨w, S, fun _ => False⟩
  have hK : ∀ b, ¬ ctx.K b := fun _ h => h
  refine calls_of_wp hf hb ?_
  subst hsl
  have hrel : RelG ctx g0 ⟨n, args 0 ps, []⟩ { tmps := vs.toArray ++ Array.replicate (fn.ntmps - vs.toArray.size) undef, defers := [] } w := by
    rw [hn]; exact rel_args hlen hreal (by rw [← hlen]; exact Nat.le_of_ble_eq_true hpn)
  refine wp_mono (body ctx (fun b h => (hK b h).elim) _ w ⟨g0, hrel⟩) fun e a' w' ⟨t, ⟨he, qs, hres, hq⟩, g, hg⟩ => ?_
  have main : a'.defers = [] ∧ ∃ v, (results fn a'.tmps).run P w' = .ok v w' ∧ (∃ u, Ending.returned v = .returned u ∧ Below w.heap.size w w' ∧ Rd w' g0 (fun b => S b ∨ w.heap.size ≤ b) r u) := by
    obtain ⟨us, h1, h2, h3⟩ := resL_real hg (fun b h => (hK b h).elim) hres
    have hbel : Below w.heap.size w w' := ⟨hg.os, hg.tape, hg.output, hg.grows, fun k hk => hg.keep k hk (hK k)⟩
    have hrun : (results fn a'.tmps).run P w' = .ok (if h : us.toArray.size = 1 then us.toArray[0] else .tuple us.toArray) w' := by
      rw [results_eq, Array.mapM_eq_mapM_toList]
      simp only [Sem.run_bind, Sem.run_map, h1, Result.andThen_ok, Sem.run_pure]
    refine ⟨hg.defers, _, hrun, _, rfl, hbel, ?_⟩
    subst hq
    match qs, us, h2, h3 with
    | [p], [u], _, h3 => exact h3 0 p u rfl rfl
    | [], [], _, h3 => exact .tup [] [] rfl (by simp)
    | p :: q :: ps, u :: v :: us, h2, h3 =>
      have hne : ¬ (u :: v :: us).toArray.size = 1 := by simp
      rw [dif_neg hne]
      exact .tup _ _ h2 h3
  rcases he with rfl | rfl
  · exact main
  · exact main
end
end Go.Ep

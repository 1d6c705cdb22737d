/- Walks over pure states: functions that hand back a new map; a map of one's own as data. No program in sight. -/
import Derived.Test.YtacnidaafcfgiaaGreatEp12
namespace Go.Ep
open Go.RowKit

/-- A new map, unshared. -/
def MapNew (w : World) (S : Nat → Prop) (base : Nat) (ks : List IntKind) (ag : Bool) (m : Mp) (u : Value) : Prop :=
  ∃ blk es bs ck, u = .map (some blk) ∧ base ≤ blk ∧ w.heap[blk]? = some (.map es ck) ∧ MapRd w (fun b => (S b ∨ base ≤ b) ∧ b ≠ blk) ks ag m bs ck es

/-- The contract of a function that hands back a new map, which may be written. -/
def PMap (P : Program) (f : FuncId) (ps : List PV) (ks : List IntKind) (ag : Bool) (m : Mp) : Prop :=
  ∀ (w : World) (S : Nat → Prop) (vs : List Value), ps.length = vs.length → (∀ (i : Nat) (p : PV) (v : Value), ps[i]? = some p → vs[i]? = some v → Rd w g0 S p v) →
    Calls P f vs.toArray w (fun en w' => ∃ u, en = .returned u ∧ Below w.heap.size w w' ∧ MapNew w' S w.heap.size ks ag m u)

theorem PMap.fun {P : Program} {f : FuncId} {ps : List PV} {ks : List IntKind} {ag : Bool} {m : Mp} (h : PMap P f ps ks ag m) : PFun P f ps (.md ks ag m) :=
  fun w S vs hl hv => (h w S vs hl hv).mono fun _ w' ⟨u, he, hb, blk, es, bs, ck, hu, h1, h2, h3⟩ => ⟨u, he, hb, by
    subst hu
    exact .md ks ag m bs ck blk es (.inr h1) (Array.getElem?_eq_some_iff.1 h2).1 h2 (h3.keep ⟨Nat.le_refl _, fun _ _ _ => rfl⟩ (fun b hb _ => hb.1))⟩

def EndsMap (fn : Func) (ks : List IntKind) (ag : Bool) (m : Mp) : PQ := fun en s => (en = .normal ∨ en = .ret) ∧ ∃ t id bs ck, fn.results = #[.tmp t] ∧ s.at t = some (.mp id) ∧ look s.objs id = some (.map ks ag m bs ck)

section
variable {P : Program} {ctx : Ctx} {Q : PQ} {s : PState}
variable {dst : Option Tmp} {ty : TypeId} {pos : String} {after : Array Edge} {gd : Option (Nat × Bool)}

theorem PMap.intro {f : FuncId} {fn : Func} {c : Code} {ps : List PV} {ks : List IntKind} {ag : Bool} {m : Mp} {n : Nat} {sl : List (Nat × PV)} (hf : P.funcs[f]? = some fn) (hb : fn.body = some c) (hn : fn.ntmps = n) (hsl : args 0 ps = sl) (hpn : Nat.ble ps.length n = true)
    (body : ∀ ctx : Ctx, (∀ b, ctx.K b → ctx.S b) → PWc P ctx c (EndsMap fn ks ag m) ⟨n, sl, []⟩) : PMap P f ps ks ag m := by
  intro w S vs hlen hreal
  let ctx : Ctx := ⟨w, S, fun _ => False⟩
  have hK : ∀ b, ¬ ctx.K b := fun _ h => h
  refine calls_of_wp hf hb ?_
  subst hsl
  have hrel : RelG ctx g0 ⟨n, args 0 ps, []⟩ { tmps := vs.toArray ++ Array.replicate (fn.ntmps - vs.toArray.size) undef, defers := [] } w := by
    rw [hn]; exact rel_args hlen hreal (by rw [← hlen]; exact Nat.le_of_ble_eq_true hpn)
  refine wp_mono (body ctx (fun b h => (hK b h).elim) _ w ⟨g0, hrel⟩) fun en a' w' ⟨s, ⟨he, t, id, bs, ck, hres, hs, hl⟩, g, hg⟩ => ?_
  have hbel : Below w.heap.size w w' := ⟨hg.os, hg.tape, hg.output, hg.grows, fun k hk => hg.keep k hk (hK k)⟩
  have main : a'.defers = [] ∧ ∃ v, (results fn a'.tmps).run P w' = .ok v w' ∧ (∃ u, Ending.returned v = .returned u ∧ Below w.heap.size w w' ∧ MapNew w' S w.heap.size ks ag m u) := by
    refine ⟨hg.defers, _, results_tmp hres _ _ _, _, rfl, hbel, ?_⟩
    have hr := hg.slots t _ hs
    generalize hv : a'.tmps.getD t undef = v at hr
    cases hr with
    | mp _ blk n hgi =>
      cases hg.objs id _ hl with
      | map _ _ _ _ _ blk' n' es h' hh hm =>
        rw [hgi] at h'
        cases h'
        have hown := hg.own id _ blk n hl hgi
        exact ⟨blk, es, bs, ck, rfl, hown.2.resolve_right (hK _), hh, hm.keep ⟨Nat.le_refl _, fun _ _ _ => rfl⟩ (fun b ⟨h1, h2⟩ _ => ⟨h1, fun eb => by subst eb; exact h2 id _ n hl hgi⟩)⟩
  rcases he with rfl | rfl
  · exact main
  · exact main

/-- A call of a function that hands back a new map, taken as one's own. -/
theorem PWl.callMap {ops : Array Oper} {rest : List Oper} {id : Nat} {x : Operand} {xs : List Operand} {ats : Array TypeId} {f : FuncId} {ps : List PV} {ks : List IntKind} {ag : Bool} {m : Mp} (hc : PMap P f ps ks ag m) (hx : s.ev x = some (.d (.v (.func (.func f) #[] #[])))) (he : ∀ args w, (callFunc f args).run P w = .ok (.enter f args) w)
    (hps : s.evs xs = some ps) (hd : PV.isData.isDataL ps = true) (hf : s.fresh id = true) (hgd : gd = none)
    (h : ∀ bs ck, bs.length = m.length → PWl P ctx ops Q rest (s.newO id (.map ks ag m bs ck) (.mp id))) : PWl P ctx ops Q (⟨some id, .call ⟨.value x, xs.toArray, ats⟩, ty, pos, after, gd⟩ :: rest) s := by
  rintro a w ⟨g, hg⟩
  refine wpList_plain hgd fun K hK => ?_
  obtain ⟨hlen, hreal⟩ := evs_real hps hd hg
  unfold Oper.wp
  rw [exec_call (o := ⟨some id, .call ⟨.value x, xs.toArray, ats⟩, ty, pos, after, gd⟩) rfl (ev_v hg hx) he w]
  rw [List.map_toArray]
  refine (hc w (Free ctx g s.objs) _ hlen hreal).mono fun en w' ⟨u, he, hb, blk, es, bs, ck, hu, hbase, hh, hm⟩ => ?_
  subst he
  subst hu
  have hlt : blk < w'.heap.size := (Array.getElem?_eq_some_iff.1 hh).1
  have hlen : bs.length = m.length := by rw [hm.stamps]; simp [hm.size]
  refine hK _ _ (h bs ck hlen _ _ ⟨upd g id (some (blk, 0)), (hg.new hb hf (some (blk, 0)) (fun b n e => by cases e; exact ⟨hbase, hlt⟩) (.map ks ag m bs ck) ?_).put (some id) (.mp id blk 0 (upd_same _ _ _))⟩)
  refine .map ks ag m bs ck blk 0 es (upd_same _ _ _) hh (hm.keep ⟨Nat.le_refl _, fun _ _ _ => rfl⟩ fun b ⟨h1, h2⟩ hblt => ?_)
  have hfr := free_new hg h1
  refine ⟨hfr.1, fun j o mm hj hgj => ?_⟩
  rw [look_putO] at hj
  by_cases ej : j = id
  · subst ej; rw [upd_same] at hgj; cases hgj; exact h2 rfl
  · rw [if_neg ej] at hj; rw [upd_ne ej] at hgj; exact hfr.2 j o mm hj hgj

/-! ### A map becomes data -/
def PState.frzM (s : PState) (id : Nat) (ks : List IntKind) (ag : Bool) (m : Mp) (js : List Nat) : PState := { n := s.n, sl := (s.sets (.md ks ag m) js).sl, objs := delO id s.objs }

theorem Sub.frzM {id : Nat} {ks : List IntKind} {ag : Bool} {m : Mp} {bs : List Nat} {ck : Nat} (js : List Nat) (hK : ∀ b, ctx.K b → ctx.S b) (hl : look s.objs id = some (.map ks ag m bs ck)) (hjs : ∀ j ∈ js, s.at j = some (.mp id)) : Sub ctx s (s.frzM id ks ag m js) := by
  rintro a w ⟨g, h⟩
  have hF : ∀ b, Free ctx g s.objs b → Free ctx g (delO id s.objs) b := fun b ⟨h1, h2⟩ => ⟨h1, fun j o m hj hg => by
    rw [look_delO] at hj
    split at hj
    · cases hj
    · exact h2 j o m hj hg⟩
  have hst : Stays w w (Free ctx g s.objs) := ⟨Nat.le_refl _, fun _ _ _ => rfl⟩
  have hlk : ∀ {j : Nat} {o : Ob}, look (delO id s.objs) j = some o → j ≠ id ∧ look s.objs j = some o := fun {j o} hj => by
    rw [look_delO] at hj
    split at hj
    · cases hj
    · rename_i hne; exact ⟨hne, hj⟩
  refine ⟨g, ⟨h.defers, h.size, ?_, ?_, ?_, ?_, h.os, h.tape, h.output, h.grows, h.keep⟩⟩
  · intro i p hp
    have old : s.at i = some p → Rd w g (Free ctx g (delO id s.objs)) p (a.tmps.getD i undef) := fun hq => (h.slots i p hq).keep hst (fun b hb _ => hF b hb) (fun _ _ => rfl)
    have hp' : (s.sets (.md ks ag m) js).at i = some p := at_of (by rw [sets_len]; exact at_lt (s := s.frzM id ks ag m js) hp) (at_get (s := s.frzM id ks ag m js) hp)
    rcases sets_get _ js s i p hp' with ⟨h1, rfl⟩ | h2
    · have hr := h.slots i _ (hjs i h1)
      show Rd w g (Free ctx g (delO id s.objs)) (.md ks ag m) (a.tmps.getD i undef)
      generalize hv : a.tmps.getD i undef = v at hr
      cases hr with
      | mp _ blk n hgi =>
        cases h.objs id _ hl with
        | map _ _ _ _ _ blk' n' es h' hh hm =>
          rw [hgi] at h'
          cases h'
          have hown := h.own id _ blk n hl hgi
          have hfree : Free ctx g (delO id s.objs) blk := ⟨hown.2.elim .inr fun hh => .inl (hK _ hh), fun j o mm hj hgj => by
            obtain ⟨hne, hj'⟩ := hlk hj
            exact hne (h.inj j id o _ blk mm n hj' hl hgj hgi)⟩
          exact .md ks ag m bs ck blk es hfree hown.1 hh (hm.keep hst (fun b hb _ => hF b hb))
    · exact old h2
  · intro j o hj
    obtain ⟨_, hj'⟩ := hlk hj
    exact (h.objs j o hj').keep hst (fun b hb _ => hF b hb) (fun _ _ _ => rfl) rfl (fun _ _ => rfl)
  · intro i j oi oj b n m hi hj
    exact h.inj i j oi oj b n m (hlk hi).2 (hlk hj).2
  · intro j o b n hj
    exact h.own j o b n (hlk hj).2

inductive AllMp (s : PState) (id : Nat) : List Nat → Prop
  | nil : AllMp s id []
  | cons {j : Nat} {js : List Nat} (h : s.at j = some (.mp id)) (r : AllMp s id js) : AllMp s id (j :: js)
theorem AllMp.get {id : Nat} {js : List Nat} (h : AllMp s id js) : ∀ j ∈ js, s.at j = some (.mp id) := by
  induction h with
  | nil => intro j hj; cases hj
  | cons h _ ih =>
    intro j hj
    rcases List.mem_cons.1 hj with rfl | hj
    · exact h
    · exact ih j hj
theorem PWl.frzM {ops : Array Oper} {rest : List Oper} {id : Nat} {ks : List IntKind} {ag : Bool} {m : Mp} {bs : List Nat} {ck : Nat} (js : List Nat) (hK : ∀ b, ctx.K b → ctx.S b) (hjs : AllMp s id js) (hl : look s.objs id = some (.map ks ag m bs ck)) (h : PWl P ctx ops Q rest (s.frzM id ks ag m js)) : PWl P ctx ops Q rest s :=
  PWl.sub (Sub.frzM js hK hl hjs.get) h
end

/-! ### Zero elements -/
theorem zRd1 (x : Value) (h : x.oneCell' = true) : ∀ (w : World) (g : Ghost) (S : Nat → Prop), Rd w g S (elP false [zdv x]) x := fun w _ S => .d (zdv_rd w S x h)
theorem zRdA (us : List Value) (h : us.all Value.oneCell' = true) : ∀ (w : World) (g : Ghost) (S : Nat → Prop), Rd w g S (elP true (us.map zdv)) (.agg us.toArray) := fun w g S => by
  have h' : ∀ u ∈ us, u.oneCell' = true := by simpa using h
  refine .agg _ us (by simp) (fun i p u hp hu => ?_) h'
  simp [hu] at hp
  subst hp
  exact .d (zdv_rd w S u (h' u (List.mem_of_getElem? hu)))
end Go.Ep

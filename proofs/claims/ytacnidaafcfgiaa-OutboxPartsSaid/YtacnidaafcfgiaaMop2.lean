/- Texts that the walks and laws lean on, side by side. -/
import GoSem.Core.View
import Derived.Test.YtacnidaafcfgiaaProg
import Derived.KernelRfl
import Derived.Shelf.SlGeneric
import Derived.Shelf.SlLaysF0
import Derived.Ground.SlsfProg
import Derived.Shelf.SlSortCmp.WholeK
import Derived.Test.YtacnidaafcfgiaaMop1
set_option linter.unusedVariables false
set_option linter.unusedSimpArgs false
namespace Go.Ep
open Go.RowKit

theorem mset_none {ns : List Int} {v : List DV} : ∀ {m : Mp}, mget m ns = none → mset m ns v = m ++ [(ns, v)]
  | [], _ => rfl
  | (n, cs) :: r, h => by
    by_cases e : n = ns
    · simp [mget, e] at h
    · simp only [mget, e, if_false] at h
      simp [mset, e, mset_none h]
theorem mset_len {ns : List Int} {v : List DV} : ∀ {m : Mp} {cs : List DV}, mget m ns = some cs → (mset m ns v).length = m.length
  | (n, c) :: r, cs, h => by
    by_cases e : n = ns
    · simp [mset, e]
    · simp only [mget, e, if_false] at h
      simp [mset, e, mset_len h]
theorem mset_get {ns : List Int} {v : List DV} : ∀ {m : Mp} {j : Nat}, pfind ns m 0 = some j → ∀ i, (mset m ns v)[i]? = if i = j then some (ns, v) else m[i]?
  | (n, c) :: r, j, h, i => by
    unfold pfind at h
    by_cases e : n = ns
    · subst e
      rw [if_pos rfl] at h
      cases h
      simp only [mset, if_true]
      cases i <;> simp
    · rw [if_neg e, pfind_shift] at h
      cases hp : pfind ns r 0 with
      | none => simp [hp] at h
      | some j' =>
        simp [hp] at h
        subst h
        simp only [mset, e, if_false]
        cases i with
        | zero => simp; omega
        | succ i =>
          rw [List.getElem?_cons_succ, mset_get hp i, List.getElem?_cons_succ]
          by_cases hi : i = j'
          · simp [hi]; omega
          · rw [if_neg hi, if_neg (by omega)]
theorem sameBits_key (ks : List IntKind) (ns : List Int) : Instr.sameBits 10000 (keyV ks ns) (keyV ks ns) = true := by
  have agg : ∀ (ks : List IntKind) (ns : List Int), Instr.sameBits 10000 (.agg (List.zipWith Value.int ks ns).toArray) (.agg (List.zipWith Value.int ks ns).toArray) = true := by
    intro ks ns
    show ((List.zipWith Value.int ks ns).toArray.size == (List.zipWith Value.int ks ns).toArray.size && ((List.zipWith Value.int ks ns).toArray.toList.zip (List.zipWith Value.int ks ns).toArray.toList).all fun (x, y) => Instr.sameBits 9999 x y) = true
    simp only [beq_self_eq_true, Bool.true_and]
    generalize hl : List.zipWith Value.int ks ns = l
    have : ∀ v ∈ l, ∃ k n, v = Value.int k n := by
      intro v hv
      rw [← hl] at hv
      obtain ⟨i, hi, rfl⟩ := List.getElem_of_mem hv
      exact ⟨_, _, List.getElem_zipWith⟩
    clear hl
    induction l with
    | nil => rfl
    | cons v r ih =>
      obtain ⟨k, n, rfl⟩ := this v (by simp)
      simp only [List.zip_cons_cons, List.all_cons, Bool.and_eq_true]
      refine ⟨?_, ih fun v hv => this v (by simp [hv])⟩
      show (k == k && n == n) = true
      simp
  rcases ks with _ | ⟨k, _ | ⟨k2, ks⟩⟩ <;> rcases ns with _ | ⟨n, _ | ⟨n2, ns⟩⟩ <;> first | exact agg _ _ | (show (k == k && n == n) = true; simp)

section
variable {P : Program}

theorem MapRd.key {w : World} {S : Nat → Prop} {ks : List IntKind} {ag : Bool} {m : Mp} {bs : List Nat} {ck : Nat} {es : Array MapEntry} (hm : MapRd w S ks ag m bs ck es) : ∀ (i : Nat) (e : MapEntry) (n : List Int) (c : List DV), es.toList[i]? = some e → m[i]? = some (n, c) → e.key = keyV ks n ∧ n.length = ks.length := fun i e n c h1 h2 => by
  obtain ⟨e', us, g1, g2, g3, g4, g5, g6, g7, g8⟩ := hm.ent i n c h2
  have : e' = e := by simp at h1; rw [g1] at h1; cases h1; rfl
  subst this
  exact ⟨g2, g7⟩

/-- A map written at a key. -/
theorem run_mapUpdate {w : World} {S : Nat → Prop} {t kt et : TypeId} {ks : List IntKind} {ag : Bool} {m : Mp} {bs : List Nat} {ck b : Nat} {es : Array MapEntry} {ns : List Int} {us : List Value} {cs : List DV} (hu : P.underlying t = some (.map kt et)) (K : KeyOK P kt ks) (hn : ns.length = ks.length)
    (hh : w.heap[b]? = some (.map es ck)) (hm : MapRd w S ks ag m bs ck es) (hl : us.length = cs.length) (h1 : ag = false → cs.length = 1) (ho : ∀ u ∈ us, u.oneCell' = true) (hr : ∀ (j : Nat) (x : DV) (u : Value), cs[j]? = some x → us[j]? = some u → DRd w S x u) :
    ∃ es', (Instr.mapUpdate t (.map (some b)) (keyV ks ns) (elV ag us)).run P w = .ok () { w with heap := w.heap.setIfInBounds b (.map es' (cset m ns ck)) } ∧ MapRd w S ks ag (mset m ns cs) (bset m ns bs ck) (cset m ns ck) es' := by
  have hf := K.find w ns m es.toList hn (by simpa using hm.size) hm.key
  cases hp : pfind ns m 0 with
  | none =>
    have hg := pfind_none ns m 0 hp
    rw [hp] at hf
    refine ⟨es.push { key := keyV ks ns, val := elV ag us, born := ck }, ?_, ?_⟩
    · simp only [Instr.mapUpdate, Sem.run_bind, run_underlying hu, Result.andThen_ok, MapKept.run_getObj_map hh, K.check w _ ns hn, hf, Option.bind_none, cset, hg]
      exact MapKept.run_setObj_map _ hh
    · rw [mset_none hg]
      simp only [bset, cset, hg]
      refine ⟨by simp [hm.size], by simp [hm.stamps], ?_, ?_, ?_⟩
      · intro x hx
        rcases List.mem_append.1 hx with h | h
        · have := hm.below x h; omega
        · simp at h; omega
      · rw [List.nodup_append]
        refine ⟨hm.nodup, by simp, ?_⟩
        intro x hx y hy
        simp at hy
        have := hm.below x hx
        omega
      · intro i n c hi
        rw [List.getElem?_append] at hi
        split at hi
        · rename_i hlt
          obtain ⟨e, us', g1, g⟩ := hm.ent i n c hi
          exact ⟨e, us', by rw [Array.getElem?_push, if_neg (by rw [hm.size]; omega)]; exact g1, g⟩
        · rename_i hge
          have hi0 : i = m.length := by
            have : i - m.length < 1 := by simpa using (List.getElem?_eq_some_iff.1 hi).1
            omega
          subst hi0
          simp at hi
          obtain ⟨rfl, rfl⟩ := hi
          exact ⟨_, us, by rw [Array.getElem?_push, if_pos hm.size.symm], rfl, rfl, hl, h1, ho, hn, hr⟩
  | some j =>
    obtain ⟨k, hjk, cs0, h2, h3⟩ := pfind_off ns m 0 j hp
    have : j = k := by omega
    subst this
    obtain ⟨e0, us0, g1, g2, g3, g4, g5, g6, g7, g8⟩ := hm.ent j ns cs0 h2
    rw [hp] at hf
    have he : es.toList[j]? = some e0 := by simpa using g1
    simp only [Option.bind_some, he, Option.map_some] at hf
    refine ⟨es.modify j fun e => { e with key := keyV ks ns, val := elV ag us }, ?_, ?_⟩
    · have hsame : (Instr.keyThatStays (((es[j]?).map (·.key)).getD (keyV ks ns)) (keyV ks ns)).run P w = .ok (keyV ks ns) w := by
        simp only [g1, Option.map_some, Option.getD_some, g2, Instr.keyThatStays, sameBits_key, if_true, Sem.run_pure]
      simp only [Instr.mapUpdate, Sem.run_bind, run_underlying hu, Result.andThen_ok, MapKept.run_getObj_map hh, K.check w _ ns hn, hf, hsame, cset, h3]
      exact MapKept.run_setObj_map _ hh
    · simp only [bset, cset, h3]
      refine ⟨by rw [mset_len h3]; simp [hm.size], ?_, hm.below, hm.nodup, ?_⟩
      · rw [hm.stamps]
        apply List.ext_getElem?
        intro i
        simp only [List.getElem?_map, Array.getElem?_toList, Array.getElem?_modify]
        by_cases hij : j = i
        · subst hij; simp [g1]
        · simp [hij]
      · intro i n c hi
        rw [mset_get hp] at hi
        by_cases hij : i = j
        · subst hij
          rw [if_pos rfl] at hi
          cases hi
          exact ⟨_, us, by rw [Array.getElem?_modify, if_pos rfl, g1]; rfl, rfl, rfl, hl, h1, ho, hn, hr⟩
        · rw [if_neg hij] at hi
          obtain ⟨e, us', q1, q⟩ := hm.ent i n c hi
          exact ⟨e, us', by rw [Array.getElem?_modify, if_neg (Ne.symm hij)]; exact q1, q⟩

end

section
variable {P : Program} {ctx : Ctx} {Q : PQ} {s : PState}
variable {dst : Option Tmp} {ty : TypeId} {pos : String} {after : Array Edge} {gd : Option (Nat × Bool)}

theorem LR.makeMap {id : Nat} {t : TypeId} (ks : List IntKind) (ag : Bool) (hf : s.fresh id = true) : Local P ctx ⟨some id, .makeMap t none, ty, pos, after, gd⟩ s (s.newO id (.map ks ag [] [] 0) (.mp id)) :=
  local_value (o := ⟨some id, .makeMap t none, ty, pos, after, gd⟩) fun a w g hg => by
    refine ⟨.map (some w.heap.size), w.alloc (.map #[] 0), by simp [execOp, Instr.makeMap, Result.andThen], upd g id (some (w.heap.size, 0)), ?_⟩
    have hb := Below.alloc1 w (.map #[] 0)
    have hnew := hg.new hb hf (some (w.heap.size, 0)) (fun b n e => by cases e; simp) (.map ks ag [] [] 0)
      (.map ks ag [] [] 0 w.heap.size 0 #[] (upd_same _ _ _) (heap_alloc_new w _) ⟨rfl, rfl, by simp, by simp, by simp⟩)
    exact hnew.put (some id) (.mp id w.heap.size 0 (upd_same _ _ _))

theorem set_other (w : World) (b k : Nat) (o : Obj) (h : k ≠ b) : ({ w with heap := w.heap.setIfInBounds b o } : World).heap[k]? = w.heap[k]? := by simp [Ne.symm h]
theorem set_same (w : World) (b : Nat) (o : Obj) (h : b < w.heap.size) : ({ w with heap := w.heap.setIfInBounds b o } : World).heap[b]? = some o := by simp [h]

theorem elP_parts {ag : Bool} {cs : List DV} {q : PV} (hq : elP ag cs = q) (h1 : ag = false → cs.length = 1) {w : World} {g : Ghost} {S : Nat → Prop} {u : Value} (h : Rd w g S q u) :
    ∃ us, u = elV ag us ∧ us.length = cs.length ∧ (∀ u ∈ us, u.oneCell' = true) ∧ ∀ (j : Nat) (x : DV) (u : Value), cs[j]? = some x → us[j]? = some u → DRd w S x u := by
  subst hq
  cases ag with
  | true =>
    cases h with
    | agg _ us hl hr ho =>
      refine ⟨us, rfl, by simpa using hl.symm, ho, fun j x u hx hu => ?_⟩
      have := hr j (.d x) u (by simp [hx]) hu
      cases this with
      | d h => exact h
  | false =>
    match cs, h1 rfl, h with
    | [x], _, .d hd =>
      refine ⟨[u], rfl, rfl, by simpa using hd.one, fun j y v hy hv => ?_⟩
      cases j with
      | zero => simp at hy hv; subst hy; subst hv; exact hd
      | succ j => simp at hy

theorem LR.mapUpdate {x kx vx : Operand} {t kt et : TypeId} {id : Nat} {ks : List IntKind} {ag : Bool} {m : Mp} {bs bs' : List Nat} {ck ck' : Nat} {ns : List Int} {cs : List DV} {q : PV} (hu : P.underlying t = some (.map kt et)) (K : KeyOK P kt ks) (hx : s.ev x = some (.mp id)) (hl : look s.objs id = some (.map ks ag m bs ck))
    (hk : s.ev kx = some (keyP ks ns)) (hn : ns.length = ks.length) (hv : s.ev vx = some q) (hq : elP ag cs = q) (h1 : ag = false → cs.length = 1) (hbs : bset m ns bs ck = bs') (hck : cset m ns ck = ck') :
    Local P ctx ⟨none, .mapUpdate t x kx vx, ty, pos, after, gd⟩ s (s.setO id (.map ks ag (mset m ns cs) bs' ck')) := by
  subst hbs
  subst hck
  refine local_skip (o := ⟨none, .mapUpdate t x kx vx, ty, pos, after, gd⟩) fun a w g hg => ?_
  have h := hg.ev hx
  generalize hxv : a.eval x = v at h
  cases h with
  | mp _ blk n hgi =>
    cases hg.objs id _ hl with
    | map _ _ _ _ _ blk' n' es h' hh hm =>
      rw [hgi] at h'; cases h'
      obtain ⟨us, e1, e2, e3, e4⟩ := elP_parts hq h1 (hg.ev hv)
      obtain ⟨es', hrun, hm'⟩ := run_mapUpdate hu K hn hh hm e2 h1 e3 e4
      refine ⟨_, by simp only [execOp, hxv, keyP_eq (hg.ev hk), e1, Sem.run_bind, hrun, Result.andThen_ok, Sem.run_pure]; rfl, g, ?_⟩
      have hown := hg.own id _ blk n hl hgi
      have hother : ∀ k, k < w.heap.size → k ≠ blk → ({ w with heap := w.heap.setIfInBounds blk (.map es' (cset m ns ck)) } : World).heap[k]? = w.heap[k]? := fun k _ hne => set_other w blk k _ hne
      have hst : Stays w { w with heap := w.heap.setIfInBounds blk (.map es' (cset m ns ck)) } (Free ctx g s.objs) := ⟨by simp, fun b ⟨_, h2⟩ hlt => hother b hlt fun e => by subst e; exact h2 id _ n hl hgi⟩
      exact hg.wrote hl hgi rfl rfl rfl (by simp) hother hown.2 (.map ks ag _ _ _ blk n es' hgi (set_same w blk _ hown.1) (hm'.keep hst (fun b hb _ => free_put hl b hb)))

section
variable {ops : Array Oper} {rest : List Oper} {it : Operand} {id : Nat} {ks : List IntKind} {ag : Bool} {m : Mp} {bs : List Nat} {ck : Nat} {L : List Nat}

end
end
end Go.Ep

namespace Go.Ep
open Go.RowKit

/-- A new map, unshared. -/
def MapNew (w : World) (S : Nat → Prop) (base : Nat) (ks : List IntKind) (ag : Bool) (m : Mp) (u : Value) : Prop :=
  ∃ blk es bs ck, u = .map (some blk) ∧ base ≤ blk ∧ w.heap[blk]? = some (.map es ck) ∧ MapRd w (fun b => (S b ∨ base ≤ b) ∧ b ≠ blk) ks ag m bs ck es

/-- The contract of a function that hands back a new map, which may be written. -/
def PMap (P : Program) (f : FuncId) (ps : List PV) (ks : List IntKind) (ag : Bool) (m : Mp) : Prop :=
  ∀ (w : World) (S : Nat → Prop) (vs : List Value), ps.length = vs.length → (∀ (i : Nat) (p : PV) (v : Value), ps[i]? = some p → vs[i]? = some v → Rd w g0 S p v) →
    Calls P f vs.toArray w (fun en w' => ∃ u, en = .returned u ∧ Below w.heap.size w w' ∧ MapNew w' S w.heap.size ks ag m u)

theorem PMap.fun {P : Program} {f : FuncId} {ps : List PV} {ks : List IntKind} {ag : Bool} {m : Mp} (h : PMap P f ps ks ag m) : PFun P f ps (.md ks ag m) :=
  fun w S vs hl hv => (h w S vs hl hv).mono fun _ w' ⟨u, he, hb, blk, es, bs, ck, hu, h1, h2, h3⟩ => ⟨u, he, hb, by
    subst hu
    exact .md ks ag m bs ck blk es (.inr h1) (Array.getElem?_eq_some_iff.1 h2).1 h2 (h3.keep ⟨Nat.le_refl _, fun _ _ _ => rfl⟩ (fun b hb _ => hb.1))⟩

def EndsMap (fn : Func) (ks : List IntKind) (ag : Bool) (m : Mp) : PQ := fun en s => (en = .normal ∨ en = .ret) ∧ ∃ t id bs ck, fn.results = #[.tmp t] ∧ s.at t = some (.mp id) ∧ look s.objs id = some (.map ks ag m bs ck)

section
variable {P : Program} {ctx : Ctx} {Q : PQ} {s : PState}
variable {dst : Option Tmp} {ty : TypeId} {pos : String} {after : Array Edge} {gd : Option (Nat × Bool)}

theorem PMap.intro {f : FuncId} {fn : Func} {c : Code} {ps : List PV} {ks : List IntKind} {ag : Bool} {m : Mp} {n : Nat} {sl : List (Nat × PV)} (hf : P.funcs[f]? = some fn) (hb : fn.body = some c) (hn : fn.ntmps = n) (hsl : args 0 ps = sl) (hpn : Nat.ble ps.length n = true)
    (body : ∀ ctx : Ctx, (∀ b, ctx.K b → ctx.S b) → PWc P ctx c (EndsMap fn ks ag m) ⟨n, sl, []⟩) : PMap P f ps ks ag m := by
  intro w S vs hlen hreal
  let ctx : Ctx := ⟨w, S, fun _ => False⟩
  have hK : ∀ b, ¬ ctx.K b := fun _ h => h
  refine calls_of_wp hf hb ?_
  subst hsl
  have hrel : RelG ctx g0 ⟨n, args 0 ps, []⟩ { tmps := vs.toArray ++ Array.replicate (fn.ntmps - vs.toArray.size) undef, defers := [] } w := by
    rw [hn]; exact rel_args hlen hreal (by rw [← hlen]; exact Nat.le_of_ble_eq_true hpn)
  refine wp_mono (body ctx (fun b h => (hK b h).elim) _ w ⟨g0, hrel⟩) fun en a' w' ⟨s, ⟨he, t, id, bs, ck, hres, hs, hl⟩, g, hg⟩ => ?_
  have hbel : Below w.heap.size w w' := ⟨hg.os, hg.tape, hg.output, hg.grows, fun k hk => hg.keep k hk (hK k)⟩
  have main : a'.defers = [] ∧ ∃ v, (results fn a'.tmps).run P w' = .ok v w' ∧ (∃ u, Ending.returned v = .returned u ∧ Below w.heap.size w w' ∧ MapNew w' S w.heap.size ks ag m u) := by
    refine ⟨hg.defers, _, results_tmp hres _ _ _, _, rfl, hbel, ?_⟩
    have hr := hg.slots t _ hs
    generalize hv : a'.tmps.getD t undef = v at hr
    cases hr with
    | mp _ blk n hgi =>
      cases hg.objs id _ hl with
      | map _ _ _ _ _ blk' n' es h' hh hm =>
        rw [hgi] at h'
        cases h'
        have hown := hg.own id _ blk n hl hgi
        exact ⟨blk, es, bs, ck, rfl, hown.2.resolve_right (hK _), hh, hm.keep ⟨Nat.le_refl _, fun _ _ _ => rfl⟩ (fun b ⟨h1, h2⟩ _ => ⟨h1, fun eb => by subst eb; exact h2 id _ n hl hgi⟩)⟩
  rcases he with rfl | rfl
  · exact main
  · exact main

/-- A call of a function that hands back a new map, taken as one's own. -/
theorem PWl.callMap {ops : Array Oper} {rest : List Oper} {id : Nat} {x : Operand} {xs : List Operand} {ats : Array TypeId} {f : FuncId} {ps : List PV} {ks : List IntKind} {ag : Bool} {m : Mp} (hc : PMap P f ps ks ag m) (hx : s.ev x = some (.d (.v (.func (.func f) #[] #[])))) (he : ∀ args w, (callFunc f args).run P w = .ok (.enter f args) w)
    (hps : s.evs xs = some ps) (hd : PV.isData.isDataL ps = true) (hf : s.fresh id = true) (hgd : gd = none)
    (h : ∀ bs ck, bs.length = m.length → PWl P ctx ops Q rest (s.newO id (.map ks ag m bs ck) (.mp id))) : PWl P ctx ops Q (⟨some id, .call ⟨.value x, xs.toArray, ats⟩, ty, pos, after, gd⟩ :: rest) s := by
  rintro a w ⟨g, hg⟩
  refine wpList_plain hgd fun K hK => ?_
  obtain ⟨hlen, hreal⟩ := evs_real hps hd hg
  unfold Oper.wp
  rw [exec_call (o := ⟨some id, .call ⟨.value x, xs.toArray, ats⟩, ty, pos, after, gd⟩) rfl (ev_v hg hx) he w]
  rw [List.map_toArray]
  refine (hc w (Free ctx g s.objs) _ hlen hreal).mono fun en w' ⟨u, he, hb, blk, es, bs, ck, hu, hbase, hh, hm⟩ => ?_
  subst he
  subst hu
  have hlt : blk < w'.heap.size := (Array.getElem?_eq_some_iff.1 hh).1
  have hlen : bs.length = m.length := by rw [hm.stamps]; simp [hm.size]
  refine hK _ _ (h bs ck hlen _ _ ⟨upd g id (some (blk, 0)), (hg.new hb hf (some (blk, 0)) (fun b n e => by cases e; exact ⟨hbase, hlt⟩) (.map ks ag m bs ck) ?_).put (some id) (.mp id blk 0 (upd_same _ _ _))⟩)
  refine .map ks ag m bs ck blk 0 es (upd_same _ _ _) hh (hm.keep ⟨Nat.le_refl _, fun _ _ _ => rfl⟩ fun b ⟨h1, h2⟩ hblt => ?_)
  have hfr := free_new hg h1
  refine ⟨hfr.1, fun j o mm hj hgj => ?_⟩
  rw [look_putO] at hj
  by_cases ej : j = id
  · subst ej; rw [upd_same] at hgj; cases hgj; exact h2 rfl
  · rw [if_neg ej] at hj; rw [upd_ne ej] at hgj; exact hfr.2 j o mm hj hgj

inductive AllMp (s : PState) (id : Nat) : List Nat → Prop
  | nil : AllMp s id []
  | cons {j : Nat} {js : List Nat} (h : s.at j = some (.mp id)) (r : AllMp s id js) : AllMp s id (j :: js)
theorem AllMp.get {id : Nat} {js : List Nat} (h : AllMp s id js) : ∀ j ∈ js, s.at j = some (.mp id) := by
  induction h with
  | nil => intro j hj; cases hj
  | cons h _ ih =>
    intro j hj
    rcases List.mem_cons.1 hj with rfl | hj
    · exact h
    · exact ih j hj
end

theorem zRd1 (x : Value) (h : x.oneCell' = true) : ∀ (w : World) (g : Ghost) (S : Nat → Prop), Rd w g S (elP false [zdv x]) x := fun w _ S => .d (zdv_rd w S x h)
end Go.Ep

namespace Go.Ep
open Go.RowKit

/-- What is known of 'slices.SortFunc' (number f) with the comparison g: the row holds a permutation of what it held, in which no later one is less than an earlier one. -/
structure SortLaw {α : Type} (P : Program) (f g : FuncId) (k : Nat) (enc : α → List Value) (lt : α → α → Bool) : Prop where
  nil : ∀ w : World, Calls P f #[.slice none 0 0, .func (.func g) #[] #[]] w fun e w' => e = .returned (.tuple #[]) ∧ Below w.heap.size w w'
  row : ∀ (w : World) (blk cap : Nat) (l : List α) (T : TypeId) (cur : List Value), w.heap[blk]? = some (.cells cur.toArray T (0, 0)) → l.length ≤ cap → cur.length = cap * k → l.length < 4611686018427387904 →
    (∀ (i : Nat) (x : α) (j : Nat) (u : Value), l[i]? = some x → (enc x)[j]? = some u → cur[i * k + j]? = some u) →
    Calls P f #[.slice (some ⟨blk, 0, none⟩) l.length cap, .func (.func g) #[] #[]] w fun e w' => e = .returned (.tuple #[]) ∧ ∃ (l' : List α) (cur' : List Value), l'.Perm l ∧ l'.Pairwise (fun x y => lt y x = false) ∧
      w'.heap[blk]? = some (.cells cur'.toArray T (0, 0)) ∧ cur'.length = cur.length ∧ (∀ (i : Nat) (x : α) (j : Nat) (u : Value), l'[i]? = some x → (enc x)[j]? = some u → cur'[i * k + j]? = some u) ∧
      w'.os = w.os ∧ w'.tape = w.tape ∧ w'.output = w.output ∧ w.heap.size ≤ w'.heap.size ∧ ∀ b, b < w.heap.size → b ≠ blk → w'.heap[b]? = w.heap[b]?

section
variable {P : Program} {ctx : Ctx} {Q : PQ} {s : PState}
variable {dst : Option Tmp} {ty : TypeId} {pos : String} {after : Array Edge} {gd : Option (Nat × Bool)}

theorem PWl.sortFn {α : Type} {ops : Array Oper} {rest : List Oper} {id n k : Nat} {e : TypeId} {fx x gx : Operand} {ats : Array TypeId} {f g : FuncId} {enc : α → List Value} {encD : α → List DV} {lt : α → α → Bool} {l : List α} (hS : SortLaw P f g k enc lt)
    (henc : ∀ y, encD y = (enc y).map .v) (h1 : ∀ y, ∀ u ∈ enc y, u.oneCell' = true) (hk : ∀ y, (enc y).length = k) (hfx : s.ev fx = some (.d (.v (.func (.func f) #[] #[])))) (he : ∀ args w, (callFunc f args).run P w = .ok (.enter f args) w) (hx : s.ev x = some (.row id n)) (hgx : s.ev gx = some (.d (.v (.func (.func g) #[] #[]))))
    (hl : look s.objs id = some (.row e k (l.map encD))) (hn : l.length = n) (hlen : l.length < 4611686018427387904) (hgd : gd = none)
    (h : ∀ l' : List α, l'.Perm l → l'.Pairwise (fun x y => lt y x = false) → PWl P ctx ops Q rest ((s.setO id (.row e k (l'.map encD))).putD dst (.tup []))) :
    PWl P ctx ops Q (⟨dst, .call ⟨.value fx, #[x, gx], ats⟩, ty, pos, after, gd⟩ :: rest) s := by
  rintro a w ⟨gh, hg⟩
  refine wpList_plain hgd fun K hK => ?_
  have hxv := hg.ev hx
  have hob := hg.objs id _ hl
  unfold Oper.wp
  rw [exec_call (o := ⟨dst, .call ⟨.value fx, #[x, gx], ats⟩, ty, pos, after, gd⟩) rfl (ev_v hg hfx) he w]
  generalize hv : a.eval x = v at hxv
  have hargs : (#[x, gx] : Array Operand).map a.eval = #[v, .func (.func g) #[] #[]] := by simp [hv, ev_v hg hgx]
  rw [hargs]
  generalize hL : l.map encD = L at hob
  cases hob with
  | rowNil _ _ hgn =>
    have hl0 : l = [] := by simpa using hL
    subst hl0
    cases hxv with
    | row _ _ blk cap hgi => rw [hgn] at hgi; cases hgi
    | rowNil =>
      refine (hS.nil w).mono fun en w' ⟨hen, hb⟩ => ?_
      subst hen
      have hsub : Sub ctx s (s.setO id (.row e k ([].map encD))) := Sub.drop rfl (fun i p hp => hp) (fun j o hj => by
        simp only [PState.setO, look_putO] at hj
        split at hj
        · rename_i ej; subst ej; cases hj; rw [hl]
        · exact hj)
      obtain ⟨g2, hg2⟩ := hsub a w' ⟨gh, hg.below hb⟩
      exact hK _ _ (h [] (List.Perm.refl _) List.Pairwise.nil _ _ ⟨g2, hg2.put dst (.tup [] [] rfl (by simp))⟩)
  | row _ _ _ blk' cap' cur hgi hh hlc hcap hcs hkk hr' =>
    cases hxv with
    | rowNil _ hgn => rw [hgn] at hgi; cases hgi
    | row _ _ blk cap hgi' =>
      rw [hgi] at hgi'
      cases hgi'
      subst hL
      subst hn
      have hcells : ∀ (i : Nat) (y : α) (j : Nat) (u : Value), l[i]? = some y → (enc y)[j]? = some u → cur[i * k + j]? = some u := by
        intro i y j u hi hu
        obtain ⟨v, hv1, hv2⟩ := hr' i (encD y) j (.v u) (by simp [hi]) (by rw [henc]; simp [hu])
        cases hv2 with
        | v _ _ => exact hv1
      refine (hS.row w blk' cap' l e cur hh (by simpa using hlc) hcs hlen hcells).mono fun en w' ⟨hen, l', cur', hperm, hsort, hh', hcl, hc', hos, htape, hout, hsz, hother⟩ => ?_
      subst hen
      have hown := hg.own id _ blk' cap' hl hgi
      have hst : Stays w w' (Free ctx gh s.objs) := ⟨hsz, fun b ⟨_, h2⟩ hlt => hother b hlt fun eb => by subst eb; exact h2 id _ cap' hl hgi⟩
      have hpl : l'.length = l.length := hperm.length_eq
      have hwr := hg.wrote hl hgi (w' := w') hos htape hout hsz hother hown.2 (ob := .row e k (l'.map encD)) (.row e k _ blk' cap' cur' hgi hh' (by simpa [hpl] using hlc) hcap (by rw [hcl]; exact hcs)
        (fun i cs hi => by
          rw [List.getElem?_map] at hi
          cases hy : l'[i]? with
          | none => simp [hy] at hi
          | some y => simp [hy] at hi; subst hi; rw [henc]; simp [hk])
        (fun i cs j d hi hd => by
          rw [List.getElem?_map] at hi
          cases hy : l'[i]? with
          | none => simp [hy] at hi
          | some y =>
            simp [hy] at hi
            subst hi
            rw [henc, List.getElem?_map] at hd
            cases hu : (enc y)[j]? with
            | none => simp [hu] at hd
            | some u => simp [hu] at hd; subst hd; exact ⟨u, hc' i y j u hy hu, .v u (h1 y u (List.mem_of_getElem? hu))⟩))
      exact hK _ _ (h l' hperm hsort _ _ ⟨gh, hwr.put dst (.tup [] [] rfl (by simp))⟩)
end
end Go.Ep

namespace Go.Ep
open Go.RowKit

section
variable {P : Program} {ctx : Ctx} {Q : PQ} {s : PState}
variable {dst : Option Tmp} {ty : TypeId} {pos : String} {after : Array Edge} {gd : Option (Nat × Bool)}

/-- The first m elements of a row of one's own. -/
theorem LR.cutRow {x hi : Operand} {id n m k : Nat} {t e : TypeId} {l : List (List DV)} {kx : IntKind} {j : Int} (js : List Nat) (hu : P.underlying t = some (.slice e)) (hs : ∀ w, (sizeOf e).run P w = .ok k w) (hx : s.ev x = some (.row id n)) (hl : look s.objs id = some (.row e k l)) (hn : l.length = n)
    (hh : s.ev hi = some (.d (.v (.int kx j)))) (hj : j = m) (hm : m ≤ n) (ha : (s.junks js).alone id = true) :
    Local P ctx ⟨dst, .slice t x none (some hi) none, ty, pos, after, gd⟩ s (((s.junks js).setO id (.row e k (l.take m))).putD dst (.row id m)) :=
  local_value (o := ⟨dst, .slice t x none (some hi) none, ty, pos, after, gd⟩) fun a w g hg => by
    have hxv := hg.ev hx
    have hob := hg.objs id _ hl
    have hgj := hg.junks js
    have hlj : look (s.junks js).objs id = some (.row e k l) := by rw [junks_objs]; exact hl
    have hupd : upd g id (g id) = g := by funext q; unfold upd; split <;> simp_all
    have hre : ∀ (ob' : ObRd w g (Free ctx g (putO id (.row e k (l.take m)) (s.junks js).objs)) id (.row e k (l.take m))), RelG ctx g ((s.junks js).setO id (.row e k (l.take m))) a w := fun ob' => by
      have := hgj.reown hlj ha (g id) (ob := .row e k (l.take m)) rfl rfl rfl (Nat.le_refl _) (fun _ _ _ => rfl) (fun b n eb => .inl ⟨n, eb⟩) (by rw [hupd]; exact ob')
      rw [hupd] at this
      exact this
    have hst : Stays w w (Free ctx g s.objs) := ⟨Nat.le_refl _, fun _ _ _ => rfl⟩
    generalize hv : a.eval x = v at hxv
    cases hob with
    | rowNil _ _ hgn =>
      cases hxv with
      | row _ _ blk cap hgi => rw [hgn] at hgi; cases hgi
      | rowNil =>
        have hm0 : m = 0 := by omega
        subst hm0
        refine ⟨.slice none 0 0, w, ?_, g, (hre (.rowNil e k hgn)).put dst (.rowNil id hgn)⟩
        simp [execOp, hv, ev_int hg hh, Instr.sliceAt, Instr.slice, Instr.sliceBounds, run_underlying hu, hs, run_sliceBound' (P := P) hj (show 0 ≤ 0 from Nat.le_refl _), Result.andThen]
    | row _ _ _ blk' cap' cur hgi hh' hlc hcap hcs hkk hr' =>
      cases hxv with
      | rowNil _ hgn => rw [hgn] at hgi; cases hgi
      | row _ _ blk cap hgi' =>
        rw [hgi] at hgi'
        cases hgi'
        have hrow : ObRd w g (Free ctx g (putO id (.row e k (l.take m)) (s.junks js).objs)) id (.row e k (l.take m)) := by
          rw [junks_objs]
          refine .row e k _ blk' cap' cur hgi hh' (by simp; omega) hcap hcs (fun i cs hi => ?_) (fun i cs t x hi hx => ?_)
          · rw [List.getElem?_take] at hi
            split at hi
            · exact hkk i cs hi
            · cases hi
          · rw [List.getElem?_take] at hi
            split at hi
            · obtain ⟨u, h1, h2⟩ := hr' i cs t x hi hx
              exact ⟨u, h1, h2.keep hst (fun b hb _ => free_put hl b hb)⟩
            · cases hi
        refine ⟨.slice (some ⟨blk', 0, none⟩) m cap', w, ?_, g, (hre hrow).put dst (.row id m blk' cap' hgi)⟩
        simp [execOp, hv, ev_int hg hh, Instr.sliceAt, Instr.slice, Instr.sliceBounds, run_underlying hu, hs, run_sliceBound' (P := P) hj (show m ≤ cap' by omega), Addr.add_lit, Result.andThen]
end
end Go.Ep

namespace Go.Ep

/-- A computation: what must hold of what it answers, for it to end and answer so. -/
structure M (α : Type) where
  wp : (α → Prop) → Prop
  mono : ∀ {P Q : α → Prop}, (∀ a, P a → Q a) → wp P → wp Q
  meet : ∀ {P Q : α → Prop}, wp P → wp Q → ∃ a, P a ∧ Q a

namespace M
variable {α β γ σ ρ : Type}

theorem ext' {x y : M α} (h : ∀ Q, x.wp Q ↔ y.wp Q) : x = y := by
  obtain ⟨a, _, _⟩ := x
  obtain ⟨b, _, _⟩ := y
  have : a = b := funext fun Q => propext (h Q)
  subst this
  rfl

def pure (a : α) : M α := ⟨fun Q => Q a, fun h p => h _ p, fun p q => ⟨a, p, q⟩⟩
def bind (x : M α) (f : α → M β) : M β :=
  ⟨fun Q => x.wp fun a => (f a).wp Q, fun h p => x.mono (fun a => (f a).mono h) p, fun p q => let ⟨a, h1, h2⟩ := x.meet p q; (f a).meet h1 h2⟩
/-- A condition that must hold. -/
def need (p : Prop) (x : M α) : M α := ⟨fun Q => p ∧ x.wp Q, fun h ⟨h1, h2⟩ => ⟨h1, x.mono h h2⟩, fun ⟨_, h1⟩ ⟨_, h2⟩ => x.meet h1 h2⟩
/-- The answer must be one. -/
def det (x : M α) : M α := ⟨fun Q => ∃ a, x.wp (· = a) ∧ Q a, fun h ⟨a, h1, h2⟩ => ⟨a, h1, h a h2⟩, fun ⟨a, h1, h2⟩ ⟨b, h3, h4⟩ => by
  obtain ⟨c, h5, h6⟩ := x.meet h1 h3
  exact ⟨a, h2, by rw [← h5, h6]; exact h4⟩⟩
/-- Whichever that fits. -/
def any (p : α → Prop) : M α := ⟨fun Q => (∃ a, p a) ∧ ∀ a, p a → Q a, fun h ⟨h0, h1⟩ => ⟨h0, fun a ha => h a (h1 a ha)⟩, fun ⟨⟨a, ha⟩, h1⟩ ⟨_, h2⟩ => ⟨a, h1 a ha, h2 a ha⟩⟩

inductive Step (σ ρ : Type) where
  | next (s : σ)
  | done (r : ρ)
/-- Out of a piece of code: on behind it, or away with an answer. -/
inductive Ex (τ α : Type) where
  | brk (t : τ)
  | ret (a : α)
def exk (k : β → M α) : Ex β α → M α
  | .brk t => k t
  | .ret a => pure a

def Step.post (X : σ → Prop) (Q : ρ → Prop) : Step σ ρ → Prop
  | .next s => X s
  | .done r => Q r

def loopP (body : σ → M (Step σ ρ)) (Q : ρ → Prop) (s : σ) : Prop := ∀ X : σ → Prop, (∀ s, (body s).wp (Step.post X Q) → X s) → X s
theorem loopP_in {body : σ → M (Step σ ρ)} {Q : ρ → Prop} {s : σ} (h : (body s).wp (Step.post (loopP body Q) Q)) : loopP body Q s := fun X hX =>
  hX s ((body s).mono (fun o ho => by cases o with | next s' => exact ho X hX | done r => exact ho) h)
theorem loopP_out {body : σ → M (Step σ ρ)} {Q : ρ → Prop} {s : σ} (h : loopP body Q s) : (body s).wp (Step.post (loopP body Q) Q) :=
  h (fun s => (body s).wp (Step.post (loopP body Q) Q)) fun s hs => (body s).mono (fun o ho => by cases o with | next s' => exact loopP_in ho | done r => exact ho) hs
def loop (body : σ → M (Step σ ρ)) (s : σ) : M ρ :=
  ⟨fun Q => loopP body Q s, fun h p X hX => p X fun s hs => hX s ((body s).mono (fun o ho => by cases o with | next s' => exact ho | done r => exact h r ho) hs), fun {P Q} hp => by
    refine hp (fun s => loopP body Q s → ∃ a, P a ∧ Q a) fun s hs hq => ?_
    obtain ⟨o, h1, h2⟩ := (body s).meet hs (loopP_out hq)
    cases o with
    | next s' => exact h1 h2
    | done r => exact ⟨r, h1, h2⟩⟩

theorem pure_bind (a : α) (f : α → M β) : (pure a).bind f = f a := rfl
theorem bind_assoc (x : M α) (f : α → M β) (g : β → M γ) : (x.bind f).bind g = x.bind fun a => (f a).bind g := rfl
theorem need_true {p : Prop} (h : p) (x : M α) : need p x = x := ext' fun _ => ⟨fun h => h.2, fun hx => ⟨h, hx⟩⟩
theorem eq_pure {x : M α} {a : α} (h : x.wp (· = a)) : x = pure a := ext' fun Q =>
  ⟨fun hq => let ⟨b, h1, h2⟩ := x.meet h hq; by subst h1; exact h2, fun hq => x.mono (fun b hb => by subst hb; exact hq) h⟩
theorem det_pure (a : α) : det (pure a) = pure a := eq_pure ⟨a, rfl, rfl⟩
theorem exk_brk (k : β → M α) (t : β) : exk k (.brk t) = k t := rfl
theorem exk_ret (k : β → M α) (a : α) : exk k (.ret a) = pure a := rfl
theorem loop_eq (body : σ → M (Step σ ρ)) (s : σ) : loop body s = (body s).bind fun o => match o with | .next s' => loop body s' | .done r => pure r := ext' fun Q =>
  ⟨fun h => (body s).mono (fun o ho => by cases o with | next s' => exact ho | done r => exact ho) (loopP_out h), fun h => loopP_in ((body s).mono (fun o ho => by cases o with | next s' => exact ho | done r => exact ho) h)⟩
theorem loop_next {body : σ → M (Step σ ρ)} {s s' : σ} (h : body s = pure (.next s')) : loop body s = loop body s' := by rw [loop_eq, h]; rfl
theorem loop_done {body : σ → M (Step σ ρ)} {s : σ} {r : ρ} (h : body s = pure (.done r)) : loop body s = pure r := by rw [loop_eq, h]; rfl
theorem cond_pure_and (a b : Bool) : (cond a (pure b) (pure false) : M Bool) = pure (a && b) := by cases a <;> rfl
theorem cond_pure_or (a b : Bool) : (cond a (pure true) (pure b) : M Bool) = pure (a || b) := by cases a <;> rfl
/-- A loop: what holds at each round's head, and what goes down. -/
theorem loop_inv {body : σ → M (Step σ ρ)} {Q : ρ → Prop} (I : σ → Prop) (mu : σ → Nat) (h : ∀ s, I s → (body s).wp (Step.post (fun s' => I s' ∧ mu s' < mu s) Q)) (s0 : σ) (h0 : I s0) : (loop body s0).wp Q := by
  have key : ∀ n s, mu s = n → I s → loopP body Q s := by
    intro n
    induction n using Nat.strongRecOn with
    | _ n ih =>
      intro s hn hI
      refine loopP_in ((body s).mono (fun o ho => ?_) (h s hI))
      cases o with
      | next s' => exact ih (mu s') (hn ▸ ho.2) s' rfl ho.1
      | done r => exact ho
  exact key _ s0 rfl h0

end M

namespace M
variable {α β : Type}
/-- An element. -/
def idx (l : List α) (i : Int) : M α := ⟨fun Q => ∃ y, (0 ≤ i ∧ l[i.toNat]? = some y) ∧ Q y, fun h ⟨y, h1, h2⟩ => ⟨y, h1, h y h2⟩, fun ⟨y, h1, h2⟩ ⟨z, h3, h4⟩ => ⟨y, h2, by have := h1.2.symm.trans h3.2; cases this; exact h4⟩⟩
theorem idx_eq {l : List α} {i : Int} {y : α} (h0 : 0 ≤ i) (h : l[i.toNat]? = some y) : idx l i = pure y := eq_pure ⟨y, ⟨h0, h⟩, rfl⟩
theorem idx_nat {l : List α} {i : Nat} {y : α} (h : l[i]? = some y) : idx l (i : Int) = pure y := idx_eq (by omega) (by simpa using h)
/-- More behind, each of so many bytes. -/
def app (bs : Nat) (l r : List α) : M (List α) := need ((l.length + r.length) * bs ≤ 140737488355328) (pure (l ++ r))
/-- Another element in a place. -/
def upd (l : List α) (i : Int) (y : α) : M (List α) := need (0 ≤ i ∧ i < l.length) (pure (l.set i.toNat y))
end M

/-- A string's bytes; a string of bytes. -/
def bytesL (s : ByteArray) : List Int := s.data.toList.map fun b => (b.toNat : Int)
def strL (l : List Int) : ByteArray := l.foldl (fun r n => r.push (UInt8.ofNat n.toNat)) ByteArray.empty
namespace AL
variable {κ ν : Type} [DecidableEq κ]
def get : List (κ × ν) → κ → Option ν
  | [], _ => none
  | (k, v) :: r, x => if k = x then some v else get r x
def set : List (κ × ν) → κ → ν → List (κ × ν)
  | [], x, u => [(x, u)]
  | (k, v) :: r, x, u => if k = x then (k, u) :: r else (k, v) :: set r x u
def getZ (m : List (κ × ν)) (x : κ) (z : ν) : ν := (get m x).getD z
def has (m : List (κ × ν)) (x : κ) : Bool := (get m x).isSome
/-- Rows that grow, by keys. -/
def grow {α : Type} (m : List (κ × List α)) (l : List (κ × List α)) : List (κ × List α) := l.foldl (fun m x => set m x.1 (getZ m x.1 [] ++ x.2)) m
def growOK {α : Type} (bs n : Nat) (l : List (κ × List α)) : Prop := n < 9223372036854775807 ∧ (l.map fun x => x.2.length).sum * bs ≤ 140737488355328
end AL

namespace M
/-- The next entry of a map that is gone over: none, if all came; whichever that has not come, else. -/
def nxt (n : Nat) (L : List Nat) : M (Option Nat) := any fun o => match o with | none => ∀ i, i < n → i ∈ L | some i => i < n ∧ i ∉ L
/-- Is a list nil? At most one without elements is. -/
def isNil {α : Type} (l : List α) : M Bool := any fun b => b = true → l = []
/-- Sorted. -/
def srt {α : Type} (lt : α → α → Bool) (l : List α) : M (List α) := any fun l' => l'.Perm l ∧ l'.Pairwise fun x y => lt y x = false
end M
end Go.Ep

namespace Go.Ep
open Go.RowKit

section
variable {α β : Type} {Q : β → Prop}
theorem iIdx {l : List α} {i : Int} {k : α → M β} (h : ((M.idx l i).bind k).wp Q) : ∃ y, (0 ≤ i ∧ l[i.toNat]? = some y) ∧ (k y).wp Q := h
theorem iNeed {p : Prop} {x : M β} (h : (M.need p x).wp Q) : p ∧ x.wp Q := h
theorem iDet {x : M α} {k : α → M β} (h : (x.det.bind k).wp Q) : ∃ r, x.wp (· = r) ∧ (k r).wp Q := h
theorem iSrt {lt : α → α → Bool} {l : List α} {k : List α → M β} (h : ((M.srt lt l).bind k).wp Q) : ∀ l' : List α, l'.Perm l → l'.Pairwise (fun x y => lt y x = false) → (k l').wp Q := fun l' h1 h2 => h.2 l' ⟨h1, h2⟩
theorem iNil {l : List α} {k : Bool → M β} (h : ((M.isNil l).bind k).wp Q) : ∀ b, (b = true → l = []) → (k b).wp Q := fun b hb => h.2 b hb
theorem iBind {x : M α} {k : α → M β} (h : (x.bind k).wp Q) : x.wp fun a => (k a).wp Q := h
theorem iT {b : Bool} {x y : M β} (hb : b = true) (h : (cond b x y).wp Q) : x.wp Q := by subst hb; exact h
theorem iF {b : Bool} {x y : M β} (hb : b = false) (h : (cond b x y).wp Q) : y.wp Q := by subst hb; exact h
end

def encM {κ ν : Type} (eK : κ → List Int) (eV : ν → List DV) (m : List (κ × ν)) : Mp := m.map fun x => (eK x.1, eV x.2)
section
variable {κ ν : Type} [DecidableEq κ] {eK : κ → List Int} {eV : ν → List DV} (inj : ∀ a b, eK a = eK b → a = b)
include inj
theorem mget_encM (m : List (κ × ν)) (k : κ) : mget (encM eK eV m) (eK k) = (AL.get m k).map eV := by
  induction m with
  | nil => rfl
  | cons x r ih =>
    obtain ⟨a, v⟩ := x
    show (if eK a = eK k then _ else _) = _
    by_cases h : a = k
    · subst h; simp [AL.get]
    · rw [if_neg (fun e => h (inj _ _ e))]
      simp only [AL.get, h, if_false]
      exact ih
end
section
variable {P : Program} {ctx : Ctx} {Q : PQ} {s : PState}
variable {dst : Option Tmp} {ty : TypeId} {pos : String} {after : Array Edge} {gd : Option (Nat × Bool)}

def LoopAt (P : Program) (c : Code) (Q : Exit → Act → World → Prop) (a : Act) (w : World) : Prop := ∀ (b : Frame) (k : List Item) (cs : List Frame),
  ∃ e a' w', Q e a' w' ∧ Arrives P (lone (b.at a (.code c :: .inLoop c :: k)) cs w) b k cs e a' w'
theorem LoopAt.step {c : Code} {Q : Exit → Act → World → Prop} {a : Act} {w : World} (h : c.wp P (Exit.then (LoopAt P c Q) Q) a w) : LoopAt P c Q a w := by
  intro b k cs
  obtain ⟨e, a₁, w₁, hq, harr⟩ := h b (.inLoop c :: k) cs
  cases e with
  | normal =>
    obtain ⟨e₂, a₂, w₂, hq₂, harr₂⟩ := hq b k cs
    exact ⟨e₂, a₂, w₂, hq₂, .of_steps (Steps.trans harr (.one step_inLoop)) harr₂⟩
  | exit id => exact ⟨_, a₁, w₁, hq, .pass (x := .inLoop c) rfl (fun _ _ => .inl (by simp)) harr⟩
  | goto l => exact ⟨_, a₁, w₁, hq, .pass (x := .inLoop c) rfl (fun _ _ => .inl (by simp)) harr⟩
  | ret => exact ⟨_, a₁, w₁, hq, .pass (x := .inLoop c) rfl (fun _ _ => .inl (by simp)) harr⟩
  | panic ch => exact ⟨_, a₁, w₁, hq, .pass (x := .inLoop c) rfl (fun _ _ => .inl (by simp)) harr⟩
  | outgrown => exact ⟨_, a₁, w₁, hq, .pass (x := .inLoop c) rfl (fun _ _ => .inl (by simp)) harr⟩
theorem LoopAt.loop {c : Code} {Q : Exit → Act → World → Prop} {a : Act} {w : World} (h : LoopAt P c Q a w) : (Code.loop c).wp P Q a w := fun b k cs =>
  let ⟨e, a', w', hq, harr⟩ := h b k cs
  ⟨e, a', w', hq, .of_steps (.one step_loop) harr⟩

theorem PWc.loopM {σ ρ G : Type} {c : Code} {body : σ → M (M.Step σ ρ)} {s0 : σ} {R : ρ → Prop} (J : σ → G → PState) (g0 : G) (h : (M.loop body s0).wp R) (hs : Sub ctx s (J s0 g0))
    (round : ∀ (N : σ → Prop) (x : σ) (g : G), (body x).wp (M.Step.post N R) → PWc P ctx c (Then (fun t => ∃ y g', N y ∧ Sub ctx t (J y g')) Q) (J x g)) : PWc P ctx (.loop c) Q s := by
  intro a w hr
  refine LoopAt.loop ?_
  have key : ∀ g a w, Rel ctx (J s0 g) a w → LoopAt P c (lift ctx Q) a w := by
    refine h (fun x => ∀ g a w, Rel ctx (J x g) a w → LoopAt P c (lift ctx Q) a w) fun x hx g a w hr => ?_
    refine LoopAt.step (wp_mono (round _ x g hx a w hr) fun e a' w' ⟨t, h1, h2⟩ => ?_)
    cases e with
    | normal =>
      obtain ⟨y, g', hy, hsub⟩ := h1
      exact hy g' a' w' (hsub a' w' h2)
    | _ => exact ⟨t, h1, h2⟩
  exact key g0 a w (hs a w hr)

def Jn (ctx : Ctx) (Q : PQ) {τ G : Type} (J : τ → G → PState) (N : τ → Prop) : PQ
  | .normal, t => ∃ v g, N v ∧ Sub ctx t (J v g)
  | e, t => Q e t
section
variable {α : Type} {enc : α → List DV} {L R : List α}
theorem LR.idxT {x ix : Operand} {ki : IntKind} {i : Int} {k : Nat} {y : α} {t e : TypeId} (hu : P.underlying t = some (.slice e)) (hs : ∀ w, (sizeOf e).run P w = .ok k w)
    (hx : s.ev x = some (.d (.sl (L.map enc)))) (hix : s.ev ix = some (.d (.v (.int ki i)))) (hy : 0 ≤ i ∧ L[i.toNat]? = some y) (hk : ∀ x, (enc x).length = k) :
    Local P ctx ⟨dst, .indexAddr t x ix, ty, pos, after, gd⟩ s (s.putD dst (.ep (enc y) 0)) :=
  LR.idxSl (n := i.toNat) hu hs hx hix (by omega) (by simp [hy.2]) (hk _)
theorem LR.idxRowT {x ix : Operand} {id m : Nat} {ki : IntKind} {i : Int} {k : Nat} {y : α} {t e : TypeId} (hu : P.underlying t = some (.slice e)) (hs : ∀ w, (sizeOf e).run P w = .ok k w)
    (hx : s.ev x = some (.row id m)) (hm : m = L.length) (hix : s.ev ix = some (.d (.v (.int ki i)))) (hy : 0 ≤ i ∧ L[i.toNat]? = some y) :
    Local P ctx ⟨dst, .indexAddr t x ix, ty, pos, after, gd⟩ s (s.putD dst (.rp id i.toNat 0 k)) :=
  LR.idxRow hu hs hx hix (by omega) (by rw [hm]; exact (List.getElem?_eq_some_iff.1 hy.2).1)
theorem LR.loadRpT {x : Operand} {id n k : Nat} {T T0 : TypeId} {y : α} (ha : ∀ w, (isAgg T).run P w = .ok true w) (hs : ∀ w, (sizeOf T).run P w = .ok k w) (hx : s.ev x = some (.rp id n 0 k)) (hl : look s.objs id = some (.row T0 k (L.map enc))) (hy : L[n]? = some y) :
    Local P ctx ⟨dst, .load T x, ty, pos, after, gd⟩ s (s.putD dst (.agg ((enc y).map .d))) := LR.loadRpAgg ha hs hx hl (by simp [hy])
theorem LR.loadRpF {x : Operand} {id n o k : Nat} {T T0 : TypeId} {y : α} {z : DV} (ha : ∀ w, (isAgg T).run P w = .ok false w) (hx : s.ev x = some (.rp id n o k)) (hl : look s.objs id = some (.row T0 k (L.map enc))) (hy : L[n]? = some y) (hz : (enc y)[o]? = some z) :
    Local P ctx ⟨dst, .load T x, ty, pos, after, gd⟩ s (s.putD dst (.d z)) := LR.loadRp ha hx hl (by simp [hy]) hz
theorem LR.storeRpT {x y : Operand} {id n o k m : Nat} {T T0 : TypeId} {a b : α} {ys : List DV} {p : PV} (hs : ∀ w, (sizeOf T).run P w = .ok m w) (hx : s.ev x = some (.rp id n o k)) (hy : s.ev y = some p) (hp : p.dparts = some ys) (hm : ys.length = m)
    (hl : look s.objs id = some (.row T0 k (L.map enc))) (hi : L[n]? = some a) (hlen : Nat.ble (o + m) k = true) (hns : (enc a).take o ++ ys ++ (enc a).drop (o + m) = enc b) :
    Local P ctx ⟨none, .store T x y, ty, pos, after, gd⟩ s (s.setO id (.row T0 k ((L.set n b).map enc))) := by
  have := LR.storeRpB (P := P) (ctx := ctx) (ty := ty) (pos := pos) (after := after) (gd := gd) hs hx hy hp hm hl (by simp [hi]) hlen hns
  rwa [← List.map_set] at this
theorem LR.cutT {x lo hi : Operand} {k : Nat} {t e : TypeId} {k1 k2 : IntKind} {i j : Int} (hu : P.underlying t = some (.slice e)) (hs : ∀ w, (sizeOf e).run P w = .ok k w) (hx : s.ev x = some (.d (.sl (L.map enc)))) (hk : ∀ x, (enc x).length = k)
    (h1 : s.ev lo = some (.d (.v (.int k1 i)))) (h2 : s.ev hi = some (.d (.v (.int k2 j)))) (hb : 0 ≤ i ∧ i ≤ j ∧ j ≤ L.length) :
    Local P ctx ⟨dst, .slice t x (some lo) (some hi) none, ty, pos, after, gd⟩ s (s.putD dst (.d (.sl (((L.take j.toNat).drop i.toNat).map enc)))) := by
  have := LR.sliceLH (P := P) (ctx := ctx) (dst := dst) (ty := ty) (pos := pos) (after := after) (gd := gd) (m := i.toNat) (n := j.toNat) hu hs hx (eachMap hk L) h1 h2 (by omega) (by omega) (by omega) (by simp; omega)
  rwa [← List.map_take, ← List.map_drop] at this
theorem LR.appT {x y : Operand} {id m k bs : Nat} {t t' e e' : TypeId} (js : List Nat) (hE : ElemOK P t e k bs) (hu' : P.underlying t' = some (.slice e')) (hx : s.ev x = some (.row id m)) (hm : m = L.length) (hl : look s.objs id = some (.row e k (L.map enc)))
    (hy : Src ctx s y (R.map enc) k) (hk : ∀ x, (enc x).length = k) (hb : (L.length + R.length) * bs ≤ 140737488355328) (h1 : Nat.ble 1 bs = true) (ha : (s.junks js).alone id = true) :
    Local P ctx ⟨dst, .call ⟨.builtin .append, #[x, y], #[t, t']⟩, ty, pos, after, gd⟩ s (((s.junks js).setO id (.row e k ((L ++ R).map enc))).putD dst (.row id (L ++ R).length)) := by
  subst hm
  have h2 := Nat.le_of_ble_eq_true h1
  have h3 : (L.length + R.length) * 1 ≤ (L.length + R.length) * bs := Nat.mul_le_mul_left _ h2
  have := LR.append (P := P) (ctx := ctx) (dst := dst) (ty := ty) (pos := pos) (after := after) (gd := gd) js hE hu' hx hl (by simp) hy (eachMap hk R) (by simpa using hb) (by simp; omega) ha
  simpa using this
theorem Src.slT {y : Operand} {k : Nat} (hy : s.ev y = some (.d (.sl (R.map enc)))) (hk : ∀ x, (enc x).length = k) : Src ctx s y (R.map enc) k := Src.sl hy (eachMap hk R)
theorem Src.rowT {y : Operand} {id m k : Nat} {T : TypeId} (hy : s.ev y = some (.row id m)) (hl : look s.objs id = some (.row T k (R.map enc))) (hm : m = R.length) : Src ctx s y (R.map enc) k := Src.row hy hl (by simpa using hm.symm)
theorem LR.rowT {id : Nat} {x : Operand} {xs : List Operand} {ats : Array TypeId} {f : FuncId} {ps : List PV} {e : TypeId} {k : Nat} (hc : PRow P f ps e k (L.map enc)) (hx : s.ev x = some (.d (.v (.func (.func f) #[] #[])))) (he : ∀ args w, (callFunc f args).run P w = .ok (.enter f args) w)
    (hps : s.evs xs = some ps) (hd : PV.isData.isDataL ps = true) (hf : s.fresh id = true) :
    Local P ctx ⟨some id, .call ⟨.value x, xs.toArray, ats⟩, ty, pos, after, gd⟩ s (s.newO id (.row e k (L.map enc)) (.row id L.length)) := by
  have := LR.callRow (P := P) (ctx := ctx) (ty := ty) (pos := pos) (after := after) (gd := gd) (id := id) (ats := ats) hc hx he hps hd hf
  rwa [List.length_map] at this
end

section
variable {κ ν : Type} [DecidableEq κ] {eK : κ → List Int} {eV : ν → List DV} {m : List (κ × ν)} {q : κ} {zv : ν} (inj : ∀ a b, eK a = eK b → a = b)
variable {x kx : Operand} {t kt et : TypeId} {ks : List IntKind} {ag : Bool} {z : Value} {p kp : PV}
theorem getD_map {o : Option ν} : (o.map eV).getD (eV zv) = eV (o.getD zv) := by cases o <;> rfl
section
variable (hu : P.underlying t = some (.map kt et)) (K : KeyOK P kt ks) (hz : ∀ w, (zeroValue et).run P w = .ok z w) (hzr : ∀ (w : World) (g : Ghost) (S : Nat → Prop), Rd w g S (elP ag (eV zv)) z) (hk : s.ev kx = some kp) (hkp : kp = keyP ks (eK q)) (hn : (eK q).length = ks.length) (hp : elP ag (eV (AL.getZ m q zv)) = p)
include inj hu K hz hzr hk hkp hn hp
theorem LR.getO {id : Nat} {bs : List Nat} {ck : Nat} (hx : s.ev x = some (.mp id)) (hl : look s.objs id = some (.map ks ag (encM eK eV m) bs ck)) : Local P ctx ⟨dst, .lookup t x kx false, ty, pos, after, gd⟩ s (s.putD dst p) :=
  LR.lookupO hu K hz hzr (by rw [hk, hkp]) hn (by rw [mget_encM inj, getD_map]; exact hp) hx hl
theorem LR.getD (hx : s.ev x = some (.md ks ag (encM eK eV m))) : Local P ctx ⟨dst, .lookup t x kx false, ty, pos, after, gd⟩ s (s.putD dst p) :=
  LR.lookupD hu K hz hzr (by rw [hk, hkp]) hn (by rw [mget_encM inj, getD_map]; exact hp) hx
end
section
variable {id : Nat} {bs : List Nat} {ck : Nat} {vx : Operand} {v : ν} (hu : P.underlying t = some (.map kt et)) (K : KeyOK P kt ks) (hx : s.ev x = some (.mp id)) (hl : look s.objs id = some (.map ks ag (encM eK eV m) bs ck))
    (hk : s.ev kx = some kp) (hkp : kp = keyP ks (eK q)) (hn : (eK q).length = ks.length)
include inj hu K hx hl hk hkp hn
end
end
end
end Go.Ep
namespace Go.Ep
def PV.nilD : PV → PV
  | .d (.v (.slice none 0 0)) => .d (.sl [])
  | p => p
theorem Rd.nilD {w : World} {g : Ghost} {S : Nat → Prop} {p : PV} {u : Value} (h : Rd w g S p u) : Rd w g S p.nilD u := by
  unfold PV.nilD
  split
  · have := h.of_v; subst this; exact .d (.nil none 0 (Nat.zero_le _) (fun _ => rfl))
  · exact h
section
variable {P : Program} {ctx : Ctx} {Q : PQ} {s : PState}
variable {dst : Option Tmp} {ty : TypeId} {pos : String} {after : Array Edge} {gd : Option (Nat × Bool)}
theorem PV.isData_nilD {p : PV} (h : p.nilD.isData = true) : p.isData = true := by
  unfold PV.nilD at h
  split at h
  · rfl
  · exact h
theorem isDataL_nilD : ∀ {ps : List PV}, PV.isData.isDataL (ps.map PV.nilD) = true → PV.isData.isDataL ps = true
  | [], _ => rfl
  | p :: r, h => by
    simp only [List.map_cons, PV.isData.isDataL, Bool.and_eq_true] at h ⊢
    exact ⟨PV.isData_nilD h.1, isDataL_nilD h.2⟩
theorem PFun.nilD {f : FuncId} {ps : List PV} {r : PV} (h : PFun P f (ps.map PV.nilD) r) : PFun P f ps r := fun w S vs hl hv =>
  h w S vs (by simpa using hl) fun i p v hp hu => by
    rw [List.getElem?_map] at hp
    cases hq : ps[i]? with
    | none => simp [hq] at hp
    | some q => simp [hq] at hp; subst hp; exact (hv i q v hq hu).nilD
theorem PRow.nilD {f : FuncId} {ps : List PV} {e : TypeId} {k : Nat} {l : List (List DV)} (h : PRow P f (ps.map PV.nilD) e k l) : PRow P f ps e k l := fun w S vs hl hv =>
  h w S vs (by simpa using hl) fun i p v hp hu => by
    rw [List.getElem?_map] at hp
    cases hq : ps[i]? with
    | none => simp [hq] at hp
    | some q => simp [hq] at hp; subst hp; exact (hv i q v hq hu).nilD
theorem PMap.nilD {f : FuncId} {ps : List PV} {ks : List IntKind} {ag : Bool} {m : Mp} (h : PMap P f (ps.map PV.nilD) ks ag m) : PMap P f ps ks ag m := fun w S vs hl hv =>
  h w S vs (by simpa using hl) fun i p v hp hu => by
    rw [List.getElem?_map] at hp
    cases hq : ps[i]? with
    | none => simp [hq] at hp
    | some q => simp [hq] at hp; subst hp; exact (hv i q v hq hu).nilD
theorem LR.callN {x : Operand} {xs : List Operand} {ats : Array TypeId} {f : FuncId} {ps qs : List PV} {r : PV} (hc : PFun P f ps r) (hx : s.ev x = some (.d (.v (.func (.func f) #[] #[])))) (he : ∀ args w, (callFunc f args).run P w = .ok (.enter f args) w)
    (hps : s.evs xs = some qs) (hq : qs.map PV.nilD = ps) (hd : PV.isData.isDataL ps = true) (hr : r.isData = true) :
    Local P ctx ⟨dst, .call ⟨.value x, xs.toArray, ats⟩, ty, pos, after, gd⟩ s (s.putD dst r) := by
  subst hq
  exact LR.call hc.nilD hx he hps (isDataL_nilD hd) hr
theorem LR.rowN {α : Type} {enc : α → List DV} {L : List α} {id : Nat} {x : Operand} {xs : List Operand} {ats : Array TypeId} {f : FuncId} {ps qs : List PV} {e : TypeId} {k : Nat} (hc : PRow P f ps e k (L.map enc)) (hx : s.ev x = some (.d (.v (.func (.func f) #[] #[])))) (he : ∀ args w, (callFunc f args).run P w = .ok (.enter f args) w)
    (hps : s.evs xs = some qs) (hq : qs.map PV.nilD = ps) (hd : PV.isData.isDataL ps = true) (hf : s.fresh id = true) :
    Local P ctx ⟨some id, .call ⟨.value x, xs.toArray, ats⟩, ty, pos, after, gd⟩ s (s.newO id (.row e k (L.map enc)) (.row id L.length)) := by
  subst hq
  exact LR.rowT hc.nilD hx he hps (isDataL_nilD hd) hf
theorem PWl.mapN {ops : Array Oper} {rest : List Oper} {id : Nat} {x : Operand} {xs : List Operand} {ats : Array TypeId} {f : FuncId} {ps qs : List PV} {ks : List IntKind} {ag : Bool} {m : Mp} (hc : PMap P f ps ks ag m) (hx : s.ev x = some (.d (.v (.func (.func f) #[] #[])))) (he : ∀ args w, (callFunc f args).run P w = .ok (.enter f args) w)
    (hps : s.evs xs = some qs) (hq : qs.map PV.nilD = ps) (hd : PV.isData.isDataL ps = true) (hf : s.fresh id = true) (hgd : gd = none)
    (h : ∀ bs ck, bs.length = m.length → PWl P ctx ops Q rest (s.newO id (.map ks ag m bs ck) (.mp id))) : PWl P ctx ops Q (⟨some id, .call ⟨.value x, xs.toArray, ats⟩, ty, pos, after, gd⟩ :: rest) s := by
  subst hq
  exact PWl.callMap hc.nilD hx he hps (isDataL_nilD hd) hf hgd h
end
end Go.Ep
namespace Go.Ep
def eK (k : IntKind) (n : Int) : List DV := [.v (.int k n)]
def eS (s : ByteArray) : List DV := [.v (.string s)]
def eL {α : Type} (enc : α → List DV) (l : List α) : List DV := [.sl (l.map enc)]
def kI (n : Int) : List Int := [n]
theorem kI_inj (a b : Int) (h : kI a = kI b) : a = b := by simpa [kI] using h
section
variable {P : Program} {ctx : Ctx} {Q : PQ} {s : PState}
variable {dst : Option Tmp} {ty : TypeId} {pos : String} {after : Array Edge} {gd : Option (Nat × Bool)}

/-- Ways that meet again. -/
theorem PWc.jn {c : Code} {τ G : Type} {m : M τ} {N : τ → Prop} (h : m.wp N) (J : τ → G → PState) (i : m.wp N → PWc P ctx c (Jn ctx Q J N) s) (k : ∀ v g, N v → Q .normal (J v g))
    (hK : ∀ t u, Sub ctx t u → Q .normal u → Q .normal t := by first | exact fun _ _ hs h => PWc.sub hs h | exact fun _ _ hs ⟨v, g, h1, h2⟩ => ⟨v, g, h1, Sub.trans hs h2⟩) : PWc P ctx c Q s :=
  (i h).mono fun e t hq => by
    cases e with
    | normal => obtain ⟨v, g, hv, hs⟩ := hq; exact hK t _ hs (k v g hv)
    | _ => exact hq
theorem PWc.jnX {c : Code} {τ G α : Type} {m : M (M.Ex τ α)} {N : M.Ex τ α → Prop} (h : m.wp N) (J : τ → G → PState) (i : m.wp N → PWc P ctx c (Jn ctx Q J fun v => N (.brk v)) s) (k : ∀ v g, N (.brk v) → Q .normal (J v g))
    (hK : ∀ t u, Sub ctx t u → Q .normal u → Q .normal t := by first | exact fun _ _ hs h => PWc.sub hs h | exact fun _ _ hs ⟨v, g, h1, h2⟩ => ⟨v, g, h1, Sub.trans hs h2⟩) : PWc P ctx c Q s :=
  (i h).mono fun e t hq => by
    cases e with
    | normal => obtain ⟨v, g, hv, hs⟩ := hq; exact hK t _ hs (k v g hv)
    | _ => exact hq

section
variable {κ ν : Type} {eK : κ → List Int} {eV : ν → List DV} {m : List (κ × ν)}
end
theorem PWl.makeT {α : Type} {enc : α → List DV} {z : α} {ops : Array Oper} {rest : List Oper} {id k bs : Nat} {t e : TypeId} {x y : Operand} {kl kc : IntKind} {L : Int} {zv : Value} {zs : List Value} (hb : 0 ≤ L ∧ L * bs ≤ 140737488355328) (hE : ElemOK P t e k bs) (hzv : ∀ w, (zeroValue e).run P w = .ok zv w) (hzc : zv.cells = zs.toArray) (h1 : (zs.all Value.oneCell') = true)
    (hz : enc z = zs.map zdv) (hx : s.ev x = some (.d (.v (.int kl L)))) (hy : s.ev y = some (.d (.v (.int kc L)))) (hf : s.fresh id = true) (hgd : gd = none) (hbs : Nat.ble 1 bs = true)
    (h : PWl P ctx ops Q rest (s.newO id (.row e k (List.map enc (List.replicate L.toNat z))) (.row id L.toNat))) : PWl P ctx ops Q (⟨some id, .makeSlice t x y, ty, pos, after, gd⟩ :: rest) s := by
  obtain ⟨h0, h2⟩ := hb
  have h3 : bs * L.toNat ≤ 140737488355328 := by
    have : ((bs * L.toNat : Nat) : Int) ≤ 140737488355328 := by
      rw [Int.natCast_mul, Int.toNat_of_nonneg h0, Int.mul_comm]; exact h2
    omega
  have h4 : L.toNat ≤ bs * L.toNat := by
    have := Nat.mul_le_mul_right L.toNat (Nat.le_of_ble_eq_true hbs)
    omega
  have hr := LR.makeN (P := P) (ctx := ctx) (s := s) (ty := ty) (pos := pos) (after := after) (gd := gd) (id := id) (n := L.toNat) hE hzv hzc h1 hx hy (by omega) (by omega) (by omega) (by omega) hf
  rw [← hz, ← List.map_replicate] at hr
  exact PWl.step hr hgd h
end
end Go.Ep
namespace Go.Ep
section
variable {P : Program} {ctx : Ctx} {Q : PQ} {s : PState}
variable {dst : Option Tmp} {ty : TypeId} {pos : String} {after : Array Edge} {gd : Option (Nat × Bool)}
section
variable {x y : Operand} {k ky : IntKind} {m n r : Int} {t t' : TypeId} (hx : s.ev x = some (.d (.v (.int k m)))) (hy : s.ev y = some (.d (.v (.int ky n))))
include hx hy
theorem LR.shr (h0 : 0 ≤ n) (hr : m.fdiv (2 ^ min n.toNat k.bits) = r) : Local P ctx ⟨dst, .binOp .shr t x y t', ty, pos, after, gd⟩ s (s.putD dst (.d (.v (.int k r)))) := by
  subst hr
  have hn : ¬ n < 0 := by omega
  exact local_pure (o := ⟨dst, .binOp .shr t x y t', ty, pos, after, gd⟩) fun a w _ hg => ⟨_, by simp [execOp, ev_int hg hx, ev_int hg hy, eqGuard_shr, binOp_shr, Op.shift, hn], .d (.v _ rfl)⟩
end
section
variable {x y : Operand} {k : IntKind} {m n : Int} {t t' : TypeId} (hx : s.ev x = some (.d (.v (.int k m)))) (hy : s.ev y = some (.d (.v (.int k n))))
include hx hy
theorem LR.and : Local P ctx ⟨dst, .binOp .and t x y t', ty, pos, after, gd⟩ s (s.putD dst (.d (.v (.int k (Go.bits .and k m n))))) := local_bin hx hy (fun w => by simp [binOp_and, intBits_and]) rfl
theorem LR.or : Local P ctx ⟨dst, .binOp .or t x y t', ty, pos, after, gd⟩ s (s.putD dst (.d (.v (.int k (Go.bits .or k m n))))) := local_bin hx hy (fun w => by simp [binOp_or, intBits_or]) rfl
end
end
end Go.Ep
namespace Go.Ep
theorem PWl.eqlNilT {P : Program} {ctx : Ctx} {Q : PQ} {s : PState} {dst : Option Tmp} {ty : TypeId} {pos : String} {after : Array Edge} {gd : Option (Nat × Bool)} {α : Type} {enc : α → List DV} {L : List α} {ops : Array Oper} {rest : List Oper} {x : Operand} {t t' e : TypeId} (hu : P.underlying t = some (.slice e)) (hx : s.ev x = some (.d (.sl (L.map enc)))) (hg : gd = none)
    (h : ∀ b : Bool, (b = true → L = []) → PWl P ctx ops Q rest (s.putD dst (.d (.v (.bool b))))) : PWl P ctx ops Q (⟨dst, .binOp .eql t x (.const (.slice none 0 0)) t', ty, pos, after, gd⟩ :: rest) s :=
  PWl.eqlNil hu hx hg fun b hb => h b fun e => by simpa using hb e
end Go.Ep
namespace Go.Ep
section
variable {P : Program} {ctx : Ctx} {Q : PQ} {s : PState}
variable {dst : Option Tmp} {ty : TypeId} {pos : String} {after : Array Edge} {gd : Option (Nat × Bool)}
theorem LR.cutRowT {α : Type} {enc : α → List DV} {L : List α} {x hi : Operand} {id m k : Nat} {t e : TypeId} {kx : IntKind} {j : Int} (js : List Nat) (hu : P.underlying t = some (.slice e)) (hs : ∀ w, (sizeOf e).run P w = .ok k w) (hx : s.ev x = some (.row id m)) (hm : m = L.length) (hl : look s.objs id = some (.row e k (L.map enc)))
    (hh : s.ev hi = some (.d (.v (.int kx j)))) (hb : 0 ≤ (0 : Int) ∧ 0 ≤ j ∧ j ≤ (L.length : Int)) (ha : (s.junks js).alone id = true) :
    Local P ctx ⟨dst, .slice t x none (some hi) none, ty, pos, after, gd⟩ s (((s.junks js).setO id (.row e k (List.map enc (L.take j.toNat)))).putD dst (.row id j.toNat)) := by
  have := LR.cutRow (P := P) (ctx := ctx) (dst := dst) (ty := ty) (pos := pos) (after := after) (gd := gd) (m := j.toNat) js hu hs hx hl (by simp [hm]) hh (by omega) (by omega) ha
  rwa [← List.map_take] at this
end
end Go.Ep
namespace Go.Ep
end Go.Ep
namespace Go.Ep
section
variable {P : Program} {ctx : Ctx} {ops : Array Oper} {Q : PState → Prop}
theorem putD_sub {s t : PState} (hn : s.n = t.n) (h : ∀ i p, t.at i = some p → s.at i = some p) (d : Option Nat) (q : PV) : ∀ i p, (t.putD d q).at i = some p → (s.putD d q).at i = some p := by
  cases d with
  | none => exact h
  | some d =>
    intro i p hp
    simp only [PState.putD, put_at_eq] at hp ⊢
    by_cases h1 : i < t.n
    · rw [if_pos h1] at hp; rw [if_pos (by omega)]
      by_cases h2 : d = i
      · rw [if_pos h2] at hp ⊢; exact hp
      · rw [if_neg h2] at hp ⊢; exact h i p hp
    · rw [if_neg h1] at hp; cases hp
theorem ev_sub {s t : PState} (h : ∀ i p, t.at i = some p → s.at i = some p) {x : Operand} {q : PV} (hx : t.ev x = some q) : s.ev x = some q := by
  cases x with
  | tmp i => exact h i q hx
  | const v => cases v <;> exact hx
  | func f => exact hx
  | global g => exact hx
theorem PQl.forget {l : List Oper} {t : PState} (h : PQl P ctx ops Q l t) : ∀ {s : PState}, s.n = t.n → (∀ i p, t.at i = some p → s.at i = some p) → s.objs = t.objs → PQl P ctx ops Q l s := by
  induction h with
  | fin h hs => intro s hn hi ho; exact .fin h (Sub.trans (Sub.drop hn hi (fun id o hl => by rw [ho]; exact hl)) hs)
  | step hl hg _ ih => intro s hn hi ho; exact .step (fun s' h1 h2 => hl s' (fun hx hq => h1 hx (ev_sub hi hq)) (fun hob => h2 (by rw [ho]; exact hob))) hg (ih (by simp [putD_len, hn]) (putD_sub hn hi _ _) (by simp [putD_objs, ho]))
  | guardT hl hg hd hs _ ih => intro s hn hi ho; exact .guardT (fun s' h1 h2 => hl s' (fun hx hq => h1 hx (ev_sub hi hq)) (fun hob => h2 (by rw [ho]; exact hob))) hg hd (hi _ _ hs) (ih (by simp [putD_len, hn]) (putD_sub hn hi _ _) (by simp [putD_objs, ho]))
  | guardF hg hd hs hbc _ ih => intro s hn hi ho; exact .guardF hg hd (hi _ _ hs) hbc (ih (by simp [putD_len, hn]) (putD_sub hn hi _ _) (by simp [putD_objs, ho]))
  | guardU hg hd hs _ ih => intro s hn hi ho; exact .guardU hg hd (hi _ _ hs) (ih (by simp [putD_len, hn]) (putD_sub hn hi _ _) (by simp [putD_objs, ho]))
theorem PQl.keep {l : List Oper} {s : PState} {n : Nat} {tl : List (Nat × PV)} (hn : s.n = n) (h : Fgt s tl) (k : PQl P ctx ops Q l ⟨n, tl, s.objs⟩) : PQl P ctx ops Q l s :=
  k.forget (t := ⟨n, tl, s.objs⟩) hn (fun i p hp => h.get i p (at_get hp)) rfl
end
end Go.Ep
namespace Go.Ep
section
variable {P : Program} {ctx : Ctx}
theorem PWl.re {Q : PQ} {ops : Array Oper} {l : List Oper} {s : PState} {n : Nat} {tl : List (Nat × PV)} {to : List (Nat × Ob)} (hn : s.n = n) (h : Fgt s tl) (ho : OFgt s.objs to) (k : PWl P ctx ops Q l ⟨n, tl, to⟩) : PWl P ctx ops Q l s := PWl.sub (Sub.of hn h ho) k
end
end Go.Ep

namespace Go.Ep
structure TDot where
  dev : Int
  n : Int
  deriving DecidableEq
structure TEvent where
  dot : TDot
  kind : Int
  cid : Int
  field : Int
  text : ByteArray
  kills : List TDot
  deriving DecidableEq
structure PpackWriter where
  b : List Int
  deriving DecidableEq
structure R04Reader where
  b : List Int
  at_ : Int
  bad : Int
  deriving DecidableEq
structure TRun where
  lo : Int
  hi : Int
  deriving DecidableEq
structure TPart where
  dev : Int
  runs : List TRun
  deriving DecidableEq
structure Ppackrest where
  b : List Int
  deriving DecidableEq
structure PpackReader where
  rest : Ppackrest
  bad : Int
  deriving DecidableEq
end Go.Ep

namespace Go.Ep
def TDot.e (x : TDot) : List DV := [.v (.int .u16 x.dev), .v (.int .u64 x.n)]
def TDot.v (x : TDot) : List Value := [(.int .u16 x.dev), (.int .u64 x.n)]
theorem TDot.v1 (x : TDot) : ∀ u ∈ x.v, u.oneCell' = true := by
  intro u hu
  simp only [TDot.v, List.mem_cons, List.not_mem_nil, or_false] at hu
  rcases hu with rfl | rfl <;> rfl
def TDot.k (x : TDot) : List Int := [x.dev, x.n]
def TEvent.e (x : TEvent) : List DV := [.v (.int .u16 x.dot.dev), .v (.int .u64 x.dot.n), .v (.int .u8 x.kind), .v (.int .u64 x.cid), .v (.int .u8 x.field), .v (.string x.text), .sl (List.map TDot.e x.kills)]
def PpackWriter.e (x : PpackWriter) : List DV := [.sl (List.map (eK .u8) x.b)]
def R04Reader.e (x : R04Reader) : List DV := [.sl (List.map (eK .u8) x.b), .v (.int .i64 x.at_), .v (.int .i64 x.bad)]
def TRun.e (x : TRun) : List DV := [.v (.int .u64 x.lo), .v (.int .u64 x.hi)]
def TRun.v (x : TRun) : List Value := [(.int .u64 x.lo), (.int .u64 x.hi)]
theorem TRun.v1 (x : TRun) : ∀ u ∈ x.v, u.oneCell' = true := by
  intro u hu
  simp only [TRun.v, List.mem_cons, List.not_mem_nil, or_false] at hu
  rcases hu with rfl | rfl <;> rfl
def TRun.k (x : TRun) : List Int := [x.lo, x.hi]
def TPart.e (x : TPart) : List DV := [.v (.int .u16 x.dev), .sl (List.map TRun.e x.runs)]
def Ppackrest.e (x : Ppackrest) : List DV := [.sl (List.map (eK .u8) x.b)]
def PpackReader.e (x : PpackReader) : List DV := [.sl (List.map (eK .u8) x.rest.b), .v (.int .i64 x.bad)]
end Go.Ep

namespace Go.Proofs
open Go.Ep
set_option linter.unusedSimpArgs false

theorem elem22 : ElemOK Try.prog 22 41 7 80 := ElemOK.mk' (z := .agg #[.int .u16 0, .int .u64 0, .int .u8 0, .int .u64 0, .int .u8 0, .string ⟨#[]⟩, .slice none 0 0]) Try.underlying22 (by kernel_rfl) rfl
theorem elem34 : ElemOK Try.prog 34 114 2 16 := ElemOK.mk' (z := .agg #[.int .u64 0, .int .u64 0]) Try.underlying34 (by kernel_rfl) rfl
theorem elem39 : ElemOK Try.prog 39 38 2 16 := ElemOK.mk' (z := .agg #[.int .u16 0, .int .u64 0]) Try.underlying39 (by kernel_rfl) rfl
theorem elem180 : ElemOK Try.prog 180 36 1 8 := ElemOK.mk' (z := .int .u64 0) Try.underlying180 (by kernel_rfl) rfl
theorem build38 : BuildOK Try.prog 38 [(0, 1), (1, 1)] [.int .u16 0, .int .u64 0] := fun parts => by kernel_rfl
theorem build114 : BuildOK Try.prog 114 [(0, 1), (1, 1)] [.int .u64 0, .int .u64 0] := fun parts => by kernel_rfl
theorem key126 : KeyOK Try.prog 28 [.u16] := KeyOK.int Try.underlying28
theorem eq38 {a0 b0 : Int} {a1 b1 : Int} : AggEq Try.prog 38 [.int .u16 a0, .int .u64 a1] [.int .u16 b0, .int .u64 b1] ((decide (a0 = b0) && decide (a1 = b1))) := by
  refine ⟨by kernel_rfl, fun w => ?_⟩
  have hu : Try.prog.underlying 38 = some (.struct (Try.prog.fieldsOf 38)) := by simp only [Program.fieldsOf, Try.underlying38]
  rw [run_equalIn_agg w 9999 38 _ _ hu (by kernel_rfl)]
  simp [Program.fieldsOf, Try.underlying38, Op.eqFields, part, Try.isAgg28, Try.isAgg36, run_equalIn_int _ 9998 28 _ _ _ _ Try.underlying28, run_equalIn_int _ 9998 36 _ _ _ _ Try.underlying36, Result.andThen, beq_bytes]
  all_goals (repeat' split) <;> simp_all
end Go.Proofs

namespace Go.Ep
def ltDot (x y : TDot) : Bool := decide (x.dev < y.dev) || (decide (x.dev = y.dev) && decide (x.n < y.n))
def ltRun (x y : TRun) : Bool := decide (x.lo < y.lo)
end Go.Ep

namespace Go.Ep
open Go

def r13_Few_l0 (l1 : List TEvent) : Int → M (M.Step Int (M.Ex Unit Bool)) := fun i21 =>
  cond ((decide (i21 < (List.length l1 : Int))))
    (M.bind (M.bind (M.idx l1 i21) fun x24 =>
    cond ((decide (300 < (List.length x24.kills : Int))))
      (M.pure true)
      (M.bind (M.idx l1 i21) fun x27 =>
      M.pure ((decide (200 < (ByteArray.size x27.text : Int)))))) (fun v23 =>
    cond v23
      (M.pure (.done (.ret false)))
      (M.pure (.next (IntKind.i64.wrap (i21 + 1))))))
    (M.pure (.done (.brk ())))
/-- epitaph/epitaphref13.Few -/
def r13_Few (l1 : List TEvent) (most2 : Int) : M Bool :=
  cond ((decide (most2 < (List.length l1 : Int))))
    (M.pure false)
    (M.bind (M.loop (r13_Few_l0 l1) 0) (M.exk (fun _ =>
    M.pure true)))

def r09_Few_l0 (c1 : List TPart) : Int → M (M.Step Int (M.Ex Unit Bool)) := fun i12 =>
  cond ((decide (i12 < (List.length c1 : Int))))
    (M.bind (M.idx c1 i12) fun x14 =>
    cond ((decide (30 < (List.length x14.runs : Int))))
      (M.pure (.done (.ret false)))
      (M.pure (.next (IntKind.i64.wrap (i12 + 1)))))
    (M.pure (.done (.brk ())))
/-- epitaph/epitaphref09.Few -/
def r09_Few (c1 : List TPart) : M Bool :=
  cond ((decide (30 < (List.length c1 : Int))))
    (M.pure false)
    (M.bind (M.loop (r09_Few_l0 c1) 0) (M.exk (fun _ =>
    M.pure true)))

/-- epitaph/outbox.Batches -/
def outbox_Batches (l1 : List TEvent) : M Int :=
  M.pure ((IntKind.i64.wrap (Int.tdiv ((IntKind.i64.wrap (((IntKind.i64.wrap ((List.length l1 : Int) + 4))) - 1))) 4)))

/-- slices.Clone[[]epitaph/api.Dot,epitaph/api.Dot] -/
def slices_Clone_sl_Dot_Dot (s1 : List TDot) : M (List TDot) :=
  M.bind (M.isNil s1) fun b2 =>
  cond b2
    (M.pure ([] : List TDot))
    (M.need ((List.length ([] : List TDot) + List.length s1) * 16 ≤ 140737488355328) <|
    M.pure (([] : List TDot) ++ s1))

/-- epitaph/event.Copy -/
def event_Copy (e1 : TEvent) : M TEvent :=
  M.bind (M.det (slices_Clone_sl_Dot_Dot e1.kills)) fun v2 =>
  M.pure (⟨e1.dot, e1.kind, e1.cid, e1.field, e1.text, v2⟩ : TEvent)

def outbox_Batch_l0 (k7 : Int) (l1 : List TEvent) : Int × List TEvent → M (M.Step (Int × List TEvent) (List TEvent)) := fun ⟨v25, out26⟩ =>
  cond ((decide (v25 < ((List.length ((List.drop (Int.toNat (IntKind.i64.wrap (k7 * 4))) (List.take (Int.toNat ((min ((IntKind.i64.wrap ((IntKind.i64.wrap (k7 + 1)) * 4))) (List.length l1 : Int)))) l1))) : Int)))))
    (M.bind (M.idx ((List.drop (Int.toNat (IntKind.i64.wrap (k7 * 4))) (List.take (Int.toNat ((min ((IntKind.i64.wrap ((IntKind.i64.wrap (k7 + 1)) * 4))) (List.length l1 : Int)))) l1))) v25) fun x28 =>
    M.bind (M.det (event_Copy x28)) fun v30 =>
    M.need ((List.length out26 + List.length ([v30])) * 80 ≤ 140737488355328) <|
    M.pure (.next (((IntKind.i64.wrap (v25 + 1)), (out26 ++ [v30])))))
    (M.pure (.done out26))
/-- epitaph/outbox.Batch -/
def outbox_Batch (l1 : List TEvent) (pick2 : Int) : M (List TEvent) :=
  M.bind (M.det (outbox_Batches l1)) fun v3 =>
  cond (decide (v3 = 0))
    (M.pure ([] : List TEvent))
    (M.need (v3 ≠ 0) <|
    M.bind (cond ((decide ((Int.tmod pick2 v3) < 0)))
      (M.pure ((IntKind.i64.wrap ((Int.tmod pick2 v3) + v3))))
      (M.pure (Int.tmod pick2 v3))) (fun k7 =>
    M.need ((0 : Int) ≤ (IntKind.i64.wrap (k7 * 4)) ∧ ((IntKind.i64.wrap (k7 * 4)) : Int) ≤ ((min ((IntKind.i64.wrap ((IntKind.i64.wrap (k7 + 1)) * 4))) (List.length l1 : Int))) ∧ ((min ((IntKind.i64.wrap ((IntKind.i64.wrap (k7 + 1)) * 4))) (List.length l1 : Int))) ≤ (List.length l1 : Int)) <|
    M.bind (M.loop (outbox_Batch_l0 k7 l1) (0, ([] : List TEvent))) (fun out10 =>
    M.pure out10)))

def r07_Same_l0 (a1 : List TDot) (b2 : List TDot) : Int → M (M.Step Int (M.Ex Unit Bool)) := fun i17 =>
  cond ((decide (i17 < (List.length a1 : Int))))
    (M.bind (M.idx a1 i17) fun x19 =>
    M.bind (M.idx b2 i17) fun x21 =>
    cond ((!(decide (x19.dev = x21.dev) && decide (x19.n = x21.n))))
      (M.pure (.done (.ret false)))
      (M.pure (.next (IntKind.i64.wrap (i17 + 1)))))
    (M.pure (.done (.brk ())))
/-- epitaph/epitaphref07.Same -/
def r07_Same (a1 : List TDot) (b2 : List TDot) : M Bool :=
  cond ((!decide ((List.length a1 : Int) = (List.length b2 : Int))))
    (M.pure false)
    (M.bind (M.loop (r07_Same_l0 a1 b2) 0) (M.exk (fun _ =>
    M.pure true)))

/-- epitaph/epitaphref13.Same -/
def r13_Same (a1 : TEvent) (b2 : TEvent) : M Bool :=
  M.bind (cond (((decide (a1.dot.dev = b2.dot.dev) && decide (a1.dot.n = b2.dot.n))))
    (cond (decide (a1.kind = b2.kind))
      (cond (decide (a1.cid = b2.cid))
        (cond (decide (a1.field = b2.field))
          (cond (decide (a1.text = b2.text))
            (M.bind (M.det (r07_Same a1.kills b2.kills)) fun v9 =>
            M.pure v9)
            (M.pure false))
          (M.pure false))
        (M.pure false))
      (M.pure false))
    (M.pure false)) (fun v3 =>
  M.pure v3)

/-- epitaph/epitaphlaw29.works -/
def l29_works  : M Bool :=
  M.need ((0 : Int) ≤ 6 ∧ (6 : Int) * 80 ≤ 140737488355328) <|
  M.bind (M.idx ((List.replicate (Int.toNat 6) (⟨(⟨0, 0⟩ : TDot), 0, 0, 0, (⟨#[]⟩ : ByteArray), ([] : List TDot)⟩ : TEvent))) 4) fun x2 =>
  M.bind (M.bind (M.det (outbox_Batches ((List.set ((List.replicate (Int.toNat 6) (⟨(⟨0, 0⟩ : TDot), 0, 0, 0, (⟨#[]⟩ : ByteArray), ([] : List TDot)⟩ : TEvent))) (Int.toNat 4) (⟨x2.dot, x2.kind, x2.cid, x2.field, (⟨#[101]⟩ : ByteArray), x2.kills⟩ : TEvent))))) fun v5 =>
  cond (decide (v5 = 2))
    (M.bind (M.det (outbox_Batch ((List.set ((List.replicate (Int.toNat 6) (⟨(⟨0, 0⟩ : TDot), 0, 0, 0, (⟨#[]⟩ : ByteArray), ([] : List TDot)⟩ : TEvent))) (Int.toNat 4) (⟨x2.dot, x2.kind, x2.cid, x2.field, (⟨#[101]⟩ : ByteArray), x2.kills⟩ : TEvent))) 1)) fun v8 =>
    cond ((decide ((List.length v8 : Int) = 2)))
      (M.bind (M.det (outbox_Batch ((List.set ((List.replicate (Int.toNat 6) (⟨(⟨0, 0⟩ : TDot), 0, 0, 0, (⟨#[]⟩ : ByteArray), ([] : List TDot)⟩ : TEvent))) (Int.toNat 4) (⟨x2.dot, x2.kind, x2.cid, x2.field, (⟨#[101]⟩ : ByteArray), x2.kills⟩ : TEvent))) 3)) fun v11 =>
      cond ((decide ((List.length v11 : Int) = 2)))
        (M.bind (M.det (outbox_Batch ((List.set ((List.replicate (Int.toNat 6) (⟨(⟨0, 0⟩ : TDot), 0, 0, 0, (⟨#[]⟩ : ByteArray), ([] : List TDot)⟩ : TEvent))) (Int.toNat 4) (⟨x2.dot, x2.kind, x2.cid, x2.field, (⟨#[101]⟩ : ByteArray), x2.kills⟩ : TEvent))) 0)) fun v14 =>
        cond ((decide ((List.length v14 : Int) = 4)))
          (M.bind (M.det (outbox_Batch ((List.set ((List.replicate (Int.toNat 6) (⟨(⟨0, 0⟩ : TDot), 0, 0, 0, (⟨#[]⟩ : ByteArray), ([] : List TDot)⟩ : TEvent))) (Int.toNat 4) (⟨x2.dot, x2.kind, x2.cid, x2.field, (⟨#[101]⟩ : ByteArray), x2.kills⟩ : TEvent))) 3)) fun v17 =>
          M.bind (M.idx v17 0) fun x19 =>
          M.bind (M.idx ((List.set ((List.replicate (Int.toNat 6) (⟨(⟨0, 0⟩ : TDot), 0, 0, 0, (⟨#[]⟩ : ByteArray), ([] : List TDot)⟩ : TEvent))) (Int.toNat 4) (⟨x2.dot, x2.kind, x2.cid, x2.field, (⟨#[101]⟩ : ByteArray), x2.kills⟩ : TEvent))) 4) fun x21 =>
          M.bind (M.det (r13_Same x19 x21)) fun v23 =>
          M.pure v23)
          (M.pure false))
        (M.pure false))
      (M.pure false))
    (M.pure false)) (fun v4 =>
  M.pure v4)

/-- epitaph/epitaphref29.Batches -/
def r29_Batches (l1 : List TEvent) : M Int :=
  M.pure ((IntKind.i64.wrap (Int.tdiv ((IntKind.i64.wrap ((List.length l1 : Int) + 3))) 4)))

def r13_All_l0 (a1 : List TEvent) (b2 : List TEvent) : Int → M (M.Step Int (M.Ex Unit Bool)) := fun i21 =>
  cond ((decide (i21 < (List.length a1 : Int))))
    (M.bind (M.idx a1 i21) fun x23 =>
    M.bind (M.idx b2 i21) fun x25 =>
    M.bind (M.det (r13_Same x23 x25)) fun v27 =>
    cond (!v27)
      (M.pure (.done (.ret false)))
      (M.pure (.next (IntKind.i64.wrap (i21 + 1)))))
    (M.pure (.done (.brk ())))
/-- epitaph/epitaphref13.All -/
def r13_All (a1 : List TEvent) (b2 : List TEvent) : M Bool :=
  cond ((!decide ((List.length a1 : Int) = (List.length b2 : Int))))
    (M.pure false)
    (M.bind (M.loop (r13_All_l0 a1 b2) 0) (M.exk (fun _ =>
    M.pure true)))

def r29_Batch_l0 (pick2 : Int) (v3 : Int) (l1 : List TEvent) : Int × List TEvent → M (M.Step (Int × List TEvent) (List TEvent)) := fun ⟨i23, out24⟩ =>
  M.bind (cond ((decide (i23 < ((IntKind.i64.wrap (((IntKind.i64.wrap (4 * ((Int.tmod ((IntKind.i64.wrap ((Int.tmod pick2 v3) + v3))) v3))))) + 4))))))
    (M.pure ((decide (i23 < (List.length l1 : Int)))))
    (M.pure false)) (fun v25 =>
  cond v25
    (M.bind (M.idx l1 i23) fun x28 =>
    M.need ((List.length out24 + List.length ([x28])) * 80 ≤ 140737488355328) <|
    M.pure (.next (((IntKind.i64.wrap (i23 + 1)), (out24 ++ [x28])))))
    (M.pure (.done out24)))
/-- epitaph/epitaphref29.Batch -/
def r29_Batch (l1 : List TEvent) (pick2 : Int) : M (List TEvent) :=
  M.bind (M.det (r29_Batches l1)) fun v3 =>
  cond (decide (v3 = 0))
    (M.pure ([] : List TEvent))
    (M.need (v3 ≠ 0) <|
    M.need (v3 ≠ 0) <|
    M.bind (M.loop (r29_Batch_l0 pick2 v3 l1) (((IntKind.i64.wrap (4 * ((Int.tmod ((IntKind.i64.wrap ((Int.tmod pick2 v3) + v3))) v3)))), ([] : List TEvent)))) (fun out8 =>
    M.pure out8))

def ctx_toldF (p : TPart) : Option (Int × List TRun) := if 0 < p.dev then some (p.dev, p.runs) else none
/-- epitaph/ctx.told -/
def ctx_told (c1 : List TPart) : M (List (Int × List TRun)) :=
  M.need (AL.growOK 16 (List.length c1) (List.filterMap ctx_toldF c1)) <|
  M.pure ((AL.grow ([] : List (Int × List TRun)) (List.filterMap ctx_toldF c1)))

/-- cmp.isNaN[uint64] -/
def cmp_isNaN_uint64 (x1 : Int) : M Bool :=
  M.pure (!decide (x1 = x1))

/-- cmp.Compare[uint64] -/
def cmp_Compare_uint64 (x1 : Int) (y2 : Int) : M Int :=
  M.bind (M.det (cmp_isNaN_uint64 x1)) fun v3 =>
  M.bind (M.det (cmp_isNaN_uint64 y2)) fun v5 =>
  cond v3
    (cond v5
      (M.pure 0)
      (M.pure (-1)))
    (cond v5
      (M.pure 1)
      (cond (decide (x1 < y2))
        (M.pure (-1))
        (cond (decide (y2 < x1))
          (M.pure 1)
          (M.pure 0))))

def runs_Norm_l0 (l1 : List TRun) : Int × List TRun → M (M.Step (Int × List TRun) (List TRun)) := fun ⟨v23, some24⟩ =>
  cond ((decide (v23 < (List.length l1 : Int))))
    (M.bind (M.bind (M.idx l1 v23) fun x27 =>
    M.bind (cond (decide (0 < x27.lo))
      (cond (decide (x27.lo ≤ x27.hi))
        (M.pure (decide (x27.hi ≤ 281474976710655)))
        (M.pure false))
      (M.pure false)) (fun v29 =>
    cond v29
      (M.need ((List.length some24 + List.length ([x27])) * 16 ≤ 140737488355328) <|
      M.pure (some24 ++ [x27]))
      (M.pure some24))) (fun some26 =>
    M.pure (.next (((IntKind.i64.wrap (v23 + 1)), some26)))))
    (M.pure (.done some24))
def runs_Norm_l1 (some2 : List TRun) (s34 : List TRun) : Int × List TRun → M (M.Step (Int × List TRun) (List TRun)) := fun ⟨v69, out70⟩ =>
  cond ((decide (v69 < ((List.length some2) : Int))))
    (M.bind (M.bind (M.idx s34 v69) fun x73 =>
    M.bind (cond ((decide (0 ≤ ((IntKind.i64.wrap (((List.length out70) : Int) - 1))))))
      (M.bind (M.idx out70 ((IntKind.i64.wrap (((List.length out70) : Int) - 1)))) fun x77 =>
      M.pure ((decide (x73.lo ≤ (IntKind.u64.wrap (x77.hi + 1))))))
      (M.pure false)) (fun v75 =>
    cond v75
      (M.bind (M.idx out70 ((IntKind.i64.wrap (((List.length out70) : Int) - 1)))) fun x80 =>
      M.bind (M.idx out70 ((IntKind.i64.wrap (((List.length out70) : Int) - 1)))) fun x82 =>
      M.pure ((List.set out70 ((Int.toNat ((IntKind.i64.wrap (((List.length out70) : Int) - 1))))) (⟨x82.lo, (max x80.hi x73.hi)⟩ : TRun))))
      (M.need ((List.length out70 + List.length ([x73])) * 16 ≤ 140737488355328) <|
      M.pure (out70 ++ [x73])))) (fun out72 =>
    M.pure (.next (((IntKind.i64.wrap (v69 + 1)), out72)))))
    (M.pure (.done out70))
/-- epitaph/runs.Norm -/
def runs_Norm (l1 : List TRun) : M (List TRun) :=
  M.bind (M.loop (runs_Norm_l0 l1) (0, ([] : List TRun))) (fun some2 =>
  M.need (List.length some2 < 4611686018427387904) <| M.bind (M.srt ltRun some2) fun s34 =>
  M.bind (M.loop (runs_Norm_l1 some2 s34) (0, ([] : List TRun))) (fun out38 =>
  M.pure out38))

/-- epitaph/ctx.Runs -/
def ctx_Runs (c1 : List TPart) (dev2 : Int) : M (List TRun) :=
  M.bind (M.det (ctx_told c1)) fun v3 =>
  M.bind (M.det (runs_Norm (AL.getZ v3 dev2 ([] : List TRun)))) fun v6 =>
  M.pure v6

/-- epitaph/runs.Has$1 -/
def runs_Has_c1 (x1 : TRun) (n2 : Int) : M Int :=
  M.bind (M.det (cmp_Compare_uint64 x1.hi n2)) fun v3 =>
  M.pure v3

def slices_BinarySearchFunc_sl_Run_Run_uint64_runs_Has_c1_l0 (x1 : List TRun) (target2 : Int) : Int × Int → M (M.Step (Int × Int) Int) := fun ⟨i18, j19⟩ =>
  cond (decide (i18 < j19))
    (M.bind (M.idx x1 ((IntKind.i64.wrap ((Int.fdiv ((IntKind.u64.wrap (IntKind.i64.wrap (i18 + j19)))) (2 ^ 1)))))) fun x21 =>
    M.bind (M.det (runs_Has_c1 x21 target2)) fun v23 =>
    cond (decide (v23 < 0))
      (M.pure (.next (((IntKind.i64.wrap (((IntKind.i64.wrap ((Int.fdiv ((IntKind.u64.wrap (IntKind.i64.wrap (i18 + j19)))) (2 ^ 1))))) + 1)), j19))))
      (M.pure (.next ((i18, (IntKind.i64.wrap ((Int.fdiv ((IntKind.u64.wrap (IntKind.i64.wrap (i18 + j19)))) (2 ^ 1)))))))))
    (M.pure (.done i18))
/-- slices.BinarySearchFunc[[]epitaph/api.Run,epitaph/api.Run,uint64] -/
def slices_BinarySearchFunc_sl_Run_Run_uint64_runs_Has_c1 (x1 : List TRun) (target2 : Int) : M (Int × Bool) :=
  M.bind (M.loop (slices_BinarySearchFunc_sl_Run_Run_uint64_runs_Has_c1_l0 x1 target2) (0, (List.length x1 : Int))) (fun i3 =>
  M.bind (cond ((decide (i3 < (List.length x1 : Int))))
    (M.bind (M.idx x1 i3) fun x28 =>
    M.bind (M.det (runs_Has_c1 x28 target2)) fun v30 =>
    M.pure (decide (v30 = 0)))
    (M.pure false)) (fun v26 =>
  M.pure (i3, v26)))

/-- epitaph/runs.Has -/
def runs_Has (l1 : List TRun) (n2 : Int) : M Bool :=
  M.bind (M.det (runs_Norm l1)) fun v3 =>
  M.bind (M.det (slices_BinarySearchFunc_sl_Run_Run_uint64_runs_Has_c1 v3 n2)) fun v5 =>
  M.bind (cond ((decide (v5.1 < (List.length v3 : Int))))
    (M.bind (M.idx v3 v5.1) fun x9 =>
    M.pure (decide (x9.lo ≤ n2)))
    (M.pure false)) (fun v7 =>
  M.pure v7)

/-- epitaph/ctx.Has -/
def ctx_Has (c1 : List TPart) (d2 : TDot) : M Bool :=
  M.bind (cond (decide (0 < d2.dev))
    (M.bind (M.det (ctx_Runs c1 d2.dev)) fun v5 =>
    M.bind (M.det (runs_Has v5 d2.n)) fun v7 =>
    M.pure v7)
    (M.pure false)) (fun v3 =>
  M.pure v3)

def slices_Compact_sl_Dot_Dot_o_l0 (row1 : List TDot) (k148 : Int) : Int × Int × List TDot → M (M.Step (Int × Int × List TDot) (Int × List TDot)) := fun ⟨k197, k2_198, v199⟩ =>
  cond ((decide (k2_198 < ((((List.length row1 - Int.toNat k148) : Nat) : Int)))))
    (M.bind (M.need ((0 : Int) ≤ k2_198 ∧ k2_198 < (((List.length row1 - Int.toNat k148) : Nat) : Int)) <| M.bind (M.idx v199 ((((Int.toNat k148) + Int.toNat k2_198) : Nat) : Int)) fun x203 =>
    M.need ((0 : Int) ≤ (IntKind.i64.wrap (k2_198 - 1)) ∧ (IntKind.i64.wrap (k2_198 - 1)) < (((List.length row1 - Int.toNat k148) : Nat) : Int)) <| M.bind (M.idx v199 ((((Int.toNat k148) + Int.toNat (IntKind.i64.wrap (k2_198 - 1))) : Nat) : Int)) fun x207 =>
    cond ((!(decide (x203.dev = x207.dev) && decide (x203.n = x207.n))))
      (M.need ((0 : Int) ≤ k2_198 ∧ k2_198 < (((List.length row1 - Int.toNat k148) : Nat) : Int)) <| M.bind (M.idx v199 ((((Int.toNat k148) + Int.toNat k2_198) : Nat) : Int)) fun x212 =>
      M.bind (M.idx v199 k197) fun x216 =>
      M.pure (((IntKind.i64.wrap (k197 + 1)), (List.set v199 (Int.toNat k197) x212))))
      (M.pure (k197, v199))) (fun ⟨k201, v202⟩ =>
    M.pure (.next ((k201, (IntKind.i64.wrap (k2_198 + 1)), v202)))))
    (M.pure (.done (k197, v199)))
def slices_Compact_sl_Dot_Dot_o_l1 (row1 : List TDot) : Int → M (M.Step Int (M.Ex Unit (List TDot))) := fun k148 =>
  cond ((decide (k148 < ((List.length row1) : Int))))
    (M.bind (M.bind (M.idx row1 k148) fun x150 =>
    M.bind (M.idx row1 (IntKind.i64.wrap (k148 - 1))) fun x152 =>
    cond (((decide (x150.dev = x152.dev) && decide (x150.n = x152.n))))
      (M.need ((0 : Int) ≤ k148 ∧ k148 ≤ (List.length row1 : Int)) <|
      M.bind (M.loop (slices_Compact_sl_Dot_Dot_o_l0 row1 k148) (k148, 1, row1)) (fun ⟨k156, v157⟩ =>
      M.need ((0 : Int) ≤ k156 ∧ k156 ≤ (List.length v157 : Int)) <|
      M.need ((Int.toNat k156) + (List.length v157 - Int.toNat k156) ≤ List.length v157) <|
      M.need ((0 : Int) ≤ 0 ∧ (0 : Int) ≤ k156 ∧ k156 ≤ (List.length ((List.take (Int.toNat k156) v157 ++ List.replicate (List.length v157 - Int.toNat k156) (⟨0, 0⟩ : TDot) ++ List.drop ((Int.toNat k156) + (List.length v157 - Int.toNat k156)) v157)) : Int)) <|
      M.pure (.ret ((.done ((.ret (((List.take (Int.toNat k156) ((List.take (Int.toNat k156) v157 ++ List.replicate (List.length v157 - Int.toNat k156) (⟨0, 0⟩ : TDot) ++ List.drop ((Int.toNat k156) + (List.length v157 - Int.toNat k156)) v157))))))))))))
      (M.pure (.brk ()))) (M.exk (fun _ =>
    M.pure (.next (IntKind.i64.wrap (k148 + 1))))))
    (M.pure (.done (.brk ())))
/-- slices.Compact[[]epitaph/api.Dot,epitaph/api.Dot] -/
def slices_Compact_sl_Dot_Dot_o (row1 : List TDot) : M (List TDot) :=
  cond ((decide (((List.length row1) : Int) < 2)))
    (M.pure row1)
    (M.bind (M.loop (slices_Compact_sl_Dot_Dot_o_l1 row1) 1) (M.exk (fun _ =>
    M.pure row1)))

/-- epitaph/dot.Sort -/
def dot_Sort (l1 : List TDot) : M (List TDot) :=
  M.bind (M.det (slices_Clone_sl_Dot_Dot l1)) fun v2 =>
  M.need (List.length v2 < 4611686018427387904) <| M.bind (M.srt ltDot v2) fun s4 =>
  M.bind (M.det (slices_Compact_sl_Dot_Dot_o s4)) fun y8 =>
  M.pure y8

def kills_part_l0 (l1 : List TDot) (c2 : List TPart) (has3 : Bool) : Int × List TDot → M (M.Step (Int × List TDot) (List TDot)) := fun ⟨v23, out24⟩ =>
  cond ((decide (v23 < (List.length l1 : Int))))
    (M.bind (M.bind (M.idx l1 v23) fun x27 =>
    M.bind (M.det (ctx_Has c2 x27)) fun v29 =>
    cond (v29 == has3)
      (M.need ((List.length out24 + List.length ([x27])) * 16 ≤ 140737488355328) <|
      M.pure (out24 ++ [x27]))
      (M.pure out24)) (fun out26 =>
    M.pure (.next (((IntKind.i64.wrap (v23 + 1)), out26)))))
    (M.pure (.done out24))
/-- epitaph/kills.part -/
def kills_part (l1 : List TDot) (c2 : List TPart) (has3 : Bool) : M (List TDot) :=
  M.bind (M.loop (kills_part_l0 l1 c2 has3) (0, ([] : List TDot))) (fun out4 =>
  M.bind (M.det (dot_Sort out4)) fun v33 =>
  M.pure v33)

/-- epitaph/kills.Keep -/
def kills_Keep (l1 : List TDot) (c2 : List TPart) : M (List TDot) :=
  M.bind (M.det (kills_part l1 c2 true)) fun v3 =>
  M.pure v3

def outbox_Replay_l0 (l1 : List TEvent) (to3 : List TPart) (dev2 : Int) : Int × List TEvent → M (M.Step (Int × List TEvent) (List TEvent)) := fun ⟨v22, v23⟩ =>
  cond ((decide (v22 < (List.length l1 : Int))))
    (M.bind (M.idx l1 v22) fun x25 =>
    M.bind (M.det (kills_Keep x25.kills to3)) fun v27 =>
    M.bind (M.idx v23 v22) fun x29 =>
    M.pure (.next (((IntKind.i64.wrap (v22 + 1)), (List.set v23 (Int.toNat v22) ((⟨(⟨dev2, (IntKind.u64.wrap ((IntKind.u64.wrap v22) + 1))⟩ : TDot), x25.kind, x25.cid, x25.field, x25.text, v27⟩ : TEvent)))))))
    (M.pure (.done v23))
/-- epitaph/outbox.Replay -/
def outbox_Replay (l1 : List TEvent) (dev2 : Int) (to3 : List TPart) : M (List TEvent) :=
  M.need ((0 : Int) ≤ (List.length l1 : Int) ∧ (List.length l1 : Int) * 80 ≤ 140737488355328) <|
  M.bind (M.loop (outbox_Replay_l0 l1 to3 dev2) ((0, (List.replicate (Int.toNat (List.length l1 : Int)) (⟨(⟨0, 0⟩ : TDot), 0, 0, 0, (⟨#[]⟩ : ByteArray), ([] : List TDot)⟩ : TEvent))))) (fun v5 =>
  M.pure v5)

/-- epitaph/epitaphref06.may -/
def r06_may (x1 : TRun) : M Bool :=
  M.bind (cond (decide (1 ≤ x1.lo))
    (cond (decide (x1.lo ≤ x1.hi))
      (M.pure (decide (x1.hi ≤ 281474976710655)))
      (M.pure false))
    (M.pure false)) (fun v2 =>
  M.pure v2)

def r06_Has_l0 (l1 : List TRun) (n2 : Int) : Int → M (M.Step Int (M.Ex Unit Bool)) := fun i30 =>
  cond ((decide (i30 < (List.length l1 : Int))))
    (M.bind (M.bind (M.idx l1 i30) fun x33 =>
    M.bind (M.det (r06_may x33)) fun v35 =>
    cond v35
      (M.bind (M.idx l1 i30) fun x38 =>
      cond (decide (x38.lo ≤ n2))
        (M.bind (M.idx l1 i30) fun x41 =>
        M.pure (decide (n2 ≤ x41.hi)))
        (M.pure false))
      (M.pure false)) (fun v32 =>
    cond v32
      (M.pure (.done (.ret true)))
      (M.pure (.next (IntKind.i64.wrap (i30 + 1))))))
    (M.pure (.done (.brk ())))
/-- epitaph/epitaphref06.Has -/
def r06_Has (l1 : List TRun) (n2 : Int) : M Bool :=
  M.bind (M.loop (r06_Has_l0 l1 n2) 0) (M.exk (fun _ =>
  M.pure false))

def r06_put_l0 (l1 : List Int) (n2 : Int) : Bool × Int × List Int → M (M.Step (Bool × Int × List Int) (Bool × List Int)) := fun ⟨done43, i44, out45⟩ =>
  cond ((decide (i44 < (List.length l1 : Int))))
    (M.bind (M.bind (cond (!done43)
      (M.bind (M.idx l1 i44) fun x51 =>
      M.pure (decide (n2 ≤ x51)))
      (M.pure false)) (fun v49 =>
    M.bind (cond v49
      (M.need ((List.length out45 + List.length ([n2])) * 8 ≤ 140737488355328) <|
      M.pure (true, (out45 ++ [n2])))
      (M.pure (done43, out45))) (fun ⟨done53, out54⟩ =>
    M.bind (M.idx l1 i44) fun x57 =>
    cond (!decide (x57 = n2))
      (M.bind (M.idx l1 i44) fun x60 =>
      M.need ((List.length out54 + List.length ([x60])) * 8 ≤ 140737488355328) <|
      M.pure (done53, (out54 ++ [x60])))
      (M.pure (done53, out54))))) (fun ⟨done47, out48⟩ =>
    M.pure (.next ((done47, (IntKind.i64.wrap (i44 + 1)), out48)))))
    (M.pure (.done (done43, out45)))
/-- epitaph/epitaphref06.put -/
def r06_put (l1 : List Int) (n2 : Int) : M (List Int) :=
  M.bind (M.loop (r06_put_l0 l1 n2) (false, 0, ([] : List Int))) (fun ⟨done3, out4⟩ =>
  M.bind (cond (!done3)
    (M.need ((List.length out4 + List.length ([n2])) * 8 ≤ 140737488355328) <|
    M.pure (out4 ++ [n2]))
    (M.pure out4)) (fun out63 =>
  M.pure out63))

def r06_points_l0 (a1 : List TRun) (b2 : List TRun) : List Int × Int → M (M.Step (List Int × Int) (List Int)) := fun ⟨out38, i39⟩ =>
  cond ((decide (i39 < (((List.length ((([] : List TRun) ++ a1) ++ b2)) : Int)))))
    (M.bind (M.bind (M.idx (((([] : List TRun) ++ a1) ++ b2)) i39) fun x42 =>
    M.bind (M.det (r06_may x42)) fun v44 =>
    cond v44
      (M.bind (M.idx (((([] : List TRun) ++ a1) ++ b2)) i39) fun x47 =>
      M.bind (M.det (r06_put out38 x47.lo)) fun v49 =>
      M.bind (M.idx (((([] : List TRun) ++ a1) ++ b2)) i39) fun x51 =>
      M.bind (M.det (r06_put v49 (IntKind.u64.wrap (x51.hi + 1)))) fun v53 =>
      M.pure v53)
      (M.pure out38)) (fun out41 =>
    M.pure (.next ((out41, (IntKind.i64.wrap (i39 + 1)))))))
    (M.pure (.done out38))
/-- epitaph/epitaphref06.points -/
def r06_points (a1 : List TRun) (b2 : List TRun) : M (List Int) :=
  M.need ((List.length ([] : List TRun) + List.length a1) * 16 ≤ 140737488355328) <|
  M.need ((List.length (([] : List TRun) ++ a1) + List.length b2) * 16 ≤ 140737488355328) <|
  M.bind (M.loop (r06_points_l0 a1 b2) (([] : List Int), 0)) (fun out5 =>
  M.pure out5)

def r06_set_l0 (v4 : List Int) (a1 : List TRun) (b2 : List TRun) (how3 : Int) : Int × List TRun → M (M.Step (Int × List TRun) (List TRun)) := fun ⟨i85, out86⟩ =>
  cond ((decide ((IntKind.i64.wrap (i85 + 1)) < (List.length v4 : Int))))
    (M.bind (M.bind (M.idx v4 i85) fun x89 =>
    M.bind (M.det (r06_Has a1 x89)) fun v91 =>
    M.bind (M.idx v4 i85) fun x93 =>
    M.bind (M.det (r06_Has b2 x93)) fun v95 =>
    M.bind (cond v91
      (M.pure true)
      (M.pure v95)) (fun in97 =>
    M.bind (cond (decide (how3 = 1))
      (M.bind (cond v91
        (M.pure v95)
        (M.pure false)) (fun in101 =>
      M.pure in101))
      (M.pure in97)) (fun in99 =>
    M.bind (cond (decide (how3 = 2))
      (M.bind (cond v91
        (M.pure (!v95))
        (M.pure false)) (fun in105 =>
      M.pure in105))
      (M.pure in99)) (fun in103 =>
    M.bind (cond in103
      (cond ((decide (0 ≤ ((IntKind.i64.wrap (((List.length out86) : Int) - 1))))))
        (M.bind (M.idx out86 ((IntKind.i64.wrap (((List.length out86) : Int) - 1)))) fun x110 =>
        M.bind (M.idx v4 i85) fun x112 =>
        M.pure ((decide ((IntKind.u64.wrap (x110.hi + 1)) = x112))))
        (M.pure false))
      (M.pure false)) (fun v107 =>
    cond v107
      (M.bind (M.idx v4 (IntKind.i64.wrap (i85 + 1))) fun x115 =>
      M.bind (M.idx out86 ((IntKind.i64.wrap (((List.length out86) : Int) - 1)))) fun x117 =>
      M.pure ((List.set out86 ((Int.toNat ((IntKind.i64.wrap (((List.length out86) : Int) - 1))))) ((⟨x117.lo, (IntKind.u64.wrap (x115 - 1))⟩ : TRun)))))
      (cond in103
        (M.bind (M.idx v4 i85) fun x120 =>
        M.bind (M.idx v4 (IntKind.i64.wrap (i85 + 1))) fun x122 =>
        M.need ((List.length out86 + List.length ([(⟨x120, (IntKind.u64.wrap (x122 - 1))⟩ : TRun)])) * 16 ≤ 140737488355328) <|
        M.pure ((out86 ++ [(⟨x120, (IntKind.u64.wrap (x122 - 1))⟩ : TRun)])))
        (M.pure out86))))))) (fun out88 =>
    M.pure (.next (((IntKind.i64.wrap (i85 + 1)), out88)))))
    (M.pure (.done out86))
/-- epitaph/epitaphref06.set -/
def r06_set (a1 : List TRun) (b2 : List TRun) (how3 : Int) : M (List TRun) :=
  M.bind (M.det (r06_points a1 b2)) fun v4 =>
  M.bind (M.loop (r06_set_l0 v4 a1 b2 how3) (0, ([] : List TRun))) (fun out6 =>
  M.pure out6)

/-- epitaph/epitaphref06.Join -/
def r06_Join (a1 : List TRun) (b2 : List TRun) : M (List TRun) :=
  M.bind (M.det (r06_set a1 b2 0)) fun v3 =>
  M.pure v3

def r09_Runs_l0 (c1 : List TPart) (dev2 : Int) : List TRun × Int → M (M.Step (List TRun × Int) (List TRun)) := fun ⟨out28, i29⟩ =>
  cond ((decide (i29 < (List.length c1 : Int))))
    (M.bind (M.bind (M.bind (M.idx c1 i29) fun x33 =>
    cond (decide (x33.dev = dev2))
      (M.pure (!decide (dev2 = 0)))
      (M.pure false)) (fun v32 =>
    cond v32
      (M.bind (M.idx c1 i29) fun x37 =>
      M.bind (M.det (r06_Join out28 x37.runs)) fun v39 =>
      M.pure v39)
      (M.pure out28))) (fun out31 =>
    M.pure (.next ((out31, (IntKind.i64.wrap (i29 + 1)))))))
    (M.pure (.done out28))
/-- epitaph/epitaphref09.Runs -/
def r09_Runs (c1 : List TPart) (dev2 : Int) : M (List TRun) :=
  M.bind (M.loop (r09_Runs_l0 c1 dev2) (([] : List TRun), 0)) (fun out3 =>
  M.pure out3)

/-- epitaph/epitaphref07.Good -/
def r07_Good (d1 : TDot) : M Bool :=
  M.bind (cond (decide (1 ≤ d1.dev))
    (cond (decide (1 ≤ d1.n))
      (M.pure (decide (d1.n < 281474976710656)))
      (M.pure false))
    (M.pure false)) (fun v2 =>
  M.pure v2)

/-- epitaph/epitaphref09.Has -/
def r09_Has (c1 : List TPart) (d2 : TDot) : M Bool :=
  M.bind (M.bind (M.det (r07_Good d2)) fun v4 =>
  cond v4
    (M.bind (M.det (r09_Runs c1 d2.dev)) fun v7 =>
    M.bind (M.det (r06_Has v7 d2.n)) fun v9 =>
    M.pure v9)
    (M.pure false)) (fun v3 =>
  M.pure v3)

/-- epitaph/epitaphref07.Cmp -/
def r07_Cmp (a1 : TDot) (b2 : TDot) : M Int :=
  cond (((decide (a1.dev = b2.dev) && decide (a1.n = b2.n))))
    (M.pure 0)
    (M.bind (cond (decide (a1.dev < b2.dev))
      (M.pure true)
      (cond (decide (a1.dev = b2.dev))
        (M.pure (decide (a1.n < b2.n)))
        (M.pure false))) (fun v4 =>
    cond v4
      (M.pure (-1))
      (M.pure 1)))

def r07_Put_l0 (l1 : List TDot) (d2 : TDot) : Int × List TDot → M (M.Step (Int × List TDot) (List TDot)) := fun ⟨i26, out27⟩ =>
  cond ((decide (i26 < (List.length l1 : Int))))
    (M.bind (M.bind (M.idx l1 i26) fun x30 =>
    M.bind (M.det (r07_Cmp x30 d2)) fun v32 =>
    cond (decide (v32 < 0))
      (M.bind (M.idx l1 i26) fun x35 =>
      M.need ((List.length out27 + List.length ([x35])) * 16 ≤ 140737488355328) <|
      M.pure (out27 ++ [x35]))
      (M.pure out27)) (fun out29 =>
    M.pure (.next (((IntKind.i64.wrap (i26 + 1)), out29)))))
    (M.pure (.done out27))
def r07_Put_l1 (l1 : List TDot) (d2 : TDot) : Int × List TDot → M (M.Step (Int × List TDot) (List TDot)) := fun ⟨i62, out63⟩ =>
  cond ((decide (i62 < (List.length l1 : Int))))
    (M.bind (M.bind (M.idx l1 i62) fun x66 =>
    M.bind (M.det (r07_Cmp x66 d2)) fun v68 =>
    cond (decide (0 < v68))
      (M.bind (M.idx l1 i62) fun x71 =>
      M.need ((List.length out63 + List.length ([x71])) * 16 ≤ 140737488355328) <|
      M.pure (out63 ++ [x71]))
      (M.pure out63)) (fun out65 =>
    M.pure (.next (((IntKind.i64.wrap (i62 + 1)), out65)))))
    (M.pure (.done out63))
/-- epitaph/epitaphref07.Put -/
def r07_Put (l1 : List TDot) (d2 : TDot) : M (List TDot) :=
  M.bind (M.loop (r07_Put_l0 l1 d2) (0, ([] : List TDot))) (fun out3 =>
  M.need ((List.length out3 + List.length ([d2])) * 16 ≤ 140737488355328) <|
  M.bind (M.loop (r07_Put_l1 l1 d2) (0, (out3 ++ [d2]))) (fun out39 =>
  M.pure out39))

def r17_Keep_l0 (l1 : List TDot) (c2 : List TPart) : List TDot × Int → M (M.Step (List TDot × Int) (List TDot)) := fun ⟨out28, i29⟩ =>
  cond ((decide (i29 < (List.length l1 : Int))))
    (M.bind (M.bind (M.idx l1 i29) fun x32 =>
    M.bind (M.det (r09_Has c2 x32)) fun v34 =>
    cond v34
      (M.bind (M.idx l1 i29) fun x37 =>
      M.bind (M.det (r07_Put out28 x37)) fun v39 =>
      M.pure v39)
      (M.pure out28)) (fun out31 =>
    M.pure (.next ((out31, (IntKind.i64.wrap (i29 + 1)))))))
    (M.pure (.done out28))
/-- epitaph/epitaphref17.Keep -/
def r17_Keep (l1 : List TDot) (c2 : List TPart) : M (List TDot) :=
  M.bind (M.loop (r17_Keep_l0 l1 c2) (([] : List TDot), 0)) (fun out3 =>
  M.pure out3)

def r29_Replay_l0 (l1 : List TEvent) (to3 : List TPart) (dev2 : Int) : Int × List TEvent → M (M.Step (Int × List TEvent) (List TEvent)) := fun ⟨i19, out20⟩ =>
  cond ((decide (i19 < (List.length l1 : Int))))
    (M.bind (M.idx l1 i19) fun x22 =>
    M.bind (M.det (r17_Keep x22.kills to3)) fun v24 =>
    M.need ((List.length out20 + List.length ([(⟨(⟨dev2, (IntKind.u64.wrap ((IntKind.u64.wrap i19) + 1))⟩ : TDot), x22.kind, x22.cid, x22.field, x22.text, v24⟩ : TEvent)])) * 80 ≤ 140737488355328) <|
    M.pure (.next (((IntKind.i64.wrap (i19 + 1)), (out20 ++ [(⟨(⟨dev2, (IntKind.u64.wrap ((IntKind.u64.wrap i19) + 1))⟩ : TDot), x22.kind, x22.cid, x22.field, x22.text, v24⟩ : TEvent)])))))
    (M.pure (.done out20))
/-- epitaph/epitaphref29.Replay -/
def r29_Replay (l1 : List TEvent) (dev2 : Int) (to3 : List TPart) : M (List TEvent) :=
  M.bind (M.loop (r29_Replay_l0 l1 to3 dev2) (0, ([] : List TEvent))) (fun out4 =>
  M.pure out4)

/-- epitaph/epitaphlaw29.OutboxParts -/
def l29_OutboxParts (l1 : List TEvent) (pick2 : Int) (to3 : List TPart) : M Bool :=
  M.bind (M.bind (M.det (r13_Few l1 30)) fun v5 =>
  cond (!v5)
    (M.pure true)
    (M.bind (M.det (r09_Few to3)) fun v8 =>
    M.pure (!v8))) (fun v4 =>
  cond v4
    (M.bind (M.det (l29_works)) fun v11 =>
    M.pure v11)
    (M.bind (M.bind (M.det (outbox_Batches l1)) fun v14 =>
    M.bind (M.det (r29_Batches l1)) fun v16 =>
    cond (decide (v14 = v16))
      (M.bind (M.det (outbox_Batch l1 pick2)) fun v19 =>
      M.bind (M.det (r29_Batch l1 pick2)) fun v21 =>
      M.bind (M.det (r13_All v19 v21)) fun v23 =>
      cond v23
        (M.bind (M.det (outbox_Replay l1 (IntKind.u16.wrap pick2) to3)) fun v26 =>
        M.bind (M.det (r29_Replay l1 (IntKind.u16.wrap pick2) to3)) fun v28 =>
        M.bind (M.det (r13_All v26 v28)) fun v30 =>
        cond v30
          (M.bind (M.det (l29_works)) fun v33 =>
          M.pure v33)
          (M.pure false))
        (M.pure false))
      (M.pure false)) (fun v13 =>
    M.pure v13)))

def r01_Len_l0  : Int × Int → M (M.Step (Int × Int) Int) := fun ⟨v7, n8⟩ =>
  cond (decide (0 < v7))
    (M.pure (.next (((IntKind.u64.wrap (Int.tdiv v7 256)), (IntKind.i64.wrap (n8 + 1))))))
    (M.pure (.done n8))
/-- epitaph/epitaphref01.Len -/
def r01_Len (v1 : Int) : M Int :=
  M.bind (M.loop r01_Len_l0 (v1, 0)) (fun n2 =>
  M.pure n2)

def r01_Byte_l0 (i2 : Int) : Int × Int → M (M.Step (Int × Int) Int) := fun ⟨v11, k12⟩ =>
  cond (decide (k12 < i2))
    (M.pure (.next (((IntKind.u64.wrap (Int.tdiv v11 256)), (IntKind.i64.wrap (k12 + 1))))))
    (M.pure (.done v11))
/-- epitaph/epitaphref01.Byte -/
def r01_Byte (v1 : Int) (i2 : Int) : M Int :=
  M.bind (cond (decide (i2 < 0))
    (M.pure true)
    (M.pure (decide (7 < i2)))) (fun v3 =>
  cond v3
    (M.pure 0)
    (M.bind (M.loop (r01_Byte_l0 i2) (v1, 0)) (fun v6 =>
    M.pure (IntKind.u8.wrap (Int.tmod v6 256)))))

def r03_Append_l0 (v2 : Int) : Int × List Int → M (M.Step (Int × List Int) (List Int)) := fun ⟨i18, v19⟩ =>
  cond (decide (0 ≤ i18))
    (M.bind (M.det (r01_Byte v2 i18)) fun v21 =>
    M.need ((List.length v19 + List.length ([v21])) * 1 ≤ 140737488355328) <|
    M.pure (.next (((IntKind.i64.wrap (i18 - 1)), (v19 ++ [v21])))))
    (M.pure (.done v19))
/-- epitaph/epitaphref03.Append -/
def r03_Append (b1 : List Int) (v2 : Int) : M (List Int) :=
  M.need ((List.length ([] : List Int) + List.length b1) * 1 ≤ 140737488355328) <|
  M.bind (M.det (r01_Len v2)) fun v4 =>
  M.need ((List.length (([] : List Int) ++ b1) + List.length ([(IntKind.u8.wrap v4)])) * 1 ≤ 140737488355328) <|
  M.bind (M.loop (r03_Append_l0 v2) (((IntKind.i64.wrap (v4 - 1)), ((([] : List Int) ++ b1) ++ [(IntKind.u8.wrap v4)])))) (fun v7 =>
  M.pure v7)

/-- epitaph/epitaphref15.PutDot -/
def r15_PutDot (b1 : List Int) (d2 : TDot) : M (List Int) :=
  M.bind (M.det (r03_Append b1 (IntKind.u64.wrap d2.dev))) fun v3 =>
  M.bind (M.det (r03_Append v3 d2.n)) fun v5 =>
  M.pure v5

def r15_PutDots_l0 (l2 : List TDot) : List TDot × Int → M (M.Step (List TDot × Int) (List TDot)) := fun ⟨some28, i29⟩ =>
  cond ((decide (i29 < (List.length l2 : Int))))
    (M.bind (M.bind (M.idx l2 i29) fun x32 =>
    M.bind (M.det (r07_Good x32)) fun v34 =>
    cond v34
      (M.bind (M.idx l2 i29) fun x37 =>
      M.bind (M.det (r07_Put some28 x37)) fun v39 =>
      M.pure v39)
      (M.pure some28)) (fun some31 =>
    M.pure (.next ((some31, (IntKind.i64.wrap (i29 + 1)))))))
    (M.pure (.done some28))
def r15_PutDots_l1 (some3 : List TDot) : List Int × Int → M (M.Step (List Int × Int) (List Int)) := fun ⟨out56, i57⟩ =>
  cond ((decide (i57 < (List.length some3 : Int))))
    (M.bind (M.idx some3 i57) fun x59 =>
    M.bind (M.det (r15_PutDot out56 x59)) fun v61 =>
    M.pure (.next ((v61, (IntKind.i64.wrap (i57 + 1))))))
    (M.pure (.done out56))
/-- epitaph/epitaphref15.PutDots -/
def r15_PutDots (b1 : List Int) (l2 : List TDot) : M (List Int) :=
  M.bind (M.loop (r15_PutDots_l0 l2) (([] : List TDot), 0)) (fun some3 =>
  M.bind (M.det (r03_Append b1 (IntKind.u64.wrap (List.length some3 : Int)))) fun v41 =>
  M.bind (M.loop (r15_PutDots_l1 some3) (v41, 0)) (fun out43 =>
  M.pure out43))

def r09_devs_l0 (a1 : List TPart) : List TDot × Int → M (M.Step (List TDot × Int) (List TDot)) := fun ⟨out16, i17⟩ =>
  cond ((decide (i17 < (List.length a1 : Int))))
    (M.bind (M.idx a1 i17) fun x19 =>
    M.bind (M.det (r07_Put out16 (⟨x19.dev, 1⟩ : TDot))) fun v21 =>
    M.pure (.next ((v21, (IntKind.i64.wrap (i17 + 1))))))
    (M.pure (.done out16))
def r09_devs_l1 (b2 : List TPart) : List TDot × Int → M (M.Step (List TDot × Int) (List TDot)) := fun ⟨out36, i37⟩ =>
  cond ((decide (i37 < (List.length b2 : Int))))
    (M.bind (M.idx b2 i37) fun x39 =>
    M.bind (M.det (r07_Put out36 (⟨x39.dev, 1⟩ : TDot))) fun v41 =>
    M.pure (.next ((v41, (IntKind.i64.wrap (i37 + 1))))))
    (M.pure (.done out36))
/-- epitaph/epitaphref09.devs -/
def r09_devs (a1 : List TPart) (b2 : List TPart) : M (List TDot) :=
  M.bind (M.loop (r09_devs_l0 a1) (([] : List TDot), 0)) (fun out3 =>
  M.bind (M.loop (r09_devs_l1 b2) (out3, 0)) (fun out23 =>
  M.pure out23))

/-- epitaph/epitaphref06.Meet -/
def r06_Meet (a1 : List TRun) (b2 : List TRun) : M (List TRun) :=
  M.bind (M.det (r06_set a1 b2 1)) fun v3 =>
  M.pure v3

/-- epitaph/epitaphref06.Minus -/
def r06_Minus (a1 : List TRun) (b2 : List TRun) : M (List TRun) :=
  M.bind (M.det (r06_set a1 b2 2)) fun v3 =>
  M.pure v3

def r09_set_l0 (v4 : List TDot) (a1 : List TPart) (b2 : List TPart) (how3 : Int) : Int × List TPart → M (M.Step (Int × List TPart) (List TPart)) := fun ⟨i57, out58⟩ =>
  cond ((decide (i57 < (List.length v4 : Int))))
    (M.bind (M.bind (M.idx v4 i57) fun x61 =>
    M.bind (M.det (r09_Runs a1 x61.dev)) fun v63 =>
    M.bind (M.idx v4 i57) fun x65 =>
    M.bind (M.det (r09_Runs b2 x65.dev)) fun v67 =>
    M.bind (M.det (r06_Join v63 v67)) fun v69 =>
    M.bind (cond (decide (how3 = 1))
      (M.bind (M.det (r06_Meet v63 v67)) fun v73 =>
      M.pure v73)
      (M.pure v69)) (fun z71 =>
    M.bind (cond (decide (how3 = 2))
      (M.bind (M.det (r06_Minus v63 v67)) fun v77 =>
      M.pure v77)
      (M.pure z71)) (fun z75 =>
    cond ((decide (0 < (List.length z75 : Int))))
      (M.bind (M.idx v4 i57) fun x80 =>
      M.need ((List.length out58 + List.length ([(⟨x80.dev, z75⟩ : TPart)])) * 32 ≤ 140737488355328) <|
      M.pure (out58 ++ [(⟨x80.dev, z75⟩ : TPart)]))
      (M.pure out58)))) (fun out60 =>
    M.pure (.next (((IntKind.i64.wrap (i57 + 1)), out60)))))
    (M.pure (.done out58))
/-- epitaph/epitaphref09.set -/
def r09_set (a1 : List TPart) (b2 : List TPart) (how3 : Int) : M (List TPart) :=
  M.bind (M.det (r09_devs a1 b2)) fun v4 =>
  M.bind (M.loop (r09_set_l0 v4 a1 b2 how3) (0, ([] : List TPart))) (fun out6 =>
  M.pure out6)

def r07_Has_l0 (l1 : List TDot) (d2 : TDot) : Int → M (M.Step Int (M.Ex Unit Bool)) := fun i12 =>
  cond ((decide (i12 < (List.length l1 : Int))))
    (M.bind (M.idx l1 i12) fun x14 =>
    cond (((decide (x14.dev = d2.dev) && decide (x14.n = d2.n))))
      (M.pure (.done (.ret true)))
      (M.pure (.next (IntKind.i64.wrap (i12 + 1)))))
    (M.pure (.done (.brk ())))
/-- epitaph/epitaphref07.Has -/
def r07_Has (l1 : List TDot) (d2 : TDot) : M Bool :=
  M.bind (M.loop (r07_Has_l0 l1 d2) 0) (M.exk (fun _ =>
  M.pure false))

def r13_Good_l0 (e1 : TEvent) : Int → M (M.Step Int (M.Ex Unit Bool)) := fun i37 =>
  cond ((decide (i37 < (List.length e1.kills : Int))))
    (M.bind (M.idx e1.kills i37) fun x39 =>
    M.bind (M.det (r07_Good x39)) fun v41 =>
    cond (!v41)
      (M.pure (.done (.ret false)))
      (M.pure (.next (IntKind.i64.wrap (i37 + 1)))))
    (M.pure (.done (.brk ())))
def r04_Text_l0 (s2 : ByteArray) : Int × List Int → M (M.Step (Int × List Int) (List Int)) := fun ⟨i16, v17⟩ =>
  cond ((decide (i16 < (ByteArray.size s2 : Int))))
    (M.bind (M.idx (bytesL s2) i16) fun b19 =>
    M.need ((List.length v17 + List.length ([b19])) * 1 ≤ 140737488355328) <|
    M.pure (.next (((IntKind.i64.wrap (i16 + 1)), (v17 ++ [b19])))))
    (M.pure (.done v17))
/-- epitaph/epitaphref04.Text -/
def r04_Text (b1 : List Int) (s2 : ByteArray) : M (List Int) :=
  M.bind (M.det (r03_Append b1 (IntKind.u64.wrap (ByteArray.size s2 : Int)))) fun v3 =>
  M.bind (M.loop (r04_Text_l0 s2) (0, v3)) (fun v5 =>
  M.pure v5)

/-- epitaph/epitaphref16.Put -/
def r16_Put (b1 : List Int) (e2 : TEvent) : M (List Int) :=
  M.bind (M.det (r15_PutDot b1 e2.dot)) fun v3 =>
  M.need ((List.length v3 + List.length ([e2.kind])) * 1 ≤ 140737488355328) <|
  M.bind (M.det (r03_Append (v3 ++ [e2.kind]) e2.cid)) fun v6 =>
  M.need ((List.length v6 + List.length ([e2.field])) * 1 ≤ 140737488355328) <|
  M.bind (M.det (r04_Text (v6 ++ [e2.field]) e2.text)) fun v9 =>
  M.bind (M.det (r15_PutDots v9 e2.kills)) fun v11 =>
  M.pure v11

end Go.Ep

namespace Go.Proofs
open Go.Shelf
def Try.pdq163_ren : Go.Shelf.Ren := ⟨fun | 14 => 163 | 20 => 177 | 21 => 178 | 22 => 179 | 23 => 180 | 24 => 181 | 25 => 182 | 26 => 183 | 27 => 184 | 46 => 196 | 47 => 197 | 48 => 198 | 49 => 199 | 50 => 200 | 15 => 164 | 57 => 212 | 28 => 185 | 29 => 186 | n => n, fun | 24 => 38 | 22 => 39 | 3 => 3 | 25 => 136 | 4 => 4 | 0 => 0 | 46 => 196 | 45 => 195 | 50 => 159 | 66 => 209 | 39 => 184 | 55 => 36 | 70 => 212 | 76 => 221 | 77 => 222 | 53 => 202 | 5 => 5 | 9 => 9 | n => n, fun | n => n⟩
theorem Try.pdq163 : Go.Proofs.SlLaysF0.n14 Try.prog Try.pdq163_ren := {
  mixed := by kernel_rfl
  f14 := ⟨Try.f163.name, by decide, Try.func163.trans (congrArg some (by kernel_rfl))⟩
  f15 := Try.func164.trans (congrArg some (by kernel_rfl))
  f20 := ⟨Try.f177.name, by decide, Try.func177.trans (congrArg some (by kernel_rfl))⟩
  f21 := ⟨Try.f178.name, by decide, Try.func178.trans (congrArg some (by kernel_rfl))⟩
  f22 := ⟨Try.f179.name, by decide, Try.func179.trans (congrArg some (by kernel_rfl))⟩
  f23 := ⟨Try.f180.name, by decide, Try.func180.trans (congrArg some (by kernel_rfl))⟩
  f24 := ⟨Try.f181.name, by decide, Try.func181.trans (congrArg some (by kernel_rfl))⟩
  f25 := ⟨Try.f182.name, by decide, Try.func182.trans (congrArg some (by kernel_rfl))⟩
  f26 := ⟨Try.f183.name, by decide, Try.func183.trans (congrArg some (by kernel_rfl))⟩
  f27 := ⟨Try.f184.name, by decide, Try.func184.trans (congrArg some (by kernel_rfl))⟩
  f28 := Try.func185.trans (congrArg some (by kernel_rfl))
  f29 := Try.func186.trans (congrArg some (by kernel_rfl))
  f46 := ⟨Try.f196.name, by decide, Try.func196.trans (congrArg some (by kernel_rfl))⟩
  f47 := Try.func197.trans (congrArg some (by kernel_rfl))
  f48 := Try.func198.trans (congrArg some (by kernel_rfl))
  f49 := ⟨Try.f199.name, by decide, Try.func199.trans (congrArg some (by kernel_rfl))⟩
  f50 := ⟨Try.f200.name, by decide, Try.func200.trans (congrArg some (by kernel_rfl))⟩
  f57 := ⟨Try.f212.name, by decide, Try.func212.trans (congrArg some (by kernel_rfl))⟩
  t0 := Try.underlying0
  a0 := Try.isAgg0
  z0 := Try.sizeOf0
  v0 := Try.zeroValue0
  t3 := Try.underlying3
  a3 := Try.isAgg3
  z3 := Try.sizeOf3
  v3 := Try.zeroValue3
  t4 := Try.underlying4
  a4 := Try.isAgg4
  z4 := Try.sizeOf4
  v4 := Try.zeroValue4
  t5 := Try.underlying5
  a5 := Try.isAgg5
  z5 := Try.sizeOf5
  v5 := Try.zeroValue5
  t9 := Try.underlying9
  a9 := Try.isAgg9
  z9 := Try.sizeOf9
  v9 := Try.zeroValue9
  t22 := Try.underlying39
  a22 := Try.isAgg39
  z22 := Try.sizeOf39
  v22 := Try.zeroValue39
  t25 := Try.underlying136
  a25 := Try.isAgg136
  z25 := Try.sizeOf136
  v25 := Try.zeroValue136
  t39 := Try.underlying184
  a39 := Try.isAgg184
  z39 := Try.sizeOf184
  v39 := Try.zeroValue184
  t45 := Try.underlying195
  a45 := Try.isAgg195
  z45 := Try.sizeOf195
  v45 := Try.zeroValue195
  t46 := Try.underlying196
  a46 := Try.isAgg196
  z46 := Try.sizeOf196
  v46 := Try.zeroValue196
  t50 := Try.underlying159
  a50 := Try.isAgg159
  z50 := Try.sizeOf159
  v50 := Try.zeroValue159
  t53 := Try.underlying202
  a53 := Try.isAgg202
  z53 := Try.sizeOf202
  v53 := Try.zeroValue202
  t55 := Try.underlying36
  a55 := Try.isAgg36
  z55 := Try.sizeOf36
  v55 := Try.zeroValue36
  t66 := Try.underlying209
  a66 := Try.isAgg209
  z66 := Try.sizeOf209
  v66 := Try.zeroValue209
  t70 := Try.underlying212
  a70 := Try.isAgg212
  z70 := Try.sizeOf212
  v70 := Try.zeroValue212
  t76 := Try.underlying221
  a76 := Try.isAgg221
  z76 := Try.sizeOf221
  v76 := Try.zeroValue221
  t77 := Try.underlying222
  a77 := Try.isAgg222
  z77 := Try.sizeOf222
  v77 := Try.zeroValue222 }
def Try.pdq187_ren : Go.Shelf.Ren := ⟨fun | 14 => 187 | 20 => 201 | 21 => 202 | 22 => 203 | 23 => 204 | 24 => 205 | 25 => 206 | 26 => 207 | 27 => 208 | 46 => 213 | 47 => 197 | 48 => 198 | 49 => 214 | 50 => 215 | 15 => 164 | 57 => 217 | 28 => 185 | 29 => 186 | n => n, fun | 24 => 114 | 22 => 34 | 3 => 3 | 25 => 187 | 4 => 4 | 0 => 0 | 46 => 196 | 45 => 195 | 50 => 159 | 66 => 209 | 39 => 184 | 55 => 36 | 70 => 212 | 76 => 221 | 77 => 222 | 53 => 202 | 5 => 5 | 9 => 9 | n => n, fun | n => n⟩
theorem Try.pdq187 : Go.Proofs.SlLaysF0.n14 Try.prog Try.pdq187_ren := {
  mixed := by kernel_rfl
  f14 := ⟨Try.f187.name, by decide, Try.func187.trans (congrArg some (by kernel_rfl))⟩
  f15 := Try.func164.trans (congrArg some (by kernel_rfl))
  f20 := ⟨Try.f201.name, by decide, Try.func201.trans (congrArg some (by kernel_rfl))⟩
  f21 := ⟨Try.f202.name, by decide, Try.func202.trans (congrArg some (by kernel_rfl))⟩
  f22 := ⟨Try.f203.name, by decide, Try.func203.trans (congrArg some (by kernel_rfl))⟩
  f23 := ⟨Try.f204.name, by decide, Try.func204.trans (congrArg some (by kernel_rfl))⟩
  f24 := ⟨Try.f205.name, by decide, Try.func205.trans (congrArg some (by kernel_rfl))⟩
  f25 := ⟨Try.f206.name, by decide, Try.func206.trans (congrArg some (by kernel_rfl))⟩
  f26 := ⟨Try.f207.name, by decide, Try.func207.trans (congrArg some (by kernel_rfl))⟩
  f27 := ⟨Try.f208.name, by decide, Try.func208.trans (congrArg some (by kernel_rfl))⟩
  f28 := Try.func185.trans (congrArg some (by kernel_rfl))
  f29 := Try.func186.trans (congrArg some (by kernel_rfl))
  f46 := ⟨Try.f213.name, by decide, Try.func213.trans (congrArg some (by kernel_rfl))⟩
  f47 := Try.func197.trans (congrArg some (by kernel_rfl))
  f48 := Try.func198.trans (congrArg some (by kernel_rfl))
  f49 := ⟨Try.f214.name, by decide, Try.func214.trans (congrArg some (by kernel_rfl))⟩
  f50 := ⟨Try.f215.name, by decide, Try.func215.trans (congrArg some (by kernel_rfl))⟩
  f57 := ⟨Try.f217.name, by decide, Try.func217.trans (congrArg some (by kernel_rfl))⟩
  t0 := Try.underlying0
  a0 := Try.isAgg0
  z0 := Try.sizeOf0
  v0 := Try.zeroValue0
  t3 := Try.underlying3
  a3 := Try.isAgg3
  z3 := Try.sizeOf3
  v3 := Try.zeroValue3
  t4 := Try.underlying4
  a4 := Try.isAgg4
  z4 := Try.sizeOf4
  v4 := Try.zeroValue4
  t5 := Try.underlying5
  a5 := Try.isAgg5
  z5 := Try.sizeOf5
  v5 := Try.zeroValue5
  t9 := Try.underlying9
  a9 := Try.isAgg9
  z9 := Try.sizeOf9
  v9 := Try.zeroValue9
  t22 := Try.underlying34
  a22 := Try.isAgg34
  z22 := Try.sizeOf34
  v22 := Try.zeroValue34
  t25 := Try.underlying187
  a25 := Try.isAgg187
  z25 := Try.sizeOf187
  v25 := Try.zeroValue187
  t39 := Try.underlying184
  a39 := Try.isAgg184
  z39 := Try.sizeOf184
  v39 := Try.zeroValue184
  t45 := Try.underlying195
  a45 := Try.isAgg195
  z45 := Try.sizeOf195
  v45 := Try.zeroValue195
  t46 := Try.underlying196
  a46 := Try.isAgg196
  z46 := Try.sizeOf196
  v46 := Try.zeroValue196
  t50 := Try.underlying159
  a50 := Try.isAgg159
  z50 := Try.sizeOf159
  v50 := Try.zeroValue159
  t53 := Try.underlying202
  a53 := Try.isAgg202
  z53 := Try.sizeOf202
  v53 := Try.zeroValue202
  t55 := Try.underlying36
  a55 := Try.isAgg36
  z55 := Try.sizeOf36
  v55 := Try.zeroValue36
  t66 := Try.underlying209
  a66 := Try.isAgg209
  z66 := Try.sizeOf209
  v66 := Try.zeroValue209
  t70 := Try.underlying212
  a70 := Try.isAgg212
  z70 := Try.sizeOf212
  v70 := Try.zeroValue212
  t76 := Try.underlying221
  a76 := Try.isAgg221
  z76 := Try.sizeOf221
  v76 := Try.zeroValue221
  t77 := Try.underlying222
  a77 := Try.isAgg222
  z77 := Try.sizeOf222
  v77 := Try.zeroValue222 }
def Try.bits164_ren : Go.Shelf.Ren := ⟨fun | 15 => 164 | 28 => 185 | 29 => 186 | n => n, fun | 39 => 184 | 3 => 3 | 53 => 202 | 55 => 36 | 4 => 4 | 5 => 5 | 9 => 9 | n => n, fun | n => n⟩
theorem Try.bits164 : Go.Proofs.SlLaysF0.n15 Try.prog Try.bits164_ren := {
  mixed := by kernel_rfl
  f15 := Try.func164.trans (congrArg some (by kernel_rfl))
  f28 := Try.func185.trans (congrArg some (by kernel_rfl))
  f29 := Try.func186.trans (congrArg some (by kernel_rfl))
  t3 := Try.underlying3
  a3 := Try.isAgg3
  z3 := Try.sizeOf3
  v3 := Try.zeroValue3
  t4 := Try.underlying4
  a4 := Try.isAgg4
  z4 := Try.sizeOf4
  v4 := Try.zeroValue4
  t5 := Try.underlying5
  a5 := Try.isAgg5
  z5 := Try.sizeOf5
  v5 := Try.zeroValue5
  t9 := Try.underlying9
  a9 := Try.isAgg9
  z9 := Try.sizeOf9
  v9 := Try.zeroValue9
  t39 := Try.underlying184
  a39 := Try.isAgg184
  z39 := Try.sizeOf184
  v39 := Try.zeroValue184
  t53 := Try.underlying202
  a53 := Try.isAgg202
  z53 := Try.sizeOf202
  v53 := Try.zeroValue202
  t55 := Try.underlying36
  a55 := Try.isAgg36
  z55 := Try.sizeOf36
  v55 := Try.zeroValue36 }
end Go.Proofs

namespace Go.Ep
open Go.Shelf Go.RowKit Go.Lib Go.Sort Go.Proofs

theorem SortLaw.of {α : Type} [Inhabited α] {P : Program} {f g : FuncId} {k : Nat} {enc : α → List Value} {lt : α → α → Bool} {cf : α → α → Int} (hO : SWO (ltOf cf)) (hlt : ∀ x y, ltOf cf x y = lt x y) (hk : ∀ x, (enc x).length = k)
    (hnil : ∀ w : World, Calls P f #[.slice none 0 0, .func (.func g) #[] #[]] w fun e w' => e = .returned (.tuple #[]) ∧ Go.RowKit.Below w.heap.size w w')
    (hrow : ∀ (blk off cap : Nat) (d : Array α) (w : World), HoldsK enc k w blk off d → blk < w.heap.size → d.size < 4611686018427387904 →
      Calls P f #[.slice (some ⟨blk, off, none⟩) d.size cap, .func (.func g) #[] #[]] w fun e w' => e = .returned (.tuple #[]) ∧ ∃ n os, w' = sortWorldK enc k w blk off n (pdq (ltOf cf) d 0 d.size (Lib.bitLen d.size) true true) os) : SortLaw P f g k enc lt := by
  refine ⟨hnil, fun w blk cap l T cur hh hlc hcs hlen hcells => ?_⟩
  have hblk : blk < w.heap.size := (Array.getElem?_eq_some_iff.1 hh).1
  have hH : HoldsK enc k w blk 0 l.toArray := by
    intro j hj
    rw [size_flatK] at hj
    have hj' : j < l.length * k := by simpa using hj
    obtain ⟨hk0, h1, h2, h3⟩ := idx_split hj'
    constructor
    · rw [Nat.zero_add, cell_of_heap hh]
      show _ = some ((flatK enc k l.toArray)[j]!)
      rw [get_flatK _ _ _ _ hj]
      have hx : l[j / k]? = some l[j / k] := List.getElem?_eq_getElem h1
      have hlk : (enc l[j / k]).length = k := hk _
      have hu : (enc l[j / k])[j % k]? = some ((enc l[j / k])[j % k]'(by omega)) := List.getElem?_eq_getElem (by omega)
      have := hcells (j / k) _ (j % k) _ hx hu
      rw [h3] at this
      rw [this]
      have e1 : (l.toArray)[j / k]! = l[j / k] := by simp [h1]
      rw [e1]
      simp [hu]
    · simp [World.frozen?, hh]
  have hd : l.toArray.size = l.length := by simp
  have hcall := hrow blk 0 cap l.toArray w hH hblk (by simpa using hlen)
  rw [hd] at hcall
  refine hcall.mono fun e w' ⟨he, n, os, hw⟩ => ⟨he, ?_⟩
  have hp := pdq_sorts (ltOf cf) hO l.toArray 0 l.toArray.size (Lib.bitLen l.toArray.size) true true (Nat.zero_le _) (Nat.le_refl _) (Or.inl rfl)
  rw [hd] at hp
  generalize pdq (ltOf cf) l.toArray 0 l.length (Lib.bitLen l.length) true true = d' at hp hw
  obtain ⟨⟨hsz, _, hperm⟩, hsort⟩ := hp
  have hsz' : d'.size = l.length := by simpa using hsz
  have hp' : d'.toList.Perm l := by
    have e1 : (d'.extract 0 l.length).toList = d'.toList := by rw [← hsz']; simp
    have e2 : (l.toArray.extract 0 l.length).toList = l := by simp
    rw [e1, e2] at hperm
    exact hperm
  have hmod : ∀ b, b < w.heap.size → (sortWorldK enc k w blk 0 n d' os).heap[b]? = if blk = b then (w.heap[b]?).map (onCells (putCells id 0 (flatK enc k d'))) else w.heap[b]? := by
    intro b hb
    have hb2 : b < (putRowK enc k (Sort.ahead w n) blk 0 d').heap.size := by simpa [putRowK, Sort.ahead] using hb
    show (grow (putRowK enc k (Sort.ahead w n) blk 0 d') os).heap[b]? = _
    rw [Sort.heap_grow_old _ _ hb2]
    show ((w.heap.modify blk (onCells (putCells id 0 (flatK enc k d')))))[b]? = _
    rw [Array.getElem?_modify]
  subst hw
  refine ⟨d'.toList, (putCells id 0 (flatK enc k d') cur.toArray).toList, hp', ?_, ?_, ?_, ?_, rfl, rfl, rfl, ?_, ?_⟩
  · rw [List.pairwise_iff_getElem]
    intro i j hi hj hij
    have := hsort i j (Nat.zero_le _) hij (by simpa [hsz'] using hj)
    rw [hlt] at this
    have hi' : i < d'.size := by simpa using hi
    have hj' : j < d'.size := by simpa using hj
    simpa [hi', hj'] using this
  · rw [hmod blk hblk, if_pos rfl, hh]
    simp [onCells]
  · simp [putCells]
  · intro i x j u hi hu
    have hi' : i < l.length := by rw [← hsz']; have := (List.getElem?_eq_some_iff.1 hi).1; simpa using this
    have hj : j < k := by rw [← hk x]; exact (List.getElem?_eq_some_iff.1 hu).1
    have hlt2 : i * k + j < l.length * k := idx_lt hi' hj
    have hcl : l.length * k ≤ cur.length := by rw [hcs]; exact Nat.mul_le_mul_right k hlc
    have hin : i * k + j < d'.size * k := by rw [hsz']; exact hlt2
    have hget : (flatK enc k d')[i * k + j]! = u := by
      rw [get_flatK _ _ _ _ hin]
      have hk0 : 0 < k := by omega
      have e1 : (i * k + j) / k = i := by rw [Nat.mul_comm, Nat.mul_add_div hk0, Nat.div_eq_of_lt hj]; omega
      have e2 : (i * k + j) % k = j := by rw [Nat.mul_comm, Nat.mul_add_mod, Nat.mod_eq_of_lt hj]
      rw [e1, e2]
      have e3 : d'[i]! = x := by
        obtain ⟨h1, h2⟩ := List.getElem?_eq_some_iff.1 hi
        have h1' : i < d'.size := by simpa using h1
        rw [getElem!_pos d' i h1']
        simpa using h2
      rw [e3]
      simp [hu]
    have hc2 : i * k + j < cur.length := by omega
    simp only [putCells, Array.toList_mapIdx, List.getElem?_mapIdx]
    rw [List.getElem?_eq_getElem hc2]
    simp only [Option.map_some, id]
    rw [if_pos ⟨Nat.zero_le _, by rw [size_flatK]; omega⟩, Nat.sub_zero, hget]
  · show w.heap.size ≤ (grow (putRowK enc k (Sort.ahead w n) blk 0 d') os).heap.size
    simp [grow, putRowK, Sort.ahead]
  · intro b hb hne
    rw [hmod b hb, if_neg (Ne.symm hne)]
end Go.Ep


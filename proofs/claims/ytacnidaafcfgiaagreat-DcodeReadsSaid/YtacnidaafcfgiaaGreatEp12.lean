/- Walks over pure states: maps that are made and written; loops over maps. No program in sight. -/
import Derived.Test.YtacnidaafcfgiaaGreatEp11
namespace Go.Ep
open Go.RowKit

def bdel (m : Mp) (ns : List Int) (bs : List Nat) : List Nat := match pfind ns m 0 with | some j => bs.eraseIdx j | none => bs

theorem mset_none {ns : List Int} {v : List DV} : ∀ {m : Mp}, mget m ns = none → mset m ns v = m ++ [(ns, v)]
  | [], _ => rfl
  | (n, cs) :: r, h => by
    by_cases e : n = ns
    · simp [mget, e] at h
    · simp only [mget, e, if_false] at h
      simp [mset, e, mset_none h]
theorem mset_len {ns : List Int} {v : List DV} : ∀ {m : Mp} {cs : List DV}, mget m ns = some cs → (mset m ns v).length = m.length
  | (n, c) :: r, cs, h => by
    by_cases e : n = ns
    · simp [mset, e]
    · simp only [mget, e, if_false] at h
      simp [mset, e, mset_len h]
theorem mset_get {ns : List Int} {v : List DV} : ∀ {m : Mp} {j : Nat}, pfind ns m 0 = some j → ∀ i, (mset m ns v)[i]? = if i = j then some (ns, v) else m[i]?
  | (n, c) :: r, j, h, i => by
    unfold pfind at h
    by_cases e : n = ns
    · subst e
      rw [if_pos rfl] at h
      cases h
      simp only [mset, if_true]
      cases i <;> simp
    · rw [if_neg e, pfind_shift] at h
      cases hp : pfind ns r 0 with
      | none => simp [hp] at h
      | some j' =>
        simp [hp] at h
        subst h
        simp only [mset, e, if_false]
        cases i with
        | zero => simp; omega
        | succ i =>
          rw [List.getElem?_cons_succ, mset_get hp i, List.getElem?_cons_succ]
          by_cases hi : i = j'
          · simp [hi]; omega
          · rw [if_neg hi, if_neg (by omega)]
theorem mdel_none {ns : List Int} : ∀ {m : Mp}, mget m ns = none → mdel m ns = m
  | [], _ => rfl
  | (n, cs) :: r, h => by
    by_cases e : n = ns
    · simp [mget, e] at h
    · simp only [mget, e, if_false] at h
      simp [mdel, e, mdel_none h]
theorem mdel_erase {ns : List Int} : ∀ {m : Mp} {j : Nat}, pfind ns m 0 = some j → mdel m ns = m.eraseIdx j
  | (n, c) :: r, j, h => by
    unfold pfind at h
    by_cases e : n = ns
    · subst e
      rw [if_pos rfl] at h
      cases h
      simp [mdel]
    · rw [if_neg e, pfind_shift] at h
      cases hp : pfind ns r 0 with
      | none => simp [hp] at h
      | some j' =>
        simp [hp] at h
        subst h
        simp only [mdel, e, if_false]
        rw [mdel_erase hp, Nat.add_comm 1 j', List.eraseIdx_cons_succ]

theorem sameBits_key (ks : List IntKind) (ns : List Int) : Instr.sameBits 10000 (keyV ks ns) (keyV ks ns) = true := by
  have agg : ∀ (ks : List IntKind) (ns : List Int), Instr.sameBits 10000 (.agg (List.zipWith Value.int ks ns).toArray) (.agg (List.zipWith Value.int ks ns).toArray) = true := by
    intro ks ns
    show ((List.zipWith Value.int ks ns).toArray.size == (List.zipWith Value.int ks ns).toArray.size && ((List.zipWith Value.int ks ns).toArray.toList.zip (List.zipWith Value.int ks ns).toArray.toList).all fun (x, y) => Instr.sameBits 9999 x y) = true
    simp only [beq_self_eq_true, Bool.true_and]
    generalize hl : List.zipWith Value.int ks ns = l
    have : ∀ v ∈ l, ∃ k n, v = Value.int k n := by
      intro v hv
      rw [← hl] at hv
      obtain ⟨i, hi, rfl⟩ := List.getElem_of_mem hv
      exact ⟨_, _, List.getElem_zipWith⟩
    clear hl
    induction l with
    | nil => rfl
    | cons v r ih =>
      obtain ⟨k, n, rfl⟩ := this v (by simp)
      simp only [List.zip_cons_cons, List.all_cons, Bool.and_eq_true]
      refine ⟨?_, ih fun v hv => this v (by simp [hv])⟩
      show (k == k && n == n) = true
      simp
  rcases ks with _ | ⟨k, _ | ⟨k2, ks⟩⟩ <;> rcases ns with _ | ⟨n, _ | ⟨n2, ns⟩⟩ <;> first | exact agg _ _ | (show (k == k && n == n) = true; simp)

section
variable {P : Program}

theorem MapRd.key {w : World} {S : Nat → Prop} {ks : List IntKind} {ag : Bool} {m : Mp} {bs : List Nat} {ck : Nat} {es : Array MapEntry} (hm : MapRd w S ks ag m bs ck es) : ∀ (i : Nat) (e : MapEntry) (n : List Int) (c : List DV), es.toList[i]? = some e → m[i]? = some (n, c) → e.key = keyV ks n ∧ n.length = ks.length := fun i e n c h1 h2 => by
  obtain ⟨e', us, g1, g2, g3, g4, g5, g6, g7, g8⟩ := hm.ent i n c h2
  have : e' = e := by simp at h1; rw [g1] at h1; cases h1; rfl
  subst this
  exact ⟨g2, g7⟩

/-- A map written at a key. -/
theorem run_mapUpdate {w : World} {S : Nat → Prop} {t kt et : TypeId} {ks : List IntKind} {ag : Bool} {m : Mp} {bs : List Nat} {ck b : Nat} {es : Array MapEntry} {ns : List Int} {us : List Value} {cs : List DV} (hu : P.underlying t = some (.map kt et)) (K : KeyOK P kt ks) (hn : ns.length = ks.length)
    (hh : w.heap[b]? = some (.map es ck)) (hm : MapRd w S ks ag m bs ck es) (hl : us.length = cs.length) (h1 : ag = false → cs.length = 1) (ho : ∀ u ∈ us, u.oneCell' = true) (hr : ∀ (j : Nat) (x : DV) (u : Value), cs[j]? = some x → us[j]? = some u → DRd w S x u) :
    ∃ es', (Instr.mapUpdate t (.map (some b)) (keyV ks ns) (elV ag us)).run P w = .ok () { w with heap := w.heap.setIfInBounds b (.map es' (cset m ns ck)) } ∧ MapRd w S ks ag (mset m ns cs) (bset m ns bs ck) (cset m ns ck) es' := by
  have hf := K.find w ns m es.toList hn (by simpa using hm.size) hm.key
  cases hp : pfind ns m 0 with
  | none =>
    have hg := pfind_none ns m 0 hp
    rw [hp] at hf
    refine ⟨es.push { key := keyV ks ns, val := elV ag us, born := ck }, ?_, ?_⟩
    · simp only [Instr.mapUpdate, Sem.run_bind, run_underlying hu, Result.andThen_ok, MapKept.run_getObj_map hh, K.check w _ ns hn, hf, Option.bind_none, cset, hg]
      exact MapKept.run_setObj_map _ hh
    · rw [mset_none hg]
      simp only [bset, cset, hg]
      refine ⟨by simp [hm.size], by simp [hm.stamps], ?_, ?_, ?_⟩
      · intro x hx
        rcases List.mem_append.1 hx with h | h
        · have := hm.below x h; omega
        · simp at h; omega
      · rw [List.nodup_append]
        refine ⟨hm.nodup, by simp, ?_⟩
        intro x hx y hy
        simp at hy
        have := hm.below x hx
        omega
      · intro i n c hi
        rw [List.getElem?_append] at hi
        split at hi
        · rename_i hlt
          obtain ⟨e, us', g1, g⟩ := hm.ent i n c hi
          exact ⟨e, us', by rw [Array.getElem?_push, if_neg (by rw [hm.size]; omega)]; exact g1, g⟩
        · rename_i hge
          have hi0 : i = m.length := by
            have : i - m.length < 1 := by simpa using (List.getElem?_eq_some_iff.1 hi).1
            omega
          subst hi0
          simp at hi
          obtain ⟨rfl, rfl⟩ := hi
          exact ⟨_, us, by rw [Array.getElem?_push, if_pos hm.size.symm], rfl, rfl, hl, h1, ho, hn, hr⟩
  | some j =>
    obtain ⟨k, hjk, cs0, h2, h3⟩ := pfind_off ns m 0 j hp
    have : j = k := by omega
    subst this
    obtain ⟨e0, us0, g1, g2, g3, g4, g5, g6, g7, g8⟩ := hm.ent j ns cs0 h2
    rw [hp] at hf
    have he : es.toList[j]? = some e0 := by simpa using g1
    simp only [Option.bind_some, he, Option.map_some] at hf
    refine ⟨es.modify j fun e => { e with key := keyV ks ns, val := elV ag us }, ?_, ?_⟩
    · have hsame : (Instr.keyThatStays (((es[j]?).map (·.key)).getD (keyV ks ns)) (keyV ks ns)).run P w = .ok (keyV ks ns) w := by
        simp only [g1, Option.map_some, Option.getD_some, g2, Instr.keyThatStays, sameBits_key, if_true, Sem.run_pure]
      simp only [Instr.mapUpdate, Sem.run_bind, run_underlying hu, Result.andThen_ok, MapKept.run_getObj_map hh, K.check w _ ns hn, hf, hsame, cset, h3]
      exact MapKept.run_setObj_map _ hh
    · simp only [bset, cset, h3]
      refine ⟨by rw [mset_len h3]; simp [hm.size], ?_, hm.below, hm.nodup, ?_⟩
      · rw [hm.stamps]
        apply List.ext_getElem?
        intro i
        simp only [List.getElem?_map, Array.getElem?_toList, Array.getElem?_modify]
        by_cases hij : j = i
        · subst hij; simp [g1]
        · simp [hij]
      · intro i n c hi
        rw [mset_get hp] at hi
        by_cases hij : i = j
        · subst hij
          rw [if_pos rfl] at hi
          cases hi
          exact ⟨_, us, by rw [Array.getElem?_modify, if_pos rfl, g1]; rfl, rfl, rfl, hl, h1, ho, hn, hr⟩
        · rw [if_neg hij] at hi
          obtain ⟨e, us', q1, q⟩ := hm.ent i n c hi
          exact ⟨e, us', by rw [Array.getElem?_modify, if_neg (Ne.symm hij)]; exact q1, q⟩

/-- An entry taken out. -/
theorem run_delete {w : World} {S : Nat → Prop} {t kt et ty : TypeId} {ats : Array TypeId} {ks : List IntKind} {ag : Bool} {m : Mp} {bs : List Nat} {ck b : Nat} {es : Array MapEntry} {ns : List Int} (hats : ats[0]? = some t) (hu : P.underlying t = some (.map kt et)) (K : KeyOK P kt ks) (hn : ns.length = ks.length)
    (hh : w.heap[b]? = some (.map es ck)) (hm : MapRd w S ks ag m bs ck es) :
    ∃ es', (Builtin.delete_ ats ty #[.map (some b), keyV ks ns]).run P w = .ok (.tuple #[]) { w with heap := w.heap.setIfInBounds b (.map es' ck) } ∧ MapRd w S ks ag (mdel m ns) (bdel m ns bs) ck es' := by
  have hf := K.find w ns m es.toList hn (by simpa using hm.size) hm.key
  have a0 : (#[Value.map (some b), keyV ks ns] : Array Value)[0]? = some (.map (some b)) := rfl
  have a1 : (#[Value.map (some b), keyV ks ns] : Array Value)[1]? = some (keyV ks ns) := rfl
  cases hp : pfind ns m 0 with
  | none =>
    have hg := pfind_none ns m 0 hp
    rw [hp] at hf
    refine ⟨es, ?_, by simp only [mdel_none hg, bdel, hp]; exact hm⟩
    simp only [Builtin.delete_, hats, a0, a1, Sem.run_bind, run_underlying hu, Result.andThen_ok, MapKept.run_getObj_map hh, K.check w _ ns hn, hf, Option.bind_none, MapKept.run_setObj_map _ hh, Sem.run_pure]
  | some j =>
    obtain ⟨k, hjk, cs0, h2, h3⟩ := pfind_off ns m 0 j hp
    have : j = k := by omega
    subst this
    obtain ⟨e0, us0, g1, _⟩ := hm.ent j ns cs0 h2
    have hjm : j < m.length := (List.getElem?_eq_some_iff.1 h2).1
    have hje : j < es.size := by rw [hm.size]; exact hjm
    have he : es.toList[j]? = some e0 := by simpa using g1
    rw [hp] at hf
    simp only [Option.bind_some, he, Option.map_some] at hf
    have hsz : (es.eraseIdxIfInBounds j).toList = es.toList.eraseIdx j := by simp [Array.eraseIdxIfInBounds, hje]
    refine ⟨es.eraseIdxIfInBounds j, ?_, ?_⟩
    · simp only [Builtin.delete_, hats, a0, a1, Sem.run_bind, run_underlying hu, Result.andThen_ok, MapKept.run_getObj_map hh, K.check w _ ns hn, hf, MapKept.run_setObj_map _ hh, Sem.run_pure]
    · rw [mdel_erase hp]
      simp only [bdel, hp]
      refine ⟨?_, ?_, ?_, ?_, ?_⟩
      · have := congrArg List.length hsz
        simp only [Array.length_toList] at this
        rw [this, List.length_eraseIdx, List.length_eraseIdx]
        simp [hm.size]
      · rw [hsz, hm.stamps]
        apply List.ext_getElem?
        intro i
        simp only [List.getElem?_map, List.getElem?_eraseIdx]
        split <;> simp
      · intro x hx
        exact hm.below x (List.mem_of_mem_eraseIdx hx)
      · exact hm.nodup.sublist (List.eraseIdx_sublist _ _)
      · intro i n c hi
        rw [List.getElem?_eraseIdx] at hi
        split at hi
        · rename_i hlt
          obtain ⟨e, us', q1, q⟩ := hm.ent i n c hi
          refine ⟨e, us', ?_, q⟩
          rw [← Array.getElem?_toList, hsz, List.getElem?_eraseIdx, if_pos hlt, Array.getElem?_toList]
          exact q1
        · rename_i hlt
          obtain ⟨e, us', q1, q⟩ := hm.ent (i + 1) n c hi
          refine ⟨e, us', ?_, q⟩
          rw [← Array.getElem?_toList, hsz, List.getElem?_eraseIdx, if_neg hlt, Array.getElem?_toList]
          exact q1
end

section
variable {P : Program} {ctx : Ctx} {Q : PQ} {s : PState}
variable {dst : Option Tmp} {ty : TypeId} {pos : String} {after : Array Edge} {gd : Option (Nat × Bool)}

theorem LR.makeMap {id : Nat} {t : TypeId} (ks : List IntKind) (ag : Bool) (hf : s.fresh id = true) : Local P ctx ⟨some id, .makeMap t none, ty, pos, after, gd⟩ s (s.newO id (.map ks ag [] [] 0) (.mp id)) :=
  local_value (o := ⟨some id, .makeMap t none, ty, pos, after, gd⟩) fun a w g hg => by
    refine ⟨.map (some w.heap.size), w.alloc (.map #[] 0), by simp [execOp, Instr.makeMap, Result.andThen], upd g id (some (w.heap.size, 0)), ?_⟩
    have hb := Below.alloc1 w (.map #[] 0)
    have hnew := hg.new hb hf (some (w.heap.size, 0)) (fun b n e => by cases e; simp) (.map ks ag [] [] 0)
      (.map ks ag [] [] 0 w.heap.size 0 #[] (upd_same _ _ _) (heap_alloc_new w _) ⟨rfl, rfl, by simp, by simp, by simp⟩)
    exact hnew.put (some id) (.mp id w.heap.size 0 (upd_same _ _ _))

theorem set_other (w : World) (b k : Nat) (o : Obj) (h : k ≠ b) : ({ w with heap := w.heap.setIfInBounds b o } : World).heap[k]? = w.heap[k]? := by simp [Ne.symm h]
theorem set_same (w : World) (b : Nat) (o : Obj) (h : b < w.heap.size) : ({ w with heap := w.heap.setIfInBounds b o } : World).heap[b]? = some o := by simp [h]

theorem elP_parts {ag : Bool} {cs : List DV} {q : PV} (hq : elP ag cs = q) (h1 : ag = false → cs.length = 1) {w : World} {g : Ghost} {S : Nat → Prop} {u : Value} (h : Rd w g S q u) :
    ∃ us, u = elV ag us ∧ us.length = cs.length ∧ (∀ u ∈ us, u.oneCell' = true) ∧ ∀ (j : Nat) (x : DV) (u : Value), cs[j]? = some x → us[j]? = some u → DRd w S x u := by
  subst hq
  cases ag with
  | true =>
    cases h with
    | agg _ us hl hr ho =>
      refine ⟨us, rfl, by simpa using hl.symm, ho, fun j x u hx hu => ?_⟩
      have := hr j (.d x) u (by simp [hx]) hu
      cases this with
      | d h => exact h
  | false =>
    match cs, h1 rfl, h with
    | [x], _, .d hd =>
      refine ⟨[u], rfl, rfl, by simpa using hd.one, fun j y v hy hv => ?_⟩
      cases j with
      | zero => simp at hy hv; subst hy; subst hv; exact hd
      | succ j => simp at hy

theorem LR.mapUpdate {x kx vx : Operand} {t kt et : TypeId} {id : Nat} {ks : List IntKind} {ag : Bool} {m : Mp} {bs bs' : List Nat} {ck ck' : Nat} {ns : List Int} {cs : List DV} {q : PV} (hu : P.underlying t = some (.map kt et)) (K : KeyOK P kt ks) (hx : s.ev x = some (.mp id)) (hl : look s.objs id = some (.map ks ag m bs ck))
    (hk : s.ev kx = some (keyP ks ns)) (hn : ns.length = ks.length) (hv : s.ev vx = some q) (hq : elP ag cs = q) (h1 : ag = false → cs.length = 1) (hbs : bset m ns bs ck = bs') (hck : cset m ns ck = ck') :
    Local P ctx ⟨none, .mapUpdate t x kx vx, ty, pos, after, gd⟩ s (s.setO id (.map ks ag (mset m ns cs) bs' ck')) := by
  subst hbs
  subst hck
  refine local_skip (o := ⟨none, .mapUpdate t x kx vx, ty, pos, after, gd⟩) fun a w g hg => ?_
  have h := hg.ev hx
  generalize hxv : a.eval x = v at h
  cases h with
  | mp _ blk n hgi =>
    cases hg.objs id _ hl with
    | map _ _ _ _ _ blk' n' es h' hh hm =>
      rw [hgi] at h'; cases h'
      obtain ⟨us, e1, e2, e3, e4⟩ := elP_parts hq h1 (hg.ev hv)
      obtain ⟨es', hrun, hm'⟩ := run_mapUpdate hu K hn hh hm e2 h1 e3 e4
      refine ⟨_, by simp only [execOp, hxv, keyP_eq (hg.ev hk), e1, Sem.run_bind, hrun, Result.andThen_ok, Sem.run_pure]; rfl, g, ?_⟩
      have hown := hg.own id _ blk n hl hgi
      have hother : ∀ k, k < w.heap.size → k ≠ blk → ({ w with heap := w.heap.setIfInBounds blk (.map es' (cset m ns ck)) } : World).heap[k]? = w.heap[k]? := fun k _ hne => set_other w blk k _ hne
      have hst : Stays w { w with heap := w.heap.setIfInBounds blk (.map es' (cset m ns ck)) } (Free ctx g s.objs) := ⟨by simp, fun b ⟨_, h2⟩ hlt => hother b hlt fun e => by subst e; exact h2 id _ n hl hgi⟩
      exact hg.wrote hl hgi rfl rfl rfl (by simp) hother hown.2 (.map ks ag _ _ _ blk n es' hgi (set_same w blk _ hown.1) (hm'.keep hst (fun b hb _ => free_put hl b hb)))

theorem LR.delete {x kx : Operand} {t kt et : TypeId} {ats : Array TypeId} {id : Nat} {ks : List IntKind} {ag : Bool} {m : Mp} {bs bs' : List Nat} {ck : Nat} {ns : List Int} (hats : ats[0]? = some t) (hu : P.underlying t = some (.map kt et)) (K : KeyOK P kt ks) (hx : s.ev x = some (.mp id)) (hl : look s.objs id = some (.map ks ag m bs ck))
    (hk : s.ev kx = some (keyP ks ns)) (hn : ns.length = ks.length) (hbs : bdel m ns bs = bs') :
    Local P ctx ⟨dst, .call ⟨.builtin .delete, #[x, kx], ats⟩, ty, pos, after, gd⟩ s ((s.setO id (.map ks ag (mdel m ns) bs' ck)).putD dst (.tup [])) := by
  subst hbs
  refine local_value (o := ⟨dst, .call ⟨.builtin .delete, #[x, kx], ats⟩, ty, pos, after, gd⟩) fun a w g hg => ?_
  have h := hg.ev hx
  generalize hxv : a.eval x = v at h
  cases h with
  | mp _ blk n hgi =>
    cases hg.objs id _ hl with
    | map _ _ _ _ _ blk' n' es h' hh hm =>
      rw [hgi] at h'; cases h'
      obtain ⟨es', hrun, hm'⟩ := run_delete (P := P) (ty := ty) hats hu K hn hh hm
      have hexec : (execOp a.eval ⟨dst, .call ⟨.builtin .delete, #[x, kx], ats⟩, ty, pos, after, gd⟩).run P w = .ok (.value (.tuple #[])) { w with heap := w.heap.setIfInBounds blk (.map es' ck) } := by
        simp only [execOp, resolve, invoke, builtin, hxv, keyP_eq (hg.ev hk), Sem.run_bind, Sem.run_pure, Result.andThen_ok, List.map_toArray, List.map_cons, List.map_nil, hrun]
      refine ⟨.tuple #[], _, hexec, g, ?_⟩
      have hown := hg.own id _ blk n hl hgi
      have hother : ∀ k, k < w.heap.size → k ≠ blk → ({ w with heap := w.heap.setIfInBounds blk (.map es' ck) } : World).heap[k]? = w.heap[k]? := fun k _ hne => set_other w blk k _ hne
      have hst : Stays w { w with heap := w.heap.setIfInBounds blk (.map es' ck) } (Free ctx g s.objs) := ⟨by simp, fun b ⟨_, h2⟩ hlt => hother b hlt fun e => by subst e; exact h2 id _ n hl hgi⟩
      exact (hg.wrote hl hgi (w' := { w with heap := w.heap.setIfInBounds blk (.map es' ck) }) rfl rfl rfl (by simp) hother hown.2 (.map ks ag _ _ _ blk n es' hgi (set_same w blk _ hown.1) (hm'.keep hst (fun b hb _ => free_put hl b hb)))).put dst (.tup [] [] rfl (by simp))

/-! ### Loops over maps -/
theorem iter_new {o : Oper} {id : Nat} {ob : Ob} (ho : o.dst = some id) (hf : s.fresh id = true) {a : Act} {w : World} {g : Ghost} (hg : RelG ctx g s a w) {it : Obj}
    (h : ∀ (w' : World) (g' : Ghost) (S' : Nat → Prop), Stays w w' (Free ctx g s.objs) → (∀ b, Free ctx g s.objs b → b < w.heap.size → S' b) → (∀ j, j ≠ id → g' j = g j) → g' id = some (w.heap.size, 0) → w'.heap[w.heap.size]? = some it → ObRd w' g' S' id ob) :
    Rel ctx (s.newO id ob (.ref id 0)) (a.put o.dst (.pointer (some ⟨w.heap.size, 0, none⟩))) (w.alloc it) := by
  have hb := Below.alloc1 w it
  have hst : Stays w (w.alloc it) (Free ctx g s.objs) := ⟨hb.size, fun b _ hlt => hb.block b hlt⟩
  have hF : ∀ b, Free ctx g s.objs b → b < w.heap.size → Free ctx (upd g id (some (w.heap.size, 0))) (putO id ob s.objs) b := by
    intro b ⟨h1, h2⟩ hlt
    refine ⟨h1, fun j o n hl hg' => ?_⟩
    rw [look_putO] at hl
    by_cases hj : j = id
    · subst hj; rw [upd_same] at hg'; cases hg'; omega
    · rw [if_neg hj] at hl; rw [upd_ne hj] at hg'; exact h2 j o n hl hg'
  have hnew := hg.new hb hf (some (w.heap.size, 0)) (fun b n e => by cases e; simp) ob (h _ _ _ hst hF (fun j hj => upd_ne hj) (upd_same _ _ _) (heap_alloc_new w _))
  rw [ho]
  exact ⟨_, hnew.put (some id) (.ref id 0 w.heap.size 0 (upd_same _ _ _))⟩

theorem LR.rangeO {id mid : Nat} {x : Operand} {t kt et : TypeId} {ks : List IntKind} {ag : Bool} {m : Mp} {bs : List Nat} {ck : Nat} (hu : P.underlying t = some (.map kt et)) (hx : s.ev x = some (.mp mid)) (hl : look s.objs mid = some (.map ks ag m bs ck)) (hf : s.fresh id = true) :
    Local P ctx ⟨some id, .range t x, ty, pos, after, gd⟩ s (s.newO id (.iterO mid bs ck []) (.ref id 0)) :=
  local_value (o := ⟨some id, .range t x, ty, pos, after, gd⟩) fun a w g hg => by
    have h := hg.ev hx
    generalize hv : a.eval x = v at h
    cases h with
    | mp _ blk n hgi =>
      cases hg.objs mid _ hl with
      | map _ _ _ _ _ blk' n' es h' hh hm =>
        rw [hgi] at h'; cases h'
        refine ⟨_, _, ?_, iter_new (o := ⟨some id, .range t x, ty, pos, after, gd⟩) rfl hf hg (it := .mapIter (some blk) ck #[] ck) fun w' g' S' _ _ h1 h2 h3 => .iterO mid bs ck [] w.heap.size 0 blk n h2 h3 (by
          rw [h1 mid (fun e => by subst e; rw [fresh_look hf] at hl; cases hl)]; exact hgi)⟩
        simp [execOp, hv, Instr.range, run_underlying hu, MapKept.run_getObj_map hh, Result.andThen]

theorem PWl.rangeD {ops : Array Oper} {rest : List Oper} {id : Nat} {x : Operand} {t kt et : TypeId} {ks : List IntKind} {ag : Bool} {m : Mp} (hu : P.underlying t = some (.map kt et)) (hx : s.ev x = some (.md ks ag m)) (hf : s.fresh id = true) (hgd : gd = none)
    (h : ∀ bs ck, bs.length = m.length → bs.Nodup → PWl P ctx ops Q rest (s.newO id (.iterD ks ag m bs ck []) (.ref id 0))) : PWl P ctx ops Q (⟨some id, .range t x, ty, pos, after, gd⟩ :: rest) s := by
  rintro a w ⟨g, hg⟩
  have hr := hg.ev hx
  generalize hv : a.eval x = v at hr
  refine wpList_plain hgd fun K hK => ?_
  cases hr with
  | md _ _ _ bs ck b es hS hb hh hm =>
    have hlen : bs.length = m.length := by rw [hm.stamps]; simp [hm.size]
    have hrun : (execOp a.eval ⟨some id, .range t x, ty, pos, after, gd⟩).run P w = .ok (.value (.pointer (some ⟨w.heap.size, 0, none⟩))) (w.alloc (.mapIter (some b) ck #[] ck)) := by
      simp [execOp, hv, Instr.range, run_underlying hu, MapKept.run_getObj_map hh, Result.andThen]
    unfold Oper.wp
    rw [hrun]
    exact hK _ _ (h bs ck hlen hm.nodup _ _ (iter_new (o := ⟨some id, .range t x, ty, pos, after, gd⟩) rfl hf hg fun w' g' S' hst hS' h1 h2 h3 => .iterD ks ag m bs ck [] w.heap.size 0 b es h2 h3 (hS' b hS hb) (Nat.lt_of_lt_of_le hb hst.1) (by rw [hst.2 b hS hb]; exact hh) (hm.keep hst hS')))
  | mdNil =>
    have hrun : (execOp a.eval ⟨some id, .range t x, ty, pos, after, gd⟩).run P w = .ok (.value (.pointer (some ⟨w.heap.size, 0, none⟩))) (w.alloc (.mapIter none 0 #[] 0)) := by
      simp [execOp, hv, Instr.range, run_underlying hu, Result.andThen]
    unfold Oper.wp
    rw [hrun]
    exact hK _ _ (h [] 0 rfl (by simp) _ _ (iter_new (o := ⟨some id, .range t x, ty, pos, after, gd⟩) rfl hf hg fun w' g' S' hst hS' h1 h2 h3 => .iterN ks ag w.heap.size 0 h2 h3))

/-- One step of a loop over a map: it is over, or whichever entry that has not come yet. -/
theorem run_next {w : World} {b r ck : Nat} {es : Array MapEntry} {seen : List Nat} (hr : w.heap[r]? = some (.mapIter (some b) ck seen.toArray ck)) (hb : w.heap[b]? = some (.map es ck)) (hlt : ∀ (i : Nat) (e : MapEntry), es[i]? = some e → e.born < ck) (ty : TypeId) :
    ∃ w1 : World, w1.heap = w.heap ∧ w1.os = w.os ∧ w1.tape = w.tape ∧ w1.output = w.output ∧
      (((Instr.next (.pointer (some ⟨r, 0, none⟩)) false ty).run P w = .ok (.tuple #[.bool false]) w1 ∧ ∀ (i : Nat) (e : MapEntry), es[i]? = some e → e.born ∈ seen) ∨
       ∃ (i : Nat) (e : MapEntry), es[i]? = some e ∧ e.born ∉ seen ∧ (Instr.next (.pointer (some ⟨r, 0, none⟩)) false ty).run P w = .ok (.tuple #[.bool true, e.key, e.val]) { w1 with heap := w1.heap.setIfInBounds r (.mapIter (some b) ck (seen.toArray.push e.born) ck) }) := by
  have hgr : (getObj r).run P w = .ok (.mapIter (some b) ck seen.toArray ck) w := by simp [getObj, Sem.run, hr]
  have hgb := MapKept.run_getObj_map (P := P) hb
  have hnot : (!seen.toArray.isEmpty && !es.isEmpty && es.all (·.born ≥ ck)) = false := by
    cases he : es.isEmpty with
    | true => simp
    | false =>
      have h0 : 0 < es.size := by
        rcases Nat.eq_zero_or_pos es.size with h | h
        · have : es = #[] := Array.eq_empty_of_size_eq_zero h
          subst this; simp at he
        · exact h
      have h1 := hlt 0 es[0] (Array.getElem?_eq_getElem h0)
      have : es.all (·.born ≥ ck) = false := by
        cases ha : es.all (·.born ≥ ck) with
        | false => rfl
        | true =>
          have := Array.all_eq_true_iff_forall_mem.1 ha es[0] (by simp)
          simp at this
          omega
      simp [this]
  have hold : (es.filter fun e => !seen.toArray.contains e.born).filter (fun e => e.born < ck) = es.filter fun e => !seen.toArray.contains e.born := by
    apply Array.ext'
    simp only [Array.toList_filter]
    rw [List.filter_eq_self.2]
    intro e he
    have he := (List.mem_filter.1 he).1
    obtain ⟨i, hi, rfl⟩ := List.getElem_of_mem he
    have := hlt i _ (by simp at hi ⊢; exact Array.getElem?_eq_getElem hi)
    simpa using this
  have hnew : (es.filter fun e => !seen.toArray.contains e.born).filter (fun e => e.born ≥ ck) = #[] := by
    apply Array.ext'
    simp only [Array.toList_filter]
    rw [List.filter_eq_nil_iff.2]
    · intro e he
      have he := (List.mem_filter.1 he).1
      obtain ⟨i, hi, rfl⟩ := List.getElem_of_mem he
      have := hlt i _ (by simp at hi ⊢; exact Array.getElem?_eq_getElem hi)
      simp at this ⊢
      exact this
  generalize hleft : (es.filter fun e => !seen.toArray.contains e.born) = left at hold hnew
  have hunf : ∀ (k : Nat) (w1 : World), (choose (.mapNext ((if left.isEmpty then #[none] else #[]) ++ (left ++ #[]).map some : Array (Option MapEntry)).size)).run P w = .ok k w1 →
      (Instr.next (.pointer (some ⟨r, 0, none⟩)) false ty).run P w = (match ((if left.isEmpty then #[none] else #[]) ++ (left ++ #[]).map some : Array (Option MapEntry))[k]? with
        | some (some e) => (do setObj r (.mapIter (some b) ck (seen.toArray.push e.born) ck); pure (.tuple #[.bool true, e.key, e.val]) : Sem Value).run P w1
        | some none => .ok (.tuple #[.bool false]) w1
        | none => (stuck "Next: no such candidate" : Sem Value).run P w1) := by
    intro k w1 hk
    simp only [Instr.next, Sem.run_bind, hgr, Result.andThen_ok, hgb, hnot, Bool.false_eq_true, if_false, hleft, hold, hnew, hk]
    split <;> simp_all
  by_cases hemp : left.isEmpty = true
  · have hl0 : left = #[] := by simpa using hemp
    refine ⟨w, rfl, rfl, rfl, rfl, .inl ⟨?_, ?_⟩⟩
    · have hc : (choose (.mapNext ((if left.isEmpty then #[none] else #[]) ++ (left ++ #[]).map some : Array (Option MapEntry)).size)).run P w = .ok 0 w := by
        subst hl0
        simp [Question.forced]
      rw [hunf 0 w hc]
      subst hl0
      simp
    · intro i e he
      by_cases hs : e.born ∈ seen
      · exact hs
      · exfalso
        have : e ∈ left := by
          rw [← hleft, Array.mem_filter]
          exact ⟨Array.mem_of_getElem? he, by simpa using hs⟩
        rw [hl0] at this
        simp at this
  · have hcand : ((if left.isEmpty then #[none] else #[]) ++ (left ++ #[]).map some : Array (Option MapEntry)) = left.map some := by simp [hemp]
    have hpos : 0 < left.size := by
      rcases Nat.eq_zero_or_pos left.size with h | h
      · have : left = #[] := Array.eq_empty_of_size_eq_zero h
        subst this; simp at hemp
      · exact h
    obtain ⟨k, w1, hk, hklt, e1, e2, e3, e4⟩ : ∃ (k : Nat) (w1 : World), (choose (.mapNext ((if left.isEmpty then #[none] else #[]) ++ (left ++ #[]).map some : Array (Option MapEntry)).size)).run P w = .ok k w1 ∧ k < left.size ∧ w1.heap = w.heap ∧ w1.os = w.os ∧ w1.tape = w.tape ∧ w1.output = w.output := by
      rw [hcand]
      rw [run_choose_drew]
      by_cases hfo : (Question.mapNext (left.map some : Array (Option MapEntry)).size).forced = true
      · rw [if_pos hfo]; exact ⟨0, w, rfl, hpos, rfl, rfl, rfl, rfl⟩
      · rw [if_neg hfo]; exact ⟨_, w.drew, rfl, by simp only [Question.cut, Array.size_map]; exact Nat.mod_lt _ hpos, rfl, rfl, rfl, rfl⟩
    refine ⟨w1, e1, e2, e3, e4, .inr ?_⟩
    have hin : left[k] ∈ es.filter fun e => !seen.toArray.contains e.born := by rw [hleft]; simp
    obtain ⟨h1, h2⟩ := Array.mem_filter.1 hin
    obtain ⟨i, hi, hie⟩ := Array.getElem_of_mem h1
    refine ⟨i, left[k], by rw [← hie]; exact Array.getElem?_eq_getElem hi, by simpa using h2, ?_⟩
    rw [hunf k w1 hk, hcand]
    have : (left.map some : Array (Option MapEntry))[k]? = some (some left[k]) := by simp [hklt]
    rw [this]
    have hset : (setObj r (.mapIter (some b) ck (seen.toArray.push left[k].born) ck)).run P w1 = .ok () { w1 with heap := w1.heap.setIfInBounds r (.mapIter (some b) ck (seen.toArray.push left[k].born) ck) } := by
      simp [setObj, Sem.run, e1, hr]
    simp only [Sem.run_bind, hset, Result.andThen_ok, Sem.run_pure]

theorem getD_inj {bs : List Nat} (h : bs.Nodup) {i j : Nat} (hi : i < bs.length) (hj : j < bs.length) (e : bs.getD i 0 = bs.getD j 0) : i = j := by
  have e' : bs[i] = bs[j] := by simpa [List.getD, hi, hj] using e
  have hp := List.pairwise_iff_getElem.1 h
  rcases Nat.lt_trichotomy i j with h1 | h1 | h1
  · exact absurd e' (hp i j hi hj h1)
  · exact h1
  · exact absurd e'.symm (hp j i hj hi h1)

section
variable {ops : Array Oper} {rest : List Oper} {it : Operand} {id : Nat} {ks : List IntKind} {ag : Bool} {m : Mp} {bs : List Nat} {ck : Nat} {L : List Nat}

theorem PWl.nextD (hx : s.ev it = some (.ref id 0)) (hl : look s.objs id = some (.iterD ks ag m bs ck L)) (hL : ∀ i ∈ L, i < m.length) (hgd : gd = none)
    (hdone : (∀ i, i < m.length → i ∈ L) → PWl P ctx ops Q rest (s.putD dst (.tup [.d (.v (.bool false))])))
    (hstep : ∀ i, i < m.length → i ∉ L → PWl P ctx ops Q rest ((s.setO id (.iterD ks ag m bs ck (L ++ [i]))).putD dst (.tup [.d (.v (.bool true)), .junk, .junk]))) :
    PWl P ctx ops Q (⟨dst, .next it false, ty, pos, after, gd⟩ :: rest) s := by
  rintro a w ⟨g, hg⟩
  have hr := hg.ev hx
  generalize hv : a.eval it = v at hr
  refine wpList_plain hgd fun K hK => ?_
  have tupF : Rd w g (Free ctx g s.objs) (.tup [.d (.v (.bool false))]) (.tuple [.bool false].toArray) := .tup _ [.bool false] rfl (fun i p u hp hu => by
    match i with
    | 0 => simp at hp hu; subst hp; subst hu; exact .d (.v _ rfl)
    | _ + 1 => simp at hp)
  cases hr with
  | ref _ _ blk n hgi =>
    cases hg.objs id _ hl with
    | iterN _ _ blk' n' h' hh =>
      rw [hgi] at h'; cases h'
      have hrun : (execOp a.eval ⟨dst, .next it false, ty, pos, after, gd⟩).run P w = .ok (.value (.tuple #[.bool false])) w := by
        have hgr : (getObj blk).run P w = .ok (.mapIter none 0 #[] 0) w := by simp [getObj, Sem.run, hh]
        simp only [execOp, hv, Instr.next, Sem.run_bind, hgr, Result.andThen_ok, Sem.run_pure]
      unfold Oper.wp
      rw [hrun]
      exact hK _ _ (hdone (by simp) _ _ ⟨g, hg.put dst tupF⟩)
    | iterD _ _ _ _ _ _ blk' n' b es h' hh hS hb hb2 hm =>
      rw [hgi] at h'; cases h'
      have hblen : bs.length = m.length := by rw [hm.stamps]; simp [hm.size]
      have hborn : ∀ (i : Nat) (e : MapEntry), es[i]? = some e → e.born = bs.getD i 0 ∧ i < m.length := fun i e he => by
        have hi : i < es.size := (Array.getElem?_eq_some_iff.1 he).1
        rw [hm.stamps]
        refine ⟨?_, by rw [← hm.size]; exact hi⟩
        simp [List.getD, he]
      obtain ⟨w1, e1, e2, e3, e4, hcase⟩ := run_next (P := P) hh hb2 (fun i e he => by
        have := hborn i e he
        rw [this.1]
        refine hm.below _ ?_
        simp [List.getD, hblen, this.2]) ty
      have hst : Stays w w1 (Free ctx g s.objs) := ⟨by rw [e1]; exact Nat.le_refl _, fun b _ _ => by rw [e1]⟩
      have hg1 : RelG ctx g s a w1 := hg.below ⟨e2, e3, e4, by rw [e1]; exact Nat.le_refl _, fun k _ => by rw [e1]⟩
      rcases hcase with ⟨hrun, hall⟩ | ⟨i, e, he, hns, hrun⟩
      · unfold Oper.wp
        have : (execOp a.eval ⟨dst, .next it false, ty, pos, after, gd⟩).run P w = .ok (.value (.tuple #[.bool false])) w1 := by simp only [execOp, hv, Sem.run_bind, hrun, Result.andThen_ok, Sem.run_pure]
        rw [this]
        refine hK _ _ (hdone (fun i hi => ?_) _ _ ⟨g, hg1.put dst (tupF.keep hst (fun _ hb _ => hb) (fun _ _ => rfl))⟩)
        have hi' : i < es.size := by rw [hm.size]; exact hi
        have := hall i es[i] (Array.getElem?_eq_getElem hi')
        rw [(hborn i _ (Array.getElem?_eq_getElem hi')).1, List.mem_map] at this
        obtain ⟨j, hj, hje⟩ := this
        have := getD_inj hm.nodup (by rw [hblen]; exact hL j hj) (by rw [hblen]; exact hi) hje
        rw [← this]; exact hj
      · have hb' := hborn i e he
        have hnL : i ∉ L := fun hi => hns (by rw [hb'.1]; exact List.mem_map.2 ⟨i, hi, rfl⟩)
        unfold Oper.wp
        have hexec : (execOp a.eval ⟨dst, .next it false, ty, pos, after, gd⟩).run P w = .ok (.value (.tuple #[.bool true, e.key, e.val])) { w1 with heap := w1.heap.setIfInBounds blk (.mapIter (some b) ck ((L.map fun i => bs.getD i 0).toArray.push e.born) ck) } := by simp only [execOp, hv, Sem.run_bind, hrun, Result.andThen_ok, Sem.run_pure]
        rw [hexec]
        have hown := hg1.own id _ blk n hl hgi
        have hother : ∀ k, k < w1.heap.size → k ≠ blk → ({ w1 with heap := w1.heap.setIfInBounds blk (.mapIter (some b) ck ((L.map fun i => bs.getD i 0).toArray.push e.born) ck) } : World).heap[k]? = w1.heap[k]? := fun k _ hne => set_other w1 blk k _ hne
        have hst2 : Stays w { w1 with heap := w1.heap.setIfInBounds blk (.mapIter (some b) ck ((L.map fun i => bs.getD i 0).toArray.push e.born) ck) } (Free ctx g s.objs) := ⟨by simp [e1], fun b' hb3 hlt => by
          rw [hother b' (by rw [e1]; exact hlt) fun e => by subst e; exact hb3.2 id _ n hl hgi, e1]⟩
        have hwr := hg1.wrote hl hgi (w' := { w1 with heap := w1.heap.setIfInBounds blk (.mapIter (some b) ck ((L.map fun i => bs.getD i 0).toArray.push e.born) ck) }) rfl rfl rfl (by simp) hother hown.2
          (ob := .iterD ks ag m bs ck (L ++ [i])) (.iterD ks ag m bs ck (L ++ [i]) blk n b es hgi (by rw [set_same w1 blk _ hown.1]; simp [hb'.1]) (free_put hl b hS) (by simp [e1]; exact hb)
            (by rw [hst2.2 b hS hb]; exact hb2) (hm.keep hst2 (fun b hb _ => free_put hl b hb)))
        exact hK _ _ (hstep i hb'.2 hnL _ _ ⟨g, hwr.put dst (.tup _ [.bool true, e.key, e.val] rfl (fun j p u hp hu => by
          match j with
          | 0 => simp at hp hu; subst hp; subst hu; exact .d (.v _ rfl)
          | 1 => simp at hp hu; subst hp; exact .junk _
          | 2 => simp at hp hu; subst hp; exact .junk _
          | _ + 3 => simp at hp))⟩)

theorem PWl.nextO {mid : Nat} (hx : s.ev it = some (.ref id 0)) (hl : look s.objs id = some (.iterO mid bs ck L)) (hlm : look s.objs mid = some (.map ks ag m bs ck)) (hL : ∀ i ∈ L, i < m.length) (hgd : gd = none)
    (hdone : (∀ i, i < m.length → i ∈ L) → PWl P ctx ops Q rest (s.putD dst (.tup [.d (.v (.bool false))])))
    (hstep : ∀ i, i < m.length → i ∉ L → PWl P ctx ops Q rest ((s.setO id (.iterO mid bs ck (L ++ [i]))).putD dst (.tup [.d (.v (.bool true)), .junk, .junk]))) :
    PWl P ctx ops Q (⟨dst, .next it false, ty, pos, after, gd⟩ :: rest) s := by
  rintro a w ⟨g, hg⟩
  have hr := hg.ev hx
  generalize hv : a.eval it = v at hr
  refine wpList_plain hgd fun K hK => ?_
  have tupF : Rd w g (Free ctx g s.objs) (.tup [.d (.v (.bool false))]) (.tuple [.bool false].toArray) := .tup _ [.bool false] rfl (fun i p u hp hu => by
    match i with
    | 0 => simp at hp hu; subst hp; subst hu; exact .d (.v _ rfl)
    | _ + 1 => simp at hp)
  cases hr with
  | ref _ _ blk n hgi =>
    cases hg.objs id _ hl with
    | iterO _ _ _ _ blk' n' b n2 h' hh hgm =>
      rw [hgi] at h'; cases h'
      cases hg.objs mid _ hlm with
      | map _ _ _ _ _ bm nm es hgm2 hb2 hm =>
        rw [hgm] at hgm2; cases hgm2
        have hblen : bs.length = m.length := by rw [hm.stamps]; simp [hm.size]
        have hborn : ∀ (i : Nat) (e : MapEntry), es[i]? = some e → e.born = bs.getD i 0 ∧ i < m.length := fun i e he => by
          have hi : i < es.size := (Array.getElem?_eq_some_iff.1 he).1
          rw [hm.stamps]
          refine ⟨?_, by rw [← hm.size]; exact hi⟩
          simp [List.getD, he]
        obtain ⟨w1, e1, e2, e3, e4, hcase⟩ := run_next (P := P) hh hb2 (fun i e he => by
          have := hborn i e he
          rw [this.1]
          refine hm.below _ ?_
          simp [List.getD, hblen, this.2]) ty
        have hst : Stays w w1 (Free ctx g s.objs) := ⟨by rw [e1]; exact Nat.le_refl _, fun b _ _ => by rw [e1]⟩
        have hg1 : RelG ctx g s a w1 := hg.below ⟨e2, e3, e4, by rw [e1]; exact Nat.le_refl _, fun k _ => by rw [e1]⟩
        rcases hcase with ⟨hrun, hall⟩ | ⟨i, e, he, hns, hrun⟩
        · unfold Oper.wp
          have : (execOp a.eval ⟨dst, .next it false, ty, pos, after, gd⟩).run P w = .ok (.value (.tuple #[.bool false])) w1 := by simp only [execOp, hv, Sem.run_bind, hrun, Result.andThen_ok, Sem.run_pure]
          rw [this]
          refine hK _ _ (hdone (fun i hi => ?_) _ _ ⟨g, hg1.put dst (tupF.keep hst (fun _ hb _ => hb) (fun _ _ => rfl))⟩)
          have hi' : i < es.size := by rw [hm.size]; exact hi
          have := hall i es[i] (Array.getElem?_eq_getElem hi')
          rw [(hborn i _ (Array.getElem?_eq_getElem hi')).1, List.mem_map] at this
          obtain ⟨j, hj, hje⟩ := this
          have := getD_inj hm.nodup (by rw [hblen]; exact hL j hj) (by rw [hblen]; exact hi) hje
          rw [← this]; exact hj
        · have hb' := hborn i e he
          have hnL : i ∉ L := fun hi => hns (by rw [hb'.1]; exact List.mem_map.2 ⟨i, hi, rfl⟩)
          unfold Oper.wp
          have hexec : (execOp a.eval ⟨dst, .next it false, ty, pos, after, gd⟩).run P w = .ok (.value (.tuple #[.bool true, e.key, e.val])) { w1 with heap := w1.heap.setIfInBounds blk (.mapIter (some b) ck ((L.map fun i => bs.getD i 0).toArray.push e.born) ck) } := by simp only [execOp, hv, Sem.run_bind, hrun, Result.andThen_ok, Sem.run_pure]
          rw [hexec]
          have hown := hg1.own id _ blk n hl hgi
          have hother : ∀ k, k < w1.heap.size → k ≠ blk → ({ w1 with heap := w1.heap.setIfInBounds blk (.mapIter (some b) ck ((L.map fun i => bs.getD i 0).toArray.push e.born) ck) } : World).heap[k]? = w1.heap[k]? := fun k _ hne => set_other w1 blk k _ hne
          have hwr := hg1.wrote hl hgi (w' := { w1 with heap := w1.heap.setIfInBounds blk (.mapIter (some b) ck ((L.map fun i => bs.getD i 0).toArray.push e.born) ck) }) rfl rfl rfl (by simp) hother hown.2
            (ob := .iterO mid bs ck (L ++ [i])) (.iterO mid bs ck (L ++ [i]) blk n b n2 hgi (by rw [set_same w1 blk _ hown.1]; simp [hb'.1]) hgm)
          exact hK _ _ (hstep i hb'.2 hnL _ _ ⟨g, hwr.put dst (.tup _ [.bool true, e.key, e.val] rfl (fun j p u hp hu => by
            match j with
            | 0 => simp at hp hu; subst hp; subst hu; exact .d (.v _ rfl)
            | 1 => simp at hp hu; subst hp; exact .junk _
            | 2 => simp at hp hu; subst hp; exact .junk _
            | _ + 3 => simp at hp))⟩)

theorem run_entry {w : World} {b r ck i : Nat} {es : Array MapEntry} {bs : List Nat} {L : List Nat} {e : MapEntry} (hr : w.heap[r]? = some (.mapIter (some b) ck ((L ++ [i]).map fun i => bs.getD i 0).toArray ck)) (hb : w.heap[b]? = some (.map es ck)) (hs : bs = es.toList.map (·.born)) (hn : bs.Nodup) (hi : es[i]? = some e) :
    (Instr.entry (.pointer (some ⟨r, 0, none⟩))).run P w = .ok (.tuple #[e.key, e.val]) w := by
  have hgr : (getObj r).run P w = .ok (.mapIter (some b) ck ((L ++ [i]).map fun i => bs.getD i 0).toArray ck) w := by simp [getObj, Sem.run, hr]
  have hgb := MapKept.run_getObj_map (P := P) hb
  have hlt : i < es.size := (Array.getElem?_eq_some_iff.1 hi).1
  have hborn : bs.getD i 0 = e.born := by rw [hs]; simp [List.getD, hi]
  have hback : (((L ++ [i]).map fun i => bs.getD i 0).toArray).back? = some e.born := by
    have h := hborn
    simp [List.getD] at h ⊢
    exact h
  have hfind : es.find? (·.born == e.born) = some e := by
    rw [← Array.find?_toList]
    have he : es.toList[i]? = some e := by simpa using hi
    have hnd : (es.toList.map (·.born)).Nodup := by rw [← hs]; exact hn
    clear hr hgr hgb hback hborn hs hb hn hi hlt
    generalize es.toList = l at he hnd
    induction l generalizing i with
    | nil => simp at he
    | cons x r ih =>
      cases i with
      | zero => simp at he; subst he; simp
      | succ i =>
        simp at he
        simp only [List.map_cons, List.nodup_cons] at hnd
        have hne : x.born ≠ e.born := fun h => hnd.1 (by rw [h]; exact List.mem_map.2 ⟨e, List.mem_of_getElem? he, rfl⟩)
        rw [List.find?_cons_of_neg (by simpa using hne)]
        exact ih he hnd.2
  simp only [Instr.entry, Sem.run_bind, hgr, Result.andThen_ok, hback, hgb, bne_self_eq_false, Bool.false_eq_true, if_false, hfind, Sem.run_pure]

theorem LR.entryD {i : Nat} {ns : List Int} {cs : List DV} {kp p : PV} (hx : s.ev it = some (.ref id 0)) (hl : look s.objs id = some (.iterD ks ag m bs ck (L ++ [i]))) (hi : m[i]? = some (ns, cs)) (hkp : keyP ks ns = kp) (hp : elP ag cs = p) :
    Local P ctx ⟨dst, .entry it, ty, pos, after, gd⟩ s (s.putD dst (.tup [kp, p])) :=
  local_pure (o := ⟨dst, .entry it, ty, pos, after, gd⟩) fun a w g hg => by
    have hr := hg.ev hx
    generalize hv : a.eval it = v at hr
    cases hr with
    | ref _ _ blk n hgi =>
      have hob := hg.objs id _ hl
      generalize hLL : L ++ [i] = LL at hob
      cases hob with
      | iterN => simp at hLL
      | iterD _ _ _ _ _ _ blk' n' b es h' hh hS hb hb2 hm =>
        rw [hgi] at h'; cases h'
        rw [← hLL] at hh
        obtain ⟨e, us, g1, g2, g3, g4, g5, g6, g7, g8⟩ := hm.ent i ns cs hi
        have := run_entry (P := P) hh hb2 hm.stamps hm.nodup g1
        refine ⟨.tuple [e.key, e.val].toArray, by simp only [execOp, hv, Sem.run_bind, this, Result.andThen_ok, Sem.run_pure], .tup _ [e.key, e.val] rfl (fun j p' u hp' hu => ?_)⟩
        subst hkp; subst hp
        match j with
        | 0 => simp at hp' hu; subst hp'; subst hu; rw [g2]; exact keyV_rd w g _ ks ns
        | 1 => simp at hp' hu; subst hp'; subst hu; rw [g3]; exact elV_rd g4 g5 g6 g8
        | _ + 2 => simp at hp'
theorem LR.entryO {mid i : Nat} {ns : List Int} {cs : List DV} {kp p : PV} (hx : s.ev it = some (.ref id 0)) (hl : look s.objs id = some (.iterO mid bs ck (L ++ [i]))) (hlm : look s.objs mid = some (.map ks ag m bs ck)) (hi : m[i]? = some (ns, cs)) (hkp : keyP ks ns = kp) (hp : elP ag cs = p) :
    Local P ctx ⟨dst, .entry it, ty, pos, after, gd⟩ s (s.putD dst (.tup [kp, p])) :=
  local_pure (o := ⟨dst, .entry it, ty, pos, after, gd⟩) fun a w g hg => by
    have hr := hg.ev hx
    generalize hv : a.eval it = v at hr
    cases hr with
    | ref _ _ blk n hgi =>
      cases hg.objs id _ hl with
      | iterO _ _ _ _ blk' n' b n2 h' hh hgm =>
        rw [hgi] at h'; cases h'
        cases hg.objs mid _ hlm with
        | map _ _ _ _ _ bm nm es hgm2 hb2 hm =>
          rw [hgm] at hgm2; cases hgm2
          obtain ⟨e, us, g1, g2, g3, g4, g5, g6, g7, g8⟩ := hm.ent i ns cs hi
          have := run_entry (P := P) hh hb2 hm.stamps hm.nodup g1
          refine ⟨.tuple [e.key, e.val].toArray, by simp only [execOp, hv, Sem.run_bind, this, Result.andThen_ok, Sem.run_pure], .tup _ [e.key, e.val] rfl (fun j p' u hp' hu => ?_)⟩
          subst hkp; subst hp
          match j with
          | 0 => simp at hp' hu; subst hp'; subst hu; rw [g2]; exact keyV_rd w g _ ks ns
          | 1 => simp at hp' hu; subst hp'; subst hu; rw [g3]; exact elV_rd g4 g5 g6 g8
          | _ + 2 => simp at hp'
end
end
end Go.Ep

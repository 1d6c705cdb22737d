/- Walks over pure states: rows of the call's own (a slice that is appended to), cuts, tuples, calls. No program in sight. -/
import Derived.Test.YtacnidaafcfgiaaGreatEp3
namespace Go.Ep
open Go.RowKit

/-- The element type of a slice type: its cells and its bytes. -/
structure ElemOK (P : Program) (t e k bs : Nat) : Prop where
  u : P.underlying t = some (.slice e)
  i : ∃ i z, P.info? e = some i ∧ i.zero = some z ∧ i.size = k ∧ i.bytes = bs ∧ z.cells.size = k

theorem ElemOK.mk' {P : Program} {t e k bs : Nat} {z : Value} (u : P.underlying t = some (.slice e)) (h : (P.info? e).map (fun i => (i.zero, i.size, i.bytes)) = some (some z, k, bs)) (hz : z.cells.size = k) : ElemOK P t e k bs := by
  obtain ⟨i, h1, h2, h3, h4⟩ := info_parts h
  exact ⟨u, i, z, h1, h2, h3, h4, hz⟩
theorem ElemOK.sizeOf {P : Program} {t e k bs : Nat} (h : ElemOK P t e k bs) (w : World) : (Go.sizeOf e).run P w = .ok k w := by
  obtain ⟨i, z, h1, _, h3, _⟩ := h.i
  simp [Go.sizeOf, typeInfo, h1, h3]

def PState.junks (s : PState) : List Nat → PState
  | [] => s
  | d :: r => (s.put d .junk).junks r
/-- Nothing but the object itself names it. -/
def PState.alone (s : PState) (id : Nat) : Bool := chkS id s.sl s.sl && s.objs.all (fun x => !x.2.has id)

theorem junks_objs (js : List Nat) : ∀ s : PState, (s.junks js).objs = s.objs := by
  induction js with
  | nil => intro s; rfl
  | cons d r ih => intro s; simp [PState.junks, ih, PState.put]

section
variable {P : Program} {ctx : Ctx} {Q : PQ} {s : PState}
variable {dst : Option Tmp} {ty : TypeId} {pos : String} {after : Array Edge} {gd : Option (Nat × Bool)}

theorem RelG.junks {g : Ghost} {a : Act} {w : World} (js : List Nat) : ∀ {s : PState}, RelG ctx g s a w → RelG ctx g (s.junks js) a w := by
  induction js with
  | nil => intro s h; exact h
  | cons d r ih =>
    intro s h
    refine ih ⟨h.defers, h.size, ?_, h.objs, h.inj, h.own, h.os, h.tape, h.output, h.grows, h.keep⟩
    intro i p hp
    rcases put_at s d .junk i p hp with ⟨_, rfl⟩ | ⟨_, h2⟩
    · exact .junk _
    · exact h.slots i p h2

theorem alone_slot {id : Nat} (h : s.alone id = true) {i : Nat} {p : PV} (hp : s.at i = some p) : p.has id = false := by
  simp only [PState.alone, Bool.and_eq_true] at h
  exact chkS_at h.1 hp
theorem alone_obj {id : Nat} (h : s.alone id = true) {j : Nat} {o : Ob} (ho : look s.objs j = some o) : o.has id = false := by
  simp only [PState.alone, Bool.and_eq_true, List.all_eq_true] at h
  simpa using h.2 _ (look_mem ho)

/-- An object in a new place, or changed in its old one; nobody names it meanwhile. -/
theorem RelG.reown {g : Ghost} {a : Act} {w w' : World} (h : RelG ctx g s a w) {id : Nat} {o0 ob : Ob} (hl : look s.objs id = some o0) (ha : s.alone id = true) (gv : Option (Nat × Nat))
    (hos : w'.os = w.os) (htape : w'.tape = w.tape) (hout : w'.output = w.output) (hsize : w.heap.size ≤ w'.heap.size) (hother : ∀ k, k < w.heap.size → (∀ n, g id ≠ some (k, n)) → w'.heap[k]? = w.heap[k]?)
    (hgv : ∀ b n, gv = some (b, n) → (∃ n', g id = some (b, n')) ∨ (w.heap.size ≤ b ∧ b < w'.heap.size))
    (ho : ObRd w' (upd g id gv) (Free ctx (upd g id gv) (putO id ob s.objs)) id ob) : RelG ctx (upd g id gv) (s.setO id ob) a w' := by
  have hF : ∀ b, Free ctx g s.objs b → b < w.heap.size → Free ctx (upd g id gv) (putO id ob s.objs) b := by
    intro b ⟨h1, h2⟩ hlt
    refine ⟨h1, fun j o m hj hg => ?_⟩
    rw [look_putO] at hj
    by_cases e : j = id
    · subst e
      rw [upd_same] at hg
      rcases hgv b m hg with ⟨n', hn⟩ | ⟨h3, _⟩
      · exact h2 j o0 n' hl hn
      · omega
    · rw [if_neg e] at hj; rw [upd_ne e] at hg; exact h2 j o m hj hg
  have hst : Stays w w' (Free ctx g s.objs) := ⟨hsize, fun b ⟨_, h2⟩ hlt => hother b hlt fun n e => h2 id o0 n hl e⟩
  have hne : ∀ {i : Nat} {p : PV}, s.at i = some p → ∀ j, p.has j = true → upd g id gv j = g j := fun hp j hj => upd_ne fun e => by
    subst e; rw [alone_slot ha hp] at hj; cases hj
  refine ⟨h.defers, h.size, fun i p hp => (h.slots i p hp).keep hst hF (hne hp), ?_, ?_, ?_, hos.trans h.os, htape.trans h.tape, hout.trans h.output, Nat.le_trans h.grows hsize, ?_⟩
  · intro j o hj
    have hj0 := hj
    simp only [PState.setO] at hj
    rw [look_putO] at hj
    by_cases e : j = id
    · subst e; rw [if_pos rfl] at hj; cases hj; exact ho
    · rw [if_neg e] at hj
      refine (h.objs j o hj).keep hst hF (fun b m hg => hother b (h.own j o b m hj hg).1 fun n en => e (h.inj j id o o0 b m n hj hl hg en)) (upd_ne e) (fun i hi => upd_ne fun ei => ?_)
      subst ei; rw [alone_obj ha hj] at hi; cases hi
  · intro i j oi oj b n m hi hj hgi hgj
    simp only [PState.setO] at hi hj
    rw [look_putO] at hi hj
    by_cases h1 : i = id <;> by_cases h2 : j = id
    · exact h1.trans h2.symm
    · subst h1
      rw [upd_same] at hgi
      rw [if_neg h2] at hj
      rw [upd_ne h2] at hgj
      rcases hgv b n hgi with ⟨n', hn⟩ | ⟨h3, _⟩
      · exact h.inj i j o0 oj b n' m hl hj hn hgj
      · have := (h.own j oj b m hj hgj).1; omega
    · subst h2
      rw [upd_same] at hgj
      rw [if_neg h1] at hi
      rw [upd_ne h1] at hgi
      rcases hgv b m hgj with ⟨n', hn⟩ | ⟨h3, _⟩
      · exact h.inj i j oi o0 b n n' hi hl hgi hn
      · have := (h.own i oi b n hi hgi).1; omega
    · rw [if_neg h1] at hi
      rw [if_neg h2] at hj
      rw [upd_ne h1] at hgi
      rw [upd_ne h2] at hgj
      exact h.inj i j oi oj b n m hi hj hgi hgj
  · intro j o b n hj hg
    simp only [PState.setO] at hj
    rw [look_putO] at hj
    by_cases e : j = id
    · subst e
      rw [upd_same] at hg
      rcases hgv b n hg with ⟨n', hn⟩ | ⟨h3, h4⟩
      · have := h.own j o0 b n' hl hn
        exact ⟨Nat.lt_of_lt_of_le this.1 hsize, this.2⟩
      · exact ⟨h4, .inl (Nat.le_trans h.grows h3)⟩
    · rw [if_neg e] at hj
      rw [upd_ne e] at hg
      have := h.own j o b n hj hg
      exact ⟨Nat.lt_of_lt_of_le this.1 hsize, this.2⟩
  · intro k hk hK
    rw [hother k (Nat.lt_of_lt_of_le hk h.grows) fun n e => ?_]
    · exact h.keep k hk hK
    · rcases (h.own id o0 k n hl e).2 with h1 | h1
      · omega
      · exact hK h1

/-- What is appended: ys, each of k cells, lies there. -/
def Src (ctx : Ctx) (s : PState) (y : Operand) (ys : List (List DV)) (k : Nat) : Prop := ∀ a w g, RelG ctx g s a w →
  ∃ (ao : Option Addr) (c : Nat) (news : List Value), a.eval y = .slice ao ys.length c ∧ news.length = ys.length * k ∧ (ao = none → ys.length = 0 ∧ c = 0) ∧ (∀ ad, ao = some ad → ∀ j u, news[j]? = some u → w.cell? (ad.add j) = some u) ∧
    (∀ u ∈ news, u.oneCell' = true) ∧ ∀ (i : Nat) (cs : List DV) (j : Nat) (x : DV), ys[i]? = some cs → cs[j]? = some x → ∃ u, news[i * k + j]? = some u ∧ DRd w (Free ctx g s.objs) x u

theorem idx_lt {i j n k : Nat} (hi : i < n) (hj : j < k) : i * k + j < n * k := by
  have := Nat.mul_le_mul_right k (show i + 1 ≤ n from hi)
  rw [Nat.add_mul, Nat.one_mul] at this
  omega
theorem idx_split {t n k : Nat} (h : t < n * k) : 0 < k ∧ t / k < n ∧ t % k < k ∧ t / k * k + t % k = t := by
  have hk : 0 < k := by rcases Nat.eq_zero_or_pos k with h0 | h0; · subst h0; simp at h
                        · exact h0
  refine ⟨hk, Nat.div_lt_of_lt_mul (by rwa [Nat.mul_comm] at h), Nat.mod_lt _ hk, ?_⟩
  rw [Nat.mul_comm]; exact Nat.div_add_mod t k

theorem Src.sl {y : Operand} {ys : List (List DV)} {k : Nat} (hy : s.ev y = some (.d (.sl ys))) (hk : ∀ (i : Nat) (cs : List DV), ys[i]? = some cs → cs.length = k) : Src ctx s y ys k := by
  intro a w g hg
  have h := hg.ev hy
  generalize hv : a.eval y = v at h
  cases h with
  | d h =>
    cases h with
    | nil ao cap hc hn => exact ⟨ao, cap, [], rfl, by simp, fun e => ⟨rfl, hn e⟩, by simp, by simp, by simp⟩
    | sl _ b off cap k' c hl hcap hS hb hkk hc hr =>
      by_cases h0 : ys.length = 0
      · have : ys = [] := List.eq_nil_of_length_eq_zero h0
        subst this
        exact ⟨some ⟨b, off, none⟩, cap, [], rfl, by simp, by simp, by simp, by simp, by simp⟩
      · have hk' : k' = k := by
          have hlt : 0 < ys.length := by omega
          rw [← hkk 0 _ (List.getElem?_eq_getElem hlt), hk 0 _ (List.getElem?_eq_getElem hlt)]
        subst hk'
        let news : List Value := (List.range (ys.length * k')).map fun t => c (t / k') (t % k')
        have hnl : news.length = ys.length * k' := by simp [news]
        have hget : ∀ t, t < ys.length * k' → news[t]? = some (c (t / k') (t % k')) := fun t ht => by simp [news, ht]
        refine ⟨some ⟨b, off, none⟩, cap, news, rfl, hnl, by simp, ?_, ?_, ?_⟩
        · intro ad e t u hu
          cases e
          have ht : t < ys.length * k' := by rw [← hnl]; exact (List.getElem?_eq_some_iff.1 hu).1
          rw [hget t ht] at hu
          cases hu
          obtain ⟨_, h1, h2, h3⟩ := idx_split ht
          rw [Addr.add_lit, ← hc _ _ h1 h2, h3]
        · intro u hu
          simp only [news, List.mem_map, List.mem_range] at hu
          obtain ⟨t, ht, rfl⟩ := hu
          obtain ⟨_, h1, h2, h3⟩ := idx_split ht
          have hlen : (ys[t / k']'h1).length = k' := hkk _ _ (List.getElem?_eq_getElem h1)
          exact (hr (t / k') _ (t % k') _ (List.getElem?_eq_getElem h1) (List.getElem?_eq_getElem (by omega))).one
        · intro i cs j x hi hx
          have h1 : i < ys.length := (List.getElem?_eq_some_iff.1 hi).1
          have h2 : j < k' := by rw [← hkk i cs hi]; exact (List.getElem?_eq_some_iff.1 hx).1
          refine ⟨c i j, ?_, hr i cs j x hi hx⟩
          rw [hget _ (idx_lt h1 h2)]
          have e1 : (i * k' + j) / k' = i := by
            rw [Nat.mul_comm, Nat.mul_add_div (by omega), Nat.div_eq_of_lt h2, Nat.add_zero]
          have e2 : (i * k' + j) % k' = j := by rw [Nat.mul_comm, Nat.mul_add_mod, Nat.mod_eq_of_lt h2]
          rw [e1, e2]

theorem Src.row {y : Operand} {id m k : Nat} {T : TypeId} {ys : List (List DV)} (hy : s.ev y = some (.row id m)) (hl : look s.objs id = some (.row T k ys)) (hm : ys.length = m) : Src ctx s y ys k := by
  intro a w g hg
  have h := hg.ev hy
  have hob := hg.objs id _ hl
  generalize hv : a.eval y = v at h
  cases hob with
  | rowNil _ _ hn =>
    cases h with
    | row _ _ blk cap hgi => rw [hn] at hgi; cases hgi
    | rowNil => exact ⟨none, 0, [], rfl, by simp, by simp, by simp, by simp, by simp⟩
  | row _ _ _ blk' cap' cur hgi hh hlc hcap hcs hkk hr =>
    cases h with
    | rowNil _ hn => rw [hn] at hgi; cases hgi
    | row _ _ blk cap hgi' =>
      rw [hgi] at hgi'
      cases hgi'
      subst hm
      have hcl : ys.length * k ≤ cur.length := by rw [hcs]; exact Nat.mul_le_mul_right k hlc
      refine ⟨some ⟨blk', 0, none⟩, cap', cur.take (ys.length * k), rfl, by simp; omega, by simp, ?_, ?_, ?_⟩
      · intro ad e t u hu
        cases e
        rw [Addr.add_lit, cell_of_heap hh]
        simp only [List.getElem?_take] at hu
        split at hu
        · simpa using hu
        · cases hu
      · intro u hu
        obtain ⟨t, ht, hu'⟩ := List.getElem_of_mem hu
        have ht' : t < ys.length * k := by simp at ht; omega
        obtain ⟨_, h1, h2, h3⟩ := idx_split ht'
        have hlen : (ys[t / k]'h1).length = k := hkk _ _ (List.getElem?_eq_getElem h1)
        obtain ⟨u', hu1, hd⟩ := hr (t / k) _ (t % k) _ (List.getElem?_eq_getElem h1) (List.getElem?_eq_getElem (by omega : t % k < (ys[t / k]'h1).length))
        rw [h3] at hu1
        have : u = u' := by
          rw [← hu']
          simp only [List.getElem_take]
          have := List.getElem?_eq_some_iff.1 hu1
          obtain ⟨_, h⟩ := this
          exact h
        rw [this]
        exact hd.one
      · intro i cs j x hi hx
        obtain ⟨u, hu, hd⟩ := hr i cs j x hi hx
        have h1 : i < ys.length := (List.getElem?_eq_some_iff.1 hi).1
        have h2 : j < k := by rw [← hkk i cs hi]; exact (List.getElem?_eq_some_iff.1 hx).1
        exact ⟨u, by rw [List.getElem?_take, if_pos (idx_lt h1 h2)]; exact hu, hd⟩

theorem zeroCells_size (z : Array Value) (n : Nat) : (Builtin.zeroCells z n).size = n * z.size := by simp [Builtin.zeroCells]

theorem zc_len (z : Array Value) (n : Nat) : (Builtin.zeroCells z n).toList.length = n * z.size := by simp [zeroCells_size]
theorem arr_app (l : List Value) (a : Array Value) : (l ++ a.toList).toArray = l.toArray ++ a := by simp
theorem arr_app2 (l m : List Value) (a : Array Value) : (l ++ m ++ a.toList).toArray = l.toArray ++ m.toArray ++ a := by simp

theorem run_append_none {t ty e : TypeId} {k bs : Nat} (hE : ElemOK P t e k bs) (w : World) (ao : Option Addr) (n cap c : Nat) (hnc : n ≤ cap) (h0 : ao = none → n = 0 ∧ cap = 0) :
    (Builtin.append_ #[t, t] ty #[.slice ao n cap, .slice none 0 c]).run P w = .ok (.slice ao n cap) w := by
  obtain ⟨i, z, hi, _⟩ := hE.i
  cases ao with
  | none => obtain ⟨rfl, rfl⟩ := h0 rfl; simp [Builtin.append_, run_underlying hE.u, sizeOf, typeInfo, hi, Builtin.lenOf, Builtin.firstCells]
  | some ad => simp [Builtin.append_, run_underlying hE.u, sizeOf, typeInfo, hi, Builtin.lenOf, Builtin.firstCells, hnc, storeCells]

theorem append_types {t t' ty e e' : TypeId} (hu : P.underlying t = some (.slice e)) (hu' : P.underlying t' = some (.slice e')) (s x : Value) (w : World) : (Builtin.append_ #[t, t'] ty #[s, x]).run P w = (Builtin.append_ #[t, t] ty #[s, x]).run P w := by
  cases s <;> simp [Builtin.append_, run_underlying hu]
  case slice =>
    generalize (sizeOf e).run P w = r
    cases r with
    | ok k w' => simp [run_underlying hu']
    | halt h w' => rfl

/-- 'append' to a row of the call's own. -/
theorem append_core {x y : Operand} {id n k bs : Nat} {t t' e e' : TypeId} {l ys : List (List DV)} (js : List Nat) (hE : ElemOK P t e k bs) (hu' : P.underlying t' = some (.slice e')) (hl : look s.objs id = some (.row e k l)) (hn : l.length = n)
    (hy : Src ctx s y ys k) (hyk : ∀ (i : Nat) (cs : List DV), ys[i]? = some cs → cs.length = k) (hb : (n + ys.length) * bs ≤ 140737488355328) (hmax : n + ys.length ≤ 140737488355328) (ha : (s.junks js).alone id = true) {a : Act} {w : World} {g : Ghost} (hg : RelG ctx g s a w) (hx0 : Rd w g (Free ctx g s.objs) (.row id n) (a.eval x)) :
    ∃ v w', (execOp a.eval ⟨dst, .call ⟨.builtin .append, #[x, y], #[t, t']⟩, ty, pos, after, gd⟩).run P w = .ok (.value v) w' ∧ Rel ctx (((s.junks js).setO id (.row e k (l ++ ys))).putD dst (.row id (n + ys.length))) (a.put dst v) w' := by
  obtain ⟨ao, c, news, hyv, hnl, hnone, hsome, h1, hyr⟩ := hy a w g hg
  obtain ⟨i, z, hi, hz, hsize, hbytes, hzs⟩ := hE.i
  have hxv := hx0
  have hob := hg.objs id _ hl
  have hexec : ∀ v, a.eval x = v → ∀ r w', (Builtin.append_ #[t, t] ty #[v, .slice ao ys.length c]).run P w = .ok r w' → (execOp a.eval ⟨dst, .call ⟨.builtin .append, #[x, y], #[t, t']⟩, ty, pos, after, gd⟩).run P w = .ok (.value r) w' := fun v hv r w' hr => by
    have hr' := (append_types (P := P) (ty := ty) hE.u hu' v (.slice ao ys.length c) w).trans hr
    simp [execOp, resolve, invoke, builtin, hv, hyv, hr', Result.andThen]
  have hgj := hg.junks js
  have hlj : look (s.junks js).objs id = some (.row e k l) := by rw [junks_objs]; exact hl
  have hml : n + ys.length ≤ maxLen := by unfold maxLen; omega
  -- the new row, wherever it lies
  have build : ∀ (w' : World) (blk cap : Nat) (cur : List Value), w'.os = w.os → w'.tape = w.tape → w'.output = w.output → w.heap.size ≤ w'.heap.size → (∀ k, k < w.heap.size → (∀ n, g id ≠ some (k, n)) → w'.heap[k]? = w.heap[k]?) →
      ((∃ n', g id = some (blk, n')) ∨ (w.heap.size ≤ blk ∧ blk < w'.heap.size)) → w'.heap[blk]? = some (.cells cur.toArray e (0, 0)) → n + ys.length ≤ cap → cap ≤ maxLen → cur.length = cap * k →
      (∀ (i : Nat) (cs : List DV) (j : Nat) (x : DV), l[i]? = some cs → cs[j]? = some x → ∃ u, cur[i * k + j]? = some u ∧ DRd w (Free ctx g s.objs) x u) →
      (∀ (i : Nat) (cs : List DV), l[i]? = some cs → cs.length = k) →
      (∀ t, t < ys.length * k → cur[n * k + t]? = news[t]?) →
      Rel ctx (((s.junks js).setO id (.row e k (l ++ ys))).putD dst (.row id (n + ys.length))) (a.put dst (.slice (some ⟨blk, 0, none⟩) (n + ys.length) cap)) w' := by
    intro w' blk cap cur hos htape hout hsz hother hblk hh hcapn hcapm hcl hold hlk hnew
    have hre := hgj.reown hlj ha (some (blk, cap)) (ob := .row e k (l ++ ys)) hos htape hout hsz hother (fun b m eb => by cases eb; exact hblk) (by
      have hst : Stays w w' (Free ctx g (s.junks js).objs) := ⟨hsz, fun b ⟨_, h2⟩ hlt => hother b hlt fun m em => h2 id _ m hlj em⟩
      have hF : ∀ b, Free ctx g (s.junks js).objs b → b < w.heap.size → Free ctx (upd g id (some (blk, cap))) (putO id (.row e k (l ++ ys)) (s.junks js).objs) b := by
        intro b ⟨h1, h2⟩ hlt
        refine ⟨h1, fun j o m hj hgm => ?_⟩
        rw [look_putO] at hj
        by_cases ej : j = id
        · subst ej
          rw [upd_same] at hgm
          cases hgm
          rcases hblk with ⟨n', hn'⟩ | ⟨h3, _⟩
          · exact h2 j _ n' hlj hn'
          · omega
        · rw [if_neg ej] at hj; rw [upd_ne ej] at hgm; exact h2 j o m hj hgm
      rw [junks_objs] at hst hF ⊢
      refine .row e k _ blk cap cur (upd_same _ _ _) hh (by rw [List.length_append, hn]; exact hcapn) hcapm hcl ?_ ?_
      · intro i cs hi
        rw [List.getElem?_append] at hi
        split at hi
        · exact hlk i cs hi
        · exact hyk _ cs hi
      · intro i cs j x hi hx
        rw [List.getElem?_append] at hi
        split at hi
        · obtain ⟨u, hu, hd⟩ := hold i cs j x hi hx
          exact ⟨u, hu, hd.keep hst hF⟩
        · rename_i hge
          obtain ⟨u, hu, hd⟩ := hyr _ cs j x hi hx
          refine ⟨u, ?_, hd.keep hst hF⟩
          have h3 : i - l.length < ys.length := (List.getElem?_eq_some_iff.1 hi).1
          have h4 : j < k := by rw [← hyk _ cs hi]; exact (List.getElem?_eq_some_iff.1 hx).1
          have e1 : i * k + j = n * k + ((i - l.length) * k + j) := by
            have : i = n + (i - l.length) := by omega
            conv => lhs; rw [this, Nat.add_mul]
            omega
          rw [e1, hnew _ (idx_lt h3 h4)]
          exact hu)
    exact ⟨_, hre.put dst (.row id _ blk cap (upd_same _ _ _))⟩
  generalize hv : a.eval x = v at hxv
  have sameW : ∀ k, k < w.heap.size → (∀ n, g id ≠ some (k, n)) → w.heap[k]? = w.heap[k]? := fun _ _ _ => rfl
  -- nothing is appended, from nil: the slice stays
  have emptyCase : ao = none → Rel ctx (((s.junks js).setO id (.row e k (l ++ ys))).putD dst (.row id (n + ys.length))) (a.put dst v) w := by
    intro e0
    obtain ⟨hy0, _⟩ := hnone e0
    have hys : ys = [] := List.eq_nil_of_length_eq_zero hy0
    subst hys
    have hsame : (s.junks js).setO id (.row e k (l ++ [])) = (s.junks js).setO id (.row e k l) := by simp
    rw [hsame]
    have hgv : ∀ b m, g id = some (b, m) → (∃ n', g id = some (b, n')) ∨ (w.heap.size ≤ b ∧ b < w.heap.size) := fun b m eb => .inl ⟨m, eb⟩
    have hre := hgj.reown hlj ha (g id) (ob := .row e k l) rfl rfl rfl (Nat.le_refl _) sameW hgv (by
      have hupd : upd g id (g id) = g := by funext j; unfold upd; split <;> simp_all
      rw [hupd, junks_objs]
      have hst : Stays w w (Free ctx g s.objs) := ⟨Nat.le_refl _, fun _ _ _ => rfl⟩
      exact hob.keep hst (fun b hb _ => free_put hl b hb) (fun _ _ _ => rfl) rfl (fun _ _ => rfl))
    have hupd : upd g id (g id) = g := by funext j; unfold upd; split <;> simp_all
    rw [hupd] at hre
    refine ⟨_, hre.put dst ?_⟩
    have := hx0
    rw [hv] at this
    simp only [List.length_nil, Nat.add_zero]
    cases this with
    | row _ _ blk cap h => exact .row id n blk cap h
    | rowNil _ h => exact .rowNil id h
  cases hob with
  | rowNil _ _ hgn =>
    cases hxv with
    | row _ _ blk cap hgi => rw [hgn] at hgi; cases hgi
    | rowNil =>
      simp at hn
      cases ao with
      | none =>
        obtain ⟨hy0, hc0⟩ := hnone rfl
        have hr := run_append_none (P := P) (ty := ty) hE w none 0 0 c (Nat.le_refl _) (fun _ => ⟨rfl, rfl⟩)
        exact ⟨_, _, hexec _ hv _ _ (by rw [hy0]; exact hr), emptyCase rfl⟩
      | some ad =>
        by_cases hm0 : ys.length = 0
        · have hys : ys = [] := List.eq_nil_of_length_eq_zero hm0
          subst hys
          have hnn : news = [] := List.eq_nil_of_length_eq_zero (by simpa using hnl)
          have hr : (Builtin.append_ #[t, t] ty #[.slice none 0 0, .slice (some ad) 0 c]).run P w = .ok (.slice none 0 0) w := by
            simp [Builtin.append_, run_underlying hE.u, sizeOf, typeInfo, hi, Builtin.lenOf, Builtin.firstCells, loadCells, loadCellsFrom]
          refine ⟨_, _, hexec _ hv _ _ hr, g, ?_⟩
          have hre := hgj.reown hlj ha none (ob := .row e k ([] ++ [])) rfl rfl rfl (Nat.le_refl _) sameW (fun b m eb => by cases eb) (.rowNil e k (upd_same _ _ _))
          have hupd : upd g id none = g := by funext j; unfold upd; split <;> simp_all
          rw [hupd] at hre
          exact hre.put dst (.rowNil id hgn)
        · have hr := run_append_nil (P := P) w t ty e i z hE.u hi hz ad ys.length c news (by rw [hsize]; exact hnl) (hsome ad rfl) (by omega) (by omega) (by rw [hbytes]; simp at hb; omega)
          refine ⟨_, _, hexec _ hv _ _ hr, ?_⟩
          have hge := grownCap_ge w ys.length 0 e
          have hcm := grownCap_le_maxLen w ys.length 0 e (by omega)
          have hx0 := build (w.drew.alloc (.cells (news.toArray ++ Builtin.zeroCells z.cells (grownCap w ys.length 0 e - ys.length)) e)) w.heap.size (grownCap w ys.length 0 e) (news ++ (Builtin.zeroCells z.cells (grownCap w ys.length 0 e - ys.length)).toList)
            rfl rfl rfl (by simp) (fun k hk _ => heap_alloc_old w.drew _ hk) (.inr ⟨Nat.le_refl _, by simp⟩) (by
              rw [arr_app]; exact heap_alloc_new w.drew _) (by omega) hcm (by
              rw [List.length_append, hnl, zc_len, hzs, ← Nat.add_mul]; congr 1; omega)
            (by simp) (by simp) (fun t ht => by simp only [Nat.zero_mul, Nat.zero_add]; rw [List.getElem?_append_left (by omega)])
          simpa using hx0
  | row _ _ _ blk' cap' cur hgi hh hlc hcap hcs hkk hr =>
    cases hxv with
    | rowNil _ hgn => rw [hgn] at hgi; cases hgi
    | row _ _ blk cap hgi' =>
      rw [hgi] at hgi'
      cases hgi'
      cases ao with
      | none =>
        obtain ⟨hy0, hc0⟩ := hnone rfl
        have hrun := run_append_none (P := P) (ty := ty) hE w (some ⟨blk', 0, none⟩) n cap' c (by omega) (by simp)
        exact ⟨_, _, hexec _ hv _ _ (by rw [hy0]; exact hrun), emptyCase rfl⟩
      | some ad =>
        have hcl : n * k ≤ cur.length := by rw [hcs]; exact Nat.mul_le_mul_right k (by omega)
        have hlen1 : (cur.take (n * k)).length = n * k := by simp; omega
        by_cases hroom : n + ys.length ≤ cap'
        · have hfit : n * k + news.length ≤ cur.length := by rw [hnl, hcs, ← Nat.add_mul]; exact Nat.mul_le_mul_right k hroom
          have hrun := run_append_room (P := P) w t ty e i hE.u hi blk' n cap' cur.toArray hh ad ys.length c news (by rw [hsize]; exact hnl) (hsome ad rfl) h1 hroom (by rw [hsize]; simpa using hfit)
          rw [hsize] at hrun
          refine ⟨_, _, hexec _ hv _ _ hrun, ?_⟩
          refine build _ blk' cap' (cur.take (n * k) ++ news ++ cur.drop (n * k + news.length)) rfl rfl rfl (by simp) (fun k hk hne => setRow_other w blk' k _ fun ek => by subst ek; exact hne cap' hgi) (.inl ⟨cap', hgi⟩) (by
            have := heap_setRow_same (cs := (cur.take (n * k) ++ news ++ cur.drop (n * k + news.length)).toArray) hh
            simpa using this) hroom hcap (by simp only [List.length_append, hlen1, List.length_drop]; omega) ?_ hkk ?_
          · intro i' cs j x hi' hx'
            obtain ⟨u, hu, hd⟩ := hr i' cs j x hi' hx'
            have h3 : i' < n := by rw [← hn]; exact (List.getElem?_eq_some_iff.1 hi').1
            have h4 : j < k := by rw [← hkk i' cs hi']; exact (List.getElem?_eq_some_iff.1 hx').1
            have := idx_lt h3 h4
            refine ⟨u, ?_, hd⟩
            rw [List.append_assoc, List.getElem?_append_left (by omega), List.getElem?_take, if_pos this]
            exact hu
          · intro t' ht'
            rw [List.append_assoc, List.getElem?_append_right (by omega), hlen1, List.getElem?_append_left (by omega)]
            congr 1
            omega
        · have holds : ∀ j v, (cur.take (n * k))[j]? = some v → w.cell? ((⟨blk', 0, none⟩ : Addr).add j) = some v := fun j v hj => by
            rw [Addr.add_lit, cell_of_heap hh]
            simp only [List.getElem?_take] at hj
            split at hj
            · simpa using hj
            · cases hj
          have hrun := run_append_grow (P := P) w t ty e i z hE.u hi hz ⟨blk', 0, none⟩ n cap' (cur.take (n * k)) (by rw [hsize]; exact hlen1) holds ad ys.length c news (by rw [hsize]; exact hnl) (hsome ad rfl) (by omega) (by omega) (growslice_fits (by omega) (by rw [hbytes]; exact hb))
          refine ⟨_, _, hexec _ hv _ _ hrun, ?_⟩
          have hge := grownCap_ge w (n + ys.length) cap' e
          have hcm := grownCap_le_maxLen w (n + ys.length) cap' e hml
          refine build _ w.heap.size (grownCap w (n + ys.length) cap' e) (cur.take (n * k) ++ news ++ (Builtin.zeroCells z.cells (grownCap w (n + ys.length) cap' e - (n + ys.length))).toList)
            rfl rfl rfl (by simp) (fun k hk _ => heap_alloc_old w.drew _ hk) (.inr ⟨Nat.le_refl _, by simp⟩) (by
              rw [arr_app2]; exact heap_alloc_new w.drew _) hge hcm (by
              rw [List.length_append, List.length_append, hlen1, hnl, zc_len, hzs, ← Nat.add_mul, ← Nat.add_mul]; congr 1; omega) ?_ hkk ?_
          · intro i' cs j x hi' hx'
            obtain ⟨u, hu, hd⟩ := hr i' cs j x hi' hx'
            have h3 : i' < n := by rw [← hn]; exact (List.getElem?_eq_some_iff.1 hi').1
            have h4 : j < k := by rw [← hkk i' cs hi']; exact (List.getElem?_eq_some_iff.1 hx').1
            have := idx_lt h3 h4
            refine ⟨u, ?_, hd⟩
            rw [List.append_assoc, List.getElem?_append_left (by omega), List.getElem?_take, if_pos this]
            exact hu
          · intro t' ht'
            rw [List.append_assoc, List.getElem?_append_right (by omega), hlen1, List.getElem?_append_left (by omega)]
            congr 1
            omega
theorem LR.append {x y : Operand} {id n k bs : Nat} {t t' e e' : TypeId} {l ys : List (List DV)} (js : List Nat) (hE : ElemOK P t e k bs) (hu' : P.underlying t' = some (.slice e')) (hx : s.ev x = some (.row id n)) (hl : look s.objs id = some (.row e k l)) (hn : l.length = n)
    (hy : Src ctx s y ys k) (hyk : ∀ (i : Nat) (cs : List DV), ys[i]? = some cs → cs.length = k) (hb : (n + ys.length) * bs ≤ 140737488355328) (hmax : n + ys.length ≤ 140737488355328) (ha : (s.junks js).alone id = true) :
    Local P ctx ⟨dst, .call ⟨.builtin .append, #[x, y], #[t, t']⟩, ty, pos, after, gd⟩ s (((s.junks js).setO id (.row e k (l ++ ys))).putD dst (.row id (n + ys.length))) :=
  local_value (o := ⟨dst, .call ⟨.builtin .append, #[x, y], #[t, t']⟩, ty, pos, after, gd⟩) fun _ _ _ hg => append_core js hE hu' hl hn hy hyk hb hmax ha hg (hg.ev hx)
/-- To nil something is appended: a new row. -/
theorem LR.appendNil {id k bs : Nat} {y : Operand} {t t' e e' : TypeId} {ys : List (List DV)} (hE : ElemOK P t e k bs) (hu' : P.underlying t' = some (.slice e')) (hf : s.fresh id = true)
    (hy : Src ctx { s with objs := putO id (.row e k []) s.objs } y ys k) (hyk : ∀ (i : Nat) (cs : List DV), ys[i]? = some cs → cs.length = k) (hb : ys.length * bs ≤ 140737488355328) (hmax : ys.length ≤ 140737488355328) (ha : ({ s with objs := putO id (.row e k []) s.objs } : PState).alone id = true) :
    Local P ctx ⟨some id, .call ⟨.builtin .append, #[.const (.slice none 0 0), y], #[t, t']⟩, ty, pos, after, gd⟩ s ((({ s with objs := putO id (.row e k []) s.objs } : PState).setO id (.row e k ys)).putD (some id) (.row id ys.length)) :=
  local_value (o := ⟨some id, .call ⟨.builtin .append, #[.const (.slice none 0 0), y], #[t, t']⟩, ty, pos, after, gd⟩) fun a w g hg => by
    have h1 := hg.new (Below.refl _ w) hf none (fun b n e => by cases e) (.row e k []) (.rowNil e k (upd_same _ _ _))
    have := append_core (P := P) (ctx := ctx) (dst := some id) (ty := ty) (pos := pos) (after := after) (gd := gd) (x := .const (.slice none 0 0)) (y := y) (id := id) (n := 0) (l := []) (ys := ys) [] hE hu' (by rw [look_putO, if_pos rfl]) rfl hy hyk (by simpa using hb) (by simpa using hmax) ha h1 (.rowNil id (upd_same _ _ _))
    simpa [PState.junks] using this

end
end Go.Ep

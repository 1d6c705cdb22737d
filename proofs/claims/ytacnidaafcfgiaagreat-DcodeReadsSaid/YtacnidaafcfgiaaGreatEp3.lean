/- Walks over pure states: the rules that write and make memory. No program in sight. -/
import Derived.Test.YtacnidaafcfgiaaGreatEp2
import Derived.Laws.AppendOwnNone
namespace Go.Ep
open Go.RowKit

theorem heap_setRow_same {w : World} {g : Nat} {old cs : Array Value} {t : TypeId} (hg : w.heap[g]? = some (.cells old t (0, 0))) : (w.setRow g cs).heap[g]? = some (.cells cs t (0, 0)) := setRow_heap w g old cs t (0, 0) hg

theorem Below.alloc1 (w : World) (o : Obj) : Below w.heap.size w (w.alloc o) := (Below.refl _ w).alloc (Nat.le_refl _) o

/-- The value of one cell or of an aggregate, as cells. -/
def PV.parts : PV → Option (List PV)
  | .agg cs => some cs
  | .d x => some [.d x]
  | .ref i o => some [.ref i o]
  | .row i n => some [.row i n]
  | .mp i => some [.mp i]
  | _ => none

theorem Rd.parts {w : World} {g : Ghost} {S : Nat → Prop} {p : PV} {u : Value} {cs : List PV} (h : Rd w g S p u) (hp : p.parts = some cs) :
    ∃ us : List Value, u.cells = us.toArray ∧ cs.length = us.length ∧ (∀ (i : Nat) (q : PV) (v : Value), cs[i]? = some q → us[i]? = some v → Rd w g S q v) ∧ ∀ v ∈ us, v.oneCell' = true := by
  have single : ∀ {q : PV}, cs = [q] → Rd w g S q u → u.oneCell' = true → u.cells = #[u] → ∃ us : List Value, u.cells = us.toArray ∧ cs.length = us.length ∧ (∀ (i : Nat) (q : PV) (v : Value), cs[i]? = some q → us[i]? = some v → Rd w g S q v) ∧ ∀ v ∈ us, v.oneCell' = true := by
    intro q hq hr h1 hc
    refine ⟨[u], by simp [hc], by simp [hq], ?_, by simpa using h1⟩
    intro i r v hr' hv
    subst hq
    cases i with
    | zero => simp at hr' hv; subst hr'; subst hv; exact hr
    | succ i => simp at hr'
  have cells1 : ∀ {v : Value}, v.oneCell' = true → v.cells = #[v] := fun {v} hv => by cases v <;> first | rfl | (simp [Value.oneCell'] at hv; done)
  cases h with
  | agg cs' us hl h h1 =>
    simp [PV.parts] at hp
    subst hp
    exact ⟨us, rfl, hl, h, h1⟩
  | d hd =>
    simp [PV.parts] at hp
    exact single hp.symm (.d hd) hd.one (cells1 hd.one)
  | ref id off blk n h => simp [PV.parts] at hp; exact single hp.symm (.ref id off blk n h) rfl rfl
  | row id n blk cap h => simp [PV.parts] at hp; exact single hp.symm (.row id n blk cap h) rfl rfl
  | rowNil id h => simp [PV.parts] at hp; exact single hp.symm (.rowNil id h) rfl rfl
  | mp id blk n h => simp [PV.parts] at hp; exact single hp.symm (.mp id blk n h) rfl rfl
  | _ => simp [PV.parts] at hp

section
variable {P : Program} {ctx : Ctx} {Q : PQ} {s : PState}
variable {dst : Option Tmp} {ty : TypeId} {pos : String} {after : Array Edge} {gd : Option (Nat × Bool)}

def PState.newO (s : PState) (id : Nat) (o : Ob) (p : PV) : PState := { n := s.n, sl := (id, p) :: s.sl, objs := putO id o s.objs }
def PState.setO (s : PState) (id : Nat) (o : Ob) : PState := { s with objs := putO id o s.objs }

/-! ### New objects -/
def zpv : Value → PV
  | .slice none 0 0 => .d (.sl [])
  | x => .d (.v x)
theorem zpv_rd (w : World) (g : Ghost) (S : Nat → Prop) (x : Value) (h : x.oneCell' = true) : Rd w g S (zpv x) x := by
  unfold zpv
  split
  · exact .d (.nil none 0 (Nat.zero_le _) (fun _ => rfl))
  · exact .d (.v x h)

theorem local_new {o : Oper} {id : Nat} (ho : o.dst = some id) (T : TypeId) (cs : List PV) (hf : s.fresh id = true)
    (h : ∀ a w g, RelG ctx g s a w → ∃ us : List Value, (execOp a.eval o).run P w = .ok (.value (.pointer (some ⟨w.heap.size, 0, none⟩))) (w.alloc (.cells us.toArray T)) ∧ cs.length = us.length ∧
      (∀ (i : Nat) (p : PV) (u : Value), cs[i]? = some p → us[i]? = some u → Rd w g (Free ctx g s.objs) p u) ∧ ∀ u ∈ us, u.oneCell' = true)
    (hcs : ∀ p ∈ cs, p.has id = false) : Local P ctx o s (s.newO id (.cells T cs) (.ref id 0)) :=
  local_value fun a w g hg => by
    obtain ⟨us, hrun, hlen, hr, h1⟩ := h a w g hg
    refine ⟨_, _, hrun, upd g id (some (w.heap.size, 0)), ?_⟩
    have hb := Below.alloc1 w (.cells us.toArray T)
    have hst : Stays w (w.alloc (.cells us.toArray T)) (Free ctx g s.objs) := ⟨hb.size, fun b _ hlt => hb.block b hlt⟩
    have hF : ∀ b, Free ctx g s.objs b → b < w.heap.size → Free ctx (upd g id (some (w.heap.size, 0))) (putO id (.cells T cs) s.objs) b := by
      intro b ⟨h1, h2⟩ hlt
      refine ⟨h1, fun j o n hl hg' => ?_⟩
      rw [look_putO] at hl
      by_cases hj : j = id
      · subst hj; rw [upd_same] at hg'; cases hg'; omega
      · rw [if_neg hj] at hl; rw [upd_ne hj] at hg'; exact h2 j o n hl hg'
    have hnew := hg.new hb hf (some (w.heap.size, 0)) (fun b n e => by cases e; simp) (.cells T cs)
      (.cells T cs w.heap.size 0 us (upd_same _ _ _) (heap_alloc_new w _) hlen (fun i p u hp hu => (hr i p u hp hu).keep hst hF (fun j hj => upd_ne fun e => by
        subst e; rw [hcs p (List.mem_of_getElem? hp)] at hj; cases hj)) h1)
    rw [ho]
    exact hnew.put (some id) (.ref id 0 w.heap.size 0 (upd_same _ _ _))

theorem LR.alloc {id : Nat} {T : TypeId} {z : Value} {zs : List Value} (hz : ∀ w, (zeroValue T).run P w = .ok z w) (hzs : z.cells = zs.toArray) (h1 : (zs.all Value.oneCell') = true) (hf : s.fresh id = true) :
    Local P ctx ⟨some id, .alloc T, ty, pos, after, gd⟩ s (s.newO id (.cells T (zs.map zpv)) (.ref id 0)) := by
  refine local_new (o := ⟨some id, .alloc T, ty, pos, after, gd⟩) rfl T _ hf (fun a w g hg => ⟨zs, ?_, by simp, ?_, by simpa using h1⟩) ?_
  · simp [execOp, Instr.alloc, hz, newVar, newRow, hzs, Result.andThen]
  · intro i p u hp hu
    simp [hu] at hp
    subst hp
    exact zpv_rd w g _ u (by simp at h1; exact h1 u (List.mem_of_getElem? hu))
  · intro p hp
    simp only [List.mem_map] at hp
    obtain ⟨x, _, rfl⟩ := hp
    unfold zpv
    split <;> rfl

theorem LR.box {id : Nat} {T : TypeId} {x : Operand} {p : PV} {cs : List PV} (hx : s.ev x = some p) (hp : p.parts = some cs) (hf : s.fresh id = true) (hcs : cs.all (fun q => !q.has id) = true) :
    Local P ctx ⟨some id, .box T x, ty, pos, after, gd⟩ s (s.newO id (.cells T cs) (.ref id 0)) := by
  refine local_new (o := ⟨some id, .box T x, ty, pos, after, gd⟩) rfl T _ hf (fun a w g hg => ?_) (by simpa using hcs)
  obtain ⟨us, hus, hlen, hr, h1⟩ := (hg.ev hx).parts hp
  exact ⟨us, by simp [execOp, Instr.box, newVar, newRow, hus, Result.andThen], hlen, hr, h1⟩

/-! ### Stores -/
theorem run_storeVar {w : World} {T T0 : TypeId} {blk o : Nat} {cur vs : List Value} {v : Value} (hh : w.heap[blk]? = some (.cells cur.toArray T0 (0, 0))) (hv : v.cells = vs.toArray) (hs : ∀ w, (sizeOf T).run P w = .ok vs.length w) (hlen : o + vs.length ≤ cur.length)
    (h1 : ∀ u ∈ vs, u.oneCell' = true) : (storeVar T ⟨blk, o, none⟩ v).run P w = .ok () (w.setRow blk (cur.take o ++ vs ++ cur.drop (o + vs.length)).toArray) := by
  have := run_storeCells_at P blk o T0 vs 0 cur.toArray w hh (by simpa using hlen) h1
  simp only [Nat.add_zero] at this
  simp [storeVar, hs, hv, this]

theorem local_store {x y : Operand} {id : Nat} {T T0 : TypeId} {ob ob' : Ob} (hl : look s.objs id = some ob)
    (h : ∀ a w g, RelG ctx g s a w → ∃ (blk n : Nat) (cur new : List Value), g id = some (blk, n) ∧ w.heap[blk]? = some (.cells cur.toArray T0 (0, 0)) ∧ (Instr.storeAt T (a.eval x) (a.eval y)).run P w = .ok () (w.setRow blk new.toArray) ∧
      (∀ w' , Stays w w' (Free ctx g s.objs) → w'.heap[blk]? = some (.cells new.toArray T0 (0, 0)) → ObRd w' g (Free ctx g (putO id ob' s.objs)) id ob')) (hdst : dst = none) :
    Local P ctx ⟨dst, .store T x y, ty, pos, after, gd⟩ s (s.setO id ob') := by
  refine local_skip (o := ⟨dst, .store T x y, ty, pos, after, gd⟩) fun a w g hg => ?_
  obtain ⟨blk, n, cur, new, hgi, hh, hrun, hob⟩ := h a w g hg
  subst hdst
  refine ⟨w.setRow blk new.toArray, by simp [execOp, hrun, Result.andThen], g, ?_⟩
  have hown := hg.own id ob blk n hl hgi
  have hother : ∀ k, k < w.heap.size → k ≠ blk → (w.setRow blk new.toArray).heap[k]? = w.heap[k]? := fun k _ hne => setRow_other w blk k _ hne
  have hst : Stays w (w.setRow blk new.toArray) (Free ctx g s.objs) := ⟨by simp, fun b ⟨_, h2⟩ hlt => hother b hlt fun e => by subst e; exact h2 id ob n hl hgi⟩
  exact hg.wrote hl hgi rfl rfl rfl (by simp) hother hown.2 (hob _ hst (heap_setRow_same hh))

theorem free_put {g : Ghost} {id : Nat} {ob ob' : Ob} (hl : look s.objs id = some ob) : ∀ b, Free ctx g s.objs b → Free ctx g (putO id ob' s.objs) b := fun b ⟨h1, h2⟩ => ⟨h1, fun j o m hj hg => by
  rw [look_putO] at hj
  by_cases e : j = id
  · subst e; exact h2 j ob m hl hg
  · rw [if_neg e] at hj; exact h2 j o m hj hg⟩

/-- Into a variable: cells from o on. -/
theorem LR.store {x y : Operand} {id o k : Nat} {T T0 : TypeId} {cs ps ns : List PV} {p : PV} (hs : ∀ w, (sizeOf T).run P w = .ok k w) (hx : s.ev x = some (.ref id o)) (hy : s.ev y = some p) (hp : p.parts = some ps) (hk : ps.length = k)
    (hl : look s.objs id = some (.cells T0 cs)) (hlen : o + k ≤ cs.length) (hns : cs.take o ++ ps ++ cs.drop (o + k) = ns) :
    Local P ctx ⟨none, .store T x y, ty, pos, after, gd⟩ s (s.setO id (.cells T0 ns)) := by
  refine local_store (T0 := T0) hl (fun a w g hg => ?_) rfl
  have hxv := hg.ev hx
  obtain ⟨vs, hvs, hvlen, hvr, hv1⟩ := (hg.ev hy).parts hp
  generalize hv : a.eval x = v at hxv
  cases hxv with
  | ref _ _ blk n hgi =>
    cases hg.objs id _ hl with
    | cells _ _ blk' n' us h' hh hulen hr h1 =>
      rw [hgi] at h'
      cases h'
      subst hk
      have hst := run_storeVar (P := P) (T := T) (o := o) hh hvs (by rw [← hvlen]; exact hs) (by omega) hv1
      refine ⟨blk, n, us, us.take o ++ vs ++ us.drop (o + vs.length), hgi, hh, by simp [Instr.storeAt, Instr.sureAddr, hst], fun w' hstay hh' => ?_⟩
      subst hns
      have hF := free_put (ctx := ctx) (g := g) (ob' := .cells T0 (cs.take o ++ ps ++ cs.drop (o + ps.length))) hl
      refine .cells T0 _ blk n _ hgi hh' (by simp [hulen, hvlen]) ?_ ?_
      · intro i q u hq hu
        have key : Rd w g (Free ctx g s.objs) q u := by
          rw [List.append_assoc, List.getElem?_append] at hq hu
          by_cases h3 : i < o
          · have e1 : i < (cs.take o).length := by simp; omega
            have e2 : i < (us.take o).length := by simp; omega
            rw [if_pos e1] at hq; rw [if_pos e2] at hu
            simp only [List.getElem?_take, h3, if_true] at hq hu
            exact hr i q u hq hu
          · have e1 : ¬ i < (cs.take o).length := by simp; omega
            have e2 : ¬ i < (us.take o).length := by simp; omega
            have l1 : (cs.take o).length = o := by simp; omega
            have l2 : (us.take o).length = o := by simp; omega
            rw [if_neg e1, l1, List.getElem?_append] at hq; rw [if_neg e2, l2, List.getElem?_append] at hu
            by_cases h4 : i - o < ps.length
            · rw [if_pos h4] at hq; rw [if_pos (by omega)] at hu
              exact hvr _ q u hq hu
            · rw [if_neg h4] at hq; rw [if_neg (by omega)] at hu
              simp only [List.getElem?_drop] at hq hu
              rw [← hvlen] at hu
              exact hr _ q u hq hu
        exact key.keep hstay (fun b hb _ => hF b hb) (fun _ _ => rfl)
      · intro u hu
        simp only [List.append_assoc, List.mem_append] at hu
        rcases hu with hu | hu | hu
        · exact h1 u (List.mem_of_mem_take hu)
        · exact hv1 u hu
        · exact h1 u (List.mem_of_mem_drop hu)

/-- Into an element of a row: cells from o on. -/
theorem LR.storeRp {x y : Operand} {id i o k m : Nat} {T T0 : TypeId} {l : List (List DV)} {cs ys ns : List DV} {p : PV} (hs : ∀ w, (sizeOf T).run P w = .ok m w) (hx : s.ev x = some (.rp id i o k)) (hy : s.ev y = some p) (hp : p.parts = some (ys.map .d)) (hm : ys.length = m)
    (hl : look s.objs id = some (.row T0 k l)) (hi : l[i]? = some cs) (hlen : o + m ≤ k) (hns : cs.take o ++ ys ++ cs.drop (o + m) = ns) :
    Local P ctx ⟨none, .store T x y, ty, pos, after, gd⟩ s (s.setO id (.row T0 k (l.set i ns))) := by
  refine local_store (T0 := T0) hl (fun a w g hg => ?_) rfl
  have hxv := hg.ev hx
  obtain ⟨vs, hvs, hvlen, hvr, hv1⟩ := (hg.ev hy).parts hp
  generalize hv : a.eval x = v at hxv
  have hil : i < l.length := (List.getElem?_eq_some_iff.1 hi).1
  cases hxv with
  | rp _ _ _ _ blk n hgi =>
    cases hg.objs id _ hl with
    | rowNil => simp at hil
    | row _ _ _ blk' cap cur h' hh hlc hcap hcs hkk hr =>
      rw [hgi] at h'
      cases h'
      subst hm
      have hcsk : cs.length = k := hkk i cs hi
      have hvl : vs.length = ys.length := by simpa using hvlen.symm
      have hroom : i * k + k ≤ cur.length := by
        rw [hcs]
        have := Nat.mul_le_mul_right k (show i + 1 ≤ n by omega)
        rw [Nat.add_mul, Nat.one_mul] at this
        exact this
      have hst := run_storeVar (P := P) (T := T) (o := i * k + o) hh hvs (by rw [hvl]; exact hs) (by omega) hv1
      refine ⟨blk, n, cur, cur.take (i * k + o) ++ vs ++ cur.drop (i * k + o + vs.length), hgi, hh, by simp [Instr.storeAt, Instr.sureAddr, hst], fun w' hstay hh' => ?_⟩
      subst hns
      have hF := free_put (ctx := ctx) (g := g) (ob' := .row T0 k (l.set i (cs.take o ++ ys ++ cs.drop (o + ys.length)))) hl
      have hget : ∀ t, (cur.take (i * k + o) ++ vs ++ cur.drop (i * k + o + vs.length))[t]? = if t < i * k + o then cur[t]? else if t < i * k + o + vs.length then vs[t - (i * k + o)]? else cur[t]? := by
        intro t
        rw [List.append_assoc, List.getElem?_append]
        have l1 : (cur.take (i * k + o)).length = i * k + o := by simp; omega
        rw [l1]
        by_cases h3 : t < i * k + o
        · rw [if_pos h3, if_pos h3]; simp [h3]
        · rw [if_neg h3, if_neg h3, List.getElem?_append]
          by_cases h4 : t - (i * k + o) < vs.length
          · rw [if_pos h4, if_pos (by omega)]
          · rw [if_neg h4, if_neg (by omega), List.getElem?_drop]
            congr 1
            omega
      refine .row T0 k _ blk n _ hgi hh' (by simpa using hlc) hcap (by simp [hcs]; omega) ?_ ?_
      · intro j ds hj
        rw [List.getElem?_set] at hj
        by_cases hij : i = j
        · subst hij
          rw [if_pos rfl, if_pos hil] at hj
          simp only [Option.some.injEq] at hj
          subst hj
          simp
          omega
        · rw [if_neg hij] at hj
          exact hkk j ds hj
      · intro j ds t x hj hx
        rw [List.getElem?_set] at hj
        by_cases hij : i = j
        · subst hij
          rw [if_pos rfl, if_pos hil] at hj
          simp only [Option.some.injEq] at hj
          subst hj
          rw [List.append_assoc, List.getElem?_append] at hx
          have l1 : (cs.take o).length = o := by simp; omega
          rw [l1] at hx
          rw [hget]
          by_cases h3 : t < o
          · rw [if_pos h3] at hx
            simp [h3] at hx
            rw [if_pos (by omega)]
            obtain ⟨u, hu, hd⟩ := hr i cs t x hi hx
            exact ⟨u, hu, hd.keep hstay fun b hb _ => hF b hb⟩
          · rw [if_neg h3, List.getElem?_append] at hx
            rw [if_neg (by omega)]
            by_cases h4 : t - o < ys.length
            · rw [if_pos h4] at hx
              rw [if_pos (by omega)]
              have e : i * k + t - (i * k + o) = t - o := by omega
              rw [e]
              have hlt : t - o < vs.length := by omega
              refine ⟨vs[t - o], List.getElem?_eq_getElem hlt, ?_⟩
              have := hvr (t - o) (.d x) vs[t - o] (by simp [hx]) (List.getElem?_eq_getElem hlt)
              cases this with
              | d hd => exact hd.keep hstay fun b hb _ => hF b hb
            · rw [if_neg h4, List.getElem?_drop] at hx
              rw [if_neg (by omega)]
              have e : o + ys.length + (t - o - ys.length) = t := by omega
              rw [e] at hx
              obtain ⟨u, hu, hd⟩ := hr i cs t x hi hx
              exact ⟨u, hu, hd.keep hstay fun b hb _ => hF b hb⟩
        · rw [if_neg hij] at hj
          obtain ⟨u, hu, hd⟩ := hr j ds t x hj hx
          have htk : t < k := by rw [← hkk j ds hj]; exact (List.getElem?_eq_some_iff.1 hx).1
          refine ⟨u, ?_, hd.keep hstay fun b hb _ => hF b hb⟩
          rw [hget]
          by_cases h5 : j < i
          · have := Nat.mul_le_mul_right k (show j + 1 ≤ i from h5)
            rw [Nat.add_mul, Nat.one_mul] at this
            rw [if_pos (by omega)]; exact hu
          · have := Nat.mul_le_mul_right k (show i + 1 ≤ j by omega)
            rw [Nat.add_mul, Nat.one_mul] at this
            rw [if_neg (by omega), if_neg (by omega)]; exact hu
end
end Go.Ep

/- Texts that the walks and laws lean on, side by side. -/
import Derived.Test.YthcldkmidhhgbaaProg
import Derived.KernelRfl
import Derived.Shelf.SlGeneric
import Derived.Shelf.SlLaysF0
import Derived.Ground.SlsfProg
import Derived.Shelf.SlSortCmp.WholeK
import Derived.Shelf.SlSortCmp.NoneTotal
import Derived.StillTactics
import Derived.RegionTactic
import Derived.Test.YthcldkmidhhgbaaAFo2
import Derived.Test.YthcldkmidhhgbaaAFo3
set_option linter.unusedVariables false
set_option linter.unusedSimpArgs false
namespace Go.Ep
open Go Go.RowKit
def aIx (o : Nat) (i : Int) : Nat := o + i.toNat
namespace AR
def pl (k : IntKind) (A : A16) : List PV := (l A).map fun n => .d (.v (.int k n))
theorem pl_get {k : IntKind} {A : A16} {i : Nat} (h : i < 16) : (pl k A)[i]? = some (.d (.v (.int k (get A i)))) := by
  unfold pl; rw [List.getElem?_map, get_lt h]; rfl
theorem at_ {cs : List PV} {o i : Nat} {k : IntKind} {A : A16} (h : (cs.drop o).take 16 = pl k A) (hi : i < 16) : cs[o + i]? = some (.d (.v (.int k (get A i)))) := by
  rw [← pl_get hi, ← h, List.getElem?_take, if_pos hi, List.getElem?_drop]
theorem room {cs : List PV} {o : Nat} {k : IntKind} {A : A16} (h : (cs.drop o).take 16 = pl k A) : o + 16 ≤ cs.length := by
  have e := congrArg List.length h
  rw [List.length_take, List.length_drop] at e
  have : (pl k A).length = 16 := rfl
  omega
theorem parts {cs : List PV} {o : Nat} {k : IntKind} {A : A16} (h : (cs.drop o).take 16 = pl k A) : cs = cs.take o ++ (pl k A ++ cs.drop (o + 16)) := by
  have e : cs.drop o = pl k A ++ cs.drop (o + 16) := by
    rw [← h, ← List.drop_drop, List.take_append_drop]
  rw [← e, List.take_append_drop]
theorem put {cs : List PV} {o i : Nat} {k : IntKind} {A : A16} {v : Int} (h : (cs.drop o).take 16 = pl k A) (hi : i < 16) :
    cs.take (o + i) ++ [.d (.v (.int k v))] ++ cs.drop (o + i + 1) = cs.take o ++ pl k (set A i v) ++ cs.drop (o + 16) := by
  have hr := room h
  have e1 : cs.take (o + i) ++ [.d (.v (.int k v))] ++ cs.drop (o + i + 1) = cs.set (o + i) (.d (.v (.int k v))) := by
    rw [List.set_eq_take_append_cons_drop, if_pos (by omega), List.append_assoc]; rfl
  have hl : (cs.take o).length = o := by rw [List.length_take]; omega
  have hp : (pl k A).length = 16 := rfl
  have e2 : cs.set (o + i) (.d (.v (.int k v))) = cs.take o ++ ((pl k A).set i (.d (.v (.int k v))) ++ cs.drop (o + 16)) := by
    conv => lhs; rw [parts h]
    rw [List.set_append_right _ _ (by omega), hl, show o + i - o = i by omega, List.set_append_left _ _ (by omega)]
  rw [e1, e2, ← List.append_assoc]
  congr 2
  unfold pl
  rw [l_set, List.map_set]
end AR
section
variable {P : Program} {ctx : Ctx} {Q : PQ} {s : PState}
variable {dst : Option Tmp} {ty : TypeId} {pos : String} {after : Array Edge} {gd : Option (Nat × Bool)}
theorem run_indexArr {t e : TypeId} {n k : Nat} (hu : P.underlying t = some (.array n e)) (h2 : 1 < n) (hs : ∀ w, (sizeOf e).run P w = .ok k w) (b off : Nat) (ki : IntKind) (i : Int) (hi : 0 ≤ i ∧ i < (n : Int)) (w : World) :
    (Instr.indexAt t (.pointer (some ⟨b, off, none⟩)) (.int ki i)).run P w = .ok (.pointer (some ⟨b, off + i.toNat * k, none⟩)) w := by
  simp [Instr.indexAt, asIntOf, run_underlying hu, hi.1, hi.2, hs, Addr.add_lit, Result.andThen, Instr.sureAddr]
theorem LR.idxArr {x ix : Operand} {id o n : Nat} {ki : IntKind} {i : Int} {t e : TypeId} (hu : P.underlying t = some (.array n e)) (h2 : Nat.blt 1 n = true) (hs : ∀ w, (sizeOf e).run P w = .ok 1 w)
    (hx : s.ev x = some (.ref id o)) (hix : s.ev ix = some (.d (.v (.int ki i)))) (hi : 0 ≤ i ∧ i < (n : Int)) :
    Local P ctx ⟨dst, .indexAddr t x ix, ty, pos, after, gd⟩ s (s.putD dst (.ref id (aIx o i))) :=
  local_pure (o := ⟨dst, .indexAddr t x ix, ty, pos, after, gd⟩) fun a w g hg => by
    have h := hg.ev hx
    generalize hv : a.eval x = v at h
    cases h with
    | ref _ _ blk m hgi =>
      refine ⟨.pointer (some ⟨blk, aIx o i, none⟩), ?_, .ref id _ blk m hgi⟩
      have := run_indexArr (P := P) hu (by simpa [Nat.blt_eq] using h2) hs blk o ki i hi w
      rw [Nat.mul_one] at this
      simp [execOp, hv, ev_int hg hix, this, Result.andThen, aIx]
theorem LR.idxArrK {x ix : Operand} {id o n k j : Nat} {ki : IntKind} {i : Int} {t e : TypeId} (hu : P.underlying t = some (.array n e)) (h2 : Nat.blt 1 n = true) (hs : ∀ w, (sizeOf e).run P w = .ok k w)
    (hx : s.ev x = some (.ref id o)) (hix : s.ev ix = some (.d (.v (.int ki i)))) (hi : i = (j : Int)) (hj : Nat.blt j n = true) :
    Local P ctx ⟨dst, .indexAddr t x ix, ty, pos, after, gd⟩ s (s.putD dst (.ref id (o + j * k))) :=
  local_pure (o := ⟨dst, .indexAddr t x ix, ty, pos, after, gd⟩) fun a w g hg => by
    have h := hg.ev hx
    rw [Nat.blt_eq] at h2 hj
    generalize hv : a.eval x = v at h
    cases h with
    | ref _ _ blk m hgi =>
      refine ⟨.pointer (some ⟨blk, o + j * k, none⟩), ?_, .ref id _ blk m hgi⟩
      have := run_indexArr (P := P) hu h2 hs blk o ki i (by omega) w
      rw [hi, Int.toNat_natCast] at this
      simp [execOp, hv, ev_int hg hix, hi, this, Result.andThen]
theorem LR.loadArr {x : Operand} {id o : Nat} {i : Int} {T T0 : TypeId} {cs : List PV} (k : IntKind) (A : A16) (ha : ∀ w, (isAgg T).run P w = .ok false w) (hx : s.ev x = some (.ref id (aIx o i))) (hl : look s.objs id = some (.cells T0 cs))
    (hi : 0 ≤ i ∧ i < ((16 : Nat) : Int)) (hA : (cs.drop o).take 16 = AR.pl k A) :
    Local P ctx ⟨dst, .load T x, ty, pos, after, gd⟩ s (s.putD dst (.d (.v (.int k (AR.get A i.toNat))))) := LR.loadRef ha hx hl (AR.at_ hA (AR.lt hi))
theorem LR.storeArr {x y : Operand} {id o : Nat} {i v : Int} {T T0 : TypeId} {cs ns : List PV} (k : IntKind) (A : A16) (hs : ∀ w, (sizeOf T).run P w = .ok 1 w) (hx : s.ev x = some (.ref id (aIx o i))) (hy : s.ev y = some (.d (.v (.int k v)))) (hl : look s.objs id = some (.cells T0 cs))
    (hi : 0 ≤ i ∧ i < ((16 : Nat) : Int)) (hA : (cs.drop o).take 16 = AR.pl k A) (hns : cs.take o ++ AR.pl k (AR.set A i.toNat v) ++ cs.drop (o + 16) = ns) :
    Local P ctx ⟨none, .store T x y, ty, pos, after, gd⟩ s (s.setO id (.cells T0 ns)) := by
  have h16 := AR.lt hi
  have hr := AR.room hA
  exact LR.store (ps := [.d (.v (.int k v))]) hs hx hy rfl rfl hl (by unfold aIx; omega) (by rw [← hns, ← AR.put hA h16]; rfl)
theorem LR.sliceArr {x : Operand} {id o n k : Nat} {t e : TypeId} (hu : P.underlying t = some (.array n e)) (hs : ∀ w, (sizeOf e).run P w = .ok k w) (hx : s.ev x = some (.ref id o)) :
    Local P ctx ⟨dst, .slice t x none none none, ty, pos, after, gd⟩ s (s.putD dst (.pa id o n)) :=
  local_pure (o := ⟨dst, .slice t x none none none, ty, pos, after, gd⟩) fun a w g hg => by
    have h := hg.ev hx
    generalize hv : a.eval x = v at h
    cases h with
    | ref _ _ blk m hgi =>
      refine ⟨.slice (some ⟨blk, o, none⟩) n n, ?_, .pa id o n blk m hgi⟩
      simp [execOp, hv, Instr.sliceAt, Instr.sureAddr, Instr.sliceBounds, run_underlying hu, hs, Addr.add_lit, Result.andThen]
theorem run_firstInts {w : World} {S : Nat → Prop} {k : IntKind} {L : List Int} {u : Value} (h : DRd w S (.sl (L.map (eK k))) u) {m : Nat} (hm : m ≤ L.length) :
    (Builtin.firstCells 1 m u).run P w = .ok ((L.take m).map (Value.int k)).toArray w ∧ ∃ ao cap, u = .slice ao L.length cap := by
  generalize hl : L.map (eK k) = l at h
  cases h with
  | nil a cap hc hn =>
    have hL : L = [] := by simpa using hl
    subst hL
    have h0 : m = 0 := by simpa using hm
    subst h0
    refine ⟨?_, a, cap, rfl⟩
    cases a with
    | none => simp [Builtin.firstCells]
    | some a => simpa [Builtin.firstCells] using run_loadCells_list (P := P) w a [] (fun j v hj => by simp at hj)
  | sl _ b off cap k' c hll hcap hS hb hkk hc hr =>
    subst hl
    refine ⟨?_, _, cap, by rw [List.length_map]⟩
    have key := run_loadCells_list (P := P) w ⟨b, off, none⟩ ((L.take m).map (Value.int k)) fun j v hj => by
      rw [List.getElem?_map, List.getElem?_take] at hj
      split at hj
      · rename_i hjm
        have hjl : j < L.length := by omega
        rw [List.getElem?_eq_getElem hjl] at hj
        simp only [Option.map_some, Option.some.injEq] at hj
        have hel : (L.map (eK k))[j]? = some (eK k L[j]) := by rw [List.getElem?_map, List.getElem?_eq_getElem hjl]; rfl
        have hk1 : k' = 1 := (hkk j _ hel).symm
        have h1 := hc j 0 (by rw [List.length_map]; exact hjl) (by omega)
        have h2 := hr j _ 0 (.v (.int k L[j])) hel rfl
        rw [hk1, Nat.mul_one, Nat.add_zero] at h1
        have h3 : c j 0 = .int k L[j] := by
          generalize c j 0 = z at h2
          cases h2 with
          | v => rfl
        rw [Addr.add_lit, h1, ← hj, h3]
      · cases hj
    rw [List.length_map, List.length_take, Nat.min_eq_left hm] at key
    simpa [Builtin.firstCells] using key
theorem LR.copyArr {x y : Operand} {id o : Nat} {T0 t1 t2 e : TypeId} {cs ns : List PV} (k : IntKind) (A : A16) {L : List Int} (hu : P.underlying t1 = some (.slice e)) (hs : ∀ w, (sizeOf e).run P w = .ok 1 w)
    (hx : s.ev x = some (.pa id o 16)) (hy : s.ev y = some (.d (.sl (L.map (eK k))))) (hl : look s.objs id = some (.cells T0 cs)) (hA : (cs.drop o).take 16 = AR.pl k A) (hns : cs.take o ++ AR.pl k (AR.over A L) ++ cs.drop (o + 16) = ns) :
    Local P ctx ⟨dst, .call ⟨.builtin .copy, #[x, y], #[t1, t2]⟩, ty, pos, after, gd⟩ s ((s.setO id (.cells T0 ns)).putD dst (.d (.v (.int .i64 (min L.length 16 : Nat))))) := by
  refine local_value (o := ⟨dst, .call ⟨.builtin .copy, #[x, y], #[t1, t2]⟩, ty, pos, after, gd⟩) fun a w g hg => ?_
  have hxv := hg.ev hx
  have hyv := hg.ev hy
  generalize hv : a.eval x = v at hxv
  generalize hv2 : a.eval y = v2 at hyv
  cases hyv with
  | d hyd =>
  obtain ⟨hf, ao, cap, rfl⟩ := run_firstInts (P := P) hyd (m := min L.length 16) (Nat.min_le_left _ _)
  cases hxv with
  | pa _ _ _ blk n hgi =>
    cases hg.objs id _ hl with
    | cells _ _ blk' n' us h' hh hulen hr h1 =>
      rw [hgi] at h'
      cases h'
      have hroom := AR.room hA
      let vs : List Value := (L.take (min L.length 16)).map (Value.int k)
      have hvl : vs.length = min L.length 16 := by simp only [vs, List.length_map, List.length_take]; omega
      have hv1 : ∀ u ∈ vs, u.oneCell' = true := fun u hu => by
        obtain ⟨i, _, rfl⟩ := List.mem_map.1 hu; rfl
      have hrun := run_storeCells_at P blk o T0 vs 0 us.toArray w hh (by simp; omega) hv1
      let new : List Value := us.take o ++ vs ++ us.drop (o + vs.length)
      have hrun' : (storeCells ⟨blk, o, none⟩ vs).run P w = .ok () (w.setRow blk new.toArray) := by
        simpa [new] using hrun
      refine ⟨.int .i64 (min L.length 16 : Nat), w.setRow blk new.toArray, ?_, g, ?_⟩
      · have hmin : Nat.min L.length 16 = min L.length 16 := rfl
        have hrun2 : (storeCells ⟨blk, o, none⟩ (List.take (min L.length 16) (List.map (Value.int k) L))).run P w = .ok () (w.setRow blk new.toArray) := by
          rw [← List.map_take]; exact hrun'
        simp [execOp, resolve, invoke, builtin, hv, hv2, Builtin.copy_, run_underlying hu, hs, Builtin.lenOf, hmin, hf, hrun2, Result.andThen, goInt]
      · have hown := hg.own id _ blk n hl hgi
        have hother : ∀ k, k < w.heap.size → k ≠ blk → (w.setRow blk new.toArray).heap[k]? = w.heap[k]? := fun k _ hne => setRow_other w blk k _ hne
        have hst : Stays w (w.setRow blk new.toArray) (Free ctx g s.objs) := ⟨by simp, fun b ⟨_, h2⟩ hlt => hother b hlt fun e => by subst e; exact h2 id _ n hl hgi⟩
        suffices hob : ObRd (w.setRow blk new.toArray) g (Free ctx g (putO id (.cells T0 ns) s.objs)) id (.cells T0 ns) from (hg.wrote (w' := w.setRow blk new.toArray) hl hgi rfl rfl rfl (by simp) hother hown.2 hob).put dst (.d (.v (.int .i64 (min L.length 16 : Nat)) rfl))
        have hF := free_put (ctx := ctx) (g := g) (ob' := .cells T0 ns) hl
        have hlt : (L.take 16) = L.take (min L.length 16) := by
          rcases Nat.le_total L.length 16 with h | h
          · rw [Nat.min_eq_left h, List.take_of_length_le h, List.take_of_length_le (Nat.le_refl _)]
          · rw [Nat.min_eq_right h]
        have hl16 : (L.take 16).length = min L.length 16 := by rw [List.length_take]; omega
        have hnl : ns = cs.take o ++ (vs.map fun u => PV.d (.v u)) ++ cs.drop (o + vs.length) := by
          rw [← hns]
          have e1 : AR.pl k (AR.over A L) = (vs.map fun u => PV.d (.v u)) ++ (AR.pl k A).drop (min L.length 16) := by
            unfold AR.pl
            rw [AR.l_over, List.map_append, List.map_drop, hl16, hlt]
            simp [vs, Function.comp_def]
          have e2 : cs.drop (o + vs.length) = (AR.pl k A).drop (min L.length 16) ++ cs.drop (o + 16) := by
            have hlo : (cs.take o).length = o := by rw [List.length_take]; omega
            have hp : (AR.pl k A).length = 16 := rfl
            conv => lhs; rw [AR.parts hA]
            rw [List.drop_append, List.drop_eq_nil_of_le (by omega), List.nil_append, hlo, show o + vs.length - o = min L.length 16 by omega, List.drop_append, show min L.length 16 - (AR.pl k A).length = 0 by omega, List.drop_zero]
          rw [e1, e2]
          simp only [List.append_assoc]
        refine .cells T0 _ blk n new hgi (heap_setRow_same hh) (by rw [hnl]; simp [new, hulen]) ?_ ?_
        · intro i q u hq hu
          rw [hnl] at hq
          have key : Rd w g (Free ctx g s.objs) q u := by
            simp only [new] at hu
            rw [List.append_assoc, List.getElem?_append] at hq hu
            have l1 : (cs.take o).length = o := by rw [List.length_take]; omega
            have l2 : (us.take o).length = o := by rw [List.length_take]; omega
            rw [l1] at hq; rw [l2] at hu
            by_cases h3 : i < o
            · rw [if_pos h3] at hq hu
              simp only [List.getElem?_take, h3, if_true] at hq hu
              exact hr i q u hq hu
            · rw [if_neg h3] at hq hu
              rw [List.getElem?_append] at hq hu
              rw [List.length_map] at hq
              by_cases h4 : i - o < vs.length
              · rw [if_pos h4] at hq hu
                rw [List.getElem?_map, hu] at hq
                simp only [Option.map_some, Option.some.injEq] at hq
                subst hq
                exact .d (.v _ (hv1 _ (List.mem_of_getElem? hu)))
              · rw [if_neg h4] at hq hu
                rw [List.getElem?_drop] at hq hu
                exact hr _ q u hq hu
          exact key.keep hst (fun b hb _ => hF b hb) (fun _ _ => rfl)
        · intro u hu
          simp only [new, List.append_assoc, List.mem_append] at hu
          rcases hu with hu | hu | hu
          · exact h1 u (List.mem_of_mem_take hu)
          · exact hv1 u hu
          · exact h1 u (List.mem_of_mem_drop hu)
/-- An array of one's own lent to a function that hands back a new row of numbers. -/
theorem LR.rowLendPa {id id2 o : Nat} {x y : Operand} {ats : Array TypeId} {f : FuncId} {e T0 : TypeId} {cs : List PV} {L : List Int} (k : IntKind) (A : A16) (hc : PRow P f [.d (.sl ((AR.l A).map (eK k)))] e 1 (L.map (eK k))) (hx : s.ev x = some (.d (.v (.func (.func f) #[] #[])))) (he : ∀ args w, (callFunc f args).run P w = .ok (.enter f args) w)
    (hy : s.ev y = some (.pa id2 o 16)) (hl : look s.objs id2 = some (.cells T0 cs)) (hA : (cs.drop o).take 16 = AR.pl k A) (hf : s.fresh id = true) :
    Local P ctx ⟨some id, .call ⟨.value x, #[y], ats⟩, ty, pos, after, gd⟩ s (s.newO id (.row e 1 (L.map (eK k))) (.row id L.length)) :=
  local_enter (o := ⟨some id, .call ⟨.value x, #[y], ats⟩, ty, pos, after, gd⟩) fun a w g hg => by
    refine ⟨f, _, exec_call (o := ⟨some id, .call ⟨.value x, #[y], ats⟩, ty, pos, after, gd⟩) rfl (ev_v hg hx) he w, ?_⟩
    have hyv := hg.ev hy
    have hob := hg.objs id2 _ hl
    rw [show (#[y].map a.eval : Array Value) = [a.eval y].toArray by simp]
    generalize hv : a.eval y = v at hyv
    cases hyv with
    | pa _ _ _ blk n hgi =>
    cases hob with
    | cells _ _ blk' n' us h' hh hulen hr h1 =>
    rw [hgi] at h'
    cases h'
    have hown := hg.own id2 _ blk n hl hgi
    have hroom := AR.room hA
    have hlen16 : ((AR.l A).map (eK k)).length = 16 := rfl
    have hd : DRd w (LentS ctx g s) (.sl ((AR.l A).map (eK k))) (.slice (some ⟨blk, o, none⟩) 16 16) := by
      have := DRd.sl (w := w) (S := LentS ctx g s) ((AR.l A).map (eK k)) blk o 16 1 (fun i _ => .int k (AR.get A i)) (by rw [hlen16]; omega) (by decide) (.inr ⟨id2, _, n, hl, hgi⟩) hown.1 (fun i cs' hi => ?_) (fun i j hi hj => ?_) (fun i cs' j x hi hx => ?_)
      · rwa [hlen16] at this
      · rw [List.getElem?_map] at hi
        cases hq : (AR.l A)[i]? with
        | none => rw [hq] at hi; cases hi
        | some q => rw [hq] at hi; simp only [Option.map_some, Option.some.injEq] at hi; subst hi; rfl
      · have hj0 : j = 0 := by omega
        subst hj0
        rw [hlen16] at hi
        rw [cell_of_heap hh, Nat.mul_one, Nat.add_zero]
        have h5 := AR.at_ hA hi
        have h6 : o + i < us.length := by rw [← hulen]; exact (List.getElem?_eq_some_iff.1 h5).1
        have h7 : us[o + i]? = some us[o + i] := List.getElem?_eq_getElem h6
        have h8 := hr _ _ _ h5 h7
        rw [h7]
        generalize us[o + i] = z at h8
        cases h8 with
        | d h => cases h with
          | v => rfl
      · have hi16 : i < 16 := by have := (List.getElem?_eq_some_iff.1 hi).1; rwa [hlen16] at this
        rw [List.getElem?_map, AR.get_lt hi16] at hi
        simp only [Option.map_some, Option.some.injEq] at hi
        subst hi
        cases j with
        | zero => simp [eK] at hx; subst hx; exact .v _ rfl
        | succ j => simp [eK] at hx
    refine (hc w (LentS ctx g s) [.slice (some ⟨blk, o, none⟩) 16 16] rfl (fun i p u hp hu => ?_)).mono fun en w' ⟨u, he, hb, hru⟩ => ⟨u, he, ?_⟩
    · cases i with
      | zero => simp at hp hu; subst hp; subst hu; exact .d hd
      | succ i => simp at hp
    generalize hLe : L.map (eK k) = l at hru
    have hll : l.length = L.length := by rw [← hLe, List.length_map]
    rw [← hll]
    cases hru with
    | nil =>
      exact ⟨upd g id none, (hg.new hb hf none (fun b n e => by cases e) (.row e 1 []) (.rowNil e 1 (upd_same _ _ _))).put (some id) (.rowNil id (upd_same _ _ _))⟩
    | row _ blk2 cap cur hbase hh2 hlc hcap hcs hk hr2 =>
      have hlt : blk2 < w'.heap.size := (Array.getElem?_eq_some_iff.1 hh2).1
      refine ⟨upd g id (some (blk2, cap)), (hg.new hb hf (some (blk2, cap)) (fun b n e => by cases e; exact ⟨hbase, hlt⟩) (.row e 1 l) ?_).put (some id) (.row id _ blk2 cap (upd_same _ _ _))⟩
      refine .row e 1 l blk2 cap cur (upd_same _ _ _) hh2 hlc hcap hcs hk fun i cs' j x hi hx => ?_
      obtain ⟨u2, hu2, hd2⟩ := hr2 i cs' j x hi hx
      refine ⟨u2, hu2, ?_⟩
      subst hLe
      rw [List.getElem?_map] at hi
      cases hq : L[i]? with
      | none => rw [hq] at hi; cases hi
      | some q =>
        rw [hq] at hi
        simp only [Option.map_some, Option.some.injEq] at hi
        subst hi
        cases j with
        | zero =>
          simp [eK] at hx
          subst hx
          cases hd2 with
          | v _ h => exact .v _ h
        | succ j => simp [eK] at hx
end
section
variable {P : Program} {ctx : Ctx} {Q : PQ} {s : PState}
variable {dst : Option Tmp} {ty : TypeId} {pos : String} {after : Array Edge} {gd : Option (Nat × Bool)}
variable {κ ν : Type} [DecidableEq κ] {eK : κ → List Int} {eV : ν → List DV} {m : List (κ × ν)} {q : κ} (inj : ∀ a b, eK a = eK b → a = b)
variable {x kx : Operand} {t kt et : TypeId} {ks : List IntKind} {ag : Bool} {kp : PV} {id : Nat} {nl : Bool}
include inj in
theorem LR.setH {vx : Operand} {v : ν} {pv : PV} (hu : P.underlying t = some (.map kt et)) (K : KeyOK P kt ks) (hx : s.ev x = some (.mp id)) (hl : look s.objs id = some (.mapH nl ks ag (encM eK eV m)))
    (hk : s.ev kx = some kp) (hkp : kp = keyP ks (eK q)) (hn : (eK q).length = ks.length) (hv : s.ev vx = some pv) (hq : elP ag (eV v) = pv) (h1 : ag = false → (eV v).length = 1) (hnl : nl = false) :
    Local P ctx ⟨none, .mapUpdate t x kx vx, ty, pos, after, gd⟩ s (s.setO id (.mapH nl ks ag (encM eK eV (AL.set m q v)))) := by
  subst hnl
  refine Local.openH hl fun bs ck => Local.pre (Sub.trans (Sub.mapF (id := id) (by show look (putO id _ _) id = _; rw [look_putO, if_pos rfl]) rfl) (Sub.same (t := { s with objs := putO id (.map ks ag (encM eK eV m) bs ck) s.objs }) rfl rfl fun i => by
    show look (putO id _ (putO id _ _)) i = look (putO id _ _) i
    rw [look_put2])) ((LR.setM (m := m) (bs := bs) (ck := ck) (id := id) inj hu K (by rw [ev_objs]; exact hx) (by show look (putO id _ _) id = _; rw [look_putO, if_pos rfl]) (by rw [ev_objs]; exact hk) hkp hn (by rw [ev_objs]; exact hv) hq h1).post
    (Sub.trans (Sub.toH (id := id) (by show look (putO id _ _) id = _; rw [look_putO, if_pos rfl])) (Sub.same rfl rfl fun i => by
      show look (putO id _ (putO id _ (putO id _ _))) i = look (putO id _ _) i
      rw [look_put2, look_putO, look_putO, look_putO]
      by_cases h : i = id <;> simp [h])))
end
end Go.Ep

namespace Go.Ep
def L26Act.e (x : L26Act) : List DV := [.v (.int .u8 x.kind), .v (.int .u8 x.slot), .v (.int .u64 x.try_), .v (.int .u16 x.dev), .v (.int .u64 x.epoch)]
def L26Act.v (x : L26Act) : List Value := [(.int .u8 x.kind), (.int .u8 x.slot), (.int .u64 x.try_), (.int .u16 x.dev), (.int .u64 x.epoch)]
theorem L26Act.v1 (x : L26Act) : ∀ u ∈ x.v, u.oneCell' = true := by
  intro u hu
  simp only [L26Act.v, List.mem_cons, List.not_mem_nil, or_false] at hu
  rcases hu with rfl | rfl | rfl | rfl | rfl <;> rfl
def L26Act.k (x : L26Act) : List Int := [x.kind, x.slot, x.try_, x.dev, x.epoch]
def TMember.e (x : TMember) : List DV := [.v (.int .u16 x.dev), .v (.int .u8 x.slot), .v (.int .u64 x.try_)]
def TMember.v (x : TMember) : List Value := [(.int .u16 x.dev), (.int .u8 x.slot), (.int .u64 x.try_)]
theorem TMember.v1 (x : TMember) : ∀ u ∈ x.v, u.oneCell' = true := by
  intro u hu
  simp only [TMember.v, List.mem_cons, List.not_mem_nil, or_false] at hu
  rcases hu with rfl | rfl | rfl <;> rfl
def TMember.k (x : TMember) : List Int := [x.dev, x.slot, x.try_]
def R26Roster.e (x : R26Roster) : List DV := [.v (.int .u64 x.epoch), .v (.int .u16 x.last), .sl (List.map TMember.e x.l), .v (.int .u64 x.tries.1), .v (.int .u64 x.tries.2.1), .v (.int .u64 x.tries.2.2.1), .v (.int .u64 x.tries.2.2.2.1), .v (.int .u64 x.tries.2.2.2.2.1), .v (.int .u64 x.tries.2.2.2.2.2.1), .v (.int .u64 x.tries.2.2.2.2.2.2.1), .v (.int .u64 x.tries.2.2.2.2.2.2.2.1), .v (.int .u64 x.tries.2.2.2.2.2.2.2.2.1), .v (.int .u64 x.tries.2.2.2.2.2.2.2.2.2.1), .v (.int .u64 x.tries.2.2.2.2.2.2.2.2.2.2.1), .v (.int .u64 x.tries.2.2.2.2.2.2.2.2.2.2.2.1), .v (.int .u64 x.tries.2.2.2.2.2.2.2.2.2.2.2.2.1), .v (.int .u64 x.tries.2.2.2.2.2.2.2.2.2.2.2.2.2.1), .v (.int .u64 x.tries.2.2.2.2.2.2.2.2.2.2.2.2.2.2.1), .v (.int .u64 x.tries.2.2.2.2.2.2.2.2.2.2.2.2.2.2.2)]
end Go.Ep

namespace Go.Proofs
open Go.Ep
set_option linter.unusedSimpArgs false

theorem elem32 : ElemOK Try.prog 32 35 3 16 := ElemOK.mk' (z := .agg #[.int .u16 0, .int .u8 0, .int .u64 0]) Try.underlying32 (by kernel_rfl) rfl
theorem elem44 : ElemOK Try.prog 44 28 1 8 := ElemOK.mk' (z := .int .u64 0) Try.underlying44 (by kernel_rfl) rfl
theorem build35 : BuildOK Try.prog 35 [(0, 1), (1, 1), (2, 1)] [.int .u16 0, .int .u8 0, .int .u64 0] := fun parts => by kernel_rfl
theorem build50 : BuildOK Try.prog 50 [(0, 1), (1, 1), (2, 1), (3, 16)] [.int .u64 0, .int .u16 0, .slice none 0 0, .int .u64 0, .int .u64 0, .int .u64 0, .int .u64 0, .int .u64 0, .int .u64 0, .int .u64 0, .int .u64 0, .int .u64 0, .int .u64 0, .int .u64 0, .int .u64 0, .int .u64 0, .int .u64 0, .int .u64 0, .int .u64 0] := fun parts => by kernel_rfl
theorem build55 : BuildOK Try.prog 55 [(0, 1), (1, 1), (2, 1), (3, 16)] [.int .u64 0, .int .u16 0, .map none, .int .u64 0, .int .u64 0, .int .u64 0, .int .u64 0, .int .u64 0, .int .u64 0, .int .u64 0, .int .u64 0, .int .u64 0, .int .u64 0, .int .u64 0, .int .u64 0, .int .u64 0, .int .u64 0, .int .u64 0, .int .u64 0] := fun parts => by kernel_rfl
theorem eq35 {a0 b0 : Int} {a1 b1 : Int} {a2 b2 : Int} : AggEq Try.prog 35 [.int .u16 a0, .int .u8 a1, .int .u64 a2] [.int .u16 b0, .int .u8 b1, .int .u64 b2] ((decide (a0 = b0) && (decide (a1 = b1) && decide (a2 = b2)))) := by
  refine ⟨by kernel_rfl, fun w => ?_⟩
  have hu : Try.prog.underlying 35 = some (.struct (Try.prog.fieldsOf 35)) := by simp only [Program.fieldsOf, Try.underlying35]
  rw [run_equalIn_agg w 9999 35 _ _ hu (by kernel_rfl)]
  simp [Program.fieldsOf, Try.underlying35, Op.eqFields, part, Try.isAgg5, Try.isAgg27, Try.isAgg28, run_equalIn_int _ 9998 5 _ _ _ _ Try.underlying5, run_equalIn_int _ 9998 27 _ _ _ _ Try.underlying27, run_equalIn_int _ 9998 28 _ _ _ _ Try.underlying28, Result.andThen, beq_bytes]
  all_goals (repeat' split) <;> simp_all
theorem key53 : KeyOK Try.prog 27 [.u16] := KeyOK.int Try.underlying27
end Go.Proofs

namespace Go.Ep
def ltMember (x y : TMember) : Bool := decide (x.dev < y.dev)
end Go.Ep

namespace Go.Ep
open Go

/-- epitaph/roster.New -/
def roster_New_o  : M (Int × Int × A16 × Bool × (List (Int × TMember))) :=
  M.pure ((1, 0, (0, 0, 0, 0, 0, 0, 0, 0, 0, 0, 0, 0, 0, 0, 0, 0), false, ([] : List (Int × TMember))))

/-- (*epitaph/roster.Roster).none -/
def roster_Roster_none_o (epoch_1 : Int) (last_2 : Int) (c3 : A16) (nl4 : Bool) (m5 : List (Int × TMember)) : M Bool :=
  M.pure (decide (epoch_1 = 0))

def roster_Roster_Members_o_l0 (m5 : List (Int × TMember)) : List Nat × List TMember → M (M.Step (List Nat × List TMember) (List TMember)) := fun ⟨seen29, out30⟩ =>
  M.need (∀ i ∈ seen29, i < List.length m5) <| M.bind (M.nxt (List.length m5) seen29) fun o => match o with
  | none =>
    M.pure (.done out30)
  | some j31 =>
    M.bind (M.idx m5 (Int.ofNat j31)) fun kv35 =>
    M.need ((List.length out30 + List.length ([kv35.2])) * 16 ≤ 140737488355328) <|
    M.pure (.next ((seen29 ++ [j31]), (out30 ++ [kv35.2])))
/-- (*epitaph/roster.Roster).Members -/
def roster_Roster_Members_o (epoch_1 : Int) (last_2 : Int) (c3 : A16) (nl4 : Bool) (m5 : List (Int × TMember)) : M (List TMember) :=
  M.bind (M.det (roster_Roster_none_o epoch_1 last_2 c3 nl4 m5)) fun y6 =>
  cond y6
    (M.pure ([] : List TMember))
    (M.bind (M.loop (roster_Roster_Members_o_l0 m5) ([], ([] : List TMember))) (fun out10 =>
    M.need (List.length out10 < 4611686018427387904) <| M.bind (M.srt ltMember out10) fun s39 =>
    M.pure s39))

def roster_Roster_Of_o_l0 (y7 : List TMember) (slot1 : Int) : Int → M (M.Step Int (M.Ex Unit (TMember × Bool))) := fun v18 =>
  cond ((decide (v18 < (List.length y7 : Int))))
    (M.bind (M.idx y7 v18) fun x20 =>
    cond (decide (x20.slot = slot1))
      (M.pure (.done (.ret (x20, true))))
      (M.pure (.next (IntKind.i64.wrap (v18 + 1)))))
    (M.pure (.done (.brk ())))
/-- (*epitaph/roster.Roster).Of -/
def roster_Roster_Of_o (slot1 : Int) (epoch_2 : Int) (last_3 : Int) (c4 : A16) (nl5 : Bool) (m6 : List (Int × TMember)) : M (TMember × Bool) :=
  M.bind (M.det (roster_Roster_Members_o epoch_2 last_3 c4 nl5 m6)) fun y7 =>
  M.bind (M.loop (roster_Roster_Of_o_l0 y7 slot1) 0) (M.exk (fun _ =>
  M.pure ((⟨0, 0, 0⟩ : TMember), false)))

/-- (*epitaph/roster.Roster).Join -/
def roster_Roster_Join_o (slot1 : Int) (try2 : Int) (epoch_3 : Int) (last_4 : Int) (c5 : A16) (nl6 : Bool) (m7 : List (Int × TMember)) : M (TMember × Int × Int × Int × Int × A16 × Bool × (List (Int × TMember))) :=
  M.bind (M.bind (M.det (roster_Roster_none_o epoch_3 last_4 c5 nl6 m7)) fun y9 =>
  cond y9
    (M.pure true)
    (cond (decide (16 ≤ slot1))
      (M.pure true)
      (M.pure (decide (try2 = 0))))) (fun v8 =>
  cond v8
    (M.pure ((⟨0, 0, 0⟩ : TMember), 0, 1, epoch_3, last_4, c5, nl6, m7))
    (M.bind (M.det (roster_Roster_Of_o slot1 epoch_3 last_4 c5 nl6 m7)) fun y14 =>
    M.need ((0 : Int) ≤ slot1 ∧ slot1 < ((16 : Nat) : Int)) <|
    M.bind (cond ((decide (try2 < (AR.get c5 (Int.toNat slot1)))))
      (M.pure true)
      (cond ((decide (try2 = (AR.get c5 (Int.toNat slot1)))))
        (M.pure (!y14.2))
        (M.pure false))) (fun v17 =>
    cond v17
      (M.pure ((⟨0, 0, 0⟩ : TMember), 0, 11, epoch_3, last_4, c5, nl6, m7))
      (cond ((decide (try2 = (AR.get c5 (Int.toNat slot1)))))
        (M.pure (y14.1, 0, 0, epoch_3, last_4, c5, nl6, m7))
        (cond (decide (last_4 = 65535))
          (M.pure ((⟨0, 0, 0⟩ : TMember), 0, 8, epoch_3, last_4, c5, nl6, m7))
          (M.need ((0 : Int) ≤ slot1 ∧ slot1 < ((16 : Nat) : Int)) <|
          M.need (nl6 = false) <|
          M.pure (((⟨(IntKind.u16.wrap (last_4 + 1)), slot1, try2⟩ : TMember), y14.1.dev, 0, (IntKind.u64.wrap (epoch_3 + 1)), (IntKind.u16.wrap (last_4 + 1)), (AR.set c5 (Int.toNat slot1) try2), nl6, (AL.set (AL.del m7 y14.1.dev) (IntKind.u16.wrap (last_4 + 1)) ((⟨(IntKind.u16.wrap (last_4 + 1)), slot1, try2⟩ : TMember)))))))))))

/-- (*epitaph/roster.Roster).Epoch -/
def roster_Roster_Epoch_o (epoch_1 : Int) (last_2 : Int) (c3 : A16) (nl4 : Bool) (m5 : List (Int × TMember)) : M Int :=
  M.bind (M.det (roster_Roster_none_o epoch_1 last_2 c3 nl4 m5)) fun y6 =>
  cond y6
    (M.pure 0)
    (M.pure epoch_1)

/-- epitaph/epitaphlaw26.works -/
def l26_works  : M Bool :=
  M.bind (M.det (roster_New_o)) fun y1 =>
  M.bind (M.det (roster_Roster_Join_o 3 1 y1.1 y1.2.1 y1.2.2.1 y1.2.2.2.1 y1.2.2.2.2)) fun y3 =>
  M.bind (M.det (roster_Roster_Join_o 3 1 y3.2.2.2.1 y3.2.2.2.2.1 y3.2.2.2.2.2.1 y3.2.2.2.2.2.2.1 y3.2.2.2.2.2.2.2)) fun y5 =>
  M.bind (M.det (roster_Roster_Join_o 3 2 y5.2.2.2.1 y5.2.2.2.2.1 y5.2.2.2.2.2.1 y5.2.2.2.2.2.2.1 y5.2.2.2.2.2.2.2)) fun y7 =>
  M.bind (cond (decide (y3.2.2.1 = 0))
    (cond (decide (y5.2.2.1 = 0))
      (cond (decide (y7.2.2.1 = 0))
        (cond (decide (y3.1.dev = 1))
          (cond (((decide (y5.1.dev = y3.1.dev) && (decide (y5.1.slot = y3.1.slot) && decide (y5.1.try_ = y3.1.try_)))))
            (cond (decide (y7.1.dev = 2))
              (cond (decide (y7.2.1 = 1))
                (M.bind (M.det (roster_Roster_Epoch_o y7.2.2.2.1 y7.2.2.2.2.1 y7.2.2.2.2.2.1 y7.2.2.2.2.2.2.1 y7.2.2.2.2.2.2.2)) fun y17 =>
                M.pure (decide (y17 = 3)))
                (M.pure false))
              (M.pure false))
            (M.pure false))
          (M.pure false))
        (M.pure false))
      (M.pure false))
    (M.pure false)) (fun v9 =>
  M.pure v9)

/-- (*epitaph/roster.Roster).Last -/
def roster_Roster_Last_o (epoch_1 : Int) (last_2 : Int) (c3 : A16) (nl4 : Bool) (m5 : List (Int × TMember)) : M Int :=
  M.bind (M.det (roster_Roster_none_o epoch_1 last_2 c3 nl4 m5)) fun y6 =>
  cond y6
    (M.pure 0)
    (M.pure last_2)

def r26_From_l0 (i76 : Int) (l3 : List TMember) (x78 : TMember) : Int → M (M.Step Int (M.Ex Unit (M.Step Int (M.Ex Unit Bool)))) := fun k105 =>
  cond (decide (k105 < i76))
    (M.bind (M.idx l3 k105) fun x107 =>
    cond (decide (x107.slot = x78.slot))
      (M.pure (.done ((.ret (.done (.ret false))))))
      (M.pure (.next (IntKind.i64.wrap (k105 + 1)))))
    (M.pure (.done (.brk ())))
def r26_From_l1 (l3 : List TMember) (last2 : Int) (tries4 : List Int) : Int → M (M.Step Int (M.Ex Unit Bool)) := fun i76 =>
  cond ((decide (i76 < (List.length l3 : Int))))
    (M.bind (M.bind (M.idx l3 i76) fun x78 =>
    M.bind (cond (decide (x78.dev = 0))
      (M.pure true)
      (cond (decide (last2 < x78.dev))
        (M.pure true)
        (cond (decide (0 < i76))
          (M.bind (M.idx l3 (IntKind.i64.wrap (i76 - 1))) fun x84 =>
          cond (decide (x78.dev ≤ x84.dev))
            (M.pure true)
            (cond (decide (16 ≤ x78.slot))
              (M.pure true)
              (cond (decide (x78.try_ = 0))
                (M.pure true)
                (M.bind (M.idx tries4 x78.slot) fun x89 =>
                M.pure (!decide (x89 = x78.try_))))))
          (cond (decide (16 ≤ x78.slot))
            (M.pure true)
            (cond (decide (x78.try_ = 0))
              (M.pure true)
              (M.bind (M.idx tries4 x78.slot) fun x93 =>
              M.pure (!decide (x93 = x78.try_)))))))) (fun v80 =>
    cond v80
      (M.pure (.ret (.done (.ret false))))
      (M.loop (r26_From_l0 i76 l3 x78) 0))) (M.exk (fun _ =>
    M.pure (.next (IntKind.i64.wrap (i76 + 1))))))
    (M.pure (.done (.brk ())))
/-- epitaph/epitaphref26.From -/
def r26_From (epoch1 : Int) (last2 : Int) (l3 : List TMember) (tries4 : List Int) : M Bool :=
  M.bind (cond (decide (epoch1 = 0))
    (M.pure true)
    (cond (decide (281474976710655 < epoch1))
      (M.pure true)
      (M.pure ((!decide ((List.length tries4 : Int) = 16)))))) (fun v5 =>
  cond v5
    (M.pure false)
    (M.bind (M.loop (r26_From_l1 l3 last2 tries4) 0) (M.exk (fun _ =>
    M.pure true))))

/-- slices.Clone[[]uint64,uint64] -/
def slices_Clone_sl_uint64_uint64 (s1 : List Int) : M (List Int) :=
  M.bind (M.isNil s1) fun b2 =>
  cond b2
    (M.pure ([] : List Int))
    (M.need ((List.length ([] : List Int) + List.length s1) * 8 ≤ 140737488355328) <|
    M.pure (([] : List Int) ++ s1))

def r26_Same_l0 (a1 : List TMember) (b2 : List TMember) : Int → M (M.Step Int (M.Ex Unit Bool)) := fun i17 =>
  cond ((decide (i17 < (List.length a1 : Int))))
    (M.bind (M.idx a1 i17) fun x19 =>
    M.bind (M.idx b2 i17) fun x21 =>
    cond ((!(decide (x19.dev = x21.dev) && (decide (x19.slot = x21.slot) && decide (x19.try_ = x21.try_)))))
      (M.pure (.done (.ret false)))
      (M.pure (.next (IntKind.i64.wrap (i17 + 1)))))
    (M.pure (.done (.brk ())))
/-- epitaph/epitaphref26.Same -/
def r26_Same (a1 : List TMember) (b2 : List TMember) : M Bool :=
  cond ((!decide ((List.length a1 : Int) = (List.length b2 : Int))))
    (M.pure false)
    (M.bind (M.loop (r26_Same_l0 a1 b2) 0) (M.exk (fun _ =>
    M.pure true)))

def roster_From_o_l0 (members3 : List TMember) (last2 : Int) (y9 : Int × Int × A16 × Bool × (List (Int × TMember))) (tries4 : List Int) (epoch1 : Int) : Int × (List (Int × TMember)) → M (M.Step (Int × (List (Int × TMember))) (M.Ex (List (Int × TMember)) (Unit ⊕ (Int × Int × A16 × Bool × (List (Int × TMember)))))) := fun ⟨v52, v53⟩ =>
  cond ((decide (v52 < (List.length members3 : Int))))
    (M.bind (M.idx members3 v52) fun x55 =>
    M.bind (cond (decide (x55.dev = 0))
      (M.pure true)
      (cond (decide (last2 < x55.dev))
        (M.pure true)
        (cond (decide (0 < v52))
          (M.bind (M.idx members3 (IntKind.i64.wrap (v52 - 1))) fun x61 =>
          M.pure (decide (x55.dev ≤ x61.dev)))
          (M.pure false)))) (fun v57 =>
    cond v57
      (M.pure (.done ((.ret (.inl ())))))
      (M.bind (cond (decide (16 ≤ x55.slot))
        (M.pure true)
        (cond (decide (x55.try_ = 0))
          (M.pure true)
          (M.need ((0 : Int) ≤ x55.slot ∧ x55.slot < ((16 : Nat) : Int)) <|
          M.pure ((!decide ((AR.get (AR.over y9.2.2.1 tries4) (Int.toNat x55.slot)) = x55.try_)))))) (fun v64 =>
      cond v64
        (M.pure (.done ((.ret (.inl ())))))
        (M.bind (M.det (roster_Roster_Of_o x55.slot epoch1 last2 (AR.over y9.2.2.1 tries4) y9.2.2.2.1 v53)) fun y69 =>
        cond y69.2
          (M.pure (.done ((.ret (.inl ())))))
          (M.need (y9.2.2.2.1 = false) <|
          M.pure (.next (((IntKind.i64.wrap (v52 + 1)), (AL.set v53 x55.dev x55))))))))))
    (M.pure (.done (.brk v53)))
/-- epitaph/roster.From -/
def roster_From_o (epoch1 : Int) (last2 : Int) (members3 : List TMember) (tries4 : List Int) : M (Unit ⊕ (Int × Int × A16 × Bool × (List (Int × TMember)))) :=
  M.bind (cond (decide (epoch1 = 0))
    (M.pure true)
    (cond (decide (281474976710655 < epoch1))
      (M.pure true)
      (M.pure ((!decide ((List.length tries4 : Int) = 16)))))) (fun v5 =>
  cond v5
    (M.pure (.inl ()))
    (M.bind (M.det (roster_New_o)) fun y9 =>
    M.bind (M.loop (roster_From_o_l0 members3 last2 y9 tries4 epoch1) (0, y9.2.2.2.2)) (M.exk (fun v11 =>
    M.pure (.inr (epoch1, last2, (AR.over y9.2.2.1 tries4), y9.2.2.2.1, v11))))))

/-- (*epitaph/roster.Roster).Tries -/
def roster_Roster_Tries_o (epoch_1 : Int) (last_2 : Int) (c3 : A16) (nl4 : Bool) (m5 : List (Int × TMember)) : M (List Int) :=
  M.bind (M.det (roster_Roster_none_o epoch_1 last_2 c3 nl4 m5)) fun y6 =>
  cond y6
    (M.pure ([] : List Int))
    (M.bind (M.det (slices_Clone_sl_uint64_uint64 (AR.l c3))) fun v9 =>
    M.pure v9)

def l26_Is_o_l0 (y7 : List Int) (x1 : R26Roster) : Int → M (M.Step Int (M.Ex Unit Int)) := fun i33 =>
  cond (decide (i33 < 16))
    (M.bind (M.idx y7 i33) fun x35 =>
    M.need ((0 : Int) ≤ i33 ∧ i33 < ((16 : Nat) : Int)) <|
    cond ((!decide (x35 = (AR.get x1.tries (Int.toNat i33)))))
      (M.pure (.done (.ret 0)))
      (M.pure (.next (IntKind.i64.wrap (i33 + 1)))))
    (M.pure (.done (.brk ())))
/-- epitaph/epitaphlaw26.Is -/
def l26_Is_o (x1 : R26Roster) (epoch_2 : Int) (last_3 : Int) (c4 : A16) (nl5 : Bool) (m6 : List (Int × TMember)) : M Int :=
  M.bind (M.det (roster_Roster_Tries_o epoch_2 last_3 c4 nl5 m6)) fun y7 =>
  M.bind (M.bind (M.det (roster_Roster_Epoch_o epoch_2 last_3 c4 nl5 m6)) fun y10 =>
  cond (!decide (y10 = x1.epoch))
    (M.pure true)
    (M.bind (M.det (roster_Roster_Last_o epoch_2 last_3 c4 nl5 m6)) fun y13 =>
    cond (!decide (y13 = x1.last))
      (M.pure true)
      (M.bind (M.det (roster_Roster_Members_o epoch_2 last_3 c4 nl5 m6)) fun y16 =>
      M.bind (M.det (r26_Same y16 x1.l)) fun v18 =>
      cond (!v18)
        (M.pure true)
        (M.pure ((!decide (((List.length y7) : Int) = 16))))))) (fun v9 =>
  cond v9
    (M.pure 0)
    (M.bind (M.loop (l26_Is_o_l0 y7 x1) 0) (M.exk (fun _ =>
    M.pure 1))))

def l26_RosterFrom_l0 (tries3 : List Int) : Int × A16 → M (M.Step (Int × A16) A16) := fun ⟨i33, ar34⟩ =>
  cond (decide (i33 < 16))
    (M.bind (M.idx tries3 i33) fun x36 =>
    M.need ((0 : Int) ≤ i33 ∧ i33 < ((16 : Nat) : Int)) <|
    M.pure (.next (((IntKind.i64.wrap (i33 + 1)), (AR.set ar34 (Int.toNat i33) x36)))))
    (M.pure (.done ar34))
def l26_RosterFrom_l1 (tries3 : List Int) : Int × A16 → M (M.Step (Int × A16) A16) := fun ⟨i57, ar58⟩ =>
  cond (decide (i57 < 16))
    (M.bind (M.idx tries3 i57) fun x60 =>
    M.need ((0 : Int) ≤ i57 ∧ i57 < ((16 : Nat) : Int)) <|
    M.pure (.next (((IntKind.i64.wrap (i57 + 1)), (AR.set ar58 (Int.toNat i57) x60)))))
    (M.pure (.done ar58))
/-- epitaph/epitaphlaw26.RosterFrom -/
def l26_RosterFrom (head1 : Int × Int) (members2 : List TMember) (tries3 : List Int) : M Bool :=
  M.bind (cond ((decide (40 < (List.length members2 : Int))))
    (M.pure true)
    (M.pure ((decide (40 < (List.length tries3 : Int)))))) (fun v4 =>
  cond v4
    (M.bind (M.det (l26_works)) fun v7 =>
    M.pure v7)
    (M.bind (M.det (roster_From_o (IntKind.u64.wrap head1.1) head1.2 members2 tries3)) fun y11 =>
    M.sum y11 (fun z13 =>
      M.bind (M.det (r26_From (IntKind.u64.wrap head1.1) head1.2 members2 tries3)) fun v16 =>
      cond (!v16)
        (M.bind (M.det (l26_works)) fun v19 =>
        M.pure v19)
        (M.bind (M.loop (l26_RosterFrom_l0 tries3) (0, (0, 0, 0, 0, 0, 0, 0, 0, 0, 0, 0, 0, 0, 0, 0, 0))) (fun ar23 =>
        M.pure false))) (fun z39 =>
      M.bind (M.det (r26_From (IntKind.u64.wrap head1.1) head1.2 members2 tries3)) fun v42 =>
      cond (!v42)
        (M.pure false)
        (M.bind (M.loop (l26_RosterFrom_l1 tries3) (0, (0, 0, 0, 0, 0, 0, 0, 0, 0, 0, 0, 0, 0, 0, 0, 0))) (fun ar47 =>
        M.bind (M.bind (M.det (l26_Is_o (⟨(IntKind.u64.wrap head1.1), head1.2, members2, ar47⟩ : R26Roster) z39.1 z39.2.1 z39.2.2.1 z39.2.2.2.1 z39.2.2.2.2)) fun y64 =>
        cond (decide (y64 = 1))
          (M.bind (M.det (l26_works)) fun v67 =>
          M.pure v67)
          (M.pure false)) (fun v63 =>
        M.pure v63))))))

end Go.Ep

namespace Go.Proofs
open Go.Shelf
def Try.pdq33_ren : Go.Shelf.Ren := ⟨fun | 14 => 33 | 20 => 36 | 21 => 37 | 22 => 38 | 23 => 39 | 24 => 40 | 25 => 41 | 26 => 42 | 27 => 43 | 46 => 46 | 47 => 47 | 48 => 48 | 49 => 49 | 50 => 50 | 15 => 34 | 57 => 51 | 28 => 44 | 29 => 45 | n => n, fun | 24 => 35 | 22 => 32 | 3 => 3 | 25 => 72 | 4 => 4 | 0 => 0 | 46 => 82 | 45 => 81 | 50 => 86 | 66 => 91 | 39 => 78 | 55 => 28 | 70 => 94 | 76 => 96 | 77 => 97 | 53 => 89 | 5 => 5 | 9 => 9 | n => n, fun | n => n⟩
theorem Try.pdq33 : Go.Proofs.SlLaysF0.n14 Try.prog Try.pdq33_ren := {
  mixed := by kernel_rfl
  f14 := ⟨Try.f33.name, by decide, Try.func33.trans (congrArg some (by kernel_rfl))⟩
  f15 := Try.func34.trans (congrArg some (by kernel_rfl))
  f20 := ⟨Try.f36.name, by decide, Try.func36.trans (congrArg some (by kernel_rfl))⟩
  f21 := ⟨Try.f37.name, by decide, Try.func37.trans (congrArg some (by kernel_rfl))⟩
  f22 := ⟨Try.f38.name, by decide, Try.func38.trans (congrArg some (by kernel_rfl))⟩
  f23 := ⟨Try.f39.name, by decide, Try.func39.trans (congrArg some (by kernel_rfl))⟩
  f24 := ⟨Try.f40.name, by decide, Try.func40.trans (congrArg some (by kernel_rfl))⟩
  f25 := ⟨Try.f41.name, by decide, Try.func41.trans (congrArg some (by kernel_rfl))⟩
  f26 := ⟨Try.f42.name, by decide, Try.func42.trans (congrArg some (by kernel_rfl))⟩
  f27 := ⟨Try.f43.name, by decide, Try.func43.trans (congrArg some (by kernel_rfl))⟩
  f28 := Try.func44.trans (congrArg some (by kernel_rfl))
  f29 := Try.func45.trans (congrArg some (by kernel_rfl))
  f46 := ⟨Try.f46.name, by decide, Try.func46.trans (congrArg some (by kernel_rfl))⟩
  f47 := Try.func47.trans (congrArg some (by kernel_rfl))
  f48 := Try.func48.trans (congrArg some (by kernel_rfl))
  f49 := ⟨Try.f49.name, by decide, Try.func49.trans (congrArg some (by kernel_rfl))⟩
  f50 := ⟨Try.f50.name, by decide, Try.func50.trans (congrArg some (by kernel_rfl))⟩
  f57 := ⟨Try.f51.name, by decide, Try.func51.trans (congrArg some (by kernel_rfl))⟩
  t0 := Try.underlying0
  a0 := Try.isAgg0
  z0 := Try.sizeOf0
  v0 := Try.zeroValue0
  t3 := Try.underlying3
  a3 := Try.isAgg3
  z3 := Try.sizeOf3
  v3 := Try.zeroValue3
  t4 := Try.underlying4
  a4 := Try.isAgg4
  z4 := Try.sizeOf4
  v4 := Try.zeroValue4
  t5 := Try.underlying5
  a5 := Try.isAgg5
  z5 := Try.sizeOf5
  v5 := Try.zeroValue5
  t9 := Try.underlying9
  a9 := Try.isAgg9
  z9 := Try.sizeOf9
  v9 := Try.zeroValue9
  t22 := Try.underlying32
  a22 := Try.isAgg32
  z22 := Try.sizeOf32
  v22 := Try.zeroValue32
  t25 := Try.underlying72
  a25 := Try.isAgg72
  z25 := Try.sizeOf72
  v25 := Try.zeroValue72
  t39 := Try.underlying78
  a39 := Try.isAgg78
  z39 := Try.sizeOf78
  v39 := Try.zeroValue78
  t45 := Try.underlying81
  a45 := Try.isAgg81
  z45 := Try.sizeOf81
  v45 := Try.zeroValue81
  t46 := Try.underlying82
  a46 := Try.isAgg82
  z46 := Try.sizeOf82
  v46 := Try.zeroValue82
  t50 := Try.underlying86
  a50 := Try.isAgg86
  z50 := Try.sizeOf86
  v50 := Try.zeroValue86
  t53 := Try.underlying89
  a53 := Try.isAgg89
  z53 := Try.sizeOf89
  v53 := Try.zeroValue89
  t55 := Try.underlying28
  a55 := Try.isAgg28
  z55 := Try.sizeOf28
  v55 := Try.zeroValue28
  t66 := Try.underlying91
  a66 := Try.isAgg91
  z66 := Try.sizeOf91
  v66 := Try.zeroValue91
  t70 := Try.underlying94
  a70 := Try.isAgg94
  z70 := Try.sizeOf94
  v70 := Try.zeroValue94
  t76 := Try.underlying96
  a76 := Try.isAgg96
  z76 := Try.sizeOf96
  v76 := Try.zeroValue96
  t77 := Try.underlying97
  a77 := Try.isAgg97
  z77 := Try.sizeOf97
  v77 := Try.zeroValue97 }
def Try.bits34_ren : Go.Shelf.Ren := ⟨fun | 15 => 34 | 28 => 44 | 29 => 45 | n => n, fun | 39 => 78 | 3 => 3 | 53 => 89 | 55 => 28 | 4 => 4 | 5 => 5 | 9 => 9 | n => n, fun | n => n⟩
theorem Try.bits34 : Go.Proofs.SlLaysF0.n15 Try.prog Try.bits34_ren := {
  mixed := by kernel_rfl
  f15 := Try.func34.trans (congrArg some (by kernel_rfl))
  f28 := Try.func44.trans (congrArg some (by kernel_rfl))
  f29 := Try.func45.trans (congrArg some (by kernel_rfl))
  t3 := Try.underlying3
  a3 := Try.isAgg3
  z3 := Try.sizeOf3
  v3 := Try.zeroValue3
  t4 := Try.underlying4
  a4 := Try.isAgg4
  z4 := Try.sizeOf4
  v4 := Try.zeroValue4
  t5 := Try.underlying5
  a5 := Try.isAgg5
  z5 := Try.sizeOf5
  v5 := Try.zeroValue5
  t9 := Try.underlying9
  a9 := Try.isAgg9
  z9 := Try.sizeOf9
  v9 := Try.zeroValue9
  t39 := Try.underlying78
  a39 := Try.isAgg78
  z39 := Try.sizeOf78
  v39 := Try.zeroValue78
  t53 := Try.underlying89
  a53 := Try.isAgg89
  z53 := Try.sizeOf89
  v53 := Try.zeroValue89
  t55 := Try.underlying28
  a55 := Try.isAgg28
  z55 := Try.sizeOf28
  v55 := Try.zeroValue28 }
end Go.Proofs

namespace Go.Ep
open Go.Shelf Go.RowKit Go.Lib Go.Sort Go.Proofs

theorem SortLaw.of {α : Type} [Inhabited α] {P : Program} {f g : FuncId} {k : Nat} {enc : α → List Value} {lt : α → α → Bool} {cf : α → α → Int} (hO : SWO (ltOf cf)) (hlt : ∀ x y, ltOf cf x y = lt x y) (hk : ∀ x, (enc x).length = k)
    (hnil : ∀ w : World, Calls P f #[.slice none 0 0, .func (.func g) #[] #[]] w fun e w' => e = .returned (.tuple #[]) ∧ Go.RowKit.Below w.heap.size w w')
    (hrow : ∀ (blk off cap : Nat) (d : Array α) (w : World), HoldsK enc k w blk off d → blk < w.heap.size → d.size < 4611686018427387904 →
      Calls P f #[.slice (some ⟨blk, off, none⟩) d.size cap, .func (.func g) #[] #[]] w fun e w' => e = .returned (.tuple #[]) ∧ ∃ n os, w' = sortWorldK enc k w blk off n (pdq (ltOf cf) d 0 d.size (Lib.bitLen d.size) true true) os) : SortLaw P f g k enc lt := by
  refine ⟨hnil, fun w blk cap l T cur hh hlc hcs hlen hcells => ?_⟩
  have hblk : blk < w.heap.size := (Array.getElem?_eq_some_iff.1 hh).1
  have hH : HoldsK enc k w blk 0 l.toArray := by
    intro j hj
    rw [size_flatK] at hj
    have hj' : j < l.length * k := by simpa using hj
    obtain ⟨hk0, h1, h2, h3⟩ := idx_split hj'
    constructor
    · rw [Nat.zero_add, cell_of_heap hh]
      show _ = some ((flatK enc k l.toArray)[j]!)
      rw [get_flatK _ _ _ _ hj]
      have hx : l[j / k]? = some l[j / k] := List.getElem?_eq_getElem h1
      have hlk : (enc l[j / k]).length = k := hk _
      have hu : (enc l[j / k])[j % k]? = some ((enc l[j / k])[j % k]'(by omega)) := List.getElem?_eq_getElem (by omega)
      have := hcells (j / k) _ (j % k) _ hx hu
      rw [h3] at this
      rw [this]
      have e1 : (l.toArray)[j / k]! = l[j / k] := by simp [h1]
      rw [e1]
      simp [hu]
    · simp [World.frozen?, hh]
  have hd : l.toArray.size = l.length := by simp
  have hcall := hrow blk 0 cap l.toArray w hH hblk (by simpa using hlen)
  rw [hd] at hcall
  refine hcall.mono fun e w' ⟨he, n, os, hw⟩ => ⟨he, ?_⟩
  have hp := pdq_sorts (ltOf cf) hO l.toArray 0 l.toArray.size (Lib.bitLen l.toArray.size) true true (Nat.zero_le _) (Nat.le_refl _) (Or.inl rfl)
  rw [hd] at hp
  generalize pdq (ltOf cf) l.toArray 0 l.length (Lib.bitLen l.length) true true = d' at hp hw
  obtain ⟨⟨hsz, _, hperm⟩, hsort⟩ := hp
  have hsz' : d'.size = l.length := by simpa using hsz
  have hp' : d'.toList.Perm l := by
    have e1 : (d'.extract 0 l.length).toList = d'.toList := by rw [← hsz']; simp
    have e2 : (l.toArray.extract 0 l.length).toList = l := by simp
    rw [e1, e2] at hperm
    exact hperm
  have hmod : ∀ b, b < w.heap.size → (sortWorldK enc k w blk 0 n d' os).heap[b]? = if blk = b then (w.heap[b]?).map (onCells (putCells id 0 (flatK enc k d'))) else w.heap[b]? := by
    intro b hb
    have hb2 : b < (putRowK enc k (Sort.ahead w n) blk 0 d').heap.size := by simpa [putRowK, Sort.ahead] using hb
    show (grow (putRowK enc k (Sort.ahead w n) blk 0 d') os).heap[b]? = _
    rw [Sort.heap_grow_old _ _ hb2]
    show ((w.heap.modify blk (onCells (putCells id 0 (flatK enc k d')))))[b]? = _
    rw [Array.getElem?_modify]
  subst hw
  refine ⟨d'.toList, (putCells id 0 (flatK enc k d') cur.toArray).toList, hp', ?_, ?_, ?_, ?_, rfl, rfl, rfl, ?_, ?_⟩
  · rw [List.pairwise_iff_getElem]
    intro i j hi hj hij
    have := hsort i j (Nat.zero_le _) hij (by simpa [hsz'] using hj)
    rw [hlt] at this
    have hi' : i < d'.size := by simpa using hi
    have hj' : j < d'.size := by simpa using hj
    simpa [hi', hj'] using this
  · rw [hmod blk hblk, if_pos rfl, hh]
    simp [onCells]
  · simp [putCells]
  · intro i x j u hi hu
    have hi' : i < l.length := by rw [← hsz']; have := (List.getElem?_eq_some_iff.1 hi).1; simpa using this
    have hj : j < k := by rw [← hk x]; exact (List.getElem?_eq_some_iff.1 hu).1
    have hlt2 : i * k + j < l.length * k := idx_lt hi' hj
    have hcl : l.length * k ≤ cur.length := by rw [hcs]; exact Nat.mul_le_mul_right k hlc
    have hin : i * k + j < d'.size * k := by rw [hsz']; exact hlt2
    have hget : (flatK enc k d')[i * k + j]! = u := by
      rw [get_flatK _ _ _ _ hin]
      have hk0 : 0 < k := by omega
      have e1 : (i * k + j) / k = i := by rw [Nat.mul_comm, Nat.mul_add_div hk0, Nat.div_eq_of_lt hj]; omega
      have e2 : (i * k + j) % k = j := by rw [Nat.mul_comm, Nat.mul_add_mod, Nat.mod_eq_of_lt hj]
      rw [e1, e2]
      have e3 : d'[i]! = x := by
        obtain ⟨h1, h2⟩ := List.getElem?_eq_some_iff.1 hi
        have h1' : i < d'.size := by simpa using h1
        rw [getElem!_pos d' i h1']
        simpa using h2
      rw [e3]
      simp [hu]
    have hc2 : i * k + j < cur.length := by omega
    simp only [putCells, Array.toList_mapIdx, List.getElem?_mapIdx]
    rw [List.getElem?_eq_getElem hc2]
    simp only [Option.map_some, id]
    rw [if_pos ⟨Nat.zero_le _, by rw [size_flatK]; omega⟩, Nat.sub_zero, hget]
  · show w.heap.size ≤ (grow (putRowK enc k (Sort.ahead w n) blk 0 d') os).heap.size
    simp [grow, putRowK, Sort.ahead]
  · intro b hb hne
    rw [hmod b hb, if_neg (Ne.symm hne)]
end Go.Ep

namespace Go.Proofs
set_option linter.unusedSimpArgs false
set_option linter.unusedVariables false
open Go.Shelf Go.RowKit Go.Lib Go.Sort Go.Ep
theorem nanu16 (a : Int) (W : World) : Calls Try.prog 35 #[.int .u16 a] W fun e w' => e = .returned (.bool false) ∧ w' = W := by
  go_enter Try.func35, Try.ntmps35
  go_wp2
  go_ret
  exact ⟨by simp, rfl⟩
theorem cmpu16 (a b : Int) (W : World) : Calls Try.prog 29 #[.int .u16 a, .int .u16 b] W fun e w' => e = .returned (.int .i64 (Lib.compareInt a b)) ∧ w' = W := by
  unfold Lib.compareInt
  by_cases h1 : a < b
  · go_enter Try.func29, Try.ntmps29
    go_wp2_with (go_at_call 35; refine (nanu16 _ _).mono ?_; rintro e w' ⟨rfl, rfl⟩)
    go_ret
    exact ⟨by simp [h1], rfl⟩
  · by_cases h2 : b < a
    · go_enter Try.func29, Try.ntmps29
      go_wp2_with (go_at_call 35; refine (nanu16 _ _).mono ?_; rintro e w' ⟨rfl, rfl⟩)
      go_ret
      exact ⟨by simp [h1, h2], rfl⟩
    · go_enter Try.func29, Try.ntmps29
      go_wp2_with (go_at_call 35; refine (nanu16 _ _).mono ?_; rintro e w' ⟨rfl, rfl⟩)
      go_ret
      exact ⟨by simp [h1, h2], rfl⟩
def cf27 (x y : TMember) : Int := Lib.compareInt x.dev y.dev
theorem callcf27 (x y : TMember) (W : World) : Calls Try.prog 28 #[.agg #[.int .u16 x.dev, .int .u8 x.slot, .int .u64 x.try_], .agg #[.int .u16 y.dev, .int .u8 y.slot, .int .u64 y.try_]] W fun e w' => e = .returned (.int .i64 (cf27 x y)) ∧ ∃ q os', w' = grow (W.drewN q) os' := by
  have c1 := fun W' => cmpu16 x.dev y.dev W'
  unfold cf27
  generalize Lib.compareInt x.dev y.dev = r1 at c1 ⊢
  go_enter Try.func28, Try.ntmps28
  go_wp2_with (go_at_call 29; refine (c1 _).mono ?_; rintro e w' ⟨rfl, rfl⟩)
  go_ret
  exact ⟨rfl, 0, _, by rw [alloc_eq_grow, alloc_eq_grow, grow_grow]; rfl⟩
theorem ltcf27 (x y : TMember) : ltOf cf27 x y = ltMember x y := by
  unfold ltOf cf27 Lib.compareInt ltMember
  rw [Bool.eq_iff_iff]
  simp only [decide_eq_true_eq, Bool.or_eq_true, Bool.and_eq_true]
  split <;> (repeat' split) <;> omega
theorem swocf27 : SWO (ltOf cf27) where
  irrefl x := by rw [ltcf27]; simp [ltMember]
  trans x y z h1 h2 := by rw [ltcf27] at *; simp [ltMember] at *; omega
  ntrans x y z h1 h2 := by rw [ltcf27] at *; simp [ltMember] at *; omega
instance inhcf27 : Inhabited TMember := ⟨⟨0, 0, 0⟩⟩
theorem layscf27 (blk off size : Nat) (w : World) : CmpLays Try.prog 28 #[] TMember.v 3 cf27 blk off size w := fun _ _ _ _ x y => callcf27 x y _
set_option maxHeartbeats 2000000 in
set_option maxRecDepth 100000 in
theorem sort27_eq (blk off cap : Nat) (d : Array TMember) (w : World) (hH : HoldsK TMember.v 3 w blk off d) (hblk : blk < w.heap.size) (hsz : d.size < 4611686018427387904) :
    Calls Try.prog 27 #[.slice (some ⟨blk, off, none⟩) d.size cap, .func (.func 28) #[] #[]] w fun e w' => e = .returned (.tuple #[]) ∧ ∃ n os, w' = sortWorldK TMember.v 3 w blk off n (pdq (ltOf cf27) d 0 d.size (Lib.bitLen d.size) true true) os := by
  have eg : ∀ args w, (callFunc 28 args).run Try.prog w = .ok (.enter 28 args) w := Try.call28
  have e14 := Try.call33
  have e15 := Try.call34
  have hlim : Lib.bitLen d.size < 4611686018427387904 := Nat.lt_of_le_of_lt (Lib.bitLen_le d.size 62 (by omega) (by omega)) (by omega)
  have hp := AnyQ.pdqsortCmpFunc_all Try.pdq33 3 Try.isAgg35 Try.sizeOf35 TMember.v cf27 28 #[] swocf27 blk off cap d w eg (layscf27 blk off d.size w) ⟨fun _ => rfl, TMember.v1, hH, hblk⟩ (d.size + 1) 0 d.size (Lib.bitLen d.size) d w (by omega) rfl (SWK.start hH) (Nat.zero_le _) (Nat.le_refl _) hsz hlim (Or.inl rfl)
  change Calls Try.prog 33 _ _ _ at hp
  have hl : Calls Try.prog 34 #[.int .u64 (d.size : Int)] w fun e w' => e = .returned (.int .i64 (Lib.bitLen d.size : Nat)) ∧ w' = w := by
    have h := Any.bits_Len (SlLaysF0.n15.bits Try.bits34) (d.size : Int) w (by omega) (by omega)
    rwa [Int.toNat_natCast] at h
  have wr : IntKind.u64.wrap (d.size : Int) = d.size := by simp [IntKind.wrap, IntKind.bits, IntKind.signed]; omega
  clear hH
  go_enter Try.func27, Try.ntmps27
  go_wp2_with (first | (go_at_call 34; refine hl.mono ?_; rintro e w' ⟨rfl, rfl⟩) | (go_at_call 33; refine hp.mono ?_; rintro e w' ⟨rfl, n, os, rfl⟩))
  go_end0
  exact ⟨rfl, n, os, rfl⟩
theorem sort27_nil (w : World) : Calls Try.prog 27 #[.slice none 0 0, .func (.func 28) #[] #[]] w fun e w' => e = .returned (.tuple #[]) ∧ Go.RowKit.Below w.heap.size w w' := by
  have e14 := Try.call33
  have e15 := Try.call34
  have hp := fun lim W => AnyF.pdqsortCmpFunc_none Try.pdq33 none 0 lim (.func (.func 28) #[] #[]) W
  have hl : ∀ W, Calls Try.prog 34 #[.int .u64 0] W fun e w' => e = .returned (.int .i64 (Lib.bitLen 0 : Nat)) ∧ w' = W := fun W => by
    have h := Any.bits_Len (SlLaysF0.n15.bits Try.bits34) 0 W (by omega) (by omega)
    exact h
  go_enter Try.func27, Try.ntmps27
  go_wp2_with (first | (go_at_call 34; refine (hl _).mono ?_; rintro e w' ⟨rfl, rfl⟩) | (go_at_call 33; refine (hp _ _).mono ?_; rintro e w' ⟨rfl, rfl⟩))
  go_end0
  exact ⟨rfl, Go.RowKit.Below.refl _ _⟩
theorem srt27_28 : SortLaw Try.prog 27 28 3 TMember.v ltMember := SortLaw.of swocf27 ltcf27 (fun _ => rfl) sort27_nil (fun blk off cap d w hH hblk hsz => sort27_eq blk off cap d w hH hblk hsz)
end Go.Proofs

namespace Go.Ep
open Go.RowKit
section
variable {P : Program} {ctx : Ctx} {s : PState}
variable {dst : Option Tmp} {ty : TypeId} {pos : String} {after : Array Edge} {gd : Option (Nat × Bool)}
/-- A struct built, what is left out as it lies. -/
theorem LR.buildR {t : TypeId} {places : List (Nat × Nat)} {zs : List Value} {parts : Array (Nat × Operand)} {ps : List (Nat × PV)} {ns : List PV} (hB : BuildOK P t places zs) (hz1 : (zs.all Value.oneCell') = true) (hps : s.evp parts.toList = some ps) (hns : pfill places (zs.map fun z => PV.d (.v z)) ps = some ns) :
    Local P ctx ⟨dst, .build t parts, ty, pos, after, gd⟩ s (s.putD dst (.agg ns)) :=
  local_pure (o := ⟨dst, .build t parts, ty, pos, after, gd⟩) fun a w g hg => by
    have hz1' : ∀ u ∈ zs, u.oneCell' = true := by simpa using hz1
    obtain ⟨vs, h1, h2, h3, h4⟩ := fill_rd (w := w) (g := g) (S := Free ctx g s.objs) ps (parts.toList.map fun x => (x.1, a.eval x.2)) (zs.map fun z => PV.d (.v z)) zs ns (by simpa using evp_len hps) (by
      intro j p r hp hr
      rw [List.getElem?_map] at hr
      cases hx : parts.toList[j]? with
      | none => simp [hx] at hr
      | some x =>
        simp [hx] at hr
        subst hr
        obtain ⟨e1, e2⟩ := evp_get hps hp hx
        exact ⟨e1, hg.ev e2⟩) (by simp) (by
      intro i p u hp hu
      simp [hu] at hp
      subst hp
      exact .d (.v u (hz1' u (List.mem_of_getElem? hu)))) hz1' hns
    refine ⟨.agg vs.toArray, ?_, .agg ns vs h2 h3 h4⟩
    have hb : P.built t (parts.map fun (i, x) => (i, a.eval x)).toList = some vs.toArray := by
      rw [hB]; simpa using h1
    have hrun := run_build w t (parts.map fun (i, x) => (i, a.eval x)) vs.toArray hb
    simp only [execOp, Sem.run_bind, hrun, Result.andThen_ok, Sem.run_pure]
end
section
variable {P : Program} {ctx : Ctx} {ops : Array Oper} {Q : PState → Prop} {s : PState}
variable {dst : Option Tmp} {ty : TypeId} {pos : String} {after : Array Edge} {gd : Option (Nat × Bool)}
variable {α : Type} {enc : α → List DV} {L R : List α} {x y : Operand} {id oid m k bs' j : Nat} {t t' e e' T : TypeId} {cs : List PV}
end
end Go.Ep
namespace Go.Ep
/-- An end whose results lie in variables of the call's own. -/
theorem EndsO.mkX {G : Type} {P : Program} {ctx : Ctx} {fn : Func} {pl ex : List (Nat × Ob)} {r : PV} {os' : G → List (Nat × Ob)} {e : Exit} {s : PState} (gh : G) {n : Nat} {sl : List (Nat × PV)} {ps : List PV} (he : e = .normal ∨ e = .ret) (hsub : Sub ctx s ⟨n, sl, (os' gh ++ pl) ++ ex⟩)
    (hres : ResLO P ⟨n, sl, (os' gh ++ pl) ++ ex⟩ fn.results.toList ps) (hq : tupOf ps = r) (hd : (pl.all fun x => !inL ((os' gh).map (·.1)) x.1) = true) : EndsO P ctx fn pl r os' e s := by
  refine ⟨he, gh, ps, _, hsub, hres, hq, fun id o h => look_left (look_left h), fun id o h => look_left ?_⟩
  rw [look_append]
  cases hl : look (os' gh) id with
  | none => rw [Option.none_or]; exact h
  | some q =>
    have h1 := List.all_eq_true.1 hd _ (look_mem h)
    have h2 := inL_iff.2 (look_key hl)
    rw [h2] at h1; cases h1
end Go.Ep

namespace Go.Ep
open Go.RowKit

/-- A row that an entry names. -/
def RowAt (w : World) (e : TypeId) (k : Nat) (l : List (List DV)) : Option (Nat × Nat) → Value → Prop
  | none, v => l = [] ∧ v = .slice none 0 0
  | some (b, cap), v => v = .slice (some ⟨b, 0, none⟩) l.length cap ∧ ∃ cur : List Value, w.heap[b]? = some (.cells cur.toArray e (0, 0)) ∧ l.length ≤ cap ∧ cap ≤ maxLen ∧ cur.length = cap * k ∧ (∀ (i : Nat) (cs : List DV), l[i]? = some cs → cs.length = k) ∧
      ∀ (i : Nat) (cs : List DV) (j : Nat) (x : DV), l[i]? = some cs → cs[j]? = some x → ∃ u, cur[i * k + j]? = some u ∧ x = .v u ∧ u.oneCell' = true
def PlainL (l : List (List DV)) : Prop := ∀ cs ∈ l, ∀ x ∈ cs, ∃ u, x = DV.v u
abbrev RowsM := List (List Int × List (List DV))
def rowsM (R : RowsM) : Mp := R.map fun p => (p.1, [DV.sl p.2])
/-- The blocks for data, beside the rows. -/
def Dt (ctx : Ctx) (mb : Nat) (blk : Nat → Option (Nat × Nat)) (b : Nat) : Prop := (ctx.S b ∨ ctx.w0.heap.size ≤ b) ∧ b ≠ mb ∧ ∀ i c, blk i ≠ some (b, c)

structure RelT (ctx : Ctx) (ks : List IntKind) (e : TypeId) (k mid n : Nat) (sl : List (Nat × PV)) (R : RowsM) (a : Act) (w : World) (g : Ghost) (mb : Nat) (blk : Nat → Option (Nat × Nat)) (es : Array MapEntry) (ck : Nat) : Prop where
  defers : a.defers = []
  size : a.tmps.size = n
  slots : ∀ i p, (PState.mk n sl []).at i = some p → Rd w g (Dt ctx mb blk) p (a.tmps.getD i undef)
  gm : ∃ q, g mid = some (mb, q)
  lt : mb < w.heap.size ∧ (ctx.w0.heap.size ≤ mb ∨ ctx.K mb)
  hh : w.heap[mb]? = some (.map es ck)
  sz : es.size = R.length
  below : ∀ b ∈ es.toList.map (·.born), b < ck
  nodup : (es.toList.map (·.born)).Nodup
  ent : ∀ (i : Nat) (ns : List Int) (l : List (List DV)), R[i]? = some (ns, l) → ∃ x, es[i]? = some x ∧ x.key = keyV ks ns ∧ ns.length = ks.length ∧ RowAt w e k l (blk i) x.val
  inj : ∀ i j b c c', blk i = some (b, c) → blk j = some (b, c') → i = j
  own : ∀ i b c, blk i = some (b, c) → b < w.heap.size ∧ (ctx.w0.heap.size ≤ b ∨ ctx.K b) ∧ b ≠ mb
  out : ∀ i, R.length ≤ i → blk i = none
  os : w.os = ctx.w0.os
  tape : w.tape = ctx.w0.tape
  output : w.output = ctx.w0.output
  grows : ctx.w0.heap.size ≤ w.heap.size
  keep : ∀ q, q < ctx.w0.heap.size → ¬ ctx.K q → w.heap[q]? = ctx.w0.heap[q]?

theorem at_mem {n : Nat} {sl : List (Nat × PV)} {o : List (Nat × Ob)} {i : Nat} {p : PV} (h : (PState.mk n sl o).at i = some p) : (i, p) ∈ sl := getS_mem (at_get h)

theorem rd_row {w : World} {g : Ghost} {S : Nat → Prop} {id n : Nat} {u : Value} (h : Rd w g S (.row id n) u) : (∃ b c, g id = some (b, c) ∧ u = .slice (some ⟨b, 0, none⟩) n c) ∨ (g id = none ∧ n = 0 ∧ u = .slice none 0 0) := by
  cases h with
  | row _ _ b c h => exact .inl ⟨b, c, h, rfl⟩
  | rowNil _ h => exact .inr ⟨h, rfl, rfl⟩
section
variable {ctx : Ctx} {ks : List IntKind} {e : TypeId} {k mid n : Nat} {sl : List (Nat × PV)} {a : Act} {w : World} {g : Ghost}
theorem RelT.start {bs0 : List Nat} {ck0 : Nat} (h : RelG ctx g ⟨n, sl, [(mid, .map ks false [] bs0 ck0)]⟩ a w) : ∃ mb es ck, RelT ctx ks e k mid n sl [] a w g mb (fun _ => none) es ck := by
  have hl : look [(mid, Ob.map ks false [] bs0 ck0)] mid = some (.map ks false [] bs0 ck0) := by simp [look]
  cases h.objs mid _ hl with
  | map _ _ _ _ _ blk q es hg hh hm =>
    refine ⟨blk, es, ck0, h.defers, h.size, fun i p hp => ?_, ⟨q, hg⟩, h.own mid _ blk q hl hg, hh, hm.size, by rw [← hm.stamps]; exact hm.below, by rw [← hm.stamps]; exact hm.nodup, (fun i ns l hi => by simp at hi), (fun i j b c c' hi => by cases hi), (fun i b c hi => by cases hi), fun _ _ => rfl, h.os, h.tape, h.output, h.grows, h.keep⟩
    refine (h.slots i p hp).keep ⟨Nat.le_refl _, fun _ _ _ => rfl⟩ (fun b hb _ => ⟨hb.1, fun eb => ?_, fun i c hc => by cases hc⟩) (fun _ _ => rfl)
    subst eb
    exact hb.2 mid _ q hl hg
theorem cell_cur {b : Nat} {cur : List Value} (hh : w.heap[b]? = some (.cells cur.toArray e (0, 0))) (o : Nat) : w.cell? ⟨b, o, none⟩ = cur[o]? := cell_of_heap hh o
theorem RelT.done {R : RowsM} {mb : Nat} {blk : Nat → Option (Nat × Nat)} {es : Array MapEntry} {ck : Nat} (hK : ∀ b, ctx.K b → ctx.S b) (h : RelT ctx ks e k mid n sl R a w g mb blk es ck) : RelG ctx g ⟨n, sl, [(mid, .map ks false (rowsM R) (es.toList.map (·.born)) ck)]⟩ a w := by
  obtain ⟨q, hg⟩ := h.gm
  have hlk : ∀ id o, look [(mid, Ob.map ks false (rowsM R) (es.toList.map (·.born)) ck)] id = some o → id = mid := fun id o ho => by
    simp only [look] at ho
    split at ho
    · assumption
    · cases ho
  have hfree : ∀ b, (ctx.S b ∨ ctx.w0.heap.size ≤ b) → b ≠ mb → Free ctx g [(mid, Ob.map ks false (rowsM R) (es.toList.map (·.born)) ck)] b := fun b h1 h2 => ⟨h1, fun id o m ho hgi => by
    rw [hlk id o ho, hg] at hgi; cases hgi; exact h2 rfl⟩
  refine ⟨h.defers, h.size, fun i p hp => ?_, fun id o ho => ?_, fun i j oi oj b m m' hi hj _ _ => by rw [hlk i oi hi, hlk j oj hj], fun id o b m ho hgi => ?_, h.os, h.tape, h.output, h.grows, h.keep⟩
  · exact (h.slots i p hp).keep ⟨Nat.le_refl _, fun _ _ _ => rfl⟩ (fun b hb _ => hfree b hb.1 hb.2.1) (fun _ _ => rfl)
  · have hid := hlk id o ho
    subst hid
    simp only [look, if_true] at ho
    cases ho
    refine .map ks false _ _ ck mb q es hg h.hh ⟨by simp [rowsM, h.sz], rfl, h.below, h.nodup, fun i ns cs hi => ?_⟩
    unfold rowsM at hi
    rw [List.getElem?_map] at hi
    cases hR : R[i]? with
    | none => rw [hR] at hi; cases hi
    | some r =>
      obtain ⟨ns', l⟩ := r
      rw [hR] at hi
      simp only [Option.map_some, Option.some.injEq, Prod.mk.injEq] at hi
      obtain ⟨rfl, rfl⟩ := hi
      obtain ⟨x, h1, h2, h3, h4⟩ := h.ent i _ l hR
      have hd : DRd w (Free ctx g [(id, Ob.map ks false (rowsM R) (es.toList.map (·.born)) ck)]) (.sl l) x.val := by
        cases hb : blk i with
        | none =>
          rw [hb] at h4
          obtain ⟨rfl, hv⟩ := h4
          rw [hv]
          exact .nil none 0 (Nat.zero_le _) (fun _ => rfl)
        | some bc =>
          obtain ⟨b, cap⟩ := bc
          rw [hb] at h4
          obtain ⟨hv, cur, hc, hlc, hcap, hcl, hkk, hr⟩ := h4
          rw [hv]
          obtain ⟨o1, o2, o3⟩ := h.own i b cap hb
          refine .sl l b 0 cap k (fun i j => cur.getD (i * k + j) undef) hlc hcap (hfree b (o2.elim .inr fun q => .inl (hK b q)) o3) o1 hkk (fun i' j' hi' hj' => ?_) fun i' cs j' x' hi' hx' => ?_
          · rw [cell_cur hc, Nat.zero_add]
            have : i' * k + j' < cur.length := by rw [hcl]; exact idx_lt (by omega) hj'
            simp [List.getD, this]
          · obtain ⟨u, hu, rfl, h1⟩ := hr i' cs j' x' hi' hx'
            simp only [List.getD, hu, Option.getD_some]
            exact .v u h1
      refine ⟨x, [x.val], h1, h2, rfl, rfl, fun _ => rfl, fun u hu => by rw [List.mem_singleton] at hu; rw [hu]; exact hd.one, h3, fun j y u hy hu => ?_⟩
      cases j with
      | zero => simp at hy hu; subst hy; subst hu; exact hd
      | succ j => simp at hy
  · rw [hlk id o ho, hg] at hgi
    cases hgi
    exact h.lt

/-- The values of the entries. -/
def valsT (R : RowsM) (es : Array MapEntry) : List (List Int × Value) := List.zipWith (fun r x => (r.1, x.val)) R es.toList
theorem valsT_len {R : RowsM} {es : Array MapEntry} (h : es.size = R.length) : (valsT R es).length = R.length := by simp [valsT, h]
theorem valsT_fst {R : RowsM} {es : Array MapEntry} (h : es.size = R.length) : (valsT R es).map (·.1) = R.map (·.1) := by
  apply List.ext_getElem?
  intro i
  simp only [valsT, List.getElem?_map, List.getElem?_zipWith]
  cases hR : R[i]? with
  | none => simp
  | some r =>
    have : i < es.toList.length := by have := (List.getElem?_eq_some_iff.1 hR).1; simp; omega
    simp [List.getElem?_eq_getElem this]
theorem valsT_get {R : RowsM} {es : Array MapEntry} {i : Nat} {ns : List Int} {u : Value} (h : (valsT R es)[i]? = some (ns, u)) : ∃ l x, R[i]? = some (ns, l) ∧ es[i]? = some x ∧ x.val = u := by
  simp only [valsT, List.getElem?_zipWith] at h
  cases hR : R[i]? with
  | none => rw [hR] at h; cases h
  | some r =>
    cases hx : es.toList[i]? with
    | none => rw [hR, hx] at h; cases h
    | some x =>
      rw [hR, hx] at h
      simp only [Option.some.injEq, Prod.mk.injEq] at h
      exact ⟨r.2, x, by rw [← h.1], by simpa using hx, h.2⟩
theorem valsT_of {R : RowsM} {es : Array MapEntry} {i : Nat} {ns : List Int} {l : List (List DV)} {x : MapEntry} (h : R[i]? = some (ns, l)) (hx : es[i]? = some x) : (valsT R es)[i]? = some (ns, x.val) := by
  have hx' : es.toList[i]? = some x := by simpa using hx
  rw [valsT, List.getElem?_zipWith, h, hx']

/-- The call's world while a round is walked. -/
def ctxT (ctx : Ctx) (mb : Nat) (blk : Nat → Option (Nat × Nat)) (j : Nat) (w : World) : Ctx := ⟨w, Dt ctx mb blk, fun b => b = mb ∨ ∃ c, blk j = some (b, c)⟩

section
variable {R : RowsM} {mb : Nat} {blk : Nat → Option (Nat × Nat)} {es : Array MapEntry} {ck : Nat}
/-- In: the row that is touched, taken out. -/
theorem RelT.found (h : RelT ctx ks e k mid n sl R a w g mb blk es ck) (hnm : ∀ x ∈ sl, ∀ id, x.2.has id = true → id = mid) (hm : mid ≠ 50) {j : Nat} {ns : List Int} {l : List (List DV)} (hj : R[j]? = some (ns, l)) :
    RelG (ctxT ctx mb blk j w) (upd g 50 (blk j)) ⟨n, sl, [(mid, .mapP ks (valsT R es) (some (j, .row 50 l.length)) (es.toList.map (·.born)) ck), (50, .row e k l)]⟩ a w := by
  obtain ⟨q, hg⟩ := h.gm
  have hgm : upd g 50 (blk j) mid = some (mb, q) := by rw [upd_ne hm]; exact hg
  have hg5 : upd g 50 (blk j) 50 = blk j := upd_same _ _ _
  have hlk : ∀ id o, look [(mid, Ob.mapP ks (valsT R es) (some (j, .row 50 l.length)) (es.toList.map (·.born)) ck), (50, Ob.row e k l)] id = some o → (id = mid ∧ o = .mapP ks (valsT R es) (some (j, .row 50 l.length)) (es.toList.map (·.born)) ck) ∨ (id = 50 ∧ o = .row e k l) := fun id o ho => by
    simp only [look] at ho
    split at ho
    · cases ho; exact .inl ⟨by assumption, rfl⟩
    · split at ho
      · cases ho; exact .inr ⟨by assumption, rfl⟩
      · cases ho
  have hfree : ∀ b, Dt ctx mb blk b → Free (ctxT ctx mb blk j w) (upd g 50 (blk j)) [(mid, Ob.mapP ks (valsT R es) (some (j, .row 50 l.length)) (es.toList.map (·.born)) ck), (50, Ob.row e k l)] b := fun b hb => ⟨.inl hb, fun id o m ho hgi => by
    rcases hlk id o ho with ⟨rfl, _⟩ | ⟨rfl, _⟩
    · rw [hgm] at hgi; cases hgi; exact hb.2.1 rfl
    · rw [hg5] at hgi; exact hb.2.2 j m hgi⟩
  obtain ⟨x, h1, h2, h3, h4⟩ := h.ent j ns l hj
  refine ⟨h.defers, h.size, fun i p hp => ?_, fun id o ho => ?_, fun i i' oi oj b m m' hi hi' hgi hgj => ?_, fun id o b m ho hgi => ?_, rfl, rfl, rfl, Nat.le_refl _, fun _ _ _ => rfl⟩
  · exact (h.slots i p hp).keep ⟨Nat.le_refl _, fun _ _ _ => rfl⟩ (fun b hb _ => hfree b hb) (fun id hid => by rw [hnm _ (at_mem hp) id hid, hgm, hg])
  · rcases hlk id o ho with ⟨rfl, rfl⟩ | ⟨rfl, rfl⟩
    · refine .mapP ks _ _ _ ck mb q es hgm h.hh (by rw [valsT_len h.sz, h.sz]) rfl h.below h.nodup (fun i ns' u hi => ?_) fun j' p hjp => ?_
      · obtain ⟨l', x', r1, r2, r3⟩ := valsT_get hi
        obtain ⟨x2, s1, s2, s3, s4⟩ := h.ent i ns' l' r1
        rw [r2] at s1; cases s1
        refine ⟨x', r2, s2, s3, ?_, fun _ => r3⟩
        cases hb : blk i with
        | none => rw [hb] at s4; rw [s4.2]; rfl
        | some bc => obtain ⟨b, c⟩ := bc; rw [hb] at s4; rw [s4.1]; rfl
      · cases hjp
        refine ⟨x, h1, ?_⟩
        cases hb : blk j with
        | none => rw [hb] at h4; obtain ⟨rfl, hv⟩ := h4; rw [hv]; exact .rowNil 50 (upd_same _ _ _)
        | some bc => obtain ⟨b, c⟩ := bc; rw [hb] at h4; rw [h4.1]; exact .row 50 _ b c (upd_same _ _ _)
    · cases hb : blk j with
      | none => rw [hb] at h4; obtain ⟨rfl, hv⟩ := h4; exact .rowNil e k (upd_same _ _ _)
      | some bc =>
        obtain ⟨b, c⟩ := bc
        rw [hb] at h4
        obtain ⟨hv, cur, hc, hlc, hcap, hcl, hkk, hr⟩ := h4
        refine .row e k l b c cur (upd_same _ _ _) hc hlc hcap hcl hkk fun i' cs j' x' hi' hx' => ?_
        obtain ⟨u, hu, rfl, ho1⟩ := hr i' cs j' x' hi' hx'
        exact ⟨u, hu, .v u ho1⟩
  · rcases hlk i oi hi with ⟨rfl, _⟩ | ⟨rfl, _⟩ <;> rcases hlk i' oj hi' with ⟨rfl, _⟩ | ⟨rfl, _⟩
    · rfl
    · rw [hgm] at hgi; cases hgi; rw [hg5] at hgj; exact ((h.own j _ _ hgj).2.2 rfl).elim
    · rw [hgm] at hgj; cases hgj; rw [hg5] at hgi; exact ((h.own j _ _ hgi).2.2 rfl).elim
    · rfl
  · rcases hlk id o ho with ⟨rfl, _⟩ | ⟨rfl, _⟩
    · rw [hgm] at hgi; cases hgi; exact ⟨h.lt.1, .inr (.inl rfl)⟩
    · rw [hg5] at hgi; exact ⟨(h.own j _ _ hgi).1, .inr (.inr ⟨_, hgi⟩)⟩
/-- In: no row is touched that is there. -/
theorem RelT.fresh (h : RelT ctx ks e k mid n sl R a w g mb blk es ck) (j : Nat) :
    RelG (ctxT ctx mb blk j w) g ⟨n, sl, [(mid, .mapP ks (valsT R es) none (es.toList.map (·.born)) ck)]⟩ a w := by
  obtain ⟨q, hg⟩ := h.gm
  have hlk : ∀ id o, look [(mid, Ob.mapP ks (valsT R es) none (es.toList.map (·.born)) ck)] id = some o → id = mid ∧ o = .mapP ks (valsT R es) none (es.toList.map (·.born)) ck := fun id o ho => by
    simp only [look] at ho
    split at ho
    · cases ho; exact ⟨by assumption, rfl⟩
    · cases ho
  have hfree : ∀ b, Dt ctx mb blk b → Free (ctxT ctx mb blk j w) g [(mid, Ob.mapP ks (valsT R es) none (es.toList.map (·.born)) ck)] b := fun b hb => ⟨.inl hb, fun id o m ho hgi => by
    rw [(hlk id o ho).1, hg] at hgi; cases hgi; exact hb.2.1 rfl⟩
  refine ⟨h.defers, h.size, fun i p hp => ?_, fun id o ho => ?_, fun i i' oi oj b m m' hi hi' hgi hgj => ?_, fun id o b m ho hgi => ?_, rfl, rfl, rfl, Nat.le_refl _, fun _ _ _ => rfl⟩
  · exact (h.slots i p hp).keep ⟨Nat.le_refl _, fun _ _ _ => rfl⟩ (fun b hb _ => hfree b hb) (fun _ _ => rfl)
  · obtain ⟨rfl, rfl⟩ := hlk id o ho
    refine .mapP ks _ _ _ ck mb q es hg h.hh (by rw [valsT_len h.sz, h.sz]) rfl h.below h.nodup (fun i ns' u hi => ?_) fun j' p hjp => by cases hjp
    obtain ⟨l', x', r1, r2, r3⟩ := valsT_get hi
    obtain ⟨x2, s1, s2, s3, s4⟩ := h.ent i ns' l' r1
    rw [r2] at s1; cases s1
    refine ⟨x', r2, s2, s3, ?_, fun _ => r3⟩
    cases hb : blk i with
    | none => rw [hb] at s4; rw [s4.2]; rfl
    | some bc => obtain ⟨b, c⟩ := bc; rw [hb] at s4; rw [s4.1]; rfl
  · rw [(hlk i oi hi).1, (hlk i' oj hi').1]
  · rw [(hlk id o ho).1, hg] at hgi; cases hgi; exact ⟨h.lt.1, .inr (.inl rfl)⟩
/-- Out: the touched row is put back. -/
theorem RelT.back (h : RelT ctx ks e k mid n sl R a w g mb blk es ck) {j q : Nat} {ns : List Int} {l : List (List DV)} {R' : RowsM} {vm : List (List Int × Value)} {sl' : List (Nat × PV)} {a' : Act} {w' : World} {g' : Ghost} {bs' : List Nat} {ck' : Nat} (hq : mid ≠ q) (hle : R.length ≤ R'.length)
    (hvl : vm.length = R'.length) (hj : R'[j]? = some (ns, l)) (hjv : ∃ u, vm[j]? = some (ns, u)) (hvm : ∀ i ns' l', i ≠ j → R'[i]? = some (ns', l') → R[i]? = some (ns', l') ∧ ∃ x, es[i]? = some x ∧ vm[i]? = some (ns', x.val)) (hpl : PlainL l)
    (hr : RelG (ctxT ctx mb blk j w) g' ⟨n, sl', [(mid, .mapP ks vm (some (j, .row q l.length)) bs' ck'), (q, .row e k l)]⟩ a' w') :
    ∃ mb' blk' es', RelT ctx ks e k mid n sl' R' a' w' g' mb' blk' es' ck' := by
  have hlm : look [(mid, Ob.mapP ks vm (some (j, .row q l.length)) bs' ck'), (q, Ob.row e k l)] mid = some (.mapP ks vm (some (j, .row q l.length)) bs' ck') := by simp [look]
  have hlq : look [(mid, Ob.mapP ks vm (some (j, .row q l.length)) bs' ck'), (q, Ob.row e k l)] q = some (.row e k l) := by simp [look, Ne.symm hq]
  cases hr.objs mid _ hlm with
  | mapP _ _ _ _ _ mb' n' es' hgm hh hsz hst hbl hnd hent hov =>
    subst hst
    have hgr : w.heap.size ≤ w'.heap.size := hr.grows
    have hbase : ctx.w0.heap.size ≤ w.heap.size := h.grows
    have hown : ∀ id o b m, look [(mid, Ob.mapP ks vm (some (j, .row q l.length)) (es'.toList.map (·.born)) ck'), (q, Ob.row e k l)] id = some o → g' id = some (b, m) → b < w'.heap.size ∧ (w.heap.size ≤ b ∨ b = mb ∨ ∃ c, blk j = some (b, c)) := fun id o b m ho hg => hr.own id o b m ho hg
    have hnew : ∀ b, (w.heap.size ≤ b ∨ b = mb ∨ ∃ c, blk j = some (b, c)) → ctx.w0.heap.size ≤ b ∨ ctx.K b := fun b hb => by
      rcases hb with hb | hb | ⟨c, hb⟩
      · exact .inl (by omega)
      · subst hb; exact h.lt.2
      · exact (h.own j b c hb).2.1
    have hkeep : ∀ i b c, i ≠ j → blk i = some (b, c) → w'.heap[b]? = w.heap[b]? := fun i b c hij hb => hr.keep b (h.own i b c hb).1 fun hk => by
      rcases hk with hk | ⟨c', hk⟩
      · exact (h.own i b c hb).2.2 hk
      · exact hij (h.inj i j b c c' hb hk)
    have hdiff : ∀ i b c, i ≠ j → blk i = some (b, c) → ¬ (w.heap.size ≤ b ∨ b = mb ∨ ∃ c, blk j = some (b, c)) := fun i b c hij hb hk => by
      rcases hk with hk | hk | ⟨c', hk⟩
      · have := (h.own i b c hb).1; omega
      · exact (h.own i b c hb).2.2 hk
      · exact hij (h.inj i j b c c' hb hk)
    refine ⟨mb', fun i => if i = j then g' q else blk i, es', hr.defers, hr.size, fun i p hp => ?_, ⟨n', hgm⟩, ⟨(hown mid _ mb' n' hlm hgm).1, hnew mb' (hown mid _ mb' n' hlm hgm).2⟩, hh, by rw [hsz, hvl], hbl, hnd, fun i ns' l' hi => ?_, fun i i' b c c' hi hi' => ?_, fun i b c hi => ?_, fun i hi => ?_, ?_, ?_, ?_, by omega, fun z hz hzK => ?_⟩
    · refine (hr.slots i p hp).keep ⟨Nat.le_refl _, fun _ _ _ => rfl⟩ (fun b hb _ => ⟨?_, fun eb => ?_, fun i' c hc => ?_⟩) (fun _ _ => rfl)
      · rcases hb.1 with h1 | h1
        · exact h1.1
        · have h1' : w.heap.size ≤ b := h1
          exact .inr (by omega)
      · subst eb; exact hb.2 mid _ n' hlm hgm
      · simp only at hc
        split at hc
        · exact hb.2 q _ c hlq hc
        · rcases hb.1 with h1 | h1
          · exact h1.2.2 i' c hc
          · have h1' : w.heap.size ≤ b := h1
            have := (h.own i' b c hc).1
            omega
    · by_cases hij : i = j
      · subst hij
        rw [hj] at hi
        cases hi
        obtain ⟨u, hu⟩ := hjv
        obtain ⟨x, r1, r2, r3, _, _⟩ := hent i _ u hu
        obtain ⟨x', s1, s2⟩ := hov i _ rfl
        rw [r1] at s1
        cases s1
        refine ⟨x, r1, r2, r3, ?_⟩
        simp only [if_true]
        have h2 := rd_row s2
        generalize hL : l.length = L at h2
        cases hr.objs q _ hlq with
        | rowNil _ _ hgq =>
          rw [hgq]
          rcases h2 with ⟨b, c, hgi, _⟩ | ⟨_, _, hv⟩
          · rw [hgq] at hgi; cases hgi
          · exact ⟨rfl, hv⟩
        | row _ _ _ b c cur hgq hc hlc hcap hcl hkk hrr =>
          rw [hgq]
          rcases h2 with ⟨b', c', hgi, hv⟩ | ⟨hgi, _, _⟩
          · rw [hgq] at hgi
            cases hgi
            subst hL
            refine ⟨hv, cur, hc, hlc, hcap, hcl, hkk, fun i' cs j' y hi' hy => ?_⟩
            obtain ⟨u', hu', hd⟩ := hrr i' cs j' y hi' hy
            obtain ⟨u2, rfl⟩ := hpl cs (List.mem_of_getElem? hi') y (List.mem_of_getElem? hy)
            cases hd with
            | v _ h1 => exact ⟨_, hu', rfl, h1⟩
          · rw [hgq] at hgi; cases hgi
      · obtain ⟨r0, x0, e0, r1⟩ := hvm i ns' l' hij hi
        obtain ⟨x, s1, s2, s3, s4, s5⟩ := hent i _ _ r1
        refine ⟨x, s1, s2, s3, ?_⟩
        have hxv := s5 fun p hp => by cases hp; exact hij rfl
        simp only [if_neg hij]
        obtain ⟨x', t1, _, _, t4⟩ := h.ent i ns' l' r0
        rw [e0] at t1
        cases t1
        rw [hxv]
        cases hb : blk i with
        | none => rw [hb] at t4; exact t4
        | some bc =>
          obtain ⟨b, c⟩ := bc
          rw [hb] at t4
          obtain ⟨hv, cur, hc, rest⟩ := t4
          exact ⟨hv, cur, by rw [hkeep i b c hij hb]; exact hc, rest⟩
    · have hi0 := hi
      have hi0' := hi'
      clear hi hi'
      have hi : (if i = j then g' q else blk i) = some (b, c) := hi0
      have hi' : (if i' = j then g' q else blk i') = some (b, c') := hi0'
      by_cases h1 : i = j <;> by_cases h2 : i' = j
      · rw [h1, h2]
      · rw [if_pos h1] at hi; rw [if_neg h2] at hi'
        exact (hdiff i' b c' h2 hi' (hown q _ b c hlq hi).2).elim
      · rw [if_neg h1] at hi; rw [if_pos h2] at hi'
        exact (hdiff i b c h1 hi (hown q _ b c' hlq hi').2).elim
      · rw [if_neg h1] at hi; rw [if_neg h2] at hi'
        exact h.inj i i' b c c' hi hi'
    · replace hi : (if i = j then g' q else blk i) = some (b, c) := hi
      by_cases h1 : i = j
      · rw [if_pos h1] at hi
        have := hown q _ b c hlq hi
        exact ⟨this.1, hnew b this.2, fun eb => by subst eb; exact hq (hr.inj mid q _ _ b n' c hlm hlq hgm hi)⟩
      · rw [if_neg h1] at hi
        have := h.own i b c hi
        exact ⟨by omega, this.2.1, fun eb => by subst eb; exact hdiff i b c h1 hi (hown mid _ b n' hlm hgm).2⟩
    · have hjl := (List.getElem?_eq_some_iff.1 hj).1
      simp only [if_neg (show i ≠ j by omega)]
      exact h.out i (by omega)
    · rw [← h.os]; exact hr.os
    · rw [← h.tape]; exact hr.tape
    · rw [← h.output]; exact hr.output
    · rw [← h.keep z hz hzK]
      refine hr.keep z (Nat.lt_of_lt_of_le hz hbase) fun hk => ?_
      rcases hk with hk | ⟨c, hk⟩
      · subst hk
        rcases h.lt.2 with h1 | h1
        · omega
        · exact hzK h1
      · rcases (h.own j z c hk).2.1 with h1 | h1
        · omega
        · exact hzK h1
/-- Out: nothing was touched. -/
theorem RelT.back0 (h : RelT ctx ks e k mid n sl R a w g mb blk es ck) {j : Nat} (hjn : blk j = none) {sl' : List (Nat × PV)} {a' : Act} {w' : World} {g' : Ghost} {bs' : List Nat} {ck' : Nat}
    (hr : RelG (ctxT ctx mb blk j w) g' ⟨n, sl', [(mid, .mapP ks (valsT R es) none bs' ck')]⟩ a' w') :
    ∃ mb' es', RelT ctx ks e k mid n sl' R a' w' g' mb' blk es' ck' := by
  have hlm : look [(mid, Ob.mapP ks (valsT R es) none bs' ck')] mid = some (.mapP ks (valsT R es) none bs' ck') := by simp [look]
  cases hr.objs mid _ hlm with
  | mapP _ _ _ _ _ mb' n' es' hgm hh hsz hst hbl hnd hent hov =>
    subst hst
    have hgr : w.heap.size ≤ w'.heap.size := hr.grows
    have hbase : ctx.w0.heap.size ≤ w.heap.size := h.grows
    have hown : mb' < w'.heap.size ∧ (w.heap.size ≤ mb' ∨ mb' = mb ∨ ∃ c, blk j = some (mb', c)) := hr.own mid _ mb' n' hlm hgm
    have hown2 : w.heap.size ≤ mb' ∨ mb' = mb := by
      rcases hown.2 with h1 | h1 | ⟨c, h1⟩
      · exact .inl h1
      · exact .inr h1
      · rw [hjn] at h1; cases h1
    have hkeep : ∀ i b c, blk i = some (b, c) → w'.heap[b]? = w.heap[b]? := fun i b c hb => hr.keep b (h.own i b c hb).1 fun hk => by
      rcases hk with hk | ⟨c', hk⟩
      · exact (h.own i b c hb).2.2 hk
      · rw [hjn] at hk; cases hk
    refine ⟨mb', es', hr.defers, hr.size, fun i p hp => ?_, ⟨n', hgm⟩, ⟨hown.1, ?_⟩, hh, by rw [hsz, valsT_len h.sz], hbl, hnd, fun i ns' l' hi => ?_, h.inj, fun i b c hi => ?_, h.out, ?_, ?_, ?_, by omega, fun z hz hzK => ?_⟩
    · refine (hr.slots i p hp).keep ⟨Nat.le_refl _, fun _ _ _ => rfl⟩ (fun b hb _ => ⟨?_, fun eb => ?_, fun i' c hc => ?_⟩) (fun _ _ => rfl)
      · rcases hb.1 with h1 | h1
        · exact h1.1
        · have h1' : w.heap.size ≤ b := h1
          exact .inr (by omega)
      · subst eb; exact hb.2 mid _ n' hlm hgm
      · rcases hb.1 with h1 | h1
        · exact h1.2.2 i' c hc
        · have h1' : w.heap.size ≤ b := h1
          have := (h.own i' b c hc).1
          omega
    · rcases hown2 with h1 | h1
      · exact .inl (by omega)
      · rw [h1]; exact h.lt.2
    · obtain ⟨x', t1, t2, t3, t4⟩ := h.ent i ns' l' hi
      obtain ⟨x, s1, s2, s3, s4, s5⟩ := hent i _ _ (valsT_of hi t1)
      refine ⟨x, s1, s2, s3, ?_⟩
      rw [s5 fun p hp => by cases hp]
      cases hb : blk i with
      | none => rw [hb] at t4; exact t4
      | some bc =>
        obtain ⟨b, c⟩ := bc
        rw [hb] at t4
        obtain ⟨hv, cur, hc, rest⟩ := t4
        exact ⟨hv, cur, by rw [hkeep i b c hb]; exact hc, rest⟩
    · have := h.own i b c hi
      refine ⟨by omega, this.2.1, fun eb => ?_⟩
      rcases hown2 with h1 | h1
      · omega
      · exact this.2.2 (by rw [eb, h1])
    · rw [← h.os]; exact hr.os
    · rw [← h.tape]; exact hr.tape
    · rw [← h.output]; exact hr.output
    · rw [← h.keep z hz hzK]
      refine hr.keep z (Nat.lt_of_lt_of_le hz hbase) fun hk => ?_
      rcases hk with hk | ⟨c, hk⟩
      · subst hk
        rcases h.lt.2 with h1 | h1
        · omega
        · exact hzK h1
      · rw [hjn] at hk; cases hk
end
end

section
variable {P : Program} {ctx : Ctx} {ks : List IntKind} {e : TypeId} {k mid n : Nat} {Q : PQ} {s : PState} {c : Code}
/-- What a round does: a row that is there grows; a new one comes; nothing. -/
inductive RoundT (P : Program) (c : Code) (ks : List IntKind) (e : TypeId) (k mid n : Nat) (sl : List (Nat × PV)) (R : RowsM) (sl' : List (Nat × PV)) (R' : RowsM) : Prop
  | found {j nl nl' : Nat} {ns : List Int} {l l' : List (List DV)} (hl : nl = l.length) (hl' : nl' = l'.length) (hj : R[j]? = some (ns, l)) (hR : R' = R.set j (ns, l'))
      (h : ∀ (ctx : Ctx) (vm : List (List Int × Value)) (bs : List Nat) (ck : Nat), vm.map (·.1) = R.map (·.1) → PWc P ctx c (fun x t => x = .normal ∧ Sub ctx t ⟨n, sl', [(mid, .mapP ks vm (some (j, .row 50 nl')) bs ck), (50, .row e k l')]⟩) ⟨n, sl, [(mid, .mapP ks vm (some (j, .row 50 nl)) bs ck), (50, .row e k l)]⟩)
  | fresh {q nl' : Nat} {ns : List Int} {l' : List (List DV)} (hl' : nl' = l'.length) (hq : mid ≠ q) (hR : R' = R ++ [(ns, l')])
      (h : ∀ (ctx : Ctx) (vm : List (List Int × Value)) (bs : List Nat) (ck : Nat), vm.map (·.1) = R.map (·.1) → PWc P ctx c (fun x t => x = .normal ∧ Sub ctx t ⟨n, sl', [(mid, .mapP ks (vm ++ [(ns, undef)]) (some (vm.length, .row q nl')) (bs ++ [ck]) (ck + 1)), (q, .row e k l')]⟩) ⟨n, sl, [(mid, .mapP ks vm none bs ck)]⟩)
  | skip (hR : R' = R) (h : ∀ (ctx : Ctx) (vm : List (List Int × Value)) (bs : List Nat) (ck : Nat), PWc P ctx c (fun x t => x = .normal ∧ Sub ctx t ⟨n, sl', [(mid, .mapP ks vm none bs ck)]⟩) ⟨n, sl, [(mid, .mapP ks vm none bs ck)]⟩)

theorem RoundT.run {sl sl' : List (Nat × PV)} {R R' : RowsM} (hr : RoundT P c ks e k mid n sl R sl' R') (hm : mid ≠ 50) (hnm : ∀ x ∈ sl, ∀ id, x.2.has id = true → id = mid) (hpl : ∀ p ∈ R', PlainL p.2)
    {a : Act} {w : World} {g : Ghost} {mb : Nat} {blk : Nat → Option (Nat × Nat)} {es : Array MapEntry} {ck : Nat} (h : RelT ctx ks e k mid n sl R a w g mb blk es ck) :
    c.wp P (fun x a' w' => x = .normal ∧ ∃ g' mb' blk' es' ck', RelT ctx ks e k mid n sl' R' a' w' g' mb' blk' es' ck') a w := by
  cases hr with
  | @found j nl nl' ns l l' hl hl' hj hR hw =>
    subst hl hl'
    refine wp_mono (hw (ctxT ctx mb blk j w) (valsT R es) (es.toList.map (·.born)) ck (valsT_fst h.sz) a w ⟨_, h.found hnm hm hj⟩) fun x a' w' ⟨t, ⟨hx, hs⟩, ht⟩ => ⟨hx, ?_⟩
    obtain ⟨g', hg'⟩ := hs a' w' ht
    subst hR
    have hjl := (List.getElem?_eq_some_iff.1 hj).1
    obtain ⟨x0, e0, _, _, _⟩ := h.ent j ns l hj
    have hj' : (R.set j (ns, l'))[j]? = some (ns, l') := by rw [List.getElem?_set_self hjl]
    obtain ⟨mb', blk', es', hT⟩ := h.back (R' := R.set j (ns, l')) (vm := valsT R es) (q := 50) hm (by simp) (by rw [valsT_len h.sz]; simp) hj' ⟨x0.val, valsT_of hj e0⟩ (fun i ns' l2 hij hi => by
      rw [List.getElem?_set_ne (Ne.symm hij)] at hi
      obtain ⟨x1, e1, _⟩ := h.ent i ns' l2 hi
      exact ⟨hi, x1, e1, valsT_of hi e1⟩) (hpl _ (List.mem_of_getElem? hj')) hg'
    exact ⟨g', mb', blk', es', _, hT⟩
  | @fresh q nl' ns l' hl' hq hR hw =>
    subst hl'
    refine wp_mono (hw (ctxT ctx mb blk R.length w) (valsT R es) (es.toList.map (·.born)) ck (valsT_fst h.sz) a w ⟨_, h.fresh R.length⟩) fun x a' w' ⟨t, ⟨hx, hs⟩, ht⟩ => ⟨hx, ?_⟩
    obtain ⟨g', hg'⟩ := hs a' w' ht
    subst hR
    have hj' : (R ++ [(ns, l')])[R.length]? = some (ns, l') := by simp
    rw [valsT_len h.sz] at hg'
    obtain ⟨mb', blk', es', hT⟩ := h.back (R' := R ++ [(ns, l')]) (j := R.length) (vm := valsT R es ++ [(ns, undef)]) (q := q) hq (by simp) (by simp [valsT_len h.sz]) hj' ⟨undef, by rw [List.getElem?_append_right (by rw [valsT_len h.sz]; exact Nat.le_refl _)]; simp [valsT_len h.sz]⟩ (fun i ns' l2 hij hi => by
      have hil : i < R.length := by
        have := (List.getElem?_eq_some_iff.1 hi).1
        simp at this
        omega
      rw [List.getElem?_append_left hil] at hi
      obtain ⟨x1, e1, _⟩ := h.ent i ns' l2 hi
      exact ⟨hi, x1, e1, by rw [List.getElem?_append_left (by rw [valsT_len h.sz]; exact hil)]; exact valsT_of hi e1⟩) (hpl _ (List.mem_of_getElem? hj')) hg'
    exact ⟨g', mb', blk', es', _, hT⟩
  | skip hR hw =>
    refine wp_mono (hw (ctxT ctx mb blk R.length w) (valsT R es) (es.toList.map (·.born)) ck a w ⟨_, h.fresh R.length⟩) fun x a' w' ⟨t, ⟨hx, hs⟩, ht⟩ => ⟨hx, ?_⟩
    obtain ⟨g', hg'⟩ := hs a' w' ht
    subst hR
    obtain ⟨mb', es', hT⟩ := h.back0 (h.out _ (Nat.le_refl _)) hg'
    exact ⟨g', mb', blk, es', _, hT⟩

end

section
variable {κ α : Type} {eK : κ → List Int} {enc : α → List DV}
variable [DecidableEq κ]
end
namespace AL
variable {κ α β : Type} [DecidableEq κ]
end AL
end Go.Ep

namespace Go.Proofs
open Go.Ep
set_option maxHeartbeats 1000000
set_option maxRecDepth 100000
set_option linter.unusedVariables false
set_option linter.unusedSimpArgs false


theorem roster_New_o_ok  (r0 : Int × Int × A16 × Bool × (List (Int × TMember))) (h : (roster_New_o ).wp (· = r0)) : PObj Try.prog 8 [] [] [] (.ref 3 0) (fun _ : Unit => [(3, .cells 55 [.d (.v (.int .u64 r0.1)), .d (.v (.int .u16 r0.2.1)), .mp 1, .d (.v (.int .u64 r0.2.2.1.1)), .d (.v (.int .u64 r0.2.2.1.2.1)), .d (.v (.int .u64 r0.2.2.1.2.2.1)), .d (.v (.int .u64 r0.2.2.1.2.2.2.1)), .d (.v (.int .u64 r0.2.2.1.2.2.2.2.1)), .d (.v (.int .u64 r0.2.2.1.2.2.2.2.2.1)), .d (.v (.int .u64 r0.2.2.1.2.2.2.2.2.2.1)), .d (.v (.int .u64 r0.2.2.1.2.2.2.2.2.2.2.1)), .d (.v (.int .u64 r0.2.2.1.2.2.2.2.2.2.2.2.1)), .d (.v (.int .u64 r0.2.2.1.2.2.2.2.2.2.2.2.2.1)), .d (.v (.int .u64 r0.2.2.1.2.2.2.2.2.2.2.2.2.2.1)), .d (.v (.int .u64 r0.2.2.1.2.2.2.2.2.2.2.2.2.2.2.1)), .d (.v (.int .u64 r0.2.2.1.2.2.2.2.2.2.2.2.2.2.2.2.1)), .d (.v (.int .u64 r0.2.2.1.2.2.2.2.2.2.2.2.2.2.2.2.2.1)), .d (.v (.int .u64 r0.2.2.1.2.2.2.2.2.2.2.2.2.2.2.2.2.2.1)), .d (.v (.int .u64 r0.2.2.1.2.2.2.2.2.2.2.2.2.2.2.2.2.2.2))]), (1, .mapH r0.2.2.2.1 [.u16] true (encM kI TMember.e r0.2.2.2.2))]) := by
  refine PObj.intro (sl := []) Try.func8 rfl Try.ntmps8 rfl rfl rfl ?_;intro ctx hK pv;refine PWc.seq ?_;refine PWc.region ?_;refine PWl.step (LR.assign rfl) rfl ?_;refine PWl.nil ?_;refine PWc.seq ?_;refine PWc.region ?_;refine PWl.step (LR.makeMap [.u16] true rfl) rfl ?_;refine PWl.step (LR.buildR (ns := [_, _, _, _, _, _, _, _, _, _, _, _, _, _, _, _, _, _, _]) build55 rfl rfl rfl) rfl ?_;refine PWl.step (LR.box rfl rfl rfl rfl) rfl ?_;refine PWl.step (LR.assign rfl) rfl ?_;refine PWl.nil ?_;refine PWc.ret ?_;replace h : _ = r0 := h;subst h;exact EndsO.mk () (.inr rfl) (Sub.trans (Sub.toH (id := 1) rfl) <| Sub.of (tl := [(0, _)]) (to := [(3, _), (1, _)]) rfl (.cons rfl rfl <| .nil) (.cons rfl rfl <| .cons rfl rfl <| .nil)) (.cons (.tmp rfl) <| .nil) rfl rfl

theorem roster_Roster_none_o_ok (epoch_1 : Int) (last_2 : Int) (c3 : A16) (nl4 : Bool) (m5 : List (Int × TMember)) (r0 : Bool) (h : (roster_Roster_none_o epoch_1 last_2 c3 nl4 m5).wp (· = r0)) : PObj Try.prog 26 [.ref 100 0] [(100, .cells 55 [.d (.v (.int .u64 epoch_1)), .d (.v (.int .u16 last_2)), .mp 101, .d (.v (.int .u64 c3.1)), .d (.v (.int .u64 c3.2.1)), .d (.v (.int .u64 c3.2.2.1)), .d (.v (.int .u64 c3.2.2.2.1)), .d (.v (.int .u64 c3.2.2.2.2.1)), .d (.v (.int .u64 c3.2.2.2.2.2.1)), .d (.v (.int .u64 c3.2.2.2.2.2.2.1)), .d (.v (.int .u64 c3.2.2.2.2.2.2.2.1)), .d (.v (.int .u64 c3.2.2.2.2.2.2.2.2.1)), .d (.v (.int .u64 c3.2.2.2.2.2.2.2.2.2.1)), .d (.v (.int .u64 c3.2.2.2.2.2.2.2.2.2.2.1)), .d (.v (.int .u64 c3.2.2.2.2.2.2.2.2.2.2.2.1)), .d (.v (.int .u64 c3.2.2.2.2.2.2.2.2.2.2.2.2.1)), .d (.v (.int .u64 c3.2.2.2.2.2.2.2.2.2.2.2.2.2.1)), .d (.v (.int .u64 c3.2.2.2.2.2.2.2.2.2.2.2.2.2.2.1)), .d (.v (.int .u64 c3.2.2.2.2.2.2.2.2.2.2.2.2.2.2.2))]), (101, .mapH nl4 [.u16] true (encM kI TMember.e m5))] [100, 101] (.d (.v (.bool r0))) (fun _ : Unit => [(100, .cells 55 [.d (.v (.int .u64 epoch_1)), .d (.v (.int .u16 last_2)), .mp 101, .d (.v (.int .u64 c3.1)), .d (.v (.int .u64 c3.2.1)), .d (.v (.int .u64 c3.2.2.1)), .d (.v (.int .u64 c3.2.2.2.1)), .d (.v (.int .u64 c3.2.2.2.2.1)), .d (.v (.int .u64 c3.2.2.2.2.2.1)), .d (.v (.int .u64 c3.2.2.2.2.2.2.1)), .d (.v (.int .u64 c3.2.2.2.2.2.2.2.1)), .d (.v (.int .u64 c3.2.2.2.2.2.2.2.2.1)), .d (.v (.int .u64 c3.2.2.2.2.2.2.2.2.2.1)), .d (.v (.int .u64 c3.2.2.2.2.2.2.2.2.2.2.1)), .d (.v (.int .u64 c3.2.2.2.2.2.2.2.2.2.2.2.1)), .d (.v (.int .u64 c3.2.2.2.2.2.2.2.2.2.2.2.2.1)), .d (.v (.int .u64 c3.2.2.2.2.2.2.2.2.2.2.2.2.2.1)), .d (.v (.int .u64 c3.2.2.2.2.2.2.2.2.2.2.2.2.2.2.1)), .d (.v (.int .u64 c3.2.2.2.2.2.2.2.2.2.2.2.2.2.2.2))]), (101, .mapH nl4 [.u16] true (encM kI TMember.e m5))]) := by
  refine PObj.intro (sl := [(0, _)]) Try.func26 rfl Try.ntmps26 rfl rfl rfl ?_;intro ctx hK pv;refine PWc.seq ?_;refine PWc.region ?_;refine PWl.step (LR.assign rfl) rfl ?_;refine PWl.nil ?_;refine PWc.seq ?_;refine PWc.region ?_;refine PWl.step (LR.move rfl) rfl ?_;refine PWl.step (LR.eqlPtr Try.underlying24 rfl) rfl ?_;refine PWl.step (LR.move rfl) rfl ?_;refine PWl.guardT (LR.move rfl) rfl rfl rfl ?_;refine PWl.guardT (LR.nilCheckRef rfl) rfl rfl rfl ?_;refine PWl.guardT (LR.fieldRef Try.underlying55 rfl Try.sizeOf28 (by decide) rfl rfl) rfl rfl rfl ?_;refine PWl.guardT (LR.loadRef Try.isAgg28 rfl rfl rfl) rfl rfl rfl ?_;refine PWl.guardT (LR.eql rfl rfl) rfl rfl rfl ?_;refine PWl.step (LR.pickF rfl rfl) rfl ?_;refine PWl.step (LR.assign rfl) rfl ?_;refine PWl.nil ?_;refine PWc.ret ?_;replace h : _ = r0 := h;subst h;exact EndsO.mk () (.inr rfl) (Sub.of (tl := [(2, _)]) (to := [(100, _), (101, _), (1100, _), (1101, _)]) rfl (.cons rfl rfl <| .nil) (.cons rfl rfl <| .cons rfl rfl <| .cons rfl rfl <| .cons rfl rfl <| .nil)) (.cons (.tmp rfl) <| .nil) rfl rfl
end Go.Proofs


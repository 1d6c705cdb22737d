/- Walks over pure states: what 'slices.Grow' does to nil, and cuts of a row of one's own. No program in sight. -/
import Derived.Test.YtacnidaafcfgiaaGreatEp14
namespace Go.Ep
open Go.RowKit

section
variable {P : Program} {ctx : Ctx} {Q : PQ} {s : PState}
variable {dst : Option Tmp} {ty : TypeId} {pos : String} {after : Array Edge} {gd : Option (Nat × Bool)}

abbrev pNil : PV := .d (.v (.slice none 0 0))

theorem LR.capNil {x : Operand} {t e : TypeId} (hu : P.underlying t = some (.slice e)) (hx : s.ev x = some pNil) :
    Local P ctx ⟨dst, .call ⟨.builtin .cap, #[x], #[t]⟩, ty, pos, after, gd⟩ s (s.putD dst (.d (.v (.int .i64 0)))) :=
  local_pure (o := ⟨dst, .call ⟨.builtin .cap, #[x], #[t]⟩, ty, pos, after, gd⟩) fun a w g hg => ⟨.int .i64 0, by
    simp [execOp, resolve, invoke, builtin, ev_v hg hx, Builtin.cap_, run_underlying hu, Result.andThen, goInt], .d (.v _ rfl)⟩
theorem LR.lenNil {x : Operand} {t e : TypeId} (hu : P.underlying t = some (.slice e)) (hx : s.ev x = some pNil) :
    Local P ctx ⟨dst, .call ⟨.builtin .len, #[x], #[t]⟩, ty, pos, after, gd⟩ s (s.putD dst (.d (.v (.int .i64 0)))) :=
  local_pure (o := ⟨dst, .call ⟨.builtin .len, #[x], #[t]⟩, ty, pos, after, gd⟩) fun a w g hg => ⟨.int .i64 0, by
    simp [execOp, resolve, invoke, builtin, ev_v hg hx, Builtin.len_, run_underlying hu, Result.andThen, goInt], .d (.v _ rfl)⟩
theorem LR.sliceNil {x hi : Operand} {t e k : Nat} {kx : IntKind} (hu : P.underlying t = some (.slice e)) (hs : ∀ w, (sizeOf e).run P w = .ok k w) (hx : s.ev x = some pNil) (hh : s.ev hi = some (.d (.v (.int kx 0)))) :
    Local P ctx ⟨dst, .slice t x none (some hi) none, ty, pos, after, gd⟩ s (s.putD dst pNil) :=
  local_pure (o := ⟨dst, .slice t x none (some hi) none, ty, pos, after, gd⟩) fun a w g hg => ⟨.slice none 0 0, by
    simp [execOp, ev_v hg hx, ev_int hg hh, Instr.sliceAt, Instr.slice, Instr.sliceBounds, run_underlying hu, hs, run_sliceBound' (P := P) (show (0 : Int) = (0 : Nat) from rfl) (show 0 ≤ 0 from Nat.le_refl _), Result.andThen], .d (.v _ rfl)⟩

theorem run_append_make (w : World) (t ti ty e : TypeId) (i : TypeInfo) (z : Value) (hu : P.underlying t = some (.slice e)) (hti : P.underlying ti = some (.int .i64)) (hi : P.info? e = some i) (hz : i.zero = some z) (n : Nat) (h0 : 0 < n) (h63 : (n : Int) ≤ 9223372036854775807) (h48 : n * i.bytes ≤ 281474976710656) (hsz : i.size = z.cells.size) :
    (Builtin.append_ #[t, ti] ty #[.slice none 0 0, .int .i64 n]).run P w = .ok (.slice (some ⟨w.heap.size, 0, none⟩) n (grownCap w n 0 e)) (w.drew.alloc (.cells (Builtin.zeroCells z.cells n ++ Builtin.zeroCells z.cells (grownCap w n 0 e - n)) e)) := by
  have hn : n ≠ 0 := by omega
  have h63' : ¬ (9223372036854775807 < (n : Int)) := by omega
  have h48' : ¬ (281474976710656 < Builtin.nextslicecap n 0 * i.bytes) := by rw [nextslicecap_zero h0]; omega
  have hw : IntKind.i64.wrap (n : Int) = n := wrap_i64 (by omega) h63
  have hneg : ¬ ((n : Int) < 0) := by omega
  have h48i : ¬ (281474976710656 < (n : Int) * (i.bytes : Int)) := by
    rw [← Int.natCast_mul]; omega
  by_cases hk : n * i.size = 0
  · have hzc : z.cells.size = 0 := by
      rw [hsz] at hk
      rcases Nat.mul_eq_zero.1 hk with h | h
      · omega
      · exact h
    have he : Builtin.zeroCells z.cells n = #[] := by
      apply Array.eq_empty_of_size_eq_zero
      simp [zeroCells_size, hzc]
    simp [Builtin.append_, run_underlying hu, run_underlying hti, sizeOf, typeInfo, zeroValue, hi, hz, Builtin.lenOf, hn, h63', h48', h48i, hw, hneg, Question.forced, run_firstCells_none, newRow, grownCap, asInt, asIntOf, he]
  · simp [Builtin.append_, run_underlying hu, run_underlying hti, sizeOf, typeInfo, zeroValue, hi, hz, Builtin.lenOf, hn, h63', h48', h48i, hw, hneg, Question.forced, run_firstCells_none, newRow, grownCap, asInt, asIntOf, hk]

/-- 'append(nil, make(.., n)...)': a new row of n noughts. -/
theorem LR.appendMake {id n k bs : Nat} {t ti e : TypeId} {x y : Operand} {z : Value} {zs : List Value} (hE : ElemOK P t e k bs) (hti : P.underlying ti = some (.int .i64)) (hzv : ∀ w, (zeroValue e).run P w = .ok z w) (hzc : z.cells = zs.toArray) (h1 : (zs.all Value.oneCell') = true)
    (hx : s.ev x = some pNil) (hy : s.ev y = some (.d (.v (.int .i64 n)))) (h0 : 0 < n) (hb : n * bs ≤ 140737488355328) (hn : n ≤ 140737488355328) (hf : s.fresh id = true) :
    Local P ctx ⟨some id, .call ⟨.builtin .append, #[x, y], #[t, ti]⟩, ty, pos, after, gd⟩ s (s.newO id (.row e k (List.replicate n (zs.map zdv))) (.row id n)) :=
  local_value (o := ⟨some id, .call ⟨.builtin .append, #[x, y], #[t, ti]⟩, ty, pos, after, gd⟩) fun a w g hg => by
    obtain ⟨i, z', hi, hz, hsize, hbytes, hzs⟩ := hE.i
    have hzz : z' = z := by
      have := hzv w
      simp [zeroValue, typeInfo, hi, hz] at this
      exact this
    subst hzz
    have hzl : zs.length = k := by rw [hzc] at hzs; simpa using hzs
    have hge := grownCap_ge w n 0 e
    have hcm := grownCap_le_maxLen w n 0 e (by unfold maxLen; omega)
    have hrun := run_append_make (P := P) w t ti ty e i z' hE.u hti hi hz n h0 (by omega) (by rw [hbytes]; omega) (by rw [hsize, hzs])
    have hdr : RelG ctx g s a w.drew := hg.below ((Below.refl _ w).drew)
    have hres := hdr.newRow (id := id) hf (e := e) (k := k) (cap := grownCap w n 0 e) (l := List.replicate n (zs.map zdv)) (cur := (Builtin.zeroCells z'.cells n ++ Builtin.zeroCells z'.cells (grownCap w n 0 e - n)).toList) (by simpa using hge) hcm (by
        rw [Array.toList_append, List.length_append, zc_len, zc_len, hzs, ← Nat.add_mul]; congr 1; omega)
      (fun j cs hj => by
        rw [List.getElem?_replicate] at hj
        split at hj
        · simp at hj; subst hj; simpa using hzl
        · cases hj)
      (fun j cs t x hj hx => by
        rw [List.getElem?_replicate] at hj
        split at hj
        · rename_i hjn
          simp only [Option.some.injEq] at hj
          subst hj
          have ht : t < zs.length := by have := (List.getElem?_eq_some_iff.1 hx).1; simpa using this
          have hlt : j * k + t < n * k := idx_lt hjn (by omega)
          simp [ht] at hx
          subst hx
          refine ⟨zs[t], ?_, zdv_rd _ _ _ (by simp at h1; exact h1 _ (List.getElem_mem ht))⟩
          have e2 : (j * k + t) % k = t := by rw [Nat.mul_comm, Nat.mul_add_mod, Nat.mod_eq_of_lt (by omega)]
          rw [Array.toList_append, List.getElem?_append_left (by rw [zc_len, hzs]; exact hlt)]
          simp [Builtin.zeroCells, hlt, hzc, hzl, e2]
          rw [List.getElem?_eq_getElem ht]; rfl
        · cases hj)
    simp only [List.length_replicate, Array.toArray_toList] at hres
    refine ⟨_, _, ?_, hres⟩
    simp [execOp, resolve, invoke, builtin, ev_v hg hx, ev_v hg hy, hrun, Result.andThen]

/-- The first m elements of a row of one's own. -/
theorem LR.cutRow {x hi : Operand} {id n m k : Nat} {t e : TypeId} {l : List (List DV)} {kx : IntKind} {j : Int} (js : List Nat) (hu : P.underlying t = some (.slice e)) (hs : ∀ w, (sizeOf e).run P w = .ok k w) (hx : s.ev x = some (.row id n)) (hl : look s.objs id = some (.row e k l)) (hn : l.length = n)
    (hh : s.ev hi = some (.d (.v (.int kx j)))) (hj : j = m) (hm : m ≤ n) (ha : (s.junks js).alone id = true) :
    Local P ctx ⟨dst, .slice t x none (some hi) none, ty, pos, after, gd⟩ s (((s.junks js).setO id (.row e k (l.take m))).putD dst (.row id m)) :=
  local_value (o := ⟨dst, .slice t x none (some hi) none, ty, pos, after, gd⟩) fun a w g hg => by
    have hxv := hg.ev hx
    have hob := hg.objs id _ hl
    have hgj := hg.junks js
    have hlj : look (s.junks js).objs id = some (.row e k l) := by rw [junks_objs]; exact hl
    have hupd : upd g id (g id) = g := by funext q; unfold upd; split <;> simp_all
    have hre : ∀ (ob' : ObRd w g (Free ctx g (putO id (.row e k (l.take m)) (s.junks js).objs)) id (.row e k (l.take m))), RelG ctx g ((s.junks js).setO id (.row e k (l.take m))) a w := fun ob' => by
      have := hgj.reown hlj ha (g id) (ob := .row e k (l.take m)) rfl rfl rfl (Nat.le_refl _) (fun _ _ _ => rfl) (fun b n eb => .inl ⟨n, eb⟩) (by rw [hupd]; exact ob')
      rw [hupd] at this
      exact this
    have hst : Stays w w (Free ctx g s.objs) := ⟨Nat.le_refl _, fun _ _ _ => rfl⟩
    generalize hv : a.eval x = v at hxv
    cases hob with
    | rowNil _ _ hgn =>
      cases hxv with
      | row _ _ blk cap hgi => rw [hgn] at hgi; cases hgi
      | rowNil =>
        have hm0 : m = 0 := by omega
        subst hm0
        refine ⟨.slice none 0 0, w, ?_, g, (hre (.rowNil e k hgn)).put dst (.rowNil id hgn)⟩
        simp [execOp, hv, ev_int hg hh, Instr.sliceAt, Instr.slice, Instr.sliceBounds, run_underlying hu, hs, run_sliceBound' (P := P) hj (show 0 ≤ 0 from Nat.le_refl _), Result.andThen]
    | row _ _ _ blk' cap' cur hgi hh' hlc hcap hcs hkk hr' =>
      cases hxv with
      | rowNil _ hgn => rw [hgn] at hgi; cases hgi
      | row _ _ blk cap hgi' =>
        rw [hgi] at hgi'
        cases hgi'
        have hrow : ObRd w g (Free ctx g (putO id (.row e k (l.take m)) (s.junks js).objs)) id (.row e k (l.take m)) := by
          rw [junks_objs]
          refine .row e k _ blk' cap' cur hgi hh' (by simp; omega) hcap hcs (fun i cs hi => ?_) (fun i cs t x hi hx => ?_)
          · rw [List.getElem?_take] at hi
            split at hi
            · exact hkk i cs hi
            · cases hi
          · rw [List.getElem?_take] at hi
            split at hi
            · obtain ⟨u, h1, h2⟩ := hr' i cs t x hi hx
              exact ⟨u, h1, h2.keep hst (fun b hb _ => free_put hl b hb)⟩
            · cases hi
        refine ⟨.slice (some ⟨blk', 0, none⟩) m cap', w, ?_, g, (hre hrow).put dst (.row id m blk' cap' hgi)⟩
        simp [execOp, hv, ev_int hg hh, Instr.sliceAt, Instr.slice, Instr.sliceBounds, run_underlying hu, hs, run_sliceBound' (P := P) hj (show m ≤ cap' by omega), Addr.add_lit, Result.andThen]
end
end Go.Ep

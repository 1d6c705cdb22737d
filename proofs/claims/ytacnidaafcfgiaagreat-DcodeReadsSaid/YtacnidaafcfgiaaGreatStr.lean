/- Strings and bytes. No program in sight. -/
import Derived.Test.YtacnidaafcfgiaaGreatOb
import Derived.Laws.BytesString
import Derived.Laws.IdiomStrings
namespace Go.Ep
open Go.RowKit
section
variable {P : Program} {ctx : Ctx} {Q : PQ} {s : PState}
variable {dst : Option Tmp} {ty : TypeId} {pos : String} {after : Array Edge} {gd : Option (Nat × Bool)}
theorem LR.strIdx {x i : Operand} {t : TypeId} {b : ByteArray} {k : IntKind} {n y : Int} (hu : P.underlying t = some .string) (hx : s.ev x = some (.d (.v (.string b)))) (hi : s.ev i = some (.d (.v (.int k n)))) (hy : 0 ≤ n ∧ (bytesL b)[n.toNat]? = some y) :
    Local P ctx ⟨dst, .index t x i, ty, pos, after, gd⟩ s (s.putD dst (.d (.v (.int .u8 y)))) :=
  local_pure (o := ⟨dst, .index t x i, ty, pos, after, gd⟩) fun a w g hg => by
    obtain ⟨h0, h1⟩ := hy
    have hlt : n.toNat < b.size := by
      have := (List.getElem?_eq_some_iff.1 h1).1
      simpa [bytesL] using this
    have hb : 0 ≤ n ∧ n < b.size := ⟨h0, by omega⟩
    have hv : ((b[n.toNat]'hlt).toNat : Int) = y := by
      have := (List.getElem?_eq_some_iff.1 h1).2
      simp only [bytesL, List.getElem_map, Array.getElem_toList] at this
      exact this
    refine ⟨.int .u8 y, ?_, .d (.v _ rfl)⟩
    simp only [execOp, ev_v hg hx, ev_v hg hi, Sem.run_bind, run_index_string w t b k n hu, dif_pos hb, hv, Result.andThen_ok, Sem.run_pure]
theorem LR.bytesStr {x : Operand} {src dt e : TypeId} {l : List Int} (hs : P.underlying src = some (.slice e)) (he : P.underlying e = some (.int .u8)) (hd : P.underlying dt = some .string) (hx : s.ev x = some (.d (.sl (l.map (eK .u8))))) :
    Local P ctx ⟨dst, .convert src dt x, ty, pos, after, gd⟩ s (s.putD dst (.d (.v (.string (strL l))))) :=
  local_pure (o := ⟨dst, .convert src dt x, ty, pos, after, gd⟩) fun a w g hg => by
    have h := hg.ev hx
    generalize hv : a.eval x = v at h
    refine ⟨.string (strL l), ?_, .d (.v _ rfl)⟩
    generalize hq : l.map (eK .u8) = q at h
    cases h with
    | d h =>
      cases h with
      | nil ao cap =>
        have hl : l = [] := by simpa using hq
        subst hl
        simp only [execOp, hv, Sem.run_bind, run_convert_bytes_string w src dt e ao 0 cap hs he hd]
        cases ao with
        | none => simp [Conv.bytesToString, strL, Result.andThen]
        | some ad =>
          have := run_bytesToString (P := P) w ad 0 cap [] (by simp [loadCells, loadCellsFrom])
          rw [this]
          rfl
      | sl _ b off cap k c hl hcap hS hb hk hc hr =>
        subst hq
        simp only [execOp, hv, Sem.run_bind, run_convert_bytes_string w src dt e _ _ cap hs he hd, List.length_map]
        have hload := run_loadCells_list (P := P) w ⟨b, off, none⟩ (l.map (Value.int .u8)) (fun j v hj => by
          rw [List.getElem?_map] at hj
          cases hlj : l[j]? with
          | none => rw [hlj] at hj; cases hj
          | some n =>
            rw [hlj] at hj
            simp only [Option.map_some, Option.some.injEq] at hj
            subst hj
            have hjl : j < l.length := (List.getElem?_eq_some_iff.1 hlj).1
            have hkk := hk j (eK .u8 n) (by simp [hlj])
            have hk1 : k = 1 := by simpa [eK] using hkk.symm
            subst hk1
            have h1 := hc j 0 (by simpa using hjl) (by omega)
            have h2 := hr j (eK .u8 n) 0 (.v (.int .u8 n)) (by simp [hlj]) rfl
            generalize c j 0 = q at h1 h2
            cases h2
            simp only [Nat.mul_one, Nat.add_zero] at h1
            by_cases hj0 : j = 0
            · subst hj0; simpa [Addr.add] using h1
            · simpa [Addr.add, hj0] using h1)
        rw [List.length_map] at hload
        rw [run_bytesToString w _ l.length cap l hload]
        rfl
end
end Go.Ep
namespace Go.Ep
open Go.RowKit
section
variable {P : Program} {ctx : Ctx} {s : PState}
variable {dst : Option Tmp} {ty : TypeId} {pos : String} {after : Array Edge} {gd : Option (Nat × Bool)}
theorem LR.strBytes {x : Operand} {src dt e : TypeId} {b : ByteArray} (hs : P.underlying src = some .string) (hd : P.underlying dt = some (.slice e)) (he : P.underlying e = some (.int .u8)) (hx : s.ev x = some (.d (.v (.string b)))) (hsz : b.size ≤ 9223372036854775807) :
    Local P ctx ⟨dst, .convert src dt x, ty, pos, after, gd⟩ s (s.putD dst (.d (.sl ((bytesL b).map (eK .u8))))) :=
  local_value (o := ⟨dst, .convert src dt x, ty, pos, after, gd⟩) fun a w g hg => by
    have hrun := run_bytes_of_string (P := P) w src dt e b hs hd he
    have hge := grownCap_ge w b.size 0 e
    have hcm := grownCap_le_maxLen w b.size 0 e (by unfold maxLen; omega)
    generalize grownCap w b.size 0 e = cap at hrun hge hcm
    generalize hfr : ((bytesRow b cap).size, (bytesRow b cap).size + 1) = fr at hrun
    have hb : Below w.heap.size w (w.drew.alloc (.cells (bytesRow b cap) e fr)) := (Below.refl w.heap.size w).drew.alloc (Nat.le_refl _) _
    have hg' := hg.below hb
    refine ⟨.slice (some ⟨w.heap.size, 0, none⟩) b.size cap, w.drew.alloc (.cells (bytesRow b cap) e fr), by simp only [execOp, ev_v hg hx, hrun, Sem.run_bind, Result.andThen_ok, Sem.run_pure], g, hg'.put dst (.d ?_)⟩
    have hlen : ((bytesL b).map (eK .u8)).length = b.size := by simp [bytesL]
    have hS : Free ctx g s.objs w.heap.size := free_new hg (.inr (Nat.le_refl _))
    have := DRd.sl (w := w.drew.alloc (.cells (bytesRow b cap) e fr)) (S := Free ctx g s.objs) ((bytesL b).map (eK .u8)) w.heap.size 0 cap 1 (fun i _ => ((bytesRow b cap)[i]?).getD undef) (by rw [hlen]; exact hge) hcm hS (by rw [World.size_alloc]; exact Nat.lt_succ_self _) (fun i cs hi => by
      rw [List.getElem?_map] at hi
      cases h2 : (bytesL b)[i]? with
      | none => rw [h2] at hi; cases hi
      | some n => rw [h2] at hi; cases hi; rfl) (fun i j hi hj => by
      rw [hlen] at hi
      have hj0 : j = 0 := by omega
      subst hj0
      have := World.cell?_alloc_mark w.drew (bytesRow b cap) e fr i
      simp only [Nat.mul_one, Nat.add_zero, Nat.zero_add]
      have e1 : w.drew.heap.size = w.heap.size := rfl
      rw [e1] at this
      rw [this, bytesRow_at b cap i hi]
      rfl) (fun i cs j x hi hx2 => by
      rw [List.getElem?_map] at hi
      cases h2 : (bytesL b)[i]? with
      | none => rw [h2] at hi; cases hi
      | some n =>
        rw [h2] at hi
        simp only [Option.map_some, Option.some.injEq] at hi
        subst hi
        have hj0 : j = 0 := by have := (List.getElem?_eq_some_iff.1 hx2).1; simp [eK] at this; exact this
        subst hj0
        simp [eK] at hx2
        subst hx2
        have hi2 : i < b.data.size := by have := (List.getElem?_eq_some_iff.1 h2).1; simpa [bytesL] using this
        have hn : n = (b.data[i].toNat : Int) := by
          have := (List.getElem?_eq_some_iff.1 h2).2
          simp only [bytesL, List.getElem_map, Array.getElem_toList] at this
          exact this.symm
        rw [bytesRow_at b cap i hi2, hn]
        exact .v _ rfl)
    rw [hlen] at this
    exact this
end
end Go.Ep

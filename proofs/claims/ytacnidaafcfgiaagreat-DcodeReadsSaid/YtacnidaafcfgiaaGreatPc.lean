/- Pieces of rows of one's own: cut, measured, looked into, cleared. No program in sight. -/
import Derived.Test.YtacnidaafcfgiaaGreatMr
namespace Go.Ep
open Go Go.RowKit
section
variable {P : Program} {ctx : Ctx} {Q : PQ} {s : PState}
variable {dst : Option Tmp} {ty : TypeId} {pos : String} {after : Array Edge} {gd : Option (Nat × Bool)}

/-- A piece of a row of one's own: from lo on. -/
theorem LR.pieceRow {x lo : Operand} {id n k : Nat} {t e : TypeId} {kx : IntKind} {i : Int} {l : List (List DV)} (hu : P.underlying t = some (.slice e)) (hs : ∀ w, (sizeOf e).run P w = .ok k w)
    (hx : s.ev x = some (.row id n)) (hl : look s.objs id = some (.row e k l)) (hn : n ≤ l.length) (hlo : s.ev lo = some (.d (.v (.int kx i)))) (hi : (0 : Int) ≤ i ∧ i ≤ (n : Int)) :
    Local P ctx ⟨dst, .slice t x (some lo) none none, ty, pos, after, gd⟩ s (s.putD dst (.pc id i.toNat (n - i.toNat) k)) :=
  local_pure (o := ⟨dst, .slice t x (some lo) none none, ty, pos, after, gd⟩) fun a w g hg => by
    have h := hg.ev hx
    have hob := hg.objs id _ hl
    have hit : i = (i.toNat : Int) := by omega
    have hle : i.toNat ≤ n := by omega
    generalize hv : a.eval x = v at h
    cases h with
    | row _ _ blk cap hgi =>
      cases hob with
      | rowNil _ _ hgn => rw [hgn] at hgi; cases hgi
      | row _ _ _ blk' cap' cur h' hh hlc hcap hcs hkk hr =>
        rw [hgi] at h'
        cases h'
        refine ⟨.slice (if cap = i.toNat then some ⟨blk, 0, none⟩ else some ⟨blk, 0 + i.toNat * k, none⟩) (n - i.toNat) (cap - i.toNat), ?_, ?_⟩
        · by_cases hc : cap = i.toNat <;>
          simp [execOp, hv, ev_int hg hlo, Instr.sliceAt, Instr.slice, Instr.sliceBounds, run_underlying hu, hs, run_sliceBound' (P := P) hit hle, Addr.add_lit, Result.andThen, hc]
        · by_cases h0 : n - i.toNat = 0
          · rw [h0]; exact .pc0 _ _ _ _ _
          · rw [if_neg (by omega), Nat.zero_add]
            exact .pc id _ _ k blk cap hgi (by omega)
    | rowNil _ hgn =>
      have h0 : i.toNat = 0 := by omega
      refine ⟨.slice none 0 0, ?_, ?_⟩
      · rw [h0] at hit
        simp [execOp, hv, ev_int hg hlo, Instr.sliceAt, Instr.slice, Instr.sliceBounds, run_underlying hu, hs, run_sliceBound' (P := P) hit (show 0 ≤ 0 from Nat.le_refl _), Result.andThen]
      · rw [Nat.zero_sub]; exact .pc0 _ _ _ _ _

theorem LR.lenPc {x : Operand} {id i n k : Nat} {t e : TypeId} (hu : P.underlying t = some (.slice e)) (hx : s.ev x = some (.pc id i n k)) :
    Local P ctx ⟨dst, .call ⟨.builtin .len, #[x], #[t]⟩, ty, pos, after, gd⟩ s (s.putD dst (.d (.v (.int .i64 n)))) :=
  local_pure (o := ⟨dst, .call ⟨.builtin .len, #[x], #[t]⟩, ty, pos, after, gd⟩) fun a w g hg => by
    have h := hg.ev hx
    have hE : P.underlying t = some (.slice (P.elem t)) := by simp [Program.elem, hu]
    refine ⟨.int .i64 n, ?_, .d (.v _ rfl)⟩
    generalize hv : a.eval x = v at h
    cases h <;> simp [execOp, resolve, invoke, builtin, hv, run_len_slice, hE, Result.andThen, goInt]

theorem LR.idxPc {x ix : Operand} {id i m : Nat} {ki : IntKind} {j : Int} {k : Nat} {t e : TypeId} (hu : P.underlying t = some (.slice e)) (hs : ∀ w, (sizeOf e).run P w = .ok k w)
    (hx : s.ev x = some (.pc id i m k)) (hix : s.ev ix = some (.d (.v (.int ki j)))) (hj : (0 : Int) ≤ j ∧ j < (m : Int)) :
    Local P ctx ⟨dst, .indexAddr t x ix, ty, pos, after, gd⟩ s (s.putD dst (.rp id (i + j.toNat) 0 k)) :=
  local_pure (o := ⟨dst, .indexAddr t x ix, ty, pos, after, gd⟩) fun a w g hg => by
    have h := hg.ev hx
    generalize hv : a.eval x = v at h
    cases h with
    | pc _ _ _ _ blk cap hgi hi =>
      refine ⟨.pointer (some ⟨blk, (i + j.toNat) * k + 0, none⟩), ?_, .rp id _ 0 k blk cap hgi⟩
      have := run_indexAt (P := P) hu hs blk (i * k) m (cap - i) ki j j.toNat (by omega) (by omega) w
      rw [show i * k + j.toNat * k = (i + j.toNat) * k + 0 by rw [Nat.add_mul, Nat.add_zero]] at this
      simp [execOp, hv, ev_int hg hix, this, Result.andThen]
    | pc0 => omega

/-- A piece is cleared. -/
theorem LR.clearPc {x : Operand} {id i n k : Nat} {t e : TypeId} {l : List (List DV)} {z : Value} {zs : List Value} (hu : P.underlying t = some (.slice e)) (hx : s.ev x = some (.pc id i n k)) (hl : look s.objs id = some (.row e k l))
    (hz : ∀ w, (zeroValue e).run P w = .ok z w) (hzs : z.cells = zs.toArray) (h1 : (zs.all Value.oneCell') = true) (hk : zs.length = k) (hin : i + n ≤ l.length) (hd : dst = none) :
    Local P ctx ⟨dst, .call ⟨.builtin .clear, #[x], #[t]⟩, ty, pos, after, gd⟩ s (s.setO id (.row e k (l.take i ++ List.replicate n (zs.map zdv) ++ l.drop (i + n)))) := by
  subst hd
  refine local_value (o := ⟨none, .call ⟨.builtin .clear, #[x], #[t]⟩, ty, pos, after, gd⟩) fun a w g hg => ?_
  have h := hg.ev hx
  have hob := hg.objs id _ hl
  have hE : P.underlying t = some (.slice e) := hu
  generalize hv : a.eval x = v at h
  have hnil : n = 0 → ∀ g', Rel ctx (s.setO id (.row e k (l.take i ++ List.replicate n (zs.map zdv) ++ l.drop (i + n)))) a w ∨ g' = g := by
    intro h0
    subst h0
    intro g'
    left
    simp only [List.replicate_zero, List.append_nil, Nat.add_zero, List.take_append_drop]
    refine ⟨g, ?_⟩
    have hlk : ∀ j o, look (s.setO id (.row e k l)).objs j = some o ↔ look s.objs j = some o := by
      intro j o
      simp only [PState.setO]
      rw [look_putO]
      by_cases hj : j = id
      · subst hj; rw [if_pos rfl, hl]
      · rw [if_neg hj]
    have hF : ∀ b, Free ctx g s.objs b → Free ctx g (s.setO id (.row e k l)).objs b := fun b ⟨h1, h2⟩ => ⟨h1, fun j o m hj => h2 j o m ((hlk j o).1 hj)⟩
    have hst : Stays w w (Free ctx g s.objs) := ⟨Nat.le_refl _, fun _ _ _ => rfl⟩
    exact ⟨hg.defers, hg.size, fun q p hp => (hg.slots q p hp).keep hst (fun b hb _ => hF b hb) (fun _ _ => rfl), fun j o hj => (hg.objs j o ((hlk j o).1 hj)).keep hst (fun b hb _ => hF b hb) (fun _ _ _ => rfl) rfl (fun _ _ => rfl),
      fun p q op oq b n m hp hq => hg.inj p q op oq b n m ((hlk p op).1 hp) ((hlk q oq).1 hq), fun j o b n hj => hg.own j o b n ((hlk j o).1 hj), hg.os, hg.tape, hg.output, hg.grows, hg.keep⟩
  cases h with
  | pc0 _ _ _ ao c =>
    rcases hnil rfl (fun _ => none) with hr | hr
    · refine ⟨.tuple #[], w, ?_, hr⟩
      cases ao <;> simp [execOp, resolve, invoke, builtin, hv, Builtin.clear_, run_underlying hE, Result.andThen]
    · rcases hnil rfl (fun _ => some (0, 0)) with hr2 | hr2
      · refine ⟨.tuple #[], w, ?_, hr2⟩
        cases ao <;> simp [execOp, resolve, invoke, builtin, hv, Builtin.clear_, run_underlying hE, Result.andThen]
      · have := congrFun (hr.trans hr2.symm) 0; cases this
  | pc _ _ _ _ blk cap hgi hi =>
    by_cases hn0 : n = 0
    · have hr : Rel ctx (s.setO id (.row e k (l.take i ++ List.replicate n (zs.map zdv) ++ l.drop (i + n)))) a w := by
        rcases hnil hn0 (fun _ => none) with hr | hr
        · exact hr
        · have := congrFun hr id; rw [hgi] at this; cases this
      subst hn0
      refine ⟨.tuple #[], w, ?_, hr⟩
      simp [execOp, resolve, invoke, builtin, hv, Builtin.clear_, run_underlying hE, Result.andThen]
    cases hob with
    | rowNil _ _ hgn => rw [hgn] at hgi; cases hgi
    | row _ _ _ blk' cap' cur h' hh hlc hcap hcs hkk hr =>
      rw [hgi] at h'
      cases h'
      have hlen : ((Builtin.zeroCells z.cells n).toList).length = n * k := by rw [zc_len, hzs]; simp [hk]
      have hroom : i * k + n * k ≤ cur.length := by
        rw [hcs, ← Nat.add_mul]; exact Nat.mul_le_mul_right k hi
      have hz1 : ∀ u ∈ (Builtin.zeroCells z.cells n).toList, u.oneCell' = true := by
        intro u hu
        obtain ⟨j, hj⟩ := List.getElem?_of_mem hu
        have hjl := (List.getElem?_eq_some_iff.1 hj).1
        rw [hlen] at hjl
        have hk0 : 0 < k := by
          rcases Nat.eq_zero_or_pos k with h | h
          · subst h; omega
          · exact h
        rw [hzs] at hj
        simp [Builtin.zeroCells, hk, hjl] at hj
        have ht : j % k < zs.length := by rw [hk]; exact Nat.mod_lt _ hk0
        rw [List.getElem?_eq_getElem ht] at hj
        simp at hj
        subst hj
        simp at h1
        exact h1 _ (List.getElem_mem ht)
      have hrun := run_storeCells_at P blk (i * k) e (Builtin.zeroCells z.cells n).toList 0 cur.toArray w hh (by simpa [hlen] using hroom) hz1
      let new : List Value := cur.take (i * k) ++ (Builtin.zeroCells z.cells n).toList ++ cur.drop (i * k + n * k)
      have hrun' : (storeCells ⟨blk, i * k, none⟩ (Builtin.zeroCells z.cells n).toList).run P w = .ok () (w.setRow blk new.toArray) := by
        simpa [hlen, new] using hrun
      refine ⟨.tuple #[], w.setRow blk new.toArray, ?_, g, ?_⟩
      · have hn' : ∃ n', n = n' + 1 := ⟨n - 1, by omega⟩
        obtain ⟨n', rfl⟩ := hn'
        simp [execOp, resolve, invoke, builtin, hv, Builtin.clear_, run_underlying hE, hz, hrun', Result.andThen]
      · have hown := hg.own id _ blk cap hl hgi
        have hother : ∀ k, k < w.heap.size → k ≠ blk → (w.setRow blk new.toArray).heap[k]? = w.heap[k]? := fun k _ hne => setRow_other w blk k _ hne
        have hst : Stays w (w.setRow blk new.toArray) (Free ctx g s.objs) := ⟨by simp, fun b ⟨_, h2⟩ hlt => hother b hlt fun e => by subst e; exact h2 id _ cap hl hgi⟩
        refine hg.wrote hl hgi rfl rfl rfl (by simp) hother hown.2 ?_
        have hll : (l.take i ++ List.replicate n (zs.map zdv) ++ l.drop (i + n)).length = l.length := by simp; omega
        have hget : ∀ t, new[t]? = if t < i * k then cur[t]? else if t < i * k + n * k then (Builtin.zeroCells z.cells n).toList[t - i * k]? else cur[t]? := by
          intro t
          show (cur.take (i * k) ++ (Builtin.zeroCells z.cells n).toList ++ cur.drop (i * k + n * k))[t]? = _
          rw [List.append_assoc, List.getElem?_append]
          have l1 : (cur.take (i * k)).length = i * k := by simp; omega
          rw [l1]
          by_cases h3 : t < i * k
          · rw [if_pos h3, if_pos h3]; simp [h3]
          · rw [if_neg h3, if_neg h3, List.getElem?_append, hlen]
            by_cases h4 : t - i * k < n * k
            · rw [if_pos h4, if_pos (by omega)]
            · rw [if_neg h4, if_neg (by omega), List.getElem?_drop]
              congr 1; omega
        have hlget : ∀ q, (l.take i ++ List.replicate n (zs.map zdv) ++ l.drop (i + n))[q]? = if q < i then l[q]? else if q < i + n then some (zs.map zdv) else l[q]? := by
          intro q
          rw [List.append_assoc, List.getElem?_append]
          have l1 : (l.take i).length = i := by simp; omega
          rw [l1]
          by_cases h3 : q < i
          · rw [if_pos h3, if_pos h3]; simp [h3]
          · rw [if_neg h3, if_neg h3, List.getElem?_append]
            simp only [List.length_replicate]
            by_cases h4 : q - i < n
            · rw [if_pos h4, if_pos (by omega), List.getElem?_replicate, if_pos h4]
            · rw [if_neg h4, if_neg (by omega), List.getElem?_drop]
              congr 1; omega
        refine .row e k _ blk cap new hgi (heap_setRow_same hh) (by rw [hll]; exact hlc) hcap (by show (cur.take (i * k) ++ (Builtin.zeroCells z.cells n).toList ++ cur.drop (i * k + n * k)).length = _; rw [List.length_append, List.length_append, hlen, List.length_take, List.length_drop, Nat.min_eq_left (by omega), ← hcs]; omega) (fun q cs hq => ?_) (fun q cs t x hq hx => ?_)
        · rw [hlget] at hq
          split at hq
          · exact hkk q cs hq
          · split at hq
            · simp only [Option.some.injEq] at hq; subst hq; simpa using hk
            · exact hkk q cs hq
        · have hcsk : cs.length = k := by
            rw [hlget] at hq
            split at hq
            · exact hkk q cs hq
            · split at hq
              · simp only [Option.some.injEq] at hq; subst hq; simpa using hk
              · exact hkk q cs hq
          have htk : t < k := by rw [← hcsk]; exact (List.getElem?_eq_some_iff.1 hx).1
          rw [hlget] at hq
          rw [hget]
          by_cases h3 : q < i
          · rw [if_pos h3] at hq
            have : q * k + t < i * k := by
              have := Nat.mul_le_mul_right k (show q + 1 ≤ i by omega)
              rw [Nat.add_mul, Nat.one_mul] at this; omega
            rw [if_pos this]
            obtain ⟨u, h5, h6⟩ := hr q cs t x hq hx
            exact ⟨u, h5, h6.keep hst (fun b hb _ => free_put hl b hb)⟩
          · rw [if_neg h3] at hq
            have h3' : ¬ q * k + t < i * k := by
              have := Nat.mul_le_mul_right k (show i ≤ q by omega); omega
            rw [if_neg h3']
            by_cases h4 : q < i + n
            · rw [if_pos h4] at hq
              have : q * k + t < i * k + n * k := by
                have := Nat.mul_le_mul_right k (show q + 1 ≤ i + n by omega)
                rw [Nat.add_mul, Nat.one_mul, Nat.add_mul] at this; omega
              rw [if_pos this]
              simp only [Option.some.injEq] at hq
              subst hq
              have htz : t < zs.length := by rw [hk]; exact htk
              rw [List.getElem?_map, List.getElem?_eq_getElem htz] at hx
              simp only [Option.map_some, Option.some.injEq] at hx
              subst hx
              refine ⟨zs[t], ?_, zdv_rd _ _ _ (by simp at h1; exact h1 _ (List.getElem_mem htz))⟩
              have e1 : q * k + t - i * k = (q - i) * k + t := by rw [Nat.sub_mul]; have := Nat.mul_le_mul_right k (show i ≤ q by omega); omega
              have hlt : (q - i) * k + t < n * k := by rw [← e1]; omega
              have e2 : ((q - i) * k + t) % k = t := by rw [Nat.mul_comm, Nat.mul_add_mod, Nat.mod_eq_of_lt htk]
              rw [e1, hzs]
              simp [Builtin.zeroCells, hlt, hk, e2]
              rw [List.getElem?_eq_getElem htz]; rfl
            · rw [if_neg h4] at hq
              have : ¬ q * k + t < i * k + n * k := by
                have := Nat.mul_le_mul_right k (show i + n ≤ q by omega)
                rw [Nat.add_mul] at this; omega
              rw [if_neg this]
              obtain ⟨u, h5, h6⟩ := hr q cs t x hq hx
              exact ⟨u, h5, h6.keep hst (fun b hb _ => free_put hl b hb)⟩

/-! ### .. of typed lists -/
variable {α : Type} {enc : α → List DV} {L : List α}
theorem LR.pieceRowT {x lo : Operand} {id n k : Nat} {t e : TypeId} {kx : IntKind} {i : Int} (hu : P.underlying t = some (.slice e)) (hs : ∀ w, (sizeOf e).run P w = .ok k w)
    (hx : s.ev x = some (.row id n)) (hm : n = L.length) (hl : look s.objs id = some (.row e k (L.map enc))) (hlo : s.ev lo = some (.d (.v (.int kx i)))) (hi : (0 : Int) ≤ i ∧ i ≤ (L.length : Int)) :
    Local P ctx ⟨dst, .slice t x (some lo) none none, ty, pos, after, gd⟩ s (s.putD dst (.pc id i.toNat (L.length - i.toNat) k)) := by
  subst hm
  exact LR.pieceRow hu hs hx hl (by simp) hlo hi
theorem LR.clearPcT {x : Operand} {id i n k : Nat} {t e : TypeId} {z : α} {zv : Value} {zs : List Value} (hu : P.underlying t = some (.slice e)) (hx : s.ev x = some (.pc id i n k)) (hl : look s.objs id = some (.row e k (L.map enc)))
    (hz : ∀ w, (zeroValue e).run P w = .ok zv w) (hzs : zv.cells = zs.toArray) (h1 : (zs.all Value.oneCell') = true) (hk : zs.length = k) (he : zs.map zdv = enc z) (hin : i + n ≤ L.length) (hd : dst = none) :
    Local P ctx ⟨dst, .call ⟨.builtin .clear, #[x], #[t]⟩, ty, pos, after, gd⟩ s (s.setO id (.row e k ((L.take i ++ List.replicate n z ++ L.drop (i + n)).map enc))) := by
  have := LR.clearPc (P := P) (ctx := ctx) (dst := dst) (ty := ty) (pos := pos) (after := after) (gd := gd) hu hx hl hz hzs h1 hk (by simpa using hin) hd
  rw [he, ← List.map_take, ← List.map_drop, ← List.map_replicate, ← List.map_append, ← List.map_append] at this
  exact this
end
end Go.Ep

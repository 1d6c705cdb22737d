/- Walks over pure states: slice literals, make, cuts, structs, calls; a function's contract from its walk. No program in sight. -/
import Derived.Test.YtacnidaafcfgiaaGreatEp5
namespace Go.Ep
open Go.RowKit

section
variable {P : Program} {ctx : Ctx} {Q : PQ} {s : PState}
variable {dst : Option Tmp} {ty : TypeId} {pos : String} {after : Array Edge} {gd : Option (Nat × Bool)}

theorem enum_map {α β : Type} (f : α → β) : ∀ (l : List α) (i : Nat), (enum i l).map (fun x => (x.1, f x.2)) = enum i (l.map f)
  | [], _ => rfl
  | x :: r, i => by simp [enum, enum_map f r]

theorem flat_get {k : Nat} : ∀ (us : List (List Value)) (i j : Nat) (u : List Value) (v : Value), (∀ u ∈ us, u.length = k) → us[i]? = some u → u[j]? = some v → us.flatten[i * k + j]? = some v
  | [], i, j, u, v, _, h, _ => by simp at h
  | w :: r, 0, j, u, v, hk, h, hv => by
    simp at h
    subst h
    have : j < w.length := (List.getElem?_eq_some_iff.1 hv).1
    rw [Nat.zero_mul, Nat.zero_add, List.flatten_cons, List.getElem?_append_left this]
    exact hv
  | w :: r, i + 1, j, u, v, hk, h, hv => by
    simp at h
    have hw : w.length = k := hk w (by simp)
    have := flat_get r i j u v (fun u hu => hk u (by simp [hu])) h hv
    rw [List.flatten_cons, List.getElem?_append_right (by rw [hw, Nat.add_mul]; omega), hw]
    rw [show (i + 1) * k + j - k = i * k + j from by rw [Nat.add_mul]; omega]
    exact this

theorem LR.buildSlice {id n k bs : Nat} {t e : TypeId} {parts : Array (Nat × Operand)} (xs : List Operand) {l : List (List DV)} (hE : ElemOK P t e k bs) (hparts : parts = (enum 0 xs).toArray) (hn : n = xs.length) (hel : Elems s k xs l) (hsmall : n * k ≤ 16777216) (hk0 : 0 < k) (hf : s.fresh id = true) :
    Local P ctx ⟨some id, .buildSlice t n parts, ty, pos, after, gd⟩ s (s.newO id (.row e k l) (.row id l.length)) :=
  local_value (o := ⟨some id, .buildSlice t n parts, ty, pos, after, gd⟩) fun a w g hg => by
    obtain ⟨us, h1, h2, h3, h4⟩ := hel.real hg
    obtain ⟨i, z, hi, hz, hsize, hbytes, hzs⟩ := hE.i
    subst hparts
    subst hn
    have hll : l.length = xs.length := hel.len
    have huk : ∀ u ∈ us, u.length = k := fun u hu => by
      obtain ⟨j, hj, rfl⟩ := List.getElem_of_mem hu
      exact (h2 j (xs[j]'(by omega)) us[j] (List.getElem?_eq_getElem (by omega)) (List.getElem?_eq_getElem hj)).2
    have hfl : us.flatten.length = xs.length * k := by
      rw [← h1]
      clear h1 h2 h3 h4
      induction us with
      | nil => simp
      | cons u r ih => simp [ih (fun v hv => huk v (by simp [hv])), huk u (by simp), Nat.add_mul]; omega
    have hrun : (Instr.buildSlice t xs.length ((enum 0 xs).toArray.map fun (i, x) => (i, a.eval x))).run P w = .ok (.slice (some ⟨w.heap.size, 0, none⟩) xs.length xs.length) (w.alloc (.cells us.flatten.toArray e)) := by
      have e1 : ((enum 0 xs).toArray.map fun (i, x) => (i, a.eval x)).toList = enum 0 (xs.map a.eval) := by simp; exact enum_map a.eval xs 0
      have hfill : ∀ zz : List Value, zz.length = xs.length * k → Instr.fill (fun i => some (i * k, k)) zz.toArray (enum 0 (xs.map a.eval)) = some us.flatten.toArray := fun zz hzz => by
        have := fill_enum (k := k) (xs.map a.eval) us 0 [] zz (by simp [h1]) (fun j v u hv hu => by
          simp at hv
          obtain ⟨x, hx, rfl⟩ := hv
          exact h2 j x u hx hu) (by simp) (by simpa using hzz)
        simpa using this
      have hs' : ∀ w, (sizeOf e).run P w = .ok k w := hE.sizeOf
      unfold Instr.buildSlice
      simp only [Sem.run_bind, run_underlying hE.u, Result.andThen_ok, hs', e1]
      have n1 : ¬ (xs.length * k > 2 ^ 24) := by omega
      simp only [n1, if_false]
      by_cases h0 : xs.length * k = 0
      · have hz0 := hfill [] (by simp [h0])
        have e0 : (Array.range 0).map (fun _ : Nat => (default : Value)) = #[] := by simp [Array.range_zero']
        simp [h0, hz0, newRow, e0]
      · have hzz : ((Array.range (xs.length * k)).map fun x => z.cells[x % z.cells.size]!).toList.length = xs.length * k := by simp
        have := hfill _ hzz
        simp only [Array.toArray_toList] at this
        simp [h0, zeroValue, typeInfo, hi, hz, this, newRow]
    have hres := hg.newRow (id := id) hf (e := e) (k := k) (cap := xs.length) (l := l) (cur := us.flatten) (by omega) (by unfold maxLen; have : xs.length ≤ 16777216 := Nat.le_trans (Nat.le_mul_of_pos_right _ hk0) hsmall; omega) hfl hel.each (fun i cs j x hi hx => by
      obtain ⟨u, v, e1, e2, e3⟩ := h4 i cs j x hi hx
      exact ⟨v, flat_get us i j u v huk e1 e2, e3⟩)
    rw [hll] at hres ⊢
    exact ⟨_, _, by simp only [execOp, Sem.run_bind, hrun, Result.andThen_ok, Sem.run_pure], hres⟩

/-! ### make -/
theorem cast_mul_le {a b c : Nat} (h : a * b ≤ c) : (a : Int) * (b : Int) ≤ (c : Int) := by
  rw [← Int.natCast_mul]; exact Int.ofNat_le.2 h
theorem LR.make0 {id n k bs : Nat} {t e : TypeId} {x y : Operand} {kl kc : IntKind} {C : Int} (hE : ElemOK P t e k bs) (hx : s.ev x = some (.d (.v (.int kl 0)))) (hy : s.ev y = some (.d (.v (.int kc C)))) (hC : C = n) (hb : bs * n ≤ 281474976710656) (hn : n ≤ 281474976710656) (hf : s.fresh id = true) :
    Local P ctx ⟨some id, .makeSlice t x y, ty, pos, after, gd⟩ s (s.newO id (.row e k []) (.row id 0)) :=
  local_value (o := ⟨some id, .makeSlice t x y, ty, pos, after, gd⟩) fun a w g hg => by
    obtain ⟨i, z, hi, hz, hsize, hbytes, hzs⟩ := hE.i
    subst hC
    have hrun := run_make (P := P) w t e i z hE.u hi hz kl kc 0 (n : Int) (by omega) (by omega) (by rw [hbytes]; exact cast_mul_le hb) (by omega)
    have hres := hg.newRow (id := id) hf (e := e) (k := k) (cap := n) (l := []) (cur := (madeCells z.cells (n * k)).toList) (by simp) (by unfold maxLen; omega) (by simp [size_madeCells]) (by simp) (by simp)
    refine ⟨_, _, ?_, hres⟩
    simp only [execOp, Sem.run_bind, ev_int hg hx, ev_int hg hy, hrun, Result.andThen_ok, Sem.run_pure]
    simp [hsize]

theorem LR.makeN {id n k bs : Nat} {t e : TypeId} {x y : Operand} {kl kc : IntKind} {L C : Int} {z : Value} {zs : List Value} (hE : ElemOK P t e k bs) (hzv : ∀ w, (zeroValue e).run P w = .ok z w) (hzc : z.cells = zs.toArray) (h1 : (zs.all Value.oneCell') = true)
    (hx : s.ev x = some (.d (.v (.int kl L)))) (hy : s.ev y = some (.d (.v (.int kc C)))) (hL : L = n) (hC : C = n) (hb : bs * n ≤ 281474976710656) (hn : n ≤ 281474976710656) (hf : s.fresh id = true) :
    Local P ctx ⟨some id, .makeSlice t x y, ty, pos, after, gd⟩ s (s.newO id (.row e k (List.replicate n (zs.map zdv))) (.row id n)) :=
  local_value (o := ⟨some id, .makeSlice t x y, ty, pos, after, gd⟩) fun a w g hg => by
    obtain ⟨i, z', hi, hz, hsize, hbytes, hzs⟩ := hE.i
    have hzz : z' = z := by
      have := hzv w
      simp [zeroValue, typeInfo, hi, hz] at this
      exact this
    subst hzz
    subst hC
    subst hL
    have hzl : zs.length = k := by rw [hzc] at hzs; simpa using hzs
    have hrun := run_make (P := P) w t e i z' hE.u hi hz kl kc (n : Int) (n : Int) (by omega) (by omega) (by rw [hbytes]; exact cast_mul_le hb) (by omega)
    have hres := hg.newRow (id := id) hf (e := e) (k := k) (cap := n) (l := List.replicate n (zs.map zdv)) (cur := (madeCells z'.cells (n * k)).toList) (by simp) (by unfold maxLen; omega) (by simp [size_madeCells])
      (fun j cs hj => by
        rw [List.getElem?_replicate] at hj
        split at hj
        · simp at hj; subst hj; simpa using hzl
        · cases hj)
      (fun j cs t x hj hx => by
        rw [List.getElem?_replicate] at hj
        split at hj
        · rename_i hjn
          simp only [Option.some.injEq] at hj
          subst hj
          have ht : t < zs.length := by have := (List.getElem?_eq_some_iff.1 hx).1; simpa using this
          have hlt : j * k + t < n * k := idx_lt hjn (by omega)
          simp [ht] at hx
          subst hx
          refine ⟨zs[t], ?_, zdv_rd w _ _ (by simp at h1; exact h1 _ (List.getElem_mem ht))⟩
          have e2 : (j * k + t) % k = t := by rw [Nat.mul_comm, Nat.mul_add_mod, Nat.mod_eq_of_lt (by omega)]
          simp [madeCells, hlt, hzc, hzl, e2]
          rw [List.getElem?_eq_getElem ht]; rfl
        · cases hj)
    simp only [List.length_replicate] at hres
    refine ⟨_, _, ?_, hres⟩
    simp only [execOp, Sem.run_bind, ev_int hg hx, ev_int hg hy, hrun, Result.andThen_ok, Sem.run_pure]
    simp [hsize]

/-! ### A row becomes data -/
def PState.sets (s : PState) (p : PV) : List Nat → PState
  | [] => s
  | d :: r => (s.put d p).sets p r
theorem sets_objs (p : PV) (js : List Nat) : ∀ s : PState, (s.sets p js).objs = s.objs := by
  induction js with
  | nil => intro s; rfl
  | cons d r ih => intro s; simp [PState.sets, ih, PState.put]
theorem sets_len (p : PV) (js : List Nat) : ∀ s : PState, (s.sets p js).n = s.n := by
  induction js with
  | nil => intro s; rfl
  | cons d r ih => intro s; simp [PState.sets, ih, PState.put]
theorem sets_get (p : PV) (js : List Nat) : ∀ (s : PState) (i : Nat) (q : PV), (s.sets p js).at i = some q → (i ∈ js ∧ q = p) ∨ (s.at i = some q) := by
  induction js with
  | nil => intro s i q h; exact .inr h
  | cons d r ih =>
    intro s i q h
    rcases ih (s.put d p) i q h with ⟨h1, h2⟩ | h2
    · exact .inl ⟨by simp [h1], h2⟩
    · rcases put_at s d p i q h2 with ⟨e, e2⟩ | ⟨_, h3⟩
      · exact .inl ⟨by simp [e], e2⟩
      · exact .inr h3

def PState.frz (s : PState) (id : Nat) (l : List (List DV)) (js : List Nat) : PState := { n := s.n, sl := (s.sets (.d (.sl l)) js).sl, objs := delO id s.objs }

theorem Sub.frz {id n k : Nat} {e : TypeId} {l : List (List DV)} (js : List Nat) (hK : ∀ b, ctx.K b → ctx.S b) (hl : look s.objs id = some (.row e k l)) (hn : l.length = n) (hjs : ∀ j ∈ js, s.at j = some (.row id n)) : Sub ctx s (s.frz id l js) := by
  rintro a w ⟨g, h⟩
  have hF : ∀ b, Free ctx g s.objs b → Free ctx g (delO id s.objs) b := fun b ⟨h1, h2⟩ => ⟨h1, fun j o m hj hg => by
    rw [look_delO] at hj
    split at hj
    · cases hj
    · exact h2 j o m hj hg⟩
  have hst : Stays w w (Free ctx g s.objs) := ⟨Nat.le_refl _, fun _ _ _ => rfl⟩
  have hlk : ∀ {j : Nat} {o : Ob}, look (delO id s.objs) j = some o → j ≠ id ∧ look s.objs j = some o := fun {j o} hj => by
    rw [look_delO] at hj
    split at hj
    · cases hj
    · rename_i hne; exact ⟨hne, hj⟩
  refine ⟨g, ⟨h.defers, h.size, ?_, ?_, ?_, ?_, h.os, h.tape, h.output, h.grows, h.keep⟩⟩
  · intro i p hp
    have old : s.at i = some p → Rd w g (Free ctx g (delO id s.objs)) p (a.tmps.getD i undef) := fun hq => (h.slots i p hq).keep hst (fun b hb _ => hF b hb) (fun _ _ => rfl)
    have hp' : (s.sets (.d (.sl l)) js).at i = some p := at_of (by rw [sets_len]; exact at_lt (s := s.frz id l js) hp) (at_get (s := s.frz id l js) hp)
    rcases sets_get _ js s i p hp' with ⟨h1, rfl⟩ | h2
    · have hr := h.slots i _ (hjs i h1)
      have hob := h.objs id _ hl
      show Rd w g (Free ctx g (delO id s.objs)) (.d (.sl l)) (a.tmps.getD i undef)
      generalize hv : a.tmps.getD i undef = v at hr
      cases hob with
      | rowNil _ _ hgn =>
        cases hr with
        | row _ _ blk cap hgi => rw [hgn] at hgi; cases hgi
        | rowNil => exact .d (.nil none 0 (Nat.zero_le _) (fun _ => rfl))
      | row _ _ _ blk' cap' cur hgi hh hlc hcap hcs hkk hr' =>
        cases hr with
        | rowNil _ hgn => rw [hgn] at hgi; cases hgi
        | row _ _ blk cap hgi' =>
          rw [hgi] at hgi'
          cases hgi'
          subst hn
          have hown := h.own id _ blk' cap' hl hgi
          have hfree : Free ctx g (delO id s.objs) blk' := ⟨hown.2.elim .inr fun hh => .inl (hK _ hh), fun j o m hj hgj => by
            obtain ⟨hne, hj'⟩ := hlk hj
            exact hne (h.inj j id o _ blk' m cap' hj' hl hgj hgi)⟩
          refine .d (.sl l blk' 0 cap' k (fun i j => cur.getD (i * k + j) undef) hlc hcap hfree hown.1 hkk ?_ ?_)
          · intro i j hi hj
            have hlt : i * k + j < cur.length := by rw [hcs]; exact idx_lt (by omega) hj
            rw [cell_of_heap hh]
            simp [hlt]
          · intro i cs j x hi hx
            obtain ⟨u, hu, hd⟩ := hr' i cs j x hi hx
            have e : cur.getD (i * k + j) undef = u := by simp [List.getD, hu]
            show DRd w _ x (cur.getD (i * k + j) undef)
            rw [e]
            exact hd.keep hst (fun b hb _ => hF b hb)
    · exact old h2
  · intro j o hj
    obtain ⟨_, hj'⟩ := hlk hj
    exact (h.objs j o hj').keep hst (fun b hb _ => hF b hb) (fun _ _ _ => rfl) rfl (fun _ _ => rfl)
  · intro i j oi oj b n m hi hj
    exact h.inj i j oi oj b n m (hlk hi).2 (hlk hj).2
  · intro j o b n hj
    exact h.own j o b n (hlk hj).2

/-! ### Cuts of data -/
theorem run_sliceBound' {w : World} {kx : IntKind} {i : Int} {y n : Nat} {code : BoundsCode} (hi : i = n) (hn : n ≤ y) : (Instr.sliceBound (.int kx i) y code).run P w = .ok n w := by
  subst hi
  have : (0 : Int) ≤ n ∧ (n : Int) ≤ y := by omega
  simp [Instr.sliceBound, asIntOf, this]

theorem cut_rd {w : World} {S : Nat → Prop} {l : List (List DV)} {ao : Option Addr} {len cap lo hi k : Nat} (h : DRd w S (.sl l) (.slice ao len cap)) (hlo : lo ≤ hi) (hhi : hi ≤ l.length) (hk : ∀ (i : Nat) (cs : List DV), l[i]? = some cs → cs.length = k) :
    DRd w S (.sl ((l.take hi).drop lo)) (.slice (if cap = lo then ao else ao.map (·.add (lo * k))) (hi - lo) (cap - lo)) := by
  have hll : ((l.take hi).drop lo).length = hi - lo := by simp; omega
  by_cases h0 : hi - lo = 0
  · have : (l.take hi).drop lo = [] := List.eq_nil_of_length_eq_zero (by omega)
    rw [this, h0]
    cases h with
    | nil _ _ hc hn => exact .nil _ _ (by omega) (fun e => by
        split at e
        · omega
        · cases ao with
          | none => have := hn rfl; omega
          | some x => simp at e)
    | sl _ b off _ k' c hl hcap => exact .nil _ _ (by omega) (fun e => by
        split at e
        · cases e
        · simp at e)
  · cases h with
    | nil => simp at hhi; omega
    | sl _ b off _ k' c hl hcap hS hb hkk hc hr =>
      have hk' : k' = k := by
        have hlt : 0 < l.length := by omega
        rw [← hkk 0 _ (List.getElem?_eq_getElem hlt), hk 0 _ (List.getElem?_eq_getElem hlt)]
      subst hk'
      have hne : ¬ cap = lo := by omega
      have hget : ∀ i, i < hi - lo → ((l.take hi).drop lo)[i]? = l[lo + i]? := fun i hi' => by
        rw [List.getElem?_drop, List.getElem?_take, if_pos (by omega)]
      rw [if_neg hne]
      simp only [Option.map_some, Addr.add_lit]
      rw [← hll]
      refine .sl _ b (off + lo * k') (cap - lo) k' (fun i j => c (lo + i) j) (by omega) (by omega) hS hb ?_ ?_ ?_
      · intro i cs hi'
        have : i < hi - lo := by rw [← hll]; exact (List.getElem?_eq_some_iff.1 hi').1
        rw [hget i this] at hi'
        exact hkk _ cs hi'
      · intro i j hi' hj
        have := hc (lo + i) j (by omega) hj
        rw [Nat.add_mul] at this
        rw [← this]
        congr 2
        omega
      · intro i cs j x hi' hx
        have : i < hi - lo := by rw [← hll]; exact (List.getElem?_eq_some_iff.1 hi').1
        rw [hget i this] at hi'
        exact hr _ cs j x hi' hx

section
variable {x lo hi : Operand} {l : List (List DV)} {k m n : Nat} {t e : TypeId} {k1 k2 : IntKind} {i j : Int} (hu : P.underlying t = some (.slice e)) (hs : ∀ w, (sizeOf e).run P w = .ok k w) (hx : s.ev x = some (.d (.sl l))) (hk : ∀ (i : Nat) (cs : List DV), l[i]? = some cs → cs.length = k)
include hu hs hx hk
theorem LR.sliceLH (h1 : s.ev lo = some (.d (.v (.int k1 i)))) (h2 : s.ev hi = some (.d (.v (.int k2 j)))) (hi' : i = m) (hj : j = n) (hmn : m ≤ n) (hn : n ≤ l.length) :
    Local P ctx ⟨dst, .slice t x (some lo) (some hi) none, ty, pos, after, gd⟩ s (s.putD dst (.d (.sl ((l.take n).drop m)))) :=
  local_pure (o := ⟨dst, .slice t x (some lo) (some hi) none, ty, pos, after, gd⟩) fun a w g hg => by
    have h := hg.ev hx
    generalize hv : a.eval x = v at h
    have hd : DRd w (Free ctx g s.objs) (.sl l) v := by cases h with | d h => exact h
    obtain ⟨ao, len, cap, rfl, hlc⟩ : ∃ ao len cap, v = .slice ao len cap ∧ l.length ≤ cap := by cases hd with | nil a c => exact ⟨a, 0, c, rfl, by simp⟩ | sl _ b off cap k c hl => exact ⟨_, _, cap, rfl, hl⟩
    refine ⟨_, ?_, .d (cut_rd hd hmn hn hk)⟩
    simp [execOp, hv, ev_int hg h1, ev_int hg h2, Instr.sliceAt, Instr.slice, Instr.sliceBounds, run_underlying hu, hs, run_sliceBound' (P := P) hj (show n ≤ cap by omega), run_sliceBound' (P := P) hi' hmn, Result.andThen]
theorem LR.sliceL (h1 : s.ev lo = some (.d (.v (.int k1 i)))) (hi' : i = m) (hn : m ≤ l.length) :
    Local P ctx ⟨dst, .slice t x (some lo) none none, ty, pos, after, gd⟩ s (s.putD dst (.d (.sl (l.drop m)))) :=
  local_pure (o := ⟨dst, .slice t x (some lo) none none, ty, pos, after, gd⟩) fun a w g hg => by
    have h := hg.ev hx
    generalize hv : a.eval x = v at h
    have hd : DRd w (Free ctx g s.objs) (.sl l) v := by cases h with | d h => exact h
    obtain ⟨ao, cap, rfl, hlc⟩ : ∃ ao cap, v = .slice ao l.length cap ∧ l.length ≤ cap := by cases hd with | nil a c => exact ⟨a, c, rfl, by simp⟩ | sl _ b off cap k c hl => exact ⟨_, cap, rfl, hl⟩
    have hcut := cut_rd hd hn (Nat.le_refl l.length) hk
    rw [List.take_length] at hcut
    refine ⟨_, ?_, .d hcut⟩
    simp [execOp, hv, ev_int hg h1, Instr.sliceAt, Instr.slice, Instr.sliceBounds, run_underlying hu, hs, run_sliceBound' (P := P) hi' hn, Result.andThen]
theorem LR.sliceH (h2 : s.ev hi = some (.d (.v (.int k2 j)))) (hj : j = n) (hn : n ≤ l.length) :
    Local P ctx ⟨dst, .slice t x none (some hi) none, ty, pos, after, gd⟩ s (s.putD dst (.d (.sl (l.take n)))) :=
  local_pure (o := ⟨dst, .slice t x none (some hi) none, ty, pos, after, gd⟩) fun a w g hg => by
    have h := hg.ev hx
    generalize hv : a.eval x = v at h
    have hd : DRd w (Free ctx g s.objs) (.sl l) v := by cases h with | d h => exact h
    obtain ⟨ao, len, cap, rfl, hlc⟩ : ∃ ao len cap, v = .slice ao len cap ∧ l.length ≤ cap := by cases hd with | nil a c => exact ⟨a, 0, c, rfl, by simp⟩ | sl _ b off cap k c hl => exact ⟨_, _, cap, rfl, hl⟩
    have hcut := cut_rd hd (Nat.zero_le n) hn hk
    refine ⟨_, ?_, .d (by simpa using hcut)⟩
    simp [execOp, hv, ev_int hg h2, Instr.sliceAt, Instr.slice, Instr.sliceBounds, run_underlying hu, hs, run_sliceBound' (P := P) hj (show n ≤ cap by omega), Result.andThen]
end
end
end Go.Ep

/- Walks over pure states: maps. Their entries lie in an order of their own; a loop over one takes them in any order. No program in sight. -/
import Derived.Test.YtacnidaafcfgiaaGreatEp10
import Derived.MapKept
namespace Go.Ep
open Go.RowKit

abbrev Mp := List (List Int × List DV)

def pfind (ns : List Int) : Mp → Nat → Option Nat
  | [], _ => none
  | (m, _) :: r, i => if m = ns then some i else pfind ns r (i + 1)
def mget : Mp → List Int → Option (List DV)
  | [], _ => none
  | (m, cs) :: r, ns => if m = ns then some cs else mget r ns
def mset : Mp → List Int → List DV → Mp
  | [], ns, v => [(ns, v)]
  | (m, cs) :: r, ns, v => if m = ns then (m, v) :: r else (m, cs) :: mset r ns v
def mdel : Mp → List Int → Mp
  | [], _ => []
  | (m, cs) :: r, ns => if m = ns then r else (m, cs) :: mdel r ns
def bset (m : Mp) (ns : List Int) (bs : List Nat) (ck : Nat) : List Nat := match mget m ns with | some _ => bs | none => bs ++ [ck]
def cset (m : Mp) (ns : List Int) (ck : Nat) : Nat := match mget m ns with | some _ => ck | none => ck + 1

/-- A key, an element as a slot holds it. -/
def keyP : List IntKind → List Int → PV
  | [k], [n] => .d (.v (.int k n))
  | ks, ns => .agg (List.zipWith (fun k n => .d (.v (.int k n))) ks ns)
def elP (ag : Bool) (cs : List DV) : PV := match ag with
  | true => .agg (cs.map .d)
  | false => match cs with | x :: _ => .d x | [] => .junk

theorem pfind_off (ns : List Int) : ∀ (m : Mp) (i j : Nat), pfind ns m i = some j → ∃ k, j = i + k ∧ ∃ cs, m[k]? = some (ns, cs) ∧ mget m ns = some cs
  | [], i, j, h => by simp [pfind] at h
  | (n, cs) :: r, i, j, h => by
    unfold pfind at h
    by_cases e : n = ns
    · subst e; rw [if_pos rfl] at h; cases h; exact ⟨0, rfl, cs, rfl, by simp [mget]⟩
    · rw [if_neg e] at h
      obtain ⟨k, h1, cs', h2, h3⟩ := pfind_off ns r (i + 1) j h
      exact ⟨k + 1, by omega, cs', by simpa using h2, by simp [mget, e, h3]⟩
theorem pfind_none (ns : List Int) : ∀ (m : Mp) (i : Nat), pfind ns m i = none → mget m ns = none
  | [], i, h => rfl
  | (n, cs) :: r, i, h => by
    unfold pfind at h
    by_cases e : n = ns
    · rw [if_pos e] at h; cases h
    · rw [if_neg e] at h; simp [mget, e, pfind_none ns r (i + 1) h]
theorem pfind_shift (ns : List Int) : ∀ (m : Mp) (i : Nat), pfind ns m i = (pfind ns m 0).map (i + ·)
  | [], i => rfl
  | (n, cs) :: r, i => by
    unfold pfind
    by_cases e : n = ns
    · simp [e]
    · rw [if_neg e, if_neg e, pfind_shift ns r (i + 1), pfind_shift ns r 1]
      cases pfind ns r 0 with
      | none => rfl
      | some j => simp; omega

/-- How a key is looked for. -/
structure KeyOK (P : Program) (kt : TypeId) (ks : List IntKind) : Prop where
  check : ∀ (w : World) (e : Bool) (ns : List Int), ns.length = ks.length → (Instr.checkKey e 10000 kt (keyV ks ns)).run P w = .ok () w
  find : ∀ (w : World) (ns : List Int) (m : Mp) (es : List MapEntry), ns.length = ks.length → es.length = m.length → (∀ (i : Nat) (e : MapEntry) (n : List Int) (c : List DV), es[i]? = some e → m[i]? = some (n, c) → e.key = keyV ks n ∧ n.length = ks.length) →
    (Instr.findKey kt (keyV ks ns) es).run P w = .ok ((pfind ns m 0).bind fun i => (es[i]?).map fun e => (i, e.val)) w

section
variable {P : Program}

theorem findNow_int (k : IntKind) (n : Int) : ∀ (m : Mp) (es : List MapEntry) (i : Nat), es.length = m.length → (∀ (i : Nat) (e : MapEntry) (n : List Int) (c : List DV), es[i]? = some e → m[i]? = some (n, c) → e.key = keyV [k] n ∧ n.length = 1) →
    Instr.findNow (.int k) (.int k n) es i = some ((pfind [n] m 0).bind fun j => (es[j]?).map fun e => (i + j, e.val))
  | [], es, i, hl, _ => by
    have : es = [] := List.eq_nil_of_length_eq_zero hl
    subst this
    simp [Instr.findNow, pfind]
  | (ns, c) :: m, [], i, hl, _ => by simp at hl
  | (ns, c) :: m, e :: es, i, hl, h => by
    obtain ⟨hk, hn⟩ := h 0 e ns c rfl rfl
    obtain ⟨a, rfl⟩ : ∃ a, ns = [a] := by
      match ns, hn with
      | [a], _ => exact ⟨a, rfl⟩
    have ih := findNow_int k n m es (i + 1) (by simpa using hl) (fun j e' n' c' h1 h2 => h (j + 1) e' n' c' (by simpa using h1) (by simpa using h2))
    unfold Instr.findNow
    simp only [hk, keyV, Instr.sameNow, if_true]
    by_cases e1 : n = a
    · subst e1; simp [pfind]
    · have e2 : ¬ [a] = [n] := fun h => e1 (by simpa using h.symm)
      have e3 : (n == a) = false := by simpa using e1
      simp only [e3]
      rw [ih]
      show some _ = some ((if [a] = [n] then some 0 else pfind [n] m (0 + 1)).bind _)
      rw [if_neg e2, pfind_shift [n] m (0 + 1)]
      cases pfind [n] m 0 with
      | none => rfl
      | some j =>
        simp only [Option.map_some, Option.bind_some, Nat.zero_add, Nat.add_comm 1 j, List.getElem?_cons_succ]
        cases es[j]? with
        | none => rfl
        | some x => simp; omega

theorem KeyOK.int {kt : TypeId} {k : IntKind} (hu : P.underlying kt = some (.int k)) : KeyOK P kt [k] := by
  refine ⟨fun w e ns hn => ?_, fun w ns m es hn hl h => ?_⟩
  · obtain ⟨a, rfl⟩ : ∃ a, ns = [a] := by
      match ns, hn with
      | [a], _ => exact ⟨a, rfl⟩
    exact MapKept.run_checkKey (k := .int k a) hu rfl e 9999
  · obtain ⟨a, rfl⟩ : ∃ a, ns = [a] := by
      match ns, hn with
      | [a], _ => exact ⟨a, rfl⟩
    have := findNow_int k a m es 0 hl (fun i e n c h1 h2 => by have := h i e n c h1 h2; exact ⟨this.1, by simpa using this.2⟩)
    simp [keyV, Instr.findKey, run_underlying hu, this]

theorem elV_rd {w : World} {g : Ghost} {S : Nat → Prop} {ag : Bool} {cs : List DV} {us : List Value} (hl : us.length = cs.length) (h1 : ag = false → cs.length = 1) (ho : ∀ u ∈ us, u.oneCell' = true) (hr : ∀ (j : Nat) (x : DV) (u : Value), cs[j]? = some x → us[j]? = some u → DRd w S x u) :
    Rd w g S (elP ag cs) (elV ag us) := by
  cases ag with
  | true =>
    refine .agg _ us (by simp [hl]) (fun i p u hp hu => ?_) ho
    rw [List.getElem?_map] at hp
    cases hx : cs[i]? with
    | none => simp [hx] at hp
    | some x => simp [hx] at hp; subst hp; exact .d (hr i x u hx hu)
  | false =>
    match cs, us, h1 rfl, hl with
    | [x], [u], _, _ => exact .d (hr 0 x u rfl rfl)

theorem keyV_rd (w : World) (g : Ghost) (S : Nat → Prop) (ks : List IntKind) (ns : List Int) : Rd w g S (keyP ks ns) (keyV ks ns) := by
  have agg : Rd w g S (.agg (List.zipWith (fun k n => PV.d (.v (.int k n))) ks ns)) (.agg (List.zipWith Value.int ks ns).toArray) := by
    refine .agg _ (List.zipWith Value.int ks ns) (by simp) (fun i p u hp hu => ?_) ?_
    · rw [List.getElem?_zipWith] at hp hu
      cases h1 : ks[i]? <;> cases h2 : ns[i]? <;> simp [h1, h2] at hp hu
      subst hp; subst hu
      exact .d (.v _ rfl)
    · intro u hu
      obtain ⟨i, hi, rfl⟩ := List.getElem_of_mem hu
      simp
      rfl
  rcases ks with _ | ⟨k, _ | ⟨k2, ks⟩⟩ <;> rcases ns with _ | ⟨n, _ | ⟨n2, ns⟩⟩ <;> first | exact agg | exact .d (.v _ rfl)

theorem keyP_eq {w : World} {g : Ghost} {S : Nat → Prop} {ks : List IntKind} {ns : List Int} {u : Value} (h : Rd w g S (keyP ks ns) u) : u = keyV ks ns := by
  have hv : ∀ (ks : List IntKind) (ns : List Int), vals (List.zipWith (fun k n => PV.d (.v (.int k n))) ks ns) = some (List.zipWith Value.int ks ns) := by
    intro ks
    induction ks with
    | nil => intro ns; simp [vals]
    | cons k ks ih => intro ns; cases ns with
      | nil => simp [vals]
      | cons n ns => simp [vals, ih ns]
  have ha := hv ks ns
  rcases ks with _ | ⟨k, _ | ⟨k2, ks⟩⟩ <;> rcases ns with _ | ⟨n, _ | ⟨n2, ns⟩⟩ <;> first | exact Rd.vals h ha | exact h.of_v

/-- A look-up in a map that lies at b. -/
theorem run_lookup {w : World} {S : Nat → Prop} {g : Ghost} {t kt et : TypeId} {ks : List IntKind} {ag : Bool} {m : Mp} {bs : List Nat} {ck b : Nat} {es : Array MapEntry} {ns : List Int} {z : Value} {zs : List DV} (hu : P.underlying t = some (.map kt et)) (K : KeyOK P kt ks) (hn : ns.length = ks.length)
    (hh : w.heap[b]? = some (.map es ck)) (hm : MapRd w S ks ag m bs ck es) (hz : ∀ w, (zeroValue et).run P w = .ok z w) (hzr : Rd w g S (elP ag zs) z) (ok : Bool) :
    ∃ v, (Instr.lookup t (.map (some b)) (keyV ks ns) ok).run P w = .ok (if ok then .tuple #[v, .bool (mget m ns).isSome] else v) w ∧ Rd w g S (elP ag ((mget m ns).getD zs)) v := by
  have hf := K.find w ns m es.toList hn (by simpa using hm.size) (fun i e n c h1 h2 => by
    obtain ⟨e', us, g1, g2, g3, g4, g5, g6, g7, g8⟩ := hm.ent i n c h2
    have : e' = e := by simp at h1; rw [g1] at h1; cases h1; rfl
    subst this
    exact ⟨g2, g7⟩)
  cases hp : pfind ns m 0 with
  | none =>
    have hg := pfind_none ns m 0 hp
    rw [hp] at hf
    refine ⟨z, ?_, by rw [hg]; exact hzr⟩
    simp only [Instr.lookup, Sem.run_bind, run_underlying hu, Result.andThen_ok, MapKept.run_getObj_map hh, Sem.run_pure, K.check w _ ns hn, hf, Option.bind_none, hz, hg, Option.isSome_none]
  | some j =>
    obtain ⟨k, h1, cs, h2, h3⟩ := pfind_off ns m 0 j hp
    have hjk : j = k := by omega
    subst hjk
    obtain ⟨e, us, g1, g2, g3, g4, g5, g6, g7, g8⟩ := hm.ent j ns cs h2
    rw [hp] at hf
    have he : es.toList[j]? = some e := by simpa using g1
    refine ⟨e.val, ?_, by rw [h3, g3]; exact elV_rd g4 g5 g6 g8⟩
    simp only [Option.bind_some, he, Option.map_some] at hf
    simp only [Instr.lookup, Sem.run_bind, run_underlying hu, Result.andThen_ok, MapKept.run_getObj_map hh, Sem.run_pure, K.check w _ ns hn, hf, h3, Option.isSome_some]
theorem run_lookup_nil {w : World} {t kt et : TypeId} {ks : List IntKind} {ns : List Int} {z : Value} (hu : P.underlying t = some (.map kt et)) (K : KeyOK P kt ks) (hn : ns.length = ks.length) (hz : ∀ w, (zeroValue et).run P w = .ok z w) (ok : Bool) :
    (Instr.lookup t (.map none) (keyV ks ns) ok).run P w = .ok (if ok then .tuple #[z, .bool false] else z) w := by
  have hf := K.find w ns [] [] hn rfl (by simp)
  simp only [pfind, Option.bind_none] at hf
  simp only [Instr.lookup, Sem.run_bind, run_underlying hu, Result.andThen_ok, Sem.run_pure, K.check w _ ns hn, hf, hz]
end

section
variable {P : Program} {ctx : Ctx} {Q : PQ} {s : PState}
variable {dst : Option Tmp} {ty : TypeId} {pos : String} {after : Array Edge} {gd : Option (Nat × Bool)}

section
variable {x kx : Operand} {t kt et : TypeId} {ks : List IntKind} {ag : Bool} {m : Mp} {ns : List Int} {z : Value} {zs : List DV} {p : PV}
  (hu : P.underlying t = some (.map kt et)) (K : KeyOK P kt ks) (hz : ∀ w, (zeroValue et).run P w = .ok z w) (hzr : ∀ (w : World) (g : Ghost) (S : Nat → Prop), Rd w g S (elP ag zs) z) (hk : s.ev kx = some (keyP ks ns)) (hn : ns.length = ks.length) (hp : elP ag ((mget m ns).getD zs) = p)
include hu K hz hzr hk hn hp

theorem LR.lookupO {id : Nat} {bs : List Nat} {ck : Nat} (hx : s.ev x = some (.mp id)) (hl : look s.objs id = some (.map ks ag m bs ck)) : Local P ctx ⟨dst, .lookup t x kx false, ty, pos, after, gd⟩ s (s.putD dst p) :=
  local_pure (o := ⟨dst, .lookup t x kx false, ty, pos, after, gd⟩) fun a w g hg => by
    have h := hg.ev hx
    generalize hv : a.eval x = v at h
    cases h with
    | mp _ blk n hgi =>
      cases hg.objs id _ hl with
      | map _ _ _ _ _ blk' n' es h' hh hm =>
        rw [hgi] at h'; cases h'
        obtain ⟨v, h1, h2⟩ := run_lookup (g := g) hu K hn hh hm hz (hzr w g _) false
        refine ⟨v, ?_, hp ▸ h2⟩
        simp only [execOp, hv, keyP_eq (hg.ev hk), Sem.run_bind, h1, Result.andThen_ok, Sem.run_pure]
        rfl
theorem LR.lookupD (hx : s.ev x = some (.md ks ag m)) : Local P ctx ⟨dst, .lookup t x kx false, ty, pos, after, gd⟩ s (s.putD dst p) :=
  local_pure (o := ⟨dst, .lookup t x kx false, ty, pos, after, gd⟩) fun a w g hg => by
    have h := hg.ev hx
    generalize hv : a.eval x = v at h
    cases h with
    | md _ _ _ bs ck b es hS hb hh hm =>
      obtain ⟨v, h1, h2⟩ := run_lookup (g := g) hu K hn hh hm hz (hzr w g _) false
      refine ⟨v, ?_, hp ▸ h2⟩
      simp only [execOp, hv, keyP_eq (hg.ev hk), Sem.run_bind, h1, Result.andThen_ok, Sem.run_pure]
      rfl
    | mdNil =>
      refine ⟨z, ?_, hp ▸ hzr w g _⟩
      simp only [execOp, hv, keyP_eq (hg.ev hk), Sem.run_bind, run_lookup_nil (w := w) hu K hn hz false, Result.andThen_ok, Sem.run_pure]
      rfl
theorem LR.lookupOkO {id : Nat} {bs : List Nat} {ck : Nat} (hx : s.ev x = some (.mp id)) (hl : look s.objs id = some (.map ks ag m bs ck)) : Local P ctx ⟨dst, .lookup t x kx true, ty, pos, after, gd⟩ s (s.putD dst (.tup [p, .d (.v (.bool (mget m ns).isSome))])) :=
  local_pure (o := ⟨dst, .lookup t x kx true, ty, pos, after, gd⟩) fun a w g hg => by
    have h := hg.ev hx
    generalize hv : a.eval x = v at h
    cases h with
    | mp _ blk n hgi =>
      cases hg.objs id _ hl with
      | map _ _ _ _ _ blk' n' es h' hh hm =>
        rw [hgi] at h'; cases h'
        obtain ⟨v, h1, h2⟩ := run_lookup (g := g) hu K hn hh hm hz (hzr w g _) true
        refine ⟨.tuple [v, .bool (mget m ns).isSome].toArray, ?_, .tup _ [v, .bool (mget m ns).isSome] rfl (fun i q u hq hu => ?_)⟩
        · simp only [execOp, hv, keyP_eq (hg.ev hk), Sem.run_bind, h1, Result.andThen_ok, Sem.run_pure]
          rfl
        · match i with
          | 0 => simp at hq hu; subst hq; subst hu; exact hp ▸ h2
          | 1 => simp at hq hu; subst hq; subst hu; exact .d (.v _ rfl)
          | _ + 2 => simp at hq
theorem LR.lookupOkD (hx : s.ev x = some (.md ks ag m)) : Local P ctx ⟨dst, .lookup t x kx true, ty, pos, after, gd⟩ s (s.putD dst (.tup [p, .d (.v (.bool (mget m ns).isSome))])) :=
  local_pure (o := ⟨dst, .lookup t x kx true, ty, pos, after, gd⟩) fun a w g hg => by
    have h := hg.ev hx
    generalize hv : a.eval x = v at h
    have fin : ∀ v, Rd w g (Free ctx g s.objs) p v → Rd w g (Free ctx g s.objs) (.tup [p, .d (.v (.bool (mget m ns).isSome))]) (.tuple [v, .bool (mget m ns).isSome].toArray) := fun v h2 => .tup _ [v, .bool (mget m ns).isSome] rfl (fun i q u hq hu => by
      match i with
      | 0 => simp at hq hu; subst hq; subst hu; exact h2
      | 1 => simp at hq hu; subst hq; subst hu; exact .d (.v _ rfl)
      | _ + 2 => simp at hq)
    cases h with
    | md _ _ _ bs ck b es hS hb hh hm =>
      obtain ⟨v, h1, h2⟩ := run_lookup (g := g) hu K hn hh hm hz (hzr w g _) true
      refine ⟨_, ?_, fin v (hp ▸ h2)⟩
      simp only [execOp, hv, keyP_eq (hg.ev hk), Sem.run_bind, h1, Result.andThen_ok, Sem.run_pure]
      rfl
    | mdNil =>
      refine ⟨_, ?_, fin z (hp ▸ hzr w g _)⟩
      simp only [execOp, hv, keyP_eq (hg.ev hk), Sem.run_bind, run_lookup_nil (w := w) hu K hn hz true, Result.andThen_ok, Sem.run_pure]
      rfl
end

theorem LR.lenMapO {x : Operand} {t kt et : TypeId} {id : Nat} {ks : List IntKind} {ag : Bool} {m : Mp} {bs : List Nat} {ck : Nat} (hu : P.underlying t = some (.map kt et)) (hx : s.ev x = some (.mp id)) (hl : look s.objs id = some (.map ks ag m bs ck)) :
    Local P ctx ⟨dst, .call ⟨.builtin .len, #[x], #[t]⟩, ty, pos, after, gd⟩ s (s.putD dst (.d (.v (.int .i64 m.length)))) :=
  local_pure (o := ⟨dst, .call ⟨.builtin .len, #[x], #[t]⟩, ty, pos, after, gd⟩) fun a w g hg => by
    have h := hg.ev hx
    generalize hv : a.eval x = v at h
    cases h with
    | mp _ blk n hgi =>
      cases hg.objs id _ hl with
      | map _ _ _ _ _ blk' n' es h' hh hm =>
        rw [hgi] at h'; cases h'
        refine ⟨.int .i64 m.length, ?_, .d (.v _ rfl)⟩
        simp [execOp, resolve, invoke, builtin, hv, Builtin.len_, run_underlying hu, MapKept.run_getObj_map hh, hm.size, Result.andThen, goInt]
theorem LR.lenMapD {x : Operand} {t kt et : TypeId} {ks : List IntKind} {ag : Bool} {m : Mp} (hu : P.underlying t = some (.map kt et)) (hx : s.ev x = some (.md ks ag m)) :
    Local P ctx ⟨dst, .call ⟨.builtin .len, #[x], #[t]⟩, ty, pos, after, gd⟩ s (s.putD dst (.d (.v (.int .i64 m.length)))) :=
  local_pure (o := ⟨dst, .call ⟨.builtin .len, #[x], #[t]⟩, ty, pos, after, gd⟩) fun a w g hg => by
    have h := hg.ev hx
    generalize hv : a.eval x = v at h
    cases h with
    | md _ _ _ bs ck b es hS hb hh hm =>
      refine ⟨.int .i64 m.length, ?_, .d (.v _ rfl)⟩
      simp [execOp, resolve, invoke, builtin, hv, Builtin.len_, run_underlying hu, MapKept.run_getObj_map hh, hm.size, Result.andThen, goInt]
    | mdNil =>
      refine ⟨.int .i64 0, ?_, .d (.v _ rfl)⟩
      simp [execOp, resolve, invoke, builtin, hv, Builtin.len_, run_underlying hu, Result.andThen, goInt]
end
end Go.Ep

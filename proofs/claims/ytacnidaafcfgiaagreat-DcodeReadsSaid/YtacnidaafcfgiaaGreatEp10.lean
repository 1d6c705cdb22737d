/- Walks over pure states: strings, truths, structs compared; conversions. No program in sight. -/
import Derived.Test.YtacnidaafcfgiaaGreatEp9
import Derived.Laws.StructEq
import Derived.Laws.Strings
namespace Go.Ep
open Go.RowKit

section
variable {P : Program} {ctx : Ctx} {s : PState}
variable {dst : Option Tmp} {ty : TypeId} {pos : String} {after : Array Edge} {gd : Option (Nat × Bool)}

theorem beq_bytes (a b : ByteArray) : (a.toList == b.toList) = decide (a = b) := by
  rw [ByteArray.toList_eq, ByteArray.toList_eq]
  obtain ⟨⟨x⟩⟩ := a
  obtain ⟨⟨y⟩⟩ := b
  by_cases h : x = y
  · subst h; simp
  · have h2 : ¬ (⟨⟨x⟩⟩ : ByteArray) = ⟨⟨y⟩⟩ := fun e => h (by cases e; rfl)
    simp [h, h2]

theorem LR.eqlStr {x y : Operand} {m n : ByteArray} {t t' : TypeId} (hx : s.ev x = some (.d (.v (.string m)))) (hy : s.ev y = some (.d (.v (.string n)))) :
    Local P ctx ⟨dst, .binOp .eql t x y t', ty, pos, after, gd⟩ s (s.putD dst (.d (.v (.bool (decide (m = n)))))) :=
  local_pure (o := ⟨dst, .binOp .eql t x y t', ty, pos, after, gd⟩) fun a w _ hg => ⟨_, by simp [execOp, ev_v hg hx, ev_v hg hy, eqGuard_at_string, binOp_string_eql, beq_bytes], .d (.v _ rfl)⟩
theorem LR.neqStr {x y : Operand} {m n : ByteArray} {t t' : TypeId} (hx : s.ev x = some (.d (.v (.string m)))) (hy : s.ev y = some (.d (.v (.string n)))) :
    Local P ctx ⟨dst, .binOp .neq t x y t', ty, pos, after, gd⟩ s (s.putD dst (.d (.v (.bool (!decide (m = n)))))) :=
  local_pure (o := ⟨dst, .binOp .neq t x y t', ty, pos, after, gd⟩) fun a w _ hg => ⟨.bool (!decide (m = n)), by
    have : (binOp .neq t (.string m) (.string n)) = pure (.bool (!(m.toList == n.toList))) := by simp [binOp, Op.stringOp]
    simp [execOp, ev_v hg hx, ev_v hg hy, eqGuard_at_string, this, beq_bytes], .d (.v _ rfl)⟩

theorem run_eqlBool {t : TypeId} (hu : P.underlying t = some .bool) (m n : Bool) (w : World) : (binOp .eql t (.bool m) (.bool n)).run P w = .ok (.bool (m == n)) w ∧ (binOp .neq t (.bool m) (.bool n)).run P w = .ok (.bool (!(m == n))) w := by
  constructor <;> simp [binOp, Op.equal, Op.maxDepth, run_equalIn_bool' w 9999 t m n hu]
theorem LR.eqlBool {x y : Operand} {m n : Bool} {t t' : TypeId} (hu : P.underlying t = some .bool) (hx : s.ev x = some (.d (.v (.bool m)))) (hy : s.ev y = some (.d (.v (.bool n)))) :
    Local P ctx ⟨dst, .binOp .eql t x y t', ty, pos, after, gd⟩ s (s.putD dst (.d (.v (.bool (m == n))))) :=
  local_pure (o := ⟨dst, .binOp .eql t x y t', ty, pos, after, gd⟩) fun a w _ hg => ⟨.bool (m == n), by simp [execOp, ev_v hg hx, ev_v hg hy, eqGuard_at_bool, (run_eqlBool hu m n w).1], .d (.v _ rfl)⟩
theorem LR.neqBool {x y : Operand} {m n : Bool} {t t' : TypeId} (hu : P.underlying t = some .bool) (hx : s.ev x = some (.d (.v (.bool m)))) (hy : s.ev y = some (.d (.v (.bool n)))) :
    Local P ctx ⟨dst, .binOp .neq t x y t', ty, pos, after, gd⟩ s (s.putD dst (.d (.v (.bool (!(m == n)))))) :=
  local_pure (o := ⟨dst, .binOp .neq t x y t', ty, pos, after, gd⟩) fun a w _ hg => ⟨.bool (!(m == n)), by simp [execOp, ev_v hg hx, ev_v hg hy, eqGuard_at_bool, (run_eqlBool hu m n w).2], .d (.v _ rfl)⟩

/-! ### Structs of plain values -/
def vals : List PV → Option (List Value)
  | [] => some []
  | .d (.v x) :: r => match vals r with | some l => some (x :: l) | none => none
  | _ :: _ => none
theorem vals_map : ∀ {cs : List PV} {l : List Value}, vals cs = some l → cs = l.map fun x => .d (.v x)
  | [], l, h => by simp [vals] at h; subst h; rfl
  | .d (.v x) :: r, l, h => by
    unfold vals at h
    cases hr : vals r with
    | none => simp [hr] at h
    | some l' => simp [hr] at h; subst h; simp [vals_map hr]
  | .d (.sl _) :: _, _, h => by simp [vals] at h
  | .junk :: _, _, h => by simp [vals] at h
  | .und :: _, _, h => by simp [vals] at h
  | .agg _ :: _, _, h => by simp [vals] at h
  | .tup _ :: _, _, h => by simp [vals] at h
  | .ref _ _ :: _, _, h => by simp [vals] at h
  | .row _ _ :: _, _, h => by simp [vals] at h
  | .rp _ _ _ _ :: _, _, h => by simp [vals] at h
  | .pc _ _ _ _ :: _, _, h => by simp [vals] at h
  | .ep _ _ :: _, _, h => by simp [vals] at h
  | .mp _ :: _, _, h => by simp [vals] at h
  | .md _ _ _ :: _, _, h => by simp [vals] at h
theorem Rd.vals {w : World} {g : Ghost} {S : Nat → Prop} {cs : List PV} {l : List Value} {u : Value} (h : Rd w g S (.agg cs) u) (hv : Ep.vals cs = some l) : u = .agg l.toArray := by
  cases h with
  | agg _ us hl hr h1 =>
    have e := vals_map hv
    subst e
    congr 2
    apply List.ext_getElem?
    intro i
    simp at hl
    by_cases hi : i < us.length
    · have hi2 : i < l.length := by omega
      have := hr i (.d (.v l[i])) us[i] (by simp [hi2]) (List.getElem?_eq_getElem hi)
      rw [List.getElem?_eq_getElem hi, List.getElem?_eq_getElem hi2, this.of_v]
    · rw [List.getElem?_eq_none (by omega), List.getElem?_eq_none (by omega)]

/-- Two structs of plain values: how they are compared. -/
def AggEq (P : Program) (t : TypeId) (us vs : List Value) (b : Bool) : Prop := P.eqGuardType P.depth t = false ∧ ∀ w, (Op.equalIn 10000 t (.agg us.toArray) (.agg vs.toArray)).run P w = .ok b w
theorem LR.eqlAgg {x y : Operand} {ps qs : List PV} {us vs : List Value} {b : Bool} {t t' : TypeId} (hx : s.ev x = some (.agg ps)) (hy : s.ev y = some (.agg qs)) (hu : vals ps = some us) (hv : vals qs = some vs) (he : AggEq P t us vs b) :
    Local P ctx ⟨dst, .binOp .eql t x y t', ty, pos, after, gd⟩ s (s.putD dst (.d (.v (.bool b)))) :=
  local_pure (o := ⟨dst, .binOp .eql t x y t', ty, pos, after, gd⟩) fun a w _ hg => ⟨.bool b, by
    simp only [execOp, (hg.ev hx).vals hu, (hg.ev hy).vals hv, Sem.run_bind, run_eqGuard_agg w _ _ _ _ _ _ he.1, Result.andThen_ok, run_eql_struct, he.2, Sem.run_pure], .d (.v _ rfl)⟩
theorem LR.neqAgg {x y : Operand} {ps qs : List PV} {us vs : List Value} {b : Bool} {t t' : TypeId} (hx : s.ev x = some (.agg ps)) (hy : s.ev y = some (.agg qs)) (hu : vals ps = some us) (hv : vals qs = some vs) (he : AggEq P t us vs b) :
    Local P ctx ⟨dst, .binOp .neq t x y t', ty, pos, after, gd⟩ s (s.putD dst (.d (.v (.bool (!b))))) :=
  local_pure (o := ⟨dst, .binOp .neq t x y t', ty, pos, after, gd⟩) fun a w _ hg => ⟨.bool (!b), by
    simp only [execOp, (hg.ev hx).vals hu, (hg.ev hy).vals hv, Sem.run_bind, run_eqGuard_agg w _ _ _ _ _ _ he.1, Result.andThen_ok, run_neq_struct, he.2, Sem.run_pure], .d (.v _ rfl)⟩

/-! ### Conversions of integers -/
theorem LR.convInt {x : Operand} {k k' : IntKind} {n m : Int} {src t : TypeId} (hd : P.underlying t = some (.int k')) (hs : (P.underlying src).isSome = true) (hx : s.ev x = some (.d (.v (.int k n)))) (hm : k'.wrap n = m) :
    Local P ctx ⟨dst, .convert src t x, ty, pos, after, gd⟩ s (s.putD dst (.d (.v (.int k' m)))) :=
  local_pure (o := ⟨dst, .convert src t x, ty, pos, after, gd⟩) fun a w _ hg => ⟨.int k' m, by
    subst hm
    obtain ⟨u, hu⟩ := Option.isSome_iff_exists.1 hs
    simp [execOp, ev_int hg hx, convert, run_underlying hd, run_underlying hu, Conv.intToInt, Result.andThen], .d (.v _ rfl)⟩
end
end Go.Ep

namespace Go.Ep
section
variable {P : Program} {ctx : Ctx} {Q : PQ} {s : PState}
theorem PWc.frz {c : Code} {id n k : Nat} {e : TypeId} {l : List (List DV)} (js : List Nat) (hK : ∀ b, ctx.K b → ctx.S b) (hjs : AllRow s id n js) (hl : look s.objs id = some (.row e k l)) (hn : l.length = n) (h : PWc P ctx c Q (s.frz id l js)) : PWc P ctx c Q s :=
  PWc.sub (Sub.frz js hK hl hn hjs.get) h
/-- The same state in other words. -/
theorem PWc.re {c : Code} {n : Nat} {tl : List (Nat × PV)} {to : List (Nat × Ob)} (hn : s.n = n) (h : Fgt s tl) (ho : OFgt s.objs to) (k : PWc P ctx c Q ⟨n, tl, to⟩) : PWc P ctx c Q s := PWc.sub (Sub.of hn h ho) k
theorem LR.lenMap {dst : Option Tmp} {ty : TypeId} {pos : String} {after : Array Edge} {gd : Option (Nat × Bool)} {α : Type} {enc : α → List DV} {L : List α} {x : Operand} {t e : TypeId} (hu : P.underlying t = some (.slice e)) (hx : s.ev x = some (.d (.sl (L.map enc)))) :
    Local P ctx ⟨dst, .call ⟨.builtin .len, #[x], #[t]⟩, ty, pos, after, gd⟩ s (s.putD dst (.d (.v (.int .i64 L.length)))) := by
  have := LR.lenSl (P := P) (ctx := ctx) (dst := dst) (ty := ty) (pos := pos) (after := after) (gd := gd) hu hx
  rwa [List.length_map] at this
theorem take_app {α : Type} {enc : α → List DV} {L : List α} {i : Nat} (h : i < L.length) : (L.take i).map enc ++ [enc L[i]] = (L.take (i + 1)).map enc := by
  rw [List.take_succ_eq_append_getElem h, List.map_append]; rfl
theorem row_app {α : Type} {enc : α → List DV} {L : List α} {i : Nat} (T : TypeId) (k : Nat) (h : i < L.length) : Ob.row T k ((L.take i).map enc ++ [enc L[i]]) = Ob.row T k ((L.take (i + 1)).map enc) := congrArg (Ob.row T k) (take_app h)
end
end Go.Ep

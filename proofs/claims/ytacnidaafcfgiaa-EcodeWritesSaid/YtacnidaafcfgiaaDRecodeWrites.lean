/- Proved: whatever it is handed, epitaphlaw16.EcodeWrites returns true, and what it was handed reads behind the call as it did. Conditions: none. -/
import Derived.Test.YtacnidaafcfgiaaRows
import Derived.KernelRfl
import Derived.Test.YtacnidaafcfgiaaMew6
import Derived.Test.YtacnidaafcfgiaaMew8
namespace Go.Proofs.Ytacnidaafcfgiaa
open Go.Ep Go.ChangeShapes Go.WideShapes Go.RowKit
set_option maxHeartbeats 1000000
set_option maxRecDepth 100000
set_option linter.unusedVariables false
set_option linter.unusedSimpArgs false

theorem Try.own : ownKnob Try.prog.godebug = none := by kernel_rfl
theorem Try.laidOut : laidOutB Try.prog = true := by kernel_rfl
theorem ecodeWrites_lifted (os : Os) (started : os.Started) (H : Type) (enc : TypeId × Value → H) :
    ReturnsInHanded {} Try.checked os 6 .any (Rows.ecodeWritesSpec.pre6 enc Try.prog Try.f6 Rows.ecodeWritesRow.domain false) (Rows.ecodeWritesSpec.post enc Try.prog Try.f6 false true false false) := by
  refine returnsInHanded_of_change (C := Try.checked) Try.own started (by kernel_rfl) Try.func6
    (ChangeSpec.witness6 (enc := enc) (C := Try.checked) false ⟨#[], #[.slice none 0 0], []⟩ 8 (by kernel_rfl) (by kernel_rfl) (by kernel_rfl) (by kernel_rfl)) ?_
  intro W base args ds gs before hval0 hW hcnd _
  have hval : ∀ (j : Nat) t v, Try.f6.params[j]? = some t → args[j]? = some v → Value.okWide Try.prog W .any base t v := hval0
  have hW' := hW
  obtain ⟨p, q, hA0, hV, rfl, hfz, hnd⟩ := hW
  have hA : DataW.TrodAll enc Try.prog W 0 (fun _ => true) true Try.f6.params.toList args.toList ds p := hA0
  rw [Try.params6] at hA hval
  obtain ⟨v0, d0, rfl, rfl, hx0⟩ := trodAll_one hA
  have ho0 : v0.oneCell' = true := by
    have h := hval 0 22 v0 rfl rfl
    simp only [Value.okWide, Try.underlying22, Cell.okWide] at h
    cases v0 <;> simp_all [Cell.ok, Value.oneCell']
  obtain ⟨a0, h0, hr0, hz0⟩ := Opn.arg (opnTEvent.slice Try.underlying22 (by kernel_rfl) (by decide)) hx0 ho0
  have hlaw : (l16_EcodeWrites a0).wp (· = true) := by rw [M.E.ecodeWrites_eq a0 (fun e he ht => by have h := h0.2 e he; have h1 := okU8 h.2.1; have h2 := okU64 h.2.2.1; have h3 := okU8 h.2.2.2.1; have hd1 := okU16 h.1.1; have hd2 := okU64 h.1.2; exact ⟨⟨hd1.1, by omega, hd2.1, by omega⟩, ⟨h1.1, by omega⟩, ⟨h2.1, by omega⟩, ⟨h3.1, by omega⟩, by omega, (fun d hd => by have g := h.2.2.2.2.2.2 d hd; have g1 := okU16 g.1; have g2 := okU64 g.2; exact ⟨g1.1, by omega, g2.1, by omega⟩), by omega⟩)]; rfl
  refine (l16_EcodeWrites_ok a0 true hlaw W All [v0] rfl (by
    intro i p v hp hv
    match i with
    | 0 => cases hp; cases hv; exact hr0
    | _ + 1 => cases hp)).mono fun e W' ⟨u, he, hbl, hru⟩ => ?_
  rw [hru.of_v] at he
  exact ⟨_, he, post_true Try.laidOut hW' rfl (fun ds h => by
    match ds, h with
    | [_], _ => exact ⟨rfl, rfl, rfl⟩) rfl Try.underlying4 (by
    intro t ht
    rw [Try.params6] at ht
    simp only [List.mem_cons, List.not_mem_nil, or_false] at ht
    subst ht
    exact ⟨by kernel_rfl, of_decide_eq_true (by kernel_rfl)⟩) hbl⟩

theorem ecodeWrites_said : Rows.EcodeWritesSaid :=
  OpenClaim.holds_of_wide 6 Try.f6 rfl rfl rfl rfl rfl rfl rfl ⟨rfl, rfl, rfl, rfl, rfl⟩ rfl rfl rfl rfl rfl (by kernel_rfl) Try.func6 (by kernel_rfl)
    (of_decide_eq_true (by kernel_rfl)) (by unfold Func.isWrapper; first | (rw [if_pos (by decide +kernel)]; kernel_rfl) | (rw [if_neg (by decide +kernel)]; exact ⟨rfl, rfl⟩))
    (fun os started H enc _ => ecodeWrites_lifted os started H enc)
end Go.Proofs.Ytacnidaafcfgiaa

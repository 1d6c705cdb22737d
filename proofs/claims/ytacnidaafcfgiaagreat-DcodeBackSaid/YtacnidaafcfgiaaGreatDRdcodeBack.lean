/- Proved: whatever it is handed, epitaphlaw15.DcodeBack returns true, and what it was handed reads behind the call as it did. Conditions: none. -/
import Derived.Test.YtacnidaafcfgiaaGreatRows
import Derived.KernelRfl
import Derived.Test.YtacnidaafcfgiaaGreatMdb9
import Derived.Test.YtacnidaafcfgiaaGreatMdb11
namespace Go.Proofs.YtacnidaafcfgiaaGreat
open Go.Ep Go.ChangeShapes Go.WideShapes Go.RowKit
set_option maxHeartbeats 1000000
set_option maxRecDepth 100000
set_option linter.unusedVariables false
set_option linter.unusedSimpArgs false

theorem Tryz.own : ownKnob Tryz.prog.godebug = none := by kernel_rfl
theorem Tryz.laidOut : laidOutB Tryz.prog = true := by kernel_rfl
theorem dcodeBack_lifted (os : Os) (started : os.Started) (H : Type) (enc : TypeId × Value → H) :
    ReturnsInHanded {} Tryz.checked os 6 .any (Rows.dcodeBackSpec.pre6 enc Tryz.prog Tryz.f6 Rows.dcodeBackRow.domain false) (Rows.dcodeBackSpec.post enc Tryz.prog Tryz.f6 false true false false) := by
  refine returnsInHanded_of_change (C := Tryz.checked) Tryz.own started (by kernel_rfl) Tryz.func6
    (ChangeSpec.witness6 (enc := enc) (C := Tryz.checked) false ⟨#[], #[.agg #[.int .u16 0, .int .u64 0], .slice none 0 0, .slice none 0 0], []⟩ 8 (by kernel_rfl) (by kernel_rfl) (by kernel_rfl) (by kernel_rfl)) ?_
  intro W base args ds gs before hval0 hW hcnd _
  have hval : ∀ (j : Nat) t v, Tryz.f6.params[j]? = some t → args[j]? = some v → Value.okWide Tryz.prog W .any base t v := hval0
  have hW' := hW
  obtain ⟨p, q, hA0, hV, rfl, hfz, hnd⟩ := hW
  have hA : DataW.TrodAll enc Tryz.prog W 0 (fun _ => true) true Tryz.f6.params.toList args.toList ds p := hA0
  rw [Tryz.params6] at hA hval
  obtain ⟨v0, v1, v2, d0, d1, d2, p0, p1, p2, rfl, rfl, rfl, hx0, hx1, hx2⟩ := trodAll_three hA
  obtain ⟨us0, rfl⟩ : ∃ us, v0 = .agg us := by
    have h := hval 0 32 v0 rfl rfl
    simp only [Value.okWide, Tryz.underlying32] at h
    obtain ⟨cs, h, _⟩ := h
    exact ⟨cs, h⟩
  obtain ⟨a0, h0, hr0, hz0⟩ := Opn.argAgg opnTDot hx0
  have ho1 : v1.oneCell' = true := by
    have h := hval 1 28 v1 rfl rfl
    simp only [Value.okWide, Tryz.underlying28, Cell.okWide] at h
    cases v1 <;> simp_all [Cell.ok, Value.oneCell']
  obtain ⟨a1, h1, hr1, hz1⟩ := Opn.arg (opnTDot.slice Tryz.underlying28 (by kernel_rfl) (by decide)) hx1 ho1
  have ho2 : v2.oneCell' = true := by
    have h := hval 2 23 v2 rfl rfl
    simp only [Value.okWide, Tryz.underlying23, Cell.okWide] at h
    cases v2 <;> simp_all [Cell.ok, Value.oneCell']
  obtain ⟨a2, h2, hr2, hz2⟩ := Opn.arg (opnTPart.slice Tryz.underlying23 (by kernel_rfl) (by decide)) hx2 ho2
  have hlaw : (l15_DcodeBack a0 a1 a2).wp (· = true) := by rw [M.D.dcodeBack_eq a0 a1 a2 (by have h1 := okU16 h0.1; have h2 := okU64 h0.2; exact ⟨h1.1, by omega, h2.1, by omega⟩) (fun d hd => by have h := h1.2 d hd; have h1 := okU16 h.1; have h2 := okU64 h.2; exact ⟨h1.1, by omega, h2.1, by omega⟩) (fun p hp => by have := okU16 (h2.2 p hp).1; omega)]; rfl
  refine (l15_DcodeBack_ok a0 a1 a2 true hlaw W All [.agg us0, v1, v2] rfl (by
    intro i p v hp hv
    match i with
    | 0 => cases hp; cases hv; exact hr0
    | 1 => cases hp; cases hv; exact hr1
    | 2 => cases hp; cases hv; exact hr2
    | _ + 3 => cases hp)).mono fun e W' ⟨u, he, hbl, hru⟩ => ?_
  rw [hru.of_v] at he
  exact ⟨_, he, post_true Tryz.laidOut hW' rfl (fun ds h => by
    match ds, h with
    | [_, _, _], _ => exact ⟨rfl, rfl, rfl⟩) rfl Tryz.underlying4 (by
    intro t ht
    rw [Tryz.params6] at ht
    simp only [List.mem_cons, List.not_mem_nil, or_false] at ht
    rcases ht with rfl | rfl | rfl
    all_goals exact ⟨by kernel_rfl, of_decide_eq_true (by kernel_rfl)⟩) hbl⟩

theorem dcodeBack_said : Rows.DcodeBackSaid :=
  OpenClaim.holds_of_wide 6 Tryz.f6 rfl rfl rfl rfl rfl rfl rfl ⟨rfl, rfl, rfl, rfl, rfl⟩ rfl rfl rfl rfl rfl (by kernel_rfl) Tryz.func6 (by kernel_rfl)
    (of_decide_eq_true (by kernel_rfl)) (by unfold Func.isWrapper; first | (rw [if_pos (by decide +kernel)]; kernel_rfl) | (rw [if_neg (by decide +kernel)]; exact ⟨rfl, rfl⟩))
    (fun os started H enc _ => dcodeBack_lifted os started H enc)
end Go.Proofs.YtacnidaafcfgiaaGreat

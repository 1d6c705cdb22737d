/- Proved: whatever list of events it is handed, epitaphlaw29.OutboxAll returns true, and the list reads behind the call as it did. Conditions: none. -/
import Derived.Test.YtdipflebhoodkaaOb
import Derived.Test.YtdipflebhoodkaaTop
import Derived.Test.YtdipflebhoodkaaRows
import Derived.KernelRfl
namespace Go.Proofs.Ytdipflebhoodkaa
open Go.Ep Go.ChangeShapes Go.WideShapes Go.RowKit
set_option maxHeartbeats 1000000
set_option maxRecDepth 100000
set_option linter.unusedVariables false
set_option linter.unusedSimpArgs false

theorem Try.own : ownKnob Try.prog.godebug = none := by kernel_rfl
theorem Try.laidOut : laidOutB Try.prog = true := by kernel_rfl
theorem opnDot : Opn Try.prog 70 2 eDot okDot := (Opn.struct Try.underlying70 (by kernel_rfl) (OpnF.cons (Opn.u16 Try.underlying46 (by kernel_rfl)) rfl (OpnF.cons (Opn.u64 Try.underlying34 (by kernel_rfl)) rfl (OpnF.nil _)))).map (fun p => ⟨p.1, p.2.1⟩) (fun _ _ => rfl) (fun p h => by simpa [okDot] using h)
theorem opnEv : Opn Try.prog 113 7 eEv okEv := (Opn.struct Try.underlying113 (by kernel_rfl) (OpnF.cons opnDot rfl (OpnF.cons (Opn.u8 Try.underlying5 (by kernel_rfl)) rfl (OpnF.cons (Opn.u64 Try.underlying34 (by kernel_rfl)) rfl (OpnF.cons (Opn.u8 Try.underlying5 (by kernel_rfl)) rfl (OpnF.cons (Opn.str Try.underlying9 (by kernel_rfl)) rfl (OpnF.cons (opnDot.slice Try.underlying61 (by kernel_rfl) (by decide)) rfl (OpnF.nil _)))))))).map (fun p => ⟨p.1, p.2.1, p.2.2.1, p.2.2.2.1, p.2.2.2.2.1, p.2.2.2.2.2.1⟩) (fun _ _ => rfl) (fun p h => by simpa [okEv] using h)
theorem outboxAll_lifted (os : Os) (started : os.Started) (H : Type) (enc : TypeId × Value → H) :
    ReturnsInHanded {} Try.checked os 3 .any (Rows.outboxAllSpec.pre6 enc Try.prog Try.f3 Rows.outboxAllRow.domain false) (Rows.outboxAllSpec.post enc Try.prog Try.f3 false true false false) := by
  refine returnsInHanded_of_change (C := Try.checked) Try.own started (by kernel_rfl) Try.func3
    (ChangeSpec.witness6 (enc := enc) (C := Try.checked) false ⟨#[], #[.slice none 0 0], []⟩ 8 (by kernel_rfl) (by kernel_rfl) (by kernel_rfl) (by kernel_rfl)) ?_
  intro W base args ds gs before hval0 hW hcnd _
  have hval : ∀ (j : Nat) t v, Try.f3.params[j]? = some t → args[j]? = some v → Value.okWide Try.prog W .any base t v := hval0
  have hW' := hW
  obtain ⟨p, q, hA0, hV, rfl, hfz, hnd⟩ := hW
  have hA : DataW.TrodAll enc Try.prog W 0 (fun _ => true) true Try.f3.params.toList args.toList ds p := hA0
  rw [Try.params3] at hA hval
  obtain ⟨v0, d0, rfl, rfl, hx0⟩ := trodAll_one hA
  have ho0 : v0.oneCell' = true := by
    have h := hval 0 22 v0 rfl rfl
    simp only [Value.okWide, Try.underlying22, Cell.okWide] at h
    cases v0 <;> simp_all [Cell.ok, Value.oneCell']
  obtain ⟨a0, h0, hr0⟩ := Opn.arg (opnEv.slice Try.underlying22 (by kernel_rfl) (by decide)) hx0 ho0
  refine (outboxAll a0 h0.1 W All [v0] rfl (by
    intro i p v hp hv
    match i with
    | 0 => cases hp; cases hv; exact hr0
    | _ + 1 => cases hp)).mono fun e W' ⟨u, he, hb, hru⟩ => ?_
  rw [hru.of_v] at he
  exact ⟨_, he, post_true Try.laidOut hW' rfl (fun ds h => by
    match ds, h with
    | [_], _ => exact ⟨rfl, rfl, rfl⟩) rfl Try.underlying4 (by
    intro t ht
    rw [Try.params3] at ht
    simp only [List.mem_cons, List.not_mem_nil, or_false] at ht
    subst ht
    exact ⟨by kernel_rfl, of_decide_eq_true (by kernel_rfl)⟩) hb⟩

theorem outboxAll_said : Rows.OutboxAllSaid :=
  OpenClaim.holds_of_wide 3 Try.f3 rfl rfl rfl rfl rfl rfl rfl ⟨rfl, rfl, rfl, rfl, rfl⟩ rfl rfl rfl rfl rfl (by kernel_rfl) Try.func3 (by kernel_rfl)
    (of_decide_eq_true (by kernel_rfl)) (by unfold Func.isWrapper; first | (rw [if_pos (by decide +kernel)]; kernel_rfl) | (rw [if_neg (by decide +kernel)]; exact ⟨rfl, rfl⟩))
    (fun os started H enc _ => outboxAll_lifted os started H enc)
end Go.Proofs.Ytdipflebhoodkaa

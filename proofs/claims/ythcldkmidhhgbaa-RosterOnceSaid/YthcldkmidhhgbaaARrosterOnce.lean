/- Proved: whatever it is handed, epitaphlaw26.RosterOnce returns true, and what it was handed reads behind the call as it did. Conditions: none. -/
import Derived.Test.YthcldkmidhhgbaaRows
import Derived.KernelRfl
import Derived.Test.YthcldkmidhhgbaaAOn6
import Derived.Test.YthcldkmidhhgbaaAOn7
namespace Go.Proofs.Ythcldkmidhhgbaa
open Go.Ep Go.ChangeShapes Go.WideShapes Go.RowKit
set_option maxHeartbeats 1000000
set_option maxRecDepth 100000
set_option linter.unusedVariables false
set_option linter.unusedSimpArgs false

theorem Try.own : ownKnob Try.prog.godebug = none := by kernel_rfl
theorem Try.laidOut : laidOutB Try.prog = true := by kernel_rfl
theorem rosterOnce_lifted (os : Os) (started : os.Started) (H : Type) (enc : TypeId × Value → H) :
    ReturnsInHanded {} Try.checked os 3 .any (Rows.rosterOnceSpec.pre6 enc Try.prog Try.f3 Rows.rosterOnceRow.domain false) (Rows.rosterOnceSpec.post enc Try.prog Try.f3 false true false false) := by
  refine returnsInHanded_of_change (C := Try.checked) Try.own started (by kernel_rfl) Try.func3
    (ChangeSpec.witness6 (enc := enc) (C := Try.checked) false ⟨#[], #[.slice none 0 0], []⟩ 8 (by kernel_rfl) (by kernel_rfl) (by kernel_rfl) (by kernel_rfl)) ?_
  intro W base args ds gs before hval0 hW hcnd _
  have hval : ∀ (j : Nat) t v, Try.f3.params[j]? = some t → args[j]? = some v → Value.okWide Try.prog W .any base t v := hval0
  have hW' := hW
  obtain ⟨p, q, hA0, hV, rfl, hfz, hnd⟩ := hW
  have hA : DataW.TrodAll enc Try.prog W 0 (fun _ => true) true Try.f3.params.toList args.toList ds p := hA0
  rw [Try.params3] at hA hval
  obtain ⟨v0, d0, rfl, rfl, hx0⟩ := trodAll_one hA
  have ho0 : v0.oneCell' = true := by
    have h := hval 0 22 v0 rfl rfl
    simp only [Value.okWide, Try.underlying22, Cell.okWide] at h
    cases v0 <;> simp_all [Cell.ok, Value.oneCell']
  obtain ⟨a0, h0, hr0, hz0⟩ := Opn.arg (opnL26Act.slice Try.underlying22 (by kernel_rfl) (by decide)) hx0 ho0
  have hlaw : (l26_RosterOnce a0).wp (· = true) := by rw [M.H.rosterOnce_eq a0 (fun a ha => by have g := h0.2 a ha; have k1 := okU8 g.2.1; have k3 := okU16 g.2.2.2.1; exact ⟨k1.1, k3.1, by omega⟩)]; rfl
  refine (l26_RosterOnce_ok a0 true hlaw W All [v0] rfl (by
    intro i p v hp hv
    match i with
    | 0 => cases hp; cases hv; exact hr0
    | _ + 1 => cases hp)).mono fun e W' ⟨u, he, hbl, hru⟩ => ?_
  rw [hru.of_v] at he
  exact ⟨_, he, post_true Try.laidOut hW' rfl (fun ds h => by
    match ds, h with
    | [_], _ => exact ⟨rfl, rfl, rfl⟩) rfl Try.underlying4 (by
    intro t ht
    rw [Try.params3] at ht
    simp only [List.mem_cons, List.not_mem_nil, or_false] at ht
    subst ht
    exact ⟨by kernel_rfl, of_decide_eq_true (by kernel_rfl)⟩) hbl⟩

theorem rosterOnce_j0 : Rows.rosterOnceRow.wf (OpenSpec.ofChange Rows.rosterOnceSpec) = true := by kernel_rfl
theorem rosterOnce_j1 : laidOutB Try.prog = true := by kernel_rfl
theorem rosterOnce_j2 : mapsRowed Try.prog = true := by kernel_rfl
theorem rosterOnce_j3 : Try.f3.params.all (Try.prog.readableRec ·) = true := by kernel_rfl
theorem rosterOnce_j4 : namedTie Try.prog Rows.rosterOnceRow.named Rows.rosterOnceSpec.vars = true := by kernel_rfl
theorem rosterOnce_j5 : (Rows.rosterOnceRow.stops == []) = true := by kernel_rfl
theorem rosterOnce_j6 : (Try.prog.stops == []) = true := by kernel_rfl
theorem rosterOnce_j7 : (Rows.rosterOnceRow.knobs == []) = true := by kernel_rfl
theorem rosterOnce_j8 : (Try.prog.stopKnobs == []) = true := by kernel_rfl
theorem rosterOnce_j9 : (Rows.rosterOnceRow.inPlace == Try.prog.inPlace 3) = true := by kernel_rfl
theorem rosterOnce_j10 : (Rows.rosterOnceRow.unfollowed == Try.prog.unfollowed 3) = true := by kernel_rfl
theorem rosterOnce_j11 : (Rows.rosterOnceRow.recurses == Try.prog.recurses 3) = true := by kernel_rfl
theorem rosterOnce_j12 : (Rows.rosterOnceRow.named == Try.prog.varsNamed 3) = true := by kernel_rfl
theorem rosterOnce_j13 : (Rows.rosterOnceRow.maps == (Try.f3.params.toList ++ Rows.rosterOnceSpec.plain.varTypes Try.prog).any (Try.prog.mapsRec ·)) = true := by kernel_rfl
theorem rosterOnce_j14 : (Rows.rosterOnceRow.ifaces == (Try.f3.params.toList ++ Rows.rosterOnceSpec.plain.varTypes Try.prog).any (Try.prog.ifacesRec ·)) = true := by kernel_rfl
theorem rosterOnce_j15 : (Rows.rosterOnceRow.mapsOut == Try.prog.mapsAmong Try.f3.resultTypes.toList) = true := by kernel_rfl
theorem rosterOnce_j16 : (Rows.rosterOnceRow.loops == (Try.f3.params.toList ++ Rows.rosterOnceSpec.plain.varTypes Try.prog).any (Try.prog.loopsFrom ·)) = true := by kernel_rfl
theorem rosterOnce_j17 : (Rows.rosterOnceRow.wideKeys == (Try.f3.params.toList ++ Rows.rosterOnceSpec.plain.varTypes Try.prog ++ Try.f3.resultTypes.toList).any (Try.prog.wideKeysFrom ·)) = true := by kernel_rfl
theorem rosterOnce_j18 : Rows.rosterOnceSpec.vars.all (Try.prog.varReadable ·) = true := by kernel_rfl
theorem rosterOnce_j19 : Try.f3.resultTypes.all (fun t => Try.prog.readableRec t && decide (t < Try.prog.types.size)) = true := by kernel_rfl
theorem rosterOnce_j20 : (Rows.rosterOnceRow.ifacesOut == Try.f3.resultTypes.toList.any (Try.prog.ifacesRec ·)) = true := by kernel_rfl
theorem rosterOnce_j21 : (Rows.rosterOnceRow.loopsOut == Try.f3.resultTypes.toList.any (Try.prog.loopsFrom ·)) = true := by kernel_rfl
theorem rosterOnce_j22 : (Rows.rosterOnceRow.plainKeys == Try.prog.plainKeys) = true := by kernel_rfl
theorem rosterOnce_j23 : Rows.rosterOnceRow.shortTexts.isNone = true := by kernel_rfl
theorem rosterOnce_j24 : Try.prog.stopsHeard = true := by kernel_rfl
theorem rosterOnce_j25 : Try.prog.mayEnter = true := by kernel_rfl
theorem rosterOnce_j26 : (Rows.rosterOnceRow.lifted == Try.prog.liftsFinal) = true := by kernel_rfl
theorem rosterOnce_j27 : (Try.prog.make == some Rows.rosterOnceRow.make) = true := by kernel_rfl
theorem rosterOnce_j28 : (Rows.rosterOnceRow.kinds == (if Rows.rosterOnceRow.domain.isEmpty then [] else Try.f3.params.toList.map fun t => match Try.prog.underlying t with | some (.int k) => some k | _ => none)) = true := by kernel_rfl
theorem rosterOnce_j29 : (Rows.rosterOnceRow.pinned == Rows.rosterOnceRow.pinnedBy) = true := by kernel_rfl
theorem rosterOnce_j30 : (Rows.rosterOnceRow.veiled == (Try.f3.params.toList ++ Rows.rosterOnceSpec.plain.varTypes Try.prog ++ Try.f3.resultTypes.toList).any (Try.prog.veiledRec ·)) = true := by kernel_rfl
theorem rosterOnce_j31 : Rows.rosterOnceRow.veiledFits Try.prog Try.f3.params.toList (Try.f3.params.toList ++ Rows.rosterOnceSpec.plain.varTypes Try.prog ++ Try.f3.resultTypes.toList) = true := by kernel_rfl
theorem rosterOnce_closed : joinedFacts Try.prog 3 Try.f3 Rows.rosterOnceSpec Rows.rosterOnceRow = true := by
  unfold joinedFacts
  simp only [Bool.and_eq_true]
  exact ⟨⟨⟨⟨⟨⟨⟨⟨⟨⟨⟨⟨⟨⟨⟨⟨⟨⟨⟨⟨⟨⟨⟨⟨⟨⟨⟨⟨⟨⟨⟨rosterOnce_j0, rosterOnce_j1⟩, rosterOnce_j2⟩, rosterOnce_j3⟩, rosterOnce_j4⟩, rosterOnce_j5⟩, rosterOnce_j6⟩, rosterOnce_j7⟩, rosterOnce_j8⟩, rosterOnce_j9⟩, rosterOnce_j10⟩, rosterOnce_j11⟩, rosterOnce_j12⟩, rosterOnce_j13⟩, rosterOnce_j14⟩, rosterOnce_j15⟩, rosterOnce_j16⟩, rosterOnce_j17⟩, rosterOnce_j18⟩, rosterOnce_j19⟩, rosterOnce_j20⟩, rosterOnce_j21⟩, rosterOnce_j22⟩, rosterOnce_j23⟩, rosterOnce_j24⟩, rosterOnce_j25⟩, rosterOnce_j26⟩, rosterOnce_j27⟩, rosterOnce_j28⟩, rosterOnce_j29⟩, rosterOnce_j30⟩, rosterOnce_j31⟩
theorem rosterOnce_said : Rows.RosterOnceSaid :=
  OpenClaim.holds_of_wide 3 Try.f3 rfl rfl rfl rfl rfl rfl rfl ⟨rfl, rfl, rfl, rfl, rfl⟩ rfl rfl rfl rfl rfl (by kernel_rfl) Try.func3 rosterOnce_closed
    (of_decide_eq_true (by kernel_rfl)) (by unfold Func.isWrapper; first | (rw [if_pos (by decide +kernel)]; kernel_rfl) | (rw [if_neg (by decide +kernel)]; exact ⟨rfl, rfl⟩))
    (fun os started H enc _ => rosterOnce_lifted os started H enc)
end Go.Proofs.Ythcldkmidhhgbaa

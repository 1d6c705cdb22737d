/- Proved: whatever it is handed, epitaphlaw25.AckBelow returns true, and what it was handed reads behind the call as it did. Conditions: none. -/
import Derived.Test.YthmblgneimcgpaaGreatRows
import Derived.KernelRfl
import Derived.Test.YthmblgneimcgpaaGreatABe9
import Derived.Test.YthmblgneimcgpaaGreatABe11
import Derived.Test.YthmblgneimcgpaaGreatABe12
namespace Go.Proofs.YthmblgneimcgpaaGreat
open Go.Ep Go.ChangeShapes Go.WideShapes Go.RowKit
set_option maxHeartbeats 1000000
set_option maxRecDepth 100000
set_option linter.unusedVariables false
set_option linter.unusedSimpArgs false

theorem Tryz.own : ownKnob Tryz.prog.godebug = none := by kernel_rfl
theorem Tryz.laidOut : laidOutB Tryz.prog = true := by kernel_rfl
theorem ackBelow_lifted (os : Os) (started : os.Started) (H : Type) (enc : TypeId × Value → H) :
    ReturnsInHanded {} Tryz.checked os 4 .any (Rows.ackBelowSpec.pre6 enc Tryz.prog Tryz.f4 Rows.ackBelowRow.domain false) (Rows.ackBelowSpec.post enc Tryz.prog Tryz.f4 false true false false) := by
  refine returnsInHanded_of_change (C := Tryz.checked) Tryz.own started (by kernel_rfl) Tryz.func4
    (ChangeSpec.witness6 (enc := enc) (C := Tryz.checked) false ⟨#[], #[.slice none 0 0, .slice none 0 0], []⟩ 8 (by kernel_rfl) (by kernel_rfl) (by kernel_rfl) (by kernel_rfl)) ?_
  intro W base args ds gs before hval0 hW hcnd _
  have hval : ∀ (j : Nat) t v, Tryz.f4.params[j]? = some t → args[j]? = some v → Value.okWide Tryz.prog W .any base t v := hval0
  have hW' := hW
  obtain ⟨p, q, hA0, hV, rfl, hfz, hnd⟩ := hW
  have hA : DataW.TrodAll enc Tryz.prog W 0 (fun _ => true) true Tryz.f4.params.toList args.toList ds p := hA0
  rw [Tryz.params4] at hA hval
  obtain ⟨v0, v1, d0, d1, p0, p1, rfl, rfl, rfl, hx0, hx1⟩ := trodAll_two hA
  have ho0 : v0.oneCell' = true := by
    have h := hval 0 22 v0 rfl rfl
    simp only [Value.okWide, Tryz.underlying22, Cell.okWide] at h
    cases v0 <;> simp_all [Cell.ok, Value.oneCell']
  obtain ⟨a0, h0, hr0, hz0⟩ := Opn.arg (opnL25Act.slice Tryz.underlying22 (by kernel_rfl) (by decide)) hx0 ho0
  have ho1 : v1.oneCell' = true := by
    have h := hval 1 22 v1 rfl rfl
    simp only [Value.okWide, Tryz.underlying22, Cell.okWide] at h
    cases v1 <;> simp_all [Cell.ok, Value.oneCell']
  obtain ⟨a1, h1, hr1, hz1⟩ := Opn.arg (opnL25Act.slice Tryz.underlying22 (by kernel_rfl) (by decide)) hx1 ho1
  have hlaw : (l25_AckBelow a0 a1).wp (· = true) := by rw [M.J.ackBelow_eq a0 a1 (fun a ha => by have g := h0.2 a ha; have k1 := okU8 g.1; have k2 := okU16 g.2.1; exact ⟨k1.1, k2.1, fun p hp => by have := okU16 (g.2.2.2 p hp).1; omega⟩) (fun a ha => by have g := h1.2 a ha; have k1 := okU8 g.1; have k2 := okU16 g.2.1; exact ⟨k1.1, k2.1, fun p hp => by have := okU16 (g.2.2.2 p hp).1; omega⟩)]; rfl
  refine (l25_AckBelow_ok a0 a1 true hlaw W All [v0, v1] rfl (by
    intro i p v hp hv
    match i with
    | 0 => cases hp; cases hv; exact hr0
    | 1 => cases hp; cases hv; exact hr1
    | _ + 2 => cases hp)).mono fun e W' ⟨u, he, hbl, hru⟩ => ?_
  rw [hru.of_v] at he
  exact ⟨_, he, post_true Tryz.laidOut hW' rfl (fun ds h => by
    match ds, h with
    | [_, _], _ => exact ⟨rfl, rfl, rfl⟩) rfl Tryz.underlying4 (by
    intro t ht
    rw [Tryz.params4] at ht
    simp only [List.mem_cons, List.not_mem_nil, or_false] at ht
    rcases ht with rfl | rfl
    all_goals exact ⟨by kernel_rfl, of_decide_eq_true (by kernel_rfl)⟩) hbl⟩

theorem ackBelow_j0 : Rows.ackBelowRow.wf (OpenSpec.ofChange Rows.ackBelowSpec) = true := by kernel_rfl
theorem ackBelow_j1 : laidOutB Tryz.prog = true := by kernel_rfl
theorem ackBelow_j2 : mapsRowed Tryz.prog = true := by kernel_rfl
theorem ackBelow_j3 : Tryz.f4.params.all (Tryz.prog.readableRec ·) = true := by kernel_rfl
theorem ackBelow_j4 : namedTie Tryz.prog Rows.ackBelowRow.named Rows.ackBelowSpec.vars = true := by kernel_rfl
theorem ackBelow_j5 : (Rows.ackBelowRow.stops == []) = true := by kernel_rfl
theorem ackBelow_j6 : (Tryz.prog.stops == []) = true := by kernel_rfl
theorem ackBelow_j7 : (Rows.ackBelowRow.knobs == []) = true := by kernel_rfl
theorem ackBelow_j8 : (Tryz.prog.stopKnobs == []) = true := by kernel_rfl
theorem ackBelow_j9 : (Rows.ackBelowRow.inPlace == Tryz.prog.inPlace 4) = true := by kernel_rfl
theorem ackBelow_j10 : (Rows.ackBelowRow.unfollowed == Tryz.prog.unfollowed 4) = true := by kernel_rfl
theorem ackBelow_j11 : (Rows.ackBelowRow.recurses == Tryz.prog.recurses 4) = true := by kernel_rfl
theorem ackBelow_j12 : (Rows.ackBelowRow.named == Tryz.prog.varsNamed 4) = true := by kernel_rfl
theorem ackBelow_j13 : (Rows.ackBelowRow.maps == (Tryz.f4.params.toList ++ Rows.ackBelowSpec.plain.varTypes Tryz.prog).any (Tryz.prog.mapsRec ·)) = true := by kernel_rfl
theorem ackBelow_j14 : (Rows.ackBelowRow.ifaces == (Tryz.f4.params.toList ++ Rows.ackBelowSpec.plain.varTypes Tryz.prog).any (Tryz.prog.ifacesRec ·)) = true := by kernel_rfl
theorem ackBelow_j15 : (Rows.ackBelowRow.mapsOut == Tryz.prog.mapsAmong Tryz.f4.resultTypes.toList) = true := by kernel_rfl
theorem ackBelow_j16 : (Rows.ackBelowRow.loops == (Tryz.f4.params.toList ++ Rows.ackBelowSpec.plain.varTypes Tryz.prog).any (Tryz.prog.loopsFrom ·)) = true := by kernel_rfl
theorem ackBelow_j17 : (Rows.ackBelowRow.wideKeys == (Tryz.f4.params.toList ++ Rows.ackBelowSpec.plain.varTypes Tryz.prog ++ Tryz.f4.resultTypes.toList).any (Tryz.prog.wideKeysFrom ·)) = true := by kernel_rfl
theorem ackBelow_j18 : Rows.ackBelowSpec.vars.all (Tryz.prog.varReadable ·) = true := by kernel_rfl
theorem ackBelow_j19 : Tryz.f4.resultTypes.all (fun t => Tryz.prog.readableRec t && decide (t < Tryz.prog.types.size)) = true := by kernel_rfl
theorem ackBelow_j20 : (Rows.ackBelowRow.ifacesOut == Tryz.f4.resultTypes.toList.any (Tryz.prog.ifacesRec ·)) = true := by kernel_rfl
theorem ackBelow_j21 : (Rows.ackBelowRow.loopsOut == Tryz.f4.resultTypes.toList.any (Tryz.prog.loopsFrom ·)) = true := by kernel_rfl
theorem ackBelow_j22 : (Rows.ackBelowRow.plainKeys == Tryz.prog.plainKeys) = true := by kernel_rfl
theorem ackBelow_j23 : Rows.ackBelowRow.shortTexts.isNone = true := by kernel_rfl
theorem ackBelow_j24 : Tryz.prog.stopsHeard = true := by kernel_rfl
theorem ackBelow_j25 : Tryz.prog.mayEnter = true := by kernel_rfl
theorem ackBelow_j26 : (Rows.ackBelowRow.lifted == Tryz.prog.liftsFinal) = true := by kernel_rfl
theorem ackBelow_j27 : (Tryz.prog.make == some Rows.ackBelowRow.make) = true := by kernel_rfl
theorem ackBelow_j28 : (Rows.ackBelowRow.kinds == (if Rows.ackBelowRow.domain.isEmpty then [] else Tryz.f4.params.toList.map fun t => match Tryz.prog.underlying t with | some (.int k) => some k | _ => none)) = true := by kernel_rfl
theorem ackBelow_j29 : (Rows.ackBelowRow.pinned == Rows.ackBelowRow.pinnedBy) = true := by kernel_rfl
theorem ackBelow_j30 : (Rows.ackBelowRow.veiled == (Tryz.f4.params.toList ++ Rows.ackBelowSpec.plain.varTypes Tryz.prog ++ Tryz.f4.resultTypes.toList).any (Tryz.prog.veiledRec ·)) = true := by kernel_rfl
theorem ackBelow_j31 : Rows.ackBelowRow.veiledFits Tryz.prog Tryz.f4.params.toList (Tryz.f4.params.toList ++ Rows.ackBelowSpec.plain.varTypes Tryz.prog ++ Tryz.f4.resultTypes.toList) = true := by kernel_rfl
theorem ackBelow_closed : joinedFacts Tryz.prog 4 Tryz.f4 Rows.ackBelowSpec Rows.ackBelowRow = true := by
  unfold joinedFacts
  simp only [Bool.and_eq_true]
  exact ⟨⟨⟨⟨⟨⟨⟨⟨⟨⟨⟨⟨⟨⟨⟨⟨⟨⟨⟨⟨⟨⟨⟨⟨⟨⟨⟨⟨⟨⟨⟨ackBelow_j0, ackBelow_j1⟩, ackBelow_j2⟩, ackBelow_j3⟩, ackBelow_j4⟩, ackBelow_j5⟩, ackBelow_j6⟩, ackBelow_j7⟩, ackBelow_j8⟩, ackBelow_j9⟩, ackBelow_j10⟩, ackBelow_j11⟩, ackBelow_j12⟩, ackBelow_j13⟩, ackBelow_j14⟩, ackBelow_j15⟩, ackBelow_j16⟩, ackBelow_j17⟩, ackBelow_j18⟩, ackBelow_j19⟩, ackBelow_j20⟩, ackBelow_j21⟩, ackBelow_j22⟩, ackBelow_j23⟩, ackBelow_j24⟩, ackBelow_j25⟩, ackBelow_j26⟩, ackBelow_j27⟩, ackBelow_j28⟩, ackBelow_j29⟩, ackBelow_j30⟩, ackBelow_j31⟩
theorem ackBelow_said : Rows.AckBelowSaid :=
  OpenClaim.holds_of_wide 4 Tryz.f4 rfl rfl rfl rfl rfl rfl rfl ⟨rfl, rfl, rfl, rfl, rfl⟩ rfl rfl rfl rfl rfl (by kernel_rfl) Tryz.func4 ackBelow_closed
    (of_decide_eq_true (by kernel_rfl)) (by unfold Func.isWrapper; first | (rw [if_pos (by decide +kernel)]; kernel_rfl) | (rw [if_neg (by decide +kernel)]; exact ⟨rfl, rfl⟩))
    (fun os started H enc _ => ackBelow_lifted os started H enc)
end Go.Proofs.YthmblgneimcgpaaGreat

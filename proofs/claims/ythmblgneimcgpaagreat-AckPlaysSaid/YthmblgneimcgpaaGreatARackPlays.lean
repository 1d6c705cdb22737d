/- Proved: whatever it is handed, epitaphlaw25.AckPlays returns true, and what it was handed reads behind the call as it did. Conditions: none. -/
import Derived.Test.YthmblgneimcgpaaGreatRows
import Derived.KernelRfl
import Derived.Test.YthmblgneimcgpaaGreatAPl9
import Derived.Test.YthmblgneimcgpaaGreatAPl11
import Derived.Test.YthmblgneimcgpaaGreatAPl12
namespace Go.Proofs.YthmblgneimcgpaaGreat
open Go.Ep Go.ChangeShapes Go.WideShapes Go.RowKit
set_option maxHeartbeats 1000000
set_option maxRecDepth 100000
set_option linter.unusedVariables false
set_option linter.unusedSimpArgs false

theorem Tryz.own : ownKnob Tryz.prog.godebug = none := by kernel_rfl
theorem Tryz.laidOut : laidOutB Tryz.prog = true := by kernel_rfl
theorem ackPlays_lifted (os : Os) (started : os.Started) (H : Type) (enc : TypeId × Value → H) :
    ReturnsInHanded {} Tryz.checked os 5 .any (Rows.ackPlaysSpec.pre6 enc Tryz.prog Tryz.f5 Rows.ackPlaysRow.domain false) (Rows.ackPlaysSpec.post enc Tryz.prog Tryz.f5 false true false false) := by
  refine returnsInHanded_of_change (C := Tryz.checked) Tryz.own started (by kernel_rfl) Tryz.func5
    (ChangeSpec.witness6 (enc := enc) (C := Tryz.checked) false ⟨#[], #[.slice none 0 0, .slice none 0 0, .slice none 0 0], []⟩ 8 (by kernel_rfl) (by kernel_rfl) (by kernel_rfl) (by kernel_rfl)) ?_
  intro W base args ds gs before hval0 hW hcnd _
  have hval : ∀ (j : Nat) t v, Tryz.f5.params[j]? = some t → args[j]? = some v → Value.okWide Tryz.prog W .any base t v := hval0
  have hW' := hW
  obtain ⟨p, q, hA0, hV, rfl, hfz, hnd⟩ := hW
  have hA : DataW.TrodAll enc Tryz.prog W 0 (fun _ => true) true Tryz.f5.params.toList args.toList ds p := hA0
  rw [Tryz.params5] at hA hval
  obtain ⟨v0, v1, v2, d0, d1, d2, p0, p1, p2, rfl, rfl, rfl, hx0, hx1, hx2⟩ := trodAll_three hA
  have ho0 : v0.oneCell' = true := by
    have h := hval 0 22 v0 rfl rfl
    simp only [Value.okWide, Tryz.underlying22, Cell.okWide] at h
    cases v0 <;> simp_all [Cell.ok, Value.oneCell']
  obtain ⟨a0, h0, hr0, hz0⟩ := Opn.arg (opnL25Act.slice Tryz.underlying22 (by kernel_rfl) (by decide)) hx0 ho0
  have ho1 : v1.oneCell' = true := by
    have h := hval 1 24 v1 rfl rfl
    simp only [Value.okWide, Tryz.underlying24, Cell.okWide] at h
    cases v1 <;> simp_all [Cell.ok, Value.oneCell']
  obtain ⟨a1, h1, hr1, hz1⟩ := Opn.arg (opnTPart.slice Tryz.underlying24 (by kernel_rfl) (by decide)) hx1 ho1
  have ho2 : v2.oneCell' = true := by
    have h := hval 2 49 v2 rfl rfl
    simp only [Value.okWide, Tryz.underlying49, Cell.okWide] at h
    cases v2 <;> simp_all [Cell.ok, Value.oneCell']
  obtain ⟨a2, h2, hr2, hz2⟩ := Opn.arg (opnTDot.slice Tryz.underlying49 (by kernel_rfl) (by decide)) hx2 ho2
  have hlaw : (l25_AckPlays a0 a1 a2).wp (· = true) := by rw [M.J.ackPlays_eq a0 a1 a2 (fun a ha => by have g := h0.2 a ha; have k1 := okU8 g.1; have k2 := okU16 g.2.1; exact ⟨k1.1, k2.1, fun p hp => by have := okU16 (g.2.2.2 p hp).1; omega⟩) (fun p hp => by have := okU16 (h1.2 p hp).1; omega)]; rfl
  refine (l25_AckPlays_ok a0 a1 a2 true hlaw W All [v0, v1, v2] rfl (by
    intro i p v hp hv
    match i with
    | 0 => cases hp; cases hv; exact hr0
    | 1 => cases hp; cases hv; exact hr1
    | 2 => cases hp; cases hv; exact hr2
    | _ + 3 => cases hp)).mono fun e W' ⟨u, he, hbl, hru⟩ => ?_
  rw [hru.of_v] at he
  exact ⟨_, he, post_true Tryz.laidOut hW' rfl (fun ds h => by
    match ds, h with
    | [_, _, _], _ => exact ⟨rfl, rfl, rfl⟩) rfl Tryz.underlying4 (by
    intro t ht
    rw [Tryz.params5] at ht
    simp only [List.mem_cons, List.not_mem_nil, or_false] at ht
    rcases ht with rfl | rfl | rfl
    all_goals exact ⟨by kernel_rfl, of_decide_eq_true (by kernel_rfl)⟩) hbl⟩

theorem ackPlays_j0 : Rows.ackPlaysRow.wf (OpenSpec.ofChange Rows.ackPlaysSpec) = true := by kernel_rfl
theorem ackPlays_j1 : laidOutB Tryz.prog = true := by kernel_rfl
theorem ackPlays_j2 : mapsRowed Tryz.prog = true := by kernel_rfl
theorem ackPlays_j3 : Tryz.f5.params.all (Tryz.prog.readableRec ·) = true := by kernel_rfl
theorem ackPlays_j4 : namedTie Tryz.prog Rows.ackPlaysRow.named Rows.ackPlaysSpec.vars = true := by kernel_rfl
theorem ackPlays_j5 : (Rows.ackPlaysRow.stops == []) = true := by kernel_rfl
theorem ackPlays_j6 : (Tryz.prog.stops == []) = true := by kernel_rfl
theorem ackPlays_j7 : (Rows.ackPlaysRow.knobs == []) = true := by kernel_rfl
theorem ackPlays_j8 : (Tryz.prog.stopKnobs == []) = true := by kernel_rfl
theorem ackPlays_j9 : (Rows.ackPlaysRow.inPlace == Tryz.prog.inPlace 5) = true := by kernel_rfl
theorem ackPlays_j10 : (Rows.ackPlaysRow.unfollowed == Tryz.prog.unfollowed 5) = true := by kernel_rfl
theorem ackPlays_j11 : (Rows.ackPlaysRow.recurses == Tryz.prog.recurses 5) = true := by kernel_rfl
theorem ackPlays_j12 : (Rows.ackPlaysRow.named == Tryz.prog.varsNamed 5) = true := by kernel_rfl
theorem ackPlays_j13 : (Rows.ackPlaysRow.maps == (Tryz.f5.params.toList ++ Rows.ackPlaysSpec.plain.varTypes Tryz.prog).any (Tryz.prog.mapsRec ·)) = true := by kernel_rfl
theorem ackPlays_j14 : (Rows.ackPlaysRow.ifaces == (Tryz.f5.params.toList ++ Rows.ackPlaysSpec.plain.varTypes Tryz.prog).any (Tryz.prog.ifacesRec ·)) = true := by kernel_rfl
theorem ackPlays_j15 : (Rows.ackPlaysRow.mapsOut == Tryz.prog.mapsAmong Tryz.f5.resultTypes.toList) = true := by kernel_rfl
theorem ackPlays_j16 : (Rows.ackPlaysRow.loops == (Tryz.f5.params.toList ++ Rows.ackPlaysSpec.plain.varTypes Tryz.prog).any (Tryz.prog.loopsFrom ·)) = true := by kernel_rfl
theorem ackPlays_j17 : (Rows.ackPlaysRow.wideKeys == (Tryz.f5.params.toList ++ Rows.ackPlaysSpec.plain.varTypes Tryz.prog ++ Tryz.f5.resultTypes.toList).any (Tryz.prog.wideKeysFrom ·)) = true := by kernel_rfl
theorem ackPlays_j18 : Rows.ackPlaysSpec.vars.all (Tryz.prog.varReadable ·) = true := by kernel_rfl
theorem ackPlays_j19 : Tryz.f5.resultTypes.all (fun t => Tryz.prog.readableRec t && decide (t < Tryz.prog.types.size)) = true := by kernel_rfl
theorem ackPlays_j20 : (Rows.ackPlaysRow.ifacesOut == Tryz.f5.resultTypes.toList.any (Tryz.prog.ifacesRec ·)) = true := by kernel_rfl
theorem ackPlays_j21 : (Rows.ackPlaysRow.loopsOut == Tryz.f5.resultTypes.toList.any (Tryz.prog.loopsFrom ·)) = true := by kernel_rfl
theorem ackPlays_j22 : (Rows.ackPlaysRow.plainKeys == Tryz.prog.plainKeys) = true := by kernel_rfl
theorem ackPlays_j23 : Rows.ackPlaysRow.shortTexts.isNone = true := by kernel_rfl
theorem ackPlays_j24 : Tryz.prog.stopsHeard = true := by kernel_rfl
theorem ackPlays_j25 : Tryz.prog.mayEnter = true := by kernel_rfl
theorem ackPlays_j26 : (Rows.ackPlaysRow.lifted == Tryz.prog.liftsFinal) = true := by kernel_rfl
theorem ackPlays_j27 : (Tryz.prog.make == some Rows.ackPlaysRow.make) = true := by kernel_rfl
theorem ackPlays_j28 : (Rows.ackPlaysRow.kinds == (if Rows.ackPlaysRow.domain.isEmpty then [] else Tryz.f5.params.toList.map fun t => match Tryz.prog.underlying t with | some (.int k) => some k | _ => none)) = true := by kernel_rfl
theorem ackPlays_j29 : (Rows.ackPlaysRow.pinned == Rows.ackPlaysRow.pinnedBy) = true := by kernel_rfl
theorem ackPlays_j30 : (Rows.ackPlaysRow.veiled == (Tryz.f5.params.toList ++ Rows.ackPlaysSpec.plain.varTypes Tryz.prog ++ Tryz.f5.resultTypes.toList).any (Tryz.prog.veiledRec ·)) = true := by kernel_rfl
theorem ackPlays_j31 : Rows.ackPlaysRow.veiledFits Tryz.prog Tryz.f5.params.toList (Tryz.f5.params.toList ++ Rows.ackPlaysSpec.plain.varTypes Tryz.prog ++ Tryz.f5.resultTypes.toList) = true := by kernel_rfl
theorem ackPlays_closed : joinedFacts Tryz.prog 5 Tryz.f5 Rows.ackPlaysSpec Rows.ackPlaysRow = true := by
  unfold joinedFacts
  simp only [Bool.and_eq_true]
  exact ⟨⟨⟨⟨⟨⟨⟨⟨⟨⟨⟨⟨⟨⟨⟨⟨⟨⟨⟨⟨⟨⟨⟨⟨⟨⟨⟨⟨⟨⟨⟨ackPlays_j0, ackPlays_j1⟩, ackPlays_j2⟩, ackPlays_j3⟩, ackPlays_j4⟩, ackPlays_j5⟩, ackPlays_j6⟩, ackPlays_j7⟩, ackPlays_j8⟩, ackPlays_j9⟩, ackPlays_j10⟩, ackPlays_j11⟩, ackPlays_j12⟩, ackPlays_j13⟩, ackPlays_j14⟩, ackPlays_j15⟩, ackPlays_j16⟩, ackPlays_j17⟩, ackPlays_j18⟩, ackPlays_j19⟩, ackPlays_j20⟩, ackPlays_j21⟩, ackPlays_j22⟩, ackPlays_j23⟩, ackPlays_j24⟩, ackPlays_j25⟩, ackPlays_j26⟩, ackPlays_j27⟩, ackPlays_j28⟩, ackPlays_j29⟩, ackPlays_j30⟩, ackPlays_j31⟩
theorem ackPlays_said : Rows.AckPlaysSaid :=
  OpenClaim.holds_of_wide 5 Tryz.f5 rfl rfl rfl rfl rfl rfl rfl ⟨rfl, rfl, rfl, rfl, rfl⟩ rfl rfl rfl rfl rfl (by kernel_rfl) Tryz.func5 ackPlays_closed
    (of_decide_eq_true (by kernel_rfl)) (by unfold Func.isWrapper; first | (rw [if_pos (by decide +kernel)]; kernel_rfl) | (rw [if_neg (by decide +kernel)]; exact ⟨rfl, rfl⟩))
    (fun os started H enc _ => ackPlays_lifted os started H enc)
end Go.Proofs.YthmblgneimcgpaaGreat

/- Proved: whatever it is handed, epitaphlaw25.AckFront returns true, and what it was handed reads behind the call as it did. Conditions: none. -/
import Derived.Test.YthmblgneimcgpaaGreatRows
import Derived.KernelRfl
import Derived.Test.YthmblgneimcgpaaGreatAFr9
import Derived.Test.YthmblgneimcgpaaGreatAFr11
import Derived.Test.YthmblgneimcgpaaGreatAFr12
namespace Go.Proofs.YthmblgneimcgpaaGreat
open Go.Ep Go.ChangeShapes Go.WideShapes Go.RowKit
set_option maxHeartbeats 1000000
set_option maxRecDepth 100000
set_option linter.unusedVariables false
set_option linter.unusedSimpArgs false

theorem Tryz.own : ownKnob Tryz.prog.godebug = none := by kernel_rfl
theorem Tryz.laidOut : laidOutB Tryz.prog = true := by kernel_rfl
theorem ackFront_lifted (os : Os) (started : os.Started) (H : Type) (enc : TypeId × Value → H) :
    ReturnsInHanded {} Tryz.checked os 3 .any (Rows.ackFrontSpec.pre6 enc Tryz.prog Tryz.f3 Rows.ackFrontRow.domain false) (Rows.ackFrontSpec.post enc Tryz.prog Tryz.f3 false true false false) := by
  refine returnsInHanded_of_change (C := Tryz.checked) Tryz.own started (by kernel_rfl) Tryz.func3
    (ChangeSpec.witness6 (enc := enc) (C := Tryz.checked) false ⟨#[], #[.slice none 0 0, .slice none 0 0], []⟩ 8 (by kernel_rfl) (by kernel_rfl) (by kernel_rfl) (by kernel_rfl)) ?_
  intro W base args ds gs before hval0 hW hcnd _
  have hval : ∀ (j : Nat) t v, Tryz.f3.params[j]? = some t → args[j]? = some v → Value.okWide Tryz.prog W .any base t v := hval0
  have hW' := hW
  obtain ⟨p, q, hA0, hV, rfl, hfz, hnd⟩ := hW
  have hA : DataW.TrodAll enc Tryz.prog W 0 (fun _ => true) true Tryz.f3.params.toList args.toList ds p := hA0
  rw [Tryz.params3] at hA hval
  obtain ⟨v0, v1, d0, d1, p0, p1, rfl, rfl, rfl, hx0, hx1⟩ := trodAll_two hA
  have ho0 : v0.oneCell' = true := by
    have h := hval 0 22 v0 rfl rfl
    simp only [Value.okWide, Tryz.underlying22, Cell.okWide] at h
    cases v0 <;> simp_all [Cell.ok, Value.oneCell']
  obtain ⟨a0, h0, hr0, hz0⟩ := Opn.arg (opnL25Act.slice Tryz.underlying22 (by kernel_rfl) (by decide)) hx0 ho0
  have ho1 : v1.oneCell' = true := by
    have h := hval 1 24 v1 rfl rfl
    simp only [Value.okWide, Tryz.underlying24, Cell.okWide] at h
    cases v1 <;> simp_all [Cell.ok, Value.oneCell']
  obtain ⟨a1, h1, hr1, hz1⟩ := Opn.arg (opnTPart.slice Tryz.underlying24 (by kernel_rfl) (by decide)) hx1 ho1
  have hlaw : (l25_AckFront a0 a1).wp (· = true) := by rw [M.J.ackFront_eq a0 a1 (fun a ha => by have g := h0.2 a ha; have k1 := okU8 g.1; have k2 := okU16 g.2.1; exact ⟨k1.1, k2.1, fun p hp => by have := okU16 (g.2.2.2 p hp).1; omega⟩) (fun p hp => by have := okU16 (h1.2 p hp).1; omega)]; rfl
  refine (l25_AckFront_ok a0 a1 true hlaw W All [v0, v1] rfl (by
    intro i p v hp hv
    match i with
    | 0 => cases hp; cases hv; exact hr0
    | 1 => cases hp; cases hv; exact hr1
    | _ + 2 => cases hp)).mono fun e W' ⟨u, he, hbl, hru⟩ => ?_
  rw [hru.of_v] at he
  exact ⟨_, he, post_true Tryz.laidOut hW' rfl (fun ds h => by
    match ds, h with
    | [_, _], _ => exact ⟨rfl, rfl, rfl⟩) rfl Tryz.underlying4 (by
    intro t ht
    rw [Tryz.params3] at ht
    simp only [List.mem_cons, List.not_mem_nil, or_false] at ht
    rcases ht with rfl | rfl
    all_goals exact ⟨by kernel_rfl, of_decide_eq_true (by kernel_rfl)⟩) hbl⟩

theorem ackFront_j0 : Rows.ackFrontRow.wf (OpenSpec.ofChange Rows.ackFrontSpec) = true := by kernel_rfl
theorem ackFront_j1 : laidOutB Tryz.prog = true := by kernel_rfl
theorem ackFront_j2 : mapsRowed Tryz.prog = true := by kernel_rfl
theorem ackFront_j3 : Tryz.f3.params.all (Tryz.prog.readableRec ·) = true := by kernel_rfl
theorem ackFront_j4 : namedTie Tryz.prog Rows.ackFrontRow.named Rows.ackFrontSpec.vars = true := by kernel_rfl
theorem ackFront_j5 : (Rows.ackFrontRow.stops == []) = true := by kernel_rfl
theorem ackFront_j6 : (Tryz.prog.stops == []) = true := by kernel_rfl
theorem ackFront_j7 : (Rows.ackFrontRow.knobs == []) = true := by kernel_rfl
theorem ackFront_j8 : (Tryz.prog.stopKnobs == []) = true := by kernel_rfl
theorem ackFront_j9 : (Rows.ackFrontRow.inPlace == Tryz.prog.inPlace 3) = true := by kernel_rfl
theorem ackFront_j10 : (Rows.ackFrontRow.unfollowed == Tryz.prog.unfollowed 3) = true := by kernel_rfl
theorem ackFront_j11 : (Rows.ackFrontRow.recurses == Tryz.prog.recurses 3) = true := by kernel_rfl
theorem ackFront_j12 : (Rows.ackFrontRow.named == Tryz.prog.varsNamed 3) = true := by kernel_rfl
theorem ackFront_j13 : (Rows.ackFrontRow.maps == (Tryz.f3.params.toList ++ Rows.ackFrontSpec.plain.varTypes Tryz.prog).any (Tryz.prog.mapsRec ·)) = true := by kernel_rfl
theorem ackFront_j14 : (Rows.ackFrontRow.ifaces == (Tryz.f3.params.toList ++ Rows.ackFrontSpec.plain.varTypes Tryz.prog).any (Tryz.prog.ifacesRec ·)) = true := by kernel_rfl
theorem ackFront_j15 : (Rows.ackFrontRow.mapsOut == Tryz.prog.mapsAmong Tryz.f3.resultTypes.toList) = true := by kernel_rfl
theorem ackFront_j16 : (Rows.ackFrontRow.loops == (Tryz.f3.params.toList ++ Rows.ackFrontSpec.plain.varTypes Tryz.prog).any (Tryz.prog.loopsFrom ·)) = true := by kernel_rfl
theorem ackFront_j17 : (Rows.ackFrontRow.wideKeys == (Tryz.f3.params.toList ++ Rows.ackFrontSpec.plain.varTypes Tryz.prog ++ Tryz.f3.resultTypes.toList).any (Tryz.prog.wideKeysFrom ·)) = true := by kernel_rfl
theorem ackFront_j18 : Rows.ackFrontSpec.vars.all (Tryz.prog.varReadable ·) = true := by kernel_rfl
theorem ackFront_j19 : Tryz.f3.resultTypes.all (fun t => Tryz.prog.readableRec t && decide (t < Tryz.prog.types.size)) = true := by kernel_rfl
theorem ackFront_j20 : (Rows.ackFrontRow.ifacesOut == Tryz.f3.resultTypes.toList.any (Tryz.prog.ifacesRec ·)) = true := by kernel_rfl
theorem ackFront_j21 : (Rows.ackFrontRow.loopsOut == Tryz.f3.resultTypes.toList.any (Tryz.prog.loopsFrom ·)) = true := by kernel_rfl
theorem ackFront_j22 : (Rows.ackFrontRow.plainKeys == Tryz.prog.plainKeys) = true := by kernel_rfl
theorem ackFront_j23 : Rows.ackFrontRow.shortTexts.isNone = true := by kernel_rfl
theorem ackFront_j24 : Tryz.prog.stopsHeard = true := by kernel_rfl
theorem ackFront_j25 : Tryz.prog.mayEnter = true := by kernel_rfl
theorem ackFront_j26 : (Rows.ackFrontRow.lifted == Tryz.prog.liftsFinal) = true := by kernel_rfl
theorem ackFront_j27 : (Tryz.prog.make == some Rows.ackFrontRow.make) = true := by kernel_rfl
theorem ackFront_j28 : (Rows.ackFrontRow.kinds == (if Rows.ackFrontRow.domain.isEmpty then [] else Tryz.f3.params.toList.map fun t => match Tryz.prog.underlying t with | some (.int k) => some k | _ => none)) = true := by kernel_rfl
theorem ackFront_j29 : (Rows.ackFrontRow.pinned == Rows.ackFrontRow.pinnedBy) = true := by kernel_rfl
theorem ackFront_j30 : (Rows.ackFrontRow.veiled == (Tryz.f3.params.toList ++ Rows.ackFrontSpec.plain.varTypes Tryz.prog ++ Tryz.f3.resultTypes.toList).any (Tryz.prog.veiledRec ·)) = true := by kernel_rfl
theorem ackFront_j31 : Rows.ackFrontRow.veiledFits Tryz.prog Tryz.f3.params.toList (Tryz.f3.params.toList ++ Rows.ackFrontSpec.plain.varTypes Tryz.prog ++ Tryz.f3.resultTypes.toList) = true := by kernel_rfl
theorem ackFront_closed : joinedFacts Tryz.prog 3 Tryz.f3 Rows.ackFrontSpec Rows.ackFrontRow = true := by
  unfold joinedFacts
  simp only [Bool.and_eq_true]
  exact ⟨⟨⟨⟨⟨⟨⟨⟨⟨⟨⟨⟨⟨⟨⟨⟨⟨⟨⟨⟨⟨⟨⟨⟨⟨⟨⟨⟨⟨⟨⟨ackFront_j0, ackFront_j1⟩, ackFront_j2⟩, ackFront_j3⟩, ackFront_j4⟩, ackFront_j5⟩, ackFront_j6⟩, ackFront_j7⟩, ackFront_j8⟩, ackFront_j9⟩, ackFront_j10⟩, ackFront_j11⟩, ackFront_j12⟩, ackFront_j13⟩, ackFront_j14⟩, ackFront_j15⟩, ackFront_j16⟩, ackFront_j17⟩, ackFront_j18⟩, ackFront_j19⟩, ackFront_j20⟩, ackFront_j21⟩, ackFront_j22⟩, ackFront_j23⟩, ackFront_j24⟩, ackFront_j25⟩, ackFront_j26⟩, ackFront_j27⟩, ackFront_j28⟩, ackFront_j29⟩, ackFront_j30⟩, ackFront_j31⟩
theorem ackFront_said : Rows.AckFrontSaid :=
  OpenClaim.holds_of_wide 3 Tryz.f3 rfl rfl rfl rfl rfl rfl rfl ⟨rfl, rfl, rfl, rfl, rfl⟩ rfl rfl rfl rfl rfl (by kernel_rfl) Tryz.func3 ackFront_closed
    (of_decide_eq_true (by kernel_rfl)) (by unfold Func.isWrapper; first | (rw [if_pos (by decide +kernel)]; kernel_rfl) | (rw [if_neg (by decide +kernel)]; exact ⟨rfl, rfl⟩))
    (fun os started H enc _ => ackFront_lifted os started H enc)
end Go.Proofs.YthmblgneimcgpaaGreat

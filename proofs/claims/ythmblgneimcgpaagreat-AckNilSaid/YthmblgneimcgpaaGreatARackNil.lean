/- Proved: whatever it is handed, epitaphlaw25.AckNil returns true, and what it was handed reads behind the call as it did. Conditions: none. -/
import Derived.Test.YthmblgneimcgpaaGreatRows
import Derived.KernelRfl
import Derived.Test.YthmblgneimcgpaaGreatANi9
import Derived.Test.YthmblgneimcgpaaGreatANi11
namespace Go.Proofs.YthmblgneimcgpaaGreat
open Go.Ep Go.ChangeShapes Go.WideShapes Go.RowKit
set_option maxHeartbeats 1000000
set_option maxRecDepth 100000
set_option linter.unusedVariables false
set_option linter.unusedSimpArgs false

theorem Tryz.own : ownKnob Tryz.prog.godebug = none := by kernel_rfl
theorem Tryz.laidOut : laidOutB Tryz.prog = true := by kernel_rfl
theorem ackNil_lifted (os : Os) (started : os.Started) (H : Type) (enc : TypeId × Value → H) :
    ReturnsInHanded {} Tryz.checked os 6 .any (Rows.ackNilSpec.pre6 enc Tryz.prog Tryz.f6 Rows.ackNilRow.domain false) (Rows.ackNilSpec.post enc Tryz.prog Tryz.f6 false true false false) := by
  refine returnsInHanded_of_change (C := Tryz.checked) Tryz.own started (by kernel_rfl) Tryz.func6
    (ChangeSpec.witness6 (enc := enc) (C := Tryz.checked) false ⟨#[], #[.int .u16 0, .slice none 0 0], []⟩ 8 (by kernel_rfl) (by kernel_rfl) (by kernel_rfl) (by kernel_rfl)) ?_
  intro W base args ds gs before hval0 hW hcnd _
  have hval : ∀ (j : Nat) t v, Tryz.f6.params[j]? = some t → args[j]? = some v → Value.okWide Tryz.prog W .any base t v := hval0
  have hW' := hW
  obtain ⟨p, q, hA0, hV, rfl, hfz, hnd⟩ := hW
  have hA : DataW.TrodAll enc Tryz.prog W 0 (fun _ => true) true Tryz.f6.params.toList args.toList ds p := hA0
  rw [Tryz.params6] at hA hval
  obtain ⟨v0, v1, d0, d1, p0, p1, rfl, rfl, rfl, hx0, hx1⟩ := trodAll_two hA
  have ho0 : v0.oneCell' = true := by
    have h := hval 0 31 v0 rfl rfl
    simp only [Value.okWide, Tryz.underlying31, Cell.okWide] at h
    cases v0 <;> simp_all [Cell.ok, Value.oneCell']
  obtain ⟨a0, h0, hr0, hz0⟩ := Opn.arg (Opn.int Tryz.underlying31 (by kernel_rfl)) hx0 ho0
  have ho1 : v1.oneCell' = true := by
    have h := hval 1 24 v1 rfl rfl
    simp only [Value.okWide, Tryz.underlying24, Cell.okWide] at h
    cases v1 <;> simp_all [Cell.ok, Value.oneCell']
  obtain ⟨a1, h1, hr1, hz1⟩ := Opn.arg (opnTPart.slice Tryz.underlying24 (by kernel_rfl) (by decide)) hx1 ho1
  have hlaw : (l25_AckNil a0 a1).wp (· = true) := by rw [M.J.ackNil_eq a0 a1 (by have := okU16 h0; omega) (fun p hp => by have := okU16 (h1.2 p hp).1; omega)]; rfl
  refine (l25_AckNil_ok a0 a1 true hlaw W All [v0, v1] rfl (by
    intro i p v hp hv
    match i with
    | 0 => cases hp; cases hv; exact hr0
    | 1 => cases hp; cases hv; exact hr1
    | _ + 2 => cases hp)).mono fun e W' ⟨u, he, hbl, hru⟩ => ?_
  rw [hru.of_v] at he
  exact ⟨_, he, post_true Tryz.laidOut hW' rfl (fun ds h => by
    match ds, h with
    | [_, _], _ => exact ⟨rfl, rfl, rfl⟩) rfl Tryz.underlying4 (by
    intro t ht
    rw [Tryz.params6] at ht
    simp only [List.mem_cons, List.not_mem_nil, or_false] at ht
    rcases ht with rfl | rfl
    all_goals exact ⟨by kernel_rfl, of_decide_eq_true (by kernel_rfl)⟩) hbl⟩

theorem ackNil_j0 : Rows.ackNilRow.wf (OpenSpec.ofChange Rows.ackNilSpec) = true := by kernel_rfl
theorem ackNil_j1 : laidOutB Tryz.prog = true := by kernel_rfl
theorem ackNil_j2 : mapsRowed Tryz.prog = true := by kernel_rfl
theorem ackNil_j3 : Tryz.f6.params.all (Tryz.prog.readableRec ·) = true := by kernel_rfl
theorem ackNil_j4 : namedTie Tryz.prog Rows.ackNilRow.named Rows.ackNilSpec.vars = true := by kernel_rfl
theorem ackNil_j5 : (Rows.ackNilRow.stops == []) = true := by kernel_rfl
theorem ackNil_j6 : (Tryz.prog.stops == []) = true := by kernel_rfl
theorem ackNil_j7 : (Rows.ackNilRow.knobs == []) = true := by kernel_rfl
theorem ackNil_j8 : (Tryz.prog.stopKnobs == []) = true := by kernel_rfl
theorem ackNil_j9 : (Rows.ackNilRow.inPlace == Tryz.prog.inPlace 6) = true := by kernel_rfl
theorem ackNil_j10 : (Rows.ackNilRow.unfollowed == Tryz.prog.unfollowed 6) = true := by kernel_rfl
theorem ackNil_j11 : (Rows.ackNilRow.recurses == Tryz.prog.recurses 6) = true := by kernel_rfl
theorem ackNil_j12 : (Rows.ackNilRow.named == Tryz.prog.varsNamed 6) = true := by kernel_rfl
theorem ackNil_j13 : (Rows.ackNilRow.maps == (Tryz.f6.params.toList ++ Rows.ackNilSpec.plain.varTypes Tryz.prog).any (Tryz.prog.mapsRec ·)) = true := by kernel_rfl
theorem ackNil_j14 : (Rows.ackNilRow.ifaces == (Tryz.f6.params.toList ++ Rows.ackNilSpec.plain.varTypes Tryz.prog).any (Tryz.prog.ifacesRec ·)) = true := by kernel_rfl
theorem ackNil_j15 : (Rows.ackNilRow.mapsOut == Tryz.prog.mapsAmong Tryz.f6.resultTypes.toList) = true := by kernel_rfl
theorem ackNil_j16 : (Rows.ackNilRow.loops == (Tryz.f6.params.toList ++ Rows.ackNilSpec.plain.varTypes Tryz.prog).any (Tryz.prog.loopsFrom ·)) = true := by kernel_rfl
theorem ackNil_j17 : (Rows.ackNilRow.wideKeys == (Tryz.f6.params.toList ++ Rows.ackNilSpec.plain.varTypes Tryz.prog ++ Tryz.f6.resultTypes.toList).any (Tryz.prog.wideKeysFrom ·)) = true := by kernel_rfl
theorem ackNil_j18 : Rows.ackNilSpec.vars.all (Tryz.prog.varReadable ·) = true := by kernel_rfl
theorem ackNil_j19 : Tryz.f6.resultTypes.all (fun t => Tryz.prog.readableRec t && decide (t < Tryz.prog.types.size)) = true := by kernel_rfl
theorem ackNil_j20 : (Rows.ackNilRow.ifacesOut == Tryz.f6.resultTypes.toList.any (Tryz.prog.ifacesRec ·)) = true := by kernel_rfl
theorem ackNil_j21 : (Rows.ackNilRow.loopsOut == Tryz.f6.resultTypes.toList.any (Tryz.prog.loopsFrom ·)) = true := by kernel_rfl
theorem ackNil_j22 : (Rows.ackNilRow.plainKeys == Tryz.prog.plainKeys) = true := by kernel_rfl
theorem ackNil_j23 : Rows.ackNilRow.shortTexts.isNone = true := by kernel_rfl
theorem ackNil_j24 : Tryz.prog.stopsHeard = true := by kernel_rfl
theorem ackNil_j25 : Tryz.prog.mayEnter = true := by kernel_rfl
theorem ackNil_j26 : (Rows.ackNilRow.lifted == Tryz.prog.liftsFinal) = true := by kernel_rfl
theorem ackNil_j27 : (Tryz.prog.make == some Rows.ackNilRow.make) = true := by kernel_rfl
theorem ackNil_j28 : (Rows.ackNilRow.kinds == (if Rows.ackNilRow.domain.isEmpty then [] else Tryz.f6.params.toList.map fun t => match Tryz.prog.underlying t with | some (.int k) => some k | _ => none)) = true := by kernel_rfl
theorem ackNil_j29 : (Rows.ackNilRow.pinned == Rows.ackNilRow.pinnedBy) = true := by kernel_rfl
theorem ackNil_j30 : (Rows.ackNilRow.veiled == (Tryz.f6.params.toList ++ Rows.ackNilSpec.plain.varTypes Tryz.prog ++ Tryz.f6.resultTypes.toList).any (Tryz.prog.veiledRec ·)) = true := by kernel_rfl
theorem ackNil_j31 : Rows.ackNilRow.veiledFits Tryz.prog Tryz.f6.params.toList (Tryz.f6.params.toList ++ Rows.ackNilSpec.plain.varTypes Tryz.prog ++ Tryz.f6.resultTypes.toList) = true := by kernel_rfl
theorem ackNil_closed : joinedFacts Tryz.prog 6 Tryz.f6 Rows.ackNilSpec Rows.ackNilRow = true := by
  unfold joinedFacts
  simp only [Bool.and_eq_true]
  exact ⟨⟨⟨⟨⟨⟨⟨⟨⟨⟨⟨⟨⟨⟨⟨⟨⟨⟨⟨⟨⟨⟨⟨⟨⟨⟨⟨⟨⟨⟨⟨ackNil_j0, ackNil_j1⟩, ackNil_j2⟩, ackNil_j3⟩, ackNil_j4⟩, ackNil_j5⟩, ackNil_j6⟩, ackNil_j7⟩, ackNil_j8⟩, ackNil_j9⟩, ackNil_j10⟩, ackNil_j11⟩, ackNil_j12⟩, ackNil_j13⟩, ackNil_j14⟩, ackNil_j15⟩, ackNil_j16⟩, ackNil_j17⟩, ackNil_j18⟩, ackNil_j19⟩, ackNil_j20⟩, ackNil_j21⟩, ackNil_j22⟩, ackNil_j23⟩, ackNil_j24⟩, ackNil_j25⟩, ackNil_j26⟩, ackNil_j27⟩, ackNil_j28⟩, ackNil_j29⟩, ackNil_j30⟩, ackNil_j31⟩
theorem ackNil_said : Rows.AckNilSaid :=
  OpenClaim.holds_of_wide 6 Tryz.f6 rfl rfl rfl rfl rfl rfl rfl ⟨rfl, rfl, rfl, rfl, rfl⟩ rfl rfl rfl rfl rfl (by kernel_rfl) Tryz.func6 ackNil_closed
    (of_decide_eq_true (by kernel_rfl)) (by unfold Func.isWrapper; first | (rw [if_pos (by decide +kernel)]; kernel_rfl) | (rw [if_neg (by decide +kernel)]; exact ⟨rfl, rfl⟩))
    (fun os started H enc _ => ackNil_lifted os started H enc)
end Go.Proofs.YthmblgneimcgpaaGreat

/- Proved: whatever it is handed, epitaphlaw26.RosterNil returns true, and what it was handed reads behind the call as it did. Conditions: none. -/
import Derived.Test.YthcldkmidhhgbaaRows
import Derived.KernelRfl
import Derived.Test.YthcldkmidhhgbaaANi7
import Derived.Test.YthcldkmidhhgbaaANi8
namespace Go.Proofs.Ythcldkmidhhgbaa
open Go.Ep Go.ChangeShapes Go.WideShapes Go.RowKit
set_option maxHeartbeats 1000000
set_option maxRecDepth 100000
set_option linter.unusedVariables false
set_option linter.unusedSimpArgs false

theorem Try.own : ownKnob Try.prog.godebug = none := by kernel_rfl
theorem Try.laidOut : laidOutB Try.prog = true := by kernel_rfl
theorem rosterNil_lifted (os : Os) (started : os.Started) (H : Type) (enc : TypeId × Value → H) :
    ReturnsInHanded {} Try.checked os 5 .any (Rows.rosterNilSpec.pre6 enc Try.prog Try.f5 Rows.rosterNilRow.domain false) (Rows.rosterNilSpec.post enc Try.prog Try.f5 false true false false) := by
  refine returnsInHanded_of_change (C := Try.checked) Try.own started (by kernel_rfl) Try.func5
    (ChangeSpec.witness6 (enc := enc) (C := Try.checked) false ⟨#[], #[.int .u8 0, .int .u64 0, .int .u16 0], []⟩ 8 (by kernel_rfl) (by kernel_rfl) (by kernel_rfl) (by kernel_rfl)) ?_
  intro W base args ds gs before hval0 hW hcnd _
  have hval : ∀ (j : Nat) t v, Try.f5.params[j]? = some t → args[j]? = some v → Value.okWide Try.prog W .any base t v := hval0
  have hW' := hW
  obtain ⟨p, q, hA0, hV, rfl, hfz, hnd⟩ := hW
  have hA : DataW.TrodAll enc Try.prog W 0 (fun _ => true) true Try.f5.params.toList args.toList ds p := hA0
  rw [Try.params5] at hA hval
  obtain ⟨v0, v1, v2, d0, d1, d2, p0, p1, p2, rfl, rfl, rfl, hx0, hx1, hx2⟩ := trodAll_three hA
  have ho0 : v0.oneCell' = true := by
    have h := hval 0 5 v0 rfl rfl
    simp only [Value.okWide, Try.underlying5, Cell.okWide] at h
    cases v0 <;> simp_all [Cell.ok, Value.oneCell']
  obtain ⟨a0, h0, hr0, hz0⟩ := Opn.arg (Opn.int Try.underlying5 (by kernel_rfl)) hx0 ho0
  have ho1 : v1.oneCell' = true := by
    have h := hval 1 28 v1 rfl rfl
    simp only [Value.okWide, Try.underlying28, Cell.okWide] at h
    cases v1 <;> simp_all [Cell.ok, Value.oneCell']
  obtain ⟨a1, h1, hr1, hz1⟩ := Opn.arg (Opn.int Try.underlying28 (by kernel_rfl)) hx1 ho1
  have ho2 : v2.oneCell' = true := by
    have h := hval 2 27 v2 rfl rfl
    simp only [Value.okWide, Try.underlying27, Cell.okWide] at h
    cases v2 <;> simp_all [Cell.ok, Value.oneCell']
  obtain ⟨a2, h2, hr2, hz2⟩ := Opn.arg (Opn.int Try.underlying27 (by kernel_rfl)) hx2 ho2
  have hlaw : (l26_RosterNil a0 a1 a2).wp (· = true) := by rw [M.H.rosterNil_eq a0 a1 a2]; rfl
  refine (l26_RosterNil_ok a0 a1 a2 true hlaw W All [v0, v1, v2] rfl (by
    intro i p v hp hv
    match i with
    | 0 => cases hp; cases hv; exact hr0
    | 1 => cases hp; cases hv; exact hr1
    | 2 => cases hp; cases hv; exact hr2
    | _ + 3 => cases hp)).mono fun e W' ⟨u, he, hbl, hru⟩ => ?_
  rw [hru.of_v] at he
  exact ⟨_, he, post_true Try.laidOut hW' rfl (fun ds h => by
    match ds, h with
    | [_, _, _], _ => exact ⟨rfl, rfl, rfl⟩) rfl Try.underlying4 (by
    intro t ht
    rw [Try.params5] at ht
    simp only [List.mem_cons, List.not_mem_nil, or_false] at ht
    rcases ht with rfl | rfl | rfl
    all_goals exact ⟨by kernel_rfl, of_decide_eq_true (by kernel_rfl)⟩) hbl⟩

theorem rosterNil_j0 : Rows.rosterNilRow.wf (OpenSpec.ofChange Rows.rosterNilSpec) = true := by kernel_rfl
theorem rosterNil_j1 : laidOutB Try.prog = true := by kernel_rfl
theorem rosterNil_j2 : mapsRowed Try.prog = true := by kernel_rfl
theorem rosterNil_j3 : Try.f5.params.all (Try.prog.readableRec ·) = true := by kernel_rfl
theorem rosterNil_j4 : namedTie Try.prog Rows.rosterNilRow.named Rows.rosterNilSpec.vars = true := by kernel_rfl
theorem rosterNil_j5 : (Rows.rosterNilRow.stops == []) = true := by kernel_rfl
theorem rosterNil_j6 : (Try.prog.stops == []) = true := by kernel_rfl
theorem rosterNil_j7 : (Rows.rosterNilRow.knobs == []) = true := by kernel_rfl
theorem rosterNil_j8 : (Try.prog.stopKnobs == []) = true := by kernel_rfl
theorem rosterNil_j9 : (Rows.rosterNilRow.inPlace == Try.prog.inPlace 5) = true := by kernel_rfl
theorem rosterNil_j10 : (Rows.rosterNilRow.unfollowed == Try.prog.unfollowed 5) = true := by kernel_rfl
theorem rosterNil_j11 : (Rows.rosterNilRow.recurses == Try.prog.recurses 5) = true := by kernel_rfl
theorem rosterNil_j12 : (Rows.rosterNilRow.named == Try.prog.varsNamed 5) = true := by kernel_rfl
theorem rosterNil_j13 : (Rows.rosterNilRow.maps == (Try.f5.params.toList ++ Rows.rosterNilSpec.plain.varTypes Try.prog).any (Try.prog.mapsRec ·)) = true := by kernel_rfl
theorem rosterNil_j14 : (Rows.rosterNilRow.ifaces == (Try.f5.params.toList ++ Rows.rosterNilSpec.plain.varTypes Try.prog).any (Try.prog.ifacesRec ·)) = true := by kernel_rfl
theorem rosterNil_j15 : (Rows.rosterNilRow.mapsOut == Try.prog.mapsAmong Try.f5.resultTypes.toList) = true := by kernel_rfl
theorem rosterNil_j16 : (Rows.rosterNilRow.loops == (Try.f5.params.toList ++ Rows.rosterNilSpec.plain.varTypes Try.prog).any (Try.prog.loopsFrom ·)) = true := by kernel_rfl
theorem rosterNil_j17 : (Rows.rosterNilRow.wideKeys == (Try.f5.params.toList ++ Rows.rosterNilSpec.plain.varTypes Try.prog ++ Try.f5.resultTypes.toList).any (Try.prog.wideKeysFrom ·)) = true := by kernel_rfl
theorem rosterNil_j18 : Rows.rosterNilSpec.vars.all (Try.prog.varReadable ·) = true := by kernel_rfl
theorem rosterNil_j19 : Try.f5.resultTypes.all (fun t => Try.prog.readableRec t && decide (t < Try.prog.types.size)) = true := by kernel_rfl
theorem rosterNil_j20 : (Rows.rosterNilRow.ifacesOut == Try.f5.resultTypes.toList.any (Try.prog.ifacesRec ·)) = true := by kernel_rfl
theorem rosterNil_j21 : (Rows.rosterNilRow.loopsOut == Try.f5.resultTypes.toList.any (Try.prog.loopsFrom ·)) = true := by kernel_rfl
theorem rosterNil_j22 : (Rows.rosterNilRow.plainKeys == Try.prog.plainKeys) = true := by kernel_rfl
theorem rosterNil_j23 : Rows.rosterNilRow.shortTexts.isNone = true := by kernel_rfl
theorem rosterNil_j24 : Try.prog.stopsHeard = true := by kernel_rfl
theorem rosterNil_j25 : Try.prog.mayEnter = true := by kernel_rfl
theorem rosterNil_j26 : (Rows.rosterNilRow.lifted == Try.prog.liftsFinal) = true := by kernel_rfl
theorem rosterNil_j27 : (Try.prog.make == some Rows.rosterNilRow.make) = true := by kernel_rfl
theorem rosterNil_j28 : (Rows.rosterNilRow.kinds == (if Rows.rosterNilRow.domain.isEmpty then [] else Try.f5.params.toList.map fun t => match Try.prog.underlying t with | some (.int k) => some k | _ => none)) = true := by kernel_rfl
theorem rosterNil_j29 : (Rows.rosterNilRow.pinned == Rows.rosterNilRow.pinnedBy) = true := by kernel_rfl
theorem rosterNil_j30 : (Rows.rosterNilRow.veiled == (Try.f5.params.toList ++ Rows.rosterNilSpec.plain.varTypes Try.prog ++ Try.f5.resultTypes.toList).any (Try.prog.veiledRec ·)) = true := by kernel_rfl
theorem rosterNil_j31 : Rows.rosterNilRow.veiledFits Try.prog Try.f5.params.toList (Try.f5.params.toList ++ Rows.rosterNilSpec.plain.varTypes Try.prog ++ Try.f5.resultTypes.toList) = true := by kernel_rfl
theorem rosterNil_closed : joinedFacts Try.prog 5 Try.f5 Rows.rosterNilSpec Rows.rosterNilRow = true := by
  unfold joinedFacts
  simp only [Bool.and_eq_true]
  exact ⟨⟨⟨⟨⟨⟨⟨⟨⟨⟨⟨⟨⟨⟨⟨⟨⟨⟨⟨⟨⟨⟨⟨⟨⟨⟨⟨⟨⟨⟨⟨rosterNil_j0, rosterNil_j1⟩, rosterNil_j2⟩, rosterNil_j3⟩, rosterNil_j4⟩, rosterNil_j5⟩, rosterNil_j6⟩, rosterNil_j7⟩, rosterNil_j8⟩, rosterNil_j9⟩, rosterNil_j10⟩, rosterNil_j11⟩, rosterNil_j12⟩, rosterNil_j13⟩, rosterNil_j14⟩, rosterNil_j15⟩, rosterNil_j16⟩, rosterNil_j17⟩, rosterNil_j18⟩, rosterNil_j19⟩, rosterNil_j20⟩, rosterNil_j21⟩, rosterNil_j22⟩, rosterNil_j23⟩, rosterNil_j24⟩, rosterNil_j25⟩, rosterNil_j26⟩, rosterNil_j27⟩, rosterNil_j28⟩, rosterNil_j29⟩, rosterNil_j30⟩, rosterNil_j31⟩
theorem rosterNil_said : Rows.RosterNilSaid :=
  OpenClaim.holds_of_wide 5 Try.f5 rfl rfl rfl rfl rfl rfl rfl ⟨rfl, rfl, rfl, rfl, rfl⟩ rfl rfl rfl rfl rfl (by kernel_rfl) Try.func5 rosterNil_closed
    (of_decide_eq_true (by kernel_rfl)) (by unfold Func.isWrapper; first | (rw [if_pos (by decide +kernel)]; kernel_rfl) | (rw [if_neg (by decide +kernel)]; exact ⟨rfl, rfl⟩))
    (fun os started H enc _ => rosterNil_lifted os started H enc)
end Go.Proofs.Ythcldkmidhhgbaa

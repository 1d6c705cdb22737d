/- Proved: whatever it is handed, epitaphlaw26.RosterFrom returns true, and what it was handed reads behind the call as it did. Conditions: none. -/
import Derived.Test.YthcldkmidhhgbaaRows
import Derived.KernelRfl
import Derived.Test.YthcldkmidhhgbaaAFo7
namespace Go.Proofs.Ythcldkmidhhgbaa
open Go.Ep Go.ChangeShapes Go.WideShapes Go.RowKit
set_option maxHeartbeats 1000000
set_option maxRecDepth 100000
set_option linter.unusedVariables false
set_option linter.unusedSimpArgs false

theorem Try.own : ownKnob Try.prog.godebug = none := by kernel_rfl
theorem Try.laidOut : laidOutB Try.prog = true := by kernel_rfl
theorem rosterFrom_lifted (os : Os) (started : os.Started) (H : Type) (enc : TypeId × Value → H) :
    ReturnsInHanded {} Try.checked os 4 .any (Rows.rosterFromSpec.pre6 enc Try.prog Try.f4 Rows.rosterFromRow.domain false) (Rows.rosterFromSpec.post enc Try.prog Try.f4 false true false false) := by
  refine returnsInHanded_of_change (C := Try.checked) Try.own started (by kernel_rfl) Try.func4
    (ChangeSpec.witness6 (enc := enc) (C := Try.checked) false ⟨#[], #[.agg #[.int .u16 0, .int .u16 0], .slice none 0 0, .slice none 0 0], []⟩ 8 (by kernel_rfl) (by kernel_rfl) (by kernel_rfl) (by kernel_rfl)) ?_
  intro W base args ds gs before hval0 hW hcnd _
  have hval : ∀ (j : Nat) t v, Try.f4.params[j]? = some t → args[j]? = some v → Value.okWide Try.prog W .any base t v := hval0
  have hW' := hW
  obtain ⟨p, q, hA0, hV, rfl, hfz, hnd⟩ := hW
  have hA : DataW.TrodAll enc Try.prog W 0 (fun _ => true) true Try.f4.params.toList args.toList ds p := hA0
  rw [Try.params4] at hA hval
  obtain ⟨v0, v1, v2, d0, d1, d2, p0, p1, p2, rfl, rfl, rfl, hx0, hx1, hx2⟩ := trodAll_three hA
  obtain ⟨us0, rfl⟩ : ∃ us, v0 = .agg us := by
    have h := hval 0 43 v0 rfl rfl
    simp only [Value.okWide, Try.underlying43] at h
    obtain ⟨cs, h, _⟩ := h
    exact ⟨cs, h⟩
  obtain ⟨a0, h0, hr0, hz0⟩ := Opn.argAgg ((Opn.int Try.underlying27 (by kernel_rfl)).arr2 Try.underlying43 (by kernel_rfl)) hx0
  have ho1 : v1.oneCell' = true := by
    have h := hval 1 32 v1 rfl rfl
    simp only [Value.okWide, Try.underlying32, Cell.okWide] at h
    cases v1 <;> simp_all [Cell.ok, Value.oneCell']
  obtain ⟨a1, h1, hr1, hz1⟩ := Opn.arg (opnTMember.slice Try.underlying32 (by kernel_rfl) (by decide)) hx1 ho1
  have ho2 : v2.oneCell' = true := by
    have h := hval 2 44 v2 rfl rfl
    simp only [Value.okWide, Try.underlying44, Cell.okWide] at h
    cases v2 <;> simp_all [Cell.ok, Value.oneCell']
  obtain ⟨a2, h2, hr2, hz2⟩ := Opn.arg ((Opn.int Try.underlying28 (by kernel_rfl)).slice Try.underlying44 (by kernel_rfl) (by decide)) hx2 ho2
  have hlaw : (l26_RosterFrom a0 a1 a2).wp (· = true) := by rw [M.H.rosterFrom_eq a0 a1 a2 (by have := okU16 h0.1; omega) (by have := okU16 h0.2; omega) (fun x hx => by have g := h1.2 x hx; have k1 := okU16 g.1; have k2 := okU8 g.2.1; omega)]; rfl
  refine (l26_RosterFrom_ok a0 a1 a2 true hlaw W All [.agg us0, v1, v2] rfl (by
    intro i p v hp hv
    match i with
    | 0 => cases hp; cases hv; exact hr0
    | 1 => cases hp; cases hv; exact hr1
    | 2 => cases hp; cases hv; exact hr2
    | _ + 3 => cases hp)).mono fun e W' ⟨u, he, hbl, hru⟩ => ?_
  rw [hru.of_v] at he
  exact ⟨_, he, post_true Try.laidOut hW' rfl (fun ds h => by
    match ds, h with
    | [_, _, _], _ => exact ⟨rfl, rfl, rfl⟩) rfl Try.underlying4 (by
    intro t ht
    rw [Try.params4] at ht
    simp only [List.mem_cons, List.not_mem_nil, or_false] at ht
    rcases ht with rfl | rfl | rfl
    all_goals exact ⟨by kernel_rfl, of_decide_eq_true (by kernel_rfl)⟩) hbl⟩

theorem rosterFrom_j0 : Rows.rosterFromRow.wf (OpenSpec.ofChange Rows.rosterFromSpec) = true := by kernel_rfl
theorem rosterFrom_j1 : laidOutB Try.prog = true := by kernel_rfl
theorem rosterFrom_j2 : mapsRowed Try.prog = true := by kernel_rfl
theorem rosterFrom_j3 : Try.f4.params.all (Try.prog.readableRec ·) = true := by kernel_rfl
theorem rosterFrom_j4 : namedTie Try.prog Rows.rosterFromRow.named Rows.rosterFromSpec.vars = true := by kernel_rfl
theorem rosterFrom_j5 : (Rows.rosterFromRow.stops == []) = true := by kernel_rfl
theorem rosterFrom_j6 : (Try.prog.stops == []) = true := by kernel_rfl
theorem rosterFrom_j7 : (Rows.rosterFromRow.knobs == []) = true := by kernel_rfl
theorem rosterFrom_j8 : (Try.prog.stopKnobs == []) = true := by kernel_rfl
theorem rosterFrom_j9 : (Rows.rosterFromRow.inPlace == Try.prog.inPlace 4) = true := by kernel_rfl
theorem rosterFrom_j10 : (Rows.rosterFromRow.unfollowed == Try.prog.unfollowed 4) = true := by kernel_rfl
theorem rosterFrom_j11 : (Rows.rosterFromRow.recurses == Try.prog.recurses 4) = true := by kernel_rfl
theorem rosterFrom_j12 : (Rows.rosterFromRow.named == Try.prog.varsNamed 4) = true := by kernel_rfl
theorem rosterFrom_j13 : (Rows.rosterFromRow.maps == (Try.f4.params.toList ++ Rows.rosterFromSpec.plain.varTypes Try.prog).any (Try.prog.mapsRec ·)) = true := by kernel_rfl
theorem rosterFrom_j14 : (Rows.rosterFromRow.ifaces == (Try.f4.params.toList ++ Rows.rosterFromSpec.plain.varTypes Try.prog).any (Try.prog.ifacesRec ·)) = true := by kernel_rfl
theorem rosterFrom_j15 : (Rows.rosterFromRow.mapsOut == Try.prog.mapsAmong Try.f4.resultTypes.toList) = true := by kernel_rfl
theorem rosterFrom_j16 : (Rows.rosterFromRow.loops == (Try.f4.params.toList ++ Rows.rosterFromSpec.plain.varTypes Try.prog).any (Try.prog.loopsFrom ·)) = true := by kernel_rfl
theorem rosterFrom_j17 : (Rows.rosterFromRow.wideKeys == (Try.f4.params.toList ++ Rows.rosterFromSpec.plain.varTypes Try.prog ++ Try.f4.resultTypes.toList).any (Try.prog.wideKeysFrom ·)) = true := by kernel_rfl
theorem rosterFrom_j18 : Rows.rosterFromSpec.vars.all (Try.prog.varReadable ·) = true := by kernel_rfl
theorem rosterFrom_j19 : Try.f4.resultTypes.all (fun t => Try.prog.readableRec t && decide (t < Try.prog.types.size)) = true := by kernel_rfl
theorem rosterFrom_j20 : (Rows.rosterFromRow.ifacesOut == Try.f4.resultTypes.toList.any (Try.prog.ifacesRec ·)) = true := by kernel_rfl
theorem rosterFrom_j21 : (Rows.rosterFromRow.loopsOut == Try.f4.resultTypes.toList.any (Try.prog.loopsFrom ·)) = true := by kernel_rfl
theorem rosterFrom_j22 : (Rows.rosterFromRow.plainKeys == Try.prog.plainKeys) = true := by kernel_rfl
theorem rosterFrom_j23 : Rows.rosterFromRow.shortTexts.isNone = true := by kernel_rfl
theorem rosterFrom_j24 : Try.prog.stopsHeard = true := by kernel_rfl
theorem rosterFrom_j25 : Try.prog.mayEnter = true := by kernel_rfl
theorem rosterFrom_j26 : (Rows.rosterFromRow.lifted == Try.prog.liftsFinal) = true := by kernel_rfl
theorem rosterFrom_j27 : (Try.prog.make == some Rows.rosterFromRow.make) = true := by kernel_rfl
theorem rosterFrom_j28 : (Rows.rosterFromRow.kinds == (if Rows.rosterFromRow.domain.isEmpty then [] else Try.f4.params.toList.map fun t => match Try.prog.underlying t with | some (.int k) => some k | _ => none)) = true := by kernel_rfl
theorem rosterFrom_j29 : (Rows.rosterFromRow.pinned == Rows.rosterFromRow.pinnedBy) = true := by kernel_rfl
theorem rosterFrom_j30 : (Rows.rosterFromRow.veiled == (Try.f4.params.toList ++ Rows.rosterFromSpec.plain.varTypes Try.prog ++ Try.f4.resultTypes.toList).any (Try.prog.veiledRec ·)) = true := by kernel_rfl
theorem rosterFrom_j31 : Rows.rosterFromRow.veiledFits Try.prog Try.f4.params.toList (Try.f4.params.toList ++ Rows.rosterFromSpec.plain.varTypes Try.prog ++ Try.f4.resultTypes.toList) = true := by kernel_rfl
theorem rosterFrom_closed : joinedFacts Try.prog 4 Try.f4 Rows.rosterFromSpec Rows.rosterFromRow = true := by
  unfold joinedFacts
  simp only [Bool.and_eq_true]
  exact ⟨⟨⟨⟨⟨⟨⟨⟨⟨⟨⟨⟨⟨⟨⟨⟨⟨⟨⟨⟨⟨⟨⟨⟨⟨⟨⟨⟨⟨⟨⟨rosterFrom_j0, rosterFrom_j1⟩, rosterFrom_j2⟩, rosterFrom_j3⟩, rosterFrom_j4⟩, rosterFrom_j5⟩, rosterFrom_j6⟩, rosterFrom_j7⟩, rosterFrom_j8⟩, rosterFrom_j9⟩, rosterFrom_j10⟩, rosterFrom_j11⟩, rosterFrom_j12⟩, rosterFrom_j13⟩, rosterFrom_j14⟩, rosterFrom_j15⟩, rosterFrom_j16⟩, rosterFrom_j17⟩, rosterFrom_j18⟩, rosterFrom_j19⟩, rosterFrom_j20⟩, rosterFrom_j21⟩, rosterFrom_j22⟩, rosterFrom_j23⟩, rosterFrom_j24⟩, rosterFrom_j25⟩, rosterFrom_j26⟩, rosterFrom_j27⟩, rosterFrom_j28⟩, rosterFrom_j29⟩, rosterFrom_j30⟩, rosterFrom_j31⟩
theorem rosterFrom_said : Rows.RosterFromSaid :=
  OpenClaim.holds_of_wide 4 Try.f4 rfl rfl rfl rfl rfl rfl rfl ⟨rfl, rfl, rfl, rfl, rfl⟩ rfl rfl rfl rfl rfl (by kernel_rfl) Try.func4 rosterFrom_closed
    (of_decide_eq_true (by kernel_rfl)) (by unfold Func.isWrapper; first | (rw [if_pos (by decide +kernel)]; kernel_rfl) | (rw [if_neg (by decide +kernel)]; exact ⟨rfl, rfl⟩))
    (fun os started H enc _ => rosterFrom_lifted os started H enc)
end Go.Proofs.Ythcldkmidhhgbaa

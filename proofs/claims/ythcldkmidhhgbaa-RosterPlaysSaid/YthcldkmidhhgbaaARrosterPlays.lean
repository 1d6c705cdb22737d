/- Proved: whatever it is handed, epitaphlaw26.RosterPlays returns true, and what it was handed reads behind the call as it did. Conditions: none. -/
import Derived.Test.YthcldkmidhhgbaaRows
import Derived.KernelRfl
import Derived.Test.YthcldkmidhhgbaaAPl8
import Derived.Test.YthcldkmidhhgbaaAPl9
namespace Go.Proofs.Ythcldkmidhhgbaa
open Go.Ep Go.ChangeShapes Go.WideShapes Go.RowKit
set_option maxHeartbeats 1000000
set_option maxRecDepth 100000
set_option linter.unusedVariables false
set_option linter.unusedSimpArgs false

theorem Try.own : ownKnob Try.prog.godebug = none := by kernel_rfl
theorem Try.laidOut : laidOutB Try.prog = true := by kernel_rfl
theorem rosterPlays_lifted (os : Os) (started : os.Started) (H : Type) (enc : TypeId × Value → H) :
    ReturnsInHanded {} Try.checked os 6 .any (Rows.rosterPlaysSpec.pre6 enc Try.prog Try.f6 Rows.rosterPlaysRow.domain false) (Rows.rosterPlaysSpec.post enc Try.prog Try.f6 false true false false) := by
  refine returnsInHanded_of_change (C := Try.checked) Try.own started (by kernel_rfl) Try.func6
    (ChangeSpec.witness6 (enc := enc) (C := Try.checked) false ⟨#[], #[.int .u16 0, .slice none 0 0], []⟩ 8 (by kernel_rfl) (by kernel_rfl) (by kernel_rfl) (by kernel_rfl)) ?_
  intro W base args ds gs before hval0 hW hcnd _
  have hval : ∀ (j : Nat) t v, Try.f6.params[j]? = some t → args[j]? = some v → Value.okWide Try.prog W .any base t v := hval0
  have hW' := hW
  obtain ⟨p, q, hA0, hV, rfl, hfz, hnd⟩ := hW
  have hA : DataW.TrodAll enc Try.prog W 0 (fun _ => true) true Try.f6.params.toList args.toList ds p := hA0
  rw [Try.params6] at hA hval
  obtain ⟨v0, v1, d0, d1, p0, p1, rfl, rfl, rfl, hx0, hx1⟩ := trodAll_two hA
  have ho0 : v0.oneCell' = true := by
    have h := hval 0 27 v0 rfl rfl
    simp only [Value.okWide, Try.underlying27, Cell.okWide] at h
    cases v0 <;> simp_all [Cell.ok, Value.oneCell']
  obtain ⟨a0, h0, hr0, hz0⟩ := Opn.arg (Opn.int Try.underlying27 (by kernel_rfl)) hx0 ho0
  have ho1 : v1.oneCell' = true := by
    have h := hval 1 22 v1 rfl rfl
    simp only [Value.okWide, Try.underlying22, Cell.okWide] at h
    cases v1 <;> simp_all [Cell.ok, Value.oneCell']
  obtain ⟨a1, h1, hr1, hz1⟩ := Opn.arg (opnL26Act.slice Try.underlying22 (by kernel_rfl) (by decide)) hx1 ho1
  have hlaw : (l26_RosterPlays a0 a1).wp (· = true) := by rw [M.H.rosterPlays_eq a0 a1 (by have := okU16 h0; omega) (fun a ha => by have g := h1.2 a ha; have k1 := okU8 g.2.1; have k3 := okU16 g.2.2.2.1; exact k1.1)]; rfl
  refine (l26_RosterPlays_ok a0 a1 true hlaw W All [v0, v1] rfl (by
    intro i p v hp hv
    match i with
    | 0 => cases hp; cases hv; exact hr0
    | 1 => cases hp; cases hv; exact hr1
    | _ + 2 => cases hp)).mono fun e W' ⟨u, he, hbl, hru⟩ => ?_
  rw [hru.of_v] at he
  exact ⟨_, he, post_true Try.laidOut hW' rfl (fun ds h => by
    match ds, h with
    | [_, _], _ => exact ⟨rfl, rfl, rfl⟩) rfl Try.underlying4 (by
    intro t ht
    rw [Try.params6] at ht
    simp only [List.mem_cons, List.not_mem_nil, or_false] at ht
    rcases ht with rfl | rfl
    all_goals exact ⟨by kernel_rfl, of_decide_eq_true (by kernel_rfl)⟩) hbl⟩

theorem rosterPlays_j0 : Rows.rosterPlaysRow.wf (OpenSpec.ofChange Rows.rosterPlaysSpec) = true := by kernel_rfl
theorem rosterPlays_j1 : laidOutB Try.prog = true := by kernel_rfl
theorem rosterPlays_j2 : mapsRowed Try.prog = true := by kernel_rfl
theorem rosterPlays_j3 : Try.f6.params.all (Try.prog.readableRec ·) = true := by kernel_rfl
theorem rosterPlays_j4 : namedTie Try.prog Rows.rosterPlaysRow.named Rows.rosterPlaysSpec.vars = true := by kernel_rfl
theorem rosterPlays_j5 : (Rows.rosterPlaysRow.stops == []) = true := by kernel_rfl
theorem rosterPlays_j6 : (Try.prog.stops == []) = true := by kernel_rfl
theorem rosterPlays_j7 : (Rows.rosterPlaysRow.knobs == []) = true := by kernel_rfl
theorem rosterPlays_j8 : (Try.prog.stopKnobs == []) = true := by kernel_rfl
theorem rosterPlays_j9 : (Rows.rosterPlaysRow.inPlace == Try.prog.inPlace 6) = true := by kernel_rfl
theorem rosterPlays_j10 : (Rows.rosterPlaysRow.unfollowed == Try.prog.unfollowed 6) = true := by kernel_rfl
theorem rosterPlays_j11 : (Rows.rosterPlaysRow.recurses == Try.prog.recurses 6) = true := by kernel_rfl
theorem rosterPlays_j12 : (Rows.rosterPlaysRow.named == Try.prog.varsNamed 6) = true := by kernel_rfl
theorem rosterPlays_j13 : (Rows.rosterPlaysRow.maps == (Try.f6.params.toList ++ Rows.rosterPlaysSpec.plain.varTypes Try.prog).any (Try.prog.mapsRec ·)) = true := by kernel_rfl
theorem rosterPlays_j14 : (Rows.rosterPlaysRow.ifaces == (Try.f6.params.toList ++ Rows.rosterPlaysSpec.plain.varTypes Try.prog).any (Try.prog.ifacesRec ·)) = true := by kernel_rfl
theorem rosterPlays_j15 : (Rows.rosterPlaysRow.mapsOut == Try.prog.mapsAmong Try.f6.resultTypes.toList) = true := by kernel_rfl
theorem rosterPlays_j16 : (Rows.rosterPlaysRow.loops == (Try.f6.params.toList ++ Rows.rosterPlaysSpec.plain.varTypes Try.prog).any (Try.prog.loopsFrom ·)) = true := by kernel_rfl
theorem rosterPlays_j17 : (Rows.rosterPlaysRow.wideKeys == (Try.f6.params.toList ++ Rows.rosterPlaysSpec.plain.varTypes Try.prog ++ Try.f6.resultTypes.toList).any (Try.prog.wideKeysFrom ·)) = true := by kernel_rfl
theorem rosterPlays_j18 : Rows.rosterPlaysSpec.vars.all (Try.prog.varReadable ·) = true := by kernel_rfl
theorem rosterPlays_j19 : Try.f6.resultTypes.all (fun t => Try.prog.readableRec t && decide (t < Try.prog.types.size)) = true := by kernel_rfl
theorem rosterPlays_j20 : (Rows.rosterPlaysRow.ifacesOut == Try.f6.resultTypes.toList.any (Try.prog.ifacesRec ·)) = true := by kernel_rfl
theorem rosterPlays_j21 : (Rows.rosterPlaysRow.loopsOut == Try.f6.resultTypes.toList.any (Try.prog.loopsFrom ·)) = true := by kernel_rfl
theorem rosterPlays_j22 : (Rows.rosterPlaysRow.plainKeys == Try.prog.plainKeys) = true := by kernel_rfl
theorem rosterPlays_j23 : Rows.rosterPlaysRow.shortTexts.isNone = true := by kernel_rfl
theorem rosterPlays_j24 : Try.prog.stopsHeard = true := by kernel_rfl
theorem rosterPlays_j25 : Try.prog.mayEnter = true := by kernel_rfl
theorem rosterPlays_j26 : (Rows.rosterPlaysRow.lifted == Try.prog.liftsFinal) = true := by kernel_rfl
theorem rosterPlays_j27 : (Try.prog.make == some Rows.rosterPlaysRow.make) = true := by kernel_rfl
theorem rosterPlays_j28 : (Rows.rosterPlaysRow.kinds == (if Rows.rosterPlaysRow.domain.isEmpty then [] else Try.f6.params.toList.map fun t => match Try.prog.underlying t with | some (.int k) => some k | _ => none)) = true := by kernel_rfl
theorem rosterPlays_j29 : (Rows.rosterPlaysRow.pinned == Rows.rosterPlaysRow.pinnedBy) = true := by kernel_rfl
theorem rosterPlays_j30 : (Rows.rosterPlaysRow.veiled == (Try.f6.params.toList ++ Rows.rosterPlaysSpec.plain.varTypes Try.prog ++ Try.f6.resultTypes.toList).any (Try.prog.veiledRec ·)) = true := by kernel_rfl
theorem rosterPlays_j31 : Rows.rosterPlaysRow.veiledFits Try.prog Try.f6.params.toList (Try.f6.params.toList ++ Rows.rosterPlaysSpec.plain.varTypes Try.prog ++ Try.f6.resultTypes.toList) = true := by kernel_rfl
theorem rosterPlays_closed : joinedFacts Try.prog 6 Try.f6 Rows.rosterPlaysSpec Rows.rosterPlaysRow = true := by
  unfold joinedFacts
  simp only [Bool.and_eq_true]
  exact ⟨⟨⟨⟨⟨⟨⟨⟨⟨⟨⟨⟨⟨⟨⟨⟨⟨⟨⟨⟨⟨⟨⟨⟨⟨⟨⟨⟨⟨⟨⟨rosterPlays_j0, rosterPlays_j1⟩, rosterPlays_j2⟩, rosterPlays_j3⟩, rosterPlays_j4⟩, rosterPlays_j5⟩, rosterPlays_j6⟩, rosterPlays_j7⟩, rosterPlays_j8⟩, rosterPlays_j9⟩, rosterPlays_j10⟩, rosterPlays_j11⟩, rosterPlays_j12⟩, rosterPlays_j13⟩, rosterPlays_j14⟩, rosterPlays_j15⟩, rosterPlays_j16⟩, rosterPlays_j17⟩, rosterPlays_j18⟩, rosterPlays_j19⟩, rosterPlays_j20⟩, rosterPlays_j21⟩, rosterPlays_j22⟩, rosterPlays_j23⟩, rosterPlays_j24⟩, rosterPlays_j25⟩, rosterPlays_j26⟩, rosterPlays_j27⟩, rosterPlays_j28⟩, rosterPlays_j29⟩, rosterPlays_j30⟩, rosterPlays_j31⟩
theorem rosterPlays_said : Rows.RosterPlaysSaid :=
  OpenClaim.holds_of_wide 6 Try.f6 rfl rfl rfl rfl rfl rfl rfl ⟨rfl, rfl, rfl, rfl, rfl⟩ rfl rfl rfl rfl rfl (by kernel_rfl) Try.func6 rosterPlays_closed
    (of_decide_eq_true (by kernel_rfl)) (by unfold Func.isWrapper; first | (rw [if_pos (by decide +kernel)]; kernel_rfl) | (rw [if_neg (by decide +kernel)]; exact ⟨rfl, rfl⟩))
    (fun os started H enc _ => rosterPlays_lifted os started H enc)
end Go.Proofs.Ythcldkmidhhgbaa

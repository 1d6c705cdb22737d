/- Proved: whatever it is handed, epitaphlaw18.BookPlays returns true, and what it was handed reads behind the call as it did. Conditions: none. -/
import Derived.Test.YtfngolkgligbfaaGreatRows
import Derived.KernelRfl
import Derived.Test.YtfngolkgligbfaaGreatMBp10
import Derived.Test.YtfngolkgligbfaaGreatMBp13
namespace Go.Proofs.YtfngolkgligbfaaGreat
open Go.Ep Go.ChangeShapes Go.WideShapes Go.RowKit
set_option maxHeartbeats 1000000
set_option maxRecDepth 100000
set_option linter.unusedVariables false
set_option linter.unusedSimpArgs false

theorem Tryz.own : ownKnob Tryz.prog.godebug = none := by kernel_rfl
theorem Tryz.laidOut : laidOutB Tryz.prog = true := by kernel_rfl
theorem bookPlays_lifted (os : Os) (started : os.Started) (H : Type) (enc : TypeId × Value → H) :
    ReturnsInHanded {} Tryz.checked os 8 .any (Rows.bookPlaysSpec.pre6 enc Tryz.prog Tryz.f8 Rows.bookPlaysRow.domain false) (Rows.bookPlaysSpec.post enc Tryz.prog Tryz.f8 false true false false) := by
  refine returnsInHanded_of_change (C := Tryz.checked) Tryz.own started (by kernel_rfl) Tryz.func8
    (ChangeSpec.witness6 (enc := enc) (C := Tryz.checked) false ⟨#[], #[.slice none 0 0], []⟩ 8 (by kernel_rfl) (by kernel_rfl) (by kernel_rfl) (by kernel_rfl)) ?_
  intro W base args ds gs before hval0 hW hcnd _
  have hval : ∀ (j : Nat) t v, Tryz.f8.params[j]? = some t → args[j]? = some v → Value.okWide Tryz.prog W .any base t v := hval0
  have hW' := hW
  obtain ⟨p, q, hA0, hV, rfl, hfz, hnd⟩ := hW
  have hA : DataW.TrodAll enc Tryz.prog W 0 (fun _ => true) true Tryz.f8.params.toList args.toList ds p := hA0
  rw [Tryz.params8] at hA hval
  obtain ⟨v0, d0, rfl, rfl, hx0⟩ := trodAll_one hA
  have ho0 : v0.oneCell' = true := by
    have h := hval 0 56 v0 rfl rfl
    simp only [Value.okWide, Tryz.underlying56, Cell.okWide] at h
    cases v0 <;> simp_all [Cell.ok, Value.oneCell']
  obtain ⟨a0, h0, hr0, hz0⟩ := Opn.arg (opnL18Act.slice Tryz.underlying56 (by kernel_rfl) (by decide)) hx0 ho0
  have hlaw : (l18_BookPlays a0).wp (· = true) := by rw [M.G.bookPlays_eq a0 (fun a ha => by have g := h0.2 a ha; exact ⟨fun ht => (by have h := g.2.1; have h1 := okU8 h.2.1; have h2 := okU64 h.2.2.1; have h3 := okU8 h.2.2.2.1; have hd1 := okU16 h.1.1; have hd2 := okU64 h.1.2; exact ⟨⟨hd1.1, by omega, hd2.1, by omega⟩, ⟨h1.1, by omega⟩, ⟨h2.1, by omega⟩, ⟨h3.1, by omega⟩, by omega, (fun d hd => by have g := h.2.2.2.2.2.2 d hd; have g1 := okU16 g.1; have g2 := okU64 g.2; exact ⟨g1.1, by omega, g2.1, by omega⟩), by omega⟩), (fun p hp => by have := okU16 (g.2.2.2 p hp).1; omega)⟩)]; rfl
  refine (l18_BookPlays_ok a0 true hlaw W All [v0] rfl (by
    intro i p v hp hv
    match i with
    | 0 => cases hp; cases hv; exact hr0
    | _ + 1 => cases hp)).mono fun e W' ⟨u, he, hbl, hru⟩ => ?_
  rw [hru.of_v] at he
  exact ⟨_, he, post_true Tryz.laidOut hW' rfl (fun ds h => by
    match ds, h with
    | [_], _ => exact ⟨rfl, rfl, rfl⟩) rfl Tryz.underlying4 (by
    intro t ht
    rw [Tryz.params8] at ht
    simp only [List.mem_cons, List.not_mem_nil, or_false] at ht
    subst ht
    exact ⟨by kernel_rfl, of_decide_eq_true (by kernel_rfl)⟩) hbl⟩

theorem bookPlays_j0 : Rows.bookPlaysRow.wf (OpenSpec.ofChange Rows.bookPlaysSpec) = true := by kernel_rfl
theorem bookPlays_j1 : laidOutB Tryz.prog = true := by kernel_rfl
theorem bookPlays_j2 : mapsRowed Tryz.prog = true := by kernel_rfl
theorem bookPlays_j3 : Tryz.f8.params.all (Tryz.prog.readableRec ·) = true := by kernel_rfl
theorem bookPlays_j4 : namedTie Tryz.prog Rows.bookPlaysRow.named Rows.bookPlaysSpec.vars = true := by kernel_rfl
theorem bookPlays_j5 : (Rows.bookPlaysRow.stops == []) = true := by kernel_rfl
theorem bookPlays_j6 : (Tryz.prog.stops == []) = true := by kernel_rfl
theorem bookPlays_j7 : (Rows.bookPlaysRow.knobs == []) = true := by kernel_rfl
theorem bookPlays_j8 : (Tryz.prog.stopKnobs == []) = true := by kernel_rfl
theorem bookPlays_j9 : (Rows.bookPlaysRow.inPlace == Tryz.prog.inPlace 8) = true := by kernel_rfl
theorem bookPlays_j10 : (Rows.bookPlaysRow.unfollowed == Tryz.prog.unfollowed 8) = true := by kernel_rfl
theorem bookPlays_j11 : (Rows.bookPlaysRow.recurses == Tryz.prog.recurses 8) = true := by kernel_rfl
theorem bookPlays_j12 : (Rows.bookPlaysRow.named == Tryz.prog.varsNamed 8) = true := by kernel_rfl
theorem bookPlays_j13 : (Rows.bookPlaysRow.maps == (Tryz.f8.params.toList ++ Rows.bookPlaysSpec.plain.varTypes Tryz.prog).any (Tryz.prog.mapsRec ·)) = true := by kernel_rfl
theorem bookPlays_j14 : (Rows.bookPlaysRow.ifaces == (Tryz.f8.params.toList ++ Rows.bookPlaysSpec.plain.varTypes Tryz.prog).any (Tryz.prog.ifacesRec ·)) = true := by kernel_rfl
theorem bookPlays_j15 : (Rows.bookPlaysRow.mapsOut == Tryz.prog.mapsAmong Tryz.f8.resultTypes.toList) = true := by kernel_rfl
theorem bookPlays_j16 : (Rows.bookPlaysRow.loops == (Tryz.f8.params.toList ++ Rows.bookPlaysSpec.plain.varTypes Tryz.prog).any (Tryz.prog.loopsFrom ·)) = true := by kernel_rfl
theorem bookPlays_j17 : (Rows.bookPlaysRow.wideKeys == (Tryz.f8.params.toList ++ Rows.bookPlaysSpec.plain.varTypes Tryz.prog ++ Tryz.f8.resultTypes.toList).any (Tryz.prog.wideKeysFrom ·)) = true := by kernel_rfl
theorem bookPlays_j18 : Rows.bookPlaysSpec.vars.all (Tryz.prog.varReadable ·) = true := by kernel_rfl
theorem bookPlays_j19 : Tryz.f8.resultTypes.all (fun t => Tryz.prog.readableRec t && decide (t < Tryz.prog.types.size)) = true := by kernel_rfl
theorem bookPlays_j20 : (Rows.bookPlaysRow.ifacesOut == Tryz.f8.resultTypes.toList.any (Tryz.prog.ifacesRec ·)) = true := by kernel_rfl
theorem bookPlays_j21 : (Rows.bookPlaysRow.loopsOut == Tryz.f8.resultTypes.toList.any (Tryz.prog.loopsFrom ·)) = true := by kernel_rfl
theorem bookPlays_j22 : (Rows.bookPlaysRow.plainKeys == Tryz.prog.plainKeys) = true := by kernel_rfl
theorem bookPlays_j23 : Rows.bookPlaysRow.shortTexts.isNone = true := by kernel_rfl
theorem bookPlays_j24 : Tryz.prog.stopsHeard = true := by kernel_rfl
theorem bookPlays_j25 : Tryz.prog.mayEnter = true := by kernel_rfl
theorem bookPlays_j26 : (Rows.bookPlaysRow.lifted == Tryz.prog.liftsFinal) = true := by kernel_rfl
theorem bookPlays_j27 : (Tryz.prog.make == some Rows.bookPlaysRow.make) = true := by kernel_rfl
theorem bookPlays_j28 : (Rows.bookPlaysRow.kinds == (if Rows.bookPlaysRow.domain.isEmpty then [] else Tryz.f8.params.toList.map fun t => match Tryz.prog.underlying t with | some (.int k) => some k | _ => none)) = true := by kernel_rfl
theorem bookPlays_j29 : (Rows.bookPlaysRow.pinned == Rows.bookPlaysRow.pinnedBy) = true := by kernel_rfl
theorem bookPlays_j30 : (Rows.bookPlaysRow.veiled == (Tryz.f8.params.toList ++ Rows.bookPlaysSpec.plain.varTypes Tryz.prog ++ Tryz.f8.resultTypes.toList).any (Tryz.prog.veiledRec ·)) = true := by kernel_rfl
theorem bookPlays_j31 : Rows.bookPlaysRow.veiledFits Tryz.prog Tryz.f8.params.toList (Tryz.f8.params.toList ++ Rows.bookPlaysSpec.plain.varTypes Tryz.prog ++ Tryz.f8.resultTypes.toList) = true := by kernel_rfl
theorem bookPlays_closed : joinedFacts Tryz.prog 8 Tryz.f8 Rows.bookPlaysSpec Rows.bookPlaysRow = true := by
  unfold joinedFacts
  simp only [Bool.and_eq_true]
  exact ⟨⟨⟨⟨⟨⟨⟨⟨⟨⟨⟨⟨⟨⟨⟨⟨⟨⟨⟨⟨⟨⟨⟨⟨⟨⟨⟨⟨⟨⟨⟨bookPlays_j0, bookPlays_j1⟩, bookPlays_j2⟩, bookPlays_j3⟩, bookPlays_j4⟩, bookPlays_j5⟩, bookPlays_j6⟩, bookPlays_j7⟩, bookPlays_j8⟩, bookPlays_j9⟩, bookPlays_j10⟩, bookPlays_j11⟩, bookPlays_j12⟩, bookPlays_j13⟩, bookPlays_j14⟩, bookPlays_j15⟩, bookPlays_j16⟩, bookPlays_j17⟩, bookPlays_j18⟩, bookPlays_j19⟩, bookPlays_j20⟩, bookPlays_j21⟩, bookPlays_j22⟩, bookPlays_j23⟩, bookPlays_j24⟩, bookPlays_j25⟩, bookPlays_j26⟩, bookPlays_j27⟩, bookPlays_j28⟩, bookPlays_j29⟩, bookPlays_j30⟩, bookPlays_j31⟩
theorem bookPlays_said : Rows.BookPlaysSaid :=
  OpenClaim.holds_of_wide 8 Tryz.f8 rfl rfl rfl rfl rfl rfl rfl ⟨rfl, rfl, rfl, rfl, rfl⟩ rfl rfl rfl rfl rfl (by kernel_rfl) Tryz.func8 bookPlays_closed
    (of_decide_eq_true (by kernel_rfl)) (by unfold Func.isWrapper; first | (rw [if_pos (by decide +kernel)]; kernel_rfl) | (rw [if_neg (by decide +kernel)]; exact ⟨rfl, rfl⟩))
    (fun os started H enc _ => bookPlays_lifted os started H enc)
end Go.Proofs.YtfngolkgligbfaaGreat

/- Proved: whatever it is handed, epitaphlaw21.BcodeWrites returns true, and what it was handed reads behind the call as it did. Conditions: none. -/
import Derived.Test.YtipkoiklahndlaaGreatRows
import Derived.KernelRfl
import Derived.Test.YtipkoiklahndlaaGreatMBc9
import Derived.Test.YtipkoiklahndlaaGreatMBc12
namespace Go.Proofs.YtipkoiklahndlaaGreat
open Go.Ep Go.ChangeShapes Go.WideShapes Go.RowKit
set_option maxHeartbeats 1000000
set_option maxRecDepth 100000
set_option linter.unusedVariables false
set_option linter.unusedSimpArgs false

theorem Tryz.own : ownKnob Tryz.prog.godebug = none := by kernel_rfl
theorem Tryz.laidOut : laidOutB Tryz.prog = true := by kernel_rfl
theorem bcodeWrites_lifted (os : Os) (started : os.Started) (H : Type) (enc : TypeId × Value → H) :
    ReturnsInHanded {} Tryz.checked os 3 .any (Rows.bcodeWritesSpec.pre6 enc Tryz.prog Tryz.f3 Rows.bcodeWritesRow.domain false) (Rows.bcodeWritesSpec.post enc Tryz.prog Tryz.f3 false true false false) := by
  refine returnsInHanded_of_change (C := Tryz.checked) Tryz.own started (by kernel_rfl) Tryz.func3
    (ChangeSpec.witness6 (enc := enc) (C := Tryz.checked) false ⟨#[], #[.agg #[.slice none 0 0, .slice none 0 0, .slice none 0 0], .slice none 0 0], []⟩ 8 (by kernel_rfl) (by kernel_rfl) (by kernel_rfl) (by kernel_rfl)) ?_
  intro W base args ds gs before hval0 hW hcnd _
  have hval : ∀ (j : Nat) t v, Tryz.f3.params[j]? = some t → args[j]? = some v → Value.okWide Tryz.prog W .any base t v := hval0
  have hW' := hW
  obtain ⟨p, q, hA0, hV, rfl, hfz, hnd⟩ := hW
  have hA : DataW.TrodAll enc Tryz.prog W 0 (fun _ => true) true Tryz.f3.params.toList args.toList ds p := hA0
  rw [Tryz.params3] at hA hval
  obtain ⟨v0, v1, d0, d1, p0, p1, rfl, rfl, rfl, hx0, hx1⟩ := trodAll_two hA
  obtain ⟨us0, rfl⟩ : ∃ us, v0 = .agg us := by
    have h := hval 0 26 v0 rfl rfl
    simp only [Value.okWide, Tryz.underlying26] at h
    obtain ⟨cs, h, _⟩ := h
    exact ⟨cs, h⟩
  obtain ⟨a0, h0, hr0, hz0⟩ := Opn.argAgg wPa hx0
  have ho1 : v1.oneCell' = true := by
    have h := hval 1 27 v1 rfl rfl
    simp only [Value.okWide, Tryz.underlying27, Cell.okWide] at h
    cases v1 <;> simp_all [Cell.ok, Value.oneCell']
  obtain ⟨a1, h1, hr1, hz1⟩ := Opn.arg (opnL18Act.slice Tryz.underlying27 (by kernel_rfl) (by decide)) hx1 ho1
  have hlaw : (xq a0 a1).wp (· = true) := by rw [M.G.Ui a0 a1 (fun a ha => by have g := h1.2 a ha; exact ⟨fun ht => (by have h := g.2.1; have h1 := okU8 h.2.1; have h2 := yga h.2.2.1; have h3 := okU8 h.2.2.2.1; have hd1 := Uj h.1.1; have hd2 := yga h.1.2; exact ⟨⟨hd1.1, by omega, hd2.1, by omega⟩, ⟨h1.1, by omega⟩, ⟨h2.1, by omega⟩, ⟨h3.1, by omega⟩, by omega, (fun d hd => by have g := h.2.2.2.2.2.2 d hd; have g1 := Uj g.1; have g2 := yga g.2; exact ⟨g1.1, by omega, g2.1, by omega⟩), by omega⟩), (fun p hp => by have := Uj (g.2.2.2 p hp).1; omega)⟩) (fun a ha p hp => by have g := h1.2 a ha; have := Uj (g.2.2.2 p hp).1; omega) ⟨(fun p hp => by have := Uj (h0.1.2 p hp).1; omega), (fun p hp => by have := Uj (h0.2.1.2 p hp).1; omega), (fun e he ht => by have h := h0.2.2.2 e he; have h1 := okU8 h.2.1; have h2 := yga h.2.2.1; have h3 := okU8 h.2.2.2.1; have hd1 := Uj h.1.1; have hd2 := yga h.1.2; exact ⟨⟨hd1.1, by omega, hd2.1, by omega⟩, ⟨h1.1, by omega⟩, ⟨h2.1, by omega⟩, ⟨h3.1, by omega⟩, by omega, (fun d hd => by have g := h.2.2.2.2.2.2 d hd; have g1 := Uj g.1; have g2 := yga g.2; exact ⟨g1.1, by omega, g2.1, by omega⟩), by omega⟩)⟩ (fun p hp => by have := Uj (h0.1.2 p hp).1; omega) (fun p hp => by have := Uj (h0.2.1.2 p hp).1; omega)]; rfl
  refine (Xr a0 a1 true hlaw W All [.agg us0, v1] rfl (by
    intro i p v hp hv
    match i with
    | 0 => cases hp; cases hv; exact hr0
    | 1 => cases hp; cases hv; exact hr1
    | _ + 2 => cases hp)).mono fun e W' ⟨u, he, hbl, hru⟩ => ?_
  rw [hru.of_v] at he
  exact ⟨_, he, wOa Tryz.laidOut hW' rfl (fun ds h => by
    match ds, h with
    | [_, _], _ => exact ⟨rfl, rfl, rfl⟩) rfl Tryz.underlying4 (by
    intro t ht
    rw [Tryz.params3] at ht
    simp only [List.mem_cons, List.not_mem_nil, or_false] at ht
    rcases ht with rfl | rfl
    all_goals exact ⟨by kernel_rfl, of_decide_eq_true (by kernel_rfl)⟩) hbl⟩

theorem bcodeWrites_j0 : Rows.bcodeWritesRow.wf (OpenSpec.ofChange Rows.bcodeWritesSpec) = true := by kernel_rfl
theorem bcodeWrites_j1 : laidOutB Tryz.prog = true := by kernel_rfl
theorem bcodeWrites_j2 : mapsRowed Tryz.prog = true := by kernel_rfl
theorem bcodeWrites_j3 : Tryz.f3.params.all (Tryz.prog.readableRec ·) = true := by kernel_rfl
theorem bcodeWrites_j4 : namedTie Tryz.prog Rows.bcodeWritesRow.named Rows.bcodeWritesSpec.vars = true := by kernel_rfl
theorem bcodeWrites_j5 : (Rows.bcodeWritesRow.stops == []) = true := by kernel_rfl
theorem bcodeWrites_j6 : (Tryz.prog.stops == []) = true := by kernel_rfl
theorem bcodeWrites_j7 : (Rows.bcodeWritesRow.knobs == []) = true := by kernel_rfl
theorem bcodeWrites_j8 : (Tryz.prog.stopKnobs == []) = true := by kernel_rfl
theorem bcodeWrites_j9 : (Rows.bcodeWritesRow.inPlace == Tryz.prog.inPlace 3) = true := by kernel_rfl
theorem bcodeWrites_j10 : (Rows.bcodeWritesRow.unfollowed == Tryz.prog.unfollowed 3) = true := by kernel_rfl
theorem bcodeWrites_j11 : (Rows.bcodeWritesRow.recurses == Tryz.prog.recurses 3) = true := by kernel_rfl
theorem bcodeWrites_j12 : (Rows.bcodeWritesRow.named == Tryz.prog.varsNamed 3) = true := by kernel_rfl
theorem bcodeWrites_j13 : (Rows.bcodeWritesRow.maps == (Tryz.f3.params.toList ++ Rows.bcodeWritesSpec.plain.varTypes Tryz.prog).any (Tryz.prog.mapsRec ·)) = true := by kernel_rfl
theorem bcodeWrites_j14 : (Rows.bcodeWritesRow.ifaces == (Tryz.f3.params.toList ++ Rows.bcodeWritesSpec.plain.varTypes Tryz.prog).any (Tryz.prog.ifacesRec ·)) = true := by kernel_rfl
theorem bcodeWrites_j15 : (Rows.bcodeWritesRow.mapsOut == Tryz.prog.mapsAmong Tryz.f3.resultTypes.toList) = true := by kernel_rfl
theorem bcodeWrites_j16 : (Rows.bcodeWritesRow.loops == (Tryz.f3.params.toList ++ Rows.bcodeWritesSpec.plain.varTypes Tryz.prog).any (Tryz.prog.loopsFrom ·)) = true := by kernel_rfl
theorem bcodeWrites_j17 : (Rows.bcodeWritesRow.wideKeys == (Tryz.f3.params.toList ++ Rows.bcodeWritesSpec.plain.varTypes Tryz.prog ++ Tryz.f3.resultTypes.toList).any (Tryz.prog.wideKeysFrom ·)) = true := by kernel_rfl
theorem bcodeWrites_j18 : Rows.bcodeWritesSpec.vars.all (Tryz.prog.varReadable ·) = true := by kernel_rfl
theorem bcodeWrites_j19 : Tryz.f3.resultTypes.all (fun t => Tryz.prog.readableRec t && decide (t < Tryz.prog.types.size)) = true := by kernel_rfl
theorem bcodeWrites_j20 : (Rows.bcodeWritesRow.ifacesOut == Tryz.f3.resultTypes.toList.any (Tryz.prog.ifacesRec ·)) = true := by kernel_rfl
theorem bcodeWrites_j21 : (Rows.bcodeWritesRow.loopsOut == Tryz.f3.resultTypes.toList.any (Tryz.prog.loopsFrom ·)) = true := by kernel_rfl
theorem bcodeWrites_j22 : (Rows.bcodeWritesRow.plainKeys == Tryz.prog.plainKeys) = true := by kernel_rfl
theorem bcodeWrites_j23 : Rows.bcodeWritesRow.shortTexts.isNone = true := by kernel_rfl
theorem bcodeWrites_j24 : Tryz.prog.stopsHeard = true := by kernel_rfl
theorem bcodeWrites_j25 : Tryz.prog.mayEnter = true := by kernel_rfl
theorem bcodeWrites_j26 : (Rows.bcodeWritesRow.lifted == Tryz.prog.liftsFinal) = true := by kernel_rfl
theorem bcodeWrites_j27 : (Tryz.prog.make == some Rows.bcodeWritesRow.make) = true := by kernel_rfl
theorem bcodeWrites_j28 : (Rows.bcodeWritesRow.kinds == (if Rows.bcodeWritesRow.domain.isEmpty then [] else Tryz.f3.params.toList.map fun t => match Tryz.prog.underlying t with | some (.int k) => some k | _ => none)) = true := by kernel_rfl
theorem bcodeWrites_j29 : (Rows.bcodeWritesRow.pinned == Rows.bcodeWritesRow.pinnedBy) = true := by kernel_rfl
theorem bcodeWrites_j30 : (Rows.bcodeWritesRow.veiled == (Tryz.f3.params.toList ++ Rows.bcodeWritesSpec.plain.varTypes Tryz.prog ++ Tryz.f3.resultTypes.toList).any (Tryz.prog.veiledRec ·)) = true := by kernel_rfl
theorem bcodeWrites_j31 : Rows.bcodeWritesRow.veiledFits Tryz.prog Tryz.f3.params.toList (Tryz.f3.params.toList ++ Rows.bcodeWritesSpec.plain.varTypes Tryz.prog ++ Tryz.f3.resultTypes.toList) = true := by kernel_rfl
theorem bcodeWrites_closed : joinedFacts Tryz.prog 3 Tryz.f3 Rows.bcodeWritesSpec Rows.bcodeWritesRow = true := by
  unfold joinedFacts
  simp only [Bool.and_eq_true]
  exact ⟨⟨⟨⟨⟨⟨⟨⟨⟨⟨⟨⟨⟨⟨⟨⟨⟨⟨⟨⟨⟨⟨⟨⟨⟨⟨⟨⟨⟨⟨⟨bcodeWrites_j0, bcodeWrites_j1⟩, bcodeWrites_j2⟩, bcodeWrites_j3⟩, bcodeWrites_j4⟩, bcodeWrites_j5⟩, bcodeWrites_j6⟩, bcodeWrites_j7⟩, bcodeWrites_j8⟩, bcodeWrites_j9⟩, bcodeWrites_j10⟩, bcodeWrites_j11⟩, bcodeWrites_j12⟩, bcodeWrites_j13⟩, bcodeWrites_j14⟩, bcodeWrites_j15⟩, bcodeWrites_j16⟩, bcodeWrites_j17⟩, bcodeWrites_j18⟩, bcodeWrites_j19⟩, bcodeWrites_j20⟩, bcodeWrites_j21⟩, bcodeWrites_j22⟩, bcodeWrites_j23⟩, bcodeWrites_j24⟩, bcodeWrites_j25⟩, bcodeWrites_j26⟩, bcodeWrites_j27⟩, bcodeWrites_j28⟩, bcodeWrites_j29⟩, bcodeWrites_j30⟩, bcodeWrites_j31⟩
theorem bcodeWrites_said : Rows.BcodeWritesSaid :=
  OpenClaim.holds_of_wide 3 Tryz.f3 rfl rfl rfl rfl rfl rfl rfl ⟨rfl, rfl, rfl, rfl, rfl⟩ rfl rfl rfl rfl rfl (by kernel_rfl) Tryz.func3 bcodeWrites_closed
    (of_decide_eq_true (by kernel_rfl)) (by unfold Func.isWrapper; first | (rw [if_pos (by decide +kernel)]; kernel_rfl) | (rw [if_neg (by decide +kernel)]; exact ⟨rfl, rfl⟩))
    (fun os started H enc _ => bcodeWrites_lifted os started H enc)
end Go.Proofs.YtipkoiklahndlaaGreat

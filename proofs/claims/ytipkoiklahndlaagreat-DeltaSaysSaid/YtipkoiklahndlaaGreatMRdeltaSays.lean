/- Proved: whatever it is handed, epitaphlaw20.DeltaSays returns true, and what it was handed reads behind the call as it did. Conditions: none. -/
import Derived.Test.YtipkoiklahndlaaGreatRows
import Derived.KernelRfl
import Derived.Test.YtipkoiklahndlaaGreatMDs10
import Derived.Test.YtipkoiklahndlaaGreatMDs13
namespace Go.Proofs.YtipkoiklahndlaaGreat
open Go.Ep Go.ChangeShapes Go.WideShapes Go.RowKit
set_option maxHeartbeats 1000000
set_option maxRecDepth 100000
set_option linter.unusedVariables false
set_option linter.unusedSimpArgs false

theorem Tryz.own : ownKnob Tryz.prog.godebug = none := by kernel_rfl
theorem Tryz.laidOut : laidOutB Tryz.prog = true := by kernel_rfl
theorem deltaSays_lifted (os : Os) (started : os.Started) (H : Type) (enc : TypeId × Value → H) :
    ReturnsInHanded {} Tryz.checked os 6 .any (Rows.deltaSaysSpec.pre6 enc Tryz.prog Tryz.f6 Rows.deltaSaysRow.domain false) (Rows.deltaSaysSpec.post enc Tryz.prog Tryz.f6 false true false false) := by
  refine returnsInHanded_of_change (C := Tryz.checked) Tryz.own started (by kernel_rfl) Tryz.func6
    (ChangeSpec.witness6 (enc := enc) (C := Tryz.checked) false ⟨#[], #[.slice none 0 0, .slice none 0 0, .agg #[.slice none 0 0, .slice none 0 0, .slice none 0 0]], []⟩ 8 (by kernel_rfl) (by kernel_rfl) (by kernel_rfl) (by kernel_rfl)) ?_
  intro W base args ds gs before hval0 hW hcnd _
  have hval : ∀ (j : Nat) t v, Tryz.f6.params[j]? = some t → args[j]? = some v → Value.okWide Tryz.prog W .any base t v := hval0
  have hW' := hW
  obtain ⟨p, q, hA0, hV, rfl, hfz, hnd⟩ := hW
  have hA : DataW.TrodAll enc Tryz.prog W 0 (fun _ => true) true Tryz.f6.params.toList args.toList ds p := hA0
  rw [Tryz.params6] at hA hval
  obtain ⟨v0, v1, v2, d0, d1, d2, p0, p1, p2, rfl, rfl, rfl, hx0, hx1, hx2⟩ := trodAll_three hA
  have ho0 : v0.oneCell' = true := by
    have h := hval 0 27 v0 rfl rfl
    simp only [Value.okWide, Tryz.underlying27, Cell.okWide] at h
    cases v0 <;> simp_all [Cell.ok, Value.oneCell']
  obtain ⟨a0, h0, hr0, hz0⟩ := Opn.arg (opnL18Act.slice Tryz.underlying27 (by kernel_rfl) (by decide)) hx0 ho0
  have ho1 : v1.oneCell' = true := by
    have h := hval 1 23 v1 rfl rfl
    simp only [Value.okWide, Tryz.underlying23, Cell.okWide] at h
    cases v1 <;> simp_all [Cell.ok, Value.oneCell']
  obtain ⟨a1, h1, hr1, hz1⟩ := Opn.arg (opnTPart.slice Tryz.underlying23 (by kernel_rfl) (by decide)) hx1 ho1
  obtain ⟨us2, rfl⟩ : ∃ us, v2 = .agg us := by
    have h := hval 2 26 v2 rfl rfl
    simp only [Value.okWide, Tryz.underlying26] at h
    obtain ⟨cs, h, _⟩ := h
    exact ⟨cs, h⟩
  obtain ⟨a2, h2, hr2, hz2⟩ := Opn.argAgg vEa hx2
  have hlaw : (vh a0 a1 a2).wp (· = true) := by rw [M.G.Qp a0 a1 a2 (fun a ha => by have g := h0.2 a ha; exact ⟨fun ht => (by have h := g.2.1; have h1 := okU8 h.2.1; have h2 := xRa h.2.2.1; have h3 := okU8 h.2.2.2.1; have hd1 := Qq h.1.1; have hd2 := xRa h.1.2; exact ⟨⟨hd1.1, by omega, hd2.1, by omega⟩, ⟨h1.1, by omega⟩, ⟨h2.1, by omega⟩, ⟨h3.1, by omega⟩, by omega, (fun d hd => by have g := h.2.2.2.2.2.2 d hd; have g1 := Qq g.1; have g2 := xRa g.2; exact ⟨g1.1, by omega, g2.1, by omega⟩), by omega⟩), (fun p hp => by have := Qq (g.2.2.2 p hp).1; omega)⟩) (fun p hp => by have := Qq (h1.2 p hp).1; omega) ⟨(fun p hp => by have := Qq (h2.1.2 p hp).1; omega), (fun p hp => by have := Qq (h2.2.1.2 p hp).1; omega), (fun e he ht => by have h := h2.2.2.2 e he; have h1 := okU8 h.2.1; have h2 := xRa h.2.2.1; have h3 := okU8 h.2.2.2.1; have hd1 := Qq h.1.1; have hd2 := xRa h.1.2; exact ⟨⟨hd1.1, by omega, hd2.1, by omega⟩, ⟨h1.1, by omega⟩, ⟨h2.1, by omega⟩, ⟨h3.1, by omega⟩, by omega, (fun d hd => by have g := h.2.2.2.2.2.2 d hd; have g1 := Qq g.1; have g2 := xRa g.2; exact ⟨g1.1, by omega, g2.1, by omega⟩), by omega⟩)⟩]; rfl
  refine (Vm a0 a1 a2 true hlaw W All [v0, v1, .agg us2] rfl (by
    intro i p v hp hv
    match i with
    | 0 => cases hp; cases hv; exact hr0
    | 1 => cases hp; cases hv; exact hr1
    | 2 => cases hp; cases hv; exact hr2
    | _ + 3 => cases hp)).mono fun e W' ⟨u, he, hbl, hru⟩ => ?_
  rw [hru.of_v] at he
  exact ⟨_, he, vDa Tryz.laidOut hW' rfl (fun ds h => by
    match ds, h with
    | [_, _, _], _ => exact ⟨rfl, rfl, rfl⟩) rfl Tryz.underlying4 (by
    intro t ht
    rw [Tryz.params6] at ht
    simp only [List.mem_cons, List.not_mem_nil, or_false] at ht
    rcases ht with rfl | rfl | rfl
    all_goals exact ⟨by kernel_rfl, of_decide_eq_true (by kernel_rfl)⟩) hbl⟩

theorem deltaSays_j0 : Rows.deltaSaysRow.wf (OpenSpec.ofChange Rows.deltaSaysSpec) = true := by kernel_rfl
theorem deltaSays_j1 : laidOutB Tryz.prog = true := by kernel_rfl
theorem deltaSays_j2 : mapsRowed Tryz.prog = true := by kernel_rfl
theorem deltaSays_j3 : Tryz.f6.params.all (Tryz.prog.readableRec ·) = true := by kernel_rfl
theorem deltaSays_j4 : namedTie Tryz.prog Rows.deltaSaysRow.named Rows.deltaSaysSpec.vars = true := by kernel_rfl
theorem deltaSays_j5 : (Rows.deltaSaysRow.stops == []) = true := by kernel_rfl
theorem deltaSays_j6 : (Tryz.prog.stops == []) = true := by kernel_rfl
theorem deltaSays_j7 : (Rows.deltaSaysRow.knobs == []) = true := by kernel_rfl
theorem deltaSays_j8 : (Tryz.prog.stopKnobs == []) = true := by kernel_rfl
theorem deltaSays_j9 : (Rows.deltaSaysRow.inPlace == Tryz.prog.inPlace 6) = true := by kernel_rfl
theorem deltaSays_j10 : (Rows.deltaSaysRow.unfollowed == Tryz.prog.unfollowed 6) = true := by kernel_rfl
theorem deltaSays_j11 : (Rows.deltaSaysRow.recurses == Tryz.prog.recurses 6) = true := by kernel_rfl
theorem deltaSays_j12 : (Rows.deltaSaysRow.named == Tryz.prog.varsNamed 6) = true := by kernel_rfl
theorem deltaSays_j13 : (Rows.deltaSaysRow.maps == (Tryz.f6.params.toList ++ Rows.deltaSaysSpec.plain.varTypes Tryz.prog).any (Tryz.prog.mapsRec ·)) = true := by kernel_rfl
theorem deltaSays_j14 : (Rows.deltaSaysRow.ifaces == (Tryz.f6.params.toList ++ Rows.deltaSaysSpec.plain.varTypes Tryz.prog).any (Tryz.prog.ifacesRec ·)) = true := by kernel_rfl
theorem deltaSays_j15 : (Rows.deltaSaysRow.mapsOut == Tryz.prog.mapsAmong Tryz.f6.resultTypes.toList) = true := by kernel_rfl
theorem deltaSays_j16 : (Rows.deltaSaysRow.loops == (Tryz.f6.params.toList ++ Rows.deltaSaysSpec.plain.varTypes Tryz.prog).any (Tryz.prog.loopsFrom ·)) = true := by kernel_rfl
theorem deltaSays_j17 : (Rows.deltaSaysRow.wideKeys == (Tryz.f6.params.toList ++ Rows.deltaSaysSpec.plain.varTypes Tryz.prog ++ Tryz.f6.resultTypes.toList).any (Tryz.prog.wideKeysFrom ·)) = true := by kernel_rfl
theorem deltaSays_j18 : Rows.deltaSaysSpec.vars.all (Tryz.prog.varReadable ·) = true := by kernel_rfl
theorem deltaSays_j19 : Tryz.f6.resultTypes.all (fun t => Tryz.prog.readableRec t && decide (t < Tryz.prog.types.size)) = true := by kernel_rfl
theorem deltaSays_j20 : (Rows.deltaSaysRow.ifacesOut == Tryz.f6.resultTypes.toList.any (Tryz.prog.ifacesRec ·)) = true := by kernel_rfl
theorem deltaSays_j21 : (Rows.deltaSaysRow.loopsOut == Tryz.f6.resultTypes.toList.any (Tryz.prog.loopsFrom ·)) = true := by kernel_rfl
theorem deltaSays_j22 : (Rows.deltaSaysRow.plainKeys == Tryz.prog.plainKeys) = true := by kernel_rfl
theorem deltaSays_j23 : Rows.deltaSaysRow.shortTexts.isNone = true := by kernel_rfl
theorem deltaSays_j24 : Tryz.prog.stopsHeard = true := by kernel_rfl
theorem deltaSays_j25 : Tryz.prog.mayEnter = true := by kernel_rfl
theorem deltaSays_j26 : (Rows.deltaSaysRow.lifted == Tryz.prog.liftsFinal) = true := by kernel_rfl
theorem deltaSays_j27 : (Tryz.prog.make == some Rows.deltaSaysRow.make) = true := by kernel_rfl
theorem deltaSays_j28 : (Rows.deltaSaysRow.kinds == (if Rows.deltaSaysRow.domain.isEmpty then [] else Tryz.f6.params.toList.map fun t => match Tryz.prog.underlying t with | some (.int k) => some k | _ => none)) = true := by kernel_rfl
theorem deltaSays_j29 : (Rows.deltaSaysRow.pinned == Rows.deltaSaysRow.pinnedBy) = true := by kernel_rfl
theorem deltaSays_j30 : (Rows.deltaSaysRow.veiled == (Tryz.f6.params.toList ++ Rows.deltaSaysSpec.plain.varTypes Tryz.prog ++ Tryz.f6.resultTypes.toList).any (Tryz.prog.veiledRec ·)) = true := by kernel_rfl
theorem deltaSays_j31 : Rows.deltaSaysRow.veiledFits Tryz.prog Tryz.f6.params.toList (Tryz.f6.params.toList ++ Rows.deltaSaysSpec.plain.varTypes Tryz.prog ++ Tryz.f6.resultTypes.toList) = true := by kernel_rfl
theorem deltaSays_closed : joinedFacts Tryz.prog 6 Tryz.f6 Rows.deltaSaysSpec Rows.deltaSaysRow = true := by
  unfold joinedFacts
  simp only [Bool.and_eq_true]
  exact ⟨⟨⟨⟨⟨⟨⟨⟨⟨⟨⟨⟨⟨⟨⟨⟨⟨⟨⟨⟨⟨⟨⟨⟨⟨⟨⟨⟨⟨⟨⟨deltaSays_j0, deltaSays_j1⟩, deltaSays_j2⟩, deltaSays_j3⟩, deltaSays_j4⟩, deltaSays_j5⟩, deltaSays_j6⟩, deltaSays_j7⟩, deltaSays_j8⟩, deltaSays_j9⟩, deltaSays_j10⟩, deltaSays_j11⟩, deltaSays_j12⟩, deltaSays_j13⟩, deltaSays_j14⟩, deltaSays_j15⟩, deltaSays_j16⟩, deltaSays_j17⟩, deltaSays_j18⟩, deltaSays_j19⟩, deltaSays_j20⟩, deltaSays_j21⟩, deltaSays_j22⟩, deltaSays_j23⟩, deltaSays_j24⟩, deltaSays_j25⟩, deltaSays_j26⟩, deltaSays_j27⟩, deltaSays_j28⟩, deltaSays_j29⟩, deltaSays_j30⟩, deltaSays_j31⟩
theorem deltaSays_said : Rows.DeltaSaysSaid :=
  OpenClaim.holds_of_wide 6 Tryz.f6 rfl rfl rfl rfl rfl rfl rfl ⟨rfl, rfl, rfl, rfl, rfl⟩ rfl rfl rfl rfl rfl (by kernel_rfl) Tryz.func6 deltaSays_closed
    (of_decide_eq_true (by kernel_rfl)) (by unfold Func.isWrapper; first | (rw [if_pos (by decide +kernel)]; kernel_rfl) | (rw [if_neg (by decide +kernel)]; exact ⟨rfl, rfl⟩))
    (fun os started H enc _ => deltaSays_lifted os started H enc)
end Go.Proofs.YtipkoiklahndlaaGreat

/- Proved: whatever it is handed, epitaphlaw18.BookFrom returns true, and what it was handed reads behind the call as it did. Conditions: none. -/
import Derived.Test.YtipkoiklahndlaaGreatRows
import Derived.KernelRfl
import Derived.Test.YtipkoiklahndlaaGreatMBf10
import Derived.Test.YtipkoiklahndlaaGreatMBf13
namespace Go.Proofs.YtipkoiklahndlaaGreat
open Go.Ep Go.ChangeShapes Go.WideShapes Go.RowKit
set_option maxHeartbeats 1000000
set_option maxRecDepth 100000
set_option linter.unusedVariables false
set_option linter.unusedSimpArgs false

theorem Tryz.own : ownKnob Tryz.prog.godebug = none := by kernel_rfl
theorem Tryz.laidOut : laidOutB Tryz.prog = true := by kernel_rfl
theorem bookFrom_lifted (os : Os) (started : os.Started) (H : Type) (enc : TypeId × Value → H) :
    ReturnsInHanded {} Tryz.checked os 5 .any (Rows.bookFromSpec.pre6 enc Tryz.prog Tryz.f5 Rows.bookFromRow.domain false) (Rows.bookFromSpec.post enc Tryz.prog Tryz.f5 false true false false) := by
  refine returnsInHanded_of_change (C := Tryz.checked) Tryz.own started (by kernel_rfl) Tryz.func5
    (ChangeSpec.witness6 (enc := enc) (C := Tryz.checked) false ⟨#[], #[.slice none 0 0, .slice none 0 0, .slice none 0 0], []⟩ 8 (by kernel_rfl) (by kernel_rfl) (by kernel_rfl) (by kernel_rfl)) ?_
  intro W base args ds gs before hval0 hW hcnd _
  have hval : ∀ (j : Nat) t v, Tryz.f5.params[j]? = some t → args[j]? = some v → Value.okWide Tryz.prog W .any base t v := hval0
  have hW' := hW
  obtain ⟨p, q, hA0, hV, rfl, hfz, hnd⟩ := hW
  have hA : DataW.TrodAll enc Tryz.prog W 0 (fun _ => true) true Tryz.f5.params.toList args.toList ds p := hA0
  rw [Tryz.params5] at hA hval
  obtain ⟨v0, v1, v2, d0, d1, d2, p0, p1, p2, rfl, rfl, rfl, hx0, hx1, hx2⟩ := trodAll_three hA
  have ho0 : v0.oneCell' = true := by
    have h := hval 0 23 v0 rfl rfl
    simp only [Value.okWide, Tryz.underlying23, Cell.okWide] at h
    cases v0 <;> simp_all [Cell.ok, Value.oneCell']
  obtain ⟨a0, h0, hr0, hz0⟩ := Opn.arg (opnTPart.slice Tryz.underlying23 (by kernel_rfl) (by decide)) hx0 ho0
  have ho1 : v1.oneCell' = true := by
    have h := hval 1 24 v1 rfl rfl
    simp only [Value.okWide, Tryz.underlying24, Cell.okWide] at h
    cases v1 <;> simp_all [Cell.ok, Value.oneCell']
  obtain ⟨a1, h1, hr1, hz1⟩ := Opn.arg (opnTEvent.slice Tryz.underlying24 (by kernel_rfl) (by decide)) hx1 ho1
  have ho2 : v2.oneCell' = true := by
    have h := hval 2 27 v2 rfl rfl
    simp only [Value.okWide, Tryz.underlying27, Cell.okWide] at h
    cases v2 <;> simp_all [Cell.ok, Value.oneCell']
  obtain ⟨a2, h2, hr2, hz2⟩ := Opn.arg (opnL18Act.slice Tryz.underlying27 (by kernel_rfl) (by decide)) hx2 ho2
  have hlaw : (uO a0 a1 a2).wp (· = true) := by rw [M.G.QP a0 a1 a2 (fun p hp => by have := z4a (h0.2 p hp).1; omega) (fun e he ht => by have h := h1.2 e he; have h1 := okU8 h.2.1; have h2 := z3a h.2.2.1; have h3 := okU8 h.2.2.2.1; have hd1 := z4a h.1.1; have hd2 := z3a h.1.2; exact ⟨⟨hd1.1, by omega, hd2.1, by omega⟩, ⟨h1.1, by omega⟩, ⟨h2.1, by omega⟩, ⟨h3.1, by omega⟩, by omega, (fun d hd => by have g := h.2.2.2.2.2.2 d hd; have g1 := z4a g.1; have g2 := z3a g.2; exact ⟨g1.1, by omega, g2.1, by omega⟩), by omega⟩) (fun a ha => by have g := h2.2 a ha; exact ⟨fun ht => (by have h := g.2.1; have h1 := okU8 h.2.1; have h2 := z3a h.2.2.1; have h3 := okU8 h.2.2.2.1; have hd1 := z4a h.1.1; have hd2 := z3a h.1.2; exact ⟨⟨hd1.1, by omega, hd2.1, by omega⟩, ⟨h1.1, by omega⟩, ⟨h2.1, by omega⟩, ⟨h3.1, by omega⟩, by omega, (fun d hd => by have g := h.2.2.2.2.2.2 d hd; have g1 := z4a g.1; have g2 := z3a g.2; exact ⟨g1.1, by omega, g2.1, by omega⟩), by omega⟩), (fun p hp => by have := z4a (g.2.2.2 p hp).1; omega)⟩)]; rfl
  refine (Vo a0 a1 a2 true hlaw W All [v0, v1, v2] rfl (by
    intro i p v hp hv
    match i with
    | 0 => cases hp; cases hv; exact hr0
    | 1 => cases hp; cases hv; exact hr1
    | 2 => cases hp; cases hv; exact hr2
    | _ + 3 => cases hp)).mono fun e W' ⟨u, he, hbl, hru⟩ => ?_
  rw [hru.of_v] at he
  exact ⟨_, he, xka Tryz.laidOut hW' rfl (fun ds h => by
    match ds, h with
    | [_, _, _], _ => exact ⟨rfl, rfl, rfl⟩) rfl Tryz.underlying4 (by
    intro t ht
    rw [Tryz.params5] at ht
    simp only [List.mem_cons, List.not_mem_nil, or_false] at ht
    rcases ht with rfl | rfl | rfl
    all_goals exact ⟨by kernel_rfl, of_decide_eq_true (by kernel_rfl)⟩) hbl⟩

theorem bookFrom_j0 : Rows.bookFromRow.wf (OpenSpec.ofChange Rows.bookFromSpec) = true := by kernel_rfl
theorem bookFrom_j1 : laidOutB Tryz.prog = true := by kernel_rfl
theorem bookFrom_j2 : mapsRowed Tryz.prog = true := by kernel_rfl
theorem bookFrom_j3 : Tryz.f5.params.all (Tryz.prog.readableRec ·) = true := by kernel_rfl
theorem bookFrom_j4 : namedTie Tryz.prog Rows.bookFromRow.named Rows.bookFromSpec.vars = true := by kernel_rfl
theorem bookFrom_j5 : (Rows.bookFromRow.stops == []) = true := by kernel_rfl
theorem bookFrom_j6 : (Tryz.prog.stops == []) = true := by kernel_rfl
theorem bookFrom_j7 : (Rows.bookFromRow.knobs == []) = true := by kernel_rfl
theorem bookFrom_j8 : (Tryz.prog.stopKnobs == []) = true := by kernel_rfl
theorem bookFrom_j9 : (Rows.bookFromRow.inPlace == Tryz.prog.inPlace 5) = true := by kernel_rfl
theorem bookFrom_j10 : (Rows.bookFromRow.unfollowed == Tryz.prog.unfollowed 5) = true := by kernel_rfl
theorem bookFrom_j11 : (Rows.bookFromRow.recurses == Tryz.prog.recurses 5) = true := by kernel_rfl
theorem bookFrom_j12 : (Rows.bookFromRow.named == Tryz.prog.varsNamed 5) = true := by kernel_rfl
theorem bookFrom_j13 : (Rows.bookFromRow.maps == (Tryz.f5.params.toList ++ Rows.bookFromSpec.plain.varTypes Tryz.prog).any (Tryz.prog.mapsRec ·)) = true := by kernel_rfl
theorem bookFrom_j14 : (Rows.bookFromRow.ifaces == (Tryz.f5.params.toList ++ Rows.bookFromSpec.plain.varTypes Tryz.prog).any (Tryz.prog.ifacesRec ·)) = true := by kernel_rfl
theorem bookFrom_j15 : (Rows.bookFromRow.mapsOut == Tryz.prog.mapsAmong Tryz.f5.resultTypes.toList) = true := by kernel_rfl
theorem bookFrom_j16 : (Rows.bookFromRow.loops == (Tryz.f5.params.toList ++ Rows.bookFromSpec.plain.varTypes Tryz.prog).any (Tryz.prog.loopsFrom ·)) = true := by kernel_rfl
theorem bookFrom_j17 : (Rows.bookFromRow.wideKeys == (Tryz.f5.params.toList ++ Rows.bookFromSpec.plain.varTypes Tryz.prog ++ Tryz.f5.resultTypes.toList).any (Tryz.prog.wideKeysFrom ·)) = true := by kernel_rfl
theorem bookFrom_j18 : Rows.bookFromSpec.vars.all (Tryz.prog.varReadable ·) = true := by kernel_rfl
theorem bookFrom_j19 : Tryz.f5.resultTypes.all (fun t => Tryz.prog.readableRec t && decide (t < Tryz.prog.types.size)) = true := by kernel_rfl
theorem bookFrom_j20 : (Rows.bookFromRow.ifacesOut == Tryz.f5.resultTypes.toList.any (Tryz.prog.ifacesRec ·)) = true := by kernel_rfl
theorem bookFrom_j21 : (Rows.bookFromRow.loopsOut == Tryz.f5.resultTypes.toList.any (Tryz.prog.loopsFrom ·)) = true := by kernel_rfl
theorem bookFrom_j22 : (Rows.bookFromRow.plainKeys == Tryz.prog.plainKeys) = true := by kernel_rfl
theorem bookFrom_j23 : Rows.bookFromRow.shortTexts.isNone = true := by kernel_rfl
theorem bookFrom_j24 : Tryz.prog.stopsHeard = true := by kernel_rfl
theorem bookFrom_j25 : Tryz.prog.mayEnter = true := by kernel_rfl
theorem bookFrom_j26 : (Rows.bookFromRow.lifted == Tryz.prog.liftsFinal) = true := by kernel_rfl
theorem bookFrom_j27 : (Tryz.prog.make == some Rows.bookFromRow.make) = true := by kernel_rfl
theorem bookFrom_j28 : (Rows.bookFromRow.kinds == (if Rows.bookFromRow.domain.isEmpty then [] else Tryz.f5.params.toList.map fun t => match Tryz.prog.underlying t with | some (.int k) => some k | _ => none)) = true := by kernel_rfl
theorem bookFrom_j29 : (Rows.bookFromRow.pinned == Rows.bookFromRow.pinnedBy) = true := by kernel_rfl
theorem bookFrom_j30 : (Rows.bookFromRow.veiled == (Tryz.f5.params.toList ++ Rows.bookFromSpec.plain.varTypes Tryz.prog ++ Tryz.f5.resultTypes.toList).any (Tryz.prog.veiledRec ·)) = true := by kernel_rfl
theorem bookFrom_j31 : Rows.bookFromRow.veiledFits Tryz.prog Tryz.f5.params.toList (Tryz.f5.params.toList ++ Rows.bookFromSpec.plain.varTypes Tryz.prog ++ Tryz.f5.resultTypes.toList) = true := by kernel_rfl
theorem bookFrom_closed : joinedFacts Tryz.prog 5 Tryz.f5 Rows.bookFromSpec Rows.bookFromRow = true := by
  unfold joinedFacts
  simp only [Bool.and_eq_true]
  exact ⟨⟨⟨⟨⟨⟨⟨⟨⟨⟨⟨⟨⟨⟨⟨⟨⟨⟨⟨⟨⟨⟨⟨⟨⟨⟨⟨⟨⟨⟨⟨bookFrom_j0, bookFrom_j1⟩, bookFrom_j2⟩, bookFrom_j3⟩, bookFrom_j4⟩, bookFrom_j5⟩, bookFrom_j6⟩, bookFrom_j7⟩, bookFrom_j8⟩, bookFrom_j9⟩, bookFrom_j10⟩, bookFrom_j11⟩, bookFrom_j12⟩, bookFrom_j13⟩, bookFrom_j14⟩, bookFrom_j15⟩, bookFrom_j16⟩, bookFrom_j17⟩, bookFrom_j18⟩, bookFrom_j19⟩, bookFrom_j20⟩, bookFrom_j21⟩, bookFrom_j22⟩, bookFrom_j23⟩, bookFrom_j24⟩, bookFrom_j25⟩, bookFrom_j26⟩, bookFrom_j27⟩, bookFrom_j28⟩, bookFrom_j29⟩, bookFrom_j30⟩, bookFrom_j31⟩
theorem bookFrom_said : Rows.BookFromSaid :=
  OpenClaim.holds_of_wide 5 Tryz.f5 rfl rfl rfl rfl rfl rfl rfl ⟨rfl, rfl, rfl, rfl, rfl⟩ rfl rfl rfl rfl rfl (by kernel_rfl) Tryz.func5 bookFrom_closed
    (of_decide_eq_true (by kernel_rfl)) (by unfold Func.isWrapper; first | (rw [if_pos (by decide +kernel)]; kernel_rfl) | (rw [if_neg (by decide +kernel)]; exact ⟨rfl, rfl⟩))
    (fun os started H enc _ => bookFrom_lifted os started H enc)
end Go.Proofs.YtipkoiklahndlaaGreat

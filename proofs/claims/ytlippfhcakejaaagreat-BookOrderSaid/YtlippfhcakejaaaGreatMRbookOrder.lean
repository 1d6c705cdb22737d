/- Proved: whatever it is handed, epitaphlaw18.BookOrder returns true, and what it was handed reads behind the call as it did. Conditions: none. -/
import Derived.Test.YtlippfhcakejaaaGreatRows
import Derived.KernelRfl
import Derived.Test.YtlippfhcakejaaaGreatMBo8
import Derived.Test.YtlippfhcakejaaaGreatMBo10
namespace Go.Proofs.YtlippfhcakejaaaGreat
open Go.Ep Go.ChangeShapes Go.WideShapes Go.RowKit
set_option maxHeartbeats 1000000
set_option maxRecDepth 100000
set_option linter.unusedVariables false
set_option linter.unusedSimpArgs false

theorem Tryz.own : ownKnob Tryz.prog.godebug = none := by kernel_rfl
theorem Tryz.laidOut : laidOutB Tryz.prog = true := by kernel_rfl
theorem bookOrder_lifted (os : Os) (started : os.Started) (H : Type) (enc : TypeId × Value → H) :
    ReturnsInHanded {} Tryz.checked os 3 .any (Rows.bookOrderSpec.pre6 enc Tryz.prog Tryz.f3 Rows.bookOrderRow.domain false) (Rows.bookOrderSpec.post enc Tryz.prog Tryz.f3 false true false false) := by
  refine returnsInHanded_of_change (C := Tryz.checked) Tryz.own started (by kernel_rfl) Tryz.func3
    (ChangeSpec.witness6 (enc := enc) (C := Tryz.checked) false ⟨#[], #[.slice none 0 0, .int .u8 0], []⟩ 8 (by kernel_rfl) (by kernel_rfl) (by kernel_rfl) (by kernel_rfl)) ?_
  intro W base args ds gs before hval0 hW hcnd _
  have hval : ∀ (j : Nat) t v, Tryz.f3.params[j]? = some t → args[j]? = some v → Value.okWide Tryz.prog W .any base t v := hval0
  have hW' := hW
  obtain ⟨p, q, hA0, hV, rfl, hfz, hnd⟩ := hW
  have hA : DataW.TrodAll enc Tryz.prog W 0 (fun _ => true) true Tryz.f3.params.toList args.toList ds p := hA0
  rw [Tryz.params3] at hA hval
  obtain ⟨v0, v1, d0, d1, p0, p1, rfl, rfl, rfl, hx0, hx1⟩ := trodAll_two hA
  have ho0 : v0.oneCell' = true := by
    have h := hval 0 22 v0 rfl rfl
    simp only [Value.okWide, Tryz.underlying22, Cell.okWide] at h
    cases v0 <;> simp_all [Cell.ok, Value.oneCell']
  obtain ⟨a0, h0, hr0, hz0⟩ := Opn.arg (opnTEvent.slice Tryz.underlying22 (by kernel_rfl) (by decide)) hx0 ho0
  have ho1 : v1.oneCell' = true := by
    have h := hval 1 5 v1 rfl rfl
    simp only [Value.okWide, Tryz.underlying5, Cell.okWide] at h
    cases v1 <;> simp_all [Cell.ok, Value.oneCell']
  obtain ⟨a1, h1, hr1, hz1⟩ := Opn.arg (Opn.int Tryz.underlying5 (by kernel_rfl)) hx1 ho1
  have hlaw : (wn a0 a1).wp (· = true) := by rw [M.G.jp a0 a1 (fun e he ht => by have h := h0.2 e he; have h1 := okU8 h.2.1; have h2 := okU64 h.2.2.1; have h3 := okU8 h.2.2.2.1; have hd1 := okU16 h.1.1; have hd2 := okU64 h.1.2; exact ⟨⟨hd1.1, by omega, hd2.1, by omega⟩, ⟨h1.1, by omega⟩, ⟨h2.1, by omega⟩, ⟨h3.1, by omega⟩, by omega, (fun d hd => by have g := h.2.2.2.2.2.2 d hd; have g1 := okU16 g.1; have g2 := okU64 g.2; exact ⟨g1.1, by omega, g2.1, by omega⟩), by omega⟩) (by have := okU8 h1; omega)]; rfl
  refine (Xj a0 a1 true hlaw W All [v0, v1] rfl (by
    intro i p v hp hv
    match i with
    | 0 => cases hp; cases hv; exact hr0
    | 1 => cases hp; cases hv; exact hr1
    | _ + 2 => cases hp)).mono fun e W' ⟨u, he, hbl, hru⟩ => ?_
  rw [hru.of_v] at he
  exact ⟨_, he, yea Tryz.laidOut hW' rfl (fun ds h => by
    match ds, h with
    | [_, _], _ => exact ⟨rfl, rfl, rfl⟩) rfl Tryz.underlying4 (by
    intro t ht
    rw [Tryz.params3] at ht
    simp only [List.mem_cons, List.not_mem_nil, or_false] at ht
    rcases ht with rfl | rfl
    all_goals exact ⟨by kernel_rfl, of_decide_eq_true (by kernel_rfl)⟩) hbl⟩

theorem bookOrder_j0 : Rows.bookOrderRow.wf (OpenSpec.ofChange Rows.bookOrderSpec) = true := by kernel_rfl
theorem bookOrder_j1 : laidOutB Tryz.prog = true := by kernel_rfl
theorem bookOrder_j2 : mapsRowed Tryz.prog = true := by kernel_rfl
theorem bookOrder_j3 : Tryz.f3.params.all (Tryz.prog.readableRec ·) = true := by kernel_rfl
theorem bookOrder_j4 : namedTie Tryz.prog Rows.bookOrderRow.named Rows.bookOrderSpec.vars = true := by kernel_rfl
theorem bookOrder_j5 : (Rows.bookOrderRow.stops == []) = true := by kernel_rfl
theorem bookOrder_j6 : (Tryz.prog.stops == []) = true := by kernel_rfl
theorem bookOrder_j7 : (Rows.bookOrderRow.knobs == []) = true := by kernel_rfl
theorem bookOrder_j8 : (Tryz.prog.stopKnobs == []) = true := by kernel_rfl
theorem bookOrder_j9 : (Rows.bookOrderRow.inPlace == Tryz.prog.inPlace 3) = true := by kernel_rfl
theorem bookOrder_j10 : (Rows.bookOrderRow.unfollowed == Tryz.prog.unfollowed 3) = true := by kernel_rfl
theorem bookOrder_j11 : (Rows.bookOrderRow.recurses == Tryz.prog.recurses 3) = true := by kernel_rfl
theorem bookOrder_j12 : (Rows.bookOrderRow.named == Tryz.prog.varsNamed 3) = true := by kernel_rfl
theorem bookOrder_j13 : (Rows.bookOrderRow.maps == (Tryz.f3.params.toList ++ Rows.bookOrderSpec.plain.varTypes Tryz.prog).any (Tryz.prog.mapsRec ·)) = true := by kernel_rfl
theorem bookOrder_j14 : (Rows.bookOrderRow.ifaces == (Tryz.f3.params.toList ++ Rows.bookOrderSpec.plain.varTypes Tryz.prog).any (Tryz.prog.ifacesRec ·)) = true := by kernel_rfl
theorem bookOrder_j15 : (Rows.bookOrderRow.mapsOut == Tryz.prog.mapsAmong Tryz.f3.resultTypes.toList) = true := by kernel_rfl
theorem bookOrder_j16 : (Rows.bookOrderRow.loops == (Tryz.f3.params.toList ++ Rows.bookOrderSpec.plain.varTypes Tryz.prog).any (Tryz.prog.loopsFrom ·)) = true := by kernel_rfl
theorem bookOrder_j17 : (Rows.bookOrderRow.wideKeys == (Tryz.f3.params.toList ++ Rows.bookOrderSpec.plain.varTypes Tryz.prog ++ Tryz.f3.resultTypes.toList).any (Tryz.prog.wideKeysFrom ·)) = true := by kernel_rfl
theorem bookOrder_j18 : Rows.bookOrderSpec.vars.all (Tryz.prog.varReadable ·) = true := by kernel_rfl
theorem bookOrder_j19 : Tryz.f3.resultTypes.all (fun t => Tryz.prog.readableRec t && decide (t < Tryz.prog.types.size)) = true := by kernel_rfl
theorem bookOrder_j20 : (Rows.bookOrderRow.ifacesOut == Tryz.f3.resultTypes.toList.any (Tryz.prog.ifacesRec ·)) = true := by kernel_rfl
theorem bookOrder_j21 : (Rows.bookOrderRow.loopsOut == Tryz.f3.resultTypes.toList.any (Tryz.prog.loopsFrom ·)) = true := by kernel_rfl
theorem bookOrder_j22 : (Rows.bookOrderRow.plainKeys == Tryz.prog.plainKeys) = true := by kernel_rfl
theorem bookOrder_j23 : Rows.bookOrderRow.shortTexts.isNone = true := by kernel_rfl
theorem bookOrder_j24 : Tryz.prog.stopsHeard = true := by kernel_rfl
theorem bookOrder_j25 : Tryz.prog.mayEnter = true := by kernel_rfl
theorem bookOrder_j26 : (Rows.bookOrderRow.lifted == Tryz.prog.liftsFinal) = true := by kernel_rfl
theorem bookOrder_j27 : (Tryz.prog.make == some Rows.bookOrderRow.make) = true := by kernel_rfl
theorem bookOrder_j28 : (Rows.bookOrderRow.kinds == (if Rows.bookOrderRow.domain.isEmpty then [] else Tryz.f3.params.toList.map fun t => match Tryz.prog.underlying t with | some (.int k) => some k | _ => none)) = true := by kernel_rfl
theorem bookOrder_j29 : (Rows.bookOrderRow.pinned == Rows.bookOrderRow.pinnedBy) = true := by kernel_rfl
theorem bookOrder_j30 : (Rows.bookOrderRow.veiled == (Tryz.f3.params.toList ++ Rows.bookOrderSpec.plain.varTypes Tryz.prog ++ Tryz.f3.resultTypes.toList).any (Tryz.prog.veiledRec ·)) = true := by kernel_rfl
theorem bookOrder_j31 : Rows.bookOrderRow.veiledFits Tryz.prog Tryz.f3.params.toList (Tryz.f3.params.toList ++ Rows.bookOrderSpec.plain.varTypes Tryz.prog ++ Tryz.f3.resultTypes.toList) = true := by kernel_rfl
theorem bookOrder_closed : joinedFacts Tryz.prog 3 Tryz.f3 Rows.bookOrderSpec Rows.bookOrderRow = true := by
  unfold joinedFacts
  simp only [Bool.and_eq_true]
  exact ⟨⟨⟨⟨⟨⟨⟨⟨⟨⟨⟨⟨⟨⟨⟨⟨⟨⟨⟨⟨⟨⟨⟨⟨⟨⟨⟨⟨⟨⟨⟨bookOrder_j0, bookOrder_j1⟩, bookOrder_j2⟩, bookOrder_j3⟩, bookOrder_j4⟩, bookOrder_j5⟩, bookOrder_j6⟩, bookOrder_j7⟩, bookOrder_j8⟩, bookOrder_j9⟩, bookOrder_j10⟩, bookOrder_j11⟩, bookOrder_j12⟩, bookOrder_j13⟩, bookOrder_j14⟩, bookOrder_j15⟩, bookOrder_j16⟩, bookOrder_j17⟩, bookOrder_j18⟩, bookOrder_j19⟩, bookOrder_j20⟩, bookOrder_j21⟩, bookOrder_j22⟩, bookOrder_j23⟩, bookOrder_j24⟩, bookOrder_j25⟩, bookOrder_j26⟩, bookOrder_j27⟩, bookOrder_j28⟩, bookOrder_j29⟩, bookOrder_j30⟩, bookOrder_j31⟩
theorem bookOrder_said : Rows.BookOrderSaid :=
  OpenClaim.holds_of_wide 3 Tryz.f3 rfl rfl rfl rfl rfl rfl rfl ⟨rfl, rfl, rfl, rfl, rfl⟩ rfl rfl rfl rfl rfl (by kernel_rfl) Tryz.func3 bookOrder_closed
    (of_decide_eq_true (by kernel_rfl)) (by unfold Func.isWrapper; first | (rw [if_pos (by decide +kernel)]; kernel_rfl) | (rw [if_neg (by decide +kernel)]; exact ⟨rfl, rfl⟩))
    (fun os started H enc _ => bookOrder_lifted os started H enc)
end Go.Proofs.YtlippfhcakejaaaGreat

/- Proved: whatever it is handed, epitaphlaw27.MsgTells returns true, and what it was handed reads behind the call as it did. Conditions: none. -/
import Derived.Test.YtfngolkgligbfaaGreatRows
import Derived.KernelRfl
import Derived.Test.YtfngolkgligbfaaGreatMmt11
import Derived.Test.YtfngolkgligbfaaGreatMmt14
namespace Go.Proofs.YtfngolkgligbfaaGreat
open Go.Ep Go.ChangeShapes Go.WideShapes Go.RowKit
set_option maxHeartbeats 1000000
set_option maxRecDepth 100000
set_option linter.unusedVariables false
set_option linter.unusedSimpArgs false

theorem Tryz.own : ownKnob Tryz.prog.godebug = none := by kernel_rfl
theorem Tryz.laidOut : laidOutB Tryz.prog = true := by kernel_rfl
theorem msgTells_lifted (os : Os) (started : os.Started) (H : Type) (enc : TypeId × Value → H) :
    ReturnsInHanded {} Tryz.checked os 4 .any (Rows.msgTellsSpec.pre6 enc Tryz.prog Tryz.f4 Rows.msgTellsRow.domain false) (Rows.msgTellsSpec.post enc Tryz.prog Tryz.f4 false true false false) := by
  refine returnsInHanded_of_change (C := Tryz.checked) Tryz.own started (by kernel_rfl) Tryz.func4
    (ChangeSpec.witness6 (enc := enc) (C := Tryz.checked) false ⟨#[], #[.agg #[.int .u8 0, .int .u8 0, .int .u64 0, .int .u16 0, .int .u64 0, .int .u8 0, .slice none 0 0, .slice none 0 0, .slice none 0 0, .slice none 0 0, .slice none 0 0], .agg #[.int .u8 0, .int .u8 0, .int .u64 0, .int .u16 0, .int .u64 0, .int .u8 0, .slice none 0 0, .slice none 0 0, .slice none 0 0, .slice none 0 0, .slice none 0 0], .int .u8 0], []⟩ 8 (by kernel_rfl) (by kernel_rfl) (by kernel_rfl) (by kernel_rfl)) ?_
  intro W base args ds gs before hval0 hW hcnd _
  have hval : ∀ (j : Nat) t v, Tryz.f4.params[j]? = some t → args[j]? = some v → Value.okWide Tryz.prog W .any base t v := hval0
  have hW' := hW
  obtain ⟨p, q, hA0, hV, rfl, hfz, hnd⟩ := hW
  have hA : DataW.TrodAll enc Tryz.prog W 0 (fun _ => true) true Tryz.f4.params.toList args.toList ds p := hA0
  rw [Tryz.params4] at hA hval
  obtain ⟨v0, v1, v2, d0, d1, d2, p0, p1, p2, rfl, rfl, rfl, hx0, hx1, hx2⟩ := trodAll_three hA
  obtain ⟨us0, rfl⟩ : ∃ us, v0 = .agg us := by
    have h := hval 0 51 v0 rfl rfl
    simp only [Value.okWide, Tryz.underlying51] at h
    obtain ⟨cs, h, _⟩ := h
    exact ⟨cs, h⟩
  obtain ⟨a0, h0, hr0, hz0⟩ := Opn.argAgg opnTMsg hx0
  obtain ⟨us1, rfl⟩ : ∃ us, v1 = .agg us := by
    have h := hval 1 51 v1 rfl rfl
    simp only [Value.okWide, Tryz.underlying51] at h
    obtain ⟨cs, h, _⟩ := h
    exact ⟨cs, h⟩
  obtain ⟨a1, h1, hr1, hz1⟩ := Opn.argAgg opnTMsg hx1
  have ho2 : v2.oneCell' = true := by
    have h := hval 2 5 v2 rfl rfl
    simp only [Value.okWide, Tryz.underlying5, Cell.okWide] at h
    cases v2 <;> simp_all [Cell.ok, Value.oneCell']
  obtain ⟨a2, h2, hr2, hz2⟩ := Opn.arg (Opn.int Tryz.underlying5 (by kernel_rfl)) hx2 ho2
  have hlaw : (l27_MsgTells a0 a1 a2).wp (· = true) := by rw [M.F.msgTells_eq a0 a1 a2 (by have k0 := okU8 h0.1; have k1 := okU8 h0.2.1; have k3 := okU16 h0.2.2.2.1; have k5 := okU8 h0.2.2.2.2.2.1; exact ⟨⟨k0.1, by omega⟩, ⟨k1.1, by omega⟩, ⟨k3.1, by omega⟩, ⟨k5.1, by omega⟩, (fun p hp => by have := okU16 (h0.2.2.2.2.2.2.1.2 p hp).1; omega), (fun p hp => by have := okU16 (h0.2.2.2.2.2.2.2.1.2 p hp).1; omega), (fun p hp => by have := okU16 (h0.2.2.2.2.2.2.2.2.1.2 p hp).1; omega), (fun p hp => by have := okU16 (h0.2.2.2.2.2.2.2.2.2.1.2 p hp).1; omega), (fun e he ht => by have h := h0.2.2.2.2.2.2.2.2.2.2.2 e he; have h1 := okU8 h.2.1; have h2 := okU64 h.2.2.1; have h3 := okU8 h.2.2.2.1; have hd1 := okU16 h.1.1; have hd2 := okU64 h.1.2; exact ⟨⟨hd1.1, by omega, hd2.1, by omega⟩, ⟨h1.1, by omega⟩, ⟨h2.1, by omega⟩, ⟨h3.1, by omega⟩, by omega, (fun d hd => by have g := h.2.2.2.2.2.2 d hd; have g1 := okU16 g.1; have g2 := okU64 g.2; exact ⟨g1.1, by omega, g2.1, by omega⟩), by omega⟩)⟩) (by have k0 := okU8 h1.1; have k1 := okU8 h1.2.1; have k3 := okU16 h1.2.2.2.1; have k5 := okU8 h1.2.2.2.2.2.1; exact ⟨⟨k0.1, by omega⟩, ⟨k1.1, by omega⟩, ⟨k3.1, by omega⟩, ⟨k5.1, by omega⟩, (fun p hp => by have := okU16 (h1.2.2.2.2.2.2.1.2 p hp).1; omega), (fun p hp => by have := okU16 (h1.2.2.2.2.2.2.2.1.2 p hp).1; omega), (fun p hp => by have := okU16 (h1.2.2.2.2.2.2.2.2.1.2 p hp).1; omega), (fun p hp => by have := okU16 (h1.2.2.2.2.2.2.2.2.2.1.2 p hp).1; omega), (fun e he ht => by have h := h1.2.2.2.2.2.2.2.2.2.2.2 e he; have h1 := okU8 h.2.1; have h2 := okU64 h.2.2.1; have h3 := okU8 h.2.2.2.1; have hd1 := okU16 h.1.1; have hd2 := okU64 h.1.2; exact ⟨⟨hd1.1, by omega, hd2.1, by omega⟩, ⟨h1.1, by omega⟩, ⟨h2.1, by omega⟩, ⟨h3.1, by omega⟩, by omega, (fun d hd => by have g := h.2.2.2.2.2.2 d hd; have g1 := okU16 g.1; have g2 := okU64 g.2; exact ⟨g1.1, by omega, g2.1, by omega⟩), by omega⟩)⟩)]; rfl
  refine (l27_MsgTells_ok a0 a1 a2 true hlaw W All [.agg us0, .agg us1, v2] rfl (by
    intro i p v hp hv
    match i with
    | 0 => cases hp; cases hv; exact hr0
    | 1 => cases hp; cases hv; exact hr1
    | 2 => cases hp; cases hv; exact hr2
    | _ + 3 => cases hp)).mono fun e W' ⟨u, he, hbl, hru⟩ => ?_
  rw [hru.of_v] at he
  exact ⟨_, he, post_true Tryz.laidOut hW' rfl (fun ds h => by
    match ds, h with
    | [_, _, _], _ => exact ⟨rfl, rfl, rfl⟩) rfl Tryz.underlying4 (by
    intro t ht
    rw [Tryz.params4] at ht
    simp only [List.mem_cons, List.not_mem_nil, or_false] at ht
    rcases ht with rfl | rfl | rfl
    all_goals exact ⟨by kernel_rfl, of_decide_eq_true (by kernel_rfl)⟩) hbl⟩

theorem msgTells_j0 : Rows.msgTellsRow.wf (OpenSpec.ofChange Rows.msgTellsSpec) = true := by kernel_rfl
theorem msgTells_j1 : laidOutB Tryz.prog = true := by kernel_rfl
theorem msgTells_j2 : mapsRowed Tryz.prog = true := by kernel_rfl
theorem msgTells_j3 : Tryz.f4.params.all (Tryz.prog.readableRec ·) = true := by kernel_rfl
theorem msgTells_j4 : namedTie Tryz.prog Rows.msgTellsRow.named Rows.msgTellsSpec.vars = true := by kernel_rfl
theorem msgTells_j5 : (Rows.msgTellsRow.stops == []) = true := by kernel_rfl
theorem msgTells_j6 : (Tryz.prog.stops == []) = true := by kernel_rfl
theorem msgTells_j7 : (Rows.msgTellsRow.knobs == []) = true := by kernel_rfl
theorem msgTells_j8 : (Tryz.prog.stopKnobs == []) = true := by kernel_rfl
theorem msgTells_j9 : (Rows.msgTellsRow.inPlace == Tryz.prog.inPlace 4) = true := by kernel_rfl
theorem msgTells_j10 : (Rows.msgTellsRow.unfollowed == Tryz.prog.unfollowed 4) = true := by kernel_rfl
theorem msgTells_j11 : (Rows.msgTellsRow.recurses == Tryz.prog.recurses 4) = true := by kernel_rfl
theorem msgTells_j12 : (Rows.msgTellsRow.named == Tryz.prog.varsNamed 4) = true := by kernel_rfl
theorem msgTells_j13 : (Rows.msgTellsRow.maps == (Tryz.f4.params.toList ++ Rows.msgTellsSpec.plain.varTypes Tryz.prog).any (Tryz.prog.mapsRec ·)) = true := by kernel_rfl
theorem msgTells_j14 : (Rows.msgTellsRow.ifaces == (Tryz.f4.params.toList ++ Rows.msgTellsSpec.plain.varTypes Tryz.prog).any (Tryz.prog.ifacesRec ·)) = true := by kernel_rfl
theorem msgTells_j15 : (Rows.msgTellsRow.mapsOut == Tryz.prog.mapsAmong Tryz.f4.resultTypes.toList) = true := by kernel_rfl
theorem msgTells_j16 : (Rows.msgTellsRow.loops == (Tryz.f4.params.toList ++ Rows.msgTellsSpec.plain.varTypes Tryz.prog).any (Tryz.prog.loopsFrom ·)) = true := by kernel_rfl
theorem msgTells_j17 : (Rows.msgTellsRow.wideKeys == (Tryz.f4.params.toList ++ Rows.msgTellsSpec.plain.varTypes Tryz.prog ++ Tryz.f4.resultTypes.toList).any (Tryz.prog.wideKeysFrom ·)) = true := by kernel_rfl
theorem msgTells_j18 : Rows.msgTellsSpec.vars.all (Tryz.prog.varReadable ·) = true := by kernel_rfl
theorem msgTells_j19 : Tryz.f4.resultTypes.all (fun t => Tryz.prog.readableRec t && decide (t < Tryz.prog.types.size)) = true := by kernel_rfl
theorem msgTells_j20 : (Rows.msgTellsRow.ifacesOut == Tryz.f4.resultTypes.toList.any (Tryz.prog.ifacesRec ·)) = true := by kernel_rfl
theorem msgTells_j21 : (Rows.msgTellsRow.loopsOut == Tryz.f4.resultTypes.toList.any (Tryz.prog.loopsFrom ·)) = true := by kernel_rfl
theorem msgTells_j22 : (Rows.msgTellsRow.plainKeys == Tryz.prog.plainKeys) = true := by kernel_rfl
theorem msgTells_j23 : Rows.msgTellsRow.shortTexts.isNone = true := by kernel_rfl
theorem msgTells_j24 : Tryz.prog.stopsHeard = true := by kernel_rfl
theorem msgTells_j25 : Tryz.prog.mayEnter = true := by kernel_rfl
theorem msgTells_j26 : (Rows.msgTellsRow.lifted == Tryz.prog.liftsFinal) = true := by kernel_rfl
theorem msgTells_j27 : (Tryz.prog.make == some Rows.msgTellsRow.make) = true := by kernel_rfl
theorem msgTells_j28 : (Rows.msgTellsRow.kinds == (if Rows.msgTellsRow.domain.isEmpty then [] else Tryz.f4.params.toList.map fun t => match Tryz.prog.underlying t with | some (.int k) => some k | _ => none)) = true := by kernel_rfl
theorem msgTells_j29 : (Rows.msgTellsRow.pinned == Rows.msgTellsRow.pinnedBy) = true := by kernel_rfl
theorem msgTells_j30 : (Rows.msgTellsRow.veiled == (Tryz.f4.params.toList ++ Rows.msgTellsSpec.plain.varTypes Tryz.prog ++ Tryz.f4.resultTypes.toList).any (Tryz.prog.veiledRec ·)) = true := by kernel_rfl
theorem msgTells_j31 : Rows.msgTellsRow.veiledFits Tryz.prog Tryz.f4.params.toList (Tryz.f4.params.toList ++ Rows.msgTellsSpec.plain.varTypes Tryz.prog ++ Tryz.f4.resultTypes.toList) = true := by kernel_rfl
theorem msgTells_closed : joinedFacts Tryz.prog 4 Tryz.f4 Rows.msgTellsSpec Rows.msgTellsRow = true := by
  unfold joinedFacts
  simp only [Bool.and_eq_true]
  exact ⟨⟨⟨⟨⟨⟨⟨⟨⟨⟨⟨⟨⟨⟨⟨⟨⟨⟨⟨⟨⟨⟨⟨⟨⟨⟨⟨⟨⟨⟨⟨msgTells_j0, msgTells_j1⟩, msgTells_j2⟩, msgTells_j3⟩, msgTells_j4⟩, msgTells_j5⟩, msgTells_j6⟩, msgTells_j7⟩, msgTells_j8⟩, msgTells_j9⟩, msgTells_j10⟩, msgTells_j11⟩, msgTells_j12⟩, msgTells_j13⟩, msgTells_j14⟩, msgTells_j15⟩, msgTells_j16⟩, msgTells_j17⟩, msgTells_j18⟩, msgTells_j19⟩, msgTells_j20⟩, msgTells_j21⟩, msgTells_j22⟩, msgTells_j23⟩, msgTells_j24⟩, msgTells_j25⟩, msgTells_j26⟩, msgTells_j27⟩, msgTells_j28⟩, msgTells_j29⟩, msgTells_j30⟩, msgTells_j31⟩
theorem msgTells_said : Rows.MsgTellsSaid :=
  OpenClaim.holds_of_wide 4 Tryz.f4 rfl rfl rfl rfl rfl rfl rfl ⟨rfl, rfl, rfl, rfl, rfl⟩ rfl rfl rfl rfl rfl (by kernel_rfl) Tryz.func4 msgTells_closed
    (of_decide_eq_true (by kernel_rfl)) (by unfold Func.isWrapper; first | (rw [if_pos (by decide +kernel)]; kernel_rfl) | (rw [if_neg (by decide +kernel)]; exact ⟨rfl, rfl⟩))
    (fun os started H enc _ => msgTells_lifted os started H enc)
end Go.Proofs.YtfngolkgligbfaaGreat

/- Proved: whatever it is handed, epitaphlaw29.OutboxUnsent returns true, and what it was handed reads behind the call as it did. Conditions: none. -/
import Derived.Test.YtipkoiklahndlaaGreatRows
import Derived.KernelRfl
import Derived.Test.YtipkoiklahndlaaGreatMUn10
import Derived.Test.YtipkoiklahndlaaGreatMUn13
namespace Go.Proofs.YtipkoiklahndlaaGreat
open Go.Ep Go.ChangeShapes Go.WideShapes Go.RowKit
set_option maxHeartbeats 1000000
set_option maxRecDepth 100000
set_option linter.unusedVariables false
set_option linter.unusedSimpArgs false

theorem Tryz.own : ownKnob Tryz.prog.godebug = none := by kernel_rfl
theorem Tryz.laidOut : laidOutB Tryz.prog = true := by kernel_rfl
theorem outboxUnsent_lifted (os : Os) (started : os.Started) (H : Type) (enc : TypeId × Value → H) :
    ReturnsInHanded {} Tryz.checked os 4 .any (Rows.outboxUnsentSpec.pre6 enc Tryz.prog Tryz.f4 Rows.outboxUnsentRow.domain false) (Rows.outboxUnsentSpec.post enc Tryz.prog Tryz.f4 false true false false) := by
  refine returnsInHanded_of_change (C := Tryz.checked) Tryz.own started (by kernel_rfl) Tryz.func4
    (ChangeSpec.witness6 (enc := enc) (C := Tryz.checked) false ⟨#[], #[.slice none 0 0, .int .u16 0, .slice none 0 0], []⟩ 8 (by kernel_rfl) (by kernel_rfl) (by kernel_rfl) (by kernel_rfl)) ?_
  intro W base args ds gs before hval0 hW hcnd _
  have hval : ∀ (j : Nat) t v, Tryz.f4.params[j]? = some t → args[j]? = some v → Value.okWide Tryz.prog W .any base t v := hval0
  have hW' := hW
  obtain ⟨p, q, hA0, hV, rfl, hfz, hnd⟩ := hW
  have hA : DataW.TrodAll enc Tryz.prog W 0 (fun _ => true) true Tryz.f4.params.toList args.toList ds p := hA0
  rw [Tryz.params4] at hA hval
  obtain ⟨v0, v1, v2, d0, d1, d2, p0, p1, p2, rfl, rfl, rfl, hx0, hx1, hx2⟩ := trodAll_three hA
  have ho0 : v0.oneCell' = true := by
    have h := hval 0 27 v0 rfl rfl
    simp only [Value.okWide, Tryz.underlying27, Cell.okWide] at h
    cases v0 <;> simp_all [Cell.ok, Value.oneCell']
  obtain ⟨a0, h0, hr0, hz0⟩ := Opn.arg (opnL18Act.slice Tryz.underlying27 (by kernel_rfl) (by decide)) hx0 ho0
  have ho1 : v1.oneCell' = true := by
    have h := hval 1 50 v1 rfl rfl
    simp only [Value.okWide, Tryz.underlying50, Cell.okWide] at h
    cases v1 <;> simp_all [Cell.ok, Value.oneCell']
  obtain ⟨a1, h1, hr1, hz1⟩ := Opn.arg (Opn.int Tryz.underlying50 (by kernel_rfl)) hx1 ho1
  have ho2 : v2.oneCell' = true := by
    have h := hval 2 23 v2 rfl rfl
    simp only [Value.okWide, Tryz.underlying23, Cell.okWide] at h
    cases v2 <;> simp_all [Cell.ok, Value.oneCell']
  obtain ⟨a2, h2, hr2, hz2⟩ := Opn.arg (opnTPart.slice Tryz.underlying23 (by kernel_rfl) (by decide)) hx2 ho2
  have hlaw : (xX a0 a1 a2).wp (· = true) := by rw [M.G.jF a0 a1 a2 (fun a ha => by have g := h0.2 a ha; exact ⟨fun ht => (by have h := g.2.1; have h1 := okU8 h.2.1; have h2 := okU64 h.2.2.1; have h3 := okU8 h.2.2.2.1; have hd1 := vJa h.1.1; have hd2 := okU64 h.1.2; exact ⟨⟨hd1.1, by omega, hd2.1, by omega⟩, ⟨h1.1, by omega⟩, ⟨h2.1, by omega⟩, ⟨h3.1, by omega⟩, by omega, (fun d hd => by have g := h.2.2.2.2.2.2 d hd; have g1 := vJa g.1; have g2 := okU64 g.2; exact ⟨g1.1, by omega, g2.1, by omega⟩), by omega⟩), (fun p hp => by have := vJa (g.2.2.2 p hp).1; omega)⟩) (by have := vJa h1; omega) (fun p hp => by have := vJa (h2.2 p hp).1; omega)]; rfl
  refine (XY a0 a1 a2 true hlaw W All [v0, v1, v2] rfl (by
    intro i p v hp hv
    match i with
    | 0 => cases hp; cases hv; exact hr0
    | 1 => cases hp; cases hv; exact hr1
    | 2 => cases hp; cases hv; exact hr2
    | _ + 3 => cases hp)).mono fun e W' ⟨u, he, hbl, hru⟩ => ?_
  rw [hru.of_v] at he
  exact ⟨_, he, vKa Tryz.laidOut hW' rfl (fun ds h => by
    match ds, h with
    | [_, _, _], _ => exact ⟨rfl, rfl, rfl⟩) rfl Tryz.underlying4 (by
    intro t ht
    rw [Tryz.params4] at ht
    simp only [List.mem_cons, List.not_mem_nil, or_false] at ht
    rcases ht with rfl | rfl | rfl
    all_goals exact ⟨by kernel_rfl, of_decide_eq_true (by kernel_rfl)⟩) hbl⟩

theorem outboxUnsent_j0 : Rows.outboxUnsentRow.wf (OpenSpec.ofChange Rows.outboxUnsentSpec) = true := by kernel_rfl
theorem outboxUnsent_j1 : laidOutB Tryz.prog = true := by kernel_rfl
theorem outboxUnsent_j2 : mapsRowed Tryz.prog = true := by kernel_rfl
theorem outboxUnsent_j3 : Tryz.f4.params.all (Tryz.prog.readableRec ·) = true := by kernel_rfl
theorem outboxUnsent_j4 : namedTie Tryz.prog Rows.outboxUnsentRow.named Rows.outboxUnsentSpec.vars = true := by kernel_rfl
theorem outboxUnsent_j5 : (Rows.outboxUnsentRow.stops == []) = true := by kernel_rfl
theorem outboxUnsent_j6 : (Tryz.prog.stops == []) = true := by kernel_rfl
theorem outboxUnsent_j7 : (Rows.outboxUnsentRow.knobs == []) = true := by kernel_rfl
theorem outboxUnsent_j8 : (Tryz.prog.stopKnobs == []) = true := by kernel_rfl
theorem outboxUnsent_j9 : (Rows.outboxUnsentRow.inPlace == Tryz.prog.inPlace 4) = true := by kernel_rfl
theorem outboxUnsent_j10 : (Rows.outboxUnsentRow.unfollowed == Tryz.prog.unfollowed 4) = true := by kernel_rfl
theorem outboxUnsent_j11 : (Rows.outboxUnsentRow.recurses == Tryz.prog.recurses 4) = true := by kernel_rfl
theorem outboxUnsent_j12 : (Rows.outboxUnsentRow.named == Tryz.prog.varsNamed 4) = true := by kernel_rfl
theorem outboxUnsent_j13 : (Rows.outboxUnsentRow.maps == (Tryz.f4.params.toList ++ Rows.outboxUnsentSpec.plain.varTypes Tryz.prog).any (Tryz.prog.mapsRec ·)) = true := by kernel_rfl
theorem outboxUnsent_j14 : (Rows.outboxUnsentRow.ifaces == (Tryz.f4.params.toList ++ Rows.outboxUnsentSpec.plain.varTypes Tryz.prog).any (Tryz.prog.ifacesRec ·)) = true := by kernel_rfl
theorem outboxUnsent_j15 : (Rows.outboxUnsentRow.mapsOut == Tryz.prog.mapsAmong Tryz.f4.resultTypes.toList) = true := by kernel_rfl
theorem outboxUnsent_j16 : (Rows.outboxUnsentRow.loops == (Tryz.f4.params.toList ++ Rows.outboxUnsentSpec.plain.varTypes Tryz.prog).any (Tryz.prog.loopsFrom ·)) = true := by kernel_rfl
theorem outboxUnsent_j17 : (Rows.outboxUnsentRow.wideKeys == (Tryz.f4.params.toList ++ Rows.outboxUnsentSpec.plain.varTypes Tryz.prog ++ Tryz.f4.resultTypes.toList).any (Tryz.prog.wideKeysFrom ·)) = true := by kernel_rfl
theorem outboxUnsent_j18 : Rows.outboxUnsentSpec.vars.all (Tryz.prog.varReadable ·) = true := by kernel_rfl
theorem outboxUnsent_j19 : Tryz.f4.resultTypes.all (fun t => Tryz.prog.readableRec t && decide (t < Tryz.prog.types.size)) = true := by kernel_rfl
theorem outboxUnsent_j20 : (Rows.outboxUnsentRow.ifacesOut == Tryz.f4.resultTypes.toList.any (Tryz.prog.ifacesRec ·)) = true := by kernel_rfl
theorem outboxUnsent_j21 : (Rows.outboxUnsentRow.loopsOut == Tryz.f4.resultTypes.toList.any (Tryz.prog.loopsFrom ·)) = true := by kernel_rfl
theorem outboxUnsent_j22 : (Rows.outboxUnsentRow.plainKeys == Tryz.prog.plainKeys) = true := by kernel_rfl
theorem outboxUnsent_j23 : Rows.outboxUnsentRow.shortTexts.isNone = true := by kernel_rfl
theorem outboxUnsent_j24 : Tryz.prog.stopsHeard = true := by kernel_rfl
theorem outboxUnsent_j25 : Tryz.prog.mayEnter = true := by kernel_rfl
theorem outboxUnsent_j26 : (Rows.outboxUnsentRow.lifted == Tryz.prog.liftsFinal) = true := by kernel_rfl
theorem outboxUnsent_j27 : (Tryz.prog.make == some Rows.outboxUnsentRow.make) = true := by kernel_rfl
theorem outboxUnsent_j28 : (Rows.outboxUnsentRow.kinds == (if Rows.outboxUnsentRow.domain.isEmpty then [] else Tryz.f4.params.toList.map fun t => match Tryz.prog.underlying t with | some (.int k) => some k | _ => none)) = true := by kernel_rfl
theorem outboxUnsent_j29 : (Rows.outboxUnsentRow.pinned == Rows.outboxUnsentRow.pinnedBy) = true := by kernel_rfl
theorem outboxUnsent_j30 : (Rows.outboxUnsentRow.veiled == (Tryz.f4.params.toList ++ Rows.outboxUnsentSpec.plain.varTypes Tryz.prog ++ Tryz.f4.resultTypes.toList).any (Tryz.prog.veiledRec ·)) = true := by kernel_rfl
theorem outboxUnsent_j31 : Rows.outboxUnsentRow.veiledFits Tryz.prog Tryz.f4.params.toList (Tryz.f4.params.toList ++ Rows.outboxUnsentSpec.plain.varTypes Tryz.prog ++ Tryz.f4.resultTypes.toList) = true := by kernel_rfl
theorem outboxUnsent_closed : joinedFacts Tryz.prog 4 Tryz.f4 Rows.outboxUnsentSpec Rows.outboxUnsentRow = true := by
  unfold joinedFacts
  simp only [Bool.and_eq_true]
  exact ⟨⟨⟨⟨⟨⟨⟨⟨⟨⟨⟨⟨⟨⟨⟨⟨⟨⟨⟨⟨⟨⟨⟨⟨⟨⟨⟨⟨⟨⟨⟨outboxUnsent_j0, outboxUnsent_j1⟩, outboxUnsent_j2⟩, outboxUnsent_j3⟩, outboxUnsent_j4⟩, outboxUnsent_j5⟩, outboxUnsent_j6⟩, outboxUnsent_j7⟩, outboxUnsent_j8⟩, outboxUnsent_j9⟩, outboxUnsent_j10⟩, outboxUnsent_j11⟩, outboxUnsent_j12⟩, outboxUnsent_j13⟩, outboxUnsent_j14⟩, outboxUnsent_j15⟩, outboxUnsent_j16⟩, outboxUnsent_j17⟩, outboxUnsent_j18⟩, outboxUnsent_j19⟩, outboxUnsent_j20⟩, outboxUnsent_j21⟩, outboxUnsent_j22⟩, outboxUnsent_j23⟩, outboxUnsent_j24⟩, outboxUnsent_j25⟩, outboxUnsent_j26⟩, outboxUnsent_j27⟩, outboxUnsent_j28⟩, outboxUnsent_j29⟩, outboxUnsent_j30⟩, outboxUnsent_j31⟩
theorem outboxUnsent_said : Rows.OutboxUnsentSaid :=
  OpenClaim.holds_of_wide 4 Tryz.f4 rfl rfl rfl rfl rfl rfl rfl ⟨rfl, rfl, rfl, rfl, rfl⟩ rfl rfl rfl rfl rfl (by kernel_rfl) Tryz.func4 outboxUnsent_closed
    (of_decide_eq_true (by kernel_rfl)) (by unfold Func.isWrapper; first | (rw [if_pos (by decide +kernel)]; kernel_rfl) | (rw [if_neg (by decide +kernel)]; exact ⟨rfl, rfl⟩))
    (fun os started H enc _ => outboxUnsent_lifted os started H enc)
end Go.Proofs.YtipkoiklahndlaaGreat

/- Proved: whatever it is handed, epitaphlaw21.BcodeReads returns true, and what it was handed reads behind the call as it did. Conditions: none. -/
import Derived.Test.YtkebaehlcmgccaaGreatRows
import Derived.KernelRfl
import Derived.Test.YtkebaehlcmgccaaGreatMBr10
import Derived.Test.YtkebaehlcmgccaaGreatMBr13
namespace Go.Proofs.YtkebaehlcmgccaaGreat
open Go.Ep Go.ChangeShapes Go.WideShapes Go.RowKit
set_option maxHeartbeats 1000000
set_option maxRecDepth 100000
set_option linter.unusedVariables false
set_option linter.unusedSimpArgs false

theorem Tryz.own : ownKnob Tryz.prog.godebug = none := by kernel_rfl
theorem Tryz.laidOut : laidOutB Tryz.prog = true := by kernel_rfl
theorem bcodeReads_lifted (os : Os) (started : os.Started) (H : Type) (enc : TypeId × Value → H) :
    ReturnsInHanded {} Tryz.checked os 3 .any (Rows.bcodeReadsSpec.pre6 enc Tryz.prog Tryz.f3 Rows.bcodeReadsRow.domain false) (Rows.bcodeReadsSpec.post enc Tryz.prog Tryz.f3 false true false false) := by
  refine returnsInHanded_of_change (C := Tryz.checked) Tryz.own started (by kernel_rfl) Tryz.func3
    (ChangeSpec.witness6 (enc := enc) (C := Tryz.checked) false ⟨#[], #[.slice none 0 0], []⟩ 8 (by kernel_rfl) (by kernel_rfl) (by kernel_rfl) (by kernel_rfl)) ?_
  intro W base args ds gs before hval0 hW hcnd _
  have hval : ∀ (j : Nat) t v, Tryz.f3.params[j]? = some t → args[j]? = some v → Value.okWide Tryz.prog W .any base t v := hval0
  have hW' := hW
  obtain ⟨p, q, hA0, hV, rfl, hfz, hnd⟩ := hW
  have hA : DataW.TrodAll enc Tryz.prog W 0 (fun _ => true) true Tryz.f3.params.toList args.toList ds p := hA0
  rw [Tryz.params3] at hA hval
  obtain ⟨v0, d0, rfl, rfl, hx0⟩ := trodAll_one hA
  have ho0 : v0.oneCell' = true := by
    have h := hval 0 22 v0 rfl rfl
    simp only [Value.okWide, Tryz.underlying22, Cell.okWide] at h
    cases v0 <;> simp_all [Cell.ok, Value.oneCell']
  obtain ⟨a0, h0, hr0, hz0⟩ := Opn.arg ((Opn.int Tryz.underlying5 (by kernel_rfl)).slice Tryz.underlying22 (by kernel_rfl) (by decide)) hx0 ho0
  have hlaw : (vW a0).wp (· = true) := by rw [M.G.QP a0 (fun x hx => by have := okU8 (h0.2 x hx); omega)]; rfl
  refine (Vg a0 true hlaw W All [v0] rfl (by
    intro i p v hp hv
    match i with
    | 0 => cases hp; cases hv; exact hr0
    | _ + 1 => cases hp)).mono fun e W' ⟨u, he, hbl, hru⟩ => ?_
  rw [hru.of_v] at he
  exact ⟨_, he, uDa Tryz.laidOut hW' rfl (fun ds h => by
    match ds, h with
    | [_], _ => exact ⟨rfl, rfl, rfl⟩) rfl Tryz.underlying4 (by
    intro t ht
    rw [Tryz.params3] at ht
    simp only [List.mem_cons, List.not_mem_nil, or_false] at ht
    subst ht
    exact ⟨by kernel_rfl, of_decide_eq_true (by kernel_rfl)⟩) hbl⟩

theorem bcodeReads_j0 : Rows.bcodeReadsRow.wf (OpenSpec.ofChange Rows.bcodeReadsSpec) = true := by kernel_rfl
theorem bcodeReads_j1 : laidOutB Tryz.prog = true := by kernel_rfl
theorem bcodeReads_j2 : mapsRowed Tryz.prog = true := by kernel_rfl
theorem bcodeReads_j3 : Tryz.f3.params.all (Tryz.prog.readableRec ·) = true := by kernel_rfl
theorem bcodeReads_j4 : namedTie Tryz.prog Rows.bcodeReadsRow.named Rows.bcodeReadsSpec.vars = true := by kernel_rfl
theorem bcodeReads_j5 : (Rows.bcodeReadsRow.stops == []) = true := by kernel_rfl
theorem bcodeReads_j6 : (Tryz.prog.stops == []) = true := by kernel_rfl
theorem bcodeReads_j7 : (Rows.bcodeReadsRow.knobs == []) = true := by kernel_rfl
theorem bcodeReads_j8 : (Tryz.prog.stopKnobs == []) = true := by kernel_rfl
theorem bcodeReads_j9 : (Rows.bcodeReadsRow.inPlace == Tryz.prog.inPlace 3) = true := by kernel_rfl
theorem bcodeReads_j10 : (Rows.bcodeReadsRow.unfollowed == Tryz.prog.unfollowed 3) = true := by kernel_rfl
theorem bcodeReads_j11 : (Rows.bcodeReadsRow.recurses == Tryz.prog.recurses 3) = true := by kernel_rfl
theorem bcodeReads_j12 : (Rows.bcodeReadsRow.named == Tryz.prog.varsNamed 3) = true := by kernel_rfl
theorem bcodeReads_j13 : (Rows.bcodeReadsRow.maps == (Tryz.f3.params.toList ++ Rows.bcodeReadsSpec.plain.varTypes Tryz.prog).any (Tryz.prog.mapsRec ·)) = true := by kernel_rfl
theorem bcodeReads_j14 : (Rows.bcodeReadsRow.ifaces == (Tryz.f3.params.toList ++ Rows.bcodeReadsSpec.plain.varTypes Tryz.prog).any (Tryz.prog.ifacesRec ·)) = true := by kernel_rfl
theorem bcodeReads_j15 : (Rows.bcodeReadsRow.mapsOut == Tryz.prog.mapsAmong Tryz.f3.resultTypes.toList) = true := by kernel_rfl
theorem bcodeReads_j16 : (Rows.bcodeReadsRow.loops == (Tryz.f3.params.toList ++ Rows.bcodeReadsSpec.plain.varTypes Tryz.prog).any (Tryz.prog.loopsFrom ·)) = true := by kernel_rfl
theorem bcodeReads_j17 : (Rows.bcodeReadsRow.wideKeys == (Tryz.f3.params.toList ++ Rows.bcodeReadsSpec.plain.varTypes Tryz.prog ++ Tryz.f3.resultTypes.toList).any (Tryz.prog.wideKeysFrom ·)) = true := by kernel_rfl
theorem bcodeReads_j18 : Rows.bcodeReadsSpec.vars.all (Tryz.prog.varReadable ·) = true := by kernel_rfl
theorem bcodeReads_j19 : Tryz.f3.resultTypes.all (fun t => Tryz.prog.readableRec t && decide (t < Tryz.prog.types.size)) = true := by kernel_rfl
theorem bcodeReads_j20 : (Rows.bcodeReadsRow.ifacesOut == Tryz.f3.resultTypes.toList.any (Tryz.prog.ifacesRec ·)) = true := by kernel_rfl
theorem bcodeReads_j21 : (Rows.bcodeReadsRow.loopsOut == Tryz.f3.resultTypes.toList.any (Tryz.prog.loopsFrom ·)) = true := by kernel_rfl
theorem bcodeReads_j22 : (Rows.bcodeReadsRow.plainKeys == Tryz.prog.plainKeys) = true := by kernel_rfl
theorem bcodeReads_j23 : Rows.bcodeReadsRow.shortTexts.isNone = true := by kernel_rfl
theorem bcodeReads_j24 : Tryz.prog.stopsHeard = true := by kernel_rfl
theorem bcodeReads_j25 : Tryz.prog.mayEnter = true := by kernel_rfl
theorem bcodeReads_j26 : (Rows.bcodeReadsRow.lifted == Tryz.prog.liftsFinal) = true := by kernel_rfl
theorem bcodeReads_j27 : (Tryz.prog.make == some Rows.bcodeReadsRow.make) = true := by kernel_rfl
theorem bcodeReads_j28 : (Rows.bcodeReadsRow.kinds == (if Rows.bcodeReadsRow.domain.isEmpty then [] else Tryz.f3.params.toList.map fun t => match Tryz.prog.underlying t with | some (.int k) => some k | _ => none)) = true := by kernel_rfl
theorem bcodeReads_j29 : (Rows.bcodeReadsRow.pinned == Rows.bcodeReadsRow.pinnedBy) = true := by kernel_rfl
theorem bcodeReads_j30 : (Rows.bcodeReadsRow.veiled == (Tryz.f3.params.toList ++ Rows.bcodeReadsSpec.plain.varTypes Tryz.prog ++ Tryz.f3.resultTypes.toList).any (Tryz.prog.veiledRec ·)) = true := by kernel_rfl
theorem bcodeReads_j31 : Rows.bcodeReadsRow.veiledFits Tryz.prog Tryz.f3.params.toList (Tryz.f3.params.toList ++ Rows.bcodeReadsSpec.plain.varTypes Tryz.prog ++ Tryz.f3.resultTypes.toList) = true := by kernel_rfl
theorem bcodeReads_closed : joinedFacts Tryz.prog 3 Tryz.f3 Rows.bcodeReadsSpec Rows.bcodeReadsRow = true := by
  unfold joinedFacts
  simp only [Bool.and_eq_true]
  exact ⟨⟨⟨⟨⟨⟨⟨⟨⟨⟨⟨⟨⟨⟨⟨⟨⟨⟨⟨⟨⟨⟨⟨⟨⟨⟨⟨⟨⟨⟨⟨bcodeReads_j0, bcodeReads_j1⟩, bcodeReads_j2⟩, bcodeReads_j3⟩, bcodeReads_j4⟩, bcodeReads_j5⟩, bcodeReads_j6⟩, bcodeReads_j7⟩, bcodeReads_j8⟩, bcodeReads_j9⟩, bcodeReads_j10⟩, bcodeReads_j11⟩, bcodeReads_j12⟩, bcodeReads_j13⟩, bcodeReads_j14⟩, bcodeReads_j15⟩, bcodeReads_j16⟩, bcodeReads_j17⟩, bcodeReads_j18⟩, bcodeReads_j19⟩, bcodeReads_j20⟩, bcodeReads_j21⟩, bcodeReads_j22⟩, bcodeReads_j23⟩, bcodeReads_j24⟩, bcodeReads_j25⟩, bcodeReads_j26⟩, bcodeReads_j27⟩, bcodeReads_j28⟩, bcodeReads_j29⟩, bcodeReads_j30⟩, bcodeReads_j31⟩
theorem bcodeReads_said : Rows.BcodeReadsSaid :=
  OpenClaim.holds_of_wide 3 Tryz.f3 rfl rfl rfl rfl rfl rfl rfl ⟨rfl, rfl, rfl, rfl, rfl⟩ rfl rfl rfl rfl rfl (by kernel_rfl) Tryz.func3 bcodeReads_closed
    (of_decide_eq_true (by kernel_rfl)) (by unfold Func.isWrapper; first | (rw [if_pos (by decide +kernel)]; kernel_rfl) | (rw [if_neg (by decide +kernel)]; exact ⟨rfl, rfl⟩))
    (fun os started H enc _ => bcodeReads_lifted os started H enc)
end Go.Proofs.YtkebaehlcmgccaaGreat

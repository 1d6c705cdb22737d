/- Proved: whatever it is handed, epitaphlaw20.DeltaRight returns true, and what it was handed reads behind the call as it did. Conditions: none. -/
import Derived.Test.YtjdnjamfgdjncaaGreatRows
import Derived.KernelRfl
import Derived.Test.YtjdnjamfgdjncaaGreatADr9
import Derived.Test.YtjdnjamfgdjncaaGreatADr13
namespace Go.Proofs.YtjdnjamfgdjncaaGreat
open Go.Ep Go.ChangeShapes Go.WideShapes Go.RowKit
set_option maxHeartbeats 1000000
set_option maxRecDepth 100000
set_option linter.unusedVariables false
set_option linter.unusedSimpArgs false
theorem Tryz.own : ownKnob Tryz.prog.godebug=none := by kernel_rfl
theorem Tryz.laidOut : laidOutB Tryz.prog=true := by kernel_rfl
theorem deltaRight_lifted (os : Os) (started : os.Started) (H : Type) (enc : TypeId × Value → H) :
    ReturnsInHanded {} Tryz.checked os 3 .any (Rows.deltaRightSpec.pre6 enc Tryz.prog Tryz.f3 Rows.deltaRightRow.domain false) (Rows.deltaRightSpec.post enc Tryz.prog Tryz.f3 false true false false) := by
  refine returnsInHanded_of_change (C := Tryz.checked) Tryz.own started (by kernel_rfl) Tryz.func3
    (ChangeSpec.witness6 (enc := enc) (C := Tryz.checked) false ⟨#[], #[.slice none 0 0], []⟩ 8 (by kernel_rfl) (by kernel_rfl) (by kernel_rfl) (by kernel_rfl)) ?_
  intro W base args ds gs before hval0 hW hcnd _
  have hval : ∀ (j : Nat) t v, Tryz.f3.params[j]?=some t → args[j]?=some v → Value.okWide Tryz.prog W .any base t v := hval0
  have hW' := hW
  obtain⟨p, q, hA0, hV, rfl, hfz, hnd⟩ := hW
  have hA : DataW.TrodAll enc Tryz.prog W 0 (fun _ => true) true Tryz.f3.params.toList args.toList ds p := hA0
  rw[Tryz.params3] at hA hval
  obtain⟨v0, d0, rfl, rfl, hx0⟩ := trodAll_one hA
  have ho0 : v0.oneCell'=true := by
    have h := hval 0 22 v0 rfl rfl
    simp only[Value.okWide, Tryz.underlying22, Cell.okWide] at h
    cases v0 <;> simp_all [Cell.ok, Value.oneCell']
  obtain⟨a0, h0, hr0, hz0⟩ := Opn.arg (opnL20Deed.slice Tryz.underlying22 (by kernel_rfl) (by decide)) hx0 ho0
  have hlaw : (vk a0).wp (·=true) := by rw[M.T.deltaRight_eq a0 (fun x hx => by have g := h0.2 x hx; have k1 := okU8 g.1; have k2 := okU8 g.2.1; have k3 := okU8 g.2.2.1; have k4 := okU8 g.2.2.2.1; have k5 := okU8 g.2.2.2.2; exact⟨⟨k1.1, by omega⟩, ⟨k2.1, by omega⟩, ⟨k3.1, by omega⟩, ⟨k4.1, by omega⟩, ⟨k5.1, by omega⟩⟩)]; rfl
  refine(VN a0 true hlaw W All [v0] rfl (by
    intro i p v hp hv
    match i with
    | 0 => cases hp; cases hv; exact hr0
    | _+1 => cases hp)).mono fun e W' ⟨u, he, hbl, hru⟩ => ?_
  rw[hru.of_v] at he
  exact⟨_, he, vfa Tryz.laidOut hW' rfl (fun ds h => by
    match ds, h with
    | [_], _ => exact⟨rfl, rfl, rfl⟩) rfl Tryz.underlying4 (by
    intro t ht
    rw[Tryz.params3] at ht
    simp only[List.mem_cons, List.not_mem_nil, or_false] at ht
    subst ht
    exact⟨by kernel_rfl, of_decide_eq_true (by kernel_rfl)⟩) hbl⟩
theorem deltaRight_j0 : Rows.deltaRightRow.wf (OpenSpec.ofChange Rows.deltaRightSpec)=true := by kernel_rfl
theorem deltaRight_j1 : laidOutB Tryz.prog=true := by kernel_rfl
theorem deltaRight_j2 : mapsRowed Tryz.prog=true := by kernel_rfl
theorem deltaRight_j3 : Tryz.f3.params.all (Tryz.prog.readableRec ·)=true := by kernel_rfl
theorem deltaRight_j4 : namedTie Tryz.prog Rows.deltaRightRow.named Rows.deltaRightSpec.vars=true := by kernel_rfl
theorem deltaRight_j5 : (Rows.deltaRightRow.stops==[])=true := by kernel_rfl
theorem deltaRight_j6 : (Tryz.prog.stops==[])=true := by kernel_rfl
theorem deltaRight_j7 : (Rows.deltaRightRow.knobs==[])=true := by kernel_rfl
theorem deltaRight_j8 : (Tryz.prog.stopKnobs==[])=true := by kernel_rfl
theorem deltaRight_j9 : (Rows.deltaRightRow.inPlace==Tryz.prog.inPlace 3)=true := by kernel_rfl
theorem deltaRight_j10 : (Rows.deltaRightRow.unfollowed==Tryz.prog.unfollowed 3)=true := by kernel_rfl
theorem deltaRight_j11 : (Rows.deltaRightRow.recurses==Tryz.prog.recurses 3)=true := by kernel_rfl
theorem deltaRight_j12 : (Rows.deltaRightRow.named==Tryz.prog.varsNamed 3)=true := by kernel_rfl
theorem deltaRight_j13 : (Rows.deltaRightRow.maps==(Tryz.f3.params.toList++Rows.deltaRightSpec.plain.varTypes Tryz.prog).any (Tryz.prog.mapsRec ·))=true := by kernel_rfl
theorem deltaRight_j14 : (Rows.deltaRightRow.ifaces==(Tryz.f3.params.toList++Rows.deltaRightSpec.plain.varTypes Tryz.prog).any (Tryz.prog.ifacesRec ·))=true := by kernel_rfl
theorem deltaRight_j15 : (Rows.deltaRightRow.mapsOut==Tryz.prog.mapsAmong Tryz.f3.resultTypes.toList)=true := by kernel_rfl
theorem deltaRight_j16 : (Rows.deltaRightRow.loops==(Tryz.f3.params.toList++Rows.deltaRightSpec.plain.varTypes Tryz.prog).any (Tryz.prog.loopsFrom ·))=true := by kernel_rfl
theorem deltaRight_j17 : (Rows.deltaRightRow.wideKeys==(Tryz.f3.params.toList++Rows.deltaRightSpec.plain.varTypes Tryz.prog++Tryz.f3.resultTypes.toList).any (Tryz.prog.wideKeysFrom ·))=true := by kernel_rfl
theorem deltaRight_j18 : Rows.deltaRightSpec.vars.all (Tryz.prog.varReadable ·)=true := by kernel_rfl
theorem deltaRight_j19 : Tryz.f3.resultTypes.all (fun t => Tryz.prog.readableRec t&&decide (t < Tryz.prog.types.size))=true := by kernel_rfl
theorem deltaRight_j20 : (Rows.deltaRightRow.ifacesOut==Tryz.f3.resultTypes.toList.any (Tryz.prog.ifacesRec ·))=true := by kernel_rfl
theorem deltaRight_j21 : (Rows.deltaRightRow.loopsOut==Tryz.f3.resultTypes.toList.any (Tryz.prog.loopsFrom ·))=true := by kernel_rfl
theorem deltaRight_j22 : (Rows.deltaRightRow.plainKeys==Tryz.prog.plainKeys)=true := by kernel_rfl
theorem deltaRight_j23 : Rows.deltaRightRow.shortTexts.isNone=true := by kernel_rfl
theorem deltaRight_j24 : Tryz.prog.stopsHeard=true := by kernel_rfl
theorem deltaRight_j25 : Tryz.prog.mayEnter=true := by kernel_rfl
theorem deltaRight_j26 : (Rows.deltaRightRow.lifted==Tryz.prog.liftsFinal)=true := by kernel_rfl
theorem deltaRight_j27 : (Tryz.prog.make==some Rows.deltaRightRow.make)=true := by kernel_rfl
theorem deltaRight_j28 : (Rows.deltaRightRow.kinds==(if Rows.deltaRightRow.domain.isEmpty then [] else Tryz.f3.params.toList.map fun t => match Tryz.prog.underlying t with | some (.int k) => some k | _ => none))=true := by kernel_rfl
theorem deltaRight_j29 : (Rows.deltaRightRow.pinned==Rows.deltaRightRow.pinnedBy)=true := by kernel_rfl
theorem deltaRight_j30 : (Rows.deltaRightRow.veiled==(Tryz.f3.params.toList++Rows.deltaRightSpec.plain.varTypes Tryz.prog++Tryz.f3.resultTypes.toList).any (Tryz.prog.veiledRec ·))=true := by kernel_rfl
theorem deltaRight_j31 : Rows.deltaRightRow.veiledFits Tryz.prog Tryz.f3.params.toList (Tryz.f3.params.toList++Rows.deltaRightSpec.plain.varTypes Tryz.prog++Tryz.f3.resultTypes.toList)=true := by kernel_rfl
theorem deltaRight_closed : joinedFacts Tryz.prog 3 Tryz.f3 Rows.deltaRightSpec Rows.deltaRightRow=true := by
  unfold joinedFacts
  simp only[Bool.and_eq_true]
  exact⟨⟨⟨⟨⟨⟨⟨⟨⟨⟨⟨⟨⟨⟨⟨⟨⟨⟨⟨⟨⟨⟨⟨⟨⟨⟨⟨⟨⟨⟨⟨deltaRight_j0, deltaRight_j1⟩, deltaRight_j2⟩, deltaRight_j3⟩, deltaRight_j4⟩, deltaRight_j5⟩, deltaRight_j6⟩, deltaRight_j7⟩, deltaRight_j8⟩, deltaRight_j9⟩, deltaRight_j10⟩, deltaRight_j11⟩, deltaRight_j12⟩, deltaRight_j13⟩, deltaRight_j14⟩, deltaRight_j15⟩, deltaRight_j16⟩, deltaRight_j17⟩, deltaRight_j18⟩, deltaRight_j19⟩, deltaRight_j20⟩, deltaRight_j21⟩, deltaRight_j22⟩, deltaRight_j23⟩, deltaRight_j24⟩, deltaRight_j25⟩, deltaRight_j26⟩, deltaRight_j27⟩, deltaRight_j28⟩, deltaRight_j29⟩, deltaRight_j30⟩, deltaRight_j31⟩
theorem deltaRight_said : Rows.DeltaRightSaid :=
  OpenClaim.holds_of_wide 3 Tryz.f3 rfl rfl rfl rfl rfl rfl rfl ⟨rfl, rfl, rfl, rfl, rfl⟩ rfl rfl rfl rfl rfl (by kernel_rfl) Tryz.func3 deltaRight_closed
    (of_decide_eq_true (by kernel_rfl)) (by unfold Func.isWrapper; first | (rw[if_pos (by decide +kernel)]; kernel_rfl) | (rw[if_neg (by decide +kernel)]; exact⟨rfl, rfl⟩))
    (fun os started H enc _ => deltaRight_lifted os started H enc)
end Go.Proofs.YtjdnjamfgdjncaaGreat

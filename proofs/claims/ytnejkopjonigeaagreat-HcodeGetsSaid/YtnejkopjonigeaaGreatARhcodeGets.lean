/- Proved: whatever it is handed, epitaphlaw34.HcodeGets returns true, and what it was handed reads behind the call as it did. Conditions: none. -/
import Derived.Test.YtnejkopjonigeaaGreatRows
import Derived.KernelRfl
import Derived.Test.YtnejkopjonigeaaGreatAHg10
import Derived.Test.YtnejkopjonigeaaGreatAHg14
namespace Go.Proofs.YtnejkopjonigeaaGreat
open Go.Ep Go.ChangeShapes Go.WideShapes Go.RowKit
set_option maxHeartbeats 1000000
set_option maxRecDepth 100000
set_option linter.unusedVariables false
set_option linter.unusedSimpArgs false
theorem Tryz.own : ownKnob Tryz.prog.godebug=none := by kernel_rfl
theorem Tryz.laidOut : laidOutB Tryz.prog=true := by kernel_rfl
theorem hcodeGets_lifted (os : Os) (started : os.Started) (H : Type) (enc : TypeId × Value → H) :
    ReturnsInHanded {} Tryz.checked os 4 .any (Rows.hcodeGetsSpec.pre6 enc Tryz.prog Tryz.f4 Rows.hcodeGetsRow.domain false) (Rows.hcodeGetsSpec.post enc Tryz.prog Tryz.f4 false true false false) := by
  refine returnsInHanded_of_change (C := Tryz.checked) Tryz.own started (by kernel_rfl) Tryz.func4
    (ChangeSpec.witness6 (enc := enc) (C := Tryz.checked) false ⟨#[], #[.slice none 0 0], []⟩ 8 (by kernel_rfl) (by kernel_rfl) (by kernel_rfl) (by kernel_rfl)) ?_
  intro W base args ds gs before hval0 hW hcnd _
  have hval : ∀ (j : Nat) t v, Tryz.f4.params[j]?=some t → args[j]?=some v → Value.okWide Tryz.prog W .any base t v := hval0
  have hW' := hW
  obtain⟨p, q, hA0, hV, rfl, hfz, hnd⟩ := hW
  have hA : DataW.TrodAll enc Tryz.prog W 0 (fun _ => true) true Tryz.f4.params.toList args.toList ds p := hA0
  rw[Tryz.params4] at hA hval
  obtain⟨v0, d0, rfl, rfl, hx0⟩ := trodAll_one hA
  have ho0 : v0.oneCell'=true := by
    have h := hval 0 34 v0 rfl rfl
    simp only[Value.okWide, Tryz.underlying34, Cell.okWide] at h
    cases v0 <;> simp_all [Cell.ok, Value.oneCell']
  obtain⟨a0, h0, hr0, hz0⟩ := Opn.arg ((Opn.int Tryz.underlying5 (by kernel_rfl)).slice Tryz.underlying34 (by kernel_rfl) (by decide)) hx0 ho0
  have hlaw : (Zh a0).wp (·=true) := by rw[M.Y.hcodeGets_eq a0 (fun x hx => by have := okU8 (h0.2 x hx); omega)]; rfl
  refine(JY a0 true hlaw W All [v0] rfl (by
    intro i p v hp hv
    match i with
    | 0 => cases hp; cases hv; exact hr0
    | _+1 => cases hp)).mono fun e W' ⟨u, he, hbl, hru⟩ => ?_
  rw[hru.of_v] at he
  exact⟨_, he, Xva Tryz.laidOut hW' rfl (fun ds h => by
    match ds, h with
    | [_], _ => exact⟨rfl, rfl, rfl⟩) rfl Tryz.underlying4 (by
    intro t ht
    rw[Tryz.params4] at ht
    simp only[List.mem_cons, List.not_mem_nil, or_false] at ht
    subst ht
    exact⟨by kernel_rfl, of_decide_eq_true (by kernel_rfl)⟩) hbl⟩
theorem hcodeGets_j0 : Rows.hcodeGetsRow.wf (OpenSpec.ofChange Rows.hcodeGetsSpec)=true := by kernel_rfl
theorem hcodeGets_j1 : laidOutB Tryz.prog=true := by kernel_rfl
theorem hcodeGets_j2 : mapsRowed Tryz.prog=true := by kernel_rfl
theorem hcodeGets_j3 : Tryz.f4.params.all (Tryz.prog.readableRec ·)=true := by kernel_rfl
theorem hcodeGets_j4 : namedTie Tryz.prog Rows.hcodeGetsRow.named Rows.hcodeGetsSpec.vars=true := by kernel_rfl
theorem hcodeGets_j5 : (Rows.hcodeGetsRow.stops==[])=true := by kernel_rfl
theorem hcodeGets_j6 : (Tryz.prog.stops==[])=true := by kernel_rfl
theorem hcodeGets_j7 : (Rows.hcodeGetsRow.knobs==[])=true := by kernel_rfl
theorem hcodeGets_j8 : (Tryz.prog.stopKnobs==[])=true := by kernel_rfl
theorem hcodeGets_j9 : (Rows.hcodeGetsRow.inPlace==Tryz.prog.inPlace 4)=true := by kernel_rfl
theorem hcodeGets_j10 : (Rows.hcodeGetsRow.unfollowed==Tryz.prog.unfollowed 4)=true := by kernel_rfl
theorem hcodeGets_j11 : (Rows.hcodeGetsRow.recurses==Tryz.prog.recurses 4)=true := by kernel_rfl
theorem hcodeGets_j12 : (Rows.hcodeGetsRow.named==Tryz.prog.varsNamed 4)=true := by kernel_rfl
theorem hcodeGets_j13 : (Rows.hcodeGetsRow.maps==(Tryz.f4.params.toList++Rows.hcodeGetsSpec.plain.varTypes Tryz.prog).any (Tryz.prog.mapsRec ·))=true := by kernel_rfl
theorem hcodeGets_j14 : (Rows.hcodeGetsRow.ifaces==(Tryz.f4.params.toList++Rows.hcodeGetsSpec.plain.varTypes Tryz.prog).any (Tryz.prog.ifacesRec ·))=true := by kernel_rfl
theorem hcodeGets_j15 : (Rows.hcodeGetsRow.mapsOut==Tryz.prog.mapsAmong Tryz.f4.resultTypes.toList)=true := by kernel_rfl
theorem hcodeGets_j16 : (Rows.hcodeGetsRow.loops==(Tryz.f4.params.toList++Rows.hcodeGetsSpec.plain.varTypes Tryz.prog).any (Tryz.prog.loopsFrom ·))=true := by kernel_rfl
theorem hcodeGets_j17 : (Rows.hcodeGetsRow.wideKeys==(Tryz.f4.params.toList++Rows.hcodeGetsSpec.plain.varTypes Tryz.prog++Tryz.f4.resultTypes.toList).any (Tryz.prog.wideKeysFrom ·))=true := by kernel_rfl
theorem hcodeGets_j18 : Rows.hcodeGetsSpec.vars.all (Tryz.prog.varReadable ·)=true := by kernel_rfl
theorem hcodeGets_j19 : Tryz.f4.resultTypes.all (fun t => Tryz.prog.readableRec t&&decide (t < Tryz.prog.types.size))=true := by kernel_rfl
theorem hcodeGets_j20 : (Rows.hcodeGetsRow.ifacesOut==Tryz.f4.resultTypes.toList.any (Tryz.prog.ifacesRec ·))=true := by kernel_rfl
theorem hcodeGets_j21 : (Rows.hcodeGetsRow.loopsOut==Tryz.f4.resultTypes.toList.any (Tryz.prog.loopsFrom ·))=true := by kernel_rfl
theorem hcodeGets_j22 : (Rows.hcodeGetsRow.plainKeys==Tryz.prog.plainKeys)=true := by kernel_rfl
theorem hcodeGets_j23 : Rows.hcodeGetsRow.shortTexts.isNone=true := by kernel_rfl
theorem hcodeGets_j24 : Tryz.prog.stopsHeard=true := by kernel_rfl
theorem hcodeGets_j25 : Tryz.prog.mayEnter=true := by kernel_rfl
theorem hcodeGets_j26 : (Rows.hcodeGetsRow.lifted==Tryz.prog.liftsFinal)=true := by kernel_rfl
theorem hcodeGets_j27 : (Tryz.prog.make==some Rows.hcodeGetsRow.make)=true := by kernel_rfl
theorem hcodeGets_j28 : (Rows.hcodeGetsRow.kinds==(if Rows.hcodeGetsRow.domain.isEmpty then [] else Tryz.f4.params.toList.map fun t => match Tryz.prog.underlying t with | some (.int k) => some k | _ => none))=true := by kernel_rfl
theorem hcodeGets_j29 : (Rows.hcodeGetsRow.pinned==Rows.hcodeGetsRow.pinnedBy)=true := by kernel_rfl
theorem hcodeGets_j30 : (Rows.hcodeGetsRow.veiled==(Tryz.f4.params.toList++Rows.hcodeGetsSpec.plain.varTypes Tryz.prog++Tryz.f4.resultTypes.toList).any (Tryz.prog.veiledRec ·))=true := by kernel_rfl
theorem hcodeGets_j31 : Rows.hcodeGetsRow.veiledFits Tryz.prog Tryz.f4.params.toList (Tryz.f4.params.toList++Rows.hcodeGetsSpec.plain.varTypes Tryz.prog++Tryz.f4.resultTypes.toList)=true := by kernel_rfl
theorem hcodeGets_closed : joinedFacts Tryz.prog 4 Tryz.f4 Rows.hcodeGetsSpec Rows.hcodeGetsRow=true := by
  unfold joinedFacts
  simp only[Bool.and_eq_true]
  exact⟨⟨⟨⟨⟨⟨⟨⟨⟨⟨⟨⟨⟨⟨⟨⟨⟨⟨⟨⟨⟨⟨⟨⟨⟨⟨⟨⟨⟨⟨⟨hcodeGets_j0, hcodeGets_j1⟩, hcodeGets_j2⟩, hcodeGets_j3⟩, hcodeGets_j4⟩, hcodeGets_j5⟩, hcodeGets_j6⟩, hcodeGets_j7⟩, hcodeGets_j8⟩, hcodeGets_j9⟩, hcodeGets_j10⟩, hcodeGets_j11⟩, hcodeGets_j12⟩, hcodeGets_j13⟩, hcodeGets_j14⟩, hcodeGets_j15⟩, hcodeGets_j16⟩, hcodeGets_j17⟩, hcodeGets_j18⟩, hcodeGets_j19⟩, hcodeGets_j20⟩, hcodeGets_j21⟩, hcodeGets_j22⟩, hcodeGets_j23⟩, hcodeGets_j24⟩, hcodeGets_j25⟩, hcodeGets_j26⟩, hcodeGets_j27⟩, hcodeGets_j28⟩, hcodeGets_j29⟩, hcodeGets_j30⟩, hcodeGets_j31⟩
theorem hcodeGets_said : Rows.HcodeGetsSaid :=
  OpenClaim.holds_of_wide 4 Tryz.f4 rfl rfl rfl rfl rfl rfl rfl ⟨rfl, rfl, rfl, rfl, rfl⟩ rfl rfl rfl rfl rfl (by kernel_rfl) Tryz.func4 hcodeGets_closed
    (of_decide_eq_true (by kernel_rfl)) (by unfold Func.isWrapper; first | (rw[if_pos (by decide +kernel)]; kernel_rfl) | (rw[if_neg (by decide +kernel)]; exact⟨rfl, rfl⟩))
    (fun os started H enc _ => hcodeGets_lifted os started H enc)
end Go.Proofs.YtnejkopjonigeaaGreat

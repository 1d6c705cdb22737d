/- Proved: whatever it is handed, epitaphlaw20.DeltaSettles returns true, and what it was handed reads behind the call as it did. Conditions: none. -/
import Derived.Test.YtjdnjamfgdjncaaGreatRows
import Derived.KernelRfl
import Derived.Test.YtjdnjamfgdjncaaGreatADs9
import Derived.Test.YtjdnjamfgdjncaaGreatADs13
namespace Go.Proofs.YtjdnjamfgdjncaaGreat
open Go.Ep Go.ChangeShapes Go.WideShapes Go.RowKit
set_option maxHeartbeats 1000000
set_option maxRecDepth 100000
set_option linter.unusedVariables false
set_option linter.unusedSimpArgs false
theorem Tryz.own : ownKnob Tryz.prog.godebug=none := by kernel_rfl
theorem Tryz.laidOut : laidOutB Tryz.prog=true := by kernel_rfl
theorem deltaSettles_lifted (os : Os) (started : os.Started) (H : Type) (enc : TypeId × Value → H) :
    ReturnsInHanded {} Tryz.checked os 4 .any (Rows.deltaSettlesSpec.pre6 enc Tryz.prog Tryz.f4 Rows.deltaSettlesRow.domain false) (Rows.deltaSettlesSpec.post enc Tryz.prog Tryz.f4 false true false false) := by
  refine returnsInHanded_of_change (C := Tryz.checked) Tryz.own started (by kernel_rfl) Tryz.func4
    (ChangeSpec.witness6 (enc := enc) (C := Tryz.checked) false ⟨#[], #[.slice none 0 0, .int .u8 0], []⟩ 8 (by kernel_rfl) (by kernel_rfl) (by kernel_rfl) (by kernel_rfl)) ?_
  intro W base args ds gs before hval0 hW hcnd _
  have hval : ∀ (j : Nat) t v, Tryz.f4.params[j]?=some t → args[j]?=some v → Value.okWide Tryz.prog W .any base t v := hval0
  have hW' := hW
  obtain⟨p, q, hA0, hV, rfl, hfz, hnd⟩ := hW
  have hA : DataW.TrodAll enc Tryz.prog W 0 (fun _ => true) true Tryz.f4.params.toList args.toList ds p := hA0
  rw[Tryz.params4] at hA hval
  obtain⟨v0, v1, d0, d1, p0, p1, rfl, rfl, rfl, hx0, hx1⟩ := trodAll_two hA
  have ho0 : v0.oneCell'=true := by
    have h := hval 0 22 v0 rfl rfl
    simp only[Value.okWide, Tryz.underlying22, Cell.okWide] at h
    cases v0 <;> simp_all [Cell.ok, Value.oneCell']
  obtain⟨a0, h0, hr0, hz0⟩ := Opn.arg (opnL20Deed.slice Tryz.underlying22 (by kernel_rfl) (by decide)) hx0 ho0
  have ho1 : v1.oneCell'=true := by
    have h := hval 1 5 v1 rfl rfl
    simp only[Value.okWide, Tryz.underlying5, Cell.okWide] at h
    cases v1 <;> simp_all [Cell.ok, Value.oneCell']
  obtain⟨a1, h1, hr1, hz1⟩ := Opn.arg (Opn.int Tryz.underlying5 (by kernel_rfl)) hx1 ho1
  have hlaw : (wH a0 a1).wp (·=true) := by rw[M.T.deltaSettles_eq a0 a1 (fun x hx => by have g := h0.2 x hx; have k1 := okU8 g.1; have k2 := okU8 g.2.1; have k3 := okU8 g.2.2.1; have k4 := okU8 g.2.2.2.1; have k5 := okU8 g.2.2.2.2; exact⟨⟨k1.1, by omega⟩, ⟨k2.1, by omega⟩, ⟨k3.1, by omega⟩, ⟨k4.1, by omega⟩, ⟨k5.1, by omega⟩⟩) (by have := okU8 h1; omega)]; rfl
  refine(WA a0 a1 true hlaw W All [v0, v1] rfl (by
    intro i p v hp hv
    match i with
    | 0 => cases hp; cases hv; exact hr0
    | 1 => cases hp; cases hv; exact hr1
    | _+2 => cases hp)).mono fun e W' ⟨u, he, hbl, hru⟩ => ?_
  rw[hru.of_v] at he
  exact⟨_, he, vBa Tryz.laidOut hW' rfl (fun ds h => by
    match ds, h with
    | [_, _], _ => exact⟨rfl, rfl, rfl⟩) rfl Tryz.underlying4 (by
    intro t ht
    rw[Tryz.params4] at ht
    simp only[List.mem_cons, List.not_mem_nil, or_false] at ht
    rcases ht with rfl | rfl
    all_goals exact⟨by kernel_rfl, of_decide_eq_true (by kernel_rfl)⟩) hbl⟩
theorem deltaSettles_j0 : Rows.deltaSettlesRow.wf (OpenSpec.ofChange Rows.deltaSettlesSpec)=true := by kernel_rfl
theorem deltaSettles_j1 : laidOutB Tryz.prog=true := by kernel_rfl
theorem deltaSettles_j2 : mapsRowed Tryz.prog=true := by kernel_rfl
theorem deltaSettles_j3 : Tryz.f4.params.all (Tryz.prog.readableRec ·)=true := by kernel_rfl
theorem deltaSettles_j4 : namedTie Tryz.prog Rows.deltaSettlesRow.named Rows.deltaSettlesSpec.vars=true := by kernel_rfl
theorem deltaSettles_j5 : (Rows.deltaSettlesRow.stops==[])=true := by kernel_rfl
theorem deltaSettles_j6 : (Tryz.prog.stops==[])=true := by kernel_rfl
theorem deltaSettles_j7 : (Rows.deltaSettlesRow.knobs==[])=true := by kernel_rfl
theorem deltaSettles_j8 : (Tryz.prog.stopKnobs==[])=true := by kernel_rfl
theorem deltaSettles_j9 : (Rows.deltaSettlesRow.inPlace==Tryz.prog.inPlace 4)=true := by kernel_rfl
theorem deltaSettles_j10 : (Rows.deltaSettlesRow.unfollowed==Tryz.prog.unfollowed 4)=true := by kernel_rfl
theorem deltaSettles_j11 : (Rows.deltaSettlesRow.recurses==Tryz.prog.recurses 4)=true := by kernel_rfl
theorem deltaSettles_j12 : (Rows.deltaSettlesRow.named==Tryz.prog.varsNamed 4)=true := by kernel_rfl
theorem deltaSettles_j13 : (Rows.deltaSettlesRow.maps==(Tryz.f4.params.toList++Rows.deltaSettlesSpec.plain.varTypes Tryz.prog).any (Tryz.prog.mapsRec ·))=true := by kernel_rfl
theorem deltaSettles_j14 : (Rows.deltaSettlesRow.ifaces==(Tryz.f4.params.toList++Rows.deltaSettlesSpec.plain.varTypes Tryz.prog).any (Tryz.prog.ifacesRec ·))=true := by kernel_rfl
theorem deltaSettles_j15 : (Rows.deltaSettlesRow.mapsOut==Tryz.prog.mapsAmong Tryz.f4.resultTypes.toList)=true := by kernel_rfl
theorem deltaSettles_j16 : (Rows.deltaSettlesRow.loops==(Tryz.f4.params.toList++Rows.deltaSettlesSpec.plain.varTypes Tryz.prog).any (Tryz.prog.loopsFrom ·))=true := by kernel_rfl
theorem deltaSettles_j17 : (Rows.deltaSettlesRow.wideKeys==(Tryz.f4.params.toList++Rows.deltaSettlesSpec.plain.varTypes Tryz.prog++Tryz.f4.resultTypes.toList).any (Tryz.prog.wideKeysFrom ·))=true := by kernel_rfl
theorem deltaSettles_j18 : Rows.deltaSettlesSpec.vars.all (Tryz.prog.varReadable ·)=true := by kernel_rfl
theorem deltaSettles_j19 : Tryz.f4.resultTypes.all (fun t => Tryz.prog.readableRec t&&decide (t < Tryz.prog.types.size))=true := by kernel_rfl
theorem deltaSettles_j20 : (Rows.deltaSettlesRow.ifacesOut==Tryz.f4.resultTypes.toList.any (Tryz.prog.ifacesRec ·))=true := by kernel_rfl
theorem deltaSettles_j21 : (Rows.deltaSettlesRow.loopsOut==Tryz.f4.resultTypes.toList.any (Tryz.prog.loopsFrom ·))=true := by kernel_rfl
theorem deltaSettles_j22 : (Rows.deltaSettlesRow.plainKeys==Tryz.prog.plainKeys)=true := by kernel_rfl
theorem deltaSettles_j23 : Rows.deltaSettlesRow.shortTexts.isNone=true := by kernel_rfl
theorem deltaSettles_j24 : Tryz.prog.stopsHeard=true := by kernel_rfl
theorem deltaSettles_j25 : Tryz.prog.mayEnter=true := by kernel_rfl
theorem deltaSettles_j26 : (Rows.deltaSettlesRow.lifted==Tryz.prog.liftsFinal)=true := by kernel_rfl
theorem deltaSettles_j27 : (Tryz.prog.make==some Rows.deltaSettlesRow.make)=true := by kernel_rfl
theorem deltaSettles_j28 : (Rows.deltaSettlesRow.kinds==(if Rows.deltaSettlesRow.domain.isEmpty then [] else Tryz.f4.params.toList.map fun t => match Tryz.prog.underlying t with | some (.int k) => some k | _ => none))=true := by kernel_rfl
theorem deltaSettles_j29 : (Rows.deltaSettlesRow.pinned==Rows.deltaSettlesRow.pinnedBy)=true := by kernel_rfl
theorem deltaSettles_j30 : (Rows.deltaSettlesRow.veiled==(Tryz.f4.params.toList++Rows.deltaSettlesSpec.plain.varTypes Tryz.prog++Tryz.f4.resultTypes.toList).any (Tryz.prog.veiledRec ·))=true := by kernel_rfl
theorem deltaSettles_j31 : Rows.deltaSettlesRow.veiledFits Tryz.prog Tryz.f4.params.toList (Tryz.f4.params.toList++Rows.deltaSettlesSpec.plain.varTypes Tryz.prog++Tryz.f4.resultTypes.toList)=true := by kernel_rfl
theorem deltaSettles_closed : joinedFacts Tryz.prog 4 Tryz.f4 Rows.deltaSettlesSpec Rows.deltaSettlesRow=true := by
  unfold joinedFacts
  simp only[Bool.and_eq_true]
  exact⟨⟨⟨⟨⟨⟨⟨⟨⟨⟨⟨⟨⟨⟨⟨⟨⟨⟨⟨⟨⟨⟨⟨⟨⟨⟨⟨⟨⟨⟨⟨deltaSettles_j0, deltaSettles_j1⟩, deltaSettles_j2⟩, deltaSettles_j3⟩, deltaSettles_j4⟩, deltaSettles_j5⟩, deltaSettles_j6⟩, deltaSettles_j7⟩, deltaSettles_j8⟩, deltaSettles_j9⟩, deltaSettles_j10⟩, deltaSettles_j11⟩, deltaSettles_j12⟩, deltaSettles_j13⟩, deltaSettles_j14⟩, deltaSettles_j15⟩, deltaSettles_j16⟩, deltaSettles_j17⟩, deltaSettles_j18⟩, deltaSettles_j19⟩, deltaSettles_j20⟩, deltaSettles_j21⟩, deltaSettles_j22⟩, deltaSettles_j23⟩, deltaSettles_j24⟩, deltaSettles_j25⟩, deltaSettles_j26⟩, deltaSettles_j27⟩, deltaSettles_j28⟩, deltaSettles_j29⟩, deltaSettles_j30⟩, deltaSettles_j31⟩
theorem deltaSettles_said : Rows.DeltaSettlesSaid :=
  OpenClaim.holds_of_wide 4 Tryz.f4 rfl rfl rfl rfl rfl rfl rfl ⟨rfl, rfl, rfl, rfl, rfl⟩ rfl rfl rfl rfl rfl (by kernel_rfl) Tryz.func4 deltaSettles_closed
    (of_decide_eq_true (by kernel_rfl)) (by unfold Func.isWrapper; first | (rw[if_pos (by decide +kernel)]; kernel_rfl) | (rw[if_neg (by decide +kernel)]; exact⟨rfl, rfl⟩))
    (fun os started H enc _ => deltaSettles_lifted os started H enc)
end Go.Proofs.YtjdnjamfgdjncaaGreat

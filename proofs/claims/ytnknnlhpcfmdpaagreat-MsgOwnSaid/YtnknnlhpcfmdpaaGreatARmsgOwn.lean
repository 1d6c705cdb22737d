/- Proved: whatever it is handed, epitaphlaw27.MsgOwn returns true, and what it was handed reads behind the call as it did. Conditions: none. -/
import Derived.Test.YtnknnlhpcfmdpaaGreatRows
import Derived.KernelRfl
import Derived.Test.YtnknnlhpcfmdpaaGreatAMo10
import Derived.Test.YtnknnlhpcfmdpaaGreatAMo12
namespace Go.Proofs.YtnknnlhpcfmdpaaGreat
open Go.Ep Go.ChangeShapes Go.WideShapes Go.RowKit
set_option maxHeartbeats 1000000
set_option maxRecDepth 100000
set_option linter.unusedVariables false
set_option linter.unusedSimpArgs false
theorem Tryz.own : ownKnob Tryz.prog.godebug=none := by kernel_rfl
theorem Tryz.laidOut : laidOutB Tryz.prog=true := by kernel_rfl
theorem msgOwn_lifted (os : Os) (started : os.Started) (H : Type) (enc : TypeId × Value → H) :
    ReturnsInHanded {} Tryz.checked os 3 .any (Rows.msgOwnSpec.pre6 enc Tryz.prog Tryz.f3 Rows.msgOwnRow.domain false) (Rows.msgOwnSpec.post enc Tryz.prog Tryz.f3 false true false false) := by
  refine returnsInHanded_of_change (C := Tryz.checked) Tryz.own started (by kernel_rfl) Tryz.func3
    (ChangeSpec.witness6 (enc := enc) (C := Tryz.checked) false ⟨#[], #[.agg #[.int .u8 0, .int .u8 0, .int .u64 0, .int .u16 0, .int .u64 0, .int .u8 0, .slice none 0 0, .slice none 0 0, .slice none 0 0, .slice none 0 0, .slice none 0 0]], []⟩ 8 (by kernel_rfl) (by kernel_rfl) (by kernel_rfl) (by kernel_rfl)) ?_
  intro W base args ds gs before hval0 hW hcnd _
  have hval : ∀ (j : Nat) t v, Tryz.f3.params[j]?=some t → args[j]?=some v → Value.okWide Tryz.prog W .any base t v := hval0
  have hW' := hW
  obtain⟨p, q, hA0, hV, rfl, hfz, hnd⟩ := hW
  have hA : DataW.TrodAll enc Tryz.prog W 0 (fun _ => true) true Tryz.f3.params.toList args.toList ds p := hA0
  rw[Tryz.params3] at hA hval
  obtain⟨v0, d0, rfl, rfl, hx0⟩ := trodAll_one hA
  obtain⟨us0, rfl⟩ : ∃ us, v0=.agg us := by
    have h := hval 0 30 v0 rfl rfl
    simp only[Value.okWide, Tryz.underlying30] at h
    obtain⟨cs, h, _⟩ := h
    exact⟨cs, h⟩
  obtain⟨a0, h0, hr0, hz0⟩ := Opn.argAgg opnTMsg hx0
  have hlaw : (l27_MsgOwn a0).wp (·=true) := by rw[M.F.msgOwn_eq a0 (by have k0 := okU8 h0.1; have k1 := okU8 h0.2.1; have k3 := okU16 h0.2.2.2.1; have k5 := okU8 h0.2.2.2.2.2.1; exact⟨⟨k0.1, by omega⟩, ⟨k1.1, by omega⟩, ⟨k3.1, by omega⟩, ⟨k5.1, by omega⟩, (fun p hp => by have := okU16 (h0.2.2.2.2.2.2.1.2 p hp).1; omega), (fun p hp => by have := okU16 (h0.2.2.2.2.2.2.2.1.2 p hp).1; omega), (fun p hp => by have := okU16 (h0.2.2.2.2.2.2.2.2.1.2 p hp).1; omega), (fun p hp => by have := okU16 (h0.2.2.2.2.2.2.2.2.2.1.2 p hp).1; omega), (fun e he ht => by have h := h0.2.2.2.2.2.2.2.2.2.2.2 e he; have h1 := okU8 h.2.1; have h2 := okU64 h.2.2.1; have h3 := okU8 h.2.2.2.1; have hd1 := okU16 h.1.1; have hd2 := okU64 h.1.2; exact⟨⟨hd1.1, by omega, hd2.1, by omega⟩, ⟨h1.1, by omega⟩, ⟨h2.1, by omega⟩, ⟨h3.1, by omega⟩, by omega, (fun d hd => by have g := h.2.2.2.2.2.2 d hd; have g1 := okU16 g.1; have g2 := okU64 g.2; exact⟨g1.1, by omega, g2.1, by omega⟩), by omega⟩)⟩)]; rfl
  refine(l27_MsgOwn_ok a0 true hlaw W All [.agg us0] rfl (by
    intro i p v hp hv
    match i with
    | 0 => cases hp; cases hv; exact hr0
    | _+1 => cases hp)).mono fun e W' ⟨u, he, hbl, hru⟩ => ?_
  rw[hru.of_v] at he
  exact⟨_, he, post_true Tryz.laidOut hW' rfl (fun ds h => by
    match ds, h with
    | [_], _ => exact⟨rfl, rfl, rfl⟩) rfl Tryz.underlying4 (by
    intro t ht
    rw[Tryz.params3] at ht
    simp only[List.mem_cons, List.not_mem_nil, or_false] at ht
    subst ht
    exact⟨by kernel_rfl, of_decide_eq_true (by kernel_rfl)⟩) hbl⟩
theorem msgOwn_j0 : Rows.msgOwnRow.wf (OpenSpec.ofChange Rows.msgOwnSpec)=true := by kernel_rfl
theorem msgOwn_j1 : laidOutB Tryz.prog=true := by kernel_rfl
theorem msgOwn_j2 : mapsRowed Tryz.prog=true := by kernel_rfl
theorem msgOwn_j3 : Tryz.f3.params.all (Tryz.prog.readableRec ·)=true := by kernel_rfl
theorem msgOwn_j4 : namedTie Tryz.prog Rows.msgOwnRow.named Rows.msgOwnSpec.vars=true := by kernel_rfl
theorem msgOwn_j5 : (Rows.msgOwnRow.stops==[])=true := by kernel_rfl
theorem msgOwn_j6 : (Tryz.prog.stops==[])=true := by kernel_rfl
theorem msgOwn_j7 : (Rows.msgOwnRow.knobs==[])=true := by kernel_rfl
theorem msgOwn_j8 : (Tryz.prog.stopKnobs==[])=true := by kernel_rfl
theorem msgOwn_j9 : (Rows.msgOwnRow.inPlace==Tryz.prog.inPlace 3)=true := by kernel_rfl
theorem msgOwn_j10 : (Rows.msgOwnRow.unfollowed==Tryz.prog.unfollowed 3)=true := by kernel_rfl
theorem msgOwn_j11 : (Rows.msgOwnRow.recurses==Tryz.prog.recurses 3)=true := by kernel_rfl
theorem msgOwn_j12 : (Rows.msgOwnRow.named==Tryz.prog.varsNamed 3)=true := by kernel_rfl
theorem msgOwn_j13 : (Rows.msgOwnRow.maps==(Tryz.f3.params.toList++Rows.msgOwnSpec.plain.varTypes Tryz.prog).any (Tryz.prog.mapsRec ·))=true := by kernel_rfl
theorem msgOwn_j14 : (Rows.msgOwnRow.ifaces==(Tryz.f3.params.toList++Rows.msgOwnSpec.plain.varTypes Tryz.prog).any (Tryz.prog.ifacesRec ·))=true := by kernel_rfl
theorem msgOwn_j15 : (Rows.msgOwnRow.mapsOut==Tryz.prog.mapsAmong Tryz.f3.resultTypes.toList)=true := by kernel_rfl
theorem msgOwn_j16 : (Rows.msgOwnRow.loops==(Tryz.f3.params.toList++Rows.msgOwnSpec.plain.varTypes Tryz.prog).any (Tryz.prog.loopsFrom ·))=true := by kernel_rfl
theorem msgOwn_j17 : (Rows.msgOwnRow.wideKeys==(Tryz.f3.params.toList++Rows.msgOwnSpec.plain.varTypes Tryz.prog++Tryz.f3.resultTypes.toList).any (Tryz.prog.wideKeysFrom ·))=true := by kernel_rfl
theorem msgOwn_j18 : Rows.msgOwnSpec.vars.all (Tryz.prog.varReadable ·)=true := by kernel_rfl
theorem msgOwn_j19 : Tryz.f3.resultTypes.all (fun t => Tryz.prog.readableRec t&&decide (t < Tryz.prog.types.size))=true := by kernel_rfl
theorem msgOwn_j20 : (Rows.msgOwnRow.ifacesOut==Tryz.f3.resultTypes.toList.any (Tryz.prog.ifacesRec ·))=true := by kernel_rfl
theorem msgOwn_j21 : (Rows.msgOwnRow.loopsOut==Tryz.f3.resultTypes.toList.any (Tryz.prog.loopsFrom ·))=true := by kernel_rfl
theorem msgOwn_j22 : (Rows.msgOwnRow.plainKeys==Tryz.prog.plainKeys)=true := by kernel_rfl
theorem msgOwn_j23 : Rows.msgOwnRow.shortTexts.isNone=true := by kernel_rfl
theorem msgOwn_j24 : Tryz.prog.stopsHeard=true := by kernel_rfl
theorem msgOwn_j25 : Tryz.prog.mayEnter=true := by kernel_rfl
theorem msgOwn_j26 : (Rows.msgOwnRow.lifted==Tryz.prog.liftsFinal)=true := by kernel_rfl
theorem msgOwn_j27 : (Tryz.prog.make==some Rows.msgOwnRow.make)=true := by kernel_rfl
theorem msgOwn_j28 : (Rows.msgOwnRow.kinds==(if Rows.msgOwnRow.domain.isEmpty then [] else Tryz.f3.params.toList.map fun t => match Tryz.prog.underlying t with | some (.int k) => some k | _ => none))=true := by kernel_rfl
theorem msgOwn_j29 : (Rows.msgOwnRow.pinned==Rows.msgOwnRow.pinnedBy)=true := by kernel_rfl
theorem msgOwn_j30 : (Rows.msgOwnRow.veiled==(Tryz.f3.params.toList++Rows.msgOwnSpec.plain.varTypes Tryz.prog++Tryz.f3.resultTypes.toList).any (Tryz.prog.veiledRec ·))=true := by kernel_rfl
theorem msgOwn_j31 : Rows.msgOwnRow.veiledFits Tryz.prog Tryz.f3.params.toList (Tryz.f3.params.toList++Rows.msgOwnSpec.plain.varTypes Tryz.prog++Tryz.f3.resultTypes.toList)=true := by kernel_rfl
theorem msgOwn_closed : joinedFacts Tryz.prog 3 Tryz.f3 Rows.msgOwnSpec Rows.msgOwnRow=true := by
  unfold joinedFacts
  simp only[Bool.and_eq_true]
  exact⟨⟨⟨⟨⟨⟨⟨⟨⟨⟨⟨⟨⟨⟨⟨⟨⟨⟨⟨⟨⟨⟨⟨⟨⟨⟨⟨⟨⟨⟨⟨msgOwn_j0, msgOwn_j1⟩, msgOwn_j2⟩, msgOwn_j3⟩, msgOwn_j4⟩, msgOwn_j5⟩, msgOwn_j6⟩, msgOwn_j7⟩, msgOwn_j8⟩, msgOwn_j9⟩, msgOwn_j10⟩, msgOwn_j11⟩, msgOwn_j12⟩, msgOwn_j13⟩, msgOwn_j14⟩, msgOwn_j15⟩, msgOwn_j16⟩, msgOwn_j17⟩, msgOwn_j18⟩, msgOwn_j19⟩, msgOwn_j20⟩, msgOwn_j21⟩, msgOwn_j22⟩, msgOwn_j23⟩, msgOwn_j24⟩, msgOwn_j25⟩, msgOwn_j26⟩, msgOwn_j27⟩, msgOwn_j28⟩, msgOwn_j29⟩, msgOwn_j30⟩, msgOwn_j31⟩
theorem msgOwn_said : Rows.MsgOwnSaid :=
  OpenClaim.holds_of_wide 3 Tryz.f3 rfl rfl rfl rfl rfl rfl rfl ⟨rfl, rfl, rfl, rfl, rfl⟩ rfl rfl rfl rfl rfl (by kernel_rfl) Tryz.func3 msgOwn_closed
    (of_decide_eq_true (by kernel_rfl)) (by unfold Func.isWrapper; first | (rw[if_pos (by decide +kernel)]; kernel_rfl) | (rw[if_neg (by decide +kernel)]; exact⟨rfl, rfl⟩))
    (fun os started H enc _ => msgOwn_lifted os started H enc)
end Go.Proofs.YtnknnlhpcfmdpaaGreat

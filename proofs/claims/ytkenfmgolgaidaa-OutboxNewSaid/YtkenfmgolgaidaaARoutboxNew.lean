/- Proved: whatever it is handed, epitaphlaw29.OutboxNew returns true, and what it was handed reads behind the call as it did. Conditions: none. -/
import Derived.Test.YtkenfmgolgaidaaRows
import Derived.KernelRfl
import Derived.Test.YtkenfmgolgaidaaADs6
import Derived.Test.YtkenfmgolgaidaaADs7
namespace Go.Proofs.Ytkenfmgolgaidaa
open Go.Ep Go.ChangeShapes Go.WideShapes Go.RowKit
set_option maxHeartbeats 1000000
set_option maxRecDepth 100000
set_option linter.unusedVariables false
set_option linter.unusedSimpArgs false
theorem Try.own : ownKnob Try.prog.godebug=none := by kernel_rfl
theorem Try.laidOut : laidOutB Try.prog=true := by kernel_rfl
theorem outboxNew_lifted (os : Os) (started : os.Started) (H : Type) (enc : TypeId × Value → H) :
    ReturnsInHanded {} Try.checked os 3 .any (Rows.outboxNewSpec.pre6 enc Try.prog Try.f3 Rows.outboxNewRow.domain false) (Rows.outboxNewSpec.post enc Try.prog Try.f3 false true false false) := by
  refine returnsInHanded_of_change (C := Try.checked) Try.own started (by kernel_rfl) Try.func3
    (ChangeSpec.witness6 (enc := enc) (C := Try.checked) false ⟨#[], #[.slice none 0 0, .int .u16 0, .slice none 0 0], []⟩ 8 (by kernel_rfl) (by kernel_rfl) (by kernel_rfl) (by kernel_rfl)) ?_
  intro W base args ds gs before hval0 hW hcnd _
  have hval : ∀ (j : Nat) t v, Try.f3.params[j]?=some t → args[j]?=some v → Value.okWide Try.prog W .any base t v := hval0
  have hW' := hW
  obtain⟨p, q, hA0, hV, rfl, hfz, hnd⟩ := hW
  have hA : DataW.TrodAll enc Try.prog W 0 (fun _ => true) true Try.f3.params.toList args.toList ds p := hA0
  rw[Try.params3] at hA hval
  obtain⟨v0, v1, v2, d0, d1, d2, p0, p1, p2, rfl, rfl, rfl, hx0, hx1, hx2⟩ := trodAll_three hA
  have ho0 : v0.oneCell'=true := by
    have h := hval 0 22 v0 rfl rfl
    simp only[Value.okWide, Try.underlying22, Cell.okWide] at h
    cases v0 <;> simp_all [Cell.ok, Value.oneCell']
  obtain⟨a0, h0, hr0, hz0⟩ := Opn.arg (opnTEvent.slice Try.underlying22 (by kernel_rfl) (by decide)) hx0 ho0
  have ho1 : v1.oneCell'=true := by
    have h := hval 1 23 v1 rfl rfl
    simp only[Value.okWide, Try.underlying23, Cell.okWide] at h
    cases v1 <;> simp_all [Cell.ok, Value.oneCell']
  obtain⟨a1, h1, hr1, hz1⟩ := Opn.arg (Opn.int Try.underlying23 (by kernel_rfl)) hx1 ho1
  have ho2 : v2.oneCell'=true := by
    have h := hval 2 25 v2 rfl rfl
    simp only[Value.okWide, Try.underlying25, Cell.okWide] at h
    cases v2 <;> simp_all [Cell.ok, Value.oneCell']
  obtain⟨a2, h2, hr2, hz2⟩ := Opn.arg (opnTPart.slice Try.underlying25 (by kernel_rfl) (by decide)) hx2 ho2
  have hlaw : (l29_OutboxNew a0 a1 a2).wp (·=true) := by rw[M.E.outboxNew_eq a0 a1 a2 (fun e he ht => by have h := h0.2 e he; have h1 := okU8 h.2.1; have h2 := okU64 h.2.2.1; have h3 := okU8 h.2.2.2.1; have hd1 := okU16 h.1.1; have hd2 := okU64 h.1.2; exact⟨⟨hd1.1, by omega, hd2.1, by omega⟩, ⟨h1.1, by omega⟩, ⟨h2.1, by omega⟩, ⟨h3.1, by omega⟩, by omega, (fun d hd => by have g := h.2.2.2.2.2.2 d hd; have g1 := okU16 g.1; have g2 := okU64 g.2; exact⟨g1.1, by omega, g2.1, by omega⟩), by omega⟩) (by have := okU16 h1; omega) (fun p hp => by have := okU16 (h2.2 p hp).1; omega)]; rfl
  refine(l29_OutboxNew_ok a0 a1 a2 true hlaw W All [v0, v1, v2] rfl (by
    intro i p v hp hv
    match i with
    | 0 => cases hp; cases hv; exact hr0
    | 1 => cases hp; cases hv; exact hr1
    | 2 => cases hp; cases hv; exact hr2
    | _+3 => cases hp)).mono fun e W' ⟨u, he, hbl, hru⟩ => ?_
  rw[hru.of_v] at he
  exact⟨_, he, post_true Try.laidOut hW' rfl (fun ds h => by
    match ds, h with
    | [_, _, _], _ => exact⟨rfl, rfl, rfl⟩) rfl Try.underlying4 (by
    intro t ht
    rw[Try.params3] at ht
    simp only[List.mem_cons, List.not_mem_nil, or_false] at ht
    rcases ht with rfl | rfl | rfl
    all_goals exact⟨by kernel_rfl, of_decide_eq_true (by kernel_rfl)⟩) hbl⟩
theorem outboxNew_j0 : Rows.outboxNewRow.wf (OpenSpec.ofChange Rows.outboxNewSpec)=true := by kernel_rfl
theorem outboxNew_j1 : laidOutB Try.prog=true := by kernel_rfl
theorem outboxNew_j2 : mapsRowed Try.prog=true := by kernel_rfl
theorem outboxNew_j3 : Try.f3.params.all (Try.prog.readableRec ·)=true := by kernel_rfl
theorem outboxNew_j4 : namedTie Try.prog Rows.outboxNewRow.named Rows.outboxNewSpec.vars=true := by kernel_rfl
theorem outboxNew_j5 : (Rows.outboxNewRow.stops==[])=true := by kernel_rfl
theorem outboxNew_j6 : (Try.prog.stops==[])=true := by kernel_rfl
theorem outboxNew_j7 : (Rows.outboxNewRow.knobs==[])=true := by kernel_rfl
theorem outboxNew_j8 : (Try.prog.stopKnobs==[])=true := by kernel_rfl
theorem outboxNew_j9 : (Rows.outboxNewRow.inPlace==Try.prog.inPlace 3)=true := by kernel_rfl
theorem outboxNew_j10 : (Rows.outboxNewRow.unfollowed==Try.prog.unfollowed 3)=true := by kernel_rfl
theorem outboxNew_j11 : (Rows.outboxNewRow.recurses==Try.prog.recurses 3)=true := by kernel_rfl
theorem outboxNew_j12 : (Rows.outboxNewRow.named==Try.prog.varsNamed 3)=true := by kernel_rfl
theorem outboxNew_j13 : (Rows.outboxNewRow.maps==(Try.f3.params.toList++Rows.outboxNewSpec.plain.varTypes Try.prog).any (Try.prog.mapsRec ·))=true := by kernel_rfl
theorem outboxNew_j14 : (Rows.outboxNewRow.ifaces==(Try.f3.params.toList++Rows.outboxNewSpec.plain.varTypes Try.prog).any (Try.prog.ifacesRec ·))=true := by kernel_rfl
theorem outboxNew_j15 : (Rows.outboxNewRow.mapsOut==Try.prog.mapsAmong Try.f3.resultTypes.toList)=true := by kernel_rfl
theorem outboxNew_j16 : (Rows.outboxNewRow.loops==(Try.f3.params.toList++Rows.outboxNewSpec.plain.varTypes Try.prog).any (Try.prog.loopsFrom ·))=true := by kernel_rfl
theorem outboxNew_j17 : (Rows.outboxNewRow.wideKeys==(Try.f3.params.toList++Rows.outboxNewSpec.plain.varTypes Try.prog++Try.f3.resultTypes.toList).any (Try.prog.wideKeysFrom ·))=true := by kernel_rfl
theorem outboxNew_j18 : Rows.outboxNewSpec.vars.all (Try.prog.varReadable ·)=true := by kernel_rfl
theorem outboxNew_j19 : Try.f3.resultTypes.all (fun t => Try.prog.readableRec t&&decide (t < Try.prog.types.size))=true := by kernel_rfl
theorem outboxNew_j20 : (Rows.outboxNewRow.ifacesOut==Try.f3.resultTypes.toList.any (Try.prog.ifacesRec ·))=true := by kernel_rfl
theorem outboxNew_j21 : (Rows.outboxNewRow.loopsOut==Try.f3.resultTypes.toList.any (Try.prog.loopsFrom ·))=true := by kernel_rfl
theorem outboxNew_j22 : (Rows.outboxNewRow.plainKeys==Try.prog.plainKeys)=true := by kernel_rfl
theorem outboxNew_j23 : Rows.outboxNewRow.shortTexts.isNone=true := by kernel_rfl
theorem outboxNew_j24 : Try.prog.stopsHeard=true := by kernel_rfl
theorem outboxNew_j25 : Try.prog.mayEnter=true := by kernel_rfl
theorem outboxNew_j26 : (Rows.outboxNewRow.lifted==Try.prog.liftsFinal)=true := by kernel_rfl
theorem outboxNew_j27 : (Try.prog.make==some Rows.outboxNewRow.make)=true := by kernel_rfl
theorem outboxNew_j28 : (Rows.outboxNewRow.kinds==(if Rows.outboxNewRow.domain.isEmpty then [] else Try.f3.params.toList.map fun t => match Try.prog.underlying t with | some (.int k) => some k | _ => none))=true := by kernel_rfl
theorem outboxNew_j29 : (Rows.outboxNewRow.pinned==Rows.outboxNewRow.pinnedBy)=true := by kernel_rfl
theorem outboxNew_j30 : (Rows.outboxNewRow.veiled==(Try.f3.params.toList++Rows.outboxNewSpec.plain.varTypes Try.prog++Try.f3.resultTypes.toList).any (Try.prog.veiledRec ·))=true := by kernel_rfl
theorem outboxNew_j31 : Rows.outboxNewRow.veiledFits Try.prog Try.f3.params.toList (Try.f3.params.toList++Rows.outboxNewSpec.plain.varTypes Try.prog++Try.f3.resultTypes.toList)=true := by kernel_rfl
theorem outboxNew_closed : joinedFacts Try.prog 3 Try.f3 Rows.outboxNewSpec Rows.outboxNewRow=true := by
  unfold joinedFacts
  simp only[Bool.and_eq_true]
  exact⟨⟨⟨⟨⟨⟨⟨⟨⟨⟨⟨⟨⟨⟨⟨⟨⟨⟨⟨⟨⟨⟨⟨⟨⟨⟨⟨⟨⟨⟨⟨outboxNew_j0, outboxNew_j1⟩, outboxNew_j2⟩, outboxNew_j3⟩, outboxNew_j4⟩, outboxNew_j5⟩, outboxNew_j6⟩, outboxNew_j7⟩, outboxNew_j8⟩, outboxNew_j9⟩, outboxNew_j10⟩, outboxNew_j11⟩, outboxNew_j12⟩, outboxNew_j13⟩, outboxNew_j14⟩, outboxNew_j15⟩, outboxNew_j16⟩, outboxNew_j17⟩, outboxNew_j18⟩, outboxNew_j19⟩, outboxNew_j20⟩, outboxNew_j21⟩, outboxNew_j22⟩, outboxNew_j23⟩, outboxNew_j24⟩, outboxNew_j25⟩, outboxNew_j26⟩, outboxNew_j27⟩, outboxNew_j28⟩, outboxNew_j29⟩, outboxNew_j30⟩, outboxNew_j31⟩
theorem outboxNew_said : Rows.OutboxNewSaid :=
  OpenClaim.holds_of_wide 3 Try.f3 rfl rfl rfl rfl rfl rfl rfl ⟨rfl, rfl, rfl, rfl, rfl⟩ rfl rfl rfl rfl rfl (by kernel_rfl) Try.func3 outboxNew_closed
    (of_decide_eq_true (by kernel_rfl)) (by unfold Func.isWrapper; first | (rw[if_pos (by decide +kernel)]; kernel_rfl) | (rw[if_neg (by decide +kernel)]; exact⟨rfl, rfl⟩))
    (fun os started H enc _ => outboxNew_lifted os started H enc)
end Go.Proofs.Ytkenfmgolgaidaa

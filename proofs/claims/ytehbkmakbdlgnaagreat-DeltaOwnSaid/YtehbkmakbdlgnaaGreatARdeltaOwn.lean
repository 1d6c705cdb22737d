/- Proved: whatever it is handed, epitaphlaw20.DeltaOwn returns true, and what it was handed reads behind the call as it did. Conditions: none. -/
import Derived.Test.YtehbkmakbdlgnaaGreatRows
import Derived.KernelRfl
import Derived.Test.YtehbkmakbdlgnaaGreatADs11
import Derived.Test.YtehbkmakbdlgnaaGreatADs14
namespace Go.Proofs.YtehbkmakbdlgnaaGreat
open Go.Ep Go.ChangeShapes Go.WideShapes Go.RowKit
set_option maxHeartbeats 1000000
set_option maxRecDepth 100000
set_option linter.unusedVariables false
set_option linter.unusedSimpArgs false
theorem Tryz.own : ownKnob Tryz.prog.godebug=none := by kernel_rfl
theorem Tryz.laidOut : laidOutB Tryz.prog=true := by kernel_rfl
theorem deltaOwn_lifted (os : Os) (started : os.Started) (H : Type) (enc : TypeId × Value → H) :
    ReturnsInHanded {} Tryz.checked os 3 .any (Rows.deltaOwnSpec.pre6 enc Tryz.prog Tryz.f3 Rows.deltaOwnRow.domain false) (Rows.deltaOwnSpec.post enc Tryz.prog Tryz.f3 false true false false) := by
  refine returnsInHanded_of_change (C := Tryz.checked) Tryz.own started (by kernel_rfl) Tryz.func3
    (ChangeSpec.witness6 (enc := enc) (C := Tryz.checked) false ⟨#[], #[.slice none 0 0, .slice none 0 0], []⟩ 8 (by kernel_rfl) (by kernel_rfl) (by kernel_rfl) (by kernel_rfl)) ?_
  intro W base args ds gs before hval0 hW hcnd _
  have hval : ∀ (j : Nat) t v, Tryz.f3.params[j]?=some t → args[j]?=some v → Value.okWide Tryz.prog W .any base t v := hval0
  have hW' := hW
  obtain⟨p, q, hA0, hV, rfl, hfz, hnd⟩ := hW
  have hA : DataW.TrodAll enc Tryz.prog W 0 (fun _ => true) true Tryz.f3.params.toList args.toList ds p := hA0
  rw[Tryz.params3] at hA hval
  obtain⟨v0, v1, d0, d1, p0, p1, rfl, rfl, rfl, hx0, hx1⟩ := trodAll_two hA
  have ho0 : v0.oneCell'=true := by
    have h := hval 0 22 v0 rfl rfl
    simp only[Value.okWide, Tryz.underlying22, Cell.okWide] at h
    cases v0 <;> simp_all [Cell.ok, Value.oneCell']
  obtain⟨a0, h0, hr0, hz0⟩ := Opn.arg (opnL18Act.slice Tryz.underlying22 (by kernel_rfl) (by decide)) hx0 ho0
  have ho1 : v1.oneCell'=true := by
    have h := hval 1 24 v1 rfl rfl
    simp only[Value.okWide, Tryz.underlying24, Cell.okWide] at h
    cases v1 <;> simp_all [Cell.ok, Value.oneCell']
  obtain⟨a1, h1, hr1, hz1⟩ := Opn.arg (opnTPart.slice Tryz.underlying24 (by kernel_rfl) (by decide)) hx1 ho1
  have hlaw : (uk a0 a1).wp (·=true) := by exact M.G.xCa a0 a1 (fun a ha => by have g := h0.2 a ha; exact⟨fun ht => (by have h := g.2.1; have h1 := okU8 h.2.1; have h2 := okU64 h.2.2.1; have h3 := okU8 h.2.2.2.1; have hd1 := okU16 h.1.1; have hd2 := okU64 h.1.2; exact⟨⟨hd1.1, by omega, hd2.1, by omega⟩, ⟨h1.1, by omega⟩, ⟨h2.1, by omega⟩, ⟨h3.1, by omega⟩, by omega, (fun d hd => by have g := h.2.2.2.2.2.2 d hd; have g1 := okU16 g.1; have g2 := okU64 g.2; exact⟨g1.1, by omega, g2.1, by omega⟩), by omega⟩), (fun p hp => by have := okU16 (g.2.2.2 p hp).1; omega)⟩) (fun p hp => by have := okU16 (h1.2 p hp).1; omega)
  refine(Uh a0 a1 true hlaw W All [v0, v1] rfl (by
    intro i p v hp hv
    match i with
    | 0 => cases hp; cases hv; exact hr0
    | 1 => cases hp; cases hv; exact hr1
    | _+2 => cases hp)).mono fun e W' ⟨u, he, hbl, hru⟩ => ?_
  rw[hru.of_v] at he
  exact⟨_, he, u0a Tryz.laidOut hW' rfl (fun ds h => by
    match ds, h with
    | [_, _], _ => exact⟨rfl, rfl, rfl⟩) rfl Tryz.underlying4 (by
    intro t ht
    rw[Tryz.params3] at ht
    simp only[List.mem_cons, List.not_mem_nil, or_false] at ht
    rcases ht with rfl | rfl
    all_goals exact⟨by kernel_rfl, of_decide_eq_true (by kernel_rfl)⟩) hbl⟩
theorem deltaOwn_j0 : Rows.deltaOwnRow.wf (OpenSpec.ofChange Rows.deltaOwnSpec)=true := by kernel_rfl
theorem deltaOwn_j1 : laidOutB Tryz.prog=true := by kernel_rfl
theorem deltaOwn_j2 : mapsRowed Tryz.prog=true := by kernel_rfl
theorem deltaOwn_j3 : Tryz.f3.params.all (Tryz.prog.readableRec ·)=true := by kernel_rfl
theorem deltaOwn_j4 : namedTie Tryz.prog Rows.deltaOwnRow.named Rows.deltaOwnSpec.vars=true := by kernel_rfl
theorem deltaOwn_j5 : (Rows.deltaOwnRow.stops==[])=true := by kernel_rfl
theorem deltaOwn_j6 : (Tryz.prog.stops==[])=true := by kernel_rfl
theorem deltaOwn_j7 : (Rows.deltaOwnRow.knobs==[])=true := by kernel_rfl
theorem deltaOwn_j8 : (Tryz.prog.stopKnobs==[])=true := by kernel_rfl
theorem deltaOwn_j9 : (Rows.deltaOwnRow.inPlace==Tryz.prog.inPlace 3)=true := by kernel_rfl
theorem deltaOwn_j10 : (Rows.deltaOwnRow.unfollowed==Tryz.prog.unfollowed 3)=true := by kernel_rfl
theorem deltaOwn_j11 : (Rows.deltaOwnRow.recurses==Tryz.prog.recurses 3)=true := by kernel_rfl
theorem deltaOwn_j12 : (Rows.deltaOwnRow.named==Tryz.prog.varsNamed 3)=true := by kernel_rfl
theorem deltaOwn_j13 : (Rows.deltaOwnRow.maps==(Tryz.f3.params.toList++Rows.deltaOwnSpec.plain.varTypes Tryz.prog).any (Tryz.prog.mapsRec ·))=true := by kernel_rfl
theorem deltaOwn_j14 : (Rows.deltaOwnRow.ifaces==(Tryz.f3.params.toList++Rows.deltaOwnSpec.plain.varTypes Tryz.prog).any (Tryz.prog.ifacesRec ·))=true := by kernel_rfl
theorem deltaOwn_j15 : (Rows.deltaOwnRow.mapsOut==Tryz.prog.mapsAmong Tryz.f3.resultTypes.toList)=true := by kernel_rfl
theorem deltaOwn_j16 : (Rows.deltaOwnRow.loops==(Tryz.f3.params.toList++Rows.deltaOwnSpec.plain.varTypes Tryz.prog).any (Tryz.prog.loopsFrom ·))=true := by kernel_rfl
theorem deltaOwn_j17 : (Rows.deltaOwnRow.wideKeys==(Tryz.f3.params.toList++Rows.deltaOwnSpec.plain.varTypes Tryz.prog++Tryz.f3.resultTypes.toList).any (Tryz.prog.wideKeysFrom ·))=true := by kernel_rfl
theorem deltaOwn_j18 : Rows.deltaOwnSpec.vars.all (Tryz.prog.varReadable ·)=true := by kernel_rfl
theorem deltaOwn_j19 : Tryz.f3.resultTypes.all (fun t => Tryz.prog.readableRec t&&decide (t < Tryz.prog.types.size))=true := by kernel_rfl
theorem deltaOwn_j20 : (Rows.deltaOwnRow.ifacesOut==Tryz.f3.resultTypes.toList.any (Tryz.prog.ifacesRec ·))=true := by kernel_rfl
theorem deltaOwn_j21 : (Rows.deltaOwnRow.loopsOut==Tryz.f3.resultTypes.toList.any (Tryz.prog.loopsFrom ·))=true := by kernel_rfl
theorem deltaOwn_j22 : (Rows.deltaOwnRow.plainKeys==Tryz.prog.plainKeys)=true := by kernel_rfl
theorem deltaOwn_j23 : Rows.deltaOwnRow.shortTexts.isNone=true := by kernel_rfl
theorem deltaOwn_j24 : Tryz.prog.stopsHeard=true := by kernel_rfl
theorem deltaOwn_j25 : Tryz.prog.mayEnter=true := by kernel_rfl
theorem deltaOwn_j26 : (Rows.deltaOwnRow.lifted==Tryz.prog.liftsFinal)=true := by kernel_rfl
theorem deltaOwn_j27 : (Tryz.prog.make==some Rows.deltaOwnRow.make)=true := by kernel_rfl
theorem deltaOwn_j28 : (Rows.deltaOwnRow.kinds==(if Rows.deltaOwnRow.domain.isEmpty then [] else Tryz.f3.params.toList.map fun t => match Tryz.prog.underlying t with | some (.int k) => some k | _ => none))=true := by kernel_rfl
theorem deltaOwn_j29 : (Rows.deltaOwnRow.pinned==Rows.deltaOwnRow.pinnedBy)=true := by kernel_rfl
theorem deltaOwn_j30 : (Rows.deltaOwnRow.veiled==(Tryz.f3.params.toList++Rows.deltaOwnSpec.plain.varTypes Tryz.prog++Tryz.f3.resultTypes.toList).any (Tryz.prog.veiledRec ·))=true := by kernel_rfl
theorem deltaOwn_j31 : Rows.deltaOwnRow.veiledFits Tryz.prog Tryz.f3.params.toList (Tryz.f3.params.toList++Rows.deltaOwnSpec.plain.varTypes Tryz.prog++Tryz.f3.resultTypes.toList)=true := by kernel_rfl
theorem deltaOwn_closed : joinedFacts Tryz.prog 3 Tryz.f3 Rows.deltaOwnSpec Rows.deltaOwnRow=true := by
  unfold joinedFacts
  simp only[Bool.and_eq_true]
  exact⟨⟨⟨⟨⟨⟨⟨⟨⟨⟨⟨⟨⟨⟨⟨⟨⟨⟨⟨⟨⟨⟨⟨⟨⟨⟨⟨⟨⟨⟨⟨deltaOwn_j0, deltaOwn_j1⟩, deltaOwn_j2⟩, deltaOwn_j3⟩, deltaOwn_j4⟩, deltaOwn_j5⟩, deltaOwn_j6⟩, deltaOwn_j7⟩, deltaOwn_j8⟩, deltaOwn_j9⟩, deltaOwn_j10⟩, deltaOwn_j11⟩, deltaOwn_j12⟩, deltaOwn_j13⟩, deltaOwn_j14⟩, deltaOwn_j15⟩, deltaOwn_j16⟩, deltaOwn_j17⟩, deltaOwn_j18⟩, deltaOwn_j19⟩, deltaOwn_j20⟩, deltaOwn_j21⟩, deltaOwn_j22⟩, deltaOwn_j23⟩, deltaOwn_j24⟩, deltaOwn_j25⟩, deltaOwn_j26⟩, deltaOwn_j27⟩, deltaOwn_j28⟩, deltaOwn_j29⟩, deltaOwn_j30⟩, deltaOwn_j31⟩
theorem deltaOwn_said : Rows.DeltaOwnSaid :=
  OpenClaim.holds_of_wide 3 Tryz.f3 rfl rfl rfl rfl rfl rfl rfl ⟨rfl, rfl, rfl, rfl, rfl⟩ rfl rfl rfl rfl rfl (by kernel_rfl) Tryz.func3 deltaOwn_closed
    (of_decide_eq_true (by kernel_rfl)) (by unfold Func.isWrapper; first | (rw[if_pos (by decide +kernel)]; kernel_rfl) | (rw[if_neg (by decide +kernel)]; exact⟨rfl, rfl⟩))
    (fun os started H enc _ => deltaOwn_lifted os started H enc)
end Go.Proofs.YtehbkmakbdlgnaaGreat

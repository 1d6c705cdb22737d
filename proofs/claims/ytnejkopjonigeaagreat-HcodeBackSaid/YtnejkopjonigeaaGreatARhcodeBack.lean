/- Proved: whatever it is handed, epitaphlaw34.HcodeBack returns true, and what it was handed reads behind the call as it did. Conditions: none. -/
import Derived.Test.YtnejkopjonigeaaGreatRows
import Derived.KernelRfl
import Derived.Test.YtnejkopjonigeaaGreatAHb10
import Derived.Test.YtnejkopjonigeaaGreatAHb13
namespace Go.Proofs.YtnejkopjonigeaaGreat
open Go.Ep Go.ChangeShapes Go.WideShapes Go.RowKit
set_option maxHeartbeats 1000000
set_option maxRecDepth 100000
set_option linter.unusedVariables false
set_option linter.unusedSimpArgs false
theorem Tryz.own : ownKnob Tryz.prog.godebug=none := by kernel_rfl
theorem Tryz.laidOut : laidOutB Tryz.prog=true := by kernel_rfl
theorem hcodeBack_lifted (os : Os) (started : os.Started) (H : Type) (enc : TypeId × Value → H) :
    ReturnsInHanded {} Tryz.checked os 5 .any (Rows.hcodeBackSpec.pre6 enc Tryz.prog Tryz.f5 Rows.hcodeBackRow.domain false) (Rows.hcodeBackSpec.post enc Tryz.prog Tryz.f5 false true false false) := by
  refine returnsInHanded_of_change (C := Tryz.checked) Tryz.own started (by kernel_rfl) Tryz.func5
    (ChangeSpec.witness6 (enc := enc) (C := Tryz.checked) false ⟨#[], #[.agg #[.int .u64 0, .int .u16 0, .slice none 0 0, .slice none 0 0, .slice none 0 0, .slice none 0 0, .slice none 0 0], .slice none 0 0], []⟩ 8 (by kernel_rfl) (by kernel_rfl) (by kernel_rfl) (by kernel_rfl)) ?_
  intro W base args ds gs before hval0 hW hcnd _
  have hval : ∀ (j : Nat) t v, Tryz.f5.params[j]?=some t → args[j]?=some v → Value.okWide Tryz.prog W .any base t v := hval0
  have hW' := hW
  obtain⟨p, q, hA0, hV, rfl, hfz, hnd⟩ := hW
  have hA : DataW.TrodAll enc Tryz.prog W 0 (fun _ => true) true Tryz.f5.params.toList args.toList ds p := hA0
  rw[Tryz.params5] at hA hval
  obtain⟨v0, v1, d0, d1, p0, p1, rfl, rfl, rfl, hx0, hx1⟩ := trodAll_two hA
  obtain⟨us0, rfl⟩ : ∃ us, v0=.agg us := by
    have h := hval 0 31 v0 rfl rfl
    simp only[Value.okWide, Tryz.underlying31] at h
    obtain⟨cs, h, _⟩ := h
    exact⟨cs, h⟩
  obtain⟨a0, h0, hr0, hz0⟩ := Opn.argAgg Qa hx0
  have ho1 : v1.oneCell'=true := by
    have h := hval 1 34 v1 rfl rfl
    simp only[Value.okWide, Tryz.underlying34, Cell.okWide] at h
    cases v1 <;> simp_all [Cell.ok, Value.oneCell']
  obtain⟨a1, h1, hr1, hz1⟩ := Opn.arg ((Opn.int Tryz.underlying5 (by kernel_rfl)).slice Tryz.underlying34 (by kernel_rfl) (by decide)) hx1 ho1
  have hlaw : (uF a0 a1).wp (·=true) := by rw[M.Y.hcodeBack_eq a0 a1 ⟨(by have := xfa h0.1; omega), (by have := xga h0.2.1; omega), (fun m hm => by have g := h0.2.2.1.2 m hm; have g1 := xga g.1; have g2 := okU8 g.2.1; have g3 := xfa g.2.2; omega), (fun t ht => by have := xfa (h0.2.2.2.1.2 t ht); omega), (fun r hr p hp => by have := xga ((h0.2.2.2.2.1.2 r hr).2.2 p hp).1; omega), (fun p hp => by have := xga (h0.2.2.2.2.2.1.2 p hp).1; omega), (fun e he ht => by have h := h0.2.2.2.2.2.2.2 e he; have h1 := okU8 h.2.1; have h2 := xfa h.2.2.1; have h3 := okU8 h.2.2.2.1; have hd1 := xga h.1.1; have hd2 := xfa h.1.2; exact⟨⟨hd1.1, by omega, hd2.1, by omega⟩, ⟨h1.1, by omega⟩, ⟨h2.1, by omega⟩, ⟨h3.1, by omega⟩, by omega, (fun d hd => by have g := h.2.2.2.2.2.2 d hd; have g1 := xga g.1; have g2 := xfa g.2; exact⟨g1.1, by omega, g2.1, by omega⟩), by omega⟩)⟩ (fun x hx => by have := okU8 (h1.2 x hx); omega)]; rfl
  refine(VJ a0 a1 true hlaw W All [.agg us0, v1] rfl (by
    intro i p v hp hv
    match i with
    | 0 => cases hp; cases hv; exact hr0
    | 1 => cases hp; cases hv; exact hr1
    | _+2 => cases hp)).mono fun e W' ⟨u, he, hbl, hru⟩ => ?_
  rw[hru.of_v] at he
  exact⟨_, he, vZa Tryz.laidOut hW' rfl (fun ds h => by
    match ds, h with
    | [_, _], _ => exact⟨rfl, rfl, rfl⟩) rfl Tryz.underlying4 (by
    intro t ht
    rw[Tryz.params5] at ht
    simp only[List.mem_cons, List.not_mem_nil, or_false] at ht
    rcases ht with rfl | rfl
    all_goals exact⟨by kernel_rfl, of_decide_eq_true (by kernel_rfl)⟩) hbl⟩
theorem hcodeBack_j0 : Rows.hcodeBackRow.wf (OpenSpec.ofChange Rows.hcodeBackSpec)=true := by kernel_rfl
theorem hcodeBack_j1 : laidOutB Tryz.prog=true := by kernel_rfl
theorem hcodeBack_j2 : mapsRowed Tryz.prog=true := by kernel_rfl
theorem hcodeBack_j3 : Tryz.f5.params.all (Tryz.prog.readableRec ·)=true := by kernel_rfl
theorem hcodeBack_j4 : namedTie Tryz.prog Rows.hcodeBackRow.named Rows.hcodeBackSpec.vars=true := by kernel_rfl
theorem hcodeBack_j5 : (Rows.hcodeBackRow.stops==[])=true := by kernel_rfl
theorem hcodeBack_j6 : (Tryz.prog.stops==[])=true := by kernel_rfl
theorem hcodeBack_j7 : (Rows.hcodeBackRow.knobs==[])=true := by kernel_rfl
theorem hcodeBack_j8 : (Tryz.prog.stopKnobs==[])=true := by kernel_rfl
theorem hcodeBack_j9 : (Rows.hcodeBackRow.inPlace==Tryz.prog.inPlace 5)=true := by kernel_rfl
theorem hcodeBack_j10 : (Rows.hcodeBackRow.unfollowed==Tryz.prog.unfollowed 5)=true := by kernel_rfl
theorem hcodeBack_j11 : (Rows.hcodeBackRow.recurses==Tryz.prog.recurses 5)=true := by kernel_rfl
theorem hcodeBack_j12 : (Rows.hcodeBackRow.named==Tryz.prog.varsNamed 5)=true := by kernel_rfl
theorem hcodeBack_j13 : (Rows.hcodeBackRow.maps==(Tryz.f5.params.toList++Rows.hcodeBackSpec.plain.varTypes Tryz.prog).any (Tryz.prog.mapsRec ·))=true := by kernel_rfl
theorem hcodeBack_j14 : (Rows.hcodeBackRow.ifaces==(Tryz.f5.params.toList++Rows.hcodeBackSpec.plain.varTypes Tryz.prog).any (Tryz.prog.ifacesRec ·))=true := by kernel_rfl
theorem hcodeBack_j15 : (Rows.hcodeBackRow.mapsOut==Tryz.prog.mapsAmong Tryz.f5.resultTypes.toList)=true := by kernel_rfl
theorem hcodeBack_j16 : (Rows.hcodeBackRow.loops==(Tryz.f5.params.toList++Rows.hcodeBackSpec.plain.varTypes Tryz.prog).any (Tryz.prog.loopsFrom ·))=true := by kernel_rfl
theorem hcodeBack_j17 : (Rows.hcodeBackRow.wideKeys==(Tryz.f5.params.toList++Rows.hcodeBackSpec.plain.varTypes Tryz.prog++Tryz.f5.resultTypes.toList).any (Tryz.prog.wideKeysFrom ·))=true := by kernel_rfl
theorem hcodeBack_j18 : Rows.hcodeBackSpec.vars.all (Tryz.prog.varReadable ·)=true := by kernel_rfl
theorem hcodeBack_j19 : Tryz.f5.resultTypes.all (fun t => Tryz.prog.readableRec t&&decide (t < Tryz.prog.types.size))=true := by kernel_rfl
theorem hcodeBack_j20 : (Rows.hcodeBackRow.ifacesOut==Tryz.f5.resultTypes.toList.any (Tryz.prog.ifacesRec ·))=true := by kernel_rfl
theorem hcodeBack_j21 : (Rows.hcodeBackRow.loopsOut==Tryz.f5.resultTypes.toList.any (Tryz.prog.loopsFrom ·))=true := by kernel_rfl
theorem hcodeBack_j22 : (Rows.hcodeBackRow.plainKeys==Tryz.prog.plainKeys)=true := by kernel_rfl
theorem hcodeBack_j23 : Rows.hcodeBackRow.shortTexts.isNone=true := by kernel_rfl
theorem hcodeBack_j24 : Tryz.prog.stopsHeard=true := by kernel_rfl
theorem hcodeBack_j25 : Tryz.prog.mayEnter=true := by kernel_rfl
theorem hcodeBack_j26 : (Rows.hcodeBackRow.lifted==Tryz.prog.liftsFinal)=true := by kernel_rfl
theorem hcodeBack_j27 : (Tryz.prog.make==some Rows.hcodeBackRow.make)=true := by kernel_rfl
theorem hcodeBack_j28 : (Rows.hcodeBackRow.kinds==(if Rows.hcodeBackRow.domain.isEmpty then [] else Tryz.f5.params.toList.map fun t => match Tryz.prog.underlying t with | some (.int k) => some k | _ => none))=true := by kernel_rfl
theorem hcodeBack_j29 : (Rows.hcodeBackRow.pinned==Rows.hcodeBackRow.pinnedBy)=true := by kernel_rfl
theorem hcodeBack_j30 : (Rows.hcodeBackRow.veiled==(Tryz.f5.params.toList++Rows.hcodeBackSpec.plain.varTypes Tryz.prog++Tryz.f5.resultTypes.toList).any (Tryz.prog.veiledRec ·))=true := by kernel_rfl
theorem hcodeBack_j31 : Rows.hcodeBackRow.veiledFits Tryz.prog Tryz.f5.params.toList (Tryz.f5.params.toList++Rows.hcodeBackSpec.plain.varTypes Tryz.prog++Tryz.f5.resultTypes.toList)=true := by kernel_rfl
theorem hcodeBack_closed : joinedFacts Tryz.prog 5 Tryz.f5 Rows.hcodeBackSpec Rows.hcodeBackRow=true := by
  unfold joinedFacts
  simp only[Bool.and_eq_true]
  exact⟨⟨⟨⟨⟨⟨⟨⟨⟨⟨⟨⟨⟨⟨⟨⟨⟨⟨⟨⟨⟨⟨⟨⟨⟨⟨⟨⟨⟨⟨⟨hcodeBack_j0, hcodeBack_j1⟩, hcodeBack_j2⟩, hcodeBack_j3⟩, hcodeBack_j4⟩, hcodeBack_j5⟩, hcodeBack_j6⟩, hcodeBack_j7⟩, hcodeBack_j8⟩, hcodeBack_j9⟩, hcodeBack_j10⟩, hcodeBack_j11⟩, hcodeBack_j12⟩, hcodeBack_j13⟩, hcodeBack_j14⟩, hcodeBack_j15⟩, hcodeBack_j16⟩, hcodeBack_j17⟩, hcodeBack_j18⟩, hcodeBack_j19⟩, hcodeBack_j20⟩, hcodeBack_j21⟩, hcodeBack_j22⟩, hcodeBack_j23⟩, hcodeBack_j24⟩, hcodeBack_j25⟩, hcodeBack_j26⟩, hcodeBack_j27⟩, hcodeBack_j28⟩, hcodeBack_j29⟩, hcodeBack_j30⟩, hcodeBack_j31⟩
theorem hcodeBack_said : Rows.HcodeBackSaid :=
  OpenClaim.holds_of_wide 5 Tryz.f5 rfl rfl rfl rfl rfl rfl rfl ⟨rfl, rfl, rfl, rfl, rfl⟩ rfl rfl rfl rfl rfl (by kernel_rfl) Tryz.func5 hcodeBack_closed
    (of_decide_eq_true (by kernel_rfl)) (by unfold Func.isWrapper; first | (rw[if_pos (by decide +kernel)]; kernel_rfl) | (rw[if_neg (by decide +kernel)]; exact⟨rfl, rfl⟩))
    (fun os started H enc _ => hcodeBack_lifted os started H enc)
end Go.Proofs.YtnejkopjonigeaaGreat

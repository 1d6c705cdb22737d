/- Proved: whatever it is handed, epitaphlaw34.HcodePuts returns true, and what it was handed reads behind the call as it did. Conditions: none. -/
import Derived.Test.YtnejkopjonigeaaGreatRows
import Derived.KernelRfl
import Derived.Test.YtnejkopjonigeaaGreatAHp10
import Derived.Test.YtnejkopjonigeaaGreatAHp13
namespace Go.Proofs.YtnejkopjonigeaaGreat
open Go.Ep Go.ChangeShapes Go.WideShapes Go.RowKit
set_option maxHeartbeats 1000000
set_option maxRecDepth 100000
set_option linter.unusedVariables false
set_option linter.unusedSimpArgs false
theorem Tryz.own : ownKnob Tryz.prog.godebug=none := by kernel_rfl
theorem Tryz.laidOut : laidOutB Tryz.prog=true := by kernel_rfl
theorem hcodePuts_lifted (os : Os) (started : os.Started) (H : Type) (enc : TypeId × Value → H) :
    ReturnsInHanded {} Tryz.checked os 3 .any (Rows.hcodePutsSpec.pre6 enc Tryz.prog Tryz.f3 Rows.hcodePutsRow.domain false) (Rows.hcodePutsSpec.post enc Tryz.prog Tryz.f3 false true false false) := by
  refine returnsInHanded_of_change (C := Tryz.checked) Tryz.own started (by kernel_rfl) Tryz.func3
    (ChangeSpec.witness6 (enc := enc) (C := Tryz.checked) false ⟨#[], #[.agg #[.int .u64 0, .int .u16 0, .slice none 0 0, .slice none 0 0, .slice none 0 0, .slice none 0 0, .slice none 0 0]], []⟩ 8 (by kernel_rfl) (by kernel_rfl) (by kernel_rfl) (by kernel_rfl)) ?_
  intro W base args ds gs before hval0 hW hcnd _
  have hval : ∀ (j : Nat) t v, Tryz.f3.params[j]?=some t → args[j]?=some v → Value.okWide Tryz.prog W .any base t v := hval0
  have hW' := hW
  obtain⟨p, q, hA0, hV, rfl, hfz, hnd⟩ := hW
  have hA : DataW.TrodAll enc Tryz.prog W 0 (fun _ => true) true Tryz.f3.params.toList args.toList ds p := hA0
  rw[Tryz.params3] at hA hval
  obtain⟨v0, d0, rfl, rfl, hx0⟩ := trodAll_one hA
  obtain⟨us0, rfl⟩ : ∃ us, v0=.agg us := by
    have h := hval 0 31 v0 rfl rfl
    simp only[Value.okWide, Tryz.underlying31] at h
    obtain⟨cs, h, _⟩ := h
    exact⟨cs, h⟩
  obtain⟨a0, h0, hr0, hz0⟩ := Opn.argAgg zOa hx0
  have hlaw : (vz a0).wp (·=true) := by rw[M.Y.hcodePuts_eq a0 ⟨(by have := wLa h0.1; omega), (by have := wMa h0.2.1; omega), (fun m hm => by have g := h0.2.2.1.2 m hm; have g1 := wMa g.1; have g2 := okU8 g.2.1; have g3 := wLa g.2.2; omega), (fun t ht => by have := wLa (h0.2.2.2.1.2 t ht); omega), (fun r hr p hp => by have := wMa ((h0.2.2.2.2.1.2 r hr).2.2 p hp).1; omega), (fun p hp => by have := wMa (h0.2.2.2.2.2.1.2 p hp).1; omega), (fun e he ht => by have h := h0.2.2.2.2.2.2.2 e he; have h1 := okU8 h.2.1; have h2 := wLa h.2.2.1; have h3 := okU8 h.2.2.2.1; have hd1 := wMa h.1.1; have hd2 := wLa h.1.2; exact⟨⟨hd1.1, by omega, hd2.1, by omega⟩, ⟨h1.1, by omega⟩, ⟨h2.1, by omega⟩, ⟨h3.1, by omega⟩, by omega, (fun d hd => by have g := h.2.2.2.2.2.2 d hd; have g1 := wMa g.1; have g2 := wLa g.2; exact⟨g1.1, by omega, g2.1, by omega⟩), by omega⟩)⟩]; rfl
  refine(Vm a0 true hlaw W All [.agg us0] rfl (by
    intro i p v hp hv
    match i with
    | 0 => cases hp; cases hv; exact hr0
    | _+1 => cases hp)).mono fun e W' ⟨u, he, hbl, hru⟩ => ?_
  rw[hru.of_v] at he
  exact⟨_, he, uFa Tryz.laidOut hW' rfl (fun ds h => by
    match ds, h with
    | [_], _ => exact⟨rfl, rfl, rfl⟩) rfl Tryz.underlying4 (by
    intro t ht
    rw[Tryz.params3] at ht
    simp only[List.mem_cons, List.not_mem_nil, or_false] at ht
    subst ht
    exact⟨by kernel_rfl, of_decide_eq_true (by kernel_rfl)⟩) hbl⟩
theorem hcodePuts_j0 : Rows.hcodePutsRow.wf (OpenSpec.ofChange Rows.hcodePutsSpec)=true := by kernel_rfl
theorem hcodePuts_j1 : laidOutB Tryz.prog=true := by kernel_rfl
theorem hcodePuts_j2 : mapsRowed Tryz.prog=true := by kernel_rfl
theorem hcodePuts_j3 : Tryz.f3.params.all (Tryz.prog.readableRec ·)=true := by kernel_rfl
theorem hcodePuts_j4 : namedTie Tryz.prog Rows.hcodePutsRow.named Rows.hcodePutsSpec.vars=true := by kernel_rfl
theorem hcodePuts_j5 : (Rows.hcodePutsRow.stops==[])=true := by kernel_rfl
theorem hcodePuts_j6 : (Tryz.prog.stops==[])=true := by kernel_rfl
theorem hcodePuts_j7 : (Rows.hcodePutsRow.knobs==[])=true := by kernel_rfl
theorem hcodePuts_j8 : (Tryz.prog.stopKnobs==[])=true := by kernel_rfl
theorem hcodePuts_j9 : (Rows.hcodePutsRow.inPlace==Tryz.prog.inPlace 3)=true := by kernel_rfl
theorem hcodePuts_j10 : (Rows.hcodePutsRow.unfollowed==Tryz.prog.unfollowed 3)=true := by kernel_rfl
theorem hcodePuts_j11 : (Rows.hcodePutsRow.recurses==Tryz.prog.recurses 3)=true := by kernel_rfl
theorem hcodePuts_j12 : (Rows.hcodePutsRow.named==Tryz.prog.varsNamed 3)=true := by kernel_rfl
theorem hcodePuts_j13 : (Rows.hcodePutsRow.maps==(Tryz.f3.params.toList++Rows.hcodePutsSpec.plain.varTypes Tryz.prog).any (Tryz.prog.mapsRec ·))=true := by kernel_rfl
theorem hcodePuts_j14 : (Rows.hcodePutsRow.ifaces==(Tryz.f3.params.toList++Rows.hcodePutsSpec.plain.varTypes Tryz.prog).any (Tryz.prog.ifacesRec ·))=true := by kernel_rfl
theorem hcodePuts_j15 : (Rows.hcodePutsRow.mapsOut==Tryz.prog.mapsAmong Tryz.f3.resultTypes.toList)=true := by kernel_rfl
theorem hcodePuts_j16 : (Rows.hcodePutsRow.loops==(Tryz.f3.params.toList++Rows.hcodePutsSpec.plain.varTypes Tryz.prog).any (Tryz.prog.loopsFrom ·))=true := by kernel_rfl
theorem hcodePuts_j17 : (Rows.hcodePutsRow.wideKeys==(Tryz.f3.params.toList++Rows.hcodePutsSpec.plain.varTypes Tryz.prog++Tryz.f3.resultTypes.toList).any (Tryz.prog.wideKeysFrom ·))=true := by kernel_rfl
theorem hcodePuts_j18 : Rows.hcodePutsSpec.vars.all (Tryz.prog.varReadable ·)=true := by kernel_rfl
theorem hcodePuts_j19 : Tryz.f3.resultTypes.all (fun t => Tryz.prog.readableRec t&&decide (t < Tryz.prog.types.size))=true := by kernel_rfl
theorem hcodePuts_j20 : (Rows.hcodePutsRow.ifacesOut==Tryz.f3.resultTypes.toList.any (Tryz.prog.ifacesRec ·))=true := by kernel_rfl
theorem hcodePuts_j21 : (Rows.hcodePutsRow.loopsOut==Tryz.f3.resultTypes.toList.any (Tryz.prog.loopsFrom ·))=true := by kernel_rfl
theorem hcodePuts_j22 : (Rows.hcodePutsRow.plainKeys==Tryz.prog.plainKeys)=true := by kernel_rfl
theorem hcodePuts_j23 : Rows.hcodePutsRow.shortTexts.isNone=true := by kernel_rfl
theorem hcodePuts_j24 : Tryz.prog.stopsHeard=true := by kernel_rfl
theorem hcodePuts_j25 : Tryz.prog.mayEnter=true := by kernel_rfl
theorem hcodePuts_j26 : (Rows.hcodePutsRow.lifted==Tryz.prog.liftsFinal)=true := by kernel_rfl
theorem hcodePuts_j27 : (Tryz.prog.make==some Rows.hcodePutsRow.make)=true := by kernel_rfl
theorem hcodePuts_j28 : (Rows.hcodePutsRow.kinds==(if Rows.hcodePutsRow.domain.isEmpty then [] else Tryz.f3.params.toList.map fun t => match Tryz.prog.underlying t with | some (.int k) => some k | _ => none))=true := by kernel_rfl
theorem hcodePuts_j29 : (Rows.hcodePutsRow.pinned==Rows.hcodePutsRow.pinnedBy)=true := by kernel_rfl
theorem hcodePuts_j30 : (Rows.hcodePutsRow.veiled==(Tryz.f3.params.toList++Rows.hcodePutsSpec.plain.varTypes Tryz.prog++Tryz.f3.resultTypes.toList).any (Tryz.prog.veiledRec ·))=true := by kernel_rfl
theorem hcodePuts_j31 : Rows.hcodePutsRow.veiledFits Tryz.prog Tryz.f3.params.toList (Tryz.f3.params.toList++Rows.hcodePutsSpec.plain.varTypes Tryz.prog++Tryz.f3.resultTypes.toList)=true := by kernel_rfl
theorem hcodePuts_closed : joinedFacts Tryz.prog 3 Tryz.f3 Rows.hcodePutsSpec Rows.hcodePutsRow=true := by
  unfold joinedFacts
  simp only[Bool.and_eq_true]
  exact⟨⟨⟨⟨⟨⟨⟨⟨⟨⟨⟨⟨⟨⟨⟨⟨⟨⟨⟨⟨⟨⟨⟨⟨⟨⟨⟨⟨⟨⟨⟨hcodePuts_j0, hcodePuts_j1⟩, hcodePuts_j2⟩, hcodePuts_j3⟩, hcodePuts_j4⟩, hcodePuts_j5⟩, hcodePuts_j6⟩, hcodePuts_j7⟩, hcodePuts_j8⟩, hcodePuts_j9⟩, hcodePuts_j10⟩, hcodePuts_j11⟩, hcodePuts_j12⟩, hcodePuts_j13⟩, hcodePuts_j14⟩, hcodePuts_j15⟩, hcodePuts_j16⟩, hcodePuts_j17⟩, hcodePuts_j18⟩, hcodePuts_j19⟩, hcodePuts_j20⟩, hcodePuts_j21⟩, hcodePuts_j22⟩, hcodePuts_j23⟩, hcodePuts_j24⟩, hcodePuts_j25⟩, hcodePuts_j26⟩, hcodePuts_j27⟩, hcodePuts_j28⟩, hcodePuts_j29⟩, hcodePuts_j30⟩, hcodePuts_j31⟩
theorem hcodePuts_said : Rows.HcodePutsSaid :=
  OpenClaim.holds_of_wide 3 Tryz.f3 rfl rfl rfl rfl rfl rfl rfl ⟨rfl, rfl, rfl, rfl, rfl⟩ rfl rfl rfl rfl rfl (by kernel_rfl) Tryz.func3 hcodePuts_closed
    (of_decide_eq_true (by kernel_rfl)) (by unfold Func.isWrapper; first | (rw[if_pos (by decide +kernel)]; kernel_rfl) | (rw[if_neg (by decide +kernel)]; exact⟨rfl, rfl⟩))
    (fun os started H enc _ => hcodePuts_lifted os started H enc)
end Go.Proofs.YtnejkopjonigeaaGreat

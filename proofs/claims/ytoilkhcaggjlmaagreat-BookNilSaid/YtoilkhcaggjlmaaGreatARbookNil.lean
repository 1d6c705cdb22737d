/- Proved: whatever it is handed, epitaphlaw18.BookNil returns true, and what it was handed reads behind the call as it did. Conditions: none. -/
import Derived.Test.YtoilkhcaggjlmaaGreatRows
import Derived.KernelRfl
import Derived.Test.YtoilkhcaggjlmaaGreatADs10
import Derived.Test.YtoilkhcaggjlmaaGreatADs12
namespace Go.Proofs.YtoilkhcaggjlmaaGreat
open Go.Ep Go.ChangeShapes Go.WideShapes Go.RowKit
set_option maxHeartbeats 1000000
set_option maxRecDepth 100000
set_option linter.unusedVariables false
set_option linter.unusedSimpArgs false
theorem Tryz.own : ownKnob Tryz.prog.godebug=none := by kernel_rfl
theorem Tryz.laidOut : laidOutB Tryz.prog=true := by kernel_rfl
theorem bookNil_lifted (os : Os) (started : os.Started) (H : Type) (enc : TypeId × Value → H) :
    ReturnsInHanded {} Tryz.checked os 3 .any (Rows.bookNilSpec.pre6 enc Tryz.prog Tryz.f3 Rows.bookNilRow.domain false) (Rows.bookNilSpec.post enc Tryz.prog Tryz.f3 false true false false) := by
  refine returnsInHanded_of_change (C := Tryz.checked) Tryz.own started (by kernel_rfl) Tryz.func3
    (ChangeSpec.witness6 (enc := enc) (C := Tryz.checked) false ⟨#[], #[.agg #[.int .u16 0, .int .u64 0, .int .u8 0, .int .u64 0, .int .u8 0, .string ⟨#[]⟩, .slice none 0 0], .slice none 0 0], []⟩ 8 (by kernel_rfl) (by kernel_rfl) (by kernel_rfl) (by kernel_rfl)) ?_
  intro W base args ds gs before hval0 hW hcnd _
  have hval : ∀ (j : Nat) t v, Tryz.f3.params[j]?=some t → args[j]?=some v → Value.okWide Tryz.prog W .any base t v := hval0
  have hW' := hW
  obtain⟨p, q, hA0, hV, rfl, hfz, hnd⟩ := hW
  have hA : DataW.TrodAll enc Tryz.prog W 0 (fun _ => true) true Tryz.f3.params.toList args.toList ds p := hA0
  rw[Tryz.params3] at hA hval
  obtain⟨v0, v1, d0, d1, p0, p1, rfl, rfl, rfl, hx0, hx1⟩ := trodAll_two hA
  obtain⟨us0, rfl⟩ : ∃ us, v0=.agg us := by
    have h := hval 0 28 v0 rfl rfl
    simp only[Value.okWide, Tryz.underlying28] at h
    obtain⟨cs, h, _⟩ := h
    exact⟨cs, h⟩
  obtain⟨a0, h0, hr0, hz0⟩ := Opn.argAgg xca hx0
  have ho1 : v1.oneCell'=true := by
    have h := hval 1 30 v1 rfl rfl
    simp only[Value.okWide, Tryz.underlying30, Cell.okWide] at h
    cases v1 <;> simp_all [Cell.ok, Value.oneCell']
  obtain⟨a1, h1, hr1, hz1⟩ := Opn.arg (opnTPart.slice Tryz.underlying30 (by kernel_rfl) (by decide)) hx1 ho1
  have hlaw : (uU a0 a1).wp (·=true) := by rw[M.G.z7a a0 a1 (fun ht => by have h := h0; have h1 := okU8 h.2.1; have h2 := okU64 h.2.2.1; have h3 := okU8 h.2.2.2.1; have hd1 := okU16 h.1.1; have hd2 := okU64 h.1.2; exact⟨⟨hd1.1, by omega, hd2.1, by omega⟩, ⟨h1.1, by omega⟩, ⟨h2.1, by omega⟩, ⟨h3.1, by omega⟩, by omega, (fun d hd => by have g := h.2.2.2.2.2.2 d hd; have g1 := okU16 g.1; have g2 := okU64 g.2; exact⟨g1.1, by omega, g2.1, by omega⟩), by omega⟩) (fun p hp => by have := okU16 (h1.2 p hp).1; omega)]; rfl
  refine(Vj a0 a1 true hlaw W All [.agg us0, v1] rfl (by
    intro i p v hp hv
    match i with
    | 0 => cases hp; cases hv; exact hr0
    | 1 => cases hp; cases hv; exact hr1
    | _+2 => cases hp)).mono fun e W' ⟨u, he, hbl, hru⟩ => ?_
  rw[hru.of_v] at he
  exact⟨_, he, xba Tryz.laidOut hW' rfl (fun ds h => by
    match ds, h with
    | [_, _], _ => exact⟨rfl, rfl, rfl⟩) rfl Tryz.underlying4 (by
    intro t ht
    rw[Tryz.params3] at ht
    simp only[List.mem_cons, List.not_mem_nil, or_false] at ht
    rcases ht with rfl | rfl
    all_goals exact⟨by kernel_rfl, of_decide_eq_true (by kernel_rfl)⟩) hbl⟩
theorem bookNil_j0 : Rows.bookNilRow.wf (OpenSpec.ofChange Rows.bookNilSpec)=true := by kernel_rfl
theorem bookNil_j1 : laidOutB Tryz.prog=true := by kernel_rfl
theorem bookNil_j2 : mapsRowed Tryz.prog=true := by kernel_rfl
theorem bookNil_j3 : Tryz.f3.params.all (Tryz.prog.readableRec ·)=true := by kernel_rfl
theorem bookNil_j4 : namedTie Tryz.prog Rows.bookNilRow.named Rows.bookNilSpec.vars=true := by kernel_rfl
theorem bookNil_j5 : (Rows.bookNilRow.stops==[])=true := by kernel_rfl
theorem bookNil_j6 : (Tryz.prog.stops==[])=true := by kernel_rfl
theorem bookNil_j7 : (Rows.bookNilRow.knobs==[])=true := by kernel_rfl
theorem bookNil_j8 : (Tryz.prog.stopKnobs==[])=true := by kernel_rfl
theorem bookNil_j9 : (Rows.bookNilRow.inPlace==Tryz.prog.inPlace 3)=true := by kernel_rfl
theorem bookNil_j10 : (Rows.bookNilRow.unfollowed==Tryz.prog.unfollowed 3)=true := by kernel_rfl
theorem bookNil_j11 : (Rows.bookNilRow.recurses==Tryz.prog.recurses 3)=true := by kernel_rfl
theorem bookNil_j12 : (Rows.bookNilRow.named==Tryz.prog.varsNamed 3)=true := by kernel_rfl
theorem bookNil_j13 : (Rows.bookNilRow.maps==(Tryz.f3.params.toList++Rows.bookNilSpec.plain.varTypes Tryz.prog).any (Tryz.prog.mapsRec ·))=true := by kernel_rfl
theorem bookNil_j14 : (Rows.bookNilRow.ifaces==(Tryz.f3.params.toList++Rows.bookNilSpec.plain.varTypes Tryz.prog).any (Tryz.prog.ifacesRec ·))=true := by kernel_rfl
theorem bookNil_j15 : (Rows.bookNilRow.mapsOut==Tryz.prog.mapsAmong Tryz.f3.resultTypes.toList)=true := by kernel_rfl
theorem bookNil_j16 : (Rows.bookNilRow.loops==(Tryz.f3.params.toList++Rows.bookNilSpec.plain.varTypes Tryz.prog).any (Tryz.prog.loopsFrom ·))=true := by kernel_rfl
theorem bookNil_j17 : (Rows.bookNilRow.wideKeys==(Tryz.f3.params.toList++Rows.bookNilSpec.plain.varTypes Tryz.prog++Tryz.f3.resultTypes.toList).any (Tryz.prog.wideKeysFrom ·))=true := by kernel_rfl
theorem bookNil_j18 : Rows.bookNilSpec.vars.all (Tryz.prog.varReadable ·)=true := by kernel_rfl
theorem bookNil_j19 : Tryz.f3.resultTypes.all (fun t => Tryz.prog.readableRec t&&decide (t < Tryz.prog.types.size))=true := by kernel_rfl
theorem bookNil_j20 : (Rows.bookNilRow.ifacesOut==Tryz.f3.resultTypes.toList.any (Tryz.prog.ifacesRec ·))=true := by kernel_rfl
theorem bookNil_j21 : (Rows.bookNilRow.loopsOut==Tryz.f3.resultTypes.toList.any (Tryz.prog.loopsFrom ·))=true := by kernel_rfl
theorem bookNil_j22 : (Rows.bookNilRow.plainKeys==Tryz.prog.plainKeys)=true := by kernel_rfl
theorem bookNil_j23 : Rows.bookNilRow.shortTexts.isNone=true := by kernel_rfl
theorem bookNil_j24 : Tryz.prog.stopsHeard=true := by kernel_rfl
theorem bookNil_j25 : Tryz.prog.mayEnter=true := by kernel_rfl
theorem bookNil_j26 : (Rows.bookNilRow.lifted==Tryz.prog.liftsFinal)=true := by kernel_rfl
theorem bookNil_j27 : (Tryz.prog.make==some Rows.bookNilRow.make)=true := by kernel_rfl
theorem bookNil_j28 : (Rows.bookNilRow.kinds==(if Rows.bookNilRow.domain.isEmpty then [] else Tryz.f3.params.toList.map fun t => match Tryz.prog.underlying t with | some (.int k) => some k | _ => none))=true := by kernel_rfl
theorem bookNil_j29 : (Rows.bookNilRow.pinned==Rows.bookNilRow.pinnedBy)=true := by kernel_rfl
theorem bookNil_j30 : (Rows.bookNilRow.veiled==(Tryz.f3.params.toList++Rows.bookNilSpec.plain.varTypes Tryz.prog++Tryz.f3.resultTypes.toList).any (Tryz.prog.veiledRec ·))=true := by kernel_rfl
theorem bookNil_j31 : Rows.bookNilRow.veiledFits Tryz.prog Tryz.f3.params.toList (Tryz.f3.params.toList++Rows.bookNilSpec.plain.varTypes Tryz.prog++Tryz.f3.resultTypes.toList)=true := by kernel_rfl
theorem bookNil_closed : joinedFacts Tryz.prog 3 Tryz.f3 Rows.bookNilSpec Rows.bookNilRow=true := by
  unfold joinedFacts
  simp only[Bool.and_eq_true]
  exact⟨⟨⟨⟨⟨⟨⟨⟨⟨⟨⟨⟨⟨⟨⟨⟨⟨⟨⟨⟨⟨⟨⟨⟨⟨⟨⟨⟨⟨⟨⟨bookNil_j0, bookNil_j1⟩, bookNil_j2⟩, bookNil_j3⟩, bookNil_j4⟩, bookNil_j5⟩, bookNil_j6⟩, bookNil_j7⟩, bookNil_j8⟩, bookNil_j9⟩, bookNil_j10⟩, bookNil_j11⟩, bookNil_j12⟩, bookNil_j13⟩, bookNil_j14⟩, bookNil_j15⟩, bookNil_j16⟩, bookNil_j17⟩, bookNil_j18⟩, bookNil_j19⟩, bookNil_j20⟩, bookNil_j21⟩, bookNil_j22⟩, bookNil_j23⟩, bookNil_j24⟩, bookNil_j25⟩, bookNil_j26⟩, bookNil_j27⟩, bookNil_j28⟩, bookNil_j29⟩, bookNil_j30⟩, bookNil_j31⟩
theorem bookNil_said : Rows.BookNilSaid :=
  OpenClaim.holds_of_wide 3 Tryz.f3 rfl rfl rfl rfl rfl rfl rfl ⟨rfl, rfl, rfl, rfl, rfl⟩ rfl rfl rfl rfl rfl (by kernel_rfl) Tryz.func3 bookNil_closed
    (of_decide_eq_true (by kernel_rfl)) (by unfold Func.isWrapper; first | (rw[if_pos (by decide +kernel)]; kernel_rfl) | (rw[if_neg (by decide +kernel)]; exact⟨rfl, rfl⟩))
    (fun os started H enc _ => bookNil_lifted os started H enc)
end Go.Proofs.YtoilkhcaggjlmaaGreat

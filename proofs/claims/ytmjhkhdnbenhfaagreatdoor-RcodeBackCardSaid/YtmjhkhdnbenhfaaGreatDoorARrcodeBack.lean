/- Proved: whatever it is handed, epitaphlaw31.RcodeBack returns true, and what it was handed reads behind the call as it did. Conditions: none. -/
import Derived.Test.YtmjhkhdnbenhfaaGreatDoorCards
import Derived.Test.YtmjhkhdnbenhfaaGreatDoorTie
import Derived.Test.YtmjhkhdnbenhfaaGreatDoorRows
import Derived.KernelRfl
import Derived.Deep.DeepHandedRow
import Derived.Lib.LaidTab
import Derived.SevenTiedAt
import Derived.Test.YtmjhkhdnbenhfaaGreatDoorABk9
import Derived.Test.YtmjhkhdnbenhfaaGreatDoorABk13
namespace Go.Proofs.YtmjhkhdnbenhfaaGreatDoor
open Go.Ep Go.ChangeShapes Go.WideShapes Go.RowKit
set_option maxHeartbeats 1000000
set_option maxRecDepth 100000
set_option linter.unusedVariables false
set_option linter.unusedSimpArgs false
theorem Tryz.own : ownKnob Tryz.prog.godebug=none := by kernel_rfl
theorem Tryz.laidOut : laidOutB Tryz.prog=true := by kernel_rfl
theorem Tryz.gT : Tryz.prog.globalNamed "epitaph/rcode.named" = some 0 := by kernel_rfl
theorem Tryz.gTType : (Tryz.prog.globals[0]?).map (·.type)=some 111 := by kernel_rfl
theorem Tryz.cellsE : Tryz.prog.cellsOf 3=1 := by kernel_rfl
theorem Tryz.cellsT : Tryz.prog.cellsOf 111=11 := by kernel_rfl
noncomputable def laidWorld(os : Os) : World :=
  { World.holding Tryz.prog os ⟨#[], #[], []⟩ with heap := (World.holding Tryz.prog os ⟨#[], #[], []⟩).heap.modify 0 fun
      | .cells _ t frozen => .cells (tabG.map fun z => Value.int .i64 z).toArray t frozen
      | o => o }
theorem laid_met(os : Os)(args : Array Value) : laidMet Tryz.prog Rows.rcodeBackRow.laid ((laidWorld os).forCall (fun _ _ => 0) ⟨#[], args, []⟩).memory :=
  laidMet_of_run' 8 (by kernel_rfl) (by kernel_rfl)
theorem witness_row (os : Os) {H : Type} (enc : TypeId × Value → H) :
    (OpenSpec.ofChange Rows.rcodeBackSpec).preRow enc Tryz.prog Tryz.f3 Rows.rcodeBackRow.domain false Rows.rcodeBackRow.laid ((laidWorld os).forCall (fun _ _ => 0) ⟨#[], #[.agg #[.int .u8 0, .int .u8 0, .int .u16 0, .int .u64 0, .int .u64 0, .int .u16 0, .int .u64 0, .int .u8 0, .int .u64 0, .int .u8 0, .string ⟨#[]⟩, .slice none 0 0, .slice none 0 0, .slice none 0 0, .slice none 0 0, .slice none 0 0, .slice none 0 0], .agg #[.int .u8 0, .int .u8 0, .int .u16 0, .int .u64 0, .int .u64 0, .int .u64 0, .slice none 0 0, .slice none 0 0, .slice none 0 0]], []⟩).memory #[.agg #[.int .u8 0, .int .u8 0, .int .u16 0, .int .u64 0, .int .u64 0, .int .u16 0, .int .u64 0, .int .u8 0, .int .u64 0, .int .u8 0, .string ⟨#[]⟩, .slice none 0 0, .slice none 0 0, .slice none 0 0, .slice none 0 0, .slice none 0 0, .slice none 0 0], .agg #[.int .u8 0, .int .u8 0, .int .u16 0, .int .u64 0, .int .u64 0, .int .u64 0, .slice none 0 0, .slice none 0 0, .slice none 0 0]] := by
  have hw : (DataW.whole enc Tryz.prog ((laidWorld os).forCall (fun _ _ => 0) ⟨#[], #[.agg #[.int .u8 0, .int .u8 0, .int .u16 0, .int .u64 0, .int .u64 0, .int .u16 0, .int .u64 0, .int .u8 0, .int .u64 0, .int .u8 0, .string ⟨#[]⟩, .slice none 0 0, .slice none 0 0, .slice none 0 0, .slice none 0 0, .slice none 0 0, .slice none 0 0], .agg #[.int .u8 0, .int .u8 0, .int .u16 0, .int .u64 0, .int .u64 0, .int .u64 0, .slice none 0 0, .slice none 0 0, .slice none 0 0]], []⟩).memory Tryz.f3.params.toList (OpenSpec.ofChange Rows.rcodeBackSpec).vars false (#[.agg #[.int .u8 0, .int .u8 0, .int .u16 0, .int .u64 0, .int .u64 0, .int .u16 0, .int .u64 0, .int .u8 0, .int .u64 0, .int .u8 0, .string ⟨#[]⟩, .slice none 0 0, .slice none 0 0, .slice none 0 0, .slice none 0 0, .slice none 0 0, .slice none 0 0], .agg #[.int .u8 0, .int .u8 0, .int .u16 0, .int .u64 0, .int .u64 0, .int .u64 0, .slice none 0 0, .slice none 0 0, .slice none 0 0]] : Array Value).toList 8).map (fun x => (x.1, x.2.1)) =
      some ([.agg [.lit (.int .u8 0), .lit (.int .u8 0), .lit (.int .u16 0), .lit (.int .u64 0), .lit (.int .u64 0), .agg [.agg [.lit (.int .u16 0), .lit (.int .u64 0)], .lit (.int .u8 0), .lit (.int .u64 0), .lit (.int .u8 0), .lit (.string []), .nil], .nil, .nil, .agg [.nil, .nil, .nil]], .agg [.lit (.int .u8 0), .lit (.int .u8 0), .lit (.int .u16 0), .lit (.int .u64 0), .lit (.int .u64 0), .lit (.int .u64 0), .nil, .nil, .nil]], []) := by kernel_rfl
  obtain⟨⟨x1, x2, x3⟩, hx, hx1⟩ := Option.map_eq_some_iff.1 hw
  simp only[Prod.mk.injEq] at hx1
  obtain⟨rfl, rfl⟩ := hx1
  exact OpenSpec.preRow_of_cond 8 hx (by kernel_rfl) (fun k hk => by cases hk) (by kernel_rfl) (laid_met os _)
theorem rcodeBack_lifted (os : Os) (started : os.Started) (H : Type) (enc : TypeId × Value → H) (F : Stop.Interp) :
    ReturnsInHanded {} Tryz.checked os 3 .any ((OpenSpec.ofChange Rows.rcodeBackSpec).preRow enc Tryz.prog Tryz.f3 Rows.rcodeBackRow.domain false Rows.rcodeBackRow.laid) (((OpenSpec.ofChange Rows.rcodeBackSpec).at F).post enc Tryz.prog Tryz.f3 false true false false) := by
  refine returnsInHanded_of_row (C := Tryz.checked) (s := OpenSpec.ofChange Rows.rcodeBackSpec) Tryz.own started (by kernel_rfl) Tryz.func3
    (witness_row_at (enc := enc) (C := Tryz.checked) false (laidWorld os) #[.agg #[.int .u8 0, .int .u8 0, .int .u16 0, .int .u64 0, .int .u64 0, .int .u16 0, .int .u64 0, .int .u8 0, .int .u64 0, .int .u8 0, .string ⟨#[]⟩, .slice none 0 0, .slice none 0 0, .slice none 0 0, .slice none 0 0, .slice none 0 0, .slice none 0 0], .agg #[.int .u8 0, .int .u8 0, .int .u16 0, .int .u64 0, .int .u64 0, .int .u64 0, .slice none 0 0, .slice none 0 0, .slice none 0 0]] rfl (by kernel_rfl) (by kernel_rfl) (by kernel_rfl) (witness_row os enc)) ?_
  intro W base args ds gs before hval0 hW _ _ _ hL _ _
  have htab : Lib.TabIs Tryz.prog W "epitaph/rcode.named" .i64 tabG := Lib.tabIs_of_head Tryz.gT Tryz.gTType Tryz.underlying111 Tryz.underlying3 Tryz.cellsE Tryz.cellsT hL
  have hcell : ∀ i, i < tabG.length → W.cell? ⟨0, i, none⟩=some (.int .i64 (tabG.getD i 0)) := fun i hi => htab.cell Tryz.gT i hi
  have hT : Tab 0 .i64 tabG W All := Tab.of trivial (by decide) hcell
  have hval : ∀ (j : Nat) t v, Tryz.f3.params[j]?=some t → args[j]?=some v → Value.okWide Tryz.prog W .any base t v := hval0
  have hW' := hW
  obtain⟨p, q, hA0, hV, rfl, hfz, hnd⟩ := hW
  have hA : DataW.TrodAll enc Tryz.prog W 0 (fun _ => true) true Tryz.f3.params.toList args.toList ds p := hA0
  rw[Tryz.params3] at hA hval
  obtain⟨v0, v1, d0, d1, p0, p1, rfl, rfl, rfl, hx0, hx1⟩ := trodAll_two hA
  obtain⟨us0, rfl⟩ : ∃ us, v0=.agg us := by
    have h := hval 0 35 v0 rfl rfl
    simp only[Value.okWide, Tryz.underlying35] at h
    obtain⟨cs, h, _⟩ := h
    exact⟨cs, h⟩
  obtain⟨a0, h0, hr0, hz0⟩ := Opn.argAgg Zya hx0
  obtain⟨us1, rfl⟩ : ∃ us, v1=.agg us := by
    have h := hval 1 37 v1 rfl rfl
    simp only[Value.okWide, Tryz.underlying37] at h
    obtain⟨cs, h, _⟩ := h
    exact⟨cs, h⟩
  obtain⟨a1, h1, hr1, hz1⟩ := Opn.argAgg Zza hx1
  have hlaw : (uf a0 a1).wp (·=true) := by rw[M.Y.rcodeBack_eq a0 a1 ⟨(by have := okU8 h0.1; exact⟨this.1, by omega⟩), (by have := okU8 h0.2.1; exact⟨this.1, by omega⟩), (by have := UA h0.2.2.1; exact⟨this.1, by omega⟩), (by have := Vz h0.2.2.2.1; exact⟨this.1, by omega⟩), (by have := Vz h0.2.2.2.2.1; exact⟨this.1, by omega⟩), (fun ht => by have h := h0.2.2.2.2.2.1; have h1 := okU8 h.2.1; have h2 := Vz h.2.2.1; have h3 := okU8 h.2.2.2.1; have hd1 := UA h.1.1; have hd2 := Vz h.1.2; exact⟨⟨hd1.1, by omega, hd2.1, by omega⟩, ⟨h1.1, by omega⟩, ⟨h2.1, by omega⟩, ⟨h3.1, by omega⟩, by omega, (fun d hd => by have g := h.2.2.2.2.2.2 d hd; have g1 := UA g.1; have g2 := Vz g.2; exact⟨g1.1, by omega, g2.1, by omega⟩), by omega⟩), (fun p hp => by have := UA (h0.2.2.2.2.2.2.1.2 p hp).1; exact⟨this.1, by omega⟩), (fun p hp => by have := UA (h0.2.2.2.2.2.2.2.1.2 p hp).1; exact⟨this.1, by omega⟩), (fun p hp => by have := UA (h0.2.2.2.2.2.2.2.2.1.2 p hp).1; exact⟨this.1, by omega⟩), (fun p hp => by have := UA (h0.2.2.2.2.2.2.2.2.2.1.2 p hp).1; exact⟨this.1, by omega⟩), (fun e he ht => by have h := h0.2.2.2.2.2.2.2.2.2.2.2 e he; have h1 := okU8 h.2.1; have h2 := Vz h.2.2.1; have h3 := okU8 h.2.2.2.1; have hd1 := UA h.1.1; have hd2 := Vz h.1.2; exact⟨⟨hd1.1, by omega, hd2.1, by omega⟩, ⟨h1.1, by omega⟩, ⟨h2.1, by omega⟩, ⟨h3.1, by omega⟩, by omega, (fun d hd => by have g := h.2.2.2.2.2.2 d hd; have g1 := UA g.1; have g2 := Vz g.2; exact⟨g1.1, by omega, g2.1, by omega⟩), by omega⟩)⟩ ⟨(by have := okU8 h1.1; exact⟨this.1, by omega⟩), (by have := okU8 h1.2.1; exact⟨this.1, by omega⟩), (by have := UA h1.2.2.1; exact⟨this.1, by omega⟩), (by have := Vz h1.2.2.2.1; exact⟨this.1, by omega⟩), (by have := Vz h1.2.2.2.2.1; exact⟨this.1, by omega⟩), (by have := Vz h1.2.2.2.2.2.1; exact⟨this.1, by omega⟩), (fun p hp => by have := UA (h1.2.2.2.2.2.2.1.2 p hp).1; exact⟨this.1, by omega⟩), (fun p hp => by have := UA (h1.2.2.2.2.2.2.2.1.2 p hp).1; exact⟨this.1, by omega⟩), (fun e he ht => by have h := h1.2.2.2.2.2.2.2.2.2 e he; have h1 := okU8 h.2.1; have h2 := Vz h.2.2.1; have h3 := okU8 h.2.2.2.1; have hd1 := UA h.1.1; have hd2 := Vz h.1.2; exact⟨⟨hd1.1, by omega, hd2.1, by omega⟩, ⟨h1.1, by omega⟩, ⟨h2.1, by omega⟩, ⟨h3.1, by omega⟩, by omega, (fun d hd => by have g := h.2.2.2.2.2.2 d hd; have g1 := UA g.1; have g2 := Vz g.2; exact⟨g1.1, by omega, g2.1, by omega⟩), by omega⟩)⟩]; rfl
  refine(Uv a0 a1 true hlaw W All hT [.agg us0, .agg us1] rfl (by
    intro i p v hp hv
    match i with
    | 0 => cases hp; cases hv; exact hr0
    | 1 => cases hp; cases hv; exact hr1
    | _+2 => cases hp)).mono fun e W' ⟨u, he, hbl, hru⟩ => ?_
  rw[hru.of_v] at he
  exact⟨_, he, Zwa Tryz.laidOut hW' rfl (fun ds h => by
    match ds, h with
    | [_, _], _ => exact⟨rfl, rfl, rfl⟩) rfl Tryz.underlying4 (by
    intro t ht
    rw[Tryz.params3] at ht
    simp only[List.mem_cons, List.not_mem_nil, or_false] at ht
    rcases ht with rfl | rfl
    all_goals exact⟨by kernel_rfl, of_decide_eq_true (by kernel_rfl)⟩) hbl⟩
theorem rcodeBack_row : Rows.RcodeBackSaid :=
  OpenClaim.holds_of_cond 3 Tryz.f3 rfl rfl rfl rfl rfl rfl rfl ⟨rfl, rfl, rfl, rfl, rfl⟩ rfl rfl rfl rfl rfl (by kernel_rfl) Tryz.func3 (by kernel_rfl)
    (of_decide_eq_true (by kernel_rfl)) (by unfold Func.isWrapper; first | (rw[if_pos (by decide +kernel)]; kernel_rfl) | (rw[if_neg (by decide +kernel)]; exact⟨rfl, rfl⟩))
    (fun os started H enc _ F => by rw[OpenClaim.pre_eq_preRow]; exact rcodeBack_lifted os started H enc F)
theorem rcodeBack_said : Rows.RcodeBackCardSaid :=
  Claim7.holds_tied_plain_at .later [] [.data] true (true, "7599d81d1f9558ceff0c87b3ab6edfe8ab2b5f4ed66e66e8d49867b738ce016f") false
    rcodeBack_row (fun _ h => by cases h) (by kernel_rfl) (fun _ h => by cases h) rcodeBack_row_tie rfl ⟨rfl, rfl⟩ (by kernel_rfl) rfl
    (fun f fn hf hfn => by
      obtain rfl : f = 3 := (Option.some.inj ((show Tryz.prog.funcNamed "epitaph/epitaphlaw31.RcodeBack" = some 3 by kernel_rfl).symm.trans hf)).symm
      obtain rfl : fn=Tryz.f3 := (Option.some.inj (Tryz.func3.symm.trans hfn)).symm
      exact⟨by kernel_rfl, fun j t ht => by
        rw[Tryz.params3] at ht
        have hm : t∈[35, 37] := List.mem_of_getElem? (by simpa using ht)
        simp only[List.mem_cons, List.not_mem_nil, or_false] at hm
        rcases hm with rfl | rfl
        · exact(show Tryz.prog.wantsStandIn 35=false by kernel_rfl)
        · exact(show Tryz.prog.wantsStandIn 37=false by kernel_rfl)⟩)
    (by kernel_rfl)
end Go.Proofs.YtmjhkhdnbenhfaaGreatDoor

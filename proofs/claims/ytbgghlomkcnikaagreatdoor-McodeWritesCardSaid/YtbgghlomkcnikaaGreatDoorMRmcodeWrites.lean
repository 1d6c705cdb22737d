/- Proved: whatever it is handed, epitaphlaw28.McodeWrites returns true, and what it was handed reads behind the call as it did. Conditions: none. -/
import Derived.Test.YtbgghlomkcnikaaGreatDoorCards
import Derived.Test.YtbgghlomkcnikaaGreatDoorTie
import Derived.Test.YtbgghlomkcnikaaGreatDoorRows
import Derived.KernelRfl
import Derived.Deep.DeepHandedRow
import Derived.Lib.LaidTab
import Derived.SevenTiedAt
import Derived.Test.YtbgghlomkcnikaaGreatDoorMMw9
import Derived.Test.YtbgghlomkcnikaaGreatDoorMMw12
namespace Go.Proofs.YtbgghlomkcnikaaGreatDoor
open Go.Ep Go.ChangeShapes Go.WideShapes Go.RowKit
set_option maxHeartbeats 1000000
set_option maxRecDepth 100000
set_option linter.unusedVariables false
set_option linter.unusedSimpArgs false

theorem Tryz.own : ownKnob Tryz.prog.godebug = none := by kernel_rfl
theorem Tryz.laidOut : laidOutB Tryz.prog = true := by kernel_rfl
theorem Tryz.gT : Tryz.prog.globalNamed "epitaph/crc.four" = some 0 := by kernel_rfl
theorem Tryz.gTType : (Tryz.prog.globals[0]?).map (·.type) = some 141 := by kernel_rfl
theorem Tryz.cellsE : Tryz.prog.cellsOf 77 = 1 := by kernel_rfl
theorem Tryz.cellsT : Tryz.prog.cellsOf 141 = 16 := by kernel_rfl
noncomputable def laidWorld (os : Os) : World :=
  { World.holding Tryz.prog os ⟨#[], #[], []⟩ with heap := (World.holding Tryz.prog os ⟨#[], #[], []⟩).heap.modify 0 fun
      | .cells _ t frozen => .cells (tabG.map fun z => Value.int .u32 z).toArray t frozen
      | o => o }
theorem laid_met (os : Os) (args : Array Value) : laidMet Tryz.prog Rows.mcodeWritesRow.laid ((laidWorld os).forCall (fun _ _ => 0) ⟨#[], args, []⟩).memory :=
  laidMet_of_run' 8 (by kernel_rfl) (by kernel_rfl)
theorem witness_row (os : Os) {H : Type} (enc : TypeId × Value → H) :
    (OpenSpec.ofChange Rows.mcodeWritesSpec).preRow enc Tryz.prog Tryz.f3 Rows.mcodeWritesRow.domain false Rows.mcodeWritesRow.laid ((laidWorld os).forCall (fun _ _ => 0) ⟨#[], #[.agg #[.int .u8 0, .int .u8 0, .int .u64 0, .int .u16 0, .int .u64 0, .int .u8 0, .slice none 0 0, .slice none 0 0, .slice none 0 0, .slice none 0 0, .slice none 0 0]], []⟩).memory #[.agg #[.int .u8 0, .int .u8 0, .int .u64 0, .int .u16 0, .int .u64 0, .int .u8 0, .slice none 0 0, .slice none 0 0, .slice none 0 0, .slice none 0 0, .slice none 0 0]] := by
  have hw : (DataW.whole enc Tryz.prog ((laidWorld os).forCall (fun _ _ => 0) ⟨#[], #[.agg #[.int .u8 0, .int .u8 0, .int .u64 0, .int .u16 0, .int .u64 0, .int .u8 0, .slice none 0 0, .slice none 0 0, .slice none 0 0, .slice none 0 0, .slice none 0 0]], []⟩).memory Tryz.f3.params.toList (OpenSpec.ofChange Rows.mcodeWritesSpec).vars false (#[.agg #[.int .u8 0, .int .u8 0, .int .u64 0, .int .u16 0, .int .u64 0, .int .u8 0, .slice none 0 0, .slice none 0 0, .slice none 0 0, .slice none 0 0, .slice none 0 0]] : Array Value).toList 8).map (fun x => (x.1, x.2.1)) =
      some ([.agg [.lit (.int .u8 0), .lit (.int .u8 0), .lit (.int .u64 0), .lit (.int .u16 0), .lit (.int .u64 0), .lit (.int .u8 0), .nil, .nil, .agg [.nil, .nil, .nil]]], []) := by kernel_rfl
  obtain ⟨⟨x1, x2, x3⟩, hx, hx1⟩ := Option.map_eq_some_iff.1 hw
  simp only [Prod.mk.injEq] at hx1
  obtain ⟨rfl, rfl⟩ := hx1
  exact OpenSpec.preRow_of_cond 8 hx (by kernel_rfl) (fun k hk => by cases hk) (by kernel_rfl) (laid_met os _)
theorem mcodeWrites_lifted (os : Os) (started : os.Started) (H : Type) (enc : TypeId × Value → H) (F : Stop.Interp) :
    ReturnsInHanded {} Tryz.checked os 3 .any ((OpenSpec.ofChange Rows.mcodeWritesSpec).preRow enc Tryz.prog Tryz.f3 Rows.mcodeWritesRow.domain false Rows.mcodeWritesRow.laid) (((OpenSpec.ofChange Rows.mcodeWritesSpec).at F).post enc Tryz.prog Tryz.f3 false true false false) := by
  refine returnsInHanded_of_row (C := Tryz.checked) (s := OpenSpec.ofChange Rows.mcodeWritesSpec) Tryz.own started (by kernel_rfl) Tryz.func3
    (witness_row_at (enc := enc) (C := Tryz.checked) false (laidWorld os) #[.agg #[.int .u8 0, .int .u8 0, .int .u64 0, .int .u16 0, .int .u64 0, .int .u8 0, .slice none 0 0, .slice none 0 0, .slice none 0 0, .slice none 0 0, .slice none 0 0]] rfl (by kernel_rfl) (by kernel_rfl) (by kernel_rfl) (witness_row os enc)) ?_
  intro W base args ds gs before hval0 hW _ _ _ hL _ _
  have htab : Lib.TabIs Tryz.prog W "epitaph/crc.four" .u32 tabG := Lib.tabIs_of_head Tryz.gT Tryz.gTType Tryz.underlying141 Tryz.underlying77 Tryz.cellsE Tryz.cellsT hL
  have hcell : ∀ i, i < tabG.length → W.cell? ⟨0, i, none⟩ = some (.int .u32 (tabG.getD i 0)) := fun i hi => htab.cell Tryz.gT i hi
  have hT : Tab 0 .u32 tabG W All := Tab.of trivial (by decide) hcell
  have hval : ∀ (j : Nat) t v, Tryz.f3.params[j]? = some t → args[j]? = some v → Value.okWide Tryz.prog W .any base t v := hval0
  have hW' := hW
  obtain ⟨p, q, hA0, hV, rfl, hfz, hnd⟩ := hW
  have hA : DataW.TrodAll enc Tryz.prog W 0 (fun _ => true) true Tryz.f3.params.toList args.toList ds p := hA0
  rw [Tryz.params3] at hA hval
  obtain ⟨v0, d0, rfl, rfl, hx0⟩ := trodAll_one hA
  obtain ⟨us0, rfl⟩ : ∃ us, v0 = .agg us := by
    have h := hval 0 30 v0 rfl rfl
    simp only [Value.okWide, Tryz.underlying30] at h
    obtain ⟨cs, h, _⟩ := h
    exact ⟨cs, h⟩
  obtain ⟨a0, h0, hr0, hz0⟩ := Opn.argAgg opnTMsg hx0
  have hlaw : (xn a0).wp (· = true) := by rw [M.U.mcodeWrites_eq a0 (by have k0 := okU8 h0.1; have k1 := okU8 h0.2.1; have k3 := Uk h0.2.2.2.1; have k5 := okU8 h0.2.2.2.2.2.1; exact ⟨⟨k0.1, by omega⟩, ⟨k1.1, by omega⟩, ⟨k3.1, by omega⟩, ⟨k5.1, by omega⟩, (fun p hp => by have := Uk (h0.2.2.2.2.2.2.1.2 p hp).1; omega), (fun p hp => by have := Uk (h0.2.2.2.2.2.2.2.1.2 p hp).1; omega), (fun p hp => by have := Uk (h0.2.2.2.2.2.2.2.2.1.2 p hp).1; omega), (fun p hp => by have := Uk (h0.2.2.2.2.2.2.2.2.2.1.2 p hp).1; omega), (fun e he ht => by have h := h0.2.2.2.2.2.2.2.2.2.2.2 e he; have h1 := okU8 h.2.1; have h2 := w7a h.2.2.1; have h3 := okU8 h.2.2.2.1; have hd1 := Uk h.1.1; have hd2 := w7a h.1.2; exact ⟨⟨hd1.1, by omega, hd2.1, by omega⟩, ⟨h1.1, by omega⟩, ⟨h2.1, by omega⟩, ⟨h3.1, by omega⟩, by omega, (fun d hd => by have g := h.2.2.2.2.2.2 d hd; have g1 := Uk g.1; have g2 := w7a g.2; exact ⟨g1.1, by omega, g2.1, by omega⟩), by omega⟩)⟩) (by have := w7a h0.2.2.1; omega) (by have := w7a h0.2.2.2.2.1; omega) (fun p hp => by have := Uk (h0.2.2.2.2.2.2.1.2 p hp).1; omega) (fun p hp => by have := Uk (h0.2.2.2.2.2.2.2.1.2 p hp).1; omega) (fun p hp => by have := Uk (h0.2.2.2.2.2.2.2.2.1.2 p hp).1; omega) (fun p hp => by have := Uk (h0.2.2.2.2.2.2.2.2.2.1.2 p hp).1; omega)]; rfl
  refine (Xt a0 true hlaw W All hT [.agg us0] rfl (by
    intro i p v hp hv
    match i with
    | 0 => cases hp; cases hv; exact hr0
    | _ + 1 => cases hp)).mono fun e W' ⟨u, he, hbl, hru⟩ => ?_
  rw [hru.of_v] at he
  exact ⟨_, he, w8a Tryz.laidOut hW' rfl (fun ds h => by
    match ds, h with
    | [_], _ => exact ⟨rfl, rfl, rfl⟩) rfl Tryz.underlying4 (by
    intro t ht
    rw [Tryz.params3] at ht
    simp only [List.mem_cons, List.not_mem_nil, or_false] at ht
    subst ht
    exact ⟨by kernel_rfl, of_decide_eq_true (by kernel_rfl)⟩) hbl⟩

theorem mcodeWrites_row : Rows.McodeWritesSaid :=
  OpenClaim.holds_of_cond 3 Tryz.f3 rfl rfl rfl rfl rfl rfl rfl ⟨rfl, rfl, rfl, rfl, rfl⟩ rfl rfl rfl rfl rfl (by kernel_rfl) Tryz.func3 (by kernel_rfl)
    (of_decide_eq_true (by kernel_rfl)) (by unfold Func.isWrapper; first | (rw [if_pos (by decide +kernel)]; kernel_rfl) | (rw [if_neg (by decide +kernel)]; exact ⟨rfl, rfl⟩))
    (fun os started H enc _ F => by rw [OpenClaim.pre_eq_preRow]; exact mcodeWrites_lifted os started H enc F)
theorem mcodeWrites_said : Rows.McodeWritesCardSaid :=
  Claim7.holds_tied_plain_at .later [] [.data] true (true, "f8c87680ed8fede2bec795c39678f5fd759d3f82695a3d77837e6996d005f597") false
    mcodeWrites_row (fun _ h => by cases h) (by kernel_rfl) (fun _ h => by cases h) mcodeWrites_row_tie rfl ⟨rfl, rfl⟩ (by kernel_rfl) rfl
    (fun f fn hf hfn => by
      obtain rfl : f = 3 := (Option.some.inj ((show Tryz.prog.funcNamed "epitaph/epitaphlaw28.McodeWrites" = some 3 by kernel_rfl).symm.trans hf)).symm
      obtain rfl : fn = Tryz.f3 := (Option.some.inj (Tryz.func3.symm.trans hfn)).symm
      exact ⟨by kernel_rfl, fun j t ht => by
        rw [Tryz.params3] at ht
        have hm : t ∈ [30] := List.mem_of_getElem? (by simpa using ht)
        simp only [List.mem_cons, List.not_mem_nil, or_false] at hm
        rcases hm with rfl
        · exact (show Tryz.prog.wantsStandIn 30 = false by kernel_rfl)⟩)
    (by kernel_rfl)
end Go.Proofs.YtbgghlomkcnikaaGreatDoor

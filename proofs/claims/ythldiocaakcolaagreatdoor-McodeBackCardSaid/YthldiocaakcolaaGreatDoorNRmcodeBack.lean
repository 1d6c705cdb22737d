/- Proved: whatever it is handed, epitaphlaw28.McodeBack returns true, and what it was handed reads behind the call as it did. Conditions: none. -/
import Derived.Test.YthldiocaakcolaaGreatDoorCards
import Derived.Test.YthldiocaakcolaaGreatDoorTie
import Derived.Test.YthldiocaakcolaaGreatDoorRows
import Derived.KernelRfl
import Derived.Deep.DeepHandedRow
import Derived.Lib.LaidTab
import Derived.SevenTiedAt
import Derived.Test.YthldiocaakcolaaGreatDoorNBa9
import Derived.Test.YthldiocaakcolaaGreatDoorNBa13
import Derived.Test.YthldiocaakcolaaGreatDoorNBa14
namespace Go.Proofs.YthldiocaakcolaaGreatDoor
open Go.Ep Go.ChangeShapes Go.WideShapes Go.RowKit
set_option maxHeartbeats 1000000
set_option maxRecDepth 100000
set_option linter.unusedVariables false
set_option linter.unusedSimpArgs false

theorem Tryz.own : ownKnob Tryz.prog.godebug = none := by kernel_rfl
theorem Tryz.laidOut : laidOutB Tryz.prog = true := by kernel_rfl
theorem Tryz.gT : Tryz.prog.globalNamed "epitaph/crc.four" = some 0 := by kernel_rfl
theorem Tryz.gTType : (Tryz.prog.globals[0]?).map (·.type) = some 178 := by kernel_rfl
theorem Tryz.cellsE : Tryz.prog.cellsOf 41 = 1 := by kernel_rfl
theorem Tryz.cellsT : Tryz.prog.cellsOf 178 = 16 := by kernel_rfl
noncomputable def laidWorld (os : Os) : World :=
  { World.holding Tryz.prog os ⟨#[], #[], []⟩ with heap := (World.holding Tryz.prog os ⟨#[], #[], []⟩).heap.modify 0 fun
      | .cells _ t frozen => .cells (tabG.map fun z => Value.int .u32 z).toArray t frozen
      | o => o }
theorem laid_met (os : Os) (args : Array Value) : laidMet Tryz.prog Rows.mcodeBackRow.laid ((laidWorld os).forCall (fun _ _ => 0) ⟨#[], args, []⟩).memory :=
  laidMet_of_run' 8 (by kernel_rfl) (by kernel_rfl)
theorem witness_row (os : Os) {H : Type} (enc : TypeId × Value → H) :
    (OpenSpec.ofChange Rows.mcodeBackSpec).preRow enc Tryz.prog Tryz.f4 Rows.mcodeBackRow.domain false Rows.mcodeBackRow.laid ((laidWorld os).forCall (fun _ _ => 0) ⟨#[], #[.agg #[.int .u8 0, .int .u8 0, .int .u64 0, .int .u16 0, .int .u64 0, .int .u8 0, .slice none 0 0, .slice none 0 0, .slice none 0 0, .slice none 0 0, .slice none 0 0], .int .i64 0, .int .u32 0], []⟩).memory #[.agg #[.int .u8 0, .int .u8 0, .int .u64 0, .int .u16 0, .int .u64 0, .int .u8 0, .slice none 0 0, .slice none 0 0, .slice none 0 0, .slice none 0 0, .slice none 0 0], .int .i64 0, .int .u32 0] := by
  have hw : (DataW.whole enc Tryz.prog ((laidWorld os).forCall (fun _ _ => 0) ⟨#[], #[.agg #[.int .u8 0, .int .u8 0, .int .u64 0, .int .u16 0, .int .u64 0, .int .u8 0, .slice none 0 0, .slice none 0 0, .slice none 0 0, .slice none 0 0, .slice none 0 0], .int .i64 0, .int .u32 0], []⟩).memory Tryz.f4.params.toList (OpenSpec.ofChange Rows.mcodeBackSpec).vars false (#[.agg #[.int .u8 0, .int .u8 0, .int .u64 0, .int .u16 0, .int .u64 0, .int .u8 0, .slice none 0 0, .slice none 0 0, .slice none 0 0, .slice none 0 0, .slice none 0 0], .int .i64 0, .int .u32 0] : Array Value).toList 8).map (fun x => (x.1, x.2.1)) =
      some ([.agg [.lit (.int .u8 0), .lit (.int .u8 0), .lit (.int .u64 0), .lit (.int .u16 0), .lit (.int .u64 0), .lit (.int .u8 0), .nil, .nil, .agg [.nil, .nil, .nil]], .lit (.int .i64 0), .lit (.int .u32 0)], []) := by kernel_rfl
  obtain ⟨⟨x1, x2, x3⟩, hx, hx1⟩ := Option.map_eq_some_iff.1 hw
  simp only [Prod.mk.injEq] at hx1
  obtain ⟨rfl, rfl⟩ := hx1
  exact OpenSpec.preRow_of_cond 8 hx (by kernel_rfl) (fun k hk => by cases hk) (by kernel_rfl) (laid_met os _)
theorem mcodeBack_lifted (os : Os) (started : os.Started) (H : Type) (enc : TypeId × Value → H) (F : Stop.Interp) :
    ReturnsInHanded {} Tryz.checked os 4 .any ((OpenSpec.ofChange Rows.mcodeBackSpec).preRow enc Tryz.prog Tryz.f4 Rows.mcodeBackRow.domain false Rows.mcodeBackRow.laid) (((OpenSpec.ofChange Rows.mcodeBackSpec).at F).post enc Tryz.prog Tryz.f4 false true false false) := by
  refine returnsInHanded_of_row (C := Tryz.checked) (s := OpenSpec.ofChange Rows.mcodeBackSpec) Tryz.own started (by kernel_rfl) Tryz.func4
    (witness_row_at (enc := enc) (C := Tryz.checked) false (laidWorld os) #[.agg #[.int .u8 0, .int .u8 0, .int .u64 0, .int .u16 0, .int .u64 0, .int .u8 0, .slice none 0 0, .slice none 0 0, .slice none 0 0, .slice none 0 0, .slice none 0 0], .int .i64 0, .int .u32 0] rfl (by kernel_rfl) (by kernel_rfl) (by kernel_rfl) (witness_row os enc)) ?_
  intro W base args ds gs before hval0 hW _ _ _ hL _ _
  have htab : Lib.TabIs Tryz.prog W "epitaph/crc.four" .u32 tabG := Lib.tabIs_of_head Tryz.gT Tryz.gTType Tryz.underlying178 Tryz.underlying41 Tryz.cellsE Tryz.cellsT hL
  have hcell : ∀ i, i < tabG.length → W.cell? ⟨0, i, none⟩ = some (.int .u32 (tabG.getD i 0)) := fun i hi => htab.cell Tryz.gT i hi
  have hT : Tab 0 .u32 tabG W All := Tab.of trivial (by decide) hcell
  have hval : ∀ (j : Nat) t v, Tryz.f4.params[j]? = some t → args[j]? = some v → Value.okWide Tryz.prog W .any base t v := hval0
  have hW' := hW
  obtain ⟨p, q, hA0, hV, rfl, hfz, hnd⟩ := hW
  have hA : DataW.TrodAll enc Tryz.prog W 0 (fun _ => true) true Tryz.f4.params.toList args.toList ds p := hA0
  rw [Tryz.params4] at hA hval
  obtain ⟨v0, v1, v2, d0, d1, d2, p0, p1, p2, rfl, rfl, rfl, hx0, hx1, hx2⟩ := trodAll_three hA
  obtain ⟨us0, rfl⟩ : ∃ us, v0 = .agg us := by
    have h := hval 0 32 v0 rfl rfl
    simp only [Value.okWide, Tryz.underlying32] at h
    obtain ⟨cs, h, _⟩ := h
    exact ⟨cs, h⟩
  obtain ⟨a0, h0, hr0, hz0⟩ := Opn.argAgg opnTMsg hx0
  have ho1 : v1.oneCell' = true := by
    have h := hval 1 3 v1 rfl rfl
    simp only [Value.okWide, Tryz.underlying3, Cell.okWide] at h
    cases v1 <;> simp_all [Cell.ok, Value.oneCell']
  obtain ⟨a1, h1, hr1, hz1⟩ := Opn.arg (Opn.int Tryz.underlying3 (by kernel_rfl)) hx1 ho1
  have ho2 : v2.oneCell' = true := by
    have h := hval 2 41 v2 rfl rfl
    simp only [Value.okWide, Tryz.underlying41, Cell.okWide] at h
    cases v2 <;> simp_all [Cell.ok, Value.oneCell']
  obtain ⟨a2, h2, hr2, hz2⟩ := Opn.arg (Opn.int Tryz.underlying41 (by kernel_rfl)) hx2 ho2
  have hlaw : (uI a0 a1 a2).wp (· = true) := by rw [M.U.mcodeBack_eq a0 a1 a2 (by have k0 := okU8 h0.1; have k1 := okU8 h0.2.1; have k3 := JP h0.2.2.2.1; have k5 := okU8 h0.2.2.2.2.2.1; exact ⟨⟨k0.1, by omega⟩, ⟨k1.1, by omega⟩, ⟨k3.1, by omega⟩, ⟨k5.1, by omega⟩, (fun p hp => by have := JP (h0.2.2.2.2.2.2.1.2 p hp).1; omega), (fun p hp => by have := JP (h0.2.2.2.2.2.2.2.1.2 p hp).1; omega), (fun p hp => by have := JP (h0.2.2.2.2.2.2.2.2.1.2 p hp).1; omega), (fun p hp => by have := JP (h0.2.2.2.2.2.2.2.2.2.1.2 p hp).1; omega), (fun e he ht => by have h := h0.2.2.2.2.2.2.2.2.2.2.2 e he; have h1 := okU8 h.2.1; have h2 := ZUa h.2.2.1; have h3 := okU8 h.2.2.2.1; have hd1 := JP h.1.1; have hd2 := ZUa h.1.2; exact ⟨⟨hd1.1, by omega, hd2.1, by omega⟩, ⟨h1.1, by omega⟩, ⟨h2.1, by omega⟩, ⟨h3.1, by omega⟩, by omega, (fun d hd => by have g := h.2.2.2.2.2.2 d hd; have g1 := JP g.1; have g2 := ZUa g.2; exact ⟨g1.1, by omega, g2.1, by omega⟩), by omega⟩)⟩) (by have := ZUa h0.2.2.1; omega) (by have := ZUa h0.2.2.2.2.1; omega) (fun p hp => by have := JP (h0.2.2.2.2.2.2.1.2 p hp).1; omega) (fun p hp => by have := JP (h0.2.2.2.2.2.2.2.1.2 p hp).1; omega) (fun p hp => by have := JP (h0.2.2.2.2.2.2.2.2.1.2 p hp).1; omega) (fun p hp => by have := JP (h0.2.2.2.2.2.2.2.2.2.1.2 p hp).1; omega) (by have := okU32 h2; omega)]; rfl
  refine (UX a0 a1 a2 true hlaw W All hT [.agg us0, v1, v2] rfl (by
    intro i p v hp hv
    match i with
    | 0 => cases hp; cases hv; exact hr0
    | 1 => cases hp; cases hv; exact hr1
    | 2 => cases hp; cases hv; exact hr2
    | _ + 3 => cases hp)).mono fun e W' ⟨u, he, hbl, hru⟩ => ?_
  rw [hru.of_v] at he
  exact ⟨_, he, ZVa Tryz.laidOut hW' rfl (fun ds h => by
    match ds, h with
    | [_, _, _], _ => exact ⟨rfl, rfl, rfl⟩) rfl Tryz.underlying4 (by
    intro t ht
    rw [Tryz.params4] at ht
    simp only [List.mem_cons, List.not_mem_nil, or_false] at ht
    rcases ht with rfl | rfl | rfl
    all_goals exact ⟨by kernel_rfl, of_decide_eq_true (by kernel_rfl)⟩) hbl⟩

theorem mcodeBack_row : Rows.McodeBackSaid :=
  OpenClaim.holds_of_cond 4 Tryz.f4 rfl rfl rfl rfl rfl rfl rfl ⟨rfl, rfl, rfl, rfl, rfl⟩ rfl rfl rfl rfl rfl (by kernel_rfl) Tryz.func4 (by kernel_rfl)
    (of_decide_eq_true (by kernel_rfl)) (by unfold Func.isWrapper; first | (rw [if_pos (by decide +kernel)]; kernel_rfl) | (rw [if_neg (by decide +kernel)]; exact ⟨rfl, rfl⟩))
    (fun os started H enc _ F => by rw [OpenClaim.pre_eq_preRow]; exact mcodeBack_lifted os started H enc F)
theorem mcodeBack_said : Rows.McodeBackCardSaid :=
  Claim7.holds_tied_plain_at .later [] [.data] true (true, "f3e69270dee762545e6af70ee01f07fa33381a4aabf06a8717a8966aceeda187") false
    mcodeBack_row (fun _ h => by cases h) (by kernel_rfl) (fun _ h => by cases h) mcodeBack_row_tie rfl ⟨rfl, rfl⟩ (by kernel_rfl) rfl
    (fun f fn hf hfn => by
      obtain rfl : f = 4 := (Option.some.inj ((show Tryz.prog.funcNamed "epitaph/epitaphlaw28.McodeBack" = some 4 by kernel_rfl).symm.trans hf)).symm
      obtain rfl : fn = Tryz.f4 := (Option.some.inj (Tryz.func4.symm.trans hfn)).symm
      exact ⟨by kernel_rfl, fun j t ht => by
        rw [Tryz.params4] at ht
        have hm : t ∈ [32, 3, 41] := List.mem_of_getElem? (by simpa using ht)
        simp only [List.mem_cons, List.not_mem_nil, or_false] at hm
        rcases hm with rfl | rfl | rfl
        · exact (show Tryz.prog.wantsStandIn 32 = false by kernel_rfl)
        · exact (show Tryz.prog.wantsStandIn 3 = false by kernel_rfl)
        · exact (show Tryz.prog.wantsStandIn 41 = false by kernel_rfl)⟩)
    (by kernel_rfl)
end Go.Proofs.YthldiocaakcolaaGreatDoor

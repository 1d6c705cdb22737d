/- Proved: whatever it is handed, epitaphlaw31.RcodeOnce returns true, and what it was handed reads behind the call as it did. Conditions: none. -/
import Derived.Test.YtmjhkhdnbenhfaaGreatDoorCards
import Derived.Test.YtmjhkhdnbenhfaaGreatDoorTie
import Derived.Test.YtmjhkhdnbenhfaaGreatDoorRows
import Derived.KernelRfl
import Derived.Deep.DeepHandedRow
import Derived.Lib.LaidTab
import Derived.SevenTiedAt
import Derived.Test.YtmjhkhdnbenhfaaGreatDoorAOn9
import Derived.Test.YtmjhkhdnbenhfaaGreatDoorAOn11
import Derived.Test.YtmjhkhdnbenhfaaGreatDoorAOn12
namespace Go.Proofs.YtmjhkhdnbenhfaaGreatDoor
open Go.Ep Go.ChangeShapes Go.WideShapes Go.RowKit
set_option maxHeartbeats 1000000
set_option maxRecDepth 100000
set_option linter.unusedVariables false
set_option linter.unusedSimpArgs false
theorem Tryz.own : ownKnob Tryz.prog.godebug=none := by kernel_rfl
theorem Tryz.laidOut : laidOutB Tryz.prog=true := by kernel_rfl
theorem Tryz.gT : Tryz.prog.globalNamed "epitaph/rcode.named" = some 0 := by kernel_rfl
theorem Tryz.gTType : (Tryz.prog.globals[0]?).map (·.type)=some 111 := by kernel_rfl
theorem Tryz.cellsE : Tryz.prog.cellsOf 3=1 := by kernel_rfl
theorem Tryz.cellsT : Tryz.prog.cellsOf 111=11 := by kernel_rfl
noncomputable def laidWorld(os : Os) : World :=
  { World.holding Tryz.prog os ⟨#[], #[], []⟩ with heap := (World.holding Tryz.prog os ⟨#[], #[], []⟩).heap.modify 0 fun
      | .cells _ t frozen => .cells (tabG.map fun z => Value.int .i64 z).toArray t frozen
      | o => o }
theorem laid_met(os : Os)(args : Array Value) : laidMet Tryz.prog Rows.rcodeOnceRow.laid ((laidWorld os).forCall (fun _ _ => 0) ⟨#[], args, []⟩).memory :=
  laidMet_of_run' 8 (by kernel_rfl) (by kernel_rfl)
theorem witness_row (os : Os) {H : Type} (enc : TypeId × Value → H) :
    (OpenSpec.ofChange Rows.rcodeOnceSpec).preRow enc Tryz.prog Tryz.f4 Rows.rcodeOnceRow.domain false Rows.rcodeOnceRow.laid ((laidWorld os).forCall (fun _ _ => 0) ⟨#[], #[.slice none 0 0], []⟩).memory #[.slice none 0 0] := by
  have hw : (DataW.whole enc Tryz.prog ((laidWorld os).forCall (fun _ _ => 0) ⟨#[], #[.slice none 0 0], []⟩).memory Tryz.f4.params.toList (OpenSpec.ofChange Rows.rcodeOnceSpec).vars false (#[.slice none 0 0] : Array Value).toList 8).map (fun x => (x.1, x.2.1)) =
      some ([.nil], []) := by kernel_rfl
  obtain⟨⟨x1, x2, x3⟩, hx, hx1⟩ := Option.map_eq_some_iff.1 hw
  simp only[Prod.mk.injEq] at hx1
  obtain⟨rfl, rfl⟩ := hx1
  exact OpenSpec.preRow_of_cond 8 hx (by kernel_rfl) (fun k hk => by cases hk) (by kernel_rfl) (laid_met os _)
theorem rcodeOnce_lifted (os : Os) (started : os.Started) (H : Type) (enc : TypeId × Value → H) (F : Stop.Interp) :
    ReturnsInHanded {} Tryz.checked os 4 .any ((OpenSpec.ofChange Rows.rcodeOnceSpec).preRow enc Tryz.prog Tryz.f4 Rows.rcodeOnceRow.domain false Rows.rcodeOnceRow.laid) (((OpenSpec.ofChange Rows.rcodeOnceSpec).at F).post enc Tryz.prog Tryz.f4 false true false false) := by
  refine returnsInHanded_of_row (C := Tryz.checked) (s := OpenSpec.ofChange Rows.rcodeOnceSpec) Tryz.own started (by kernel_rfl) Tryz.func4
    (witness_row_at (enc := enc) (C := Tryz.checked) false (laidWorld os) #[.slice none 0 0] rfl (by kernel_rfl) (by kernel_rfl) (by kernel_rfl) (witness_row os enc)) ?_
  intro W base args ds gs before hval0 hW _ _ _ hL _ _
  have htab : Lib.TabIs Tryz.prog W "epitaph/rcode.named" .i64 tabG := Lib.tabIs_of_head Tryz.gT Tryz.gTType Tryz.underlying111 Tryz.underlying3 Tryz.cellsE Tryz.cellsT hL
  have hcell : ∀ i, i < tabG.length → W.cell? ⟨0, i, none⟩=some (.int .i64 (tabG.getD i 0)) := fun i hi => htab.cell Tryz.gT i hi
  have hT : Tab 0 .i64 tabG W All := Tab.of trivial (by decide) hcell
  have hval : ∀ (j : Nat) t v, Tryz.f4.params[j]?=some t → args[j]?=some v → Value.okWide Tryz.prog W .any base t v := hval0
  have hW' := hW
  obtain⟨p, q, hA0, hV, rfl, hfz, hnd⟩ := hW
  have hA : DataW.TrodAll enc Tryz.prog W 0 (fun _ => true) true Tryz.f4.params.toList args.toList ds p := hA0
  rw[Tryz.params4] at hA hval
  obtain⟨v0, d0, rfl, rfl, hx0⟩ := trodAll_one hA
  have ho0 : v0.oneCell'=true := by
    have h := hval 0 41 v0 rfl rfl
    simp only[Value.okWide, Tryz.underlying41, Cell.okWide] at h
    cases v0 <;> simp_all [Cell.ok, Value.oneCell']
  obtain⟨a0, h0, hr0, hz0⟩ := Opn.arg ((Opn.int Tryz.underlying5 (by kernel_rfl)).slice Tryz.underlying41 (by kernel_rfl) (by decide)) hx0 ho0
  have hlaw : (uC a0).wp (·=true) := by rw[M.Y.rcodeOnce_eq a0 (fun x hx => by have := okU8 (h0.2 x hx); omega)]; rfl
  refine(Wo a0 true hlaw W All hT [v0] rfl (by
    intro i p v hp hv
    match i with
    | 0 => cases hp; cases hv; exact hr0
    | _+1 => cases hp)).mono fun e W' ⟨u, he, hbl, hru⟩ => ?_
  rw[hru.of_v] at he
  exact⟨_, he, wea Tryz.laidOut hW' rfl (fun ds h => by
    match ds, h with
    | [_], _ => exact⟨rfl, rfl, rfl⟩) rfl Tryz.underlying4 (by
    intro t ht
    rw[Tryz.params4] at ht
    simp only[List.mem_cons, List.not_mem_nil, or_false] at ht
    subst ht
    exact⟨by kernel_rfl, of_decide_eq_true (by kernel_rfl)⟩) hbl⟩
theorem rcodeOnce_row : Rows.RcodeOnceSaid :=
  OpenClaim.holds_of_cond 4 Tryz.f4 rfl rfl rfl rfl rfl rfl rfl ⟨rfl, rfl, rfl, rfl, rfl⟩ rfl rfl rfl rfl rfl (by kernel_rfl) Tryz.func4 (by kernel_rfl)
    (of_decide_eq_true (by kernel_rfl)) (by unfold Func.isWrapper; first | (rw[if_pos (by decide +kernel)]; kernel_rfl) | (rw[if_neg (by decide +kernel)]; exact⟨rfl, rfl⟩))
    (fun os started H enc _ F => by rw[OpenClaim.pre_eq_preRow]; exact rcodeOnce_lifted os started H enc F)
theorem rcodeOnce_said : Rows.RcodeOnceCardSaid :=
  Claim7.holds_tied_plain_at .later [] [.data] true (true, "7599d81d1f9558ceff0c87b3ab6edfe8ab2b5f4ed66e66e8d49867b738ce016f") false
    rcodeOnce_row (fun _ h => by cases h) (by kernel_rfl) (fun _ h => by cases h) rcodeOnce_row_tie rfl ⟨rfl, rfl⟩ (by kernel_rfl) rfl
    (fun f fn hf hfn => by
      obtain rfl : f = 4 := (Option.some.inj ((show Tryz.prog.funcNamed "epitaph/epitaphlaw31.RcodeOnce" = some 4 by kernel_rfl).symm.trans hf)).symm
      obtain rfl : fn=Tryz.f4 := (Option.some.inj (Tryz.func4.symm.trans hfn)).symm
      exact⟨by kernel_rfl, fun j t ht => by
        rw[Tryz.params4] at ht
        have hm : t∈[41] := List.mem_of_getElem? (by simpa using ht)
        simp only[List.mem_cons, List.not_mem_nil, or_false] at hm
        rcases hm with rfl
        · exact(show Tryz.prog.wantsStandIn 41=false by kernel_rfl)⟩)
    (by kernel_rfl)
end Go.Proofs.YtmjhkhdnbenhfaaGreatDoor

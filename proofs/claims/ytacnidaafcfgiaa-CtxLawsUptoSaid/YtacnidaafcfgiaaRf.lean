/- Proved: whatever it is handed (of bulk at most 1048576), epitaphlaw09.CtxLaws returns true, and what it was handed reads behind the call as it did. Conditions: the bulk of what is handed is at most 1048576. -/
import Derived.Test.YtacnidaafcfgiaaW9
import Derived.Test.YtacnidaafcfgiaaCq
import Derived.Test.YtacnidaafcfgiaaOp
import Derived.Test.YtacnidaafcfgiaaRows
import Derived.JoinedCond
import Derived.KernelRfl
namespace Go.Proofs.Ytacnidaafcfgiaa
open Go.Ep Go.ChangeShapes Go.WideShapes Go.RowKit
set_option maxHeartbeats 1000000
set_option maxRecDepth 100000
set_option linter.unusedVariables false
set_option linter.unusedSimpArgs false

theorem tot_sz (c : List TPart) : c.length ≤ szL TPart.sz c ∧ M.C.totC c ≤ szL TPart.sz c := by
  refine ⟨szL_len (sz := TPart.sz) (fun a => by unfold TPart.sz; omega) c, ?_⟩
  induction c with
  | nil => simp [M.C.totC, szL]
  | cons p r ih =>
    have e : M.C.totC (p :: r) = p.runs.length + M.C.totC r := by simp [M.C.totC]
    have h1 := szL_len (sz := TRun.sz) (fun a => by unfold TRun.sz; omega) p.runs
    have h2 : szL TPart.sz (p :: r) = TPart.sz p + szL TPart.sz r := by simp [szL]
    have h3 : szL TRun.sz p.runs ≤ TPart.sz p := by unfold TPart.sz; omega
    omega
theorem Try.own : ownKnob Try.prog.godebug = none := by kernel_rfl
theorem Try.laidOut : laidOutB Try.prog = true := by kernel_rfl
mutual
theorem bulk1 {H : Type} : ∀ d : DataW H, Rows.uptoBulk d = bulk d
  | .lit (.string bytes) => by simp only [Rows.uptoBulk, bulk]
  | .lit (.int _ _) => by simp only [Rows.uptoBulk, bulk]
  | .lit (.bool _) => by simp only [Rows.uptoBulk, bulk]
  | .lit (.float _ _) => by simp only [Rows.uptoBulk, bulk]
  | .lit .nil => by simp only [Rows.uptoBulk, bulk]
  | .nil => by simp only [Rows.uptoBulk, bulk]
  | .ptr d => by simp only [Rows.uptoBulk, bulk, bulk1 d]
  | .slice elems spare => by simp only [Rows.uptoBulk, bulk, bulk2 elems, bulk2 spare]
  | .agg parts => by simp only [Rows.uptoBulk, bulk, bulk2 parts]
  | .iface _ d => by simp only [Rows.uptoBulk, bulk, bulk1 d]
  | .map entries => by simp only [Rows.uptoBulk, bulk, bulk3 entries]
  | .held _ => by simp only [Rows.uptoBulk, bulk]
theorem bulk2 {H : Type} : ∀ l : List (DataW H), Rows.uptoBulkAll l = bulkAll l
  | [] => by simp only [Rows.uptoBulkAll, bulkAll]
  | d :: r => by simp only [Rows.uptoBulkAll, bulkAll, bulk1 d, bulk2 r]
theorem bulk3 {H : Type} : ∀ l : List (Lit × DataW H), Rows.uptoBulkEntries l = bulkEntries l
  | [] => by simp only [Rows.uptoBulkEntries, bulkEntries]
  | x :: r => by simp only [Rows.uptoBulkEntries, bulkEntries, bulk4 x, bulk3 r]
theorem bulk4 {H : Type} : ∀ x : Lit × DataW H, Rows.uptoBulkEntry x = bulkEntry x
  | (.string bytes, d) => by simp only [Rows.uptoBulkEntry, bulkEntry, bulk1 d]
  | (.int _ _, d) => by simp only [Rows.uptoBulkEntry, bulkEntry, bulk1 d]
  | (.bool _, d) => by simp only [Rows.uptoBulkEntry, bulkEntry, bulk1 d]
  | (.float _ _, d) => by simp only [Rows.uptoBulkEntry, bulkEntry, bulk1 d]
  | (.nil, d) => by simp only [Rows.uptoBulkEntry, bulkEntry, bulk1 d]
end
theorem ctxLaws_lifted (os : Os) (started : os.Started) (H : Type) (enc : TypeId × Value → H) (F : Stop.Interp) :
    ReturnsInHanded {} Try.checked os 9 .any ((Rows.OpenSpec.upto Rows.ctxLawsSpec).pre6 enc Try.prog Try.f9 Rows.ctxLawsUptoRow.domain false) (((Rows.OpenSpec.upto Rows.ctxLawsSpec).at F).post enc Try.prog Try.f9 false true false false) := by
  refine returnsInHanded_of_cond (C := Try.checked) (s := Rows.OpenSpec.upto Rows.ctxLawsSpec) (k := Rows.uptoSmall) rfl Try.own started (by kernel_rfl) Try.func9
    (OpenSpec.witness (enc := enc) (C := Try.checked) (s := Rows.OpenSpec.upto Rows.ctxLawsSpec) (k := Rows.uptoSmall) rfl false ⟨#[], #[.slice none 0 0, .slice none 0 0, .agg #[.int .u16 0, .int .u64 0]], []⟩ 8 (by kernel_rfl) (by kernel_rfl) (by kernel_rfl)
      (x := ([.nil, .nil, .agg [.lit (.int .u16 0), .lit (.int .u64 0)]], [], [])) (by kernel_rfl) rfl (by kernel_rfl)) ?_
  intro W base args ds gs before hval0 hW hcnd hk _
  have hval : ∀ (j : Nat) t v, Try.f9.params[j]? = some t → args[j]? = some v → Value.okWide Try.prog W .any base t v := hval0
  have hW' := hW
  obtain ⟨p, q, hA0, hV, rfl, hfz, hnd⟩ := hW
  have hA : DataW.TrodAll enc Try.prog W 0 (fun _ => true) true Try.f9.params.toList args.toList ds p := hA0
  rw [Try.params9] at hA hval
  obtain ⟨v0, v1, v2, d0, d1, d2, p0, p1, p2, rfl, rfl, rfl, hx0, hx1, hx2⟩ := trodAll_three hA
  have ho0 : v0.oneCell' = true := by
    have h := hval 0 24 v0 rfl rfl
    simp only [Value.okWide, Try.underlying24, Cell.okWide] at h
    cases v0 <;> simp_all [Cell.ok, Value.oneCell']
  obtain ⟨a0, h0, hr0, hz0⟩ := Opn.arg (opnTPart.slice Try.underlying24 (by kernel_rfl) (by decide)) hx0 ho0
  have ho1 : v1.oneCell' = true := by
    have h := hval 1 24 v1 rfl rfl
    simp only [Value.okWide, Try.underlying24, Cell.okWide] at h
    cases v1 <;> simp_all [Cell.ok, Value.oneCell']
  obtain ⟨a1, h1, hr1, hz1⟩ := Opn.arg (opnTPart.slice Try.underlying24 (by kernel_rfl) (by decide)) hx1 ho1
  obtain ⟨us2, rfl⟩ : ∃ us, v2 = .agg us := by
    have h := hval 2 38 v2 rfl rfl
    simp only [Value.okWide, Try.underlying38] at h
    obtain ⟨cs, h, _⟩ := h
    exact ⟨cs, h⟩
  obtain ⟨a2, h2, hr2, hz2⟩ := Opn.argAgg opnTDot hx2
  obtain ⟨rfl, rfl⟩ := trodVars_none hV
  have hb : (szL TPart.sz a0 + 1) + (szL TPart.sz a1 + 1) + TDot.sz a2 ≤ 1048576 := by
    have h : Rows.uptoBulkAll _ ≤ 1048576 := of_decide_eq_true hk
    rw [bulk2] at h
    simp only [List.append_nil, bulkAll] at h
    omega
  have hlaw : (l09_CtxLaws a0 a1 a2).wp (· = true) := by rw [M.C.ctxLaws_eq a0 a1 a2 (fun p hp => by have := okU16 (h0.2 p hp).1; omega) (fun p hp => by have := okU16 (h1.2 p hp).1; omega) (by have := tot_sz a0; omega) (by have := tot_sz a1; omega)]; rfl
  refine (l09_CtxLaws_ok a0 a1 a2 true hlaw W All [v0, v1, .agg us2] rfl (by
    intro i p v hp hv
    match i with
    | 0 => cases hp; cases hv; exact hr0
    | 1 => cases hp; cases hv; exact hr1
    | 2 => cases hp; cases hv; exact hr2
    | _ + 3 => cases hp)).mono fun e W' ⟨u, he, hbl, hru⟩ => ?_
  rw [hru.of_v] at he
  exact ⟨_, he, post_true Try.laidOut hW' rfl (fun ds h => by
    match ds, h with
    | [_, _, _], _ => exact ⟨rfl, rfl, rfl⟩) rfl Try.underlying4 (by
    intro t ht
    rw [Try.params9] at ht
    simp only [List.mem_cons, List.not_mem_nil, or_false] at ht
    rcases ht with rfl | rfl | rfl
    all_goals exact ⟨by kernel_rfl, of_decide_eq_true (by kernel_rfl)⟩) hbl⟩

theorem ctxLaws_said : Rows.CtxLawsUptoSaid :=
  OpenClaim.holds_of_cond 9 Try.f9 rfl rfl rfl rfl rfl rfl rfl ⟨rfl, rfl, rfl, rfl, rfl⟩ rfl rfl rfl rfl rfl (by kernel_rfl) Try.func9 (by kernel_rfl)
    (of_decide_eq_true (by kernel_rfl)) (by unfold Func.isWrapper; first | (rw [if_pos (by decide +kernel)]; kernel_rfl) | (rw [if_neg (by decide +kernel)]; exact ⟨rfl, rfl⟩))
    (fun os started H enc _ F => ctxLaws_lifted os started H enc F)
end Go.Proofs.Ytacnidaafcfgiaa

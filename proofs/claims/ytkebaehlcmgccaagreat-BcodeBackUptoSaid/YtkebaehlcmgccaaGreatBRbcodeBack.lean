/- Proved: whatever it is handed (of bulk at most 1048576), epitaphlaw21.BcodeBack returns true, and what it was handed reads behind the call as it did. Conditions: the bulk of what is handed is at most 1048576. -/
import Derived.Test.YtkebaehlcmgccaaGreatRows
import Derived.JoinedCond
import Derived.KernelRfl
import Derived.Test.YtkebaehlcmgccaaGreatBBk10
import Derived.Test.YtkebaehlcmgccaaGreatBBk13
namespace Go.Proofs.YtkebaehlcmgccaaGreat
open Go.Ep Go.ChangeShapes Go.WideShapes Go.RowKit
set_option maxHeartbeats 1000000
set_option maxRecDepth 100000
set_option linter.unusedVariables false
set_option linter.unusedSimpArgs false

theorem Tryz.own : ownKnob Tryz.prog.godebug = none := by kernel_rfl
theorem Tryz.laidOut : laidOutB Tryz.prog = true := by kernel_rfl
mutual
theorem bulk1 {H : Type} : ∀ d : DataW H, Rows.uptoBulk d = Xj d
  | .lit (.string bytes) => by simp only [Rows.uptoBulk, Xj]
  | .lit (.int _ _) => by simp only [Rows.uptoBulk, Xj]
  | .lit (.bool _) => by simp only [Rows.uptoBulk, Xj]
  | .lit (.float _ _) => by simp only [Rows.uptoBulk, Xj]
  | .lit .nil => by simp only [Rows.uptoBulk, Xj]
  | .nil => by simp only [Rows.uptoBulk, Xj]
  | .ptr d => by simp only [Rows.uptoBulk, Xj, bulk1 d]
  | .slice elems spare => by simp only [Rows.uptoBulk, Xj, bulk2 elems, bulk2 spare]
  | .agg parts => by simp only [Rows.uptoBulk, Xj, bulk2 parts]
  | .iface _ d => by simp only [Rows.uptoBulk, Xj, bulk1 d]
  | .map entries => by simp only [Rows.uptoBulk, Xj, bulk3 entries]
  | .held _ => by simp only [Rows.uptoBulk, Xj]
theorem bulk2 {H : Type} : ∀ l : List (DataW H), Rows.uptoBulkAll l = xy l
  | [] => by simp only [Rows.uptoBulkAll, xy]
  | d :: r => by simp only [Rows.uptoBulkAll, xy, bulk1 d, bulk2 r]
theorem bulk3 {H : Type} : ∀ l : List (Lit × DataW H), Rows.uptoBulkEntries l = Zi l
  | [] => by simp only [Rows.uptoBulkEntries, Zi]
  | x :: r => by simp only [Rows.uptoBulkEntries, Zi, bulk4 x, bulk3 r]
theorem bulk4 {H : Type} : ∀ x : Lit × DataW H, Rows.uptoBulkEntry x = Zj x
  | (.string bytes, d) => by simp only [Rows.uptoBulkEntry, Zj, bulk1 d]
  | (.int _ _, d) => by simp only [Rows.uptoBulkEntry, Zj, bulk1 d]
  | (.bool _, d) => by simp only [Rows.uptoBulkEntry, Zj, bulk1 d]
  | (.float _ _, d) => by simp only [Rows.uptoBulkEntry, Zj, bulk1 d]
  | (.nil, d) => by simp only [Rows.uptoBulkEntry, Zj, bulk1 d]
end
theorem bcodeBack_lifted (os : Os) (started : os.Started) (H : Type) (enc : TypeId × Value → H) (F : Stop.Interp) :
    ReturnsInHanded {} Tryz.checked os 4 .any ((Rows.OpenSpec.upto Rows.bcodeBackSpec).pre6 enc Tryz.prog Tryz.f4 Rows.bcodeBackUptoRow.domain false) (((Rows.OpenSpec.upto Rows.bcodeBackSpec).at F).post enc Tryz.prog Tryz.f4 false true false false) := by
  refine returnsInHanded_of_cond (C := Tryz.checked) (s := Rows.OpenSpec.upto Rows.bcodeBackSpec) (k := Rows.uptoSmall) rfl Tryz.own started (by kernel_rfl) Tryz.func4
    (OpenSpec.witness (enc := enc) (C := Tryz.checked) (s := Rows.OpenSpec.upto Rows.bcodeBackSpec) (k := Rows.uptoSmall) rfl false ⟨#[], #[.agg #[.slice none 0 0, .slice none 0 0, .slice none 0 0], .slice none 0 0, .slice none 0 0], []⟩ 8 (by kernel_rfl) (by kernel_rfl) (by kernel_rfl)
      (x := ([.agg [.nil, .nil, .nil], .nil, .nil], [], [])) (by kernel_rfl) rfl (by kernel_rfl)) ?_
  intro W base args ds gs before hval0 hW hcnd hk _
  have hval : ∀ (j : Nat) t v, Tryz.f4.params[j]? = some t → args[j]? = some v → Value.okWide Tryz.prog W .any base t v := hval0
  have hW' := hW
  obtain ⟨p, q, hA0, hV, rfl, hfz, hnd⟩ := hW
  have hA : DataW.TrodAll enc Tryz.prog W 0 (fun _ => true) true Tryz.f4.params.toList args.toList ds p := hA0
  rw [Tryz.params4] at hA hval
  obtain ⟨v0, v1, v2, d0, d1, d2, p0, p1, p2, rfl, rfl, rfl, hx0, hx1, hx2⟩ := trodAll_three hA
  obtain ⟨us0, rfl⟩ : ∃ us, v0 = .agg us := by
    have h := hval 0 34 v0 rfl rfl
    simp only [Value.okWide, Tryz.underlying34] at h
    obtain ⟨cs, h, _⟩ := h
    exact ⟨cs, h⟩
  obtain ⟨a0, h0, hr0, hz0⟩ := Opn.argAgg YHa hx0
  have ho1 : v1.oneCell' = true := by
    have h := hval 1 51 v1 rfl rfl
    simp only [Value.okWide, Tryz.underlying51, Cell.okWide] at h
    cases v1 <;> simp_all [Cell.ok, Value.oneCell']
  obtain ⟨a1, h1, hr1, hz1⟩ := Opn.arg (opnL18Act.slice Tryz.underlying51 (by kernel_rfl) (by decide)) hx1 ho1
  have ho2 : v2.oneCell' = true := by
    have h := hval 2 22 v2 rfl rfl
    simp only [Value.okWide, Tryz.underlying22, Cell.okWide] at h
    cases v2 <;> simp_all [Cell.ok, Value.oneCell']
  obtain ⟨a2, h2, hr2, hz2⟩ := Opn.arg ((Opn.int Tryz.underlying5 (by kernel_rfl)).slice Tryz.underlying22 (by kernel_rfl) (by decide)) hx2 ho2
  obtain ⟨rfl, rfl⟩ := trodVars_none hV
  have hb : DL.sz a0 + (szL LA.sz a1 + 1) + (szL (fun _ => 1) a2 + 1) ≤ 1048576 := by
    have h : Rows.uptoBulkAll _ ≤ 1048576 := of_decide_eq_true hk
    rw [bulk2] at h
    simp only [List.append_nil, xy] at h
    omega
  have hlaw : (uq a0 a1 a2).wp (· = true) := by rw [M.G.xMa a0 a1 a2 (fun a ha => by have g := h1.2 a ha; exact ⟨fun ht => (by have h := g.2.1; have h1 := okU8 h.2.1; have h2 := uGa h.2.2.1; have h3 := okU8 h.2.2.2.1; have hd1 := qp h.1.1; have hd2 := uGa h.1.2; exact ⟨⟨hd1.1, by omega, hd2.1, by omega⟩, ⟨h1.1, by omega⟩, ⟨h2.1, by omega⟩, ⟨h3.1, by omega⟩, by omega, (fun d hd => by have g := h.2.2.2.2.2.2 d hd; have g1 := qp g.1; have g2 := uGa g.2; exact ⟨g1.1, by omega, g2.1, by omega⟩), by omega⟩), (fun p hp => by have := qp (g.2.2.2 p hp).1; omega)⟩) (fun a ha p hp => by have g := h1.2 a ha; have := qp (g.2.2.2 p hp).1; omega) ⟨(fun p hp => by have := qp (h0.1.2 p hp).1; omega), (fun p hp => by have := qp (h0.2.1.2 p hp).1; omega), (fun e he ht => by have h := h0.2.2.2 e he; have h1 := okU8 h.2.1; have h2 := uGa h.2.2.1; have h3 := okU8 h.2.2.2.1; have hd1 := qp h.1.1; have hd2 := uGa h.1.2; exact ⟨⟨hd1.1, by omega, hd2.1, by omega⟩, ⟨h1.1, by omega⟩, ⟨h2.1, by omega⟩, ⟨h3.1, by omega⟩, by omega, (fun d hd => by have g := h.2.2.2.2.2.2 d hd; have g1 := qp g.1; have g2 := uGa g.2; exact ⟨g1.1, by omega, g2.1, by omega⟩), by omega⟩)⟩ (fun p hp => by have := qp (h0.1.2 p hp).1; omega) (fun p hp => by have := qp (h0.2.1.2 p hp).1; omega) (fun x hx => by have := okU8 (h2.2 x hx); omega) (by have := szL_len (sz := fun (_ : Int) => 1) (fun _ => Nat.le_refl _) a2; omega)]; rfl
  refine (jM a0 a1 a2 true hlaw W All [.agg us0, v1, v2] rfl (by
    intro i p v hp hv
    match i with
    | 0 => cases hp; cases hv; exact hr0
    | 1 => cases hp; cases hv; exact hr1
    | 2 => cases hp; cases hv; exact hr2
    | _ + 3 => cases hp)).mono fun e W' ⟨u, he, hbl, hru⟩ => ?_
  rw [hru.of_v] at he
  exact ⟨_, he, YGa Tryz.laidOut hW' rfl (fun ds h => by
    match ds, h with
    | [_, _, _], _ => exact ⟨rfl, rfl, rfl⟩) rfl Tryz.underlying4 (by
    intro t ht
    rw [Tryz.params4] at ht
    simp only [List.mem_cons, List.not_mem_nil, or_false] at ht
    rcases ht with rfl | rfl | rfl
    all_goals exact ⟨by kernel_rfl, of_decide_eq_true (by kernel_rfl)⟩) hbl⟩

theorem bcodeBack_said : Rows.BcodeBackUptoSaid :=
  OpenClaim.holds_of_cond 4 Tryz.f4 rfl rfl rfl rfl rfl rfl rfl ⟨rfl, rfl, rfl, rfl, rfl⟩ rfl rfl rfl rfl rfl (by kernel_rfl) Tryz.func4 (by kernel_rfl)
    (of_decide_eq_true (by kernel_rfl)) (by unfold Func.isWrapper; first | (rw [if_pos (by decide +kernel)]; kernel_rfl) | (rw [if_neg (by decide +kernel)]; exact ⟨rfl, rfl⟩))
    (fun os started H enc _ F => bcodeBack_lifted os started H enc F)
end Go.Proofs.YtkebaehlcmgccaaGreat

/- Texts that the walks and laws lean on, side by side. -/
import Derived.ProofKit
import Derived.Deep.Slices
import Derived.Test.YtacnidaafcfgiaaProg
import Derived.KernelRfl
import Derived.Test.YtacnidaafcfgiaaMda2
import Derived.Test.YtacnidaafcfgiaaMda7
namespace Go.Ep.M.D
open Go

theorem lt_iff {a b : TDot} : ltDot a b = true ↔ a.dev < b.dev ∨ (a.dev = b.dev ∧ a.n < b.n) := by simp [ltDot]
theorem lt_asym {a b : TDot} (h : ltDot a b = true) : ltDot b a = false := by
  cases h2 : ltDot b a with
  | false => rfl
  | true => rw [lt_iff] at h h2; omega
theorem srt_wp {l : List TDot} {Q : List TDot → Prop} (h : ∀ s, s.Perm l → (s.Pairwise fun x y => ltDot y x = false) → Q s) : (srt ltDot l).wp Q := by
  refine ⟨⟨l.mergeSort (fun x y => !ltDot y x), List.mergeSort_perm _ _, ?_⟩, fun s ⟨h1, h2⟩ => h s h1 h2⟩
  refine (List.pairwise_mergeSort (fun a b c h1 h2 => ?_) (fun a b => ?_) l).imp fun {x y} h => by simpa using h
  · simp only [Bool.not_eq_true'] at h1 h2 ⊢
    cases h3 : ltDot c a with
    | false => rfl
    | true =>
      rw [lt_iff] at h3
      have h4 : ¬ (ltDot b a = true) := by simp [h1]
      have h5 : ¬ (ltDot c b = true) := by simp [h2]
      rw [lt_iff] at h4 h5
      omega
  · cases h1 : ltDot b a with
    | false => rfl
    | true => rw [lt_asym h1]; rfl
/-- A loop that puts bytes behind, for each element some. -/
theorem loopApp {σ ρ ε : Type} {body : σ → M (Step σ ρ)} (l : List ε) (f : ε → List Int) (row : List Int) (N : Nat) (mk : Nat → List Int → σ) (g : List Int → M ρ) (hN : row.length + (l.flatMap f).length ≤ N)
    (h1 : ∀ (i : Nat) (x : ε) (out : List Int), l[i]? = some x → i < l.length → out.length + (f x).length ≤ N → body (mk i out) = pure (.next (mk (i + 1) (out ++ f x))))
    (h2 : ∀ out, body (mk l.length out) = (g out).bind fun r => pure (.done r)) : loop body (mk 0 row) = g (row ++ l.flatMap f) := by
  have key : ∀ (k i : Nat) (out : List Int), i + k = l.length → out.length + ((l.drop i).flatMap f).length ≤ N → loop body (mk i out) = g (out ++ (l.drop i).flatMap f) := by
    intro k
    induction k with
    | zero =>
      intro i out hi _
      have : i = l.length := by omega
      subst this
      rw [loop_eq, h2, List.drop_length]
      simp only [List.flatMap_nil, List.append_nil]
      rfl
    | succ k ih =>
      intro i out hi hl
      have hlt : i < l.length := by omega
      rw [List.drop_eq_getElem_cons hlt, List.flatMap_cons, List.length_append] at hl
      rw [loop_next (h1 i l[i] out (List.getElem?_eq_getElem hlt) hlt (by omega)), ih (i + 1) _ (by omega) (by rw [List.length_append]; omega), List.drop_eq_getElem_cons hlt, List.flatMap_cons, List.append_assoc]
  simpa using key l.length 0 row (by omega) (by simpa using hN)
theorem flat_len {ε : Type} (l : List ε) (f : ε → List Int) (k : Nat) (h : ∀ x ∈ l, (f x).length ≤ k) : (l.flatMap f).length ≤ k * l.length := by
  induction l with
  | nil => simp
  | cons x r ih =>
    have h1 := h x (by simp)
    have h2 := ih fun y hy => h y (by simp [hy])
    rw [List.flatMap_cons, List.length_append, List.length_cons, Nat.mul_add]; omega

structure OkD (d : TDot) : Prop where
  d0 : 0 ≤ d.dev
  d1 : d.dev ≤ 65535
  n0 : 0 ≤ d.n
  n1 : d.n ≤ 18446744073709551615
def encD (d : TDot) : List Int := N.encI d.dev ++ N.encI d.n
def encR (x : TRun) : List Int := N.encI x.lo ++ N.encI x.hi
def encP (p : TPart) : List Int := N.encI p.dev ++ (N.encI p.runs.length ++ p.runs.flatMap encR)
def encN (c : List TPart) : List Int := N.encI c.length ++ c.flatMap encP
def encC (c : List TPart) : List Int := encN (C.normC c)
structure OkP (p : TPart) : Prop where
  d0 : 0 ≤ p.dev
  d1 : p.dev ≤ 65535
  r : ∀ x ∈ p.runs, (0 ≤ x.lo ∧ x.lo ≤ 18446744073709551615) ∧ 0 ≤ x.hi ∧ x.hi ≤ 18446744073709551615
theorem encR_len {x : TRun} (h : (0 ≤ x.lo ∧ x.lo ≤ 18446744073709551615) ∧ 0 ≤ x.hi ∧ x.hi ≤ 18446744073709551615) : (encR x).length ≤ 18 := by
  have h1 := N.encI_len h.1.2
  have h2 := N.encI_len h.2.2
  rw [encR, List.length_append]; omega
theorem encP_len {p : TPart} (h : OkP p) (hl : p.runs.length ≤ 1000000000000) : (encP p).length ≤ 18 + 18 * p.runs.length := by
  have h1 := N.encI_len (v := p.dev) (by have := h.d1; omega)
  have h2 := N.encI_len (v := (p.runs.length : Int)) (by omega)
  have h3 := flat_len p.runs encR 18 fun x hx => encR_len (h.r x hx)
  rw [encP, List.length_append, List.length_append]; omega
theorem flatP_len (c : List TPart) (h : ∀ p ∈ c, OkP p) (hl : C.totC c ≤ 1000000000000) : (c.flatMap encP).length ≤ 18 * c.length + 18 * C.totC c := by
  induction c with
  | nil => simp
  | cons p r ih =>
    have e : C.totC (p :: r) = p.runs.length + C.totC r := by simp [C.totC]
    have h1 := encP_len (h p (by simp)) (by omega)
    have h2 := ih (fun q hq => h q (by simp [hq])) (by omega)
    rw [List.flatMap_cons, List.length_append, List.length_cons, e]; omega
theorem encN_len {c : List TPart} (h : ∀ p ∈ c, OkP p) (hc : c.length ≤ 1000000000000) (hl : C.totC c ≤ 1000000000000) : (encN c).length ≤ 9 + 18 * c.length + 18 * C.totC c := by
  have h1 := N.encI_len (v := (c.length : Int)) (by omega)
  have h2 := flatP_len c h hl
  rw [encN, List.length_append]; omega
theorem okP_norm {c : List TPart} (h : ∀ p ∈ c, p.dev ≤ 65535) : ∀ p ∈ C.normC c, OkP p := fun p hp => by
  have h1 := (C.canon_norm c).nf p hp
  refine ⟨by omega, ?_, fun x hx => ?_⟩
  · have h2 := (C.mem_partsOf.1 hp).1
    obtain ⟨q, hq, e⟩ := (C.mem_devs.1 h2).1
    rw [← e]; exact h q hq
  · have := R.mayR_iff.1 (h1.2.2.may x hx)
    omega


theorem PutCtx_eq {c : List TPart} (ho : C.Ok c) (h : ∀ p ∈ c, p.dev ≤ 65535) (hs : c.length ≤ 100000000 ∧ C.totC c ≤ 100000000) (row : List Int) (hr : row.length ≤ 100000000000) : dcode_PutCtx_o c row = pure (row ++ encC c) := by
  have hn := C.len_normC c
  have ht := C.tot_normC c
  have hp := okP_norm h
  have hl := encN_len hp (by omega) (by omega)
  have h9 := N.encI_len (v := ((C.normC c).length : Int)) (by omega)
  have hf := flatP_len (C.normC c) hp (by omega)
  unfold dcode_PutCtx_o
  rw [C.Norm_eq c ho.sm, det_pure, pure_bind, wU64 (by omega) (by omega), N.WNum_eq row (by omega) (by omega) (by omega), det_pure, pure_bind]
  have := loopApp (body := dcode_PutCtx_o_l1 (C.normC c)) (C.normC c) encP (row ++ N.encI ((C.normC c).length : Int)) 1000000000000 (fun i out => ((i : Int), out)) (fun t => pure t) (by rw [List.length_append]; omega) (fun i p out hx hi hout => by
    have hd : decide ((i : Int) < ((C.normC c).length : Int)) = true := by simpa using hi
    have hm := List.mem_of_getElem? hx
    have hpp := hp p hm
    have hrl : p.runs.length ≤ 1000000000 := by have := C.run_le p hm; omega
    have e1 := N.encI_len (v := p.dev) (by have := hpp.d1; omega)
    have e2 := N.encI_len (v := (p.runs.length : Int)) (by omega)
    have e3 := flat_len p.runs encR 18 fun x hx => encR_len (hpp.r x hx)
    unfold dcode_PutCtx_o_l1
    simp only [hd, cond_true, idx_nat hx, pure_bind]
    rw [wU64 hpp.d0 (by have := hpp.d1; omega), N.WNum_eq out hpp.d0 (by have := hpp.d1; omega) (by omega), det_pure, pure_bind, wU64 (by omega) (by omega), N.WNum_eq _ (by omega) (by omega) (by rw [List.length_append]; omega), det_pure, pure_bind]
    have := loopApp (body := dcode_PutCtx_o_l0 p) p.runs encR (out ++ N.encI p.dev ++ N.encI (p.runs.length : Int)) 2000000000000 (fun i out => ((i : Int), out)) (fun t => pure t) (by rw [List.length_append, List.length_append]; omega) (fun j x out2 hx2 hj hout2 => by
      have hd2 : decide ((j : Int) < (p.runs.length : Int)) = true := by simpa using hj
      have hxr := hpp.r x (List.mem_of_getElem? hx2)
      have e4 := N.encI_len hxr.1.2
      unfold dcode_PutCtx_o_l0
      simp only [hd2, cond_true, idx_nat hx2, pure_bind]
      rw [N.WNum_eq out2 hxr.1.1 hxr.1.2 (by omega), det_pure, pure_bind, N.WNum_eq _ hxr.2.1 hxr.2.2 (by rw [List.length_append]; omega), det_pure, pure_bind, wSucc (show j < 9223372036854775807 by omega), encR, List.append_assoc]) (fun out => by
      unfold dcode_PutCtx_o_l0
      simp [pure_bind])
    rw [show (0 : Int) = ((0 : Nat) : Int) from rfl, this, pure_bind, wSucc (show i < 9223372036854775807 by omega), encP]
    simp only [List.append_assoc]) (fun out => by
    unfold dcode_PutCtx_o_l1
    simp [pure_bind])
  rw [show (0 : Int) = ((0 : Nat) : Int) from rfl, this, encC, encN, List.append_assoc]
theorem encC_len {c : List TPart} (h : ∀ p ∈ c, p.dev ≤ 65535) (hs : c.length ≤ 100000000 ∧ C.totC c ≤ 100000000) : (encC c).length ≤ 10000000000 := by
  have hn := C.len_normC c
  have ht := C.tot_normC c
  have hl := encN_len (okP_norm h) (by omega) (by omega)
  rw [encC]; omega
theorem Encode_eq {c : List TPart} (ho : C.Ok c) (h : ∀ p ∈ c, p.dev ≤ 65535) (hs : c.length ≤ 100000000 ∧ C.totC c ≤ 100000000) : dcode_Encode c = pure (encC c) := by
  have := encC_len h hs
  unfold dcode_Encode
  rw [PutCtx_eq ho h hs [] (by simp), det_pure, pure_bind, List.nil_append, N.Bytes_eq _ (by omega), det_pure, pure_bind]
theorem equal_eq {a b : List Int} : l15_equal a b = pure (decide (strL a = strL b)) := rfl
theorem ctx_one : C.normC [⟨1, [⟨1, 2⟩]⟩] = [⟨1, [⟨1, 2⟩]⟩] := (C.Canon.eq_norm ⟨by simp [C.OrdP], fun p hp => by
  rw [List.mem_singleton.1 hp]
  exact ⟨by decide, by simp, by simp [R.Nf, R.mayR_iff]⟩⟩).symm
theorem works_eq : l15_works = pure true := by
  unfold l15_works
  have ho : C.Ok [⟨1, [⟨1, 2⟩]⟩] := ⟨fun p hp => by rw [List.mem_singleton.1 hp]; decide, by simp, by simp [C.totC]⟩
  rw [Encode_eq ho (fun p hp => by rw [List.mem_singleton.1 hp]; decide) (by simp [C.totC]), det_pure, pure_bind, equal_eq, det_pure, pure_bind]
  have e : encC [⟨1, [⟨1, 2⟩]⟩] = [1, 1, 1, 1, 1, 1, 1, 1, 1, 2] := by
    rw [encC, ctx_one]
    have e1 : N.encI 1 = [1, 1] := by
      show (N.lenN 1 : Int) :: N.be 1 (N.lenN 1) = _
      have : N.lenN 1 = 1 := by rw [N.lenN_pos (by decide), show 1 / 256 = 0 from rfl, N.lenN_zero]
      rw [this]; rfl
    have e2 : N.encI 2 = [1, 2] := by
      show (N.lenN 2 : Int) :: N.be 2 (N.lenN 2) = _
      have : N.lenN 2 = 1 := by rw [N.lenN_pos (by decide), show 2 / 256 = 0 from rfl, N.lenN_zero]
      rw [this]; rfl
    simp [encN, encP, encR, e1, e2]
  rw [e]; simp
open N (RS Ok numS uptoS failS endS OkB Sim)

def bad4 (c : Bool) (s : RS) : RS := if c = true then failS 4 s else s
def fin {α : Type} (z x : α) (t : RS) : α × RS := if t.2 ≠ 0 then (z, t) else (x, t)
theorem fail_le (e : Int) (s : RS) : (failS e s).1.length ≤ s.1.length := by unfold failS; split <;> simp
theorem ok_bad4 {s : RS} (h : Ok s) (c : Bool) : Ok (bad4 c s) := by unfold bad4; split; exact N.ok_fail h _; exact h
theorem bad4_ok {c : Bool} {s : RS} (h : (bad4 c s).2 = 0) : c = false ∧ s.2 = 0 ∧ bad4 c s = s := by
  unfold bad4 at h ⊢
  cases c with
  | true => exact absurd h (N.fail_bad (by decide))
  | false => exact ⟨rfl, h, rfl⟩
theorem bad4_true {s : RS} : (bad4 true s).2 ≠ 0 := N.fail_bad (by decide)
theorem bad4_false {s : RS} : bad4 false s = s := rfl
theorem fin_st {α : Type} (z x : α) (t : RS) : (fin z x t).2 = t := by unfold fin; split <;> rfl
theorem fin_ok {α : Type} {z x : α} {t : RS} (h : t.2 = 0) : fin z x t = (x, t) := if_neg (by simp [h])
theorem fin_bad {α : Type} {z x : α} {t : RS} (h : t.2 ≠ 0) : fin z x t = (z, t) := if_pos h
theorem num_le (s : RS) : (numS s).2.1.length ≤ s.1.length := by
  unfold numS
  split
  · exact Nat.le_refl _
  · split
    · exact fail_le _ _
    · simp
theorem num_lt {s : RS} (hO : Ok s) (h0 : s.2 = 0) (h : (numS s).2.2 = 0) : (numS s).2.1.length + 1 ≤ s.1.length := by
  unfold numS at h ⊢
  rw [if_neg (by simp [h0])] at h ⊢
  by_cases c : (N.rdN s.1).2.2 = 0
  · rw [if_neg (by simp [c])]
    rcases N.rdN_cases s.1 hO.by_ with (h1 | h1) | ⟨n, r, h1, h2, h3, h4, _, h5⟩
    · rw [h1] at c; simp at c
    · rw [h1] at c; simp at c
    · rw [h5, h1]; simp
  · rw [if_pos c] at h
    exact absurd h (N.fail_bad c)
theorem num_zero {s : RS} (h : (numS s).2.2 ≠ 0) : (numS s).1 = 0 := by
  unfold numS at h ⊢
  by_cases c : s.2 ≠ 0
  · rw [if_pos c]
  · rw [if_neg c] at h ⊢
    by_cases c2 : (N.rdN s.1).2.2 ≠ 0
    · rw [if_pos c2]
    · rw [if_neg c2] at h; exact absurd rfl h
theorem num_bad {s : RS} (h : s.2 ≠ 0) : (numS s).2 = s := by rw [N.num_of h]
theorem num_ok {s : RS} (h : (numS s).2.2 = 0) : s.2 = 0 := Classical.byContradiction fun c => by rw [num_bad c] at h; exact c h
theorem upto_ok {m : Int} {s : RS} (h : (uptoS m s).2.2 = 0) : (numS s).2.2 = 0 ∧ uptoS m s = numS s := by
  unfold uptoS at h ⊢
  by_cases c : m < (numS s).1
  · rw [if_pos c] at h; exact absurd h (N.fail_bad (by decide))
  · rw [if_neg c] at h ⊢; exact ⟨h, rfl⟩

variable {B : List Int} {a : Int} {s : RS}
open N (RS Ok numS uptoS failS endS OkB Sim)

def runsL : Nat → List TRun → RS → List TRun × RS
  | 0, out, s => (out, s)
  | k + 1, out, s =>
    if (numS (numS s).2).2.2 ≠ 0 then (out ++ [⟨(numS s).1, (numS (numS s).2).1⟩], (numS (numS s).2).2) else runsL k (out ++ [⟨(numS s).1, (numS (numS s).2).1⟩]) (numS (numS s).2).2
def partS (s : RS) : TPart × RS := (⟨(uptoS 65535 s).1, (runsL (numS (uptoS 65535 s).2).1.toNat [] (numS (uptoS 65535 s).2).2).1⟩, (runsL (numS (uptoS 65535 s).2).1.toNat [] (numS (uptoS 65535 s).2).2).2)
theorem runsL_bad {k : Nat} {out : List TRun} {s : RS} (h : (numS (numS s).2).2.2 ≠ 0) : runsL (k + 1) out s = (out ++ [⟨(numS s).1, (numS (numS s).2).1⟩], (numS (numS s).2).2) := if_pos h
theorem runsL_next {k : Nat} {out : List TRun} {s : RS} (h : (numS (numS s).2).2.2 = 0) : runsL (k + 1) out s = runsL k (out ++ [⟨(numS s).1, (numS (numS s).2).1⟩]) (numS (numS s).2).2 := if_neg (by simp [h])
theorem two_lt {s : RS} (hO : Ok s) (h0 : s.2 = 0) (h : (numS (numS s).2).2.2 = 0) : (numS (numS s).2).2.1.length + 2 ≤ s.1.length := by
  have h1 := num_ok h
  have h2 := num_lt hO h0 h1
  have h3 := num_lt (N.ok_num hO).1 h1 h
  omega
theorem two_le (s : RS) : (numS (numS s).2).2.1.length ≤ s.1.length := Nat.le_trans (num_le _) (num_le _)
def RunOk (x : TRun) : Prop := (0 ≤ x.lo ∧ x.lo ≤ 18446744073709551615) ∧ 0 ≤ x.hi ∧ x.hi ≤ 18446744073709551615
theorem ok_two {s : RS} (h : Ok s) : Ok (numS (numS s).2).2 ∧ RunOk ⟨(numS s).1, (numS (numS s).2).1⟩ := by
  obtain ⟨h1, h2, h3⟩ := N.ok_num h
  obtain ⟨h4, h5, h6⟩ := N.ok_num h1
  exact ⟨h4, ⟨h2, h3⟩, h5, h6⟩
theorem runsL_props : ∀ (k : Nat) (out : List TRun) (s : RS), Ok s → s.2 = 0 → (∀ x ∈ out, RunOk x) → Ok (runsL k out s).2 ∧ (∀ x ∈ (runsL k out s).1, RunOk x) ∧ (runsL k out s).1.length + (runsL k out s).2.1.length ≤ out.length + s.1.length + 1 ∧
    ((runsL k out s).2.2 = 0 → (runsL k out s).1.length + (runsL k out s).2.1.length ≤ out.length + s.1.length ∧ (runsL k out s).1.length = out.length + k)
  | 0, out, s, h, _, ho => ⟨h, ho, by show out.length + s.1.length ≤ _; omega, fun _ => ⟨Nat.le_refl _, rfl⟩⟩
  | k + 1, out, s, h, h0, ho => by
    obtain ⟨h1, h2⟩ := ok_two h
    have ho' : ∀ x ∈ out ++ [⟨(numS s).1, (numS (numS s).2).1⟩], RunOk x := fun x hx => by
      rcases List.mem_append.1 hx with h | h
      · exact ho x h
      · rw [List.mem_singleton.1 h]; exact h2
    by_cases c : (numS (numS s).2).2.2 = 0
    · rw [runsL_next c]
      obtain ⟨q1, q2, q3, q4⟩ := runsL_props k _ _ h1 c ho'
      have hlt := two_lt h h0 c
      simp only [List.length_append, List.length_singleton] at q3 q4
      refine ⟨q1, q2, by omega, fun hz => ?_⟩
      have := q4 hz
      omega
    · rw [runsL_bad c]
      have := two_le s
      exact ⟨h1, ho', by simp; omega, fun hz => absurd hz c⟩
theorem part_loop {y5 : Int × List Int × Int} (hn : 0 ≤ y5.1 ∧ y5.1 ≤ 18446744073709551615) : ∀ (k i : Nat) (out : List TRun) (s : RS), (i : Int) + k = y5.1 → Ok s → s.2 = 0 → out.length + s.1.length ≤ 1000000000 →
    loop (dcode_part_o_l0 y5) ((i : Int), out, s.1, s.2) = pure (runsL k out s)
  | 0, i, out, s, hi, _, _, _ => by
    exact loop_done (by
      unfold dcode_part_o_l0
      have : decide ((i : Int) < y5.1) = false := by simp; omega
      simp only [this, cond_false]
      rfl)
  | k + 1, i, out, s, hi, hO, h0, hl => by
    obtain ⟨h1, h2, h3⟩ := N.ok_num hO
    have hc : decide ((i : Int) < y5.1) = true := by simp; omega
    have hw : IntKind.u64.wrap ((i : Int) + 1) = ((i + 1 : Nat) : Int) := by rw [wU64 (by omega) (by omega)]; omega
    have hb : dcode_part_o_l0 y5 ((i : Int), out, s.1, s.2) = cond (!decide ((numS (numS s).2).2.2 = 0)) (pure (.done (out ++ [⟨(numS s).1, (numS (numS s).2).1⟩], (numS (numS s).2).2))) (pure (.next (((i + 1 : Nat) : Int), out ++ [⟨(numS s).1, (numS (numS s).2).1⟩], (numS (numS s).2).2.1, (numS (numS s).2).2.2))) := by
      unfold dcode_part_o_l0
      simp only [hc, cond_true, N.Num_eq hO, N.Num_eq h1, det_pure, pure_bind, N.Err_eq]
      rw [need_true (by simp; omega), hw]
    by_cases c : (numS (numS s).2).2.2 = 0
    · have hlt := two_lt hO h0 c
      rw [decide_eq_true c, Bool.not_true, cond_false] at hb
      rw [loop_next hb, runsL_next c]
      exact part_loop hn k (i + 1) _ (numS (numS s).2).2 (by omega) (ok_two hO).1 c (by simp; omega)
    · rw [decide_eq_false c, Bool.not_false, cond_true] at hb
      rw [loop_done hb, runsL_bad c]
theorem part_eq {s : RS} (hO : Ok s) : dcode_part_o s.1 s.2 = pure (partS s) := by
  obtain ⟨h1, h2, h3⟩ := N.ok_upto hO (m := 65535) (by decide)
  obtain ⟨h4, h5, h6⟩ := N.ok_num h1
  unfold dcode_part_o partS
  rw [N.Upto_eq hO, det_pure, pure_bind, N.Num_eq h1, det_pure, pure_bind, wU16 h2 h3]
  by_cases c : (numS (uptoS 65535 s).2).2.2 = 0
  · have := part_loop (y5 := numS (uptoS 65535 s).2) ⟨h5, h6⟩ (numS (uptoS 65535 s).2).1.toNat 0 [] (numS (uptoS 65535 s).2).2 (by omega) h4 c (by simp; have := h4.len; omega)
    rw [show ((0 : Nat) : Int) = 0 from rfl] at this
    rw [this, pure_bind]
  · have hz := num_zero c
    rw [hz, loop_done (r := ([], (numS (uptoS 65535 s).2).2)) (by
      unfold dcode_part_o_l0
      simp only [hz, show decide ((0 : Int) < 0) = false from rfl, cond_false]), pure_bind]
    rfl
theorem part_props {s : RS} (hO : Ok s) (h0 : s.2 = 0) : Ok (partS s).2 ∧ OkP (partS s).1 ∧ ((partS s).1.runs.length ≤ 1000000001) ∧ ((partS s).2.2 = 0 → (partS s).1.runs.length + (partS s).2.1.length + 2 ≤ s.1.length) := by
  obtain ⟨h1, h2, h3⟩ := N.ok_upto hO (m := 65535) (by decide)
  obtain ⟨h4, h5, h6⟩ := N.ok_num h1
  have hl := h4.len
  unfold partS
  by_cases c : (numS (uptoS 65535 s).2).2.2 = 0
  · obtain ⟨q1, q2, q3, q4⟩ := runsL_props (numS (uptoS 65535 s).2).1.toNat [] _ h4 c (by simp)
    refine ⟨q1, ⟨h2, h3, q2⟩, by simp at q3 ⊢; omega, fun hz => ?_⟩
    have hq := q4 hz
    obtain ⟨e1, e2⟩ := upto_ok (num_ok c)
    have h7 := num_lt hO h0 e1
    have h8 := num_lt h1 (num_ok c) c
    rw [e2] at h8 hq ⊢
    simp only [List.length_nil, Nat.zero_add] at hq ⊢
    omega
  · rw [num_zero c]
    refine ⟨h4, ⟨h2, h3, by intro x hx; cases hx⟩, by simp [runsL], fun hz => absurd hz c⟩
def ctxL : Nat → List TPart → RS → Bool × List TPart × RS
  | 0, out, s => (true, out, s)
  | k + 1, out, s => if (partS s).2.2 ≠ 0 then (false, [], (partS s).2) else ctxL k (out ++ [(partS s).1]) (partS s).2
def ctxS (s : RS) : List TPart × RS :=
  let r := ctxL (numS s).1.toNat [] (numS s).2
  if r.1 = true then fin [] r.2.1 (bad4 (!decide (r.2.1 = C.normC r.2.1)) r.2.2) else ([], r.2.2)
theorem ctxL_bad {k : Nat} {out : List TPart} {s : RS} (h : (partS s).2.2 ≠ 0) : ctxL (k + 1) out s = (false, [], (partS s).2) := if_pos h
theorem ctxL_next {k : Nat} {out : List TPart} {s : RS} (h : (partS s).2.2 = 0) : ctxL (k + 1) out s = ctxL k (out ++ [(partS s).1]) (partS s).2 := if_neg (by simp [h])
theorem tot_snoc (c : List TPart) (p : TPart) : C.totC (c ++ [p]) = C.totC c + p.runs.length := by rw [C.totC_app]; simp [C.totC]
theorem ctxL_props : ∀ (k : Nat) (out : List TPart) (s : RS), Ok s → s.2 = 0 → (∀ p ∈ out, OkP p) → out.length + C.totC out + s.1.length ≤ 1000000000 → Ok (ctxL k out s).2.2 ∧ (∀ p ∈ (ctxL k out s).2.1, OkP p) ∧ (ctxL k out s).2.1.length + C.totC (ctxL k out s).2.1 ≤ 1000000000 ∧
    ((ctxL k out s).1 = true ↔ (ctxL k out s).2.2.2 = 0) ∧ ((ctxL k out s).1 = true → (ctxL k out s).2.1.length = out.length + k ∧ (ctxL k out s).2.2.1.length ≤ s.1.length)
  | 0, out, s, h, h0, ho, hl => ⟨h, ho, by show out.length + C.totC out ≤ _; omega, ⟨fun _ => h0, fun _ => rfl⟩, fun _ => ⟨rfl, Nat.le_refl _⟩⟩
  | k + 1, out, s, h, h0, ho, hl => by
    obtain ⟨h1, h2, h3, h4⟩ := part_props h h0
    by_cases c : (partS s).2.2 = 0
    · rw [ctxL_next c]
      have := h4 c
      obtain ⟨q1, q2, q3, q4, q5⟩ := ctxL_props k (out ++ [(partS s).1]) (partS s).2 h1 c (fun p hp => by
        rcases List.mem_append.1 hp with h | h
        · exact ho p h
        · rw [List.mem_singleton.1 h]; exact h2) (by rw [tot_snoc]; simp; omega)
      refine ⟨q1, q2, q3, q4, fun hz => ?_⟩
      have := q5 hz
      simp at this; omega
    · rw [ctxL_bad c]
      exact ⟨h1, by simp, by simp [C.totC], ⟨fun h => (by cases h), fun h => absurd h c⟩, fun h => (by cases h)⟩
theorem ctxL_nil : ∀ (k : Nat) (out : List TPart) (s : RS), (ctxL k out s).1 = false → (ctxL k out s).2.1 = []
  | 0, out, s, h => by cases h
  | k + 1, out, s, h => by
    by_cases c : (partS s).2.2 = 0
    · rw [ctxL_next c] at h ⊢; exact ctxL_nil k _ _ h
    · rw [ctxL_bad c]
theorem ctx_loop {y3 : Int × List Int × Int} (hn : 0 ≤ y3.1 ∧ y3.1 ≤ 18446744073709551615) : ∀ (k i : Nat) (out : List TPart) (s : RS), (i : Int) + k = y3.1 → Ok s → s.2 = 0 → out.length + s.1.length ≤ 1000000000 →
    loop (dcode_Ctx_o_l0 y3) ((i : Int), out, s.1, s.2) = pure (if (ctxL k out s).1 = true then .brk (ctxL k out s).2 else .ret (ctxL k out s).2)
  | 0, i, out, s, hi, _, _, _ => by
    exact loop_done (by
      unfold dcode_Ctx_o_l0
      have : decide ((i : Int) < y3.1) = false := by simp; omega
      simp only [this, cond_false]
      rfl)
  | k + 1, i, out, s, hi, hO, h0, hl => by
    obtain ⟨h1, h2, h3, h4⟩ := part_props hO h0
    have hc : decide ((i : Int) < y3.1) = true := by simp; omega
    have hw : IntKind.u64.wrap ((i : Int) + 1) = ((i + 1 : Nat) : Int) := by rw [wU64 (by omega) (by omega)]; omega
    have hb : dcode_Ctx_o_l0 y3 ((i : Int), out, s.1, s.2) = cond (!decide ((partS s).2.2 = 0)) (pure (.done (.ret ([], (partS s).2)))) (pure (.next (((i + 1 : Nat) : Int), out ++ [(partS s).1], (partS s).2.1, (partS s).2.2))) := by
      unfold dcode_Ctx_o_l0
      simp only [hc, cond_true, part_eq hO, det_pure, pure_bind, N.Err_eq]
      rw [need_true (by simp; omega), hw]
    by_cases c : (partS s).2.2 = 0
    · have hlt := h4 c
      rw [decide_eq_true c, Bool.not_true, cond_false] at hb
      rw [loop_next hb, ctxL_next c]
      exact ctx_loop hn k (i + 1) _ (partS s).2 (by omega) h1 c (by simp; omega)
    · rw [decide_eq_false c, Bool.not_false, cond_true] at hb
      rw [loop_done hb, ctxL_bad c]
      rfl
theorem okC_of {c : List TPart} (h : ∀ p ∈ c, OkP p) (hl : c.length + C.totC c ≤ 1000000000) : C.Ok c := ⟨fun p hp => (h p hp).d0, by omega, by omega⟩
theorem Ctx_eq {s : RS} (hO : Ok s) : dcode_Ctx_o s.1 s.2 = pure (ctxS s) := by
  obtain ⟨h1, h2, h3⟩ := N.ok_num hO
  unfold dcode_Ctx_o ctxS
  rw [N.Num_eq hO, det_pure, pure_bind]
  have good : ∀ (c : List TPart) (t : RS), C.Ok c → ((det (ctx_Good c)).bind fun v37 => cond (!v37) ((det (pack_Reader_Fail_o 4 t.1 t.2)).bind fun y40 => pure (([] : List TPart), y40.1, y40.2)) (pure (c, t.1, t.2))) = pure (if decide (c = C.normC c) = true then (c, t) else ([], failS 4 t)) := fun c t hc => by
    rw [C.Good_eq c hc.sm, det_pure, pure_bind]
    cases decide (c = C.normC c) with
    | true => rfl
    | false => rw [Bool.not_false, cond_true, N.Fail_eq, det_pure, pure_bind]; rfl
  by_cases c2 : (numS s).2.2 = 0
  · have := ctx_loop (y3 := numS s) ⟨h2, h3⟩ (numS s).1.toNat 0 [] (numS s).2 (by omega) h1 c2 (by simp; have := h1.len; omega)
    rw [show ((0 : Nat) : Int) = 0 from rfl] at this
    rw [this, pure_bind]
    obtain ⟨q1, q2, q3, q4, _⟩ := ctxL_props (numS s).1.toNat [] (numS s).2 h1 c2 (by simp) (by simp [C.totC]; have := h1.len; omega)
    have qn := ctxL_nil (numS s).1.toNat [] (numS s).2
    generalize ctxL (numS s).1.toNat [] (numS s).2 = r at *
    obtain ⟨b, c, t⟩ := r
    simp only [] at *
    cases b with
    | false => rw [qn rfl]; rfl
    | true =>
      have hz := q4.1 rfl
      show ((det (ctx_Good c)).bind _) = _
      rw [good c t (okC_of q2 q3), if_pos rfl]
      cases hg : decide (c = C.normC c) with
      | true => rw [if_pos rfl, Bool.not_true, bad4_false, fin_ok hz]
      | false => rw [if_neg (by simp), Bool.not_false, fin_bad bad4_true]; rfl
  · have hz := num_zero c2
    rw [hz, loop_done (r := .brk ([], (numS s).2)) (by
      unfold dcode_Ctx_o_l0
      simp only [hz, show decide ((0 : Int) < 0) = false from rfl, cond_false]), pure_bind]
    show ((det (ctx_Good [])).bind _) = pure (if true = true then fin [] [] (bad4 (!decide (([] : List TPart) = C.normC [])) (numS s).2) else ([], (numS s).2))
    rw [good [] (numS s).2 C.ok_nil, if_pos rfl]
    have e : C.normC [] = [] := rfl
    rw [e]
    simp only [decide_true, if_true, Bool.not_true, bad4_false]
    rw [fin_bad c2]
theorem ctx_props {s : RS} (hO : Ok s) : Ok (ctxS s).2 ∧ (∀ p ∈ (ctxS s).1, OkP p) ∧ (ctxS s).1.length + C.totC (ctxS s).1 ≤ 1000000000 ∧ ((ctxS s).2.2 ≠ 0 → (ctxS s).1 = []) ∧ ((ctxS s).2.2 = 0 → (ctxS s).1 = C.normC (ctxS s).1) := by
  obtain ⟨h1, h2, h3⟩ := N.ok_num hO
  unfold ctxS
  by_cases c2 : (numS s).2.2 = 0
  · obtain ⟨q1, q2, q3, q4, _⟩ := ctxL_props (numS s).1.toNat [] (numS s).2 h1 c2 (by simp) (by simp [C.totC]; have := h1.len; omega)
    generalize ctxL (numS s).1.toNat [] (numS s).2 = r at *
    obtain ⟨b, c, t⟩ := r
    simp only [] at *
    cases b with
    | false => exact ⟨q1, by simp, by simp [C.totC], fun _ => rfl, fun _ => rfl⟩
    | true =>
      rw [if_pos rfl, fin_st]
      refine ⟨ok_bad4 q1 _, ?_⟩
      by_cases hb : (bad4 (!decide (c = C.normC c)) t).2 = 0
      · rw [fin_ok hb]
        have := (bad4_ok hb).1
        exact ⟨q2, q3, fun h => absurd hb h, fun _ => by simpa using this⟩
      · rw [fin_bad hb]
        exact ⟨by simp, by simp [C.totC], fun _ => rfl, fun h => absurd h hb⟩
  · rw [num_zero c2]
    show Ok (if true = true then fin [] [] (bad4 (!decide (([] : List TPart) = C.normC [])) (numS s).2) else ([], (numS s).2)).2 ∧ _
    have e : C.normC [] = [] := rfl
    simp only [ctxL, Int.toNat_zero, e, decide_true, Bool.not_true, bad4_false, if_true, fin_bad c2]
    exact ⟨h1, by simp, by simp [C.totC], fun _ => trivial, fun _ => trivial⟩

variable {B : List Int} {a : Int} {s : RS}
open N (RS Ok numS uptoS failS endS OkB Sim)

theorem num_enc {v : Int} (h0 : 0 ≤ v) (h : v ≤ 18446744073709551615) (r : List Int) : numS (N.encI v ++ r, 0) = (v, (r, 0)) := by
  have e := N.rdN_enc h0 h r
  unfold numS
  simp only [e, ne_eq, not_true_eq_false, if_false, List.drop_left]
theorem upto_enc {v m : Int} (h0 : 0 ≤ v) (h : v ≤ m) (hm : m ≤ 18446744073709551615) (r : List Int) : uptoS m (N.encI v ++ r, 0) = (v, (r, 0)) := by
  unfold uptoS
  rw [num_enc h0 (by omega) r]
  exact if_neg (by simp; omega)
theorem runsL_enc : ∀ (l out : List TRun) (r : List Int), (∀ x ∈ l, RunOk x) → runsL l.length out (l.flatMap encR ++ r, 0) = (out ++ l, (r, 0))
  | [], out, r, _ => by simp [runsL]
  | x :: t, out, r, h => by
    have hx := h x (by simp)
    have e1 : numS ((x :: t).flatMap encR ++ r, 0) = (x.lo, (N.encI x.hi ++ (t.flatMap encR ++ r), 0)) := by
      rw [List.flatMap_cons, encR, List.append_assoc, List.append_assoc]; exact num_enc hx.1.1 hx.1.2 _
    have e2 : numS (N.encI x.hi ++ (t.flatMap encR ++ r), 0) = (x.hi, (t.flatMap encR ++ r, 0)) := num_enc hx.2.1 hx.2.2 _
    rw [List.length_cons, runsL_next (by rw [e1]; simp only [e2]), e1]
    simp only [e2]
    rw [runsL_enc t _ r fun y hy => h y (by simp [hy]), List.append_assoc]
    rfl
theorem part_enc {p : TPart} (h : OkP p) (hl : p.runs.length ≤ 1000000000000) (r : List Int) : partS (encP p ++ r, 0) = (p, (r, 0)) := by
  have e : encP p ++ r = N.encI p.dev ++ (N.encI (p.runs.length : Int) ++ (p.runs.flatMap encR ++ r)) := by rw [encP, List.append_assoc, List.append_assoc]
  have e1 := upto_enc h.d0 h.d1 (by decide) (N.encI (p.runs.length : Int) ++ (p.runs.flatMap encR ++ r))
  have e2 := num_enc (v := (p.runs.length : Int)) (by omega) (by omega) (p.runs.flatMap encR ++ r)
  unfold partS
  rw [e, e1]
  simp only [e2, Int.toNat_natCast]
  rw [runsL_enc p.runs [] r h.r]
  rfl
theorem ctxL_enc : ∀ (c out : List TPart) (r : List Int), (∀ p ∈ c, OkP p ∧ p.runs.length ≤ 1000000000000) → ctxL c.length out (c.flatMap encP ++ r, 0) = (true, out ++ c, (r, 0))
  | [], out, r, _ => by simp [ctxL]
  | p :: t, out, r, h => by
    have hp := h p (by simp)
    have e : partS ((p :: t).flatMap encP ++ r, 0) = (p, (t.flatMap encP ++ r, 0)) := by
      rw [List.flatMap_cons, List.append_assoc]; exact part_enc hp.1 hp.2 _
    rw [List.length_cons, ctxL_next (by rw [e]), e]
    simp only []
    rw [ctxL_enc t _ r fun q hq => h q (by simp [hq]), List.append_assoc]
    rfl
theorem ctx_encN {c : List TPart} (hc : c = C.normC c) (h : ∀ p ∈ c, OkP p) (hl : c.length ≤ 1000000000000 ∧ C.totC c ≤ 1000000000000) (r : List Int) : ctxS (encN c ++ r, 0) = (c, (r, 0)) := by
  have e : encN c ++ r = N.encI (c.length : Int) ++ (c.flatMap encP ++ r) := by rw [encN, List.append_assoc]
  have e1 := num_enc (v := (c.length : Int)) (by omega) (by omega) (c.flatMap encP ++ r)
  have e2 := ctxL_enc c [] r fun p hp => ⟨h p hp, by have := C.run_le p hp; omega⟩
  unfold ctxS
  rw [e, e1]
  simp only [Int.toNat_natCast]
  simp only [e2, List.nil_append, if_true]
  have hdc : decide (c = C.normC c) = true := decide_eq_true hc
  rw [hdc]
  rfl
def decC (b : List Int) : List TPart × Int := if (endS (ctxS (b, 0)).2).1 ≠ 0 then ([], (endS (ctxS (b, 0)).2).1) else ((ctxS (b, 0)).1, 0)
theorem Decode_eq {b : List Int} (hB : OkB b) : dcode_Decode b = pure (decC b) := by
  unfold dcode_Decode decC
  rw [N.New_eq b hB.len, det_pure, pure_bind, Ctx_eq hB.ok, det_pure, pure_bind, N.End_eq, det_pure, pure_bind]
  by_cases c : (endS (ctxS (b, 0)).2).1 = 0
  · rw [decide_eq_true c, Bool.not_true, cond_false, if_neg (by simp [c])]
  · rw [decide_eq_false c, Bool.not_false, cond_true, if_pos c]
open N (RS Ok numS uptoS failS endS OkB Sim)

theorem num_inv {s : RS} (hO : Ok s) (h : (numS s).2.2 = 0) : s.1 = N.encI (numS s).1 ++ (numS s).2.1 := by
  have h0 := num_ok h
  unfold numS at h ⊢
  rw [if_neg (by simp [h0])] at h ⊢
  by_cases c : (N.rdN s.1).2.2 = 0
  · rw [if_neg (by simp [c])]
    exact N.rdN_one hO.by_ c
  · rw [if_pos c] at h; exact absurd h (N.fail_bad c)
theorem upto_inv {s : RS} (hO : Ok s) {m : Int} (h : (uptoS m s).2.2 = 0) : s.1 = N.encI (uptoS m s).1 ++ (uptoS m s).2.1 := by
  obtain ⟨h1, h2⟩ := upto_ok h
  rw [h2]; exact num_inv hO h1
theorem runsL_inv : ∀ (k : Nat) (out : List TRun) (s : RS), Ok s → (runsL k out s).2.2 = 0 → ∃ l, (runsL k out s).1 = out ++ l ∧ l.length = k ∧ s.1 = l.flatMap encR ++ (runsL k out s).2.1
  | 0, out, s, _, _ => ⟨[], by simp [runsL], rfl, by simp [runsL]⟩
  | k + 1, out, s, hO, h => by
    by_cases c : (numS (numS s).2).2.2 = 0
    · rw [runsL_next c] at h ⊢
      obtain ⟨l, e1, e2, e3⟩ := runsL_inv k _ _ (ok_two hO).1 h
      refine ⟨⟨(numS s).1, (numS (numS s).2).1⟩ :: l, by rw [e1]; simp, by simp [e2], ?_⟩
      rw [List.flatMap_cons, List.append_assoc, ← e3, encR, List.append_assoc, ← num_inv (N.ok_num hO).1 c]
      exact num_inv hO (num_ok c)
    · rw [runsL_bad c] at h; exact absurd h c
theorem part_inv {s : RS} (hO : Ok s) (h : (partS s).2.2 = 0) : s.1 = encP (partS s).1 ++ (partS s).2.1 := by
  obtain ⟨h1, h2, h3⟩ := N.ok_upto hO (m := 65535) (by decide)
  obtain ⟨h4, h5, h6⟩ := N.ok_num h1
  unfold partS at h ⊢
  have c : (numS (uptoS 65535 s).2).2.2 = 0 := Classical.byContradiction fun c => by rw [num_zero c] at h; exact c h
  obtain ⟨l, e1, e2, e3⟩ := runsL_inv _ [] _ h4 h
  rw [List.nil_append] at e1
  show s.1 = (N.encI (uptoS 65535 s).1 ++ (N.encI ((runsL (numS (uptoS 65535 s).2).1.toNat [] (numS (uptoS 65535 s).2).2).1.length : Int) ++ (runsL (numS (uptoS 65535 s).2).1.toNat [] (numS (uptoS 65535 s).2).2).1.flatMap encR)) ++ (runsL (numS (uptoS 65535 s).2).1.toNat [] (numS (uptoS 65535 s).2).2).2.1
  rw [e1, List.append_assoc, List.append_assoc, ← e3, e2, Int.toNat_of_nonneg h5, ← num_inv h1 c]
  exact upto_inv hO (num_ok c)
theorem ctxL_inv : ∀ (k : Nat) (out : List TPart) (s : RS), Ok s → s.2 = 0 → (ctxL k out s).1 = true → ∃ l, (ctxL k out s).2.1 = out ++ l ∧ l.length = k ∧ s.1 = l.flatMap encP ++ (ctxL k out s).2.2.1
  | 0, out, s, _, _, _ => ⟨[], by simp [ctxL], rfl, by simp [ctxL]⟩
  | k + 1, out, s, hO, h0, h => by
    by_cases c : (partS s).2.2 = 0
    · rw [ctxL_next c] at h ⊢
      obtain ⟨l, e1, e2, e3⟩ := ctxL_inv k _ _ (part_props hO h0).1 c h
      refine ⟨(partS s).1 :: l, by rw [e1]; simp, by simp [e2], ?_⟩
      rw [List.flatMap_cons, List.append_assoc, ← e3]
      exact part_inv hO c
    · rw [ctxL_bad c] at h; cases h
theorem ctx_inv {s : RS} (hO : Ok s) (h : (ctxS s).2.2 = 0) : s.1 = encC (ctxS s).1 ++ (ctxS s).2.1 := by
  have hn := (ctx_props hO).2.2.2.2 h
  obtain ⟨h1, h2, h3⟩ := N.ok_num hO
  rw [encC, ← hn]
  unfold ctxS at h ⊢
  have c : (numS s).2.2 = 0 := Classical.byContradiction fun c => by
    have hz := num_zero c
    have e : C.normC [] = [] := rfl
    simp only [hz, ctxL, Int.toNat_zero, e, decide_true, Bool.not_true, bad4_false, if_true, fin_st] at h
    exact c h
  have hi := ctxL_inv (numS s).1.toNat [] (numS s).2 h1 c
  obtain ⟨q1, q2, q3, q4, _⟩ := ctxL_props (numS s).1.toNat [] (numS s).2 h1 c (by simp) (by simp [C.totC]; have := h1.len; omega)
  generalize ctxL (numS s).1.toNat [] (numS s).2 = r at *
  obtain ⟨b, x, t⟩ := r
  simp only [] at *
  cases b with
  | false =>
    have hz : t.2 = 0 := h
    have := q4.2 hz; cases this
  | true =>
    rw [if_pos rfl] at h ⊢
    rw [fin_st] at h
    rw [fin_ok h, (bad4_ok h).2.2]
    obtain ⟨l, e1, e2, e3⟩ := hi rfl
    rw [List.nil_append] at e1
    subst e1
    show s.1 = (N.encI (x.length : Int) ++ x.flatMap encP) ++ t.1
    rw [List.append_assoc, ← e3, e2, Int.toNat_of_nonneg h2]
    exact num_inv hO c
theorem end_ok {s : RS} (h : (endS s).1 = 0) : s.1 = [] ∧ s.2 = 0 := by
  unfold endS at h
  by_cases c : 0 < s.1.length
  · simp only [if_pos c] at h; exact absurd h (N.fail_bad (by decide))
  · simp only [if_neg c] at h
    exact ⟨List.eq_nil_of_length_eq_zero (by omega), h⟩
theorem decC_inv {b : List Int} (hB : OkB b) (h : (decC b).2 = 0) : b = encC (decC b).1 ∧ (decC b).1 = C.normC (decC b).1 ∧ (∀ p ∈ (decC b).1, OkP p) ∧ (decC b).1.length + C.totC (decC b).1 ≤ 1000000000 := by
  unfold decC at h ⊢
  by_cases c : (endS (ctxS (b, 0)).2).1 = 0
  · rw [if_neg (by simp [c])]
    obtain ⟨e1, e2⟩ := end_ok c
    have hi := ctx_inv hB.ok e2
    obtain ⟨p1, p2, p3, p4, p5⟩ := ctx_props hB.ok
    rw [e1, List.append_nil] at hi
    exact ⟨hi, p5 e2, p2, p3⟩
  · rw [if_pos c] at h; exact absurd h c
theorem decC_bad {b : List Int} (h : (decC b).2 ≠ 0) : (decC b).1 = [] := by
  unfold decC at h ⊢
  by_cases c : (endS (ctxS (b, 0)).2).1 = 0
  · rw [if_neg (by simp [c])] at h; exact absurd rfl h
  · rw [if_pos c]
theorem decC_more {c : List TPart} (hc : c = C.normC c) (h : ∀ p ∈ c, OkP p) (hl : c.length ≤ 1000000000000 ∧ C.totC c ≤ 1000000000000) (x : Int) : (decC (encC c ++ [x])).2 ≠ 0 := by
  have e := ctx_encN hc h hl [x]
  have e2 : encC c = encN c := by rw [encC, ← hc]
  unfold decC
  rw [e2, e]
  have : (endS ([x], 0)).1 = 4 := rfl
  simp only [this]
  simp
theorem dcodeOnce_eq (b : List Int) (c : Int) (hb : ∀ x ∈ b, 0 ≤ x ∧ x ≤ 255) (hc : 0 ≤ c ∧ c ≤ 255) : l15_DcodeOnce b c = pure true := by
  unfold l15_DcodeOnce
  rw [works_eq]
  by_cases hl : b.length ≤ 600
  · have hd : decide ((600 : Int) < (b.length : Int)) = false := by simp; omega
    have hB : OkB b := ⟨hb, by omega⟩
    rw [hd, cond_false, Decode_eq hB, det_pure, pure_bind]
    by_cases h0 : (decC b).2 = 0
    · rw [decide_eq_true h0, Bool.not_true, cond_false]
      obtain ⟨i1, i2, i3, i4⟩ := decC_inv hB h0
      have hlen : (decC b).1.length + C.totC (decC b).1 ≤ 100000000 := by
        have h0' := hB.ok
        obtain ⟨q1, q2, q3⟩ := N.ok_num h0'
        -- what is read is no more than the bytes
        have e : ∀ (l : List TPart), (∀ p ∈ l, OkP p) → l.length + C.totC l ≤ (l.flatMap encP).length := by
          intro l
          induction l with
          | nil => intro _; simp [C.totC]
          | cons p r ih =>
            intro hp
            have := ih fun q hq => hp q (by simp [hq])
            have e2 : C.totC (p :: r) = p.runs.length + C.totC r := by simp [C.totC]
            have e3 : p.runs.length + 1 ≤ (encP p).length := by
              have e4 : ∀ (l : List TRun), l.length ≤ (l.flatMap encR).length := by
                intro l
                induction l with
                | nil => simp
                | cons x t iht =>
                  have : 1 ≤ (N.encI x.lo).length := by rw [N.encI, N.encN, List.length_cons]; omega
                  rw [List.flatMap_cons, List.length_append, encR, List.length_append, List.length_cons]; omega
              have := e4 p.runs
              have h5 : 1 ≤ (N.encI p.dev).length := by rw [N.encI, N.encN, List.length_cons]; omega
              rw [encP, List.length_append, List.length_append]; omega
            rw [List.flatMap_cons, List.length_append, List.length_cons, e2]; omega
        have e5 := e _ i3
        have e6 : ((decC b).1.flatMap encP).length ≤ (encC (decC b).1).length := by
          rw [encC, ← i2, encN, List.length_append]; omega
        rw [← i1] at e6; omega
      have okc := okC_of i3 i4
      have hne : b ≠ [] := by
        intro e; subst e
        have : (encC (decC []).1).length = 0 := by rw [← i1]; rfl
        rw [encC, encN, List.length_append] at this
        simp [N.encI, N.encN] at this
      have hpos := List.length_pos_iff.2 hne
      have hmx : max (IntKind.i64.wrap ((b.length : Int) - 1)) 0 = ((b.length - 1 : Nat) : Int) := by rw [wI64 (by omega) (by omega)]; omega
      have htake : List.drop (Int.toNat 0) (List.take (Int.toNat ((b.length - 1 : Nat) : Int)) b) = b.take (b.length - 1) := by rw [Int.toNat_natCast]; rfl
      have hBt : OkB (b.take (b.length - 1)) := ⟨fun x hx => hb x (List.mem_of_mem_take hx), by simp; omega⟩
      have hBm : OkB (b ++ [c]) := ⟨fun x hx => by
        rcases List.mem_append.1 hx with h | h
        · exact hb x h
        · rw [List.mem_singleton.1 h]; exact hc, by simp; omega⟩
      have f2 : (decC (b ++ [c])).2 ≠ 0 := by
        have := decC_more i2 i3 (by omega) c
        rwa [← i1] at this
      have f1 : (decC (b.take (b.length - 1))).2 ≠ 0 := by
        intro hz
        obtain ⟨j1, j2, j3, j4⟩ := decC_inv hBt hz
        obtain ⟨x, hx⟩ : ∃ x, b = b.take (b.length - 1) ++ [x] := ⟨b.getLast hne, by rw [← List.dropLast_eq_take]; exact (List.dropLast_concat_getLast hne).symm⟩
        have := decC_more j2 j3 (by omega) x
        rw [← j1, ← hx] at this
        exact this h0
      have en := Encode_eq okc (fun p hp => (i3 p hp).d1) (by omega)
      rw [hmx, need_true (by omega), htake, Decode_eq hBt, det_pure, pure_bind, need_true (by simp; omega), need_true (by simp; omega), List.nil_append, Decode_eq hBm, det_pure, pure_bind, en, det_pure, pure_bind, ← i1, equal_eq, det_pure, pure_bind, decide_eq_true rfl, cond_true, decide_eq_false f1, decide_eq_false f2]
      simp only [Bool.not_false, cond_true, det_pure, pure_bind]
    · rw [decide_eq_false h0, Bool.not_false, cond_true, decC_bad h0]
      simp only [List.length_nil, Int.natCast_zero, decide_true, cond_true, det_pure, pure_bind]
  · have hd : decide ((600 : Int) < (b.length : Int)) = true := by simp; omega
    rw [hd, cond_true, det_pure, pure_bind]
end Go.Ep.M.D

namespace Go.Ep
open Go.RowKit Go.ChangeShapes Go.WideShapes

abbrev All : Nat → Prop := fun _ => True

mutual
/-- How many values and letters a reading holds. -/
def bulk {H : Type} : DataW H → Nat
  | .lit (.string bytes) => bytes.length + 1
  | .lit _ => 1
  | .nil => 1
  | .ptr d => bulk d + 1
  | .slice elems spare => bulkAll elems + bulkAll spare + 1
  | .agg parts => bulkAll parts + 1
  | .iface _ d => bulk d + 1
  | .map entries => bulkEntries entries + 1
  | .held _ => 1
def bulkAll {H : Type} : List (DataW H) → Nat
  | [] => 0
  | d :: r => bulk d + bulkAll r
def bulkEntries {H : Type} : List (Lit × DataW H) → Nat
  | [] => 0
  | x :: r => bulkEntry x + bulkEntries r
def bulkEntry {H : Type} : Lit × DataW H → Nat
  | (.string bytes, d) => bytes.length + bulk d + 1
  | (_, d) => bulk d + 1
end
theorem one_bulk {H : Type} (d : DataW H) : 1 ≤ bulk d := by
  cases d with
  | lit l => cases l <;> simp [bulk]
  | nil => simp [bulk]
  | ptr d => simp [bulk]
  | slice elems spare => simp [bulk]
  | agg parts => simp [bulk]
  | iface t d => simp [bulk]
  | map entries => simp [bulk]
  | held h => simp [bulk]
theorem bulkAll_app {H : Type} (l r : List (DataW H)) : bulkAll (l ++ r) = bulkAll l + bulkAll r := by
  induction l with
  | nil => simp [bulkAll]
  | cons x l ih => simp only [List.cons_append, bulkAll, ih]; omega
def szL {α : Type} (sz : α → Nat) : List α → Nat
  | [] => 0
  | a :: r => sz a + szL sz r
theorem szL_app {α : Type} (sz : α → Nat) (l r : List α) : szL sz (l ++ r) = szL sz l + szL sz r := by
  induction l with
  | nil => simp [szL]
  | cons x l ih => simp only [List.cons_append, szL, ih]; omega
/-- What is read at this type is data of this kind. -/
structure Opn (P : Program) (t : TypeId) (k : Nat) {α : Type} (enc : α → List DV) (ok : α → Prop) (sz : α → Nat) : Prop where
  cells : P.cellsOf t = k
  op : ∀ {H : Type} {en : TypeId × Value → H} {w : World} {fuel : Nat} {cs : List Value} {x : DataW H × List MemPlace}, DataW.trod en P w 0 (fun _ => true) true fuel t cs = some x →
    ∃ a, ok a ∧ cs.length = k ∧ (enc a).length = k ∧ (∀ (j : Nat) (y : DV) (u : Value), (enc a)[j]? = some y → cs[j]? = some u → DRd w All y u) ∧ sz a ≤ bulk x.1

section
variable {P : Program} {t : TypeId}

theorem Opn.map {k : Nat} {α β : Type} {enc : α → List DV} {enc' : β → List DV} {ok : α → Prop} {ok' : β → Prop} {sz : α → Nat} {sz' : β → Nat} (h : Opn P t k enc ok sz) (f : α → β) (he : ∀ a, ok a → enc' (f a) = enc a) (ho : ∀ a, ok a → ok' (f a)) (hz : ∀ a, sz' (f a) ≤ sz a) : Opn P t k enc' ok' sz' :=
  ⟨h.cells, fun hx => let ⟨a, h1, h2, h3, h4, h5⟩ := h.op hx; ⟨f a, ho a h1, h2, by rw [he a h1]; exact h3, by rw [he a h1]; exact h4, Nat.le_trans (hz a) h5⟩⟩

theorem one_get {w : World} {y : DV} {u : Value} (h : DRd w All y u) : ∀ (j : Nat) (y' : DV) (u' : Value), [y][j]? = some y' → [u][j]? = some u' → DRd w All y' u' := by
  intro j y' u' h1 h2
  cases j with
  | zero => simp at h1 h2; subst h1; subst h2; exact h
  | succ j => simp at h1

def okK (k : IntKind) (n : Int) : Prop := (Lit.int k n).wf = true
theorem Opn.int {k : IntKind} (hu : P.underlying t = some (.int k)) (hc : P.cellsOf t = 1) : Opn P t 1 (eK k) (okK k) (fun _ => 1) := by
  refine ⟨hc, fun {H en w fuel cs x} h => ?_⟩
  cases fuel with
  | zero => simp [DataW.trod] at h
  | succ fuel =>
    unfold DataW.trod at h
    rw [hu] at h
    split at h <;> simp_all
    case h_2 n _ =>
      obtain ⟨⟨h1, h2⟩, _⟩ := h
      subst h1
      refine ⟨n, h2, rfl, ?_, one_bulk _⟩
      intro j y u h1 h3
      exact one_get (.v _ rfl) j y u h1 h3
theorem okU8 {n : Int} (h : okK .u8 n) : 0 ≤ n ∧ n < 256 := by
  simp [okK, Lit.wf, IntKind.min, IntKind.max, IntKind.signed, IntKind.bits] at h; omega
theorem Opn.slice {e : TypeId} {k : Nat} {α : Type} {enc : α → List DV} {ok : α → Prop} {sz : α → Nat} (h : Opn P e k enc ok sz) (hu : P.underlying t = some (.slice e)) (hc : P.cellsOf t = 1) (hk : 0 < k) :
    Opn P t 1 (eL enc) (fun l => l.length ≤ 9223372036854775807 ∧ ∀ a ∈ l, ok a) (fun l => szL sz l + 1) := by
  refine ⟨hc, fun {H en w fuel cs x} hx => ?_⟩
  rcases Deep.open_slice hu hx with ⟨rfl, _⟩ | ⟨a, len, cap, m, n, D, Pl, rfl, _, hl, hm, hmm, hxD, hel⟩
  · exact ⟨[], ⟨Nat.zero_le _, by simp⟩, rfl, rfl, one_get (.nil none 0 (Nat.zero_le _) (fun _ => rfl)), one_bulk _⟩
  simp only [if_true] at hmm
  subst hmm
  rw [h.cells] at hel
  have hcut : ∀ n0, n0 ≤ len → ∃ l : List α, l.length = n0 ∧ (∀ a ∈ l, ok a) ∧ szL sz l ≤ bulkAll ((List.range n0).map D) ∧ ∀ (i : Nat) (b : α), l[i]? = some b → (enc b).length = k ∧ ∀ (j : Nat) (y : DV), (enc b)[j]? = some y → ∃ u, w.cell? (a.add (i * k + j)) = some u ∧ DRd w All y u := by
    intro n0
    induction n0 with
    | zero => intro _; exact ⟨[], rfl, by simp, by simp [szL], by simp⟩
    | succ n0 ih =>
      intro hn
      obtain ⟨l, h1, h2, hz, h3⟩ := ih (by omega)
      obtain ⟨cs', hc', ht'⟩ := hel n0 (by omega)
      obtain ⟨b, hb1, hb2, hb3, hb4, hb5⟩ := h.op ht'
      obtain ⟨_, _, hcell⟩ := World.cells?_some hc'
      refine ⟨l ++ [b], by simp [h1], ?_, by rw [szL_app, List.range_succ, List.map_append, bulkAll_app]; simp only [szL, List.map_cons, List.map_nil, bulkAll]; simp only at hb5; omega, ?_⟩
      · intro a ha
        rcases List.mem_append.1 ha with ha | ha
        · exact h2 a ha
        · simp at ha; subst ha; exact hb1
      · intro i b' hi
        rw [List.getElem?_append] at hi
        split at hi
        · exact h3 i b' hi
        · rename_i hge
          have hi0 : i = n0 := by
            have : i - l.length < 1 := by simpa using (List.getElem?_eq_some_iff.1 hi).1
            omega
          subst hi0
          simp [h1] at hi
          subst hi
          refine ⟨hb3, fun j y hy => ?_⟩
          have hj : j < k := by rw [← hb3]; exact (List.getElem?_eq_some_iff.1 hy).1
          have hcj := hcell j hj
          rw [Deep.add_add] at hcj
          have hu' : cs'[j]? = some (cs'[j]'(by omega)) := List.getElem?_eq_getElem (by omega)
          exact ⟨_, by rw [hcj, hu'], hb4 j y _ hy hu'⟩
  obtain ⟨l, h1, h2, hz, h3⟩ := hcut len (Nat.le_refl _)
  refine ⟨l, ⟨by unfold maxLen at hm; omega, h2⟩, rfl, rfl, one_get ?_, ?_⟩
  rotate_left
  · rw [hxD]; simp only [bulk]; omega
  by_cases h0 : len = 0
  · have : l = [] := List.eq_nil_of_length_eq_zero (by omega)
    subst this
    subst h0
    exact .nil _ _ hm (fun e => by cases e)
  · -- the first cell tells that the address is a plain one
    have hl0 : 0 < l.length := by omega
    obtain ⟨hk0, hc0⟩ := h3 0 _ (List.getElem?_eq_getElem hl0)
    obtain ⟨u0, hu0, _⟩ := hc0 0 _ (List.getElem?_eq_getElem (by omega : 0 < (enc l[0]).length))
    have hspot : a.spot = none := by simpa [Addr.add] using World.cell?_spot hu0
    obtain ⟨b, off, spot⟩ := a
    simp only at hspot
    subst hspot
    have hb : b < w.heap.size := by
      rw [Addr.add_lit] at hu0
      unfold World.cell? at hu0
      cases hh : w.heap[b]? with
      | none => simp [hh] at hu0
      | some o => exact (Array.getElem?_eq_some_iff.1 hh).1
    have hlen : (l.map enc).length = len := by simp [h1]
    rw [← hlen]
    refine .sl _ b off m k (fun i j => (w.cell? ⟨b, off + (i * k + j), none⟩).getD undef) (by omega) hm trivial hb ?_ ?_ ?_
    · intro i cs hi
      rw [List.getElem?_map] at hi
      cases hx : l[i]? with
      | none => simp [hx] at hi
      | some y => simp [hx] at hi; subst hi; exact (h3 i y hx).1
    · intro i j hi hj
      have hil : i < l.length := by simpa using hi
      obtain ⟨e1, e2⟩ := h3 i _ (List.getElem?_eq_getElem hil)
      obtain ⟨u, hu, _⟩ := e2 j _ (List.getElem?_eq_getElem (by omega : j < (enc l[i]).length))
      rw [Addr.add_lit] at hu
      simp [hu]
    · intro i cs j x hi hx
      rw [List.getElem?_map] at hi
      cases hy : l[i]? with
      | none => simp [hy] at hi
      | some y =>
        simp [hy] at hi
        subst hi
        obtain ⟨u, hu, hd⟩ := (h3 i y hy).2 j x hx
        rw [Addr.add_lit] at hu
        simpa [hu] using hd

/-- The fields from offset off on. -/
structure OpnF (P : Program) (fs : List Field) (off k : Nat) {α : Type} (enc : α → List DV) (ok : α → Prop) (sz : α → Nat) : Prop where
  op : ∀ {H : Type} {en : TypeId × Value → H} {w : World} {n : Nat} {cs : List Value} {xs : List (DataW H × List MemPlace)}, xs.length = fs.length →
    (∀ (i : Nat) (f : Field), fs[i]? = some f → DataW.trod en P w 0 (fun _ => true) true n f.type ((cs.drop f.offset).take (P.cellsOf f.type)) = xs[i]?) →
    ∃ a, ok a ∧ (enc a).length = k ∧ (∀ (j : Nat) (y : DV) (u : Value), (enc a)[j]? = some y → cs[off + j]? = some u → DRd w All y u) ∧ sz a ≤ bulkAll (xs.map (·.1))

theorem OpnF.nil (off : Nat) : OpnF P [] off 0 (fun _ : Unit => []) (fun _ => True) (fun _ => 0) := ⟨fun _ _ => ⟨(), trivial, rfl, by simp, Nat.zero_le _⟩⟩
theorem OpnF.cons {f : Field} {fs : List Field} {off k1 k2 : Nat} {α β : Type} {e1 : α → List DV} {o1 : α → Prop} {e2 : β → List DV} {o2 : β → Prop} {z1 : α → Nat} {z2 : β → Nat} (h1 : Opn P f.type k1 e1 o1 z1) (ho : f.offset = off) (h2 : OpnF P fs (off + k1) k2 e2 o2 z2) :
    OpnF P (f :: fs) off (k1 + k2) (fun p : α × β => e1 p.1 ++ e2 p.2) (fun p => o1 p.1 ∧ o2 p.2) (fun p => z1 p.1 + z2 p.2) := by
  refine ⟨fun {H en w n cs xs} hlen hx => ?_⟩
  cases xs with
  | nil => simp at hlen
  | cons x xs =>
    have hx0 := hx 0 f rfl
    simp only [List.getElem?_cons_zero] at hx0
    obtain ⟨a, ha1, ha2, ha3, ha4, ha5⟩ := h1.op hx0
    obtain ⟨b, hb1, hb2, hb3, hb4⟩ := h2.op (xs := xs) (by simpa using hlen) (fun i f' hf => by have := hx (i + 1) f' (by simpa using hf); simpa using this)
    refine ⟨(a, b), ⟨ha1, hb1⟩, by simp [ha3, hb2], ?_, by simp only [List.map_cons, bulkAll]; omega⟩
    intro j y u hy hu
    simp only [List.getElem?_append] at hy
    by_cases hj : j < k1
    · rw [if_pos (by omega)] at hy
      refine ha4 j y u hy ?_
      rw [List.getElem?_take, h1.cells, if_pos hj, List.getElem?_drop, ho]
      exact hu
    · rw [if_neg (by omega), ha3] at hy
      refine hb3 (j - k1) y u hy ?_
      rw [← hu]
      congr 1
      omega
theorem Opn.struct {fs : List Field} {k : Nat} {α : Type} {enc : α → List DV} {ok : α → Prop} {sz : α → Nat} (hu : P.underlying t = some (.struct fs.toArray)) (hc : P.cellsOf t = k) (h : OpnF P fs 0 k enc ok sz) : Opn P t k enc ok (fun a => sz a + 1) := by
  refine ⟨hc, fun {H en w fuel cs x} hx => ?_⟩
  obtain ⟨xs, n, _, hxe, hlen, hxl, hf⟩ := DataW.trod_struct hu hx
  obtain ⟨a, h1, h2, h3, h4⟩ := h.op (cs := cs) (xs := xs) (by simpa using hxl) (fun i f hi => hf i f (by simpa using hi))
  exact ⟨a, h1, by rw [hlen, hc], h2, fun j y u hy hu => h3 j y u hy (by simpa using hu), by rw [hxe]; simp only [bulk]; omega⟩

/-- A one-cell argument. -/
theorem Opn.arg {H : Type} {en : TypeId × Value → H} {w : World} {v : Value} {d : DataW H} {ps : List MemPlace} {α : Type} {enc : α → DV} {ok : α → Prop} {sz : α → Nat} (h : Opn P t 1 (fun a => [enc a]) ok sz)
    (hx : DataW.Trod en P w 0 (fun _ => true) true t v d ps) (h1 : v.oneCell' = true) : ∃ a, ok a ∧ Rd w g0 All (.d (enc a)) v ∧ sz a ≤ bulk d := by
  obtain ⟨fuel, hf⟩ := hx
  obtain ⟨a, ha, _, _, hr, hz⟩ := h.op hf
  have hcs : v.cells.toList = [v] := by cases v <;> first | rfl | (simp [Value.oneCell'] at h1; done)
  exact ⟨a, ha, .d (hr 0 _ v rfl (by rw [hcs]; rfl)), hz⟩
theorem trodAll_below {H : Type} {en : TypeId × Value → H} (hl : laidOutB P = true) {W W' : World} (hb : Below W.heap.size W W') : ∀ {ts : List TypeId} {vs : List Value} {ds : List (DataW H)} {ps : List MemPlace},
    (∀ t ∈ ts, P.readableRec t = true ∧ t < P.types.size) → DataW.TrodAll en P W 0 (fun _ => true) true ts vs ds ps → (∀ x ∈ ps, x.block < W.heap.size) → DataW.TrodAll en P W' 0 (fun b => decide (b < W.heap.size)) true ts vs ds ps
  | [], [], [], ps, _, h, _ => h
  | t :: ts, v :: vs, d :: ds, ps, hr, h, hlt => by
    obtain ⟨p, q, h1, h2, rfl⟩ := h
    have hrt := hr t (by simp)
    exact ⟨p, q, Below.trod hl hrt.1 hrt.2 h1 hb (fun x hx => hlt x (List.mem_append.2 (.inl hx))), trodAll_below hl hb (fun t ht => hr t (by simp [ht])) h2 (fun x hx => hlt x (List.mem_append.2 (.inr hx))), rfl⟩
  | [], [], _ :: _, _, _, h, _ => h.elim
  | [], _ :: _, _, _, _, h, _ => h.elim
  | _ :: _, [], _, _, _, h, _ => h.elim
  | _ :: _, _ :: _, [], _, _, h, _ => h.elim
theorem trodAll_len {H : Type} {en : TypeId × Value → H} {w : World} {base : Nat} {sp : Nat → Bool} {hd : Bool} : ∀ {ts : List TypeId} {vs : List Value} {ds : List (DataW H)} {ps : List MemPlace}, DataW.TrodAll en P w base sp hd ts vs ds ps → ds.length = ts.length
  | [], [], [], _, _ => rfl
  | _ :: _, _ :: _, _ :: _, _, h => by
    obtain ⟨_, _, _, h2, _⟩ := h
    simp [trodAll_len h2]
  | [], [], _ :: _, _, h => h.elim
  | [], _ :: _, _, _, h => h.elim
  | _ :: _, [], _, _, h => h.elim
  | _ :: _, _ :: _, [], _, h => h.elim

/-- 'For every input true; the input reads as it did.' -/
theorem post_true {H : Type} {en : TypeId × Value → H} {fn : Func} {s : ChangeSpec} {tb : TypeId} {W W' : World} {args : Array Value} {ds gs : List (DataW H)} {before : List MemPlace} (hl : laidOutB P = true)
    (hW : DataW.Whole en P fn.params.toList s.vars false W args.toList ds gs before) (hv : s.vars = []) (hs : ∀ ds : List (DataW H), ds.length = fn.params.size → (s.fn H ds).results = [.lit (.bool true)] ∧ (s.fn H ds).args = ds ∧ (s.fn H ds).vars = [])
    (hres : fn.resultTypes = #[tb]) (htb : P.underlying tb = some .bool) (hr : ∀ t ∈ fn.params.toList, P.readableRec t = true ∧ t < P.types.size) (hb : Below W.heap.size W W') :
    s.post en P fn false true false false W args (.bool true) W' := by
  have hW' := hW
  obtain ⟨p, q, hA, hV, hpq, hfz, hnd⟩ := hW
  rw [hv] at hV
  obtain ⟨rfl, rfl⟩ := trodVars_none hV
  simp only [List.append_nil] at hpq
  subst hpq
  have hlt : ∀ x ∈ before, x.block < W.heap.size := fun x hx => by simpa using hW'.lt x hx
  have hlen : ds.length = fn.params.size := by simpa using trodAll_len hA
  obtain ⟨e1, e2, e3⟩ := hs (ds ++ []) (by simpa using hlen)
  refine ⟨ds, [], before, [], before, [], hW', ?_, ?_, ?_, hb.frame _, fun h => by cases h⟩
  · rw [e1, hres]
    exact trodAll_mk1 (shut_bool htb true)
  · rw [e2, List.append_nil]
    exact trodAll_below hl hb hr hA hlt
  · rw [e3, hv]; rfl
end
end Go.Ep

namespace Go.Ep
set_option linter.unusedVariables false

def TDot.ok (x : TDot) : Prop := okK .u16 x.dev ∧ okK .u64 x.n
def TDot.sz (x : TDot) : Nat := (1 + (1 + 0)) + 1
def TRun.ok (x : TRun) : Prop := okK .u64 x.lo ∧ okK .u64 x.hi
def TRun.sz (x : TRun) : Nat := (1 + (1 + 0)) + 1
def TPart.ok (x : TPart) : Prop := okK .u16 x.dev ∧ (List.length x.runs ≤ 9223372036854775807 ∧ ∀ a ∈ x.runs, TRun.ok a)
def TPart.sz (x : TPart) : Nat := (1 + ((szL TRun.sz x.runs + 1) + 0)) + 1
def TEvent.ok (x : TEvent) : Prop := TDot.ok x.dot ∧ okK .u8 x.kind ∧ okK .u64 x.cid ∧ okK .u8 x.field ∧ ByteArray.size x.text ≤ 9223372036854775807 ∧ (List.length x.kills ≤ 9223372036854775807 ∧ ∀ a ∈ x.kills, TDot.ok a)
def TEvent.sz (x : TEvent) : Nat := (TDot.sz x.dot + (1 + (1 + (1 + ((ByteArray.size x.text + 1) + ((szL TDot.sz x.kills + 1) + 0)))))) + 1
end Go.Ep
namespace Go.Proofs
open Go.Ep
set_option maxRecDepth 100000
end Go.Proofs


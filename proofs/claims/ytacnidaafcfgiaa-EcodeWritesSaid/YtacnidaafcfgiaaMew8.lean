/- Texts that the walks and laws lean on, side by side. -/
import Derived.ProofKit
import Derived.Deep.Slices
import Derived.Test.YtacnidaafcfgiaaProg
import Derived.KernelRfl
import Derived.Test.YtacnidaafcfgiaaMew2
import Derived.Test.YtacnidaafcfgiaaMew6
import Derived.Test.YtacnidaafcfgiaaMew7
set_option linter.unusedVariables false
set_option linter.unusedSimpArgs false
namespace Go.Ep.M.N
open Go

theorem wU8_mod (n : Int) : IntKind.u8.wrap n = n % 256 := by simp [IntKind.wrap, IntKind.bits, IntKind.signed]
def lenN (n : Nat) : Nat := if n = 0 then 0 else lenN (n / 256) + 1
theorem lenN_zero : lenN 0 = 0 := by rw [lenN]; rfl
theorem lenN_pos {n : Nat} (h : n ≠ 0) : lenN n = lenN (n / 256) + 1 := by rw [lenN, if_neg h]
theorem lenN_le : ∀ (k n : Nat), n < 256 ^ k → lenN n ≤ k
  | 0, n, h => by
    have : n = 0 := by simpa using h
    rw [this, lenN_zero]; exact Nat.le_refl _
  | k + 1, n, h => by
    by_cases h0 : n = 0
    · rw [h0, lenN_zero]; omega
    · rw [lenN_pos h0]
      have := lenN_le k (n / 256) (by rw [Nat.pow_succ] at h; omega)
      omega
theorem lenN_ge : ∀ (k n : Nat), 256 ^ k ≤ n → k + 1 ≤ lenN n
  | 0, n, h => by
    have : n ≠ 0 := by intro h0; rw [h0] at h; simp at h
    rw [lenN_pos this]; omega
  | k + 1, n, h => by
    have hp : 0 < 256 ^ k := Nat.pow_pos (by decide)
    rw [Nat.pow_succ] at h
    have : n ≠ 0 := by omega
    rw [lenN_pos this]
    have := lenN_ge k (n / 256) (by omega)
    omega
theorem lenN_8 {n : Nat} (h : n < 18446744073709551616) : lenN n ≤ 8 := lenN_le 8 n (by simpa using h)

theorem fdiv256 (n : Nat) : Int.fdiv (n : Int) (2 ^ 8) = ((n / 256 : Nat) : Int) := by
  rw [Int.fdiv_eq_ediv_of_nonneg _ (by decide)]
  have : (2 ^ 8 : Int) = 256 := rfl
  rw [this]; omega
theorem tdiv256 (n : Nat) : Int.tdiv (n : Int) 256 = ((n / 256 : Nat) : Int) := by
  rw [Int.tdiv_eq_ediv_of_nonneg (by omega)]; omega
theorem len_loop : ∀ (n k : Nat), k + lenN n ≤ 1000 → loop shift_Len_l0 ((n : Int), (k : Int)) = pure (((k + lenN n : Nat)) : Int) := by
  intro n
  induction n using Nat.strongRecOn with
  | _ n ih =>
    intro k hk
    by_cases h0 : n = 0
    · subst h0
      rw [lenN_zero, Nat.add_zero]
      exact loop_done (by unfold shift_Len_l0; simp)
    · rw [lenN_pos h0] at hk ⊢
      rw [loop_next (s' := (((n / 256 : Nat) : Int), ((k + 1 : Nat) : Int))) (by
        unfold shift_Len_l0
        have : decide ((0 : Int) < (n : Int)) = true := by simp; omega
        simp only [this, cond_true, fdiv256, wSucc (show k < 9223372036854775807 by omega)]), ih (n / 256) (by omega) (k + 1) (by omega)]
      congr 2; omega
theorem Len_eq {v : Int} (h0 : 0 ≤ v) (h : v ≤ 18446744073709551615) : shift_Len v = pure (lenN v.toNat : Int) := by
  obtain ⟨n, rfl⟩ := Int.eq_ofNat_of_zero_le h0
  unfold shift_Len
  have := len_loop n 0 (by have := lenN_8 (n := n) (by omega); omega)
  rw [show (0 : Int) = ((0 : Nat) : Int) from rfl, this, pure_bind, Nat.zero_add, Int.toNat_natCast]
theorem rlen_loop : ∀ (n k : Nat), n < 18446744073709551616 → k + lenN n ≤ 1000 → loop r01_Len_l0 ((n : Int), (k : Int)) = pure (((k + lenN n : Nat)) : Int) := by
  intro n
  induction n using Nat.strongRecOn with
  | _ n ih =>
    intro k hn hk
    by_cases h0 : n = 0
    · subst h0
      rw [lenN_zero, Nat.add_zero]
      exact loop_done (by unfold r01_Len_l0; simp)
    · rw [lenN_pos h0] at hk ⊢
      rw [loop_next (s' := (((n / 256 : Nat) : Int), ((k + 1 : Nat) : Int))) (by
        unfold r01_Len_l0
        have : decide ((0 : Int) < (n : Int)) = true := by simp; omega
        simp only [this, cond_true, tdiv256, wSucc (show k < 9223372036854775807 by omega), wU64 (show (0 : Int) ≤ ((n / 256 : Nat) : Int) by omega) (by omega)]), ih (n / 256) (by omega) (k + 1) (by omega) (by omega)]
      congr 2; omega
theorem rLen_eq {v : Int} (h0 : 0 ≤ v) (h : v ≤ 18446744073709551615) : r01_Len v = pure (lenN v.toNat : Int) := by
  obtain ⟨n, rfl⟩ := Int.eq_ofNat_of_zero_le h0
  unfold r01_Len
  have := rlen_loop n 0 (by omega) (by have := lenN_8 (n := n) (by omega); omega)
  rw [show (0 : Int) = ((0 : Nat) : Int) from rfl, this, pure_bind, Nat.zero_add, Int.toNat_natCast]

def byteAt (n i : Nat) : Int := ((n / 256 ^ i % 256 : Nat) : Int)
theorem Byte_eq (n i : Nat) (hi : i ≤ 7) : shift_Byte (n : Int) (i : Int) = pure (byteAt n i) := by
  have h8 : i = 0 ∨ i = 1 ∨ i = 2 ∨ i = 3 ∨ i = 4 ∨ i = 5 ∨ i = 6 ∨ i = 7 := by omega
  unfold shift_Byte byteAt
  rw [wU64 (show (0 : Int) ≤ (i : Int) by omega) (by omega), wU64 (show (0 : Int) ≤ 8 * (i : Int) by omega) (by omega)]
  have hd : decide ((7 : Int) < (i : Int)) = false := by simp; omega
  simp only [hd, cond_false]
  rw [need_true (by omega), wU8_mod, Int.fdiv_eq_ediv_of_nonneg _ (by exact Int.le_of_lt (Int.pow_pos (by decide)))]
  congr 1
  have e : (2 : Int) ^ min (8 * (i : Int)).toNat 64 = ((256 ^ i : Nat) : Int) := by
    rcases h8 with rfl | rfl | rfl | rfl | rfl | rfl | rfl | rfl <;> rfl
  rw [e]
  exact (by rw [Int.natCast_emod, Int.natCast_ediv]; rfl)
theorem rbyte_loop (m : Nat) : ∀ (j : Nat) (n : Nat), j ≤ m → m ≤ 7 → n < 18446744073709551616 → loop (r01_Byte_l0 (m : Int)) ((n : Int), (j : Int)) = pure ((n / 256 ^ (m - j) : Nat) : Int) := by
  have key : ∀ (d j n : Nat), j + d = m → m ≤ 7 → n < 18446744073709551616 → loop (r01_Byte_l0 (m : Int)) ((n : Int), (j : Int)) = pure ((n / 256 ^ d : Nat) : Int) := by
    intro d
    induction d with
    | zero =>
      intro j n hj hm hn
      have : j = m := by omega
      subst this
      rw [loop_done (r := (n : Int)) (by unfold r01_Byte_l0; simp)]
      simp
    | succ d ih =>
      intro j n hj hm hn
      rw [loop_next (s' := (((n / 256 : Nat) : Int), ((j + 1 : Nat) : Int))) (by
        unfold r01_Byte_l0
        have : decide ((j : Int) < (m : Int)) = true := by simp; omega
        simp only [this, cond_true, tdiv256, wSucc (show j < 9223372036854775807 by omega), wU64 (show (0 : Int) ≤ ((n / 256 : Nat) : Int) by omega) (by omega)]), ih (j + 1) (n / 256) (by omega) hm (by omega)]
      rw [Nat.pow_succ, Nat.mul_comm, Nat.div_div_eq_div_mul]
  intro j n hj hm hn
  exact key (m - j) j n (by omega) hm hn
theorem rByte_eq (n i : Nat) (hi : i ≤ 7) (hn : n < 18446744073709551616) : r01_Byte (n : Int) (i : Int) = pure (byteAt n i) := by
  unfold r01_Byte byteAt
  have h1 : decide ((i : Int) < 0) = false := by simp
  have h2 : decide ((7 : Int) < (i : Int)) = false := by simp; omega
  have h3 : loop (r01_Byte_l0 (i : Int)) ((n : Int), 0) = pure ((n / 256 ^ (i - 0) : Nat) : Int) := rbyte_loop i 0 n (by omega) hi hn
  rw [h1, h2, cond_false, pure_bind, cond_false, h3, pure_bind, Nat.sub_zero, Int.tmod_eq_emod_of_nonneg (Int.natCast_nonneg _), wU8_mod]
  congr 1
  generalize n / 256 ^ i = q
  omega

def be (n : Nat) : Nat → List Int
  | 0 => []
  | k + 1 => byteAt n k :: be n k
theorem be_len (n : Nat) : ∀ k, (be n k).length = k
  | 0 => rfl
  | k + 1 => by simp [be, be_len n k]
def encN (n : Nat) : List Int := (lenN n : Int) :: be n (lenN n)
def encI (v : Int) : List Int := encN v.toNat
theorem encI_len {v : Int} (h : v ≤ 18446744073709551615) : (encI v).length ≤ 9 := by
  have := lenN_8 (n := v.toNat) (by omega)
  simp [encI, encN, be_len]; omega
theorem app_loop (n : Nat) : ∀ (k : Nat) (out : List Int), k ≤ 8 → out.length + k ≤ 100000000000000 → loop (num_Append_l0 (n : Int)) ((k : Int) - 1, out) = pure (out ++ be n k)
  | 0, out, _, _ => by
    rw [be, List.append_nil]
    exact loop_done (by unfold num_Append_l0; simp)
  | k + 1, out, hk, ho => by
    have e : ((k + 1 : Nat) : Int) - 1 = (k : Int) := by omega
    rw [e, loop_next (s' := ((k : Int) - 1, out ++ [byteAt n k])) (by
      unfold num_Append_l0
      have h1 : decide ((0 : Int) ≤ (k : Int)) = true := by simp
      simp only [h1, cond_true, Byte_eq n k (by omega), det_pure, pure_bind]
      rw [need_true (by simp; omega), wI64 (by omega) (by omega)]), app_loop n k _ (by omega) (by simp; omega), be, List.append_assoc]
    rfl
theorem Append_eq (b : List Int) {v : Int} (h0 : 0 ≤ v) (h : v ≤ 18446744073709551615) (hb : b.length ≤ 10000000000000) : num_Append b v = pure (b ++ encI v) := by
  have h8 := lenN_8 (n := v.toNat) (by omega)
  unfold num_Append
  rw [Len_eq h0 h, det_pure, pure_bind, wI64 (show -9223372036854775808 ≤ (b.length : Int) + (lenN v.toNat : Int) by omega) (by omega), wI64 (by omega) (by omega), need_true (by omega), need_true (by simp; omega), need_true (by simp; omega), wU8 (by omega) (by omega), wI64 (by omega) (by omega)]
  have := app_loop v.toNat (lenN v.toNat) (([] : List Int) ++ b ++ [(lenN v.toNat : Int)]) h8 (by simp; omega)
  rw [show ((v.toNat : Nat) : Int) = v by omega] at this
  rw [this, pure_bind]
  simp [encI, encN]
theorem rapp_loop (n : Nat) (hn : n < 18446744073709551616) : ∀ (k : Nat) (out : List Int), k ≤ 8 → out.length + k ≤ 100000000000000 → loop (r03_Append_l0 (n : Int)) ((k : Int) - 1, out) = pure (out ++ be n k)
  | 0, out, _, _ => by
    rw [be, List.append_nil]
    exact loop_done (by unfold r03_Append_l0; simp)
  | k + 1, out, hk, ho => by
    have e : ((k + 1 : Nat) : Int) - 1 = (k : Int) := by omega
    rw [e, loop_next (s' := ((k : Int) - 1, out ++ [byteAt n k])) (by
      unfold r03_Append_l0
      have h1 : decide ((0 : Int) ≤ (k : Int)) = true := by simp
      simp only [h1, cond_true, rByte_eq n k (by omega) hn, det_pure, pure_bind]
      rw [need_true (by simp; omega), wI64 (by omega) (by omega)]), rapp_loop n hn k _ (by omega) (by simp; omega), be, List.append_assoc]
    rfl
theorem rAppend_eq (b : List Int) {v : Int} (h0 : 0 ≤ v) (h : v ≤ 18446744073709551615) (hb : b.length ≤ 10000000000000) : r03_Append b v = pure (b ++ encI v) := by
  have h8 := lenN_8 (n := v.toNat) (by omega)
  unfold r03_Append
  rw [rLen_eq h0 h, need_true (by simp; omega), det_pure, pure_bind, need_true (by simp; omega), wU8 (by omega) (by omega), wI64 (by omega) (by omega)]
  have := rapp_loop v.toNat (by omega) (lenN v.toNat) (([] : List Int) ++ b ++ [(lenN v.toNat : Int)]) h8 (by simp; omega)
  rw [show ((v.toNat : Nat) : Int) = v by omega] at this
  rw [this, pure_bind]
  simp [encI, encN]


def By (l : List Int) : Prop := ∀ x ∈ l, 0 ≤ x ∧ x ≤ 255
theorem By.drop {l : List Int} (h : By l) (n : Nat) : By (l.drop n) := fun x hx => h x (List.mem_of_mem_drop hx)
theorem By.take {l : List Int} (h : By l) (n : Nat) : By (l.take n) := fun x hx => h x (List.mem_of_mem_take hx)
theorem By.app {a b : List Int} (ha : By a) (hb : By b) : By (a ++ b) := fun x hx => (List.mem_append.1 hx).elim (ha x) (hb x)
theorem By.nil : By [] := fun x hx => by cases hx
def valB (l : List Int) : Int := l.foldl (fun v x => v * 256 + x) 0
theorem val_gen : ∀ (l : List Int) (v k : Nat), By l → v < 256 ^ k → ∃ n : Nat, l.foldl (fun v x => v * 256 + x) (v : Int) = (n : Int) ∧ n < 256 ^ (k + l.length) ∧ v * 256 ^ l.length ≤ n
  | [], v, k, _, hv => ⟨v, rfl, by simpa using hv, by simp⟩
  | x :: r, v, k, hb, hv => by
    have hx := hb x (by simp)
    obtain ⟨n, h1, h2, h3⟩ := val_gen r (v * 256 + x.toNat) (k + 1) (fun y hy => hb y (by simp [hy])) (by rw [Nat.pow_succ]; omega)
    refine ⟨n, ?_, by rw [show k + (x :: r).length = k + 1 + r.length by simp; omega]; exact h2, ?_⟩
    · rw [List.foldl_cons, ← h1]
      congr 1; omega
    · refine Nat.le_trans ?_ h3
      rw [List.length_cons, Nat.pow_succ]
      have : v * (256 ^ r.length * 256) = v * 256 * 256 ^ r.length := by rw [Nat.mul_comm (256 ^ r.length), Nat.mul_assoc]
      rw [this]
      exact Nat.mul_le_mul_right _ (by omega)
theorem val_range {l : List Int} (h : By l) (h8 : l.length ≤ 8) : 0 ≤ valB l ∧ valB l ≤ 18446744073709551615 := by
  obtain ⟨n, h1, h2, _⟩ := val_gen l 0 0 h (by decide)
  have h3 : 256 ^ (0 + l.length) ≤ 256 ^ 8 := Nat.pow_le_pow_right (by decide) (by omega)
  have h4 : (256 : Nat) ^ 8 = 18446744073709551616 := by decide
  rw [valB, show (0 : Int) = ((0 : Nat) : Int) from rfl, h1]
  omega
theorem bor_eq {v : Nat} {x : Int} (hv : v < 72057594037927936) (hx : 0 ≤ x ∧ x ≤ 255) : bOr .u64 (IntKind.u64.wrap ((v : Int) * 2 ^ 8)) (IntKind.u64.wrap x) = (v : Int) * 256 + x := by
  obtain ⟨y, rfl⟩ := Int.eq_ofNat_of_zero_le hx.1
  have e : ((v : Int) * 2 ^ 8) = ((2 ^ 8 * v : Nat) : Int) := by
    have : (2 ^ 8 : Int) = 256 := rfl
    have : (2 ^ 8 : Nat) = 256 := rfl
    omega
  have hb : 2 ^ 8 * v + y < 18446744073709551616 := by
    have : (2 ^ 8 : Nat) = 256 := rfl
    omega
  rw [e, wU64 (by omega) (by omega), wU64 (by omega) (by omega)]
  unfold bOr
  have bv : ∀ q : Nat, q < 18446744073709551616 → (BitVec.ofInt IntKind.u64.bits (q : Int)).toNat = q := fun q hq => by
    show (BitVec.ofInt 64 (q : Int)).toNat = q
    rw [BitVec.toNat_ofInt]; omega
  rw [BitVec.toNat_or, bv _ (by omega), bv _ (by omega), ← Nat.two_pow_add_eq_or_of_lt (show y < 2 ^ 8 by have : (2 ^ 8 : Nat) = 256 := rfl; omega) v, wU64 (by omega) (by omega)]
  have : (2 ^ 8 : Nat) = 256 := rfl
  omega

def rdN : List Int → Int × Nat × Int
  | [] => (0, 0, 2)
  | n :: r => if 8 < n ∨ (0 < n ∧ r.head? = some 0) then (0, 0, 4) else if (r.length : Int) < n then (0, 0, 2) else (valB (r.take n.toNat), n.toNat + 1, 0)
theorem rdN_cons (n : Int) (r : List Int) : rdN (n :: r) = if 8 < n ∨ (0 < n ∧ r.head? = some 0) then (0, 0, 4) else if (r.length : Int) < n then (0, 0, 2) else (valB (r.take n.toNat), n.toNat + 1, 0) := rfl
theorem rdN_cases (b : List Int) (hb : By b) : (rdN b = (0, 0, 2) ∨ rdN b = (0, 0, 4)) ∨ ∃ n r, b = n :: r ∧ 0 ≤ n ∧ n ≤ 8 ∧ n ≤ (r.length : Int) ∧ ¬ (0 < n ∧ r.head? = some 0) ∧ rdN b = (valB (r.take n.toNat), n.toNat + 1, 0) := by
  cases b with
  | nil => exact .inl (.inl rfl)
  | cons n r =>
    have hn := hb n (by simp)
    rw [rdN_cons]
    by_cases h1 : 8 < n ∨ (0 < n ∧ r.head? = some 0)
    · rw [if_pos h1]; exact .inl (.inr rfl)
    · rw [if_neg h1]
      by_cases h2 : (r.length : Int) < n
      · rw [if_pos h2]; exact .inl (.inl rfl)
      · rw [if_neg h2]
        exact .inr ⟨n, r, rfl, hn.1, by omega, by omega, fun h => h1 (.inr h), rfl⟩
theorem rdN_range (b : List Int) (hb : By b) : 0 ≤ (rdN b).1 ∧ (rdN b).1 ≤ 18446744073709551615 ∧ (rdN b).2.1 ≤ b.length ∧ ((rdN b).2.2 = 0 ∨ (rdN b).2.2 = 2 ∨ (rdN b).2.2 = 4) := by
  rcases rdN_cases b hb with (h | h) | ⟨n, r, rfl, h0, h8, hl, _, h⟩
  · rw [h]; simp
  · rw [h]; simp
  · rw [h]
    have := val_range (l := r.take n.toNat) (fun x hx => hb x (by simp [List.mem_of_mem_take hx])) (by rw [List.length_take]; omega)
    refine ⟨this.1, this.2, ?_, .inl rfl⟩
    simp; omega
theorem head_idx {r : List Int} (h : r ≠ []) : ∃ y, r.head? = some y ∧ r[0]? = some y := by
  cases r with
  | nil => exact absurd rfl h
  | cons y t => exact ⟨y, rfl, rfl⟩
theorem Read_eq (b : List Int) (hb : By b) (hl : b.length ≤ 1000000000000) : num_Read b 0 = pure ((rdN b).1, ((rdN b).2.1 : Int), (rdN b).2.2) := by
  unfold num_Read
  have h0 : decide ((b.length : Int) < 0) = false := by simp
  rw [show decide ((0 : Int) < 0) = false from rfl, cond_false, h0, pure_bind, cond_false]
  cases b with
  | nil => rfl
  | cons n r =>
    have hn := hb n (by simp)
    have hr : By r := fun x hx => hb x (by simp [hx])
    have h1 : decide ((0 : Int) = ((n :: r).length : Int)) = false := by simp; omega
    have hrl : r.length ≤ 1000000000000 := by simp at hl; omega
    have e1 : List.drop (Int.toNat (IntKind.i64.wrap (0 + 1))) (List.take (Int.toNat ((n :: r).length : Int)) (n :: r)) = r := by
      rw [wI64 (by omega) (by omega), Int.toNat_natCast, List.take_length]; rfl
    rw [h1, cond_false, idx_eq (y := n) (by omega) rfl, pure_bind, need_true (by rw [wI64 (by omega) (by omega)]; simp; omega), e1, wI64 (n := n) (by omega) (by omega)]
    rw [rdN_cons]
    have hc : (cond (decide (8 < n)) (pure true) (cond (decide (0 < n)) (cond (decide ((0 : Int) < (r.length : Int))) ((idx r 0).bind fun x14 => pure (decide (x14 = 0))) (pure false)) (pure false)) : M Bool) = pure (decide (8 < n ∨ (0 < n ∧ r.head? = some 0))) := by
      by_cases c1 : 8 < n
      · simp [c1]
      · by_cases c2 : 0 < n
        · by_cases c3 : r = []
          · subst c3; simp [c1, c2]
          · obtain ⟨y, h5, h6⟩ := head_idx c3
            have c4 : 0 < r.length := List.length_pos_iff.2 c3
            simp [c1, c2, c4, idx_eq (l := r) (i := 0) (y := y) (by omega) h6, h5, pure_bind]
        · simp [c1, c2]
    rw [hc, pure_bind]
    by_cases c1 : 8 < n ∨ (0 < n ∧ r.head? = some 0)
    · rw [decide_eq_true c1, cond_true, if_pos c1]; rfl
    · rw [decide_eq_false c1, cond_false, if_neg c1]
      by_cases c2 : (r.length : Int) < n
      · rw [decide_eq_true c2, cond_true, if_pos c2]; rfl
      · rw [decide_eq_false c2, cond_false, if_neg c2, need_true (by omega)]
        have e2 : List.drop (Int.toNat 0) (List.take (Int.toNat (IntKind.i64.wrap n)) (List.drop (Int.toNat (IntKind.i64.wrap (0 + 1))) (List.take (Int.toNat ((n :: r).length : Int)) (n :: r)))) = r.take n.toNat := by
          rw [e1, wI64 (by omega) (by omega)]; rfl
        have hlen : (r.take n.toNat).length = n.toNat := by rw [List.length_take]; omega
        have hloop := loopL (body := num_Read_l0 n 0 (n :: r)) (r.take n.toNat) (fun i t => (t, (i : Int))) (fun v x => v * 256 + x) (fun t => pure t) (fun i t => ∃ m : Nat, t = (m : Int) ∧ m < 256 ^ i) (fun i x t hx hi hI => by
          obtain ⟨m, rfl, hm⟩ := hI
          have hxr := (hr.take n.toNat) x (List.mem_of_getElem? hx)
          have hm7 : m < 72057594037927936 := by
            have h3 : 256 ^ i ≤ 256 ^ 7 := Nat.pow_le_pow_right (by decide) (by omega)
            have h4 : (256 : Nat) ^ 7 = 72057594037927936 := by decide
            omega
          refine ⟨?_, m * 256 + x.toNat, by omega, by rw [Nat.pow_succ]; omega⟩
          unfold num_Read_l0
          have hd : decide ((i : Int) < ((r.take n.toNat).length : Int)) = true := by simpa using hi
          simp only [e2, hd, cond_true, idx_nat hx, pure_bind, bor_eq hm7 hxr, wSucc (show i < 9223372036854775807 by omega)]) (fun t _ => by
          unfold num_Read_l0
          have hd : decide (((r.take n.toNat).length : Int) < ((r.take n.toNat).length : Int)) = false := by simp
          simp only [e2, hd, cond_false, pure_bind]) 0 ⟨0, rfl, by decide⟩
        have hloop' : loop (num_Read_l0 n 0 (n :: r)) (0, 0) = pure (valB (r.take n.toNat)) := hloop
        rw [hloop', pure_bind, wI64 (n := 0 + 1) (by omega) (by omega), wI64 (by omega) (by omega)]
        have : ((0 : Int) + 1 + n) = ((n.toNat + 1 : Nat) : Int) := by omega
        rw [this]
abbrev RS := List Int × Int
structure Ok (s : RS) : Prop where
  by_ : By s.1
  len : s.1.length ≤ 1000000000
  nil : s.2 ≠ 0 → s.1 = []
def failS (e : Int) (s : RS) : RS := if s.2 = 0 ∧ e ≠ 0 then ([], e) else s
def numS (s : RS) : Int × RS := if s.2 ≠ 0 then (0, s) else if (rdN s.1).2.2 ≠ 0 then (0, failS (rdN s.1).2.2 s) else ((rdN s.1).1, (s.1.drop (rdN s.1).2.1, 0))
def uptoS (m : Int) (s : RS) : Int × RS := if m < (numS s).1 then (0, failS 4 (numS s).2) else numS s
def byteS (s : RS) : Int × RS := if s.2 ≠ 0 then (0, s) else match s.1 with | [] => (0, failS 2 s) | x :: r => (x, (r, 0))
def textS (m : Int) (s : RS) : ByteArray × RS :=
  if (numS s).2.2 ≠ 0 then (⟨#[]⟩, (numS s).2) else if max m 0 < (numS s).1 then (⟨#[]⟩, failS 3 (numS s).2) else if ((numS s).2.1.length : Int) < (numS s).1 then (⟨#[]⟩, failS 2 (numS s).2)
  else (strL ((numS s).2.1.take (numS s).1.toNat), ((numS s).2.1.drop (numS s).1.toNat, 0))
def endS (s : RS) : Int × RS := let t := if 0 < s.1.length then failS 4 s else s; (t.2, t)
theorem ok_fail {s : RS} (h : Ok s) (e : Int) : Ok (failS e s) := by
  unfold failS
  by_cases c : s.2 = 0 ∧ e ≠ 0
  · rw [if_pos c]; exact ⟨By.nil, by simp, fun _ => rfl⟩
  · rw [if_neg c]; exact h
theorem ok_num {s : RS} (h : Ok s) : Ok (numS s).2 ∧ 0 ≤ (numS s).1 ∧ (numS s).1 ≤ 18446744073709551615 := by
  unfold numS
  have hr := rdN_range s.1 h.by_
  by_cases c : s.2 ≠ 0
  · rw [if_pos c]; exact ⟨h, by simp, by simp⟩
  · rw [if_neg c]
    by_cases c2 : (rdN s.1).2.2 ≠ 0
    · rw [if_pos c2]; exact ⟨ok_fail h _, by simp, by simp⟩
    · rw [if_neg c2]
      exact ⟨⟨h.by_.drop _, by simp; have := h.len; omega, fun h => absurd rfl h⟩, hr.1, hr.2.1⟩
theorem Err_eq (b : List Int) (e : Int) : pack_Reader_Err_o b e = pure (e, b, e) := rfl
theorem Fail_eq (e : Int) (s : RS) : pack_Reader_Fail_o e s.1 s.2 = pure (failS e s) := by
  unfold pack_Reader_Fail_o failS
  by_cases c : s.2 = 0 <;> by_cases c2 : e = 0 <;> simp [c, c2, pure_bind] <;> rw [← c]
theorem take_eq (b : List Int) (n : Nat) (e : Int) (h : n ≤ b.length) : pack_rest_take_o (n : Int) b e = pure (b.take n, b.drop n, e) := by
  unfold pack_rest_take_o
  rw [need_true (by omega), need_true (by omega)]
  simp
theorem Num_eq {s : RS} (h : Ok s) : pack_Reader_Num_o s.1 s.2 = pure (numS s) := by
  unfold pack_Reader_Num_o numS
  rw [Err_eq, det_pure, pure_bind]
  by_cases c : s.2 = 0
  · have hr := rdN_range s.1 h.by_
    simp only [c, decide_true, Bool.not_true, cond_false, Read_eq s.1 h.by_ (by have := h.len; omega), det_pure, pure_bind, ne_eq, not_true_eq_false, if_false]
    by_cases c2 : (rdN s.1).2.2 = 0
    · simp only [c2, decide_true, Bool.not_true, cond_false, take_eq s.1 (rdN s.1).2.1 0 hr.2.2.1, det_pure, pure_bind, not_true_eq_false, if_false]
    · have := Fail_eq (rdN s.1).2.2 s
      rw [c] at this
      simp only [c2, decide_false, Bool.not_false, cond_true, this, det_pure, pure_bind, not_false_eq_true, if_true]
  · simp [c]
theorem Left_eq (s : RS) : pack_Reader_Left_o s.1 s.2 = pure ((s.1.length : Int), s) := by
  unfold pack_Reader_Left_o pack_rest_Left_o
  rw [det_pure, pure_bind]
theorem Text_eq {s : RS} (h : Ok s) {m : Int} (hm : m ≤ 9223372036854775807) : pack_Reader_Text_o m s.1 s.2 = pure (textS m s) := by
  unfold pack_Reader_Text_o textS
  obtain ⟨h1, h2, h3⟩ := ok_num h
  rw [Num_eq h, det_pure, pure_bind, Err_eq, det_pure, pure_bind]
  by_cases c : (numS s).2.2 = 0
  · simp only [c, decide_true, Bool.not_true, cond_false, ne_eq, not_true_eq_false, if_false]
    rw [wU64 (n := max m 0) (by omega) (by omega)]
    by_cases c2 : max m 0 < (numS s).1
    · have hF := Fail_eq 3 (numS s).2
      rw [c] at hF
      rw [decide_eq_true c2, cond_true, if_pos c2, hF, det_pure, pure_bind]
    · have hL := Left_eq (numS s).2
      rw [c] at hL
      rw [decide_eq_false c2, cond_false, if_neg c2, hL, det_pure, pure_bind]
      have hlen := h1.len
      rw [wU64 (n := ((numS s).2.1.length : Int)) (by omega) (by omega)]
      by_cases c3 : ((numS s).2.1.length : Int) < (numS s).1
      · have hF := Fail_eq 2 (numS s).2
        rw [decide_eq_true c3, cond_true, if_pos c3, hF, det_pure, pure_bind]
      · rw [decide_eq_false c3, cond_false, if_neg c3, wI64 (by omega) (by omega)]
        have ht := take_eq (numS s).2.1 (numS s).1.toNat (numS s).2.2 (by omega)
        rw [Int.toNat_of_nonneg h2] at ht
        rw [ht, det_pure, pure_bind, c]
  · simp [c]
theorem put_eq (b row : List Int) (h : row.length + b.length ≤ 100000000000000) : pack_Writer_put_o b row = pure (row ++ b) := by
  unfold pack_Writer_put_o; rw [need_true (by omega)]
theorem WNum_eq {v : Int} (row : List Int) (h0 : 0 ≤ v) (h : v ≤ 18446744073709551615) (hr : row.length ≤ 10000000000000) : pack_Writer_Num_o v row = pure (row ++ encI v) := by
  unfold pack_Writer_Num_o
  have := encI_len h
  rw [Append_eq [] h0 h (by simp), det_pure, pure_bind, List.nil_append, put_eq _ _ (by omega), det_pure, pure_bind]
theorem Bytes_eq (row : List Int) (h : row.length ≤ 100000000000000) : pack_Writer_Bytes_o row = pure (row, row) := by
  unfold pack_Writer_Bytes_o; rw [need_true (by omega)]
theorem WByte_eq (c : Int) (row : List Int) (hr : row.length ≤ 10000000000000) : pack_Writer_Byte_o c row = pure (row ++ [c]) := by
  unfold pack_Writer_Byte_o
  rw [put_eq _ _ (by simp; omega), det_pure, pure_bind]


structure Sim (B : List Int) (a : Int) (s : RS) : Prop where
  lo : 0 ≤ a
  hi : a ≤ B.length
  eq : s.2 = 0 → s.1 = B.drop a.toNat
structure OkB (B : List Int) : Prop where
  by_ : By B
  len : B.length ≤ 1000000000
theorem Sim.start (B : List Int) : Sim B 0 (B, 0) := ⟨Int.le_refl _, by omega, fun _ => rfl⟩
theorem OkB.ok {B : List Int} (h : OkB B) : Ok (B, 0) := ⟨h.by_, h.len, fun h => absurd rfl h⟩
theorem Sim.bad {B : List Int} {a : Int} {s t : RS} (h : Sim B a s) (ht : t.2 ≠ 0) : Sim B a t := ⟨h.lo, h.hi, fun h2 => absurd h2 ht⟩
variable {B : List Int} {a : Int} {s : RS}
end Go.Ep.M.N

namespace Go.Ep.M.D
open Go

theorem lt_iff {a b : TDot} : ltDot a b = true ↔ a.dev < b.dev ∨ (a.dev = b.dev ∧ a.n < b.n) := by simp [ltDot]
theorem lt_irr (a : TDot) : ltDot a a = false := by
  cases h : ltDot a a with
  | false => rfl
  | true => rw [lt_iff] at h; omega
theorem lt_trans {a b c : TDot} (h1 : ltDot a b = true) (h2 : ltDot b c = true) : ltDot a c = true := by rw [lt_iff] at *; omega
theorem lt_asym {a b : TDot} (h : ltDot a b = true) : ltDot b a = false := by
  cases h2 : ltDot b a with
  | false => rfl
  | true => rw [lt_iff] at h h2; omega
theorem lt_tri {a b : TDot} (h1 : ltDot a b = false) (h2 : ltDot b a = false) : a = b := by
  have h3 : ¬ (ltDot a b = true) := by simp [h1]
  have h4 : ¬ (ltDot b a = true) := by simp [h2]
  rw [lt_iff] at h3 h4
  cases a; cases b
  simp only [TDot.mk.injEq] at *
  omega
abbrev Srt (l : List TDot) : Prop := l.Pairwise fun x y => ltDot x y = true
theorem srt_ext : ∀ {l l' : List TDot}, Srt l → Srt l' → (∀ d, d ∈ l ↔ d ∈ l') → l = l'
  | [], [], _, _, _ => rfl
  | [], y :: r, _, _, h => by have := (h y).2 (by simp); simp at this
  | x :: r, [], _, _, h => by have := (h x).1 (by simp); simp at this
  | x :: r, y :: t, h1, h2, h => by
    have hx := (h x).1 (by simp)
    have hy := (h y).2 (by simp)
    have e : x = y := by
      rcases List.mem_cons.1 hx with e | hx
      · exact e
      · rcases List.mem_cons.1 hy with e | hy
        · exact e.symm
        · have a1 := (List.pairwise_cons.1 h2).1 x hx
          have a2 := (List.pairwise_cons.1 h1).1 y hy
          rw [lt_asym a1] at a2; cases a2
    subst e
    congr 1
    refine srt_ext (List.pairwise_cons.1 h1).2 (List.pairwise_cons.1 h2).2 fun d => ?_
    have h3 := h d
    simp only [List.mem_cons] at h3
    constructor
    · intro hd
      rcases h3.1 (.inr hd) with e | h4
      · have := (List.pairwise_cons.1 h1).1 d hd
        rw [e, lt_irr] at this; cases this
      · exact h4
    · intro hd
      rcases h3.2 (.inr hd) with e | h4
      · have := (List.pairwise_cons.1 h2).1 d hd
        rw [e, lt_irr] at this; cases this
      · exact h4

def insD (s : List TDot) (d : TDot) : List TDot := (s.filter fun x => ltDot x d) ++ [d] ++ (s.filter fun x => ltDot d x)
theorem ins_mem {s : List TDot} {d x : TDot} : x ∈ insD s d ↔ x = d ∨ x ∈ s := by
  simp only [insD, List.mem_append, List.mem_filter, List.mem_singleton]
  constructor
  · rintro ((h | h) | h)
    · exact .inr h.1
    · exact .inl h
    · exact .inr h.1
  · rintro (h | h)
    · exact .inl (.inr h)
    · cases h1 : ltDot x d with
      | true => exact .inl (.inl ⟨h, rfl⟩)
      | false =>
        cases h2 : ltDot d x with
        | true => exact .inr ⟨h, rfl⟩
        | false => exact .inl (.inr (lt_tri h1 h2))
theorem ins_srt {s : List TDot} (h : Srt s) (d : TDot) : Srt (insD s d) := by
  unfold Srt insD
  rw [List.pairwise_append, List.pairwise_append]
  refine ⟨⟨h.filter _, by simp, fun a ha b hb => ?_⟩, h.filter _, fun a ha b hb => ?_⟩
  · rw [List.mem_singleton.1 hb]; exact (List.mem_filter.1 ha).2
  · have hb := (List.mem_filter.1 hb).2
    rcases List.mem_append.1 ha with ha | ha
    · exact lt_trans (List.mem_filter.1 ha).2 hb
    · rw [List.mem_singleton.1 ha]; exact hb
theorem ins_len (s : List TDot) (d : TDot) : (insD s d).length ≤ s.length + 1 := by
  unfold insD
  have h : ∀ l : List TDot, (l.filter fun x => ltDot x d).length + (l.filter fun x => ltDot d x).length ≤ l.length := by
    intro l
    induction l with
    | nil => simp
    | cons x r ih =>
      cases h1 : ltDot x d with
      | true => simp [h1, lt_asym h1]; omega
      | false =>
        cases h2 : ltDot d x with
        | true => simp [h1, h2]; omega
        | false => simp [h1, h2]; omega
  have := h s
  simp; omega
def sortD (l : List TDot) : List TDot := l.foldl insD []
theorem sort_gen : ∀ (l s : List TDot), Srt s → Srt (l.foldl insD s) ∧ (∀ d, d ∈ l.foldl insD s ↔ d ∈ s ∨ d ∈ l) ∧ (l.foldl insD s).length ≤ s.length + l.length
  | [], s, h => ⟨h, by simp, by simp⟩
  | x :: r, s, h => by
    obtain ⟨h1, h2, h3⟩ := sort_gen r (insD s x) (ins_srt h x)
    refine ⟨h1, fun d => ?_, ?_⟩
    · rw [List.foldl_cons, h2 d, ins_mem, List.mem_cons]
      constructor
      · rintro ((h | h) | h)
        · exact .inr (.inl h)
        · exact .inl h
        · exact .inr (.inr h)
      · rintro (h | h | h)
        · exact .inl (.inr h)
        · exact .inl (.inl h)
        · exact .inr h
    · have := ins_len s x
      rw [List.foldl_cons, List.length_cons]; omega
theorem sort_srt (l : List TDot) : Srt (sortD l) := (sort_gen l [] List.Pairwise.nil).1
theorem sort_mem {l : List TDot} {d : TDot} : d ∈ sortD l ↔ d ∈ l := by simpa [sortD] using (sort_gen l [] List.Pairwise.nil).2.1 d
theorem sort_len (l : List TDot) : (sortD l).length ≤ l.length := by simpa [sortD] using (sort_gen l [] List.Pairwise.nil).2.2
theorem rPut_eq (s : List TDot) (d : TDot) (h : s.length ≤ 1000000000000) : r07_Put s d = pure (insD s d) := V.r07_Put_eq s d h

def ddS (out : List TDot) (x : TDot) : List TDot := if out.getLast? = some x then out else out ++ [x]
def dd (l : List TDot) : List TDot := l.foldl ddS []
theorem dd_snoc (l : List TDot) (x : TDot) : dd (l ++ [x]) = ddS (dd l) x := by simp [dd]
theorem dd_last (l : List TDot) : (dd l).getLast? = l.getLast? := by
  rcases R.snoc_cases l with rfl | ⟨r, y, rfl⟩
  · rfl
  · rw [dd_snoc]
    unfold ddS
    by_cases c : (dd r).getLast? = some y
    · rw [if_pos c, c]; simp
    · rw [if_neg c]; simp
theorem dd_mem {l : List TDot} {d : TDot} : d ∈ dd l ↔ d ∈ l := by
  have : ∀ (l s : List TDot), d ∈ l.foldl ddS s ↔ d ∈ s ∨ d ∈ l := by
    intro l
    induction l with
    | nil => intro s; simp
    | cons x r ih =>
      intro s
      rw [List.foldl_cons, ih]
      have h2 : d ∈ ddS s x ↔ d ∈ s ∨ d = x := by
        unfold ddS
        split
        · rename_i h
          exact ⟨.inl, fun h3 => h3.elim id fun e => by rw [e]; exact List.mem_of_getLast? h⟩
        · simp
      rw [h2, List.mem_cons]
      exact or_assoc
  simpa [dd] using this l []
theorem dd_srt {l : List TDot} (h : l.Pairwise fun x y => ltDot y x = false) : Srt (dd l) := by
  have : ∀ (n : Nat) (l : List TDot), l.length = n → (l.Pairwise fun x y => ltDot y x = false) → Srt (dd l) := by
    intro n
    induction n with
    | zero => intro l hl _; have := List.eq_nil_of_length_eq_zero hl; subst this; exact List.Pairwise.nil
    | succ n ih =>
      intro l hl h
      rcases R.snoc_cases l with rfl | ⟨r, y, rfl⟩
      · simp at hl
      · rw [List.pairwise_append] at h
        have hr := ih r (by simpa using hl) h.1
        rw [dd_snoc]
        unfold ddS
        split
        · exact hr
        · rename_i hne
          unfold Srt
          rw [List.pairwise_append]
          refine ⟨hr, by simp, fun a ha b hb => ?_⟩
          rw [List.mem_singleton.1 hb]
          have ha' := dd_mem.1 ha
          have h1 := h.2.2 a ha' y (by simp)
          cases h2 : ltDot a y with
          | true => rfl
          | false =>
            exfalso
            have e := lt_tri h2 h1
            subst e
            rw [dd_last] at hne
            rcases R.snoc_cases r with rfl | ⟨q, z, rfl⟩
            · simp at ha'
            · have hz : ltDot a z = false := h.2.2 z (by simp) a (by simp)
              rcases List.mem_append.1 ha' with h5 | h5
              · have h6 : ltDot z a = false := by
                  have := (List.pairwise_append.1 h.1).2.2 a h5 z (by simp); exact this
                have := lt_tri hz h6
                subst this
                simp at hne
              · rw [List.mem_singleton.1 h5] at hne; simp at hne
  exact this l.length l rfl h

theorem Clone_eq (l : List TDot) (h : l.length ≤ 1000000000000) : slices_Clone_sl_Dot_Dot l = pure l := by
  unfold slices_Clone_sl_Dot_Dot
  refine eq_pure ⟨⟨false, fun h => by cases h⟩, fun b hb => ?_⟩
  cases b with
  | true => show ([] : List TDot) = l; exact (hb rfl).symm
  | false =>
    show _ ∧ ([] ++ l = l)
    exact ⟨by simp; omega, List.nil_append l⟩
theorem dotEq (x y : TDot) : (decide (x.dev = y.dev) && decide (x.n = y.n)) = decide (x = y) := by
  cases x; cases y; simp [Bool.decide_and]
theorem take_snoc {l : List TDot} {m : Nat} {x : TDot} (h : l[m]? = some x) : l.take (m + 1) = l.take m ++ [x] := by
  rw [List.take_add_one, h]; rfl
theorem last_take {l : List TDot} {m : Nat} {x : TDot} (h : l[m]? = some x) : (l.take (m + 1)).getLast? = some x := by rw [take_snoc h]; simp
theorem inner_loop (s : List TDot) (k : Nat) (hk : k < s.length) (hl : s.length ≤ 1000000000000) : ∀ (d k2 kk : Nat) (v : List TDot), k + k2 + d = s.length → 1 ≤ k2 → v.length = s.length → kk + 1 ≤ k + k2 → v.take kk = dd (s.take (k + k2)) → v.drop (k + k2 - 1) = s.drop (k + k2 - 1) →
    ∃ (kk' : Nat) (v' : List TDot), loop (slices_Compact_sl_Dot_Dot_o_l0 s (k : Int)) ((kk : Int), (k2 : Int), v) = pure ((kk' : Int), v') ∧ v'.length = s.length ∧ kk' ≤ s.length ∧ v'.take kk' = dd s
  | 0, k2, kk, v, hd, h1, hv, hkk, ht, _ => by
    refine ⟨kk, v, loop_done ?_, hv, by omega, by rw [ht, show k + k2 = s.length by omega, List.take_length]⟩
    unfold slices_Compact_sl_Dot_Dot_o_l0
    have : decide ((k2 : Int) < (((s.length - (k : Int).toNat : Nat)) : Int)) = false := by simp; omega
    simp only [this, cond_false]
  | d + 1, k2, kk, v, hd, h1, hv, hkk, ht, hdr => by
    have hvg : ∀ j, k + k2 - 1 ≤ j → v[j]? = s[j]? := fun j hj => by
      have := congrArg (fun l => l[j - (k + k2 - 1)]?) hdr
      simp only [List.getElem?_drop] at this
      rw [show k + k2 - 1 + (j - (k + k2 - 1)) = j by omega] at this; exact this
    obtain ⟨x, hx⟩ : ∃ x, s[k + k2]? = some x := ⟨_, List.getElem?_eq_getElem (by omega)⟩
    obtain ⟨y, hy⟩ : ∃ y, s[k + k2 - 1]? = some y := ⟨_, List.getElem?_eq_getElem (by omega)⟩
    have hlast : (dd (s.take (k + k2))).getLast? = some y := by
      rw [dd_last]
      have := last_take hy
      rwa [show k + k2 - 1 + 1 = k + k2 by omega] at this
    have hdd : dd (s.take (k + k2 + 1)) = if y = x then dd (s.take (k + k2)) else dd (s.take (k + k2)) ++ [x] := by
      rw [take_snoc hx, dd_snoc]
      unfold ddS
      rw [hlast]
      by_cases c : y = x
      · rw [if_pos c, if_pos (by rw [c])]
      · rw [if_neg c, if_neg (by intro e; exact c (Option.some.inj e))]
    have hb : slices_Compact_sl_Dot_Dot_o_l0 s (k : Int) ((kk : Int), (k2 : Int), v) = pure (.next (if y = x then ((kk : Int), ((k2 + 1 : Nat) : Int), v) else (((kk + 1 : Nat) : Int), ((k2 + 1 : Nat) : Int), v.set kk x))) := by
      unfold slices_Compact_sl_Dot_Dot_o_l0
      have hc : decide ((k2 : Int) < (((s.length - (k : Int).toNat : Nat)) : Int)) = true := by simp; omega
      have e1 : IntKind.i64.wrap ((k2 : Int) - 1) = ((k2 - 1 : Nat) : Int) := by rw [wI64 (by omega) (by omega)]; omega
      have i1 : idx v ((((k : Int).toNat + (k2 : Int).toNat : Nat)) : Int) = pure x := idx_nat (by rw [Int.toNat_natCast, Int.toNat_natCast, hvg _ (by omega)]; exact hx)
      have i2 : idx v ((((k : Int).toNat + (((k2 - 1 : Nat) : Int)).toNat : Nat)) : Int) = pure y := idx_nat (by rw [Int.toNat_natCast, Int.toNat_natCast, hvg _ (by omega), show k + (k2 - 1) = k + k2 - 1 by omega]; exact hy)
      obtain ⟨z, hz⟩ : ∃ z, v[kk]? = some z := ⟨_, List.getElem?_eq_getElem (by omega)⟩
      have i3 : idx v (kk : Int) = pure z := idx_nat hz
      simp only [hc, cond_true, e1]
      rw [need_true (by simp; omega), i1, pure_bind, need_true (by simp; omega), i2, pure_bind]
      simp only [dotEq]
      by_cases c : y = x
      · have c1 : decide (x = y) = true := decide_eq_true c.symm
        simp only [c1, Bool.not_true, cond_false, pure_bind, wSucc (show k2 < 9223372036854775807 by omega), if_pos c]
      · have c1 : decide (x = y) = false := decide_eq_false (fun e => c e.symm)
        simp only [c1, Bool.not_false, cond_true, if_neg c]
        rw [need_true (by simp; omega), i3]
        simp only [pure_bind, wSucc (show k2 < 9223372036854775807 by omega), wSucc (show kk < 9223372036854775807 by omega), Int.toNat_natCast]
    by_cases c : y = x
    · rw [if_pos c] at hb hdd
      rw [loop_next hb]
      refine inner_loop s k hk hl d (k2 + 1) kk v (by omega) (by omega) hv (by omega) (by rw [ht, ← hdd]; rfl) ?_
      have := congrArg (List.drop 1) hdr
      rw [List.drop_drop, List.drop_drop, show k + k2 - 1 + 1 = k + (k2 + 1) - 1 by omega] at this
      exact this
    · rw [if_neg c] at hb hdd
      rw [loop_next hb]
      refine inner_loop s k hk hl d (k2 + 1) (kk + 1) (v.set kk x) (by omega) (by omega) (by simpa using hv) (by omega) ?_ ?_
      · have h5 : (v.set kk x)[kk]? = some x := by rw [List.getElem?_set]; simp; omega
        rw [take_snoc h5, List.take_set, List.set_eq_of_length_le (by rw [List.length_take]; omega), ht, ← hdd]; rfl
      · rw [List.drop_set, if_pos (by omega)]
        have := congrArg (List.drop 1) hdr
        rw [List.drop_drop, List.drop_drop, show k + k2 - 1 + 1 = k + (k2 + 1) - 1 by omega] at this
        exact this
theorem Compact_eq (s : List TDot) (hl : s.length ≤ 1000000000000) : slices_Compact_sl_Dot_Dot_o s = pure (dd s) := by
  unfold slices_Compact_sl_Dot_Dot_o
  by_cases h2 : s.length < 2
  · have : decide ((s.length : Int) < 2) = true := by simp; omega
    rw [this, cond_true]
    match s, h2 with
    | [], _ => rfl
    | [x], _ => rfl
  · have : decide ((s.length : Int) < 2) = false := by simp; omega
    rw [this, cond_false]
    have key : ∀ d k, k + d = s.length → 1 ≤ k → dd (s.take k) = s.take k → (loop (slices_Compact_sl_Dot_Dot_o_l1 s) (k : Int)).bind (exk fun _ => pure s) = pure (dd s) := by
      intro d
      induction d with
      | zero =>
        intro k hk h1 hd
        rw [loop_done (r := .brk ()) (by
          unfold slices_Compact_sl_Dot_Dot_o_l1
          have : decide ((k : Int) < (s.length : Int)) = false := by simp; omega
          simp only [this, cond_false])]
        rw [show k = s.length by omega, List.take_length] at hd
        show pure s = pure (dd s)
        rw [hd]
      | succ d ih =>
        intro k hk h1 hd
        obtain ⟨x, hx⟩ : ∃ x, s[k]? = some x := ⟨_, List.getElem?_eq_getElem (by omega)⟩
        obtain ⟨y, hy⟩ : ∃ y, s[k - 1]? = some y := ⟨_, List.getElem?_eq_getElem (by omega)⟩
        have hlast : (dd (s.take k)).getLast? = some y := by
          rw [dd_last]
          have := last_take hy
          rwa [show k - 1 + 1 = k by omega] at this
        have hc : decide ((k : Int) < (s.length : Int)) = true := by simp; omega
        have i1 : idx s (k : Int) = pure x := idx_nat hx
        have i2 : idx s (IntKind.i64.wrap ((k : Int) - 1)) = pure y := by
          rw [wI64 (by omega) (by omega)]
          exact idx_eq (by omega) (by rw [show ((k : Int) - 1).toNat = k - 1 by omega]; exact hy)
        by_cases c : x = y
        · subst c
          obtain ⟨kk, v, h5, h6, h7, h8⟩ := inner_loop s k (by omega) hl d 1 k s (by omega) (by omega) rfl (by omega) (by
            rw [take_snoc hx, dd_snoc, ddS, if_pos hlast, hd]) (by rw [show k + 1 - 1 = k by omega])
          rw [loop_done (r := .ret (dd s)) (by
            unfold slices_Compact_sl_Dot_Dot_o_l1
            simp only [hc, cond_true, i1, i2, pure_bind, dotEq, decide_true]
            rw [need_true (by omega), show (1 : Int) = ((1 : Nat) : Int) from rfl, h5, pure_bind]
            simp only []
            rw [need_true (by omega), need_true (by simp; omega), need_true (by
              simp only [List.length_append, List.length_take, List.length_replicate, List.length_drop, Int.toNat_natCast]; omega), pure_bind, exk_ret]
            congr 3
            rw [Int.toNat_natCast, List.append_assoc, List.take_append_of_le_length (by rw [List.length_take]; omega), List.take_take, Nat.min_self, h8])]
          rfl
        · have c1 : decide (x = y) = false := decide_eq_false c
          rw [loop_next (s' := ((k + 1 : Nat) : Int)) (by
            unfold slices_Compact_sl_Dot_Dot_o_l1
            simp only [hc, cond_true, i1, i2, pure_bind, dotEq, c1, cond_false, exk_brk, wSucc (show k < 9223372036854775807 by omega)])]
          refine ih (k + 1) (by omega) (by omega) ?_
          rw [take_snoc hx, dd_snoc, ddS, if_neg (by rw [hlast]; intro e; exact c (Option.some.inj e).symm), hd]
    have := key (s.length - 1) 1 (by omega) (by omega) (by
      obtain ⟨x, r, rfl⟩ : ∃ x r, s = x :: r := by
        cases s with
        | nil => simp at h2
        | cons x r => exact ⟨x, r, rfl⟩
      rfl)
    exact this
theorem srt_wp {l : List TDot} {Q : List TDot → Prop} (h : ∀ s, s.Perm l → (s.Pairwise fun x y => ltDot y x = false) → Q s) : (srt ltDot l).wp Q := by
  refine ⟨⟨l.mergeSort (fun x y => !ltDot y x), List.mergeSort_perm _ _, ?_⟩, fun s ⟨h1, h2⟩ => h s h1 h2⟩
  refine (List.pairwise_mergeSort (fun a b c h1 h2 => ?_) (fun a b => ?_) l).imp fun {x y} h => by simpa using h
  · simp only [Bool.not_eq_true'] at h1 h2 ⊢
    cases h3 : ltDot c a with
    | false => rfl
    | true =>
      rw [lt_iff] at h3
      have h4 : ¬ (ltDot b a = true) := by simp [h1]
      have h5 : ¬ (ltDot c b = true) := by simp [h2]
      rw [lt_iff] at h4 h5
      omega
  · cases h1 : ltDot b a with
    | false => rfl
    | true => rw [lt_asym h1]; rfl
theorem Sort_eq (l : List TDot) (h : l.length ≤ 1000000000000) : dot_Sort l = pure (sortD l) := by
  unfold dot_Sort
  rw [Clone_eq l h, det_pure, pure_bind, need_true (by omega)]
  refine eq_pure (srt_wp fun s hs hp => ?_)
  show (bind (det (slices_Compact_sl_Dot_Dot_o s)) fun y8 => pure y8).wp _
  rw [Compact_eq s (by rw [hs.length_eq]; exact h), det_pure, pure_bind]
  exact srt_ext (dd_srt hp) (sort_srt l) fun d => by rw [dd_mem, sort_mem]; exact hs.mem_iff

theorem cmp16_eq (x y : Int) : cmp_Compare_uint16 x y = pure (R.cmp3 x y) := by
  unfold cmp_Compare_uint16 cmp_isNaN_uint16 R.cmp3
  simp only [decide_true, Bool.not_true, det_pure, pure_bind, cond_false, cond_dec]
  split
  · rfl
  · split <;> rfl
theorem Cmp_eq (a b : TDot) : dot_Cmp a b = pure (V.cmpD a b) := by
  unfold dot_Cmp
  rw [cmp16_eq, det_pure, pure_bind, R.cmp3_eq, det_pure, pure_bind]
  unfold V.cmpD R.cmp3
  cases a with | mk d n => cases b with | mk e m =>
  simp only [TDot.mk.injEq, ltDot]
  by_cases h1 : d < e
  · have : ¬ d = e := by omega
    simp [h1, this]
  · by_cases h2 : e < d
    · have : ¬ d = e := by omega
      simp [h1, h2, this]
    · have h3 : d = e := by omega
      subst h3
      by_cases h4 : n < m
      · have : ¬ n = m := by omega
        simp [h4, this]
      · by_cases h5 : m < n
        · have : ¬ n = m := by omega
          simp [h4, h5, this]
        · have : n = m := by omega
          simp [this]


/-- A loop that puts bytes behind, for each element some. -/
theorem loopApp {σ ρ ε : Type} {body : σ → M (Step σ ρ)} (l : List ε) (f : ε → List Int) (row : List Int) (N : Nat) (mk : Nat → List Int → σ) (g : List Int → M ρ) (hN : row.length + (l.flatMap f).length ≤ N)
    (h1 : ∀ (i : Nat) (x : ε) (out : List Int), l[i]? = some x → i < l.length → out.length + (f x).length ≤ N → body (mk i out) = pure (.next (mk (i + 1) (out ++ f x))))
    (h2 : ∀ out, body (mk l.length out) = (g out).bind fun r => pure (.done r)) : loop body (mk 0 row) = g (row ++ l.flatMap f) := by
  have key : ∀ (k i : Nat) (out : List Int), i + k = l.length → out.length + ((l.drop i).flatMap f).length ≤ N → loop body (mk i out) = g (out ++ (l.drop i).flatMap f) := by
    intro k
    induction k with
    | zero =>
      intro i out hi _
      have : i = l.length := by omega
      subst this
      rw [loop_eq, h2, List.drop_length]
      simp only [List.flatMap_nil, List.append_nil]
      rfl
    | succ k ih =>
      intro i out hi hl
      have hlt : i < l.length := by omega
      rw [List.drop_eq_getElem_cons hlt, List.flatMap_cons, List.length_append] at hl
      rw [loop_next (h1 i l[i] out (List.getElem?_eq_getElem hlt) hlt (by omega)), ih (i + 1) _ (by omega) (by rw [List.length_append]; omega), List.drop_eq_getElem_cons hlt, List.flatMap_cons, List.append_assoc]
  simpa using key l.length 0 row (by omega) (by simpa using hN)
theorem flat_len {ε : Type} (l : List ε) (f : ε → List Int) (k : Nat) (h : ∀ x ∈ l, (f x).length ≤ k) : (l.flatMap f).length ≤ k * l.length := by
  induction l with
  | nil => simp
  | cons x r ih =>
    have h1 := h x (by simp)
    have h2 := ih fun y hy => h y (by simp [hy])
    rw [List.flatMap_cons, List.length_append, List.length_cons, Nat.mul_add]; omega

structure OkD (d : TDot) : Prop where
  d0 : 0 ≤ d.dev
  d1 : d.dev ≤ 65535
  n0 : 0 ≤ d.n
  n1 : d.n ≤ 18446744073709551615
def encD (d : TDot) : List Int := N.encI d.dev ++ N.encI d.n
theorem encD_len {d : TDot} (h : OkD d) : (encD d).length ≤ 18 := by
  have h1 := N.encI_len (v := d.dev) (by have := h.d1; omega)
  have h2 := N.encI_len (v := d.n) h.n1
  rw [encD, List.length_append]; omega
theorem PutDot_eq {d : TDot} (h : OkD d) (row : List Int) (hr : row.length ≤ 1000000000000) : dcode_PutDot_o d row = pure (row ++ encD d) := by
  have h1 := N.encI_len (v := d.dev) (by have := h.d1; omega)
  unfold dcode_PutDot_o
  rw [wU64 h.d0 (by have := h.d1; omega), N.WNum_eq row h.d0 (by have := h.d1; omega) (by omega), det_pure, pure_bind, N.WNum_eq _ h.n0 h.n1 (by rw [List.length_append]; omega), det_pure, pure_bind, encD, List.append_assoc]
theorem rPutDot_eq {d : TDot} (h : OkD d) (row : List Int) (hr : row.length ≤ 1000000000000) : r15_PutDot row d = pure (row ++ encD d) := by
  have h1 := N.encI_len (v := d.dev) (by have := h.d1; omega)
  unfold r15_PutDot
  rw [wU64 h.d0 (by have := h.d1; omega), N.rAppend_eq row h.d0 (by have := h.d1; omega) (by omega), det_pure, pure_bind, N.rAppend_eq _ h.n0 h.n1 (by rw [List.length_append]; omega), det_pure, pure_bind, encD, List.append_assoc]
def goods (l : List TDot) : List TDot := l.filter V.goodD
def encDs (l : List TDot) : List Int := N.encI (sortD (goods l)).length ++ (sortD (goods l)).flatMap encD
theorem good_loop (l : List TDot) (hl : l.length ≤ 1000000000000) : loop (dcode_PutDots_o_l0 l) (0, []) = pure (goods l) := by
  have := loopL (body := dcode_PutDots_o_l0 l) l (fun i t => ((i : Int), t)) (fun t d => if V.goodD d = true then t ++ [d] else t) (fun t => pure t) (fun i t => t.length ≤ i) (fun i x t hx hi hI => by
    have hd : decide ((i : Int) < (l.length : Int)) = true := by simpa using hi
    refine ⟨?_, by split
                   · simp; omega
                   · omega⟩
    unfold dcode_PutDots_o_l0
    simp only [hd, cond_true, idx_nat hx, pure_bind, V.dot_Good_eq, det_pure, wSucc (show i < 9223372036854775807 by omega)]
    by_cases c : V.goodD x = true
    · rw [c, cond_true, need_true (by simp; omega), pure_bind, if_pos rfl]
    · simp only [Bool.not_eq_true] at c
      rw [c, cond_false, pure_bind]; rfl) (fun t _ => by
    unfold dcode_PutDots_o_l0
    simp [pure_bind]) [] (by simp)
  rw [show (0 : Int) = ((0 : Nat) : Int) from rfl, this]
  congr 1
  have key : ∀ (l t : List TDot), l.foldl (fun t d => if V.goodD d = true then t ++ [d] else t) t = t ++ goods l := by
    intro l
    induction l with
    | nil => intro t; simp [goods]
    | cons x r ih =>
      intro t
      rw [List.foldl_cons, ih]
      unfold goods
      by_cases c : V.goodD x = true
      · rw [if_pos c, List.filter_cons_of_pos c, List.append_assoc]; rfl
      · rw [if_neg c, List.filter_cons_of_neg c]
  simpa using key l []
theorem good_mem {l : List TDot} {d : TDot} : d ∈ sortD (goods l) ↔ d ∈ l ∧ V.goodD d = true := by rw [sort_mem, goods, List.mem_filter]
theorem good_len (l : List TDot) : (sortD (goods l)).length ≤ l.length := Nat.le_trans (sort_len _) (List.length_filter_le _ _)
theorem okD_good {l : List TDot} (h : ∀ d ∈ l, OkD d) : ∀ d ∈ sortD (goods l), OkD d := fun d hd => h d (good_mem.1 hd).1
theorem encDs_len {l : List TDot} (h : ∀ d ∈ l, OkD d) (hl : l.length ≤ 1000000000000) : (encDs l).length ≤ 9 + 18 * l.length := by
  have h1 := N.encI_len (v := ((sortD (goods l)).length : Int)) (by have := good_len l; omega)
  have h2 := flat_len (sortD (goods l)) encD 18 fun x hx => encD_len (okD_good h x hx)
  have h3 := good_len l
  rw [encDs, List.length_append]; omega
theorem PutDots_eq {l : List TDot} (h : ∀ d ∈ l, OkD d) (hl : l.length ≤ 1000000000) (row : List Int) (hr : row.length ≤ 100000000000) : dcode_PutDots_o l row = pure (row ++ encDs l) := by
  have h3 := good_len l
  have h1 := N.encI_len (v := ((sortD (goods l)).length : Int)) (by omega)
  have h2 := flat_len (sortD (goods l)) encD 18 fun x hx => encD_len (okD_good h x hx)
  unfold dcode_PutDots_o
  rw [good_loop l (by omega), pure_bind, Sort_eq _ (by have := List.length_filter_le V.goodD l; unfold goods; omega), det_pure, pure_bind, wU64 (by omega) (by omega), N.WNum_eq row (by omega) (by omega) (by omega), det_pure, pure_bind]
  have := loopApp (body := dcode_PutDots_o_l1 (sortD (goods l))) (sortD (goods l)) encD (row ++ N.encI ((sortD (goods l)).length : Int)) 1000000000000 (fun i out => ((i : Int), out)) (fun t => pure t) (by rw [List.length_append]; omega) (fun i x out hx hi ho => by
    have hd : decide ((i : Int) < ((sortD (goods l)).length : Int)) = true := by simpa using hi
    unfold dcode_PutDots_o_l1
    simp only [hd, cond_true, idx_nat hx, pure_bind, PutDot_eq (okD_good h x (List.mem_of_getElem? hx)) out (by omega), det_pure, wSucc (show i < 9223372036854775807 by omega)]) (fun out => by
    unfold dcode_PutDots_o_l1
    simp [pure_bind])
  rw [show (0 : Int) = ((0 : Nat) : Int) from rfl, this, encDs, List.append_assoc]
theorem rgood_loop (l : List TDot) (hl : l.length ≤ 1000000000000) : loop (r15_PutDots_l0 l) ([], 0) = pure (sortD (goods l)) := by
  have := loopL (body := r15_PutDots_l0 l) l (fun i t => (t, (i : Int))) (fun t d => if V.goodD d = true then insD t d else t) (fun t => pure t) (fun i t => t.length ≤ i) (fun i x t hx hi hI => by
    have hd : decide ((i : Int) < (l.length : Int)) = true := by simpa using hi
    refine ⟨?_, by split
                   · have := ins_len t x; omega
                   · omega⟩
    unfold r15_PutDots_l0
    simp only [hd, cond_true, idx_nat hx, pure_bind, V.r07_Good_eq, det_pure, wSucc (show i < 9223372036854775807 by omega)]
    by_cases c : V.goodD x = true
    · rw [c, cond_true, rPut_eq t x (by omega), det_pure, pure_bind, pure_bind, if_pos rfl]
    · simp only [Bool.not_eq_true] at c
      rw [c, cond_false, pure_bind]; rfl) (fun t _ => by
    unfold r15_PutDots_l0
    simp [pure_bind]) [] (by simp)
  rw [show (0 : Int) = ((0 : Nat) : Int) from rfl, this]
  congr 1
  have key : ∀ (l t : List TDot), l.foldl (fun t d => if V.goodD d = true then insD t d else t) t = (goods l).foldl insD t := by
    intro l
    induction l with
    | nil => intro t; rfl
    | cons x r ih =>
      intro t
      rw [List.foldl_cons, ih]
      unfold goods
      by_cases c : V.goodD x = true
      · rw [if_pos c, List.filter_cons_of_pos c]; rfl
      · rw [if_neg c, List.filter_cons_of_neg c]
  exact key l []
theorem rPutDots_eq {l : List TDot} (h : ∀ d ∈ l, OkD d) (hl : l.length ≤ 1000000000) (row : List Int) (hr : row.length ≤ 100000000000) : r15_PutDots row l = pure (row ++ encDs l) := by
  have h3 := good_len l
  have h1 := N.encI_len (v := ((sortD (goods l)).length : Int)) (by omega)
  have h2 := flat_len (sortD (goods l)) encD 18 fun x hx => encD_len (okD_good h x hx)
  unfold r15_PutDots
  rw [rgood_loop l (by omega), pure_bind, wU64 (by omega) (by omega), N.rAppend_eq row (by omega) (by omega) (by omega), det_pure, pure_bind]
  have := loopApp (body := r15_PutDots_l1 (sortD (goods l))) (sortD (goods l)) encD (row ++ N.encI ((sortD (goods l)).length : Int)) 1000000000000 (fun i out => (out, (i : Int))) (fun t => pure t) (by rw [List.length_append]; omega) (fun i x out hx hi ho => by
    have hd : decide ((i : Int) < ((sortD (goods l)).length : Int)) = true := by simpa using hi
    unfold r15_PutDots_l1
    simp only [hd, cond_true, idx_nat hx, pure_bind, rPutDot_eq (okD_good h x (List.mem_of_getElem? hx)) out (by omega), det_pure, wSucc (show i < 9223372036854775807 by omega)]) (fun out => by
    unfold r15_PutDots_l1
    simp [pure_bind])
  rw [show (0 : Int) = ((0 : Nat) : Int) from rfl, this, pure_bind, encDs, List.append_assoc]

def encR (x : TRun) : List Int := N.encI x.lo ++ N.encI x.hi
def encP (p : TPart) : List Int := N.encI p.dev ++ (N.encI p.runs.length ++ p.runs.flatMap encR)
def encN (c : List TPart) : List Int := N.encI c.length ++ c.flatMap encP
def encC (c : List TPart) : List Int := encN (C.normC c)
structure OkP (p : TPart) : Prop where
  d0 : 0 ≤ p.dev
  d1 : p.dev ≤ 65535
  r : ∀ x ∈ p.runs, (0 ≤ x.lo ∧ x.lo ≤ 18446744073709551615) ∧ 0 ≤ x.hi ∧ x.hi ≤ 18446744073709551615
theorem encR_len {x : TRun} (h : (0 ≤ x.lo ∧ x.lo ≤ 18446744073709551615) ∧ 0 ≤ x.hi ∧ x.hi ≤ 18446744073709551615) : (encR x).length ≤ 18 := by
  have h1 := N.encI_len h.1.2
  have h2 := N.encI_len h.2.2
  rw [encR, List.length_append]; omega
theorem encP_len {p : TPart} (h : OkP p) (hl : p.runs.length ≤ 1000000000000) : (encP p).length ≤ 18 + 18 * p.runs.length := by
  have h1 := N.encI_len (v := p.dev) (by have := h.d1; omega)
  have h2 := N.encI_len (v := (p.runs.length : Int)) (by omega)
  have h3 := flat_len p.runs encR 18 fun x hx => encR_len (h.r x hx)
  rw [encP, List.length_append, List.length_append]; omega
theorem flatP_len (c : List TPart) (h : ∀ p ∈ c, OkP p) (hl : C.totC c ≤ 1000000000000) : (c.flatMap encP).length ≤ 18 * c.length + 18 * C.totC c := by
  induction c with
  | nil => simp
  | cons p r ih =>
    have e : C.totC (p :: r) = p.runs.length + C.totC r := by simp [C.totC]
    have h1 := encP_len (h p (by simp)) (by omega)
    have h2 := ih (fun q hq => h q (by simp [hq])) (by omega)
    rw [List.flatMap_cons, List.length_append, List.length_cons, e]; omega
theorem encN_len {c : List TPart} (h : ∀ p ∈ c, OkP p) (hc : c.length ≤ 1000000000000) (hl : C.totC c ≤ 1000000000000) : (encN c).length ≤ 9 + 18 * c.length + 18 * C.totC c := by
  have h1 := N.encI_len (v := (c.length : Int)) (by omega)
  have h2 := flatP_len c h hl
  rw [encN, List.length_append]; omega
theorem okP_norm {c : List TPart} (h : ∀ p ∈ c, p.dev ≤ 65535) : ∀ p ∈ C.normC c, OkP p := fun p hp => by
  have h1 := (C.canon_norm c).nf p hp
  refine ⟨by omega, ?_, fun x hx => ?_⟩
  · have h2 := (C.mem_partsOf.1 hp).1
    obtain ⟨q, hq, e⟩ := (C.mem_devs.1 h2).1
    rw [← e]; exact h q hq
  · have := R.mayR_iff.1 (h1.2.2.may x hx)
    omega


theorem PutCtx_eq {c : List TPart} (ho : C.Ok c) (h : ∀ p ∈ c, p.dev ≤ 65535) (hs : c.length ≤ 100000000 ∧ C.totC c ≤ 100000000) (row : List Int) (hr : row.length ≤ 100000000000) : dcode_PutCtx_o c row = pure (row ++ encC c) := by
  have hn := C.len_normC c
  have ht := C.tot_normC c
  have hp := okP_norm h
  have hl := encN_len hp (by omega) (by omega)
  have h9 := N.encI_len (v := ((C.normC c).length : Int)) (by omega)
  have hf := flatP_len (C.normC c) hp (by omega)
  unfold dcode_PutCtx_o
  rw [C.Norm_eq c ho.sm, det_pure, pure_bind, wU64 (by omega) (by omega), N.WNum_eq row (by omega) (by omega) (by omega), det_pure, pure_bind]
  have := loopApp (body := dcode_PutCtx_o_l1 (C.normC c)) (C.normC c) encP (row ++ N.encI ((C.normC c).length : Int)) 1000000000000 (fun i out => ((i : Int), out)) (fun t => pure t) (by rw [List.length_append]; omega) (fun i p out hx hi hout => by
    have hd : decide ((i : Int) < ((C.normC c).length : Int)) = true := by simpa using hi
    have hm := List.mem_of_getElem? hx
    have hpp := hp p hm
    have hrl : p.runs.length ≤ 1000000000 := by have := C.run_le p hm; omega
    have e1 := N.encI_len (v := p.dev) (by have := hpp.d1; omega)
    have e2 := N.encI_len (v := (p.runs.length : Int)) (by omega)
    have e3 := flat_len p.runs encR 18 fun x hx => encR_len (hpp.r x hx)
    unfold dcode_PutCtx_o_l1
    simp only [hd, cond_true, idx_nat hx, pure_bind]
    rw [wU64 hpp.d0 (by have := hpp.d1; omega), N.WNum_eq out hpp.d0 (by have := hpp.d1; omega) (by omega), det_pure, pure_bind, wU64 (by omega) (by omega), N.WNum_eq _ (by omega) (by omega) (by rw [List.length_append]; omega), det_pure, pure_bind]
    have := loopApp (body := dcode_PutCtx_o_l0 p) p.runs encR (out ++ N.encI p.dev ++ N.encI (p.runs.length : Int)) 2000000000000 (fun i out => ((i : Int), out)) (fun t => pure t) (by rw [List.length_append, List.length_append]; omega) (fun j x out2 hx2 hj hout2 => by
      have hd2 : decide ((j : Int) < (p.runs.length : Int)) = true := by simpa using hj
      have hxr := hpp.r x (List.mem_of_getElem? hx2)
      have e4 := N.encI_len hxr.1.2
      unfold dcode_PutCtx_o_l0
      simp only [hd2, cond_true, idx_nat hx2, pure_bind]
      rw [N.WNum_eq out2 hxr.1.1 hxr.1.2 (by omega), det_pure, pure_bind, N.WNum_eq _ hxr.2.1 hxr.2.2 (by rw [List.length_append]; omega), det_pure, pure_bind, wSucc (show j < 9223372036854775807 by omega), encR, List.append_assoc]) (fun out => by
      unfold dcode_PutCtx_o_l0
      simp [pure_bind])
    rw [show (0 : Int) = ((0 : Nat) : Int) from rfl, this, pure_bind, wSucc (show i < 9223372036854775807 by omega), encP]
    simp only [List.append_assoc]) (fun out => by
    unfold dcode_PutCtx_o_l1
    simp [pure_bind])
  rw [show (0 : Int) = ((0 : Nat) : Int) from rfl, this, encC, encN, List.append_assoc]
theorem encC_len {c : List TPart} (h : ∀ p ∈ c, p.dev ≤ 65535) (hs : c.length ≤ 100000000 ∧ C.totC c ≤ 100000000) : (encC c).length ≤ 10000000000 := by
  have hn := C.len_normC c
  have ht := C.tot_normC c
  have hl := encN_len (okP_norm h) (by omega) (by omega)
  rw [encC]; omega
theorem Encode_eq {c : List TPart} (ho : C.Ok c) (h : ∀ p ∈ c, p.dev ≤ 65535) (hs : c.length ≤ 100000000 ∧ C.totC c ≤ 100000000) : dcode_Encode c = pure (encC c) := by
  have := encC_len h hs
  unfold dcode_Encode
  rw [PutCtx_eq ho h hs [] (by simp), det_pure, pure_bind, List.nil_append, N.Bytes_eq _ (by omega), det_pure, pure_bind]
theorem equal_eq {a b : List Int} : l15_equal a b = pure (decide (strL a = strL b)) := rfl
theorem ctx_one : C.normC [⟨1, [⟨1, 2⟩]⟩] = [⟨1, [⟨1, 2⟩]⟩] := (C.Canon.eq_norm ⟨by simp [C.OrdP], fun p hp => by
  rw [List.mem_singleton.1 hp]
  exact ⟨by decide, by simp, by simp [R.Nf, R.mayR_iff]⟩⟩).symm
theorem works_eq : l15_works = pure true := by
  unfold l15_works
  have ho : C.Ok [⟨1, [⟨1, 2⟩]⟩] := ⟨fun p hp => by rw [List.mem_singleton.1 hp]; decide, by simp, by simp [C.totC]⟩
  rw [Encode_eq ho (fun p hp => by rw [List.mem_singleton.1 hp]; decide) (by simp [C.totC]), det_pure, pure_bind, equal_eq, det_pure, pure_bind]
  have e : encC [⟨1, [⟨1, 2⟩]⟩] = [1, 1, 1, 1, 1, 1, 1, 1, 1, 2] := by
    rw [encC, ctx_one]
    have e1 : N.encI 1 = [1, 1] := by
      show (N.lenN 1 : Int) :: N.be 1 (N.lenN 1) = _
      have : N.lenN 1 = 1 := by rw [N.lenN_pos (by decide), show 1 / 256 = 0 from rfl, N.lenN_zero]
      rw [this]; rfl
    have e2 : N.encI 2 = [1, 2] := by
      show (N.lenN 2 : Int) :: N.be 2 (N.lenN 2) = _
      have : N.lenN 2 = 1 := by rw [N.lenN_pos (by decide), show 2 / 256 = 0 from rfl, N.lenN_zero]
      rw [this]; rfl
    simp [encN, encP, encR, e1, e2]
  rw [e]; simp
open N (RS Ok numS uptoS failS endS OkB Sim)

def bad4 (c : Bool) (s : RS) : RS := if c = true then failS 4 s else s
def fin {α : Type} (z x : α) (t : RS) : α × RS := if t.2 ≠ 0 then (z, t) else (x, t)
def dotR (s : RS) : TDot := ⟨(uptoS 65535 s).1, (numS (uptoS 65535 s).2).1⟩
def dotT (s : RS) : RS := bad4 (!V.goodD (dotR s)) (numS (uptoS 65535 s).2).2
def dotS (s : RS) : TDot × RS := fin ⟨0, 0⟩ (dotR s) (dotT s)
variable {B : List Int} {a : Int} {s : RS}
def lastGe (out : List TDot) (x : TDot) : Bool := match out.getLast? with | some y => decide (0 ≤ V.cmpD y x) | none => false
def dotsT (out : List TDot) (s : RS) : RS := bad4 (lastGe out (dotS s).1) (dotS s).2
def dotsL : Nat → List TDot → RS → List TDot × RS
  | 0, out, s => (out, s)
  | k + 1, out, s => if (dotsT out s).2 ≠ 0 then ([], dotsT out s) else dotsL k (out ++ [(dotS s).1]) (dotsT out s)
def dotsS (most : Int) (s : RS) : List TDot × RS := if max most 0 < (numS s).1 then ([], failS 3 (numS s).2) else dotsL (numS s).1.toNat [] (numS s).2
open N (RS Ok numS uptoS failS endS OkB Sim)

variable {B : List Int} {a : Int} {s : RS}
open N (RS Ok numS uptoS failS endS OkB Sim)

def riseB : List TDot → Bool
  | [] => true
  | x :: r => (match r with | [] => true | y :: _ => ltDot x y) && riseB r
theorem cmp_ge (x y : TDot) : decide (0 ≤ V.cmpD x y) = !ltDot x y := by
  by_cases h : ltDot x y = true
  · have := V.cmpD_neg.2 h
    rw [h]; simp; omega
  · have h2 : ¬ V.cmpD x y < 0 := fun e => h (V.cmpD_neg.1 e)
    simp only [Bool.not_eq_true] at h
    rw [h]; simp; omega
theorem rRising_eq (l : List TDot) (hl : l.length ≤ 1000000000000) : r07_Rising l = pure (riseB l) := by
  unfold r07_Rising
  have key : ∀ (k i : Nat) (x : TDot) (r : List TDot), i + k = l.length → l.drop i = r → i ≠ 0 → l[i - 1]? = some x → loop (r07_Rising_l0 l) (i : Int) = pure (if riseB (x :: r) = true then .brk () else .ret false) := by
    intro k
    induction k with
    | zero =>
      intro i x r hi hr h1 hx
      have : r = [] := by rw [← hr]; exact List.drop_eq_nil_of_le (by omega)
      subst this
      exact loop_done (by
        unfold r07_Rising_l0
        have : decide ((i : Int) < (l.length : Int)) = false := by simp; omega
        simp only [this, cond_false]; rfl)
    | succ k ih =>
      intro i x r hi hr h1 hx
      have hlt : i < l.length := by omega
      have hr2 : r = l[i] :: l.drop (i + 1) := by rw [← hr]; exact List.drop_eq_getElem_cons hlt
      have hy := List.getElem?_eq_getElem hlt
      have hi1 : idx l (IntKind.i64.wrap ((i : Int) - 1)) = pure x := by
        rw [wI64 (by omega) (by omega)]
        exact idx_eq (by omega) (by rw [show ((i : Int) - 1).toNat = i - 1 by omega]; exact hx)
      have hb : r07_Rising_l0 l (i : Int) = cond (!ltDot x l[i]) (pure (.done (.ret false))) (pure (.next ((i + 1 : Nat) : Int))) := by
        unfold r07_Rising_l0
        have : decide ((i : Int) < (l.length : Int)) = true := by simp; omega
        simp only [this, cond_true, hi1, idx_nat hy, pure_bind, V.r07_Cmp_eq, det_pure, cmp_ge, wSucc (show i < 9223372036854775807 by omega)]
      rw [hr2]
      show _ = (pure (if (ltDot x l[i] && riseB (l[i] :: l.drop (i + 1))) = true then Ex.brk () else Ex.ret false) : M (Ex Unit Bool))
      cases c : ltDot x l[i] with
      | true =>
        rw [c] at hb
        rw [loop_next hb, Bool.true_and]
        exact ih (i + 1) l[i] _ (by omega) rfl (by omega) hy
      | false =>
        rw [c] at hb
        rw [loop_done hb]; rfl
  cases l with
  | nil =>
    rw [loop_done (r := .brk ()) (by unfold r07_Rising_l0; rfl)]; rfl
  | cons x r =>
    have := key r.length 1 x r (by simp; omega) rfl (by decide) rfl
    rw [show ((1 : Nat) : Int) = 1 from rfl] at this
    rw [this, pure_bind]
    cases riseB (x :: r) <;> rfl

open N (RS Ok numS uptoS failS endS OkB Sim)

end Go.Ep.M.D

namespace Go.Ep.M.E
open Go

theorem bytes_len (s : ByteArray) : (bytesL s).length = s.size := by simp [bytesL]
def cidD (v : Int) : TDot := ⟨v / 281474976710656, v % 281474976710656⟩
theorem band48 {v : Int} (h0 : 0 ≤ v) (h : v ≤ 18446744073709551615) : bAnd .u64 v 281474976710655 = v % 281474976710656 := by
  obtain ⟨n, rfl⟩ := Int.eq_ofNat_of_zero_le h0
  unfold bAnd
  have bv : ∀ q : Nat, q < 18446744073709551616 → (BitVec.ofInt IntKind.u64.bits (q : Int)).toNat = q := fun q hq => by
    show (BitVec.ofInt 64 (q : Int)).toNat = q
    rw [BitVec.toNat_ofInt]; omega
  have e : (281474976710655 : Int) = ((281474976710655 : Nat) : Int) := rfl
  rw [e, BitVec.toNat_and, bv n (by omega), bv _ (by decide)]
  have h2 : n &&& 281474976710655 = n % 281474976710656 := Nat.and_two_pow_sub_one_eq_mod n 48
  rw [h2, wU64 (by omega) (by omega)]
  omega
theorem Split_eq {v : Int} (h0 : 0 ≤ v) (h : v ≤ 18446744073709551615) : shift_Split v = pure ((cidD v).dev, (cidD v).n) := by
  unfold shift_Split cidD
  have e : (2 ^ 48 : Int) = 281474976710656 := rfl
  rw [band48 h0 h, Int.fdiv_eq_ediv_of_nonneg _ (by decide), e, wU16 (by omega) (by omega)]
theorem rSplit_eq {v : Int} (h0 : 0 ≤ v) (h : v ≤ 18446744073709551615) : r01_Split v = pure ((cidD v).dev, (cidD v).n) := by
  unfold r01_Split cidD
  rw [Int.tdiv_eq_ediv_of_nonneg h0, Int.tmod_eq_emod_of_nonneg h0, wU64 (by omega) (by omega), wU16 (by omega) (by omega)]
def goodC (v : Int) : Bool := V.goodD (cidD v)
theorem Unpack_eq {v : Int} (h0 : 0 ≤ v) (h : v ≤ 18446744073709551615) : dot_Unpack v = pure (if goodC v = true then cidD v else ⟨0, 0⟩, goodC v) := by
  unfold dot_Unpack
  rw [Split_eq h0 h, det_pure, pure_bind, V.dot_Good_eq, det_pure, pure_bind]
  show cond (!goodC v) _ _ = _
  cases goodC v <;> rfl
theorem rUnpack_eq {v : Int} (h0 : 0 ≤ v) (h : v ≤ 18446744073709551615) : r07_Unpack v = pure (if goodC v = true then cidD v else ⟨0, 0⟩, goodC v) := by
  unfold r07_Unpack
  rw [rSplit_eq h0 h, det_pure, pure_bind, V.r07_Good_eq, det_pure, pure_bind]
  show cond (!goodC v) _ _ = _
  cases goodC v <;> rfl

def goodF (f : Int) : Bool := decide (1 ≤ f) && decide (f ≤ 5)
theorem Field_eq (f : Int) : field_Good f = pure (goodF f) := by unfold field_Good goodF; rw [cond_pure_and]; rfl
theorem rField_eq (f : Int) : r11_Good f = pure (goodF f) := by unfold r11_Good goodF; rw [cond_pure_and]; rfl
def okB (x : Int) : Bool := decide (32 ≤ x) && decide (x ≤ 126)
def goodT (s : ByteArray) : Bool := decide (s.size ≤ 60) && (bytesL s).all okB
theorem all_zip {α : Type} (l : List α) (p : α → Bool) : (l.zipIdx.all fun y => p y.1) = l.all p := by
  rw [Bool.eq_iff_iff, List.all_eq_true, List.all_eq_true]
  constructor
  · intro h x hx
    obtain ⟨i, hi⟩ := List.getElem?_of_mem hx
    exact h (x, i) (by rw [List.mk_mem_zipIdx_iff_getElem?]; exact hi)
  · intro h y hy
    exact h y.1 (List.fst_mem_of_mem_zipIdx hy)
theorem okB_eq (x : Int) (f : M Bool) (hf : f = pure (decide (126 < x))) : (cond (decide (x < 32)) (pure true) f : M Bool) = pure (!okB x) := by
  rw [hf]
  unfold okB
  by_cases h1 : x < 32
  · have : ¬ 32 ≤ x := by omega
    simp [h1, this]
  · have : 32 ≤ x := by omega
    by_cases h2 : 126 < x
    · have : ¬ x ≤ 126 := by omega
      simp [h1, h2, this]
    · have : x ≤ 126 := by omega
      simp [h1, h2, *]
theorem text_loop (s : ByteArray) (hs : s.size ≤ 1000000000000) : loop (field_Text_l0 s) 0 = pure (if (bytesL s).all okB = true then Ex.brk () else Ex.ret false) := by
  have := loopAll (body := field_Text_l0 s) (bytesL s) (fun i => (i : Int)) (fun _ x => okB x) (Ex.brk ()) (Ex.ret false) (fun i x hx hi => by
    have hd : decide ((i : Int) < (s.size : Int)) = true := by rw [← bytes_len]; simpa using hi
    have hi2 : i < s.size := by rw [← bytes_len]; exact hi
    unfold field_Text_l0
    simp only [hd, cond_true, idx_nat hx, pure_bind, okB_eq x _ rfl, wSucc (show i < 9223372036854775807 by omega)]
    cases okB x <;> rfl) (by
    unfold field_Text_l0
    simp [bytes_len])
  rw [show (0 : Int) = ((0 : Nat) : Int) from rfl, this, all_zip]
theorem rtext_loop (s : ByteArray) (hs : s.size ≤ 1000000000000) : loop (r11_Text_l0 s) 0 = pure (if (bytesL s).all okB = true then Ex.brk () else Ex.ret false) := by
  have := loopAll (body := r11_Text_l0 s) (bytesL s) (fun i => (i : Int)) (fun _ x => okB x) (Ex.brk ()) (Ex.ret false) (fun i x hx hi => by
    have hd : decide ((i : Int) < (s.size : Int)) = true := by rw [← bytes_len]; simpa using hi
    have hi2 : i < s.size := by rw [← bytes_len]; exact hi
    unfold r11_Text_l0
    simp only [hd, cond_true, idx_nat hx, pure_bind, okB_eq x _ rfl, wSucc (show i < 9223372036854775807 by omega)]
    cases okB x <;> rfl) (by
    unfold r11_Text_l0
    simp [bytes_len])
  rw [show (0 : Int) = ((0 : Nat) : Int) from rfl, this, all_zip]
theorem Text_eq (s : ByteArray) (hs : s.size ≤ 1000000000000) : field_Text s = pure (goodT s) := by
  unfold field_Text goodT
  rw [text_loop s hs]
  by_cases h : s.size ≤ 60
  · have : decide ((60 : Int) < (s.size : Int)) = false := by simp; omega
    rw [this, cond_false, pure_bind, decide_eq_true h, Bool.true_and]
    cases (bytesL s).all okB <;> rfl
  · have : decide ((60 : Int) < (s.size : Int)) = true := by simp; omega
    rw [this, cond_true, decide_eq_false h, Bool.false_and]
theorem rText_eq (s : ByteArray) (hs : s.size ≤ 1000000000000) : r11_Text s = pure (goodT s) := by
  unfold r11_Text goodT
  rw [rtext_loop s hs, pure_bind]
  cases (bytesL s).all okB with
  | false => rw [Bool.and_false]; rfl
  | true =>
    rw [if_pos rfl, exk_brk, Bool.and_true]
    congr 1
    by_cases h : s.size ≤ 60
    · rw [decide_eq_true h]; simp; omega
    · rw [decide_eq_false h]; simp; omega

structure OkE (e : TEvent) : Prop where
  dot : D.OkD e.dot
  kind : 0 ≤ e.kind ∧ e.kind ≤ 255
  cid : 0 ≤ e.cid ∧ e.cid ≤ 18446744073709551615
  field : 0 ≤ e.field ∧ e.field ≤ 255
  text : e.text.size ≤ 1000000000
  kills : ∀ d ∈ e.kills, D.OkD d
  klen : e.kills.length ≤ 1000000000
def noText (s : ByteArray) : Bool := decide (s = ⟨#[]⟩)
def goodK (e : TEvent) : Bool := (decide (e.kind = 1) && (goodF e.field && goodT e.text)) || (decide (e.kind = 2) && (decide (e.field = 0) && noText e.text))
def goodL (e : TEvent) : Bool := decide (e.kills.length ≤ 256) && (D.riseB e.kills && e.kills.all fun d => V.goodD d && !decide (d = e.dot))
def goodE (e : TEvent) : Bool := (goodC e.cid && V.goodD e.dot) && (goodK e && goodL e)
theorem Rising_eq (l : List TDot) (hl : l.length ≤ 1000000000000) : dot_Rising l = pure (D.riseB l) := by
  unfold dot_Rising
  have key : ∀ (k i : Nat) (x : TDot) (r : List TDot), i + k = l.length → l.drop i = r → i ≠ 0 → l[i - 1]? = some x → loop (dot_Rising_l0 l) (i : Int) = pure (if D.riseB (x :: r) = true then Ex.brk () else Ex.ret false) := by
    intro k
    induction k with
    | zero =>
      intro i x r hi hr h1 hx
      have : r = [] := by rw [← hr]; exact List.drop_eq_nil_of_le (by omega)
      subst this
      exact loop_done (by
        unfold dot_Rising_l0
        have : decide ((i : Int) < (l.length : Int)) = false := by simp; omega
        simp only [this, cond_false]; rfl)
    | succ k ih =>
      intro i x r hi hr h1 hx
      have hlt : i < l.length := by omega
      have hr2 : r = l[i] :: l.drop (i + 1) := by rw [← hr]; exact List.drop_eq_getElem_cons hlt
      have hy := List.getElem?_eq_getElem hlt
      have hi1 : idx l (IntKind.i64.wrap ((i : Int) - 1)) = pure x := by
        rw [wI64 (by omega) (by omega)]
        exact idx_eq (by omega) (by rw [show ((i : Int) - 1).toNat = i - 1 by omega]; exact hx)
      have hb : dot_Rising_l0 l (i : Int) = cond (!ltDot x l[i]) (pure (.done (.ret false))) (pure (.next ((i + 1 : Nat) : Int))) := by
        unfold dot_Rising_l0
        have h2 : decide ((i : Int) < (l.length : Int)) = true := by simp; omega
        have h3 : decide ((0 : Int) < (i : Int)) = true := by simp; omega
        simp only [h2, h3, cond_true, hi1, idx_nat hy, pure_bind, D.Cmp_eq, det_pure, D.cmp_ge, wSucc (show i < 9223372036854775807 by omega)]
      rw [hr2]
      show _ = (pure (if (ltDot x l[i] && D.riseB (l[i] :: l.drop (i + 1))) = true then Ex.brk () else Ex.ret false) : M (Ex Unit Bool))
      cases c : ltDot x l[i] with
      | true =>
        rw [c] at hb
        rw [loop_next hb, Bool.true_and]
        exact ih (i + 1) l[i] _ (by omega) rfl (by omega) hy
      | false =>
        rw [c] at hb
        rw [loop_done hb]; rfl
  cases l with
  | nil =>
    rw [loop_done (r := Ex.brk ()) (by unfold dot_Rising_l0; rfl)]; rfl
  | cons x r =>
    have h0 : dot_Rising_l0 (x :: r) 0 = pure (.next 1) := by
      unfold dot_Rising_l0
      have h2 : decide ((0 : Int) < ((x :: r).length : Int)) = true := decide_eq_true (by rw [List.length_cons]; omega)
      simp only [h2, cond_true, show decide ((0 : Int) < 0) = false from rfl, cond_false, pure_bind]
      rw [wI64 (by omega) (by omega)]
      rfl
    have := key r.length 1 x r (by simp; omega) rfl (by decide) rfl
    rw [show ((1 : Nat) : Int) = 1 from rfl] at this
    rw [loop_next h0, this, pure_bind]
    cases D.riseB (x :: r) <;> rfl
theorem kills_loop (e : TEvent) (hl : e.kills.length ≤ 1000000000000) : loop (event_Good_l0 e) 0 = pure (if (e.kills.all fun d => V.goodD d && !decide (d = e.dot)) = true then Ex.brk () else Ex.ret false) := by
  have := loopAll (body := event_Good_l0 e) e.kills (fun i => (i : Int)) (fun _ d => V.goodD d && !decide (d = e.dot)) (Ex.brk ()) (Ex.ret false) (fun i x hx hi => by
    have hd : decide ((i : Int) < (e.kills.length : Int)) = true := by simpa using hi
    unfold event_Good_l0
    simp only [hd, cond_true, idx_nat hx, pure_bind, V.dot_Good_eq, det_pure, D.dotEq, wSucc (show i < 9223372036854775807 by omega)]
    cases V.goodD x <;> cases decide (x = e.dot) <;> rfl) (by
    unfold event_Good_l0
    simp)
  rw [show (0 : Int) = ((0 : Nat) : Int) from rfl, this, all_zip e.kills fun d => V.goodD d && !decide (d = e.dot)]
theorem Good_eq {e : TEvent} (h : OkE e) : event_Good e = pure (goodE e) := by
  have hk := h.klen; have ht := h.text
  unfold event_Good goodE
  rw [Unpack_eq h.cid.1 h.cid.2, det_pure, pure_bind, V.dot_Good_eq, det_pure, pure_bind, kills_loop e (by omega), Rising_eq e.kills (by omega), Field_eq, Text_eq e.text (by omega)]
  simp only []
  cases goodC e.cid with
  | false => rfl
  | true =>
    cases V.goodD e.dot with
    | false => rfl
    | true =>
      have hl : decide ((256 : Int) < (e.kills.length : Int)) = !decide (e.kills.length ≤ 256) := by
        by_cases c : e.kills.length ≤ 256
        · rw [decide_eq_true c]; simp; omega
        · rw [decide_eq_false c]; simp; omega
      have tail : (cond (decide ((256 : Int) < (e.kills.length : Int))) (pure true) ((det (pure (D.riseB e.kills))).bind fun v23 => pure (!v23))).bind (fun v21 => cond v21 (pure false) ((pure (if (e.kills.all fun d => V.goodD d && !decide (d = e.dot)) = true then Ex.brk () else Ex.ret false)).bind (exk fun _ => pure true))) = pure (goodL e) := by
        unfold goodL
        rw [hl, det_pure, pure_bind]
        cases decide (e.kills.length ≤ 256) with
        | false => rfl
        | true =>
          cases D.riseB e.kills with
          | false => rfl
          | true => cases e.kills.all fun d => V.goodD d && !decide (d = e.dot) <;> rfl
      simp only [Bool.not_true, cond_false, pure_bind, det_pure, Bool.true_and] at tail ⊢
      unfold goodK noText
      by_cases k1 : e.kind = 1
      · have k2 : decide (e.kind = 2) = false := by rw [k1]; rfl
        rw [decide_eq_true k1, cond_true, k2, Bool.true_and, Bool.false_and, Bool.or_false]
        cases goodF e.field with
        | false => rfl
        | true =>
          cases goodT e.text with
          | false => rfl
          | true => exact tail
      · rw [decide_eq_false k1, cond_false, Bool.false_and, Bool.false_or]
        by_cases k2 : e.kind = 2
        · rw [decide_eq_true k2, cond_true, Bool.true_and]
          cases decide (e.field = 0) with
          | false => rfl
          | true =>
            cases decide (e.text = (⟨#[]⟩ : ByteArray)) with
            | false => rfl
            | true => exact tail
        · rw [decide_eq_false k2]; rfl
theorem rHas_eq (l : List TDot) (d : TDot) (hl : l.length ≤ 1000000000000) : r07_Has l d = pure (l.any fun x => decide (x = d)) := by
  unfold r07_Has
  have := loopAll (body := r07_Has_l0 l d) l (fun i => (i : Int)) (fun _ x => !decide (x = d)) (Ex.brk ()) (Ex.ret true) (fun i x hx hi => by
    have hd : decide ((i : Int) < (l.length : Int)) = true := by simpa using hi
    unfold r07_Has_l0
    simp only [hd, cond_true, idx_nat hx, pure_bind, D.dotEq, wSucc (show i < 9223372036854775807 by omega)]
    cases decide (x = d) <;> rfl) (by
    unfold r07_Has_l0
    simp)
  rw [show (0 : Int) = ((0 : Nat) : Int) from rfl, this, pure_bind, all_zip l fun x => !decide (x = d)]
  have e : (l.any fun x => decide (x = d)) = !(l.all fun x => !decide (x = d)) := by simp [List.all_eq_not_any_not]
  rw [e]
  cases l.all fun x => !decide (x = d) <;> rfl
theorem rgood_loop (e : TEvent) (hl : e.kills.length ≤ 1000000000000) : loop (r13_Good_l0 e) 0 = pure (if e.kills.all V.goodD = true then Ex.brk () else Ex.ret false) := by
  have := loopAll (body := r13_Good_l0 e) e.kills (fun i => (i : Int)) (fun _ d => V.goodD d) (Ex.brk ()) (Ex.ret false) (fun i x hx hi => by
    have hd : decide ((i : Int) < (e.kills.length : Int)) = true := by simpa using hi
    unfold r13_Good_l0
    simp only [hd, cond_true, idx_nat hx, pure_bind, V.r07_Good_eq, det_pure, wSucc (show i < 9223372036854775807 by omega)]
    cases V.goodD x <;> rfl) (by
    unfold r13_Good_l0
    simp)
  rw [show (0 : Int) = ((0 : Nat) : Int) from rfl, this, all_zip e.kills V.goodD]
theorem rGood_eq {e : TEvent} (h : OkE e) : r13_Good e = pure (goodE e) := by
  have hk := h.klen; have ht := h.text
  unfold r13_Good goodE
  rw [rUnpack_eq h.cid.1 h.cid.2, det_pure, pure_bind, V.r07_Good_eq, det_pure, pure_bind, rgood_loop e (by omega), D.rRising_eq e.kills (by omega), rField_eq, rText_eq e.text (by omega), rHas_eq e.kills e.dot (by omega)]
  simp only []
  cases goodC e.cid with
  | false => rfl
  | true =>
    cases V.goodD e.dot with
    | false => rfl
    | true =>
      have hl : decide ((e.kills.length : Int) ≤ 256) = decide (e.kills.length ≤ 256) := by
        by_cases c : e.kills.length ≤ 256
        · rw [decide_eq_true c]; simp; omega
        · rw [decide_eq_false c]; simp; omega
      have hall : (e.kills.all fun d => V.goodD d && !decide (d = e.dot)) = (e.kills.all V.goodD && !(e.kills.any fun x => decide (x = e.dot))) := by
        rw [Bool.eq_iff_iff, Bool.and_eq_true, List.all_eq_true, List.all_eq_true, Bool.not_eq_true', List.any_eq_false]
        constructor
        · intro h
          exact ⟨fun x hx => by have := h x hx; rw [Bool.and_eq_true] at this; exact this.1, fun x hx => by have := h x hx; rw [Bool.and_eq_true] at this; simpa using this.2⟩
        · rintro ⟨h1, h2⟩ x hx
          rw [Bool.and_eq_true]
          exact ⟨h1 x hx, by simpa using h2 x hx⟩
      have tail : ((pure (if e.kills.all V.goodD = true then Ex.brk () else Ex.ret false) : M (Ex Unit Bool)).bind (exk fun _ => (cond (decide ((e.kills.length : Int) ≤ 256)) ((det (pure (D.riseB e.kills))).bind fun v46 => cond v46 ((det (pure (e.kills.any fun x => decide (x = e.dot)))).bind fun v49 => pure (!v49)) (pure false)) (pure false)).bind fun v44 => pure v44)) = pure (goodL e) := by
        unfold goodL
        rw [hl, hall]
        simp only [det_pure, pure_bind]
        cases e.kills.all V.goodD with
        | false => cases decide (e.kills.length ≤ 256) <;> cases D.riseB e.kills <;> rfl
        | true => cases decide (e.kills.length ≤ 256) <;> cases D.riseB e.kills <;> cases e.kills.any fun x => decide (x = e.dot) <;> rfl
      simp only [Bool.not_true, cond_false, pure_bind, det_pure, Bool.true_and] at tail ⊢
      unfold goodK noText
      by_cases k1 : e.kind = 1
      · have k2 : decide (e.kind = 2) = false := by rw [k1]; rfl
        rw [decide_eq_true k1, k2]
        simp only [Bool.not_true, cond_false, cond_true, pure_bind, Bool.true_and, Bool.false_and, Bool.or_false]
        cases goodF e.field with
        | false => rfl
        | true =>
          cases goodT e.text with
          | false => rfl
          | true => exact tail
      · rw [decide_eq_false k1]
        simp only [Bool.not_false, cond_true, pure_bind, Bool.false_and, Bool.false_or]
        by_cases k2 : e.kind = 2
        · rw [decide_eq_true k2]
          simp only [Bool.not_true, cond_false, cond_true, Bool.true_and]
          cases decide (e.field = 0) with
          | false => rfl
          | true =>
            cases decide (e.text = (⟨#[]⟩ : ByteArray)) with
            | false => rfl
            | true => exact tail
        · rw [decide_eq_false k2]; rfl


def fewE (l : List TEvent) (most : Nat) : Bool := decide (l.length ≤ most) && l.all fun e => decide (e.kills.length ≤ 300) && decide (e.text.size ≤ 200)
theorem rFew_eq (l : List TEvent) (most : Nat) (hm : most ≤ 1000000) : r13_Few l (most : Int) = pure (fewE l most) := by
  unfold r13_Few fewE
  by_cases h : l.length ≤ most
  · have hd : decide ((most : Int) < (l.length : Int)) = false := by simp; omega
    have := loopAll (body := r13_Few_l0 l) l (fun i => (i : Int)) (fun _ e => decide (e.kills.length ≤ 300) && decide (e.text.size ≤ 200)) (Ex.brk ()) (Ex.ret false) (fun i x hx hi => by
      have hd : decide ((i : Int) < (l.length : Int)) = true := by simpa using hi
      unfold r13_Few_l0
      simp only [hd, cond_true, idx_nat hx, pure_bind, wSucc (show i < 9223372036854775807 by omega)]
      by_cases c : x.kills.length ≤ 300
      · have h1 : decide ((300 : Int) < (x.kills.length : Int)) = false := by simp; omega
        rw [h1, cond_false, decide_eq_true c, Bool.true_and, pure_bind]
        by_cases c2 : x.text.size ≤ 200
        · have h2 : decide ((200 : Int) < (x.text.size : Int)) = false := by simp; omega
          rw [h2, decide_eq_true c2]; rfl
        · have h2 : decide ((200 : Int) < (x.text.size : Int)) = true := by simp; omega
          rw [h2, decide_eq_false c2]; rfl
      · have h1 : decide ((300 : Int) < (x.kills.length : Int)) = true := by simp; omega
        rw [h1, cond_true, decide_eq_false c, Bool.false_and]; rfl) (by
      unfold r13_Few_l0
      simp)
    rw [hd, cond_false, decide_eq_true h, Bool.true_and, show (0 : Int) = ((0 : Nat) : Int) from rfl, this, pure_bind, all_zip l fun e => decide (e.kills.length ≤ 300) && decide (e.text.size ≤ 200)]
    cases l.all fun e => decide (e.kills.length ≤ 300) && decide (e.text.size ≤ 200) <;> rfl
  · have hd : decide ((most : Int) < (l.length : Int)) = true := by simp; omega
    rw [hd, cond_true, decide_eq_false h, Bool.false_and]
theorem few_mem {l : List TEvent} {most : Nat} (h : fewE l most = true) : l.length ≤ most ∧ ∀ e ∈ l, e.kills.length ≤ 300 ∧ e.text.size ≤ 200 := by
  unfold fewE at h
  rw [Bool.and_eq_true, List.all_eq_true] at h
  exact ⟨by simpa using h.1, fun e he => by simpa using h.2 e he⟩
def encT (s : ByteArray) : List Int := N.encI s.size ++ bytesL s
def encE (e : TEvent) : List Int := D.encD e.dot ++ ([e.kind] ++ (N.encI e.cid ++ ([e.field] ++ (encT e.text ++ D.encDs e.kills))))
theorem encT_len {s : ByteArray} (h : s.size ≤ 1000000000) : (encT s).length ≤ 9 + s.size := by
  have := N.encI_len (v := (s.size : Int)) (by omega)
  rw [encT, List.length_append, bytes_len]; omega
theorem encE_len {e : TEvent} (h : OkE e) : (encE e).length ≤ 47 + e.text.size + 18 * e.kills.length := by
  have h1 := D.encD_len h.dot
  have h2 := N.encI_len h.cid.2
  have h3 := encT_len h.text
  have h4 := D.encDs_len h.kills (by have := h.klen; omega)
  simp only [encE, List.length_append, List.length_singleton]; omega
theorem PutText_eq {s : ByteArray} (h : s.size ≤ 1000000000) (row : List Int) (hr : row.length ≤ 1000000000000) : pack_Writer_Text_o s row = pure (row ++ encT s) := by
  have := N.encI_len (v := (s.size : Int)) (by omega)
  unfold pack_Writer_Text_o
  rw [wU64 (by omega) (by omega), N.WNum_eq row (by omega) (by omega) (by omega), det_pure, pure_bind, need_true (by omega), N.put_eq _ _ (by rw [List.length_append, bytes_len]; omega), det_pure, pure_bind, encT, List.append_assoc]
theorem rPutText_eq {s : ByteArray} (h : s.size ≤ 1000000000) (row : List Int) (hr : row.length ≤ 1000000000000) : r04_Text row s = pure (row ++ encT s) := by
  have h9 := N.encI_len (v := (s.size : Int)) (by omega)
  unfold r04_Text
  rw [wU64 (by omega) (by omega), N.rAppend_eq row (by omega) (by omega) (by omega), det_pure, pure_bind]
  have := D.loopApp (body := r04_Text_l0 s) (bytesL s) (fun x => [x]) (row ++ N.encI (s.size : Int)) 2000000000000 (fun i out => ((i : Int), out)) (fun t => pure t) (by
    have := D.flat_len (bytesL s) (fun x => [x]) 1 (by simp)
    rw [bytes_len] at this
    rw [List.length_append]; omega) (fun i x out hx hi ho => by
    have hi2 : i < s.size := by rw [← bytes_len]; exact hi
    have hd : decide ((i : Int) < (s.size : Int)) = true := by simpa using hi2
    unfold r04_Text_l0
    simp only [hd, cond_true, idx_nat hx, pure_bind]
    rw [need_true (by simp at ho ⊢; omega), wSucc (show i < 9223372036854775807 by omega)]) (fun out => by
    unfold r04_Text_l0
    simp [bytes_len, pure_bind])
  rw [show (0 : Int) = ((0 : Nat) : Int) from rfl, this, pure_bind, encT, List.append_assoc]
  have e : ∀ l : List Int, (l.flatMap fun x => [x]) = l := by
    intro l
    induction l with
    | nil => rfl
    | cons x r ih => rw [List.flatMap_cons, ih]; rfl
  rw [e]
theorem Put_eq {e : TEvent} (h : OkE e) (row : List Int) (hr : row.length ≤ 10000000000) : ecode_Put_o e row = pure (row ++ encE e) := by
  have h1 := D.encD_len h.dot
  have h2 := N.encI_len h.cid.2
  have h3 := encT_len h.text
  have ht := h.text; have hk := h.klen
  unfold ecode_Put_o
  rw [D.PutDot_eq h.dot row (by omega), det_pure, pure_bind, N.WByte_eq _ _ (by rw [List.length_append]; omega), det_pure, pure_bind, N.WNum_eq _ h.cid.1 h.cid.2 (by simp only [List.length_append, List.length_singleton]; omega), det_pure, pure_bind,
    N.WByte_eq _ _ (by simp only [List.length_append, List.length_singleton]; omega), det_pure, pure_bind, PutText_eq h.text _ (by simp only [List.length_append, List.length_singleton]; omega), det_pure, pure_bind,
    D.PutDots_eq h.kills (by omega) _ (by simp only [List.length_append, List.length_singleton]; omega), det_pure, pure_bind]
  simp only [encE, List.append_assoc]
theorem rPut_eq {e : TEvent} (h : OkE e) (row : List Int) (hr : row.length ≤ 10000000000) : r16_Put row e = pure (row ++ encE e) := by
  have h1 := D.encD_len h.dot
  have h2 := N.encI_len h.cid.2
  have h3 := encT_len h.text
  have ht := h.text; have hk := h.klen
  unfold r16_Put
  rw [D.rPutDot_eq h.dot row (by omega), det_pure, pure_bind, need_true (by simp only [List.length_append, List.length_singleton]; omega), N.rAppend_eq _ h.cid.1 h.cid.2 (by simp only [List.length_append, List.length_singleton]; omega), det_pure, pure_bind,
    need_true (by simp only [List.length_append, List.length_singleton]; omega), rPutText_eq h.text _ (by simp only [List.length_append, List.length_singleton]; omega), det_pure, pure_bind,
    D.rPutDots_eq h.kills (by omega) _ (by simp only [List.length_append, List.length_singleton]; omega), det_pure, pure_bind]
  simp only [encE, List.append_assoc]
def encEs (l : List TEvent) : List Int := N.encI l.length ++ l.flatMap encE
theorem PutAll_eq {l : List TEvent} (h : ∀ e ∈ l, OkE e) (hl : l.length ≤ 1000000000) (row : List Int) (hr : row.length + (l.flatMap encE).length ≤ 1000000000) : ecode_PutAll_o l row = pure (row ++ encEs l) := by
  have h9 := N.encI_len (v := (l.length : Int)) (by omega)
  unfold ecode_PutAll_o
  rw [wU64 (by omega) (by omega), N.WNum_eq row (by omega) (by omega) (by omega), det_pure, pure_bind]
  have := D.loopApp (body := ecode_PutAll_o_l0 l) l encE (row ++ N.encI (l.length : Int)) 2000000000 (fun i out => ((i : Int), out)) (fun t => pure t) (by rw [List.length_append]; omega) (fun i x out hx hi ho => by
    have hd : decide ((i : Int) < (l.length : Int)) = true := by simpa using hi
    unfold ecode_PutAll_o_l0
    simp only [hd, cond_true, idx_nat hx, pure_bind, Put_eq (h x (List.mem_of_getElem? hx)) out (by omega), det_pure, wSucc (show i < 9223372036854775807 by omega)]) (fun out => by
    unfold ecode_PutAll_o_l0
    simp [pure_bind])
  rw [show (0 : Int) = ((0 : Nat) : Int) from rfl, this, encEs, List.append_assoc]
theorem rPutAll_eq {l : List TEvent} (h : ∀ e ∈ l, OkE e) (hl : l.length ≤ 1000000000) (row : List Int) (hr : row.length + (l.flatMap encE).length ≤ 1000000000) : r16_PutAll row l = pure (row ++ encEs l) := by
  have h9 := N.encI_len (v := (l.length : Int)) (by omega)
  unfold r16_PutAll
  rw [wU64 (by omega) (by omega), N.rAppend_eq row (by omega) (by omega) (by omega), det_pure, pure_bind]
  have := D.loopApp (body := r16_PutAll_l0 l) l encE (row ++ N.encI (l.length : Int)) 2000000000 (fun i out => (out, (i : Int))) (fun t => pure t) (by rw [List.length_append]; omega) (fun i x out hx hi ho => by
    have hd : decide ((i : Int) < (l.length : Int)) = true := by simpa using hi
    unfold r16_PutAll_l0
    simp only [hd, cond_true, idx_nat hx, pure_bind, rPut_eq (h x (List.mem_of_getElem? hx)) out (by omega), det_pure, wSucc (show i < 9223372036854775807 by omega)]) (fun out => by
    unfold r16_PutAll_l0
    simp [pure_bind])
  rw [show (0 : Int) = ((0 : Nat) : Int) from rfl, this, pure_bind, encEs, List.append_assoc]
theorem Encode_eq {e : TEvent} (h : OkE e) : ecode_Encode e = pure (if goodE e = true then (encE e, 0) else ([], 1)) := by
  have hl := encE_len h
  have ht := h.text; have hk := h.klen
  unfold ecode_Encode
  rw [Good_eq h, det_pure, pure_bind]
  cases goodE e with
  | false => rfl
  | true => rw [Bool.not_true, cond_false, Put_eq h [] (by simp), det_pure, pure_bind, List.nil_append, N.Bytes_eq _ (by omega), det_pure, pure_bind]; rfl
theorem equal_eq {a b : List Int} : l16_equal a b = pure (decide (strL a = strL b)) := rfl
def exE : TEvent := ⟨⟨1, 2⟩, 2, 281474976710657, 0, ⟨#[]⟩, [⟨1, 1⟩]⟩
theorem ex_ok : OkE exE := ⟨⟨by decide, by decide, by decide, by decide⟩, by decide, by decide, by decide, by decide, fun d hd => by
  rw [show exE.kills = [⟨1, 1⟩] from rfl] at hd
  rw [List.mem_singleton.1 hd]; exact ⟨by decide, by decide, by decide, by decide⟩, by decide⟩
theorem ex_good : goodE exE = true := by decide
theorem len_of {n k : Nat} (h1 : 256 ^ k ≤ n) (h2 : n < 256 ^ (k + 1)) : N.lenN n = k + 1 := by
  have := N.lenN_ge k n h1
  have := N.lenN_le (k + 1) n h2
  omega
theorem works_eq : l16_works = pure true := by
  unfold l16_works
  have e : encE exE = [1, 1, 1, 2, 2, 7, 1, 0, 0, 0, 0, 0, 1, 0, 0, 1, 1, 1, 1, 1, 1] := by
    have l1 : N.lenN 1 = 1 := len_of (k := 0) (by decide) (by decide)
    have l2 : N.lenN 2 = 1 := len_of (k := 0) (by decide) (by decide)
    have l7 : N.lenN 281474976710657 = 7 := len_of (k := 6) (by decide) (by decide)
    have e1 : N.encI 1 = [1, 1] := by show (N.lenN 1 : Int) :: N.be 1 (N.lenN 1) = _; rw [l1]; rfl
    have e2 : N.encI 2 = [1, 2] := by show (N.lenN 2 : Int) :: N.be 2 (N.lenN 2) = _; rw [l2]; rfl
    have e7 : N.encI 281474976710657 = [7, 1, 0, 0, 0, 0, 0, 1] := by show (N.lenN 281474976710657 : Int) :: N.be 281474976710657 (N.lenN 281474976710657) = _; rw [l7]; rfl
    have e0 : N.encI 0 = [0] := by show (N.lenN 0 : Int) :: N.be 0 (N.lenN 0) = _; rw [N.lenN_zero]; rfl
    have eK : D.sortD (D.goods [⟨1, 1⟩]) = [⟨1, 1⟩] := by decide
    have eT : encT ⟨#[]⟩ = [0] := by rw [encT]; show N.encI 0 ++ [] = _; rw [e0]; rfl
    have eD : D.encDs [⟨1, 1⟩] = [1, 1, 1, 1, 1, 1] := by
      rw [D.encDs, eK]
      show N.encI 1 ++ ((N.encI 1 ++ N.encI 1) ++ []) = _
      rw [e1]; rfl
    show (N.encI 1 ++ N.encI 2) ++ ([2] ++ (N.encI 281474976710657 ++ ([0] ++ (encT ⟨#[]⟩ ++ D.encDs [⟨1, 1⟩])))) = _
    rw [e1, e2, e7, eT, eD]; rfl
  have h := Encode_eq ex_ok
  rw [ex_good, if_pos rfl, e] at h
  have h' : ecode_Encode ⟨⟨1, 2⟩, 2, 281474976710657, 0, ⟨#[]⟩, [⟨1, 1⟩]⟩ = pure ([1, 1, 1, 2, 2, 7, 1, 0, 0, 0, 0, 0, 1, 0, 0, 1, 1, 1, 1, 1, 1], 0) := h
  rw [h', det_pure, pure_bind]
  simp only [decide_true, cond_true, equal_eq, det_pure, pure_bind]
theorem flatE_len {l : List TEvent} (h : ∀ e ∈ l, OkE e) (hf : ∀ e ∈ l, e.kills.length ≤ 300 ∧ e.text.size ≤ 200) : (l.flatMap encE).length ≤ 6000 * l.length :=
  D.flat_len l encE 6000 fun e he => by have := encE_len (h e he); have := hf e he; omega
theorem ecodeWrites_eq (l : List TEvent) (h : ∀ e ∈ l, e.kills.length ≤ 300 ∧ e.text.size ≤ 200 → OkE e) : l16_EcodeWrites l = pure true := by
  unfold l16_EcodeWrites
  rw [show (12 : Int) = ((12 : Nat) : Int) from rfl, rFew_eq l 12 (by decide), det_pure, pure_bind, works_eq]
  cases hf : fewE l 12 with
  | false => simp only [Bool.not_false, cond_true, det_pure, pure_bind]
  | true =>
    obtain ⟨hl, hm⟩ := few_mem hf
    have ho : ∀ e ∈ l, OkE e := fun e he => h e he (hm e he)
    have hfl := flatE_len ho hm
    have h9 := N.encI_len (v := (l.length : Int)) (by omega)
    have hel : (encEs l).length ≤ 1000000 := by rw [encEs, List.length_append]; omega
    have loop_ok : loop (l16_EcodeWrites_l0 l) 0 = pure (Ex.brk ()) := by
      have := loopAll (body := l16_EcodeWrites_l0 l) l (fun i => (i : Int)) (fun _ _ => true) (Ex.brk ()) (Ex.ret false) (fun i x hx hi => by
        have hd : decide ((i : Int) < (l.length : Int)) = true := by simpa using hi
        have hx' := ho x (List.mem_of_getElem? hx)
        have hlx := encE_len hx'
        have hmx := hm x (List.mem_of_getElem? hx)
        unfold l16_EcodeWrites_l0
        simp only [hd, cond_true, idx_nat hx, pure_bind, Put_eq hx' [] (by simp), rPut_eq hx' [] (by simp), det_pure, List.nil_append, N.Bytes_eq (encE x) (by omega), equal_eq, decide_true, Bool.not_true, cond_false, Encode_eq hx', rGood_eq hx', wSucc (show i < 9223372036854775807 by omega), if_true]
        cases goodE x <;> simp [pure_bind, det_pure]) (by
        unfold l16_EcodeWrites_l0
        simp)
      rw [show (0 : Int) = ((0 : Nat) : Int) from rfl, this]
      have e : (l.zipIdx.all fun _ => true) = true := by rw [List.all_eq_true]; intro _ _; rfl
      rw [e, if_pos rfl]
    simp only [Bool.not_true, cond_false, PutAll_eq ho (by omega) [] (by rw [List.length_nil]; omega), rPutAll_eq ho (by omega) [] (by rw [List.length_nil]; omega), det_pure, pure_bind, List.nil_append, N.Bytes_eq (encEs l) (by omega), equal_eq, decide_true, loop_ok, exk_brk]

open N (RS Ok numS uptoS byteS textS failS endS OkB Sim)
open D (bad4 fin)

def s1 (s : RS) : RS := (D.dotS s).2
def s2 (s : RS) : RS := (byteS (s1 s)).2
def s3 (s : RS) : RS := (numS (s2 s)).2
def s4 (s : RS) : RS := (byteS (s3 s)).2
def s5 (s : RS) : RS := (textS 60 (s4 s)).2
def s6 (s : RS) : RS := (D.dotsS 256 (s5 s)).2
def getE (s : RS) : TEvent := ⟨(D.dotS s).1, (byteS (s1 s)).1, (numS (s2 s)).1, (byteS (s3 s)).1, (textS 60 (s4 s)).1, (D.dotsS 256 (s5 s)).1⟩
def noE : TEvent := ⟨⟨0, 0⟩, 0, 0, 0, ⟨#[]⟩, []⟩
def getT (s : RS) : RS := bad4 (!goodE (getE s)) (s6 s)
def getS (s : RS) : TEvent × RS := fin noE (getE s) (getT s)
variable {B : List Int} {a : Int} {s : RS}
open N (RS Ok numS uptoS byteS textS failS endS OkB Sim)
open D (bad4 fin)

variable {B : List Int} {a : Int} {s : RS}
def keepK (l : List TDot) (c : List TPart) : List TDot := D.sortD (l.filter fun d => C.hasC c d.dev d.n)
def again (dev : Int) (c : List TPart) (i : Nat) (e : TEvent) : TEvent := ⟨⟨dev, (i : Int) + 1⟩, e.kind, e.cid, e.field, e.text, keepK e.kills c⟩
def e0 : TEvent := ⟨⟨0, 0⟩, 0, 0, 0, ⟨#[]⟩, []⟩
def e4 : TEvent := ⟨⟨0, 0⟩, 0, 0, 0, ⟨#[101]⟩, []⟩
end Go.Ep.M.E

namespace Go.Ep
open Go.RowKit Go.ChangeShapes Go.WideShapes

abbrev All : Nat → Prop := fun _ => True

mutual
/-- How many values and letters a reading holds. -/
def bulk {H : Type} : DataW H → Nat
  | .lit (.string bytes) => bytes.length + 1
  | .lit _ => 1
  | .nil => 1
  | .ptr d => bulk d + 1
  | .slice elems spare => bulkAll elems + bulkAll spare + 1
  | .agg parts => bulkAll parts + 1
  | .iface _ d => bulk d + 1
  | .map entries => bulkEntries entries + 1
  | .held _ => 1
def bulkAll {H : Type} : List (DataW H) → Nat
  | [] => 0
  | d :: r => bulk d + bulkAll r
def bulkEntries {H : Type} : List (Lit × DataW H) → Nat
  | [] => 0
  | x :: r => bulkEntry x + bulkEntries r
def bulkEntry {H : Type} : Lit × DataW H → Nat
  | (.string bytes, d) => bytes.length + bulk d + 1
  | (_, d) => bulk d + 1
end
theorem one_bulk {H : Type} (d : DataW H) : 1 ≤ bulk d := by
  cases d with
  | lit l => cases l <;> simp [bulk]
  | nil => simp [bulk]
  | ptr d => simp [bulk]
  | slice elems spare => simp [bulk]
  | agg parts => simp [bulk]
  | iface t d => simp [bulk]
  | map entries => simp [bulk]
  | held h => simp [bulk]
theorem bulkAll_app {H : Type} (l r : List (DataW H)) : bulkAll (l ++ r) = bulkAll l + bulkAll r := by
  induction l with
  | nil => simp [bulkAll]
  | cons x l ih => simp only [List.cons_append, bulkAll, ih]; omega
def szL {α : Type} (sz : α → Nat) : List α → Nat
  | [] => 0
  | a :: r => sz a + szL sz r
theorem szL_app {α : Type} (sz : α → Nat) (l r : List α) : szL sz (l ++ r) = szL sz l + szL sz r := by
  induction l with
  | nil => simp [szL]
  | cons x l ih => simp only [List.cons_append, szL, ih]; omega
/-- What is read at this type is data of this kind. -/
structure Opn (P : Program) (t : TypeId) (k : Nat) {α : Type} (enc : α → List DV) (ok : α → Prop) (sz : α → Nat) : Prop where
  cells : P.cellsOf t = k
  op : ∀ {H : Type} {en : TypeId × Value → H} {w : World} {fuel : Nat} {cs : List Value} {x : DataW H × List MemPlace}, DataW.trod en P w 0 (fun _ => true) true fuel t cs = some x →
    ∃ a, ok a ∧ cs.length = k ∧ (enc a).length = k ∧ (∀ (j : Nat) (y : DV) (u : Value), (enc a)[j]? = some y → cs[j]? = some u → DRd w All y u) ∧ sz a ≤ bulk x.1

section
variable {P : Program} {t : TypeId}

theorem Opn.map {k : Nat} {α β : Type} {enc : α → List DV} {enc' : β → List DV} {ok : α → Prop} {ok' : β → Prop} {sz : α → Nat} {sz' : β → Nat} (h : Opn P t k enc ok sz) (f : α → β) (he : ∀ a, ok a → enc' (f a) = enc a) (ho : ∀ a, ok a → ok' (f a)) (hz : ∀ a, sz' (f a) ≤ sz a) : Opn P t k enc' ok' sz' :=
  ⟨h.cells, fun hx => let ⟨a, h1, h2, h3, h4, h5⟩ := h.op hx; ⟨f a, ho a h1, h2, by rw [he a h1]; exact h3, by rw [he a h1]; exact h4, Nat.le_trans (hz a) h5⟩⟩

theorem one_get {w : World} {y : DV} {u : Value} (h : DRd w All y u) : ∀ (j : Nat) (y' : DV) (u' : Value), [y][j]? = some y' → [u][j]? = some u' → DRd w All y' u' := by
  intro j y' u' h1 h2
  cases j with
  | zero => simp at h1 h2; subst h1; subst h2; exact h
  | succ j => simp at h1

def okK (k : IntKind) (n : Int) : Prop := (Lit.int k n).wf = true
theorem Opn.int {k : IntKind} (hu : P.underlying t = some (.int k)) (hc : P.cellsOf t = 1) : Opn P t 1 (eK k) (okK k) (fun _ => 1) := by
  refine ⟨hc, fun {H en w fuel cs x} h => ?_⟩
  cases fuel with
  | zero => simp [DataW.trod] at h
  | succ fuel =>
    unfold DataW.trod at h
    rw [hu] at h
    split at h <;> simp_all
    case h_2 n _ =>
      obtain ⟨⟨h1, h2⟩, _⟩ := h
      subst h1
      refine ⟨n, h2, rfl, ?_, one_bulk _⟩
      intro j y u h1 h3
      exact one_get (.v _ rfl) j y u h1 h3
theorem okU64 {n : Int} (h : okK .u64 n) : 0 ≤ n ∧ n < 18446744073709551616 := by
  simp [okK, Lit.wf, IntKind.min, IntKind.max, IntKind.signed, IntKind.bits] at h; omega
theorem okU16 {n : Int} (h : okK .u16 n) : 0 ≤ n ∧ n < 65536 := by
  simp [okK, Lit.wf, IntKind.min, IntKind.max, IntKind.signed, IntKind.bits] at h; omega
theorem okU8 {n : Int} (h : okK .u8 n) : 0 ≤ n ∧ n < 256 := by
  simp [okK, Lit.wf, IntKind.min, IntKind.max, IntKind.signed, IntKind.bits] at h; omega
theorem Opn.str (hu : P.underlying t = some .string) (hc : P.cellsOf t = 1) : Opn P t 1 eS (fun s => s.size ≤ 9223372036854775807) (fun s => s.size + 1) := by
  refine ⟨hc, fun {H en w fuel cs x} h => ?_⟩
  cases fuel with
  | zero => simp [DataW.trod] at h
  | succ fuel =>
    unfold DataW.trod at h
    rw [hu] at h
    split at h <;> simp_all
    case h_4 =>
      rename_i s
      obtain ⟨h1, h2⟩ := h
      refine ⟨s, by have := h1; unfold maxLen at this; exact this, rfl, ?_, ?_⟩
      · intro j y u h1 h2
        exact one_get (.v _ rfl) j y u h1 h2
      · subst h2
        have e : s.data.toList.length = s.size := Array.length_toList
        show s.size + 1 ≤ bulk (DataW.lit (Lit.string s.data.toList))
        unfold bulk
        omega

theorem Opn.slice {e : TypeId} {k : Nat} {α : Type} {enc : α → List DV} {ok : α → Prop} {sz : α → Nat} (h : Opn P e k enc ok sz) (hu : P.underlying t = some (.slice e)) (hc : P.cellsOf t = 1) (hk : 0 < k) :
    Opn P t 1 (eL enc) (fun l => l.length ≤ 9223372036854775807 ∧ ∀ a ∈ l, ok a) (fun l => szL sz l + 1) := by
  refine ⟨hc, fun {H en w fuel cs x} hx => ?_⟩
  rcases Deep.open_slice hu hx with ⟨rfl, _⟩ | ⟨a, len, cap, m, n, D, Pl, rfl, _, hl, hm, hmm, hxD, hel⟩
  · exact ⟨[], ⟨Nat.zero_le _, by simp⟩, rfl, rfl, one_get (.nil none 0 (Nat.zero_le _) (fun _ => rfl)), one_bulk _⟩
  simp only [if_true] at hmm
  subst hmm
  rw [h.cells] at hel
  have hcut : ∀ n0, n0 ≤ len → ∃ l : List α, l.length = n0 ∧ (∀ a ∈ l, ok a) ∧ szL sz l ≤ bulkAll ((List.range n0).map D) ∧ ∀ (i : Nat) (b : α), l[i]? = some b → (enc b).length = k ∧ ∀ (j : Nat) (y : DV), (enc b)[j]? = some y → ∃ u, w.cell? (a.add (i * k + j)) = some u ∧ DRd w All y u := by
    intro n0
    induction n0 with
    | zero => intro _; exact ⟨[], rfl, by simp, by simp [szL], by simp⟩
    | succ n0 ih =>
      intro hn
      obtain ⟨l, h1, h2, hz, h3⟩ := ih (by omega)
      obtain ⟨cs', hc', ht'⟩ := hel n0 (by omega)
      obtain ⟨b, hb1, hb2, hb3, hb4, hb5⟩ := h.op ht'
      obtain ⟨_, _, hcell⟩ := World.cells?_some hc'
      refine ⟨l ++ [b], by simp [h1], ?_, by rw [szL_app, List.range_succ, List.map_append, bulkAll_app]; simp only [szL, List.map_cons, List.map_nil, bulkAll]; simp only at hb5; omega, ?_⟩
      · intro a ha
        rcases List.mem_append.1 ha with ha | ha
        · exact h2 a ha
        · simp at ha; subst ha; exact hb1
      · intro i b' hi
        rw [List.getElem?_append] at hi
        split at hi
        · exact h3 i b' hi
        · rename_i hge
          have hi0 : i = n0 := by
            have : i - l.length < 1 := by simpa using (List.getElem?_eq_some_iff.1 hi).1
            omega
          subst hi0
          simp [h1] at hi
          subst hi
          refine ⟨hb3, fun j y hy => ?_⟩
          have hj : j < k := by rw [← hb3]; exact (List.getElem?_eq_some_iff.1 hy).1
          have hcj := hcell j hj
          rw [Deep.add_add] at hcj
          have hu' : cs'[j]? = some (cs'[j]'(by omega)) := List.getElem?_eq_getElem (by omega)
          exact ⟨_, by rw [hcj, hu'], hb4 j y _ hy hu'⟩
  obtain ⟨l, h1, h2, hz, h3⟩ := hcut len (Nat.le_refl _)
  refine ⟨l, ⟨by unfold maxLen at hm; omega, h2⟩, rfl, rfl, one_get ?_, ?_⟩
  rotate_left
  · rw [hxD]; simp only [bulk]; omega
  by_cases h0 : len = 0
  · have : l = [] := List.eq_nil_of_length_eq_zero (by omega)
    subst this
    subst h0
    exact .nil _ _ hm (fun e => by cases e)
  · -- the first cell tells that the address is a plain one
    have hl0 : 0 < l.length := by omega
    obtain ⟨hk0, hc0⟩ := h3 0 _ (List.getElem?_eq_getElem hl0)
    obtain ⟨u0, hu0, _⟩ := hc0 0 _ (List.getElem?_eq_getElem (by omega : 0 < (enc l[0]).length))
    have hspot : a.spot = none := by simpa [Addr.add] using World.cell?_spot hu0
    obtain ⟨b, off, spot⟩ := a
    simp only at hspot
    subst hspot
    have hb : b < w.heap.size := by
      rw [Addr.add_lit] at hu0
      unfold World.cell? at hu0
      cases hh : w.heap[b]? with
      | none => simp [hh] at hu0
      | some o => exact (Array.getElem?_eq_some_iff.1 hh).1
    have hlen : (l.map enc).length = len := by simp [h1]
    rw [← hlen]
    refine .sl _ b off m k (fun i j => (w.cell? ⟨b, off + (i * k + j), none⟩).getD undef) (by omega) hm trivial hb ?_ ?_ ?_
    · intro i cs hi
      rw [List.getElem?_map] at hi
      cases hx : l[i]? with
      | none => simp [hx] at hi
      | some y => simp [hx] at hi; subst hi; exact (h3 i y hx).1
    · intro i j hi hj
      have hil : i < l.length := by simpa using hi
      obtain ⟨e1, e2⟩ := h3 i _ (List.getElem?_eq_getElem hil)
      obtain ⟨u, hu, _⟩ := e2 j _ (List.getElem?_eq_getElem (by omega : j < (enc l[i]).length))
      rw [Addr.add_lit] at hu
      simp [hu]
    · intro i cs j x hi hx
      rw [List.getElem?_map] at hi
      cases hy : l[i]? with
      | none => simp [hy] at hi
      | some y =>
        simp [hy] at hi
        subst hi
        obtain ⟨u, hu, hd⟩ := (h3 i y hy).2 j x hx
        rw [Addr.add_lit] at hu
        simpa [hu] using hd

/-- The fields from offset off on. -/
structure OpnF (P : Program) (fs : List Field) (off k : Nat) {α : Type} (enc : α → List DV) (ok : α → Prop) (sz : α → Nat) : Prop where
  op : ∀ {H : Type} {en : TypeId × Value → H} {w : World} {n : Nat} {cs : List Value} {xs : List (DataW H × List MemPlace)}, xs.length = fs.length →
    (∀ (i : Nat) (f : Field), fs[i]? = some f → DataW.trod en P w 0 (fun _ => true) true n f.type ((cs.drop f.offset).take (P.cellsOf f.type)) = xs[i]?) →
    ∃ a, ok a ∧ (enc a).length = k ∧ (∀ (j : Nat) (y : DV) (u : Value), (enc a)[j]? = some y → cs[off + j]? = some u → DRd w All y u) ∧ sz a ≤ bulkAll (xs.map (·.1))

theorem OpnF.nil (off : Nat) : OpnF P [] off 0 (fun _ : Unit => []) (fun _ => True) (fun _ => 0) := ⟨fun _ _ => ⟨(), trivial, rfl, by simp, Nat.zero_le _⟩⟩
theorem OpnF.cons {f : Field} {fs : List Field} {off k1 k2 : Nat} {α β : Type} {e1 : α → List DV} {o1 : α → Prop} {e2 : β → List DV} {o2 : β → Prop} {z1 : α → Nat} {z2 : β → Nat} (h1 : Opn P f.type k1 e1 o1 z1) (ho : f.offset = off) (h2 : OpnF P fs (off + k1) k2 e2 o2 z2) :
    OpnF P (f :: fs) off (k1 + k2) (fun p : α × β => e1 p.1 ++ e2 p.2) (fun p => o1 p.1 ∧ o2 p.2) (fun p => z1 p.1 + z2 p.2) := by
  refine ⟨fun {H en w n cs xs} hlen hx => ?_⟩
  cases xs with
  | nil => simp at hlen
  | cons x xs =>
    have hx0 := hx 0 f rfl
    simp only [List.getElem?_cons_zero] at hx0
    obtain ⟨a, ha1, ha2, ha3, ha4, ha5⟩ := h1.op hx0
    obtain ⟨b, hb1, hb2, hb3, hb4⟩ := h2.op (xs := xs) (by simpa using hlen) (fun i f' hf => by have := hx (i + 1) f' (by simpa using hf); simpa using this)
    refine ⟨(a, b), ⟨ha1, hb1⟩, by simp [ha3, hb2], ?_, by simp only [List.map_cons, bulkAll]; omega⟩
    intro j y u hy hu
    simp only [List.getElem?_append] at hy
    by_cases hj : j < k1
    · rw [if_pos (by omega)] at hy
      refine ha4 j y u hy ?_
      rw [List.getElem?_take, h1.cells, if_pos hj, List.getElem?_drop, ho]
      exact hu
    · rw [if_neg (by omega), ha3] at hy
      refine hb3 (j - k1) y u hy ?_
      rw [← hu]
      congr 1
      omega
theorem Opn.struct {fs : List Field} {k : Nat} {α : Type} {enc : α → List DV} {ok : α → Prop} {sz : α → Nat} (hu : P.underlying t = some (.struct fs.toArray)) (hc : P.cellsOf t = k) (h : OpnF P fs 0 k enc ok sz) : Opn P t k enc ok (fun a => sz a + 1) := by
  refine ⟨hc, fun {H en w fuel cs x} hx => ?_⟩
  obtain ⟨xs, n, _, hxe, hlen, hxl, hf⟩ := DataW.trod_struct hu hx
  obtain ⟨a, h1, h2, h3, h4⟩ := h.op (cs := cs) (xs := xs) (by simpa using hxl) (fun i f hi => hf i f (by simpa using hi))
  exact ⟨a, h1, by rw [hlen, hc], h2, fun j y u hy hu => h3 j y u hy (by simpa using hu), by rw [hxe]; simp only [bulk]; omega⟩

/-- A one-cell argument. -/
theorem Opn.arg {H : Type} {en : TypeId × Value → H} {w : World} {v : Value} {d : DataW H} {ps : List MemPlace} {α : Type} {enc : α → DV} {ok : α → Prop} {sz : α → Nat} (h : Opn P t 1 (fun a => [enc a]) ok sz)
    (hx : DataW.Trod en P w 0 (fun _ => true) true t v d ps) (h1 : v.oneCell' = true) : ∃ a, ok a ∧ Rd w g0 All (.d (enc a)) v ∧ sz a ≤ bulk d := by
  obtain ⟨fuel, hf⟩ := hx
  obtain ⟨a, ha, _, _, hr, hz⟩ := h.op hf
  have hcs : v.cells.toList = [v] := by cases v <;> first | rfl | (simp [Value.oneCell'] at h1; done)
  exact ⟨a, ha, .d (hr 0 _ v rfl (by rw [hcs]; rfl)), hz⟩
theorem trodAll_below {H : Type} {en : TypeId × Value → H} (hl : laidOutB P = true) {W W' : World} (hb : Below W.heap.size W W') : ∀ {ts : List TypeId} {vs : List Value} {ds : List (DataW H)} {ps : List MemPlace},
    (∀ t ∈ ts, P.readableRec t = true ∧ t < P.types.size) → DataW.TrodAll en P W 0 (fun _ => true) true ts vs ds ps → (∀ x ∈ ps, x.block < W.heap.size) → DataW.TrodAll en P W' 0 (fun b => decide (b < W.heap.size)) true ts vs ds ps
  | [], [], [], ps, _, h, _ => h
  | t :: ts, v :: vs, d :: ds, ps, hr, h, hlt => by
    obtain ⟨p, q, h1, h2, rfl⟩ := h
    have hrt := hr t (by simp)
    exact ⟨p, q, Below.trod hl hrt.1 hrt.2 h1 hb (fun x hx => hlt x (List.mem_append.2 (.inl hx))), trodAll_below hl hb (fun t ht => hr t (by simp [ht])) h2 (fun x hx => hlt x (List.mem_append.2 (.inr hx))), rfl⟩
  | [], [], _ :: _, _, _, h, _ => h.elim
  | [], _ :: _, _, _, _, h, _ => h.elim
  | _ :: _, [], _, _, _, h, _ => h.elim
  | _ :: _, _ :: _, [], _, _, h, _ => h.elim
theorem trodAll_len {H : Type} {en : TypeId × Value → H} {w : World} {base : Nat} {sp : Nat → Bool} {hd : Bool} : ∀ {ts : List TypeId} {vs : List Value} {ds : List (DataW H)} {ps : List MemPlace}, DataW.TrodAll en P w base sp hd ts vs ds ps → ds.length = ts.length
  | [], [], [], _, _ => rfl
  | _ :: _, _ :: _, _ :: _, _, h => by
    obtain ⟨_, _, _, h2, _⟩ := h
    simp [trodAll_len h2]
  | [], [], _ :: _, _, h => h.elim
  | [], _ :: _, _, _, h => h.elim
  | _ :: _, [], _, _, h => h.elim
  | _ :: _, _ :: _, [], _, h => h.elim

/-- 'For every input true; the input reads as it did.' -/
theorem post_true {H : Type} {en : TypeId × Value → H} {fn : Func} {s : ChangeSpec} {tb : TypeId} {W W' : World} {args : Array Value} {ds gs : List (DataW H)} {before : List MemPlace} (hl : laidOutB P = true)
    (hW : DataW.Whole en P fn.params.toList s.vars false W args.toList ds gs before) (hv : s.vars = []) (hs : ∀ ds : List (DataW H), ds.length = fn.params.size → (s.fn H ds).results = [.lit (.bool true)] ∧ (s.fn H ds).args = ds ∧ (s.fn H ds).vars = [])
    (hres : fn.resultTypes = #[tb]) (htb : P.underlying tb = some .bool) (hr : ∀ t ∈ fn.params.toList, P.readableRec t = true ∧ t < P.types.size) (hb : Below W.heap.size W W') :
    s.post en P fn false true false false W args (.bool true) W' := by
  have hW' := hW
  obtain ⟨p, q, hA, hV, hpq, hfz, hnd⟩ := hW
  rw [hv] at hV
  obtain ⟨rfl, rfl⟩ := trodVars_none hV
  simp only [List.append_nil] at hpq
  subst hpq
  have hlt : ∀ x ∈ before, x.block < W.heap.size := fun x hx => by simpa using hW'.lt x hx
  have hlen : ds.length = fn.params.size := by simpa using trodAll_len hA
  obtain ⟨e1, e2, e3⟩ := hs (ds ++ []) (by simpa using hlen)
  refine ⟨ds, [], before, [], before, [], hW', ?_, ?_, ?_, hb.frame _, fun h => by cases h⟩
  · rw [e1, hres]
    exact trodAll_mk1 (shut_bool htb true)
  · rw [e2, List.append_nil]
    exact trodAll_below hl hb hr hA hlt
  · rw [e3, hv]; rfl
end
end Go.Ep

namespace Go.Ep
set_option linter.unusedVariables false

def TDot.ok (x : TDot) : Prop := okK .u16 x.dev ∧ okK .u64 x.n
def TDot.sz (x : TDot) : Nat := (1 + (1 + 0)) + 1
def TRun.ok (x : TRun) : Prop := okK .u64 x.lo ∧ okK .u64 x.hi
def TRun.sz (x : TRun) : Nat := (1 + (1 + 0)) + 1
def TPart.ok (x : TPart) : Prop := okK .u16 x.dev ∧ (List.length x.runs ≤ 9223372036854775807 ∧ ∀ a ∈ x.runs, TRun.ok a)
def TPart.sz (x : TPart) : Nat := (1 + ((szL TRun.sz x.runs + 1) + 0)) + 1
def TEvent.ok (x : TEvent) : Prop := TDot.ok x.dot ∧ okK .u8 x.kind ∧ okK .u64 x.cid ∧ okK .u8 x.field ∧ ByteArray.size x.text ≤ 9223372036854775807 ∧ (List.length x.kills ≤ 9223372036854775807 ∧ ∀ a ∈ x.kills, TDot.ok a)
def TEvent.sz (x : TEvent) : Nat := (TDot.sz x.dot + (1 + (1 + (1 + ((ByteArray.size x.text + 1) + ((szL TDot.sz x.kills + 1) + 0)))))) + 1
end Go.Ep
namespace Go.Proofs
open Go.Ep
set_option maxRecDepth 100000
theorem opnTDot : Opn Try.prog 38 2 TDot.e TDot.ok TDot.sz := (Opn.struct Try.underlying38 (by kernel_rfl) (OpnF.cons (Opn.int Try.underlying28 (by kernel_rfl)) rfl (OpnF.cons (Opn.int Try.underlying36 (by kernel_rfl)) rfl (OpnF.nil _)))).map (fun p => ⟨p.1, p.2.1⟩) (fun _ _ => rfl) (fun p h => ⟨h.1, h.2.1⟩) (fun _ => Nat.le_refl _)
theorem opnTEvent : Opn Try.prog 41 7 TEvent.e TEvent.ok TEvent.sz := (Opn.struct Try.underlying41 (by kernel_rfl) (OpnF.cons opnTDot rfl (OpnF.cons (Opn.int Try.underlying5 (by kernel_rfl)) rfl (OpnF.cons (Opn.int Try.underlying36 (by kernel_rfl)) rfl (OpnF.cons (Opn.int Try.underlying5 (by kernel_rfl)) rfl (OpnF.cons (Opn.str Try.underlying9 (by kernel_rfl)) rfl (OpnF.cons (opnTDot.slice Try.underlying39 (by kernel_rfl) (by decide)) rfl (OpnF.nil _)))))))).map (fun p => ⟨p.1, p.2.1, p.2.2.1, p.2.2.2.1, p.2.2.2.2.1, p.2.2.2.2.2.1⟩) (fun _ _ => rfl) (fun p h => ⟨h.1, h.2.1, h.2.2.1, h.2.2.2.1, h.2.2.2.2.1, h.2.2.2.2.2.1⟩) (fun _ => Nat.le_refl _)
end Go.Proofs


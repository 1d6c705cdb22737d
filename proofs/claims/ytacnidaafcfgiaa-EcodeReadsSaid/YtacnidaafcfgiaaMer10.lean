/- Texts that the walks and laws lean on, side by side. -/
import Derived.Test.YtacnidaafcfgiaaMer2
import Derived.Test.YtacnidaafcfgiaaMer9
set_option linter.unusedVariables false
set_option linter.unusedSimpArgs false
namespace Go.Ep.M.N
open Go

theorem wU8_mod (n : Int) : IntKind.u8.wrap n = n % 256 := by simp [IntKind.wrap, IntKind.bits, IntKind.signed]
def lenN (n : Nat) : Nat := if n = 0 then 0 else lenN (n / 256) + 1
theorem lenN_zero : lenN 0 = 0 := by rw [lenN]; rfl
theorem lenN_pos {n : Nat} (h : n ≠ 0) : lenN n = lenN (n / 256) + 1 := by rw [lenN, if_neg h]
theorem lenN_le : ∀ (k n : Nat), n < 256 ^ k → lenN n ≤ k
  | 0, n, h => by
    have : n = 0 := by simpa using h
    rw [this, lenN_zero]; exact Nat.le_refl _
  | k + 1, n, h => by
    by_cases h0 : n = 0
    · rw [h0, lenN_zero]; omega
    · rw [lenN_pos h0]
      have := lenN_le k (n / 256) (by rw [Nat.pow_succ] at h; omega)
      omega
theorem lenN_ge : ∀ (k n : Nat), 256 ^ k ≤ n → k + 1 ≤ lenN n
  | 0, n, h => by
    have : n ≠ 0 := by intro h0; rw [h0] at h; simp at h
    rw [lenN_pos this]; omega
  | k + 1, n, h => by
    have hp : 0 < 256 ^ k := Nat.pow_pos (by decide)
    rw [Nat.pow_succ] at h
    have : n ≠ 0 := by omega
    rw [lenN_pos this]
    have := lenN_ge k (n / 256) (by omega)
    omega
theorem lenN_8 {n : Nat} (h : n < 18446744073709551616) : lenN n ≤ 8 := lenN_le 8 n (by simpa using h)

theorem fdiv256 (n : Nat) : Int.fdiv (n : Int) (2 ^ 8) = ((n / 256 : Nat) : Int) := by
  rw [Int.fdiv_eq_ediv_of_nonneg _ (by decide)]
  have : (2 ^ 8 : Int) = 256 := rfl
  rw [this]; omega
theorem tdiv256 (n : Nat) : Int.tdiv (n : Int) 256 = ((n / 256 : Nat) : Int) := by
  rw [Int.tdiv_eq_ediv_of_nonneg (by omega)]; omega
theorem len_loop : ∀ (n k : Nat), k + lenN n ≤ 1000 → loop shift_Len_l0 ((n : Int), (k : Int)) = pure (((k + lenN n : Nat)) : Int) := by
  intro n
  induction n using Nat.strongRecOn with
  | _ n ih =>
    intro k hk
    by_cases h0 : n = 0
    · subst h0
      rw [lenN_zero, Nat.add_zero]
      exact loop_done (by unfold shift_Len_l0; simp)
    · rw [lenN_pos h0] at hk ⊢
      rw [loop_next (s' := (((n / 256 : Nat) : Int), ((k + 1 : Nat) : Int))) (by
        unfold shift_Len_l0
        have : decide ((0 : Int) < (n : Int)) = true := by simp; omega
        simp only [this, cond_true, fdiv256, wSucc (show k < 9223372036854775807 by omega)]), ih (n / 256) (by omega) (k + 1) (by omega)]
      congr 2; omega
theorem Len_eq {v : Int} (h0 : 0 ≤ v) (h : v ≤ 18446744073709551615) : shift_Len v = pure (lenN v.toNat : Int) := by
  obtain ⟨n, rfl⟩ := Int.eq_ofNat_of_zero_le h0
  unfold shift_Len
  have := len_loop n 0 (by have := lenN_8 (n := n) (by omega); omega)
  rw [show (0 : Int) = ((0 : Nat) : Int) from rfl, this, pure_bind, Nat.zero_add, Int.toNat_natCast]
theorem rlen_loop : ∀ (n k : Nat), n < 18446744073709551616 → k + lenN n ≤ 1000 → loop r01_Len_l0 ((n : Int), (k : Int)) = pure (((k + lenN n : Nat)) : Int) := by
  intro n
  induction n using Nat.strongRecOn with
  | _ n ih =>
    intro k hn hk
    by_cases h0 : n = 0
    · subst h0
      rw [lenN_zero, Nat.add_zero]
      exact loop_done (by unfold r01_Len_l0; simp)
    · rw [lenN_pos h0] at hk ⊢
      rw [loop_next (s' := (((n / 256 : Nat) : Int), ((k + 1 : Nat) : Int))) (by
        unfold r01_Len_l0
        have : decide ((0 : Int) < (n : Int)) = true := by simp; omega
        simp only [this, cond_true, tdiv256, wSucc (show k < 9223372036854775807 by omega), wU64 (show (0 : Int) ≤ ((n / 256 : Nat) : Int) by omega) (by omega)]), ih (n / 256) (by omega) (k + 1) (by omega) (by omega)]
      congr 2; omega
theorem rLen_eq {v : Int} (h0 : 0 ≤ v) (h : v ≤ 18446744073709551615) : r01_Len v = pure (lenN v.toNat : Int) := by
  obtain ⟨n, rfl⟩ := Int.eq_ofNat_of_zero_le h0
  unfold r01_Len
  have := rlen_loop n 0 (by omega) (by have := lenN_8 (n := n) (by omega); omega)
  rw [show (0 : Int) = ((0 : Nat) : Int) from rfl, this, pure_bind, Nat.zero_add, Int.toNat_natCast]

def byteAt (n i : Nat) : Int := ((n / 256 ^ i % 256 : Nat) : Int)
theorem Byte_eq (n i : Nat) (hi : i ≤ 7) : shift_Byte (n : Int) (i : Int) = pure (byteAt n i) := by
  have h8 : i = 0 ∨ i = 1 ∨ i = 2 ∨ i = 3 ∨ i = 4 ∨ i = 5 ∨ i = 6 ∨ i = 7 := by omega
  unfold shift_Byte byteAt
  rw [wU64 (show (0 : Int) ≤ (i : Int) by omega) (by omega), wU64 (show (0 : Int) ≤ 8 * (i : Int) by omega) (by omega)]
  have hd : decide ((7 : Int) < (i : Int)) = false := by simp; omega
  simp only [hd, cond_false]
  rw [need_true (by omega), wU8_mod, Int.fdiv_eq_ediv_of_nonneg _ (by exact Int.le_of_lt (Int.pow_pos (by decide)))]
  congr 1
  have e : (2 : Int) ^ min (8 * (i : Int)).toNat 64 = ((256 ^ i : Nat) : Int) := by
    rcases h8 with rfl | rfl | rfl | rfl | rfl | rfl | rfl | rfl <;> rfl
  rw [e]
  exact (by rw [Int.natCast_emod, Int.natCast_ediv]; rfl)
theorem rbyte_loop (m : Nat) : ∀ (j : Nat) (n : Nat), j ≤ m → m ≤ 7 → n < 18446744073709551616 → loop (r01_Byte_l0 (m : Int)) ((n : Int), (j : Int)) = pure ((n / 256 ^ (m - j) : Nat) : Int) := by
  have key : ∀ (d j n : Nat), j + d = m → m ≤ 7 → n < 18446744073709551616 → loop (r01_Byte_l0 (m : Int)) ((n : Int), (j : Int)) = pure ((n / 256 ^ d : Nat) : Int) := by
    intro d
    induction d with
    | zero =>
      intro j n hj hm hn
      have : j = m := by omega
      subst this
      rw [loop_done (r := (n : Int)) (by unfold r01_Byte_l0; simp)]
      simp
    | succ d ih =>
      intro j n hj hm hn
      rw [loop_next (s' := (((n / 256 : Nat) : Int), ((j + 1 : Nat) : Int))) (by
        unfold r01_Byte_l0
        have : decide ((j : Int) < (m : Int)) = true := by simp; omega
        simp only [this, cond_true, tdiv256, wSucc (show j < 9223372036854775807 by omega), wU64 (show (0 : Int) ≤ ((n / 256 : Nat) : Int) by omega) (by omega)]), ih (j + 1) (n / 256) (by omega) hm (by omega)]
      rw [Nat.pow_succ, Nat.mul_comm, Nat.div_div_eq_div_mul]
  intro j n hj hm hn
  exact key (m - j) j n (by omega) hm hn
theorem rByte_eq (n i : Nat) (hi : i ≤ 7) (hn : n < 18446744073709551616) : r01_Byte (n : Int) (i : Int) = pure (byteAt n i) := by
  unfold r01_Byte byteAt
  have h1 : decide ((i : Int) < 0) = false := by simp
  have h2 : decide ((7 : Int) < (i : Int)) = false := by simp; omega
  have h3 : loop (r01_Byte_l0 (i : Int)) ((n : Int), 0) = pure ((n / 256 ^ (i - 0) : Nat) : Int) := rbyte_loop i 0 n (by omega) hi hn
  rw [h1, h2, cond_false, pure_bind, cond_false, h3, pure_bind, Nat.sub_zero, Int.tmod_eq_emod_of_nonneg (Int.natCast_nonneg _), wU8_mod]
  congr 1
  generalize n / 256 ^ i = q
  omega

def be (n : Nat) : Nat → List Int
  | 0 => []
  | k + 1 => byteAt n k :: be n k
theorem be_len (n : Nat) : ∀ k, (be n k).length = k
  | 0 => rfl
  | k + 1 => by simp [be, be_len n k]
def encN (n : Nat) : List Int := (lenN n : Int) :: be n (lenN n)
def encI (v : Int) : List Int := encN v.toNat
theorem encI_len {v : Int} (h : v ≤ 18446744073709551615) : (encI v).length ≤ 9 := by
  have := lenN_8 (n := v.toNat) (by omega)
  simp [encI, encN, be_len]; omega
theorem app_loop (n : Nat) : ∀ (k : Nat) (out : List Int), k ≤ 8 → out.length + k ≤ 100000000000000 → loop (num_Append_l0 (n : Int)) ((k : Int) - 1, out) = pure (out ++ be n k)
  | 0, out, _, _ => by
    rw [be, List.append_nil]
    exact loop_done (by unfold num_Append_l0; simp)
  | k + 1, out, hk, ho => by
    have e : ((k + 1 : Nat) : Int) - 1 = (k : Int) := by omega
    rw [e, loop_next (s' := ((k : Int) - 1, out ++ [byteAt n k])) (by
      unfold num_Append_l0
      have h1 : decide ((0 : Int) ≤ (k : Int)) = true := by simp
      simp only [h1, cond_true, Byte_eq n k (by omega), det_pure, pure_bind]
      rw [need_true (by simp; omega), wI64 (by omega) (by omega)]), app_loop n k _ (by omega) (by simp; omega), be, List.append_assoc]
    rfl
theorem Append_eq (b : List Int) {v : Int} (h0 : 0 ≤ v) (h : v ≤ 18446744073709551615) (hb : b.length ≤ 10000000000000) : num_Append b v = pure (b ++ encI v) := by
  have h8 := lenN_8 (n := v.toNat) (by omega)
  unfold num_Append
  rw [Len_eq h0 h, det_pure, pure_bind, wI64 (show -9223372036854775808 ≤ (b.length : Int) + (lenN v.toNat : Int) by omega) (by omega), wI64 (by omega) (by omega), need_true (by omega), need_true (by simp; omega), need_true (by simp; omega), wU8 (by omega) (by omega), wI64 (by omega) (by omega)]
  have := app_loop v.toNat (lenN v.toNat) (([] : List Int) ++ b ++ [(lenN v.toNat : Int)]) h8 (by simp; omega)
  rw [show ((v.toNat : Nat) : Int) = v by omega] at this
  rw [this, pure_bind]
  simp [encI, encN]
theorem rapp_loop (n : Nat) (hn : n < 18446744073709551616) : ∀ (k : Nat) (out : List Int), k ≤ 8 → out.length + k ≤ 100000000000000 → loop (r03_Append_l0 (n : Int)) ((k : Int) - 1, out) = pure (out ++ be n k)
  | 0, out, _, _ => by
    rw [be, List.append_nil]
    exact loop_done (by unfold r03_Append_l0; simp)
  | k + 1, out, hk, ho => by
    have e : ((k + 1 : Nat) : Int) - 1 = (k : Int) := by omega
    rw [e, loop_next (s' := ((k : Int) - 1, out ++ [byteAt n k])) (by
      unfold r03_Append_l0
      have h1 : decide ((0 : Int) ≤ (k : Int)) = true := by simp
      simp only [h1, cond_true, rByte_eq n k (by omega) hn, det_pure, pure_bind]
      rw [need_true (by simp; omega), wI64 (by omega) (by omega)]), rapp_loop n hn k _ (by omega) (by simp; omega), be, List.append_assoc]
    rfl
theorem rAppend_eq (b : List Int) {v : Int} (h0 : 0 ≤ v) (h : v ≤ 18446744073709551615) (hb : b.length ≤ 10000000000000) : r03_Append b v = pure (b ++ encI v) := by
  have h8 := lenN_8 (n := v.toNat) (by omega)
  unfold r03_Append
  rw [rLen_eq h0 h, need_true (by simp; omega), det_pure, pure_bind, need_true (by simp; omega), wU8 (by omega) (by omega), wI64 (by omega) (by omega)]
  have := rapp_loop v.toNat (by omega) (lenN v.toNat) (([] : List Int) ++ b ++ [(lenN v.toNat : Int)]) h8 (by simp; omega)
  rw [show ((v.toNat : Nat) : Int) = v by omega] at this
  rw [this, pure_bind]
  simp [encI, encN]


def By (l : List Int) : Prop := ∀ x ∈ l, 0 ≤ x ∧ x ≤ 255
theorem By.drop {l : List Int} (h : By l) (n : Nat) : By (l.drop n) := fun x hx => h x (List.mem_of_mem_drop hx)
theorem By.take {l : List Int} (h : By l) (n : Nat) : By (l.take n) := fun x hx => h x (List.mem_of_mem_take hx)
theorem By.app {a b : List Int} (ha : By a) (hb : By b) : By (a ++ b) := fun x hx => (List.mem_append.1 hx).elim (ha x) (hb x)
theorem By.nil : By [] := fun x hx => by cases hx
def valB (l : List Int) : Int := l.foldl (fun v x => v * 256 + x) 0
theorem val_gen : ∀ (l : List Int) (v k : Nat), By l → v < 256 ^ k → ∃ n : Nat, l.foldl (fun v x => v * 256 + x) (v : Int) = (n : Int) ∧ n < 256 ^ (k + l.length) ∧ v * 256 ^ l.length ≤ n
  | [], v, k, _, hv => ⟨v, rfl, by simpa using hv, by simp⟩
  | x :: r, v, k, hb, hv => by
    have hx := hb x (by simp)
    obtain ⟨n, h1, h2, h3⟩ := val_gen r (v * 256 + x.toNat) (k + 1) (fun y hy => hb y (by simp [hy])) (by rw [Nat.pow_succ]; omega)
    refine ⟨n, ?_, by rw [show k + (x :: r).length = k + 1 + r.length by simp; omega]; exact h2, ?_⟩
    · rw [List.foldl_cons, ← h1]
      congr 1; omega
    · refine Nat.le_trans ?_ h3
      rw [List.length_cons, Nat.pow_succ]
      have : v * (256 ^ r.length * 256) = v * 256 * 256 ^ r.length := by rw [Nat.mul_comm (256 ^ r.length), Nat.mul_assoc]
      rw [this]
      exact Nat.mul_le_mul_right _ (by omega)
theorem val_range {l : List Int} (h : By l) (h8 : l.length ≤ 8) : 0 ≤ valB l ∧ valB l ≤ 18446744073709551615 := by
  obtain ⟨n, h1, h2, _⟩ := val_gen l 0 0 h (by decide)
  have h3 : 256 ^ (0 + l.length) ≤ 256 ^ 8 := Nat.pow_le_pow_right (by decide) (by omega)
  have h4 : (256 : Nat) ^ 8 = 18446744073709551616 := by decide
  rw [valB, show (0 : Int) = ((0 : Nat) : Int) from rfl, h1]
  omega
theorem bor_eq {v : Nat} {x : Int} (hv : v < 72057594037927936) (hx : 0 ≤ x ∧ x ≤ 255) : bOr .u64 (IntKind.u64.wrap ((v : Int) * 2 ^ 8)) (IntKind.u64.wrap x) = (v : Int) * 256 + x := by
  obtain ⟨y, rfl⟩ := Int.eq_ofNat_of_zero_le hx.1
  have e : ((v : Int) * 2 ^ 8) = ((2 ^ 8 * v : Nat) : Int) := by
    have : (2 ^ 8 : Int) = 256 := rfl
    have : (2 ^ 8 : Nat) = 256 := rfl
    omega
  have hb : 2 ^ 8 * v + y < 18446744073709551616 := by
    have : (2 ^ 8 : Nat) = 256 := rfl
    omega
  rw [e, wU64 (by omega) (by omega), wU64 (by omega) (by omega)]
  unfold bOr
  have bv : ∀ q : Nat, q < 18446744073709551616 → (BitVec.ofInt IntKind.u64.bits (q : Int)).toNat = q := fun q hq => by
    show (BitVec.ofInt 64 (q : Int)).toNat = q
    rw [BitVec.toNat_ofInt]; omega
  rw [BitVec.toNat_or, bv _ (by omega), bv _ (by omega), ← Nat.two_pow_add_eq_or_of_lt (show y < 2 ^ 8 by have : (2 ^ 8 : Nat) = 256 := rfl; omega) v, wU64 (by omega) (by omega)]
  have : (2 ^ 8 : Nat) = 256 := rfl
  omega

def rdN : List Int → Int × Nat × Int
  | [] => (0, 0, 2)
  | n :: r => if 8 < n ∨ (0 < n ∧ r.head? = some 0) then (0, 0, 4) else if (r.length : Int) < n then (0, 0, 2) else (valB (r.take n.toNat), n.toNat + 1, 0)
theorem rdN_cons (n : Int) (r : List Int) : rdN (n :: r) = if 8 < n ∨ (0 < n ∧ r.head? = some 0) then (0, 0, 4) else if (r.length : Int) < n then (0, 0, 2) else (valB (r.take n.toNat), n.toNat + 1, 0) := rfl
theorem rdN_cases (b : List Int) (hb : By b) : (rdN b = (0, 0, 2) ∨ rdN b = (0, 0, 4)) ∨ ∃ n r, b = n :: r ∧ 0 ≤ n ∧ n ≤ 8 ∧ n ≤ (r.length : Int) ∧ ¬ (0 < n ∧ r.head? = some 0) ∧ rdN b = (valB (r.take n.toNat), n.toNat + 1, 0) := by
  cases b with
  | nil => exact .inl (.inl rfl)
  | cons n r =>
    have hn := hb n (by simp)
    rw [rdN_cons]
    by_cases h1 : 8 < n ∨ (0 < n ∧ r.head? = some 0)
    · rw [if_pos h1]; exact .inl (.inr rfl)
    · rw [if_neg h1]
      by_cases h2 : (r.length : Int) < n
      · rw [if_pos h2]; exact .inl (.inl rfl)
      · rw [if_neg h2]
        exact .inr ⟨n, r, rfl, hn.1, by omega, by omega, fun h => h1 (.inr h), rfl⟩
theorem rdN_range (b : List Int) (hb : By b) : 0 ≤ (rdN b).1 ∧ (rdN b).1 ≤ 18446744073709551615 ∧ (rdN b).2.1 ≤ b.length ∧ ((rdN b).2.2 = 0 ∨ (rdN b).2.2 = 2 ∨ (rdN b).2.2 = 4) := by
  rcases rdN_cases b hb with (h | h) | ⟨n, r, rfl, h0, h8, hl, _, h⟩
  · rw [h]; simp
  · rw [h]; simp
  · rw [h]
    have := val_range (l := r.take n.toNat) (fun x hx => hb x (by simp [List.mem_of_mem_take hx])) (by rw [List.length_take]; omega)
    refine ⟨this.1, this.2, ?_, .inl rfl⟩
    simp; omega
theorem head_idx {r : List Int} (h : r ≠ []) : ∃ y, r.head? = some y ∧ r[0]? = some y := by
  cases r with
  | nil => exact absurd rfl h
  | cons y t => exact ⟨y, rfl, rfl⟩
theorem Read_eq (b : List Int) (hb : By b) (hl : b.length ≤ 1000000000000) : num_Read b 0 = pure ((rdN b).1, ((rdN b).2.1 : Int), (rdN b).2.2) := by
  unfold num_Read
  have h0 : decide ((b.length : Int) < 0) = false := by simp
  rw [show decide ((0 : Int) < 0) = false from rfl, cond_false, h0, pure_bind, cond_false]
  cases b with
  | nil => rfl
  | cons n r =>
    have hn := hb n (by simp)
    have hr : By r := fun x hx => hb x (by simp [hx])
    have h1 : decide ((0 : Int) = ((n :: r).length : Int)) = false := by simp; omega
    have hrl : r.length ≤ 1000000000000 := by simp at hl; omega
    have e1 : List.drop (Int.toNat (IntKind.i64.wrap (0 + 1))) (List.take (Int.toNat ((n :: r).length : Int)) (n :: r)) = r := by
      rw [wI64 (by omega) (by omega), Int.toNat_natCast, List.take_length]; rfl
    rw [h1, cond_false, idx_eq (y := n) (by omega) rfl, pure_bind, need_true (by rw [wI64 (by omega) (by omega)]; simp; omega), e1, wI64 (n := n) (by omega) (by omega)]
    rw [rdN_cons]
    have hc : (cond (decide (8 < n)) (pure true) (cond (decide (0 < n)) (cond (decide ((0 : Int) < (r.length : Int))) ((idx r 0).bind fun x14 => pure (decide (x14 = 0))) (pure false)) (pure false)) : M Bool) = pure (decide (8 < n ∨ (0 < n ∧ r.head? = some 0))) := by
      by_cases c1 : 8 < n
      · simp [c1]
      · by_cases c2 : 0 < n
        · by_cases c3 : r = []
          · subst c3; simp [c1, c2]
          · obtain ⟨y, h5, h6⟩ := head_idx c3
            have c4 : 0 < r.length := List.length_pos_iff.2 c3
            simp [c1, c2, c4, idx_eq (l := r) (i := 0) (y := y) (by omega) h6, h5, pure_bind]
        · simp [c1, c2]
    rw [hc, pure_bind]
    by_cases c1 : 8 < n ∨ (0 < n ∧ r.head? = some 0)
    · rw [decide_eq_true c1, cond_true, if_pos c1]; rfl
    · rw [decide_eq_false c1, cond_false, if_neg c1]
      by_cases c2 : (r.length : Int) < n
      · rw [decide_eq_true c2, cond_true, if_pos c2]; rfl
      · rw [decide_eq_false c2, cond_false, if_neg c2, need_true (by omega)]
        have e2 : List.drop (Int.toNat 0) (List.take (Int.toNat (IntKind.i64.wrap n)) (List.drop (Int.toNat (IntKind.i64.wrap (0 + 1))) (List.take (Int.toNat ((n :: r).length : Int)) (n :: r)))) = r.take n.toNat := by
          rw [e1, wI64 (by omega) (by omega)]; rfl
        have hlen : (r.take n.toNat).length = n.toNat := by rw [List.length_take]; omega
        have hloop := loopL (body := num_Read_l0 n 0 (n :: r)) (r.take n.toNat) (fun i t => (t, (i : Int))) (fun v x => v * 256 + x) (fun t => pure t) (fun i t => ∃ m : Nat, t = (m : Int) ∧ m < 256 ^ i) (fun i x t hx hi hI => by
          obtain ⟨m, rfl, hm⟩ := hI
          have hxr := (hr.take n.toNat) x (List.mem_of_getElem? hx)
          have hm7 : m < 72057594037927936 := by
            have h3 : 256 ^ i ≤ 256 ^ 7 := Nat.pow_le_pow_right (by decide) (by omega)
            have h4 : (256 : Nat) ^ 7 = 72057594037927936 := by decide
            omega
          refine ⟨?_, m * 256 + x.toNat, by omega, by rw [Nat.pow_succ]; omega⟩
          unfold num_Read_l0
          have hd : decide ((i : Int) < ((r.take n.toNat).length : Int)) = true := by simpa using hi
          simp only [e2, hd, cond_true, idx_nat hx, pure_bind, bor_eq hm7 hxr, wSucc (show i < 9223372036854775807 by omega)]) (fun t _ => by
          unfold num_Read_l0
          have hd : decide (((r.take n.toNat).length : Int) < ((r.take n.toNat).length : Int)) = false := by simp
          simp only [e2, hd, cond_false, pure_bind]) 0 ⟨0, rfl, by decide⟩
        have hloop' : loop (num_Read_l0 n 0 (n :: r)) (0, 0) = pure (valB (r.take n.toNat)) := hloop
        rw [hloop', pure_bind, wI64 (n := 0 + 1) (by omega) (by omega), wI64 (by omega) (by omega)]
        have : ((0 : Int) + 1 + n) = ((n.toNat + 1 : Nat) : Int) := by omega
        rw [this]
theorem rRead_eq (B : List Int) (at_ : Nat) (hB : By B) (hl : B.length ≤ 1000000000000) (ha : at_ ≤ B.length) :
    r03_Read B (at_ : Int) = pure ((rdN (B.drop at_)).1, (if (rdN (B.drop at_)).2.2 = 0 then ((at_ + (rdN (B.drop at_)).2.1 : Nat) : Int) else 0), (rdN (B.drop at_)).2.2) := by
  unfold r03_Read
  have h0 : decide ((at_ : Int) < 0) = false := by simp
  have h0' : decide ((B.length : Int) < (at_ : Int)) = false := by simp; omega
  rw [h0, cond_false, h0', pure_bind, cond_false]
  by_cases hend : at_ = B.length
  · have hd : B.drop at_ = [] := by rw [hend, List.drop_length]
    have h1 : decide ((at_ : Int) = (B.length : Int)) = true := by simp [hend]
    rw [h1, cond_true, hd]; rfl
  · have h1 : decide ((at_ : Int) = (B.length : Int)) = false := by simp; omega
    have hlt : at_ < B.length := by omega
    obtain ⟨n, r, hd⟩ : ∃ n r, B.drop at_ = n :: r := by
      rw [List.drop_eq_getElem_cons hlt]; exact ⟨_, _, rfl⟩
    have hnB : B[at_]? = some n := by
      have := congrArg List.head? hd
      rw [List.head?_drop] at this; exact this
    have hrB : ∀ j, B[at_ + 1 + j]? = r[j]? := fun j => by
      have := congrArg (fun l => l[j + 1]?) hd
      simp only [List.getElem?_drop, List.getElem?_cons_succ] at this
      rw [← this]; congr 1; omega
    have hlenr : r.length + 1 + at_ = B.length := by
      have := congrArg List.length hd
      simp at this; omega
    have hb : By (n :: r) := hd ▸ hB.drop at_
    have hn := hb n (by simp)
    have hr : By r := fun x hx => hb x (by simp [hx])
    rw [h1, cond_false, idx_nat hnB, pure_bind, wI64 (n := n) (by omega) (by omega), hd]
    rw [rdN_cons]
    have hleft : IntKind.i64.wrap (IntKind.i64.wrap ((B.length : Int) - (at_ : Int)) - 1) = (r.length : Int) := by
      rw [wI64 (n := (B.length : Int) - (at_ : Int)) (by omega) (by omega), wI64 (by omega) (by omega)]; omega
    have hc : (cond (decide (8 < n)) (pure true) (cond (decide (0 < n)) (cond (decide ((0 : Int) < (IntKind.i64.wrap (IntKind.i64.wrap ((B.length : Int) - (at_ : Int)) - 1)))) ((idx B (IntKind.i64.wrap ((at_ : Int) + 1))).bind fun x14 => pure (decide (x14 = 0))) (pure false)) (pure false)) : M Bool) = pure (decide (8 < n ∨ (0 < n ∧ r.head? = some 0))) := by
      rw [hleft]
      by_cases c1 : 8 < n
      · simp [c1]
      · by_cases c2 : 0 < n
        · by_cases c3 : r = []
          · subst c3; simp [c1, c2]
          · obtain ⟨y, h5, h6⟩ := head_idx c3
            have c4 : 0 < r.length := List.length_pos_iff.2 c3
            have h7 : idx B (IntKind.i64.wrap ((at_ : Int) + 1)) = pure y := by
              rw [wI64 (by omega) (by omega)]
              exact idx_nat (i := at_ + 1) (by rw [← h6, ← hrB 0])
            simp [c1, c2, c4, h7, h5, pure_bind]
        · simp [c1, c2]
    rw [hc, pure_bind]
    by_cases c1 : 8 < n ∨ (0 < n ∧ r.head? = some 0)
    · rw [decide_eq_true c1, cond_true, if_pos c1]; rfl
    · rw [decide_eq_false c1, cond_false, if_neg c1, hleft]
      by_cases c2 : (r.length : Int) < n
      · rw [decide_eq_true c2, cond_true, if_pos c2]; rfl
      · rw [decide_eq_false c2, cond_false, if_neg c2]
        have hlen : (r.take n.toNat).length = n.toNat := by rw [List.length_take]; omega
        have hloop := loopL (body := r03_Read_l0 n B (at_ : Int)) (r.take n.toNat) (fun i t => (t, ((i + 1 : Nat) : Int))) (fun v x => v * 256 + x) (fun t => pure t) (fun i t => ∃ m : Nat, t = (m : Int) ∧ m < 256 ^ i) (fun i x t hx hi hI => by
          obtain ⟨m, rfl, hm⟩ := hI
          have hxr := (hr.take n.toNat) x (List.mem_of_getElem? hx)
          have hm7 : m < 72057594037927936 := by
            have h3 : 256 ^ i ≤ 256 ^ 7 := Nat.pow_le_pow_right (by decide) (by omega)
            have h4 : (256 : Nat) ^ 7 = 72057594037927936 := by decide
            omega
          refine ⟨?_, m * 256 + x.toNat, by omega, by rw [Nat.pow_succ]; omega⟩
          unfold r03_Read_l0
          have hd2 : decide (((i + 1 : Nat) : Int) ≤ n) = true := by simp; omega
          have hx2 : B[at_ + (i + 1)]? = some x := by
            rw [List.getElem?_take] at hx
            split at hx
            · rw [← hx, ← hrB i]; congr 1; omega
            · cases hx
          have hix : idx B (IntKind.i64.wrap ((at_ : Int) + ((i + 1 : Nat) : Int))) = pure x := by
            rw [wI64 (by omega) (by omega)]
            exact idx_nat (i := at_ + (i + 1)) hx2
          simp only [wI64 (n := n) (by omega) (by omega), hd2, cond_true, hix, pure_bind, wU64 (n := (m : Int) * 256) (by omega) (by omega), wU64 (n := x) (by omega) (by omega), wU64 (n := (m : Int) * 256 + x) (by omega) (by omega), wSucc (show i + 1 < 9223372036854775807 by omega)]) (fun t _ => by
          unfold r03_Read_l0
          have hd2 : decide (((((r.take n.toNat).length + 1 : Nat)) : Int) ≤ n) = false := by rw [hlen]; simp; omega
          simp only [wI64 (n := n) (by omega) (by omega), hd2, cond_false, pure_bind]) 0 ⟨0, rfl, by decide⟩
        have hloop' : loop (r03_Read_l0 n B (at_ : Int)) (0, 1) = pure (valB (r.take n.toNat)) := hloop
        rw [hloop', pure_bind, wI64 (n := (at_ : Int) + 1) (by omega) (by omega), wI64 (by omega) (by omega)]
        have : ((at_ : Int) + 1 + n) = ((at_ + (n.toNat + 1) : Nat) : Int) := by omega
        rw [this]; rfl


theorem be_of : ∀ (l : List Int), By l → ∀ n : Nat, valB l = (n : Int) → be n l.length = l := by
  intro l
  have key : ∀ (m : Nat) (l : List Int), l.length = m → By l → ∀ n : Nat, valB l = (n : Int) → be n l.length = l := by
    intro m
    induction m with
    | zero => intro l hl _ n _; have := List.eq_nil_of_length_eq_zero hl; subst this; rfl
    | succ m ih =>
      intro l hl hb n hn
      cases l with
      | nil => simp at hl
      | cons x r =>
        have hx := hb x (by simp)
        have hr : By r := fun y hy => hb y (by simp [hy])
        obtain ⟨q, h1, h2, h3⟩ := val_gen r 0 0 hr (by decide)
        obtain ⟨q2, h4, h5, h6⟩ := val_gen r x.toNat 1 hr (by omega)
        have hq : valB r = (q : Int) := h1
        have hq2 : valB (x :: r) = (q2 : Int) := by
          rw [valB, List.foldl_cons, ← h4]; congr 1; omega
        have hrl : r.length = m := by simpa using hl
        have e : q2 = n := by omega
        subst e
        have hlin : ∀ (l : List Int) (v : Int), l.foldl (fun v x => v * 256 + x) v = v * 256 ^ l.length + valB l := by
          intro l
          induction l with
          | nil => intro v; simp [valB]
          | cons y t iht =>
            intro v
            have e : valB (y :: t) = y * 256 ^ t.length + valB t := by rw [valB, List.foldl_cons, iht]; simp
            rw [List.foldl_cons, iht, e, List.length_cons, Int.pow_succ, Int.add_mul, Int.mul_assoc, Int.mul_comm 256, Int.add_assoc]
        have hsum : (q2 : Int) = x * 256 ^ r.length + (q : Int) := by
          rw [← hq, ← hlin r x, ← hq2, valB, List.foldl_cons]; congr 1; omega
        have hqlt : q < 256 ^ r.length := by simpa using h2
        have hnat : q2 = x.toNat * 256 ^ r.length + q := by
          have : ((q2 : Nat) : Int) = ((x.toNat * 256 ^ r.length + q : Nat) : Int) := by
            rw [hsum, Int.natCast_add, Int.natCast_mul, Int.natCast_pow, Int.toNat_of_nonneg hx.1]; rfl
          exact Int.ofNat.inj this
        have hp : 0 < 256 ^ r.length := Nat.pow_pos (by decide)
        have hdiv : q2 / 256 ^ r.length = x.toNat := by
          rw [hnat, Nat.mul_comm, Nat.mul_add_div hp, Nat.div_eq_of_lt hqlt, Nat.add_zero]
        rw [List.length_cons, be]
        have hb1 : byteAt q2 r.length = x := by unfold byteAt; rw [hdiv]; omega
        rw [hb1]
        congr 1
        have hbe : ∀ k, k ≤ r.length → be q2 k = be q k := by
          intro k hk
          induction k with
          | zero => rfl
          | succ k ihk =>
            rw [be, be, ihk (by omega)]
            congr 1
            show ((q2 / 256 ^ k % 256 : Nat) : Int) = ((q / 256 ^ k % 256 : Nat) : Int)
            congr 1
            have hs : 256 ^ r.length = 256 ^ k * (256 * 256 ^ (r.length - k - 1)) := by
              rw [← Nat.pow_succ', ← Nat.pow_add]; congr 1; omega
            have hpk : 0 < 256 ^ k := Nat.pow_pos (by decide)
            rw [hnat, hs, Nat.mul_left_comm, Nat.mul_add_div hpk]
            rw [Nat.mul_left_comm, Nat.mul_add_mod]
        rw [hbe _ (Nat.le_refl _)]
        exact ih r hrl hr q hq
  exact key l.length l rfl
theorem rdN_one {b : List Int} (hb : By b) (h : (rdN b).2.2 = 0) : b = encI (rdN b).1 ++ b.drop (rdN b).2.1 := by
  rcases rdN_cases b hb with (h1 | h1) | ⟨n, r, rfl, h0, h8, hl, hh, h1⟩
  · rw [h1] at h; simp at h
  · rw [h1] at h; simp at h
  · rw [h1]
    have hr : By r := fun x hx => hb x (by simp [hx])
    have hbt := hr.take n.toNat
    have hlt : (r.take n.toNat).length = n.toNat := by rw [List.length_take]; omega
    obtain ⟨q, h2, h3, h4⟩ := val_gen (r.take n.toNat) 0 0 hbt (by decide)
    have hq : valB (r.take n.toNat) = (q : Int) := h2
    have hbe := be_of _ hbt q hq
    rw [hlt] at hbe
    have hlen : lenN q = n.toNat := by
      apply Nat.le_antisymm
      · exact lenN_le _ _ (by simpa [hlt] using h3)
      · rcases Nat.eq_zero_or_pos n.toNat with hz | hz
        · omega
        · obtain ⟨k, hk⟩ : ∃ k, n.toNat = k + 1 := ⟨n.toNat - 1, by omega⟩
          rw [hk]
          refine lenN_ge k q ?_
          rw [hk, be] at hbe
          have hne : byteAt q k ≠ 0 := by
            intro e
            rw [e] at hbe
            refine hh ⟨by omega, ?_⟩
            have := congrArg List.head? hbe
            rw [List.head?_cons, List.head?_take, if_neg (by omega)] at this
            exact this.symm
          unfold byteAt at hne
          have hp : 0 < 256 ^ k := Nat.pow_pos (by decide)
          rcases Nat.lt_or_ge q (256 ^ k) with hlt2 | hge
          · rw [Nat.div_eq_of_lt hlt2] at hne; simp at hne
          · exact hge
    show n :: r = encI (valB (r.take n.toNat)) ++ (n :: r).drop (n.toNat + 1)
    rw [hq, encI, Int.toNat_natCast, encN, hlen, hbe, List.drop_succ_cons, List.cons_append, List.take_append_drop]
    congr 1; omega

abbrev RS := List Int × Int
structure Ok (s : RS) : Prop where
  by_ : By s.1
  len : s.1.length ≤ 1000000000
  nil : s.2 ≠ 0 → s.1 = []
def failS (e : Int) (s : RS) : RS := if s.2 = 0 ∧ e ≠ 0 then ([], e) else s
def numS (s : RS) : Int × RS := if s.2 ≠ 0 then (0, s) else if (rdN s.1).2.2 ≠ 0 then (0, failS (rdN s.1).2.2 s) else ((rdN s.1).1, (s.1.drop (rdN s.1).2.1, 0))
def uptoS (m : Int) (s : RS) : Int × RS := if m < (numS s).1 then (0, failS 4 (numS s).2) else numS s
def byteS (s : RS) : Int × RS := if s.2 ≠ 0 then (0, s) else match s.1 with | [] => (0, failS 2 s) | x :: r => (x, (r, 0))
def textS (m : Int) (s : RS) : ByteArray × RS :=
  if (numS s).2.2 ≠ 0 then (⟨#[]⟩, (numS s).2) else if max m 0 < (numS s).1 then (⟨#[]⟩, failS 3 (numS s).2) else if ((numS s).2.1.length : Int) < (numS s).1 then (⟨#[]⟩, failS 2 (numS s).2)
  else (strL ((numS s).2.1.take (numS s).1.toNat), ((numS s).2.1.drop (numS s).1.toNat, 0))
def endS (s : RS) : Int × RS := let t := if 0 < s.1.length then failS 4 s else s; (t.2, t)
theorem ok_fail {s : RS} (h : Ok s) (e : Int) : Ok (failS e s) := by
  unfold failS
  by_cases c : s.2 = 0 ∧ e ≠ 0
  · rw [if_pos c]; exact ⟨By.nil, by simp, fun _ => rfl⟩
  · rw [if_neg c]; exact h
theorem fail_bad {s : RS} {e : Int} (h : e ≠ 0) : (failS e s).2 ≠ 0 := by
  unfold failS
  by_cases c : s.2 = 0
  · rw [if_pos ⟨c, h⟩]; exact h
  · rw [if_neg (fun q => c q.1)]; exact c
theorem fail_of {s : RS} (e : Int) (h : s.2 ≠ 0) : failS e s = s := if_neg fun q => h q.1
theorem num_of {s : RS} (h : s.2 ≠ 0) : numS s = (0, s) := if_pos h
theorem ok_num {s : RS} (h : Ok s) : Ok (numS s).2 ∧ 0 ≤ (numS s).1 ∧ (numS s).1 ≤ 18446744073709551615 := by
  unfold numS
  have hr := rdN_range s.1 h.by_
  by_cases c : s.2 ≠ 0
  · rw [if_pos c]; exact ⟨h, by simp, by simp⟩
  · rw [if_neg c]
    by_cases c2 : (rdN s.1).2.2 ≠ 0
    · rw [if_pos c2]; exact ⟨ok_fail h _, by simp, by simp⟩
    · rw [if_neg c2]
      exact ⟨⟨h.by_.drop _, by simp; have := h.len; omega, fun h => absurd rfl h⟩, hr.1, hr.2.1⟩
theorem ok_upto {s : RS} (h : Ok s) {m : Int} (hm : 0 ≤ m) : Ok (uptoS m s).2 ∧ 0 ≤ (uptoS m s).1 ∧ (uptoS m s).1 ≤ m := by
  unfold uptoS
  obtain ⟨h1, h2, h3⟩ := ok_num h
  by_cases c : m < (numS s).1
  · rw [if_pos c]; exact ⟨ok_fail h1 _, by simp, hm⟩
  · rw [if_neg c]; exact ⟨h1, h2, by omega⟩
theorem ok_byte {s : RS} (h : Ok s) : Ok (byteS s).2 ∧ 0 ≤ (byteS s).1 ∧ (byteS s).1 ≤ 255 := by
  unfold byteS
  by_cases c : s.2 ≠ 0
  · rw [if_pos c]; exact ⟨h, by simp, by simp⟩
  · rw [if_neg c]
    cases hs : s.1 with
    | nil => exact ⟨ok_fail h _, by simp, by simp⟩
    | cons x r =>
      have hb := h.by_; have hl := h.len
      rw [hs] at hb hl
      exact ⟨⟨fun y hy => hb y (by simp [hy]), by simp at hl ⊢; omega, fun h => absurd rfl h⟩, (hb x (by simp)).1, (hb x (by simp)).2⟩
theorem ok_text {s : RS} (h : Ok s) (m : Int) : Ok (textS m s).2 := by
  unfold textS
  obtain ⟨h1, h2, h3⟩ := ok_num h
  split
  · exact h1
  · split
    · exact ok_fail h1 _
    · split
      · exact ok_fail h1 _
      · exact ⟨h1.by_.drop _, by simp; have := h1.len; omega, fun h => absurd rfl h⟩

theorem New_eq (b : List Int) (h : b.length ≤ 1000000000) : pack_New_o b = pure (b, 0) := by
  unfold pack_New_o; rw [need_true (by omega)]
theorem Err_eq (b : List Int) (e : Int) : pack_Reader_Err_o b e = pure (e, b, e) := rfl
theorem Fail_eq (e : Int) (s : RS) : pack_Reader_Fail_o e s.1 s.2 = pure (failS e s) := by
  unfold pack_Reader_Fail_o failS
  by_cases c : s.2 = 0 <;> by_cases c2 : e = 0 <;> simp [c, c2, pure_bind] <;> rw [← c]
theorem take_eq (b : List Int) (n : Nat) (e : Int) (h : n ≤ b.length) : pack_rest_take_o (n : Int) b e = pure (b.take n, b.drop n, e) := by
  unfold pack_rest_take_o
  rw [need_true (by omega), need_true (by omega)]
  simp
theorem Num_eq {s : RS} (h : Ok s) : pack_Reader_Num_o s.1 s.2 = pure (numS s) := by
  unfold pack_Reader_Num_o numS
  rw [Err_eq, det_pure, pure_bind]
  by_cases c : s.2 = 0
  · have hr := rdN_range s.1 h.by_
    simp only [c, decide_true, Bool.not_true, cond_false, Read_eq s.1 h.by_ (by have := h.len; omega), det_pure, pure_bind, ne_eq, not_true_eq_false, if_false]
    by_cases c2 : (rdN s.1).2.2 = 0
    · simp only [c2, decide_true, Bool.not_true, cond_false, take_eq s.1 (rdN s.1).2.1 0 hr.2.2.1, det_pure, pure_bind, not_true_eq_false, if_false]
    · have := Fail_eq (rdN s.1).2.2 s
      rw [c] at this
      simp only [c2, decide_false, Bool.not_false, cond_true, this, det_pure, pure_bind, not_false_eq_true, if_true]
  · simp [c]
theorem Upto_eq {s : RS} (h : Ok s) (m : Int) : pack_Reader_Upto_o m s.1 s.2 = pure (uptoS m s) := by
  unfold pack_Reader_Upto_o uptoS
  rw [Num_eq h, det_pure, pure_bind]
  by_cases c : m < (numS s).1
  · rw [decide_eq_true c, cond_true, if_pos c, Fail_eq 4 (numS s).2, det_pure, pure_bind]
  · rw [decide_eq_false c, cond_false, if_neg c]
theorem Left_eq (s : RS) : pack_Reader_Left_o s.1 s.2 = pure ((s.1.length : Int), s) := by
  unfold pack_Reader_Left_o pack_rest_Left_o
  rw [det_pure, pure_bind]
theorem Byte_eqS {s : RS} (h : Ok s) : pack_Reader_Byte_o s.1 s.2 = pure (byteS s) := by
  unfold pack_Reader_Byte_o byteS
  rw [Err_eq, det_pure, pure_bind]
  by_cases c : s.2 = 0
  · obtain ⟨b, e⟩ := s
    simp only at c
    subst c
    have hL := Left_eq (b, 0)
    simp only at hL
    cases b with
    | nil =>
      have := Fail_eq 2 ([], 0)
      simp only at this
      simp [hL, det_pure, pure_bind, this]
    | cons x r =>
      have ht := take_eq (x :: r) 1 0 (by simp)
      simp only [show ((1 : Nat) : Int) = 1 from rfl] at ht
      have hd : decide (((x :: r).length : Int) = 0) = false := by simp; omega
      simp only [decide_true, Bool.not_true, cond_false, hL, det_pure, pure_bind, hd, ht]
      rw [idx_eq (l := List.take 1 (x :: r)) (i := 0) (y := x) (by omega) rfl, pure_bind]
      simp
  · simp [c]
theorem Text_eq {s : RS} (h : Ok s) {m : Int} (hm : m ≤ 9223372036854775807) : pack_Reader_Text_o m s.1 s.2 = pure (textS m s) := by
  unfold pack_Reader_Text_o textS
  obtain ⟨h1, h2, h3⟩ := ok_num h
  rw [Num_eq h, det_pure, pure_bind, Err_eq, det_pure, pure_bind]
  by_cases c : (numS s).2.2 = 0
  · simp only [c, decide_true, Bool.not_true, cond_false, ne_eq, not_true_eq_false, if_false]
    rw [wU64 (n := max m 0) (by omega) (by omega)]
    by_cases c2 : max m 0 < (numS s).1
    · have hF := Fail_eq 3 (numS s).2
      rw [c] at hF
      rw [decide_eq_true c2, cond_true, if_pos c2, hF, det_pure, pure_bind]
    · have hL := Left_eq (numS s).2
      rw [c] at hL
      rw [decide_eq_false c2, cond_false, if_neg c2, hL, det_pure, pure_bind]
      have hlen := h1.len
      rw [wU64 (n := ((numS s).2.1.length : Int)) (by omega) (by omega)]
      by_cases c3 : ((numS s).2.1.length : Int) < (numS s).1
      · have hF := Fail_eq 2 (numS s).2
        rw [decide_eq_true c3, cond_true, if_pos c3, hF, det_pure, pure_bind]
      · rw [decide_eq_false c3, cond_false, if_neg c3, wI64 (by omega) (by omega)]
        have ht := take_eq (numS s).2.1 (numS s).1.toNat (numS s).2.2 (by omega)
        rw [Int.toNat_of_nonneg h2] at ht
        rw [ht, det_pure, pure_bind, c]
  · simp [c]
theorem End_eq (s : RS) : pack_Reader_End_o s.1 s.2 = pure (endS s) := by
  unfold pack_Reader_End_o endS
  rw [Left_eq, det_pure, pure_bind]
  by_cases c : 0 < s.1.length
  · have : decide ((0 : Int) < (s.1.length : Int)) = true := by simpa using c
    simp only [this, cond_true, Fail_eq, det_pure, pure_bind, if_pos c, Err_eq]
  · have : decide ((0 : Int) < (s.1.length : Int)) = false := by simpa using c
    simp only [this, cond_false, pure_bind, if_neg c, Err_eq, det_pure]

theorem put_eq (b row : List Int) (h : row.length + b.length ≤ 100000000000000) : pack_Writer_put_o b row = pure (row ++ b) := by
  unfold pack_Writer_put_o; rw [need_true (by omega)]
theorem WNum_eq {v : Int} (row : List Int) (h0 : 0 ≤ v) (h : v ≤ 18446744073709551615) (hr : row.length ≤ 10000000000000) : pack_Writer_Num_o v row = pure (row ++ encI v) := by
  unfold pack_Writer_Num_o
  have := encI_len h
  rw [Append_eq [] h0 h (by simp), det_pure, pure_bind, List.nil_append, put_eq _ _ (by omega), det_pure, pure_bind]
theorem Bytes_eq (row : List Int) (h : row.length ≤ 100000000000000) : pack_Writer_Bytes_o row = pure (row, row) := by
  unfold pack_Writer_Bytes_o; rw [need_true (by omega)]
theorem WByte_eq (c : Int) (row : List Int) (hr : row.length ≤ 10000000000000) : pack_Writer_Byte_o c row = pure (row ++ [c]) := by
  unfold pack_Writer_Byte_o
  rw [put_eq _ _ (by simp; omega), det_pure, pure_bind]


structure Sim (B : List Int) (a : Int) (s : RS) : Prop where
  lo : 0 ≤ a
  hi : a ≤ B.length
  eq : s.2 = 0 → s.1 = B.drop a.toNat
structure OkB (B : List Int) : Prop where
  by_ : By B
  len : B.length ≤ 1000000000
theorem Sim.start (B : List Int) : Sim B 0 (B, 0) := ⟨Int.le_refl _, by omega, fun _ => rfl⟩
theorem OkB.ok {B : List Int} (h : OkB B) : Ok (B, 0) := ⟨h.by_, h.len, fun h => absurd rfl h⟩
theorem Sim.fail {B : List Int} {a : Int} {s : RS} (h : Sim B a s) {e : Int} (he : e ≠ 0) : Sim B a (failS e s) := ⟨h.lo, h.hi, fun h2 => absurd h2 (fail_bad he)⟩
theorem Sim.bad {B : List Int} {a : Int} {s t : RS} (h : Sim B a s) (ht : t.2 ≠ 0) : Sim B a t := ⟨h.lo, h.hi, fun h2 => absurd h2 ht⟩
variable {B : List Int} {a : Int} {s : RS}
theorem rFail_eq (B : List Int) (a : Int) (s : RS) {e : Int} (he : e ≠ 0) : epitaphref04_Reader_Fail_o e B a s.2 = pure (B, a, (failS e s).2) := by
  unfold epitaphref04_Reader_Fail_o failS
  by_cases c : s.2 = 0 <;> simp [c, he]
theorem rNum_eq (hB : OkB B) (h : Sim B a s) : ∃ a', epitaphref04_Reader_Num_o B a s.2 = pure ((numS s).1, B, a', (numS s).2.2) ∧ Sim B a' (numS s).2 := by
  obtain ⟨m, rfl⟩ := Int.eq_ofNat_of_zero_le h.lo
  have hm : m ≤ B.length := by have := h.hi; omega
  unfold epitaphref04_Reader_Num_o numS
  by_cases c : s.2 = 0
  · have hd := h.eq c
    rw [Int.toNat_natCast] at hd
    have hr := rdN_range s.1 (by rw [hd]; exact hB.by_.drop _)
    rw [hd] at hr ⊢
    simp only [c, decide_true, Bool.not_true, cond_false, rRead_eq B m hB.by_ (by have := hB.len; omega) hm, det_pure, pure_bind, ne_eq, not_true_eq_false, if_false]
    by_cases c2 : (rdN (B.drop m)).2.2 = 0
    · simp only [c2, decide_true, Bool.not_true, cond_false, if_true, not_true_eq_false, if_false]
      refine ⟨_, rfl, by omega, ?_, fun _ => ?_⟩
      · have := hr.2.2.1; rw [List.length_drop] at this; omega
      · rw [List.drop_drop]; congr 1
    · have := rFail_eq B (m : Int) s c2
      rw [c] at this
      simp only [c2, decide_false, Bool.not_false, cond_true, if_false, this, det_pure, pure_bind, not_false_eq_true, if_true]
      exact ⟨_, rfl, h.fail c2⟩
  · have : decide (s.2 = 0) = false := by simp [c]
    simp only [this, Bool.not_false, cond_true, ne_eq, c, not_false_eq_true, if_true]
    exact ⟨_, rfl, h⟩
theorem rUpto_eq (hB : OkB B) (h : Sim B a s) (m : Int) : ∃ a', epitaphref04_Reader_Upto_o m B a s.2 = pure ((uptoS m s).1, B, a', (uptoS m s).2.2) ∧ Sim B a' (uptoS m s).2 := by
  obtain ⟨a1, h1, h2⟩ := rNum_eq hB h
  unfold epitaphref04_Reader_Upto_o uptoS
  rw [h1, det_pure, pure_bind]
  by_cases c : m < (numS s).1
  · rw [decide_eq_true c, cond_true, if_pos c, rFail_eq B a1 (numS s).2 (by decide), det_pure, pure_bind]
    exact ⟨_, rfl, h2.fail (by decide)⟩
  · rw [decide_eq_false c, cond_false, if_neg c]
    exact ⟨_, rfl, h2⟩
theorem rByteS_eq (hB : OkB B) (h : Sim B a s) : ∃ a', epitaphref04_Reader_Byte_o B a s.2 = pure ((byteS s).1, B, a', (byteS s).2.2) ∧ Sim B a' (byteS s).2 := by
  obtain ⟨m, rfl⟩ := Int.eq_ofNat_of_zero_le h.lo
  have hm : m ≤ B.length := by have := h.hi; omega
  have hlen := hB.len
  unfold epitaphref04_Reader_Byte_o byteS
  by_cases c : s.2 = 0
  · have hd := h.eq c
    rw [Int.toNat_natCast] at hd
    simp only [c, decide_true, Bool.not_true, cond_false, ne_eq, not_true_eq_false, if_false]
    by_cases hend : B.length ≤ m
    · have : decide ((B.length : Int) ≤ (m : Int)) = true := by simpa using hend
      have hnil : s.1 = [] := by rw [hd]; exact List.drop_eq_nil_of_le hend
      have hF := rFail_eq B (m : Int) s (e := 2) (by decide)
      rw [c] at hF
      simp only [this, cond_true, hF, det_pure, pure_bind, hnil]
      exact ⟨_, rfl, h.fail (by decide)⟩
    · have : decide ((B.length : Int) ≤ (m : Int)) = false := by simp; omega
      have hlt : m < B.length := by omega
      have hs : s.1 = B[m] :: B.drop (m + 1) := by rw [hd]; exact List.drop_eq_getElem_cons hlt
      have hi : idx B (IntKind.i64.wrap (IntKind.i64.wrap ((m : Int) + 1) - 1)) = pure B[m] := by
        rw [wI64 (n := (m : Int) + 1) (by omega) (by omega), wI64 (by omega) (by omega)]
        exact idx_eq (by omega) (by rw [show ((m : Int) + 1 - 1).toNat = m by omega]; exact List.getElem?_eq_getElem hlt)
      simp only [this, cond_false, hi, pure_bind, hs]
      refine ⟨_, rfl, ?_, ?_, fun _ => ?_⟩
      · rw [wI64 (by omega) (by omega)]; omega
      · rw [wI64 (by omega) (by omega)]; omega
      · rw [wI64 (by omega) (by omega)]
        show B.drop (m + 1) = _
        congr 1
  · have : decide (s.2 = 0) = false := by simp [c]
    simp only [this, Bool.not_false, cond_true, ne_eq, c, not_false_eq_true, if_true]
    exact ⟨_, rfl, h⟩
theorem rTextS_eq (hB : OkB B) (hO : Ok s) (h : Sim B a s) {q : Int} (hq : q ≤ 9223372036854775807) : ∃ a', epitaphref04_Reader_Text_o q B a s.2 = pure ((textS q s).1, B, a', (textS q s).2.2) ∧ Sim B a' (textS q s).2 := by
  obtain ⟨a1, h1, h2⟩ := rNum_eq hB h
  obtain ⟨k1, k2, k3⟩ := ok_num hO
  have hlen := hB.len
  unfold epitaphref04_Reader_Text_o textS
  rw [h1, det_pure, pure_bind]
  have hmost : (cond (decide (q < 0)) (pure 0) (pure q) : M Int) = pure (max q 0) := by
    by_cases c : q < 0
    · rw [decide_eq_true c, cond_true]; congr 1; omega
    · rw [decide_eq_false c, cond_false]; congr 1; omega
  rw [hmost, pure_bind, wU64 (n := max q 0) (by omega) (by omega)]
  generalize hns : numS s = ns at *
  obtain ⟨n, b, e⟩ := ns
  simp only at *
  by_cases c : e = 0
  · subst c
    by_cases c2 : max q 0 < n
    · have hF := rFail_eq B a1 (b, 0) (e := 3) (by decide)
      simp only at hF
      simp only [decide_eq_true c2, cond_true, hF, det_pure, pure_bind]
      have hb : (failS 3 (b, 0)).2 = 3 := rfl
      simp only [hb, show decide ((3 : Int) = 0) = false from rfl, cond_false, pure_bind, Bool.not_false, cond_true, ne_eq, not_true_eq_false, if_false, if_pos c2]
      exact ⟨_, rfl, h2.fail (by decide)⟩
    · simp only [decide_eq_false c2, cond_false, pure_bind, decide_true, cond_true, ne_eq, not_true_eq_false, if_false, if_neg c2]
      have hbl : (b.length : Int) = B.length - a1 := by
        have h3 := h2.eq rfl
        simp only at h3
        rw [h3, List.length_drop]; have := h2.lo; have := h2.hi; omega
      have h4 := h2.lo; have h5 := h2.hi
      rw [wI64 (n := (B.length : Int) - a1) (by omega) (by omega), wU64 (n := (B.length : Int) - a1) (by omega) (by omega), ← hbl]
      by_cases c3 : (b.length : Int) < n
      · have hF := rFail_eq B a1 (b, 0) (e := 2) (by decide)
        simp only at hF
        have hb : (failS 2 (b, 0)).2 = 2 := rfl
        simp only [decide_eq_true c3, cond_true, hF, det_pure, pure_bind, hb, show decide ((2 : Int) = 0) = false from rfl, Bool.not_false, if_pos c3]
        exact ⟨_, rfl, h2.fail (by decide)⟩
      · have hn : IntKind.i64.wrap n = n := wI64 (by omega) (by omega)
        simp only [decide_eq_false c3, cond_false, pure_bind, decide_true, Bool.not_true, if_neg c3, hn]
        rw [wI64 (n := a1 + n) (by omega) (by omega), need_true (by omega)]
        have h3 := h2.eq rfl
        simp only at h3
        refine ⟨_, by congr 2; rw [h3]; congr 1; rw [List.drop_take]; congr 1; omega, ?_, ?_, fun _ => ?_⟩
        · omega
        · omega
        · show b.drop n.toNat = _
          rw [h3, List.drop_drop]; congr 1; omega
  · have hd : decide (e = 0) = false := by simp [c]
    have hx : max q 0 < n ∨ ¬ max q 0 < n := by omega
    have hz : n = 0 := by
      unfold numS at hns
      by_cases c4 : s.2 = 0
      · rw [if_neg (by simp [c4])] at hns
        by_cases c5 : (rdN s.1).2.2 = 0
        · rw [if_neg (by simp [c5])] at hns
          have := congrArg (fun x => x.2.2) hns
          simp only at this
          exact absurd this.symm c
        · rw [if_pos c5] at hns
          exact (congrArg (fun x => x.1) hns).symm
      · rw [if_pos c4] at hns
        exact (congrArg (fun x => x.1) hns).symm
    subst hz
    have hd2 : decide (max q 0 < 0) = false := by simp; omega
    rw [if_pos (show e ≠ 0 from c)]
    simp only [hd2, cond_false, pure_bind, hd, Bool.not_false, cond_true]
    exact ⟨_, rfl, h2⟩
theorem rEndS_eq (hB : OkB B) (hO : Ok s) (h : Sim B a s) : ∃ a', epitaphref04_Reader_End_o B a s.2 = pure ((endS s).1, B, a', (endS s).1) := by
  have hlen := hB.len
  unfold epitaphref04_Reader_End_o epitaphref04_Reader_Left_o endS
  by_cases c : s.2 = 0
  · have h3 := h.eq c
    have h4 := h.lo; have h5 := h.hi
    have hbl : (s.1.length : Int) = B.length - a := by rw [h3, List.length_drop]; omega
    have e1 : IntKind.i64.wrap ((B.length : Int) - a) = (s.1.length : Int) := by rw [wI64 (by omega) (by omega)]; omega
    simp only [c, decide_true, Bool.not_true, cond_false, e1, det_pure, pure_bind]
    by_cases c2 : 0 < s.1.length
    · have : decide ((0 : Int) < (s.1.length : Int)) = true := by simpa using c2
      have hF := rFail_eq B a s (e := 4) (by decide)
      rw [c] at hF
      simp only [this, cond_true, hF, det_pure, pure_bind, if_pos c2]
      exact ⟨_, rfl⟩
    · have : decide ((0 : Int) < (s.1.length : Int)) = false := by simpa using c2
      simp only [this, cond_false, pure_bind, if_neg c2, c]
      exact ⟨_, rfl⟩
  · have hn := hO.nil c
    have : decide (s.2 = 0) = false := by simp [c]
    simp only [this, Bool.not_false, cond_true, det_pure, pure_bind, show decide ((0 : Int) < 0) = false from rfl, cond_false, hn, List.length_nil, show ¬ (0 < 0) by omega, if_false]
    exact ⟨_, rfl⟩
end Go.Ep.M.N


/- The laws of the program's sorts. -/
import Derived.Test.YtdipflebhoodkaaSrt
import Derived.Test.YtdipflebhoodkaaFc
import Derived.Test.YtdipflebhoodkaaLt
import Derived.Test.YtdipflebhoodkaaSl
import Derived.Shelf.SlSortCmp.NoneTotal
import Derived.StillTactics
import Derived.RegionTactic
namespace Go.Proofs
set_option linter.unusedSimpArgs false
set_option linter.unusedVariables false
open Go.Shelf Go.RowKit Go.Lib Go.Sort Go.Ep
theorem nanu16 (a : Int) (W : World) : Calls Try.prog 120 #[.int .u16 a] W fun e w' => e = .returned (.bool false) ∧ w' = W := by
  go_enter Try.func120, Try.ntmps120
  go_wp2
  go_ret
  exact ⟨by simp, rfl⟩
theorem cmpu16 (a b : Int) (W : World) : Calls Try.prog 95 #[.int .u16 a, .int .u16 b] W fun e w' => e = .returned (.int .i64 (Lib.compareInt a b)) ∧ w' = W := by
  unfold Lib.compareInt
  by_cases h1 : a < b
  · go_enter Try.func95, Try.ntmps95
    go_wp2_with (go_at_call 120; refine (nanu16 _ _).mono ?_; rintro e w' ⟨rfl, rfl⟩)
    go_ret
    exact ⟨by simp [h1], rfl⟩
  · by_cases h2 : b < a
    · go_enter Try.func95, Try.ntmps95
      go_wp2_with (go_at_call 120; refine (nanu16 _ _).mono ?_; rintro e w' ⟨rfl, rfl⟩)
      go_ret
      exact ⟨by simp [h1, h2], rfl⟩
    · go_enter Try.func95, Try.ntmps95
      go_wp2_with (go_at_call 120; refine (nanu16 _ _).mono ?_; rintro e w' ⟨rfl, rfl⟩)
      go_ret
      exact ⟨by simp [h1, h2], rfl⟩
theorem nanu64 (a : Int) (W : World) : Calls Try.prog 127 #[.int .u64 a] W fun e w' => e = .returned (.bool false) ∧ w' = W := by
  go_enter Try.func127, Try.ntmps127
  go_wp2
  go_ret
  exact ⟨by simp, rfl⟩
theorem cmpu64 (a b : Int) (W : World) : Calls Try.prog 108 #[.int .u64 a, .int .u64 b] W fun e w' => e = .returned (.int .i64 (Lib.compareInt a b)) ∧ w' = W := by
  unfold Lib.compareInt
  by_cases h1 : a < b
  · go_enter Try.func108, Try.ntmps108
    go_wp2_with (go_at_call 127; refine (nanu64 _ _).mono ?_; rintro e w' ⟨rfl, rfl⟩)
    go_ret
    exact ⟨by simp [h1], rfl⟩
  · by_cases h2 : b < a
    · go_enter Try.func108, Try.ntmps108
      go_wp2_with (go_at_call 127; refine (nanu64 _ _).mono ?_; rintro e w' ⟨rfl, rfl⟩)
      go_ret
      exact ⟨by simp [h1, h2], rfl⟩
    · go_enter Try.func108, Try.ntmps108
      go_wp2_with (go_at_call 127; refine (nanu64 _ _).mono ?_; rintro e w' ⟨rfl, rfl⟩)
      go_ret
      exact ⟨by simp [h1, h2], rfl⟩
def cf122 (x y : TDot) : Int := if Lib.compareInt x.dev y.dev ≠ 0 then Lib.compareInt x.dev y.dev else Lib.compareInt x.n y.n
theorem callcf122 (x y : TDot) (W : World) : Calls Try.prog 123 #[.agg #[.int .u16 x.dev, .int .u64 x.n], .agg #[.int .u16 y.dev, .int .u64 y.n]] W fun e w' => e = .returned (.int .i64 (cf122 x y)) ∧ ∃ q os', w' = grow (W.drewN q) os' := by
  have c1 := fun W' => cmpu16 x.dev y.dev W'
  have c2 := fun W' => cmpu64 x.n y.n W'
  unfold cf122
  generalize Lib.compareInt x.dev y.dev = r1 at c1 ⊢
  generalize Lib.compareInt x.n y.n = r2 at c2 ⊢
  by_cases h : r1 = 0
  · subst h
    go_enter Try.func123, Try.ntmps123
    go_wp2_with (first | (go_at_call 95; refine (c1 _).mono ?_; rintro e w' ⟨rfl, rfl⟩) | (go_at_call 108; refine (c2 _).mono ?_; rintro e w' ⟨rfl, rfl⟩))
    go_ret
    exact ⟨by simp, 0, _, by rw [alloc_eq_grow, alloc_eq_grow, grow_grow]; rfl⟩
  · go_enter Try.func123, Try.ntmps123
    go_wp2_with (first | (go_at_call 95; refine (c1 _).mono ?_; rintro e w' ⟨rfl, rfl⟩) | (go_at_call 108; refine (c2 _).mono ?_; rintro e w' ⟨rfl, rfl⟩))
    go_ret
    exact ⟨by simp [h], 0, _, by rw [alloc_eq_grow, alloc_eq_grow, grow_grow]; rfl⟩
theorem ltcf122 (x y : TDot) : ltOf cf122 x y = ltDot x y := by
  unfold ltOf cf122 Lib.compareInt ltDot
  rw [Bool.eq_iff_iff]
  simp only [decide_eq_true_eq, Bool.or_eq_true, Bool.and_eq_true]
  split <;> (repeat' split) <;> omega
theorem swocf122 : SWO (ltOf cf122) where
  irrefl x := by rw [ltcf122]; simp [ltDot]
  trans x y z h1 h2 := by rw [ltcf122] at *; simp [ltDot] at *; omega
  ntrans x y z h1 h2 := by rw [ltcf122] at *; simp [ltDot] at *; omega
instance inhcf122 : Inhabited TDot := ⟨⟨0, 0⟩⟩
theorem layscf122 (blk off size : Nat) (w : World) : CmpLays Try.prog 123 #[] TDot.v 2 cf122 blk off size w := fun _ _ _ _ x y => callcf122 x y _
set_option maxHeartbeats 2000000 in
set_option maxRecDepth 100000 in
theorem sort122_eq (blk off cap : Nat) (d : Array TDot) (w : World) (hH : HoldsK TDot.v 2 w blk off d) (hblk : blk < w.heap.size) (hsz : d.size < 4611686018427387904) :
    Calls Try.prog 122 #[.slice (some ⟨blk, off, none⟩) d.size cap, .func (.func 123) #[] #[]] w fun e w' => e = .returned (.tuple #[]) ∧ ∃ n os, w' = sortWorldK TDot.v 2 w blk off n (pdq (ltOf cf122) d 0 d.size (Lib.bitLen d.size) true true) os := by
  have eg : ∀ args w, (callFunc 123 args).run Try.prog w = .ok (.enter 123 args) w := Try.call123
  have e14 := Try.call141
  have e15 := Try.call119
  have hlim : Lib.bitLen d.size < 4611686018427387904 := Nat.lt_of_le_of_lt (Lib.bitLen_le d.size 62 (by omega) (by omega)) (by omega)
  have hp := AnyQ.pdqsortCmpFunc_all Try.pdq141 2 Try.isAgg70 Try.sizeOf70 TDot.v cf122 123 #[] swocf122 blk off cap d w eg (layscf122 blk off d.size w) ⟨fun _ => rfl, TDot.v1, hH, hblk⟩ (d.size + 1) 0 d.size (Lib.bitLen d.size) d w (by omega) rfl (SWK.start hH) (Nat.zero_le _) (Nat.le_refl _) hsz hlim (Or.inl rfl)
  change Calls Try.prog 141 _ _ _ at hp
  have hl : Calls Try.prog 119 #[.int .u64 (d.size : Int)] w fun e w' => e = .returned (.int .i64 (Lib.bitLen d.size : Nat)) ∧ w' = w := by
    have h := Any.bits_Len (SlLaysF0.n15.bits Try.bits119) (d.size : Int) w (by omega) (by omega)
    rwa [Int.toNat_natCast] at h
  have wr : IntKind.u64.wrap (d.size : Int) = d.size := by simp [IntKind.wrap, IntKind.bits, IntKind.signed]; omega
  clear hH
  go_enter Try.func122, Try.ntmps122
  go_wp2_with (first | (go_at_call 119; refine hl.mono ?_; rintro e w' ⟨rfl, rfl⟩) | (go_at_call 141; refine hp.mono ?_; rintro e w' ⟨rfl, n, os, rfl⟩))
  go_end0
  exact ⟨rfl, n, os, rfl⟩
theorem sort122_nil (w : World) : Calls Try.prog 122 #[.slice none 0 0, .func (.func 123) #[] #[]] w fun e w' => e = .returned (.tuple #[]) ∧ Go.RowKit.Below w.heap.size w w' := by
  have e14 := Try.call141
  have e15 := Try.call119
  have hp := fun lim W => AnyF.pdqsortCmpFunc_none Try.pdq141 none 0 lim (.func (.func 123) #[] #[]) W
  have hl : ∀ W, Calls Try.prog 119 #[.int .u64 0] W fun e w' => e = .returned (.int .i64 (Lib.bitLen 0 : Nat)) ∧ w' = W := fun W => by
    have h := Any.bits_Len (SlLaysF0.n15.bits Try.bits119) 0 W (by omega) (by omega)
    exact h
  go_enter Try.func122, Try.ntmps122
  go_wp2_with (first | (go_at_call 119; refine (hl _).mono ?_; rintro e w' ⟨rfl, rfl⟩) | (go_at_call 141; refine (hp _ _).mono ?_; rintro e w' ⟨rfl, rfl⟩))
  go_end0
  exact ⟨rfl, Go.RowKit.Below.refl _ _⟩
theorem srt122_123 : SortLaw Try.prog 122 123 2 TDot.v ltDot := SortLaw.of swocf122 ltcf122 (fun _ => rfl) sort122_nil (fun blk off cap d w hH hblk hsz => sort122_eq blk off cap d w hH hblk hsz)
end Go.Proofs

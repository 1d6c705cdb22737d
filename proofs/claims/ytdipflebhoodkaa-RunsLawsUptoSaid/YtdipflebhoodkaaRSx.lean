/- The laws of the program's sorts. -/
import Derived.Test.YtdipflebhoodkaaRSrt
import Derived.Test.YtdipflebhoodkaaRFc
import Derived.Test.YtdipflebhoodkaaLt
import Derived.Test.YtdipflebhoodkaaSl
import Derived.Shelf.SlSortCmp.NoneTotal
import Derived.StillTactics
import Derived.RegionTactic
namespace Go.Proofs
set_option linter.unusedSimpArgs false
set_option linter.unusedVariables false
open Go.Shelf Go.RowKit Go.Lib Go.Sort Go.Ep
theorem nanu64 (a : Int) (W : World) : Calls Try.prog 127 #[.int .u64 a] W fun e w' => e = .returned (.bool false) ∧ w' = W := by
  go_enter Try.func127, Try.ntmps127
  go_wp2
  go_ret
  exact ⟨by simp, rfl⟩
theorem cmpu64 (a b : Int) (W : World) : Calls Try.prog 108 #[.int .u64 a, .int .u64 b] W fun e w' => e = .returned (.int .i64 (Lib.compareInt a b)) ∧ w' = W := by
  unfold Lib.compareInt
  by_cases h1 : a < b
  · go_enter Try.func108, Try.ntmps108
    go_wp2_with (go_at_call 127; refine (nanu64 _ _).mono ?_; rintro e w' ⟨rfl, rfl⟩)
    go_ret
    exact ⟨by simp [h1], rfl⟩
  · by_cases h2 : b < a
    · go_enter Try.func108, Try.ntmps108
      go_wp2_with (go_at_call 127; refine (nanu64 _ _).mono ?_; rintro e w' ⟨rfl, rfl⟩)
      go_ret
      exact ⟨by simp [h1, h2], rfl⟩
    · go_enter Try.func108, Try.ntmps108
      go_wp2_with (go_at_call 127; refine (nanu64 _ _).mono ?_; rintro e w' ⟨rfl, rfl⟩)
      go_ret
      exact ⟨by simp [h1, h2], rfl⟩
def cf106 (x y : TRun) : Int := Lib.compareInt x.lo y.lo
theorem callcf106 (x y : TRun) (W : World) : Calls Try.prog 107 #[.agg #[.int .u64 x.lo, .int .u64 x.hi], .agg #[.int .u64 y.lo, .int .u64 y.hi]] W fun e w' => e = .returned (.int .i64 (cf106 x y)) ∧ ∃ q os', w' = grow (W.drewN q) os' := by
  have c1 := fun W' => cmpu64 x.lo y.lo W'
  unfold cf106
  generalize Lib.compareInt x.lo y.lo = r1 at c1 ⊢
  go_enter Try.func107, Try.ntmps107
  go_wp2_with (go_at_call 108; refine (c1 _).mono ?_; rintro e w' ⟨rfl, rfl⟩)
  go_ret
  exact ⟨rfl, 0, _, by rw [alloc_eq_grow, alloc_eq_grow, grow_grow]; rfl⟩
theorem ltcf106 (x y : TRun) : ltOf cf106 x y = ltRun x y := by
  unfold ltOf cf106 Lib.compareInt ltRun
  rw [Bool.eq_iff_iff]
  simp only [decide_eq_true_eq, Bool.or_eq_true, Bool.and_eq_true]
  split <;> (repeat' split) <;> omega
theorem swocf106 : SWO (ltOf cf106) where
  irrefl x := by rw [ltcf106]; simp [ltRun]
  trans x y z h1 h2 := by rw [ltcf106] at *; simp [ltRun] at *; omega
  ntrans x y z h1 h2 := by rw [ltcf106] at *; simp [ltRun] at *; omega
instance inhcf106 : Inhabited TRun := ⟨⟨0, 0⟩⟩
theorem layscf106 (blk off size : Nat) (w : World) : CmpLays Try.prog 107 #[] TRun.v 2 cf106 blk off size w := fun _ _ _ _ x y => callcf106 x y _
set_option maxHeartbeats 2000000 in
set_option maxRecDepth 100000 in
theorem sort106_eq (blk off cap : Nat) (d : Array TRun) (w : World) (hH : HoldsK TRun.v 2 w blk off d) (hblk : blk < w.heap.size) (hsz : d.size < 4611686018427387904) :
    Calls Try.prog 106 #[.slice (some ⟨blk, off, none⟩) d.size cap, .func (.func 107) #[] #[]] w fun e w' => e = .returned (.tuple #[]) ∧ ∃ n os, w' = sortWorldK TRun.v 2 w blk off n (pdq (ltOf cf106) d 0 d.size (Lib.bitLen d.size) true true) os := by
  have eg : ∀ args w, (callFunc 107 args).run Try.prog w = .ok (.enter 107 args) w := Try.call107
  have e14 := Try.call126
  have e15 := Try.call119
  have hlim : Lib.bitLen d.size < 4611686018427387904 := Nat.lt_of_le_of_lt (Lib.bitLen_le d.size 62 (by omega) (by omega)) (by omega)
  have hp := AnyQ.pdqsortCmpFunc_all Try.pdq126 2 Try.isAgg40 Try.sizeOf40 TRun.v cf106 107 #[] swocf106 blk off cap d w eg (layscf106 blk off d.size w) ⟨fun _ => rfl, TRun.v1, hH, hblk⟩ (d.size + 1) 0 d.size (Lib.bitLen d.size) d w (by omega) rfl (SWK.start hH) (Nat.zero_le _) (Nat.le_refl _) hsz hlim (Or.inl rfl)
  change Calls Try.prog 126 _ _ _ at hp
  have hl : Calls Try.prog 119 #[.int .u64 (d.size : Int)] w fun e w' => e = .returned (.int .i64 (Lib.bitLen d.size : Nat)) ∧ w' = w := by
    have h := Any.bits_Len (SlLaysF0.n15.bits Try.bits119) (d.size : Int) w (by omega) (by omega)
    rwa [Int.toNat_natCast] at h
  have wr : IntKind.u64.wrap (d.size : Int) = d.size := by simp [IntKind.wrap, IntKind.bits, IntKind.signed]; omega
  clear hH
  go_enter Try.func106, Try.ntmps106
  go_wp2_with (first | (go_at_call 119; refine hl.mono ?_; rintro e w' ⟨rfl, rfl⟩) | (go_at_call 126; refine hp.mono ?_; rintro e w' ⟨rfl, n, os, rfl⟩))
  go_end0
  exact ⟨rfl, n, os, rfl⟩
theorem sort106_nil (w : World) : Calls Try.prog 106 #[.slice none 0 0, .func (.func 107) #[] #[]] w fun e w' => e = .returned (.tuple #[]) ∧ Go.RowKit.Below w.heap.size w w' := by
  have e14 := Try.call126
  have e15 := Try.call119
  have hp := fun lim W => AnyF.pdqsortCmpFunc_none Try.pdq126 none 0 lim (.func (.func 107) #[] #[]) W
  have hl : ∀ W, Calls Try.prog 119 #[.int .u64 0] W fun e w' => e = .returned (.int .i64 (Lib.bitLen 0 : Nat)) ∧ w' = W := fun W => by
    have h := Any.bits_Len (SlLaysF0.n15.bits Try.bits119) 0 W (by omega) (by omega)
    exact h
  go_enter Try.func106, Try.ntmps106
  go_wp2_with (first | (go_at_call 119; refine (hl _).mono ?_; rintro e w' ⟨rfl, rfl⟩) | (go_at_call 126; refine (hp _ _).mono ?_; rintro e w' ⟨rfl, rfl⟩))
  go_end0
  exact ⟨rfl, Go.RowKit.Below.refl _ _⟩
theorem srt106_107 : SortLaw Try.prog 106 107 2 TRun.v ltRun := SortLaw.of swocf106 ltcf106 (fun _ => rfl) sort106_nil (fun blk off cap d w hH hblk hsz => sort106_eq blk off cap d w hH hblk hsz)
end Go.Proofs

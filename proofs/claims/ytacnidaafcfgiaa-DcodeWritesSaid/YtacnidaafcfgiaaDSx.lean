/- The laws of the program's sorts. -/
import Derived.Test.YtacnidaafcfgiaaDSrt
import Derived.Test.YtacnidaafcfgiaaDFc
import Derived.Test.YtacnidaafcfgiaaLt
import Derived.Test.YtacnidaafcfgiaaSl
import Derived.Shelf.SlSortCmp.NoneTotal
import Derived.StillTactics
import Derived.RegionTactic
namespace Go.Proofs
set_option linter.unusedSimpArgs false
set_option linter.unusedVariables false
open Go.Shelf Go.RowKit Go.Lib Go.Sort Go.Ep
theorem nanu16 (a : Int) (W : World) : Calls Try.prog 174 #[.int .u16 a] W fun e w' => e = .returned (.bool false) ∧ w' = W := by
  go_enter Try.func174, Try.ntmps174
  go_wp2
  go_ret
  exact ⟨by simp, rfl⟩
theorem cmpu16 (a b : Int) (W : World) : Calls Try.prog 146 #[.int .u16 a, .int .u16 b] W fun e w' => e = .returned (.int .i64 (Lib.compareInt a b)) ∧ w' = W := by
  unfold Lib.compareInt
  by_cases h1 : a < b
  · go_enter Try.func146, Try.ntmps146
    go_wp2_with (go_at_call 174; refine (nanu16 _ _).mono ?_; rintro e w' ⟨rfl, rfl⟩)
    go_ret
    exact ⟨by simp [h1], rfl⟩
  · by_cases h2 : b < a
    · go_enter Try.func146, Try.ntmps146
      go_wp2_with (go_at_call 174; refine (nanu16 _ _).mono ?_; rintro e w' ⟨rfl, rfl⟩)
      go_ret
      exact ⟨by simp [h1, h2], rfl⟩
    · go_enter Try.func146, Try.ntmps146
      go_wp2_with (go_at_call 174; refine (nanu16 _ _).mono ?_; rintro e w' ⟨rfl, rfl⟩)
      go_ret
      exact ⟨by simp [h1, h2], rfl⟩
theorem nanu64 (a : Int) (W : World) : Calls Try.prog 172 #[.int .u64 a] W fun e w' => e = .returned (.bool false) ∧ w' = W := by
  go_enter Try.func172, Try.ntmps172
  go_wp2
  go_ret
  exact ⟨by simp, rfl⟩
theorem cmpu64 (a b : Int) (W : World) : Calls Try.prog 143 #[.int .u64 a, .int .u64 b] W fun e w' => e = .returned (.int .i64 (Lib.compareInt a b)) ∧ w' = W := by
  unfold Lib.compareInt
  by_cases h1 : a < b
  · go_enter Try.func143, Try.ntmps143
    go_wp2_with (go_at_call 172; refine (nanu64 _ _).mono ?_; rintro e w' ⟨rfl, rfl⟩)
    go_ret
    exact ⟨by simp [h1], rfl⟩
  · by_cases h2 : b < a
    · go_enter Try.func143, Try.ntmps143
      go_wp2_with (go_at_call 172; refine (nanu64 _ _).mono ?_; rintro e w' ⟨rfl, rfl⟩)
      go_ret
      exact ⟨by simp [h1, h2], rfl⟩
    · go_enter Try.func143, Try.ntmps143
      go_wp2_with (go_at_call 172; refine (nanu64 _ _).mono ?_; rintro e w' ⟨rfl, rfl⟩)
      go_ret
      exact ⟨by simp [h1, h2], rfl⟩
def cf128 (x y : TDot) : Int := if Lib.compareInt x.dev y.dev ≠ 0 then Lib.compareInt x.dev y.dev else Lib.compareInt x.n y.n
theorem callcf128 (x y : TDot) (W : World) : Calls Try.prog 107 #[.agg #[.int .u16 x.dev, .int .u64 x.n], .agg #[.int .u16 y.dev, .int .u64 y.n]] W fun e w' => e = .returned (.int .i64 (cf128 x y)) ∧ ∃ q os', w' = grow (W.drewN q) os' := by
  have c1 := fun W' => cmpu16 x.dev y.dev W'
  have c2 := fun W' => cmpu64 x.n y.n W'
  unfold cf128
  generalize Lib.compareInt x.dev y.dev = r1 at c1 ⊢
  generalize Lib.compareInt x.n y.n = r2 at c2 ⊢
  by_cases h : r1 = 0
  · subst h
    go_enter Try.func107, Try.ntmps107
    go_wp2_with (first | (go_at_call 146; refine (c1 _).mono ?_; rintro e w' ⟨rfl, rfl⟩) | (go_at_call 143; refine (c2 _).mono ?_; rintro e w' ⟨rfl, rfl⟩))
    go_ret
    exact ⟨by simp, 0, _, by rw [alloc_eq_grow, alloc_eq_grow, grow_grow]; rfl⟩
  · go_enter Try.func107, Try.ntmps107
    go_wp2_with (first | (go_at_call 146; refine (c1 _).mono ?_; rintro e w' ⟨rfl, rfl⟩) | (go_at_call 143; refine (c2 _).mono ?_; rintro e w' ⟨rfl, rfl⟩))
    go_ret
    exact ⟨by simp [h], 0, _, by rw [alloc_eq_grow, alloc_eq_grow, grow_grow]; rfl⟩
theorem ltcf128 (x y : TDot) : ltOf cf128 x y = ltDot x y := by
  unfold ltOf cf128 Lib.compareInt ltDot
  rw [Bool.eq_iff_iff]
  simp only [decide_eq_true_eq, Bool.or_eq_true, Bool.and_eq_true]
  split <;> (repeat' split) <;> omega
theorem swocf128 : SWO (ltOf cf128) where
  irrefl x := by rw [ltcf128]; simp [ltDot]
  trans x y z h1 h2 := by rw [ltcf128] at *; simp [ltDot] at *; omega
  ntrans x y z h1 h2 := by rw [ltcf128] at *; simp [ltDot] at *; omega
instance inhcf128 : Inhabited TDot := ⟨⟨0, 0⟩⟩
theorem layscf128 (blk off size : Nat) (w : World) : CmpLays Try.prog 107 #[] TDot.v 2 cf128 blk off size w := fun _ _ _ _ x y => callcf128 x y _
set_option maxHeartbeats 2000000 in
set_option maxRecDepth 100000 in
theorem sort128_eq (blk off cap : Nat) (d : Array TDot) (w : World) (hH : HoldsK TDot.v 2 w blk off d) (hblk : blk < w.heap.size) (hsz : d.size < 4611686018427387904) :
    Calls Try.prog 128 #[.slice (some ⟨blk, off, none⟩) d.size cap, .func (.func 107) #[] #[]] w fun e w' => e = .returned (.tuple #[]) ∧ ∃ n os, w' = sortWorldK TDot.v 2 w blk off n (pdq (ltOf cf128) d 0 d.size (Lib.bitLen d.size) true true) os := by
  have eg : ∀ args w, (callFunc 107 args).run Try.prog w = .ok (.enter 107 args) w := Try.call107
  have e14 := Try.call163
  have e15 := Try.call164
  have hlim : Lib.bitLen d.size < 4611686018427387904 := Nat.lt_of_le_of_lt (Lib.bitLen_le d.size 62 (by omega) (by omega)) (by omega)
  have hp := AnyQ.pdqsortCmpFunc_all Try.pdq163 2 Try.isAgg38 Try.sizeOf38 TDot.v cf128 107 #[] swocf128 blk off cap d w eg (layscf128 blk off d.size w) ⟨fun _ => rfl, TDot.v1, hH, hblk⟩ (d.size + 1) 0 d.size (Lib.bitLen d.size) d w (by omega) rfl (SWK.start hH) (Nat.zero_le _) (Nat.le_refl _) hsz hlim (Or.inl rfl)
  change Calls Try.prog 163 _ _ _ at hp
  have hl : Calls Try.prog 164 #[.int .u64 (d.size : Int)] w fun e w' => e = .returned (.int .i64 (Lib.bitLen d.size : Nat)) ∧ w' = w := by
    have h := Any.bits_Len (SlLaysF0.n15.bits Try.bits164) (d.size : Int) w (by omega) (by omega)
    rwa [Int.toNat_natCast] at h
  have wr : IntKind.u64.wrap (d.size : Int) = d.size := by simp [IntKind.wrap, IntKind.bits, IntKind.signed]; omega
  clear hH
  go_enter Try.func128, Try.ntmps128
  go_wp2_with (first | (go_at_call 164; refine hl.mono ?_; rintro e w' ⟨rfl, rfl⟩) | (go_at_call 163; refine hp.mono ?_; rintro e w' ⟨rfl, n, os, rfl⟩))
  go_end0
  exact ⟨rfl, n, os, rfl⟩
theorem sort128_nil (w : World) : Calls Try.prog 128 #[.slice none 0 0, .func (.func 107) #[] #[]] w fun e w' => e = .returned (.tuple #[]) ∧ Go.RowKit.Below w.heap.size w w' := by
  have e14 := Try.call163
  have e15 := Try.call164
  have hp := fun lim W => AnyF.pdqsortCmpFunc_none Try.pdq163 none 0 lim (.func (.func 107) #[] #[]) W
  have hl : ∀ W, Calls Try.prog 164 #[.int .u64 0] W fun e w' => e = .returned (.int .i64 (Lib.bitLen 0 : Nat)) ∧ w' = W := fun W => by
    have h := Any.bits_Len (SlLaysF0.n15.bits Try.bits164) 0 W (by omega) (by omega)
    exact h
  go_enter Try.func128, Try.ntmps128
  go_wp2_with (first | (go_at_call 164; refine (hl _).mono ?_; rintro e w' ⟨rfl, rfl⟩) | (go_at_call 163; refine (hp _ _).mono ?_; rintro e w' ⟨rfl, rfl⟩))
  go_end0
  exact ⟨rfl, Go.RowKit.Below.refl _ _⟩
theorem srt128_107 : SortLaw Try.prog 128 107 2 TDot.v ltDot := SortLaw.of swocf128 ltcf128 (fun _ => rfl) sort128_nil (fun blk off cap d w hH hblk hsz => sort128_eq blk off cap d w hH hblk hsz)
structure RawTPart where
  dev_ : Int
  c1 : Value
  h1 : c1.oneCell' = true
def RawTPart.v (r : RawTPart) : List Value := [.int .u16 r.dev_, r.c1]
theorem RawTPart.v1 (r : RawTPart) : ∀ u ∈ r.v, u.oneCell' = true := by
  intro u hu
  simp only [RawTPart.v, List.mem_cons, List.not_mem_nil, or_false] at hu
  rcases hu with rfl | rfl
  · rfl
  · exact r.h1
def RawTPart.R (x : TPart) (r : RawTPart) : Prop := r.dev_ = x.dev
theorem RawTPart.raw (w : World) (S : Nat → Prop) (x : TPart) (us : List Value) (hl : us.length = 2) (h : ∀ (j : Nat) (d : DV) (u : Value), (TPart.e x)[j]? = some d → us[j]? = some u → DRd w S d u) : ∃ r : RawTPart, r.v = us ∧ RawTPart.R x r := by
  match us, hl with
  | [u0, u1], _ =>
    refine ⟨⟨x.dev, u1, (h 1 _ u1 rfl rfl).one⟩, ?_, rfl⟩
    have e0 := h 0 _ u0 rfl rfl
    cases e0
    rfl
def cf144 (x y : RawTPart) : Int := Lib.compareInt x.dev_ y.dev_
theorem callcf144 (x y : RawTPart) (W : World) : Calls Try.prog 145 #[.agg #[.int .u16 x.dev_, x.c1], .agg #[.int .u16 y.dev_, y.c1]] W fun e w' => e = .returned (.int .i64 (cf144 x y)) ∧ ∃ q os', w' = grow (W.drewN q) os' := by
  have c1 := fun W' => cmpu16 x.dev_ y.dev_ W'
  unfold cf144
  generalize Lib.compareInt x.dev_ y.dev_ = r1 at c1 ⊢
  go_enter Try.func145, Try.ntmps145
  go_wp2_with (go_at_call 146; refine (c1 _).mono ?_; rintro e w' ⟨rfl, rfl⟩)
  go_ret
  exact ⟨rfl, 0, _, by rw [alloc_eq_grow, alloc_eq_grow, grow_grow]; rfl⟩
theorem ltcf144 (x y : RawTPart) : ltOf cf144 x y = (fun x y : RawTPart => decide (x.dev_ < y.dev_)) x y := by
  unfold ltOf cf144 Lib.compareInt 
  rw [Bool.eq_iff_iff]
  simp only [decide_eq_true_eq, Bool.or_eq_true, Bool.and_eq_true]
  split <;> (repeat' split) <;> omega
theorem swocf144 : SWO (ltOf cf144) where
  irrefl x := by rw [ltcf144]; simp []
  trans x y z h1 h2 := by rw [ltcf144] at *; simp [] at *; omega
  ntrans x y z h1 h2 := by rw [ltcf144] at *; simp [] at *; omega
instance inhcf144 : Inhabited RawTPart := ⟨⟨0, .int .u64 0, rfl⟩⟩
theorem layscf144 (blk off size : Nat) (w : World) : CmpLays Try.prog 145 #[] RawTPart.v 2 cf144 blk off size w := fun _ _ _ _ x y => callcf144 x y _
set_option maxHeartbeats 2000000 in
set_option maxRecDepth 100000 in
theorem sort144_eq (blk off cap : Nat) (d : Array RawTPart) (w : World) (hH : HoldsK RawTPart.v 2 w blk off d) (hblk : blk < w.heap.size) (hsz : d.size < 4611686018427387904) :
    Calls Try.prog 144 #[.slice (some ⟨blk, off, none⟩) d.size cap, .func (.func 145) #[] #[]] w fun e w' => e = .returned (.tuple #[]) ∧ ∃ n os, w' = sortWorldK RawTPart.v 2 w blk off n (pdq (ltOf cf144) d 0 d.size (Lib.bitLen d.size) true true) os := by
  have eg : ∀ args w, (callFunc 145 args).run Try.prog w = .ok (.enter 145 args) w := Try.call145
  have e14 := Try.call173
  have e15 := Try.call164
  have hlim : Lib.bitLen d.size < 4611686018427387904 := Nat.lt_of_le_of_lt (Lib.bitLen_le d.size 62 (by omega) (by omega)) (by omega)
  have hp := AnyQ.pdqsortCmpFunc_all Try.pdq173 2 Try.isAgg101 Try.sizeOf101 RawTPart.v cf144 145 #[] swocf144 blk off cap d w eg (layscf144 blk off d.size w) ⟨fun _ => rfl, RawTPart.v1, hH, hblk⟩ (d.size + 1) 0 d.size (Lib.bitLen d.size) d w (by omega) rfl (SWK.start hH) (Nat.zero_le _) (Nat.le_refl _) hsz hlim (Or.inl rfl)
  change Calls Try.prog 173 _ _ _ at hp
  have hl : Calls Try.prog 164 #[.int .u64 (d.size : Int)] w fun e w' => e = .returned (.int .i64 (Lib.bitLen d.size : Nat)) ∧ w' = w := by
    have h := Any.bits_Len (SlLaysF0.n15.bits Try.bits164) (d.size : Int) w (by omega) (by omega)
    rwa [Int.toNat_natCast] at h
  have wr : IntKind.u64.wrap (d.size : Int) = d.size := by simp [IntKind.wrap, IntKind.bits, IntKind.signed]; omega
  clear hH
  go_enter Try.func144, Try.ntmps144
  go_wp2_with (first | (go_at_call 164; refine hl.mono ?_; rintro e w' ⟨rfl, rfl⟩) | (go_at_call 173; refine hp.mono ?_; rintro e w' ⟨rfl, n, os, rfl⟩))
  go_end0
  exact ⟨rfl, n, os, rfl⟩
theorem sort144_nil (w : World) : Calls Try.prog 144 #[.slice none 0 0, .func (.func 145) #[] #[]] w fun e w' => e = .returned (.tuple #[]) ∧ Go.RowKit.Below w.heap.size w w' := by
  have e14 := Try.call173
  have e15 := Try.call164
  have hp := fun lim W => AnyF.pdqsortCmpFunc_none Try.pdq173 none 0 lim (.func (.func 145) #[] #[]) W
  have hl : ∀ W, Calls Try.prog 164 #[.int .u64 0] W fun e w' => e = .returned (.int .i64 (Lib.bitLen 0 : Nat)) ∧ w' = W := fun W => by
    have h := Any.bits_Len (SlLaysF0.n15.bits Try.bits164) 0 W (by omega) (by omega)
    exact h
  go_enter Try.func144, Try.ntmps144
  go_wp2_with (first | (go_at_call 164; refine (hl _).mono ?_; rintro e w' ⟨rfl, rfl⟩) | (go_at_call 173; refine (hp _ _).mono ?_; rintro e w' ⟨rfl, rfl⟩))
  go_end0
  exact ⟨rfl, Go.RowKit.Below.refl _ _⟩
theorem srt144_145 : SortLaw Try.prog 144 145 2 RawTPart.v (fun x y : RawTPart => decide (x.dev_ < y.dev_)) := SortLaw.of swocf144 ltcf144 (fun _ => rfl) sort144_nil (fun blk off cap d w hH hblk hsz => sort144_eq blk off cap d w hH hblk hsz)
theorem rlt144 (x y : TPart) (r r' : RawTPart) (h1 : RawTPart.R x r) (h2 : RawTPart.R y r') : ((fun x y : RawTPart => decide (x.dev_ < y.dev_))) r r' = ltPart x y := by simp only [RawTPart.R] at h1 h2; simp [h1, h2, ltPart]
def cf169 (x y : TRun) : Int := Lib.compareInt x.lo y.lo
theorem callcf169 (x y : TRun) (W : World) : Calls Try.prog 170 #[.agg #[.int .u64 x.lo, .int .u64 x.hi], .agg #[.int .u64 y.lo, .int .u64 y.hi]] W fun e w' => e = .returned (.int .i64 (cf169 x y)) ∧ ∃ q os', w' = grow (W.drewN q) os' := by
  have c1 := fun W' => cmpu64 x.lo y.lo W'
  unfold cf169
  generalize Lib.compareInt x.lo y.lo = r1 at c1 ⊢
  go_enter Try.func170, Try.ntmps170
  go_wp2_with (go_at_call 143; refine (c1 _).mono ?_; rintro e w' ⟨rfl, rfl⟩)
  go_ret
  exact ⟨rfl, 0, _, by rw [alloc_eq_grow, alloc_eq_grow, grow_grow]; rfl⟩
theorem ltcf169 (x y : TRun) : ltOf cf169 x y = ltRun x y := by
  unfold ltOf cf169 Lib.compareInt ltRun
  rw [Bool.eq_iff_iff]
  simp only [decide_eq_true_eq, Bool.or_eq_true, Bool.and_eq_true]
  split <;> (repeat' split) <;> omega
theorem swocf169 : SWO (ltOf cf169) where
  irrefl x := by rw [ltcf169]; simp [ltRun]
  trans x y z h1 h2 := by rw [ltcf169] at *; simp [ltRun] at *; omega
  ntrans x y z h1 h2 := by rw [ltcf169] at *; simp [ltRun] at *; omega
instance inhcf169 : Inhabited TRun := ⟨⟨0, 0⟩⟩
theorem layscf169 (blk off size : Nat) (w : World) : CmpLays Try.prog 170 #[] TRun.v 2 cf169 blk off size w := fun _ _ _ _ x y => callcf169 x y _
set_option maxHeartbeats 2000000 in
set_option maxRecDepth 100000 in
theorem sort169_eq (blk off cap : Nat) (d : Array TRun) (w : World) (hH : HoldsK TRun.v 2 w blk off d) (hblk : blk < w.heap.size) (hsz : d.size < 4611686018427387904) :
    Calls Try.prog 169 #[.slice (some ⟨blk, off, none⟩) d.size cap, .func (.func 170) #[] #[]] w fun e w' => e = .returned (.tuple #[]) ∧ ∃ n os, w' = sortWorldK TRun.v 2 w blk off n (pdq (ltOf cf169) d 0 d.size (Lib.bitLen d.size) true true) os := by
  have eg : ∀ args w, (callFunc 170 args).run Try.prog w = .ok (.enter 170 args) w := Try.call170
  have e14 := Try.call187
  have e15 := Try.call164
  have hlim : Lib.bitLen d.size < 4611686018427387904 := Nat.lt_of_le_of_lt (Lib.bitLen_le d.size 62 (by omega) (by omega)) (by omega)
  have hp := AnyQ.pdqsortCmpFunc_all Try.pdq187 2 Try.isAgg114 Try.sizeOf114 TRun.v cf169 170 #[] swocf169 blk off cap d w eg (layscf169 blk off d.size w) ⟨fun _ => rfl, TRun.v1, hH, hblk⟩ (d.size + 1) 0 d.size (Lib.bitLen d.size) d w (by omega) rfl (SWK.start hH) (Nat.zero_le _) (Nat.le_refl _) hsz hlim (Or.inl rfl)
  change Calls Try.prog 187 _ _ _ at hp
  have hl : Calls Try.prog 164 #[.int .u64 (d.size : Int)] w fun e w' => e = .returned (.int .i64 (Lib.bitLen d.size : Nat)) ∧ w' = w := by
    have h := Any.bits_Len (SlLaysF0.n15.bits Try.bits164) (d.size : Int) w (by omega) (by omega)
    rwa [Int.toNat_natCast] at h
  have wr : IntKind.u64.wrap (d.size : Int) = d.size := by simp [IntKind.wrap, IntKind.bits, IntKind.signed]; omega
  clear hH
  go_enter Try.func169, Try.ntmps169
  go_wp2_with (first | (go_at_call 164; refine hl.mono ?_; rintro e w' ⟨rfl, rfl⟩) | (go_at_call 187; refine hp.mono ?_; rintro e w' ⟨rfl, n, os, rfl⟩))
  go_end0
  exact ⟨rfl, n, os, rfl⟩
theorem sort169_nil (w : World) : Calls Try.prog 169 #[.slice none 0 0, .func (.func 170) #[] #[]] w fun e w' => e = .returned (.tuple #[]) ∧ Go.RowKit.Below w.heap.size w w' := by
  have e14 := Try.call187
  have e15 := Try.call164
  have hp := fun lim W => AnyF.pdqsortCmpFunc_none Try.pdq187 none 0 lim (.func (.func 170) #[] #[]) W
  have hl : ∀ W, Calls Try.prog 164 #[.int .u64 0] W fun e w' => e = .returned (.int .i64 (Lib.bitLen 0 : Nat)) ∧ w' = W := fun W => by
    have h := Any.bits_Len (SlLaysF0.n15.bits Try.bits164) 0 W (by omega) (by omega)
    exact h
  go_enter Try.func169, Try.ntmps169
  go_wp2_with (first | (go_at_call 164; refine (hl _).mono ?_; rintro e w' ⟨rfl, rfl⟩) | (go_at_call 187; refine (hp _ _).mono ?_; rintro e w' ⟨rfl, rfl⟩))
  go_end0
  exact ⟨rfl, Go.RowKit.Below.refl _ _⟩
theorem srt169_170 : SortLaw Try.prog 169 170 2 TRun.v ltRun := SortLaw.of swocf169 ltcf169 (fun _ => rfl) sort169_nil (fun blk off cap d w hH hblk hsz => sort169_eq blk off cap d w hH hblk hsz)
end Go.Proofs

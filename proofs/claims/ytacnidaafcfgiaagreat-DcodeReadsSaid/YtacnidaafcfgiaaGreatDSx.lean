/- The laws of the program's sorts. -/
import Derived.Test.YtacnidaafcfgiaaGreatDSrt
import Derived.Test.YtacnidaafcfgiaaGreatDFc
import Derived.Test.YtacnidaafcfgiaaGreatLt
import Derived.Test.YtacnidaafcfgiaaGreatSl
import Derived.Shelf.SlSortCmp.NoneTotal
import Derived.StillTactics
import Derived.RegionTactic
namespace Go.Proofs
set_option linter.unusedSimpArgs false
set_option linter.unusedVariables false
open Go.Shelf Go.RowKit Go.Lib Go.Sort Go.Ep
theorem nanu16 (a : Int) (W : World) : Calls Tryz.prog 129 #[.int .u16 a] W fun e w' => e = .returned (.bool false) ∧ w' = W := by
  go_enter Tryz.func129, Tryz.ntmps129
  go_wp2
  go_ret
  exact ⟨by simp, rfl⟩
theorem cmpu16 (a b : Int) (W : World) : Calls Tryz.prog 104 #[.int .u16 a, .int .u16 b] W fun e w' => e = .returned (.int .i64 (Lib.compareInt a b)) ∧ w' = W := by
  unfold Lib.compareInt
  by_cases h1 : a < b
  · go_enter Tryz.func104, Tryz.ntmps104
    go_wp2_with (go_at_call 129; refine (nanu16 _ _).mono ?_; rintro e w' ⟨rfl, rfl⟩)
    go_ret
    exact ⟨by simp [h1], rfl⟩
  · by_cases h2 : b < a
    · go_enter Tryz.func104, Tryz.ntmps104
      go_wp2_with (go_at_call 129; refine (nanu16 _ _).mono ?_; rintro e w' ⟨rfl, rfl⟩)
      go_ret
      exact ⟨by simp [h1, h2], rfl⟩
    · go_enter Tryz.func104, Tryz.ntmps104
      go_wp2_with (go_at_call 129; refine (nanu16 _ _).mono ?_; rintro e w' ⟨rfl, rfl⟩)
      go_ret
      exact ⟨by simp [h1, h2], rfl⟩
theorem nanu64 (a : Int) (W : World) : Calls Tryz.prog 131 #[.int .u64 a] W fun e w' => e = .returned (.bool false) ∧ w' = W := by
  go_enter Tryz.func131, Tryz.ntmps131
  go_wp2
  go_ret
  exact ⟨by simp, rfl⟩
theorem cmpu64 (a b : Int) (W : World) : Calls Tryz.prog 107 #[.int .u64 a, .int .u64 b] W fun e w' => e = .returned (.int .i64 (Lib.compareInt a b)) ∧ w' = W := by
  unfold Lib.compareInt
  by_cases h1 : a < b
  · go_enter Tryz.func107, Tryz.ntmps107
    go_wp2_with (go_at_call 131; refine (nanu64 _ _).mono ?_; rintro e w' ⟨rfl, rfl⟩)
    go_ret
    exact ⟨by simp [h1], rfl⟩
  · by_cases h2 : b < a
    · go_enter Tryz.func107, Tryz.ntmps107
      go_wp2_with (go_at_call 131; refine (nanu64 _ _).mono ?_; rintro e w' ⟨rfl, rfl⟩)
      go_ret
      exact ⟨by simp [h1, h2], rfl⟩
    · go_enter Tryz.func107, Tryz.ntmps107
      go_wp2_with (go_at_call 131; refine (nanu64 _ _).mono ?_; rintro e w' ⟨rfl, rfl⟩)
      go_ret
      exact ⟨by simp [h1, h2], rfl⟩
structure RawTPart where
  dev_ : Int
  c1 : Value
  h1 : c1.oneCell' = true
def RawTPart.v (r : RawTPart) : List Value := [.int .u16 r.dev_, r.c1]
theorem RawTPart.v1 (r : RawTPart) : ∀ u ∈ r.v, u.oneCell' = true := by
  intro u hu
  simp only [RawTPart.v, List.mem_cons, List.not_mem_nil, or_false] at hu
  rcases hu with rfl | rfl
  · rfl
  · exact r.h1
def RawTPart.R (x : TPart) (r : RawTPart) : Prop := r.dev_ = x.dev
theorem RawTPart.raw (w : World) (S : Nat → Prop) (x : TPart) (us : List Value) (hl : us.length = 2) (h : ∀ (j : Nat) (d : DV) (u : Value), (TPart.e x)[j]? = some d → us[j]? = some u → DRd w S d u) : ∃ r : RawTPart, r.v = us ∧ RawTPart.R x r := by
  match us, hl with
  | [u0, u1], _ =>
    refine ⟨⟨x.dev, u1, (h 1 _ u1 rfl rfl).one⟩, ?_, rfl⟩
    have e0 := h 0 _ u0 rfl rfl
    cases e0
    rfl
def cf102 (x y : RawTPart) : Int := Lib.compareInt x.dev_ y.dev_
theorem callcf102 (x y : RawTPart) (W : World) : Calls Tryz.prog 103 #[.agg #[.int .u16 x.dev_, x.c1], .agg #[.int .u16 y.dev_, y.c1]] W fun e w' => e = .returned (.int .i64 (cf102 x y)) ∧ ∃ q os', w' = grow (W.drewN q) os' := by
  have c1 := fun W' => cmpu16 x.dev_ y.dev_ W'
  unfold cf102
  generalize Lib.compareInt x.dev_ y.dev_ = r1 at c1 ⊢
  go_enter Tryz.func103, Tryz.ntmps103
  go_wp2_with (go_at_call 104; refine (c1 _).mono ?_; rintro e w' ⟨rfl, rfl⟩)
  go_ret
  exact ⟨rfl, 0, _, by rw [alloc_eq_grow, alloc_eq_grow, grow_grow]; rfl⟩
theorem ltcf102 (x y : RawTPart) : ltOf cf102 x y = (fun x y : RawTPart => decide (x.dev_ < y.dev_)) x y := by
  unfold ltOf cf102 Lib.compareInt 
  rw [Bool.eq_iff_iff]
  simp only [decide_eq_true_eq, Bool.or_eq_true, Bool.and_eq_true]
  split <;> (repeat' split) <;> omega
theorem swocf102 : SWO (ltOf cf102) where
  irrefl x := by rw [ltcf102]; simp []
  trans x y z h1 h2 := by rw [ltcf102] at *; simp [] at *; omega
  ntrans x y z h1 h2 := by rw [ltcf102] at *; simp [] at *; omega
instance inhcf102 : Inhabited RawTPart := ⟨⟨0, .int .u64 0, rfl⟩⟩
theorem layscf102 (blk off size : Nat) (w : World) : CmpLays Tryz.prog 103 #[] RawTPart.v 2 cf102 blk off size w := fun _ _ _ _ x y => callcf102 x y _
set_option maxHeartbeats 2000000 in
set_option maxRecDepth 100000 in
theorem sort102_eq (blk off cap : Nat) (d : Array RawTPart) (w : World) (hH : HoldsK RawTPart.v 2 w blk off d) (hblk : blk < w.heap.size) (hsz : d.size < 4611686018427387904) :
    Calls Tryz.prog 102 #[.slice (some ⟨blk, off, none⟩) d.size cap, .func (.func 103) #[] #[]] w fun e w' => e = .returned (.tuple #[]) ∧ ∃ n os, w' = sortWorldK RawTPart.v 2 w blk off n (pdq (ltOf cf102) d 0 d.size (Lib.bitLen d.size) true true) os := by
  have eg : ∀ args w, (callFunc 103 args).run Tryz.prog w = .ok (.enter 103 args) w := Tryz.call103
  have e14 := Tryz.call127
  have e15 := Tryz.call128
  have hlim : Lib.bitLen d.size < 4611686018427387904 := Nat.lt_of_le_of_lt (Lib.bitLen_le d.size 62 (by omega) (by omega)) (by omega)
  have hp := AnyQ.pdqsortCmpFunc_all Tryz.pdq127 2 Tryz.isAgg80 Tryz.sizeOf80 RawTPart.v cf102 103 #[] swocf102 blk off cap d w eg (layscf102 blk off d.size w) ⟨fun _ => rfl, RawTPart.v1, hH, hblk⟩ (d.size + 1) 0 d.size (Lib.bitLen d.size) d w (by omega) rfl (SWK.start hH) (Nat.zero_le _) (Nat.le_refl _) hsz hlim (Or.inl rfl)
  change Calls Tryz.prog 127 _ _ _ at hp
  have hl : Calls Tryz.prog 128 #[.int .u64 (d.size : Int)] w fun e w' => e = .returned (.int .i64 (Lib.bitLen d.size : Nat)) ∧ w' = w := by
    have h := Any.bits_Len (SlLaysF0.n15.bits Tryz.bits128) (d.size : Int) w (by omega) (by omega)
    rwa [Int.toNat_natCast] at h
  have wr : IntKind.u64.wrap (d.size : Int) = d.size := by simp [IntKind.wrap, IntKind.bits, IntKind.signed]; omega
  clear hH
  go_enter Tryz.func102, Tryz.ntmps102
  go_wp2_with (first | (go_at_call 128; refine hl.mono ?_; rintro e w' ⟨rfl, rfl⟩) | (go_at_call 127; refine hp.mono ?_; rintro e w' ⟨rfl, n, os, rfl⟩))
  go_end0
  exact ⟨rfl, n, os, rfl⟩
theorem sort102_nil (w : World) : Calls Tryz.prog 102 #[.slice none 0 0, .func (.func 103) #[] #[]] w fun e w' => e = .returned (.tuple #[]) ∧ Go.RowKit.Below w.heap.size w w' := by
  have e14 := Tryz.call127
  have e15 := Tryz.call128
  have hp := fun lim W => AnyF.pdqsortCmpFunc_none Tryz.pdq127 none 0 lim (.func (.func 103) #[] #[]) W
  have hl : ∀ W, Calls Tryz.prog 128 #[.int .u64 0] W fun e w' => e = .returned (.int .i64 (Lib.bitLen 0 : Nat)) ∧ w' = W := fun W => by
    have h := Any.bits_Len (SlLaysF0.n15.bits Tryz.bits128) 0 W (by omega) (by omega)
    exact h
  go_enter Tryz.func102, Tryz.ntmps102
  go_wp2_with (first | (go_at_call 128; refine (hl _).mono ?_; rintro e w' ⟨rfl, rfl⟩) | (go_at_call 127; refine (hp _ _).mono ?_; rintro e w' ⟨rfl, rfl⟩))
  go_end0
  exact ⟨rfl, Go.RowKit.Below.refl _ _⟩
theorem srt102_103 : SortLaw Tryz.prog 102 103 2 RawTPart.v (fun x y : RawTPart => decide (x.dev_ < y.dev_)) := SortLaw.of swocf102 ltcf102 (fun _ => rfl) sort102_nil (fun blk off cap d w hH hblk hsz => sort102_eq blk off cap d w hH hblk hsz)
theorem rlt102 (x y : TPart) (r r' : RawTPart) (h1 : RawTPart.R x r) (h2 : RawTPart.R y r') : ((fun x y : RawTPart => decide (x.dev_ < y.dev_))) r r' = ltPart x y := by simp only [RawTPart.R] at h1 h2; simp [h1, h2, ltPart]
def cf105 (x y : TRun) : Int := Lib.compareInt x.lo y.lo
theorem callcf105 (x y : TRun) (W : World) : Calls Tryz.prog 106 #[.agg #[.int .u64 x.lo, .int .u64 x.hi], .agg #[.int .u64 y.lo, .int .u64 y.hi]] W fun e w' => e = .returned (.int .i64 (cf105 x y)) ∧ ∃ q os', w' = grow (W.drewN q) os' := by
  have c1 := fun W' => cmpu64 x.lo y.lo W'
  unfold cf105
  generalize Lib.compareInt x.lo y.lo = r1 at c1 ⊢
  go_enter Tryz.func106, Tryz.ntmps106
  go_wp2_with (go_at_call 107; refine (c1 _).mono ?_; rintro e w' ⟨rfl, rfl⟩)
  go_ret
  exact ⟨rfl, 0, _, by rw [alloc_eq_grow, alloc_eq_grow, grow_grow]; rfl⟩
theorem ltcf105 (x y : TRun) : ltOf cf105 x y = ltRun x y := by
  unfold ltOf cf105 Lib.compareInt ltRun
  rw [Bool.eq_iff_iff]
  simp only [decide_eq_true_eq, Bool.or_eq_true, Bool.and_eq_true]
  split <;> (repeat' split) <;> omega
theorem swocf105 : SWO (ltOf cf105) where
  irrefl x := by rw [ltcf105]; simp [ltRun]
  trans x y z h1 h2 := by rw [ltcf105] at *; simp [ltRun] at *; omega
  ntrans x y z h1 h2 := by rw [ltcf105] at *; simp [ltRun] at *; omega
instance inhcf105 : Inhabited TRun := ⟨⟨0, 0⟩⟩
theorem layscf105 (blk off size : Nat) (w : World) : CmpLays Tryz.prog 106 #[] TRun.v 2 cf105 blk off size w := fun _ _ _ _ x y => callcf105 x y _
set_option maxHeartbeats 2000000 in
set_option maxRecDepth 100000 in
theorem sort105_eq (blk off cap : Nat) (d : Array TRun) (w : World) (hH : HoldsK TRun.v 2 w blk off d) (hblk : blk < w.heap.size) (hsz : d.size < 4611686018427387904) :
    Calls Tryz.prog 105 #[.slice (some ⟨blk, off, none⟩) d.size cap, .func (.func 106) #[] #[]] w fun e w' => e = .returned (.tuple #[]) ∧ ∃ n os, w' = sortWorldK TRun.v 2 w blk off n (pdq (ltOf cf105) d 0 d.size (Lib.bitLen d.size) true true) os := by
  have eg : ∀ args w, (callFunc 106 args).run Tryz.prog w = .ok (.enter 106 args) w := Tryz.call106
  have e14 := Tryz.call130
  have e15 := Tryz.call128
  have hlim : Lib.bitLen d.size < 4611686018427387904 := Nat.lt_of_le_of_lt (Lib.bitLen_le d.size 62 (by omega) (by omega)) (by omega)
  have hp := AnyQ.pdqsortCmpFunc_all Tryz.pdq130 2 Tryz.isAgg89 Tryz.sizeOf89 TRun.v cf105 106 #[] swocf105 blk off cap d w eg (layscf105 blk off d.size w) ⟨fun _ => rfl, TRun.v1, hH, hblk⟩ (d.size + 1) 0 d.size (Lib.bitLen d.size) d w (by omega) rfl (SWK.start hH) (Nat.zero_le _) (Nat.le_refl _) hsz hlim (Or.inl rfl)
  change Calls Tryz.prog 130 _ _ _ at hp
  have hl : Calls Tryz.prog 128 #[.int .u64 (d.size : Int)] w fun e w' => e = .returned (.int .i64 (Lib.bitLen d.size : Nat)) ∧ w' = w := by
    have h := Any.bits_Len (SlLaysF0.n15.bits Tryz.bits128) (d.size : Int) w (by omega) (by omega)
    rwa [Int.toNat_natCast] at h
  have wr : IntKind.u64.wrap (d.size : Int) = d.size := by simp [IntKind.wrap, IntKind.bits, IntKind.signed]; omega
  clear hH
  go_enter Tryz.func105, Tryz.ntmps105
  go_wp2_with (first | (go_at_call 128; refine hl.mono ?_; rintro e w' ⟨rfl, rfl⟩) | (go_at_call 130; refine hp.mono ?_; rintro e w' ⟨rfl, n, os, rfl⟩))
  go_end0
  exact ⟨rfl, n, os, rfl⟩
theorem sort105_nil (w : World) : Calls Tryz.prog 105 #[.slice none 0 0, .func (.func 106) #[] #[]] w fun e w' => e = .returned (.tuple #[]) ∧ Go.RowKit.Below w.heap.size w w' := by
  have e14 := Tryz.call130
  have e15 := Tryz.call128
  have hp := fun lim W => AnyF.pdqsortCmpFunc_none Tryz.pdq130 none 0 lim (.func (.func 106) #[] #[]) W
  have hl : ∀ W, Calls Tryz.prog 128 #[.int .u64 0] W fun e w' => e = .returned (.int .i64 (Lib.bitLen 0 : Nat)) ∧ w' = W := fun W => by
    have h := Any.bits_Len (SlLaysF0.n15.bits Tryz.bits128) 0 W (by omega) (by omega)
    exact h
  go_enter Tryz.func105, Tryz.ntmps105
  go_wp2_with (first | (go_at_call 128; refine (hl _).mono ?_; rintro e w' ⟨rfl, rfl⟩) | (go_at_call 130; refine (hp _ _).mono ?_; rintro e w' ⟨rfl, rfl⟩))
  go_end0
  exact ⟨rfl, Go.RowKit.Below.refl _ _⟩
theorem srt105_106 : SortLaw Tryz.prog 105 106 2 TRun.v ltRun := SortLaw.of swocf105 ltcf105 (fun _ => rfl) sort105_nil (fun blk off cap d w hH hblk hsz => sort105_eq blk off cap d w hH hblk hsz)
def cf124 (x y : TDot) : Int := if Lib.compareInt x.dev y.dev ≠ 0 then Lib.compareInt x.dev y.dev else Lib.compareInt x.n y.n
theorem callcf124 (x y : TDot) (W : World) : Calls Tryz.prog 87 #[.agg #[.int .u16 x.dev, .int .u64 x.n], .agg #[.int .u16 y.dev, .int .u64 y.n]] W fun e w' => e = .returned (.int .i64 (cf124 x y)) ∧ ∃ q os', w' = grow (W.drewN q) os' := by
  have c1 := fun W' => cmpu16 x.dev y.dev W'
  have c2 := fun W' => cmpu64 x.n y.n W'
  unfold cf124
  generalize Lib.compareInt x.dev y.dev = r1 at c1 ⊢
  generalize Lib.compareInt x.n y.n = r2 at c2 ⊢
  by_cases h : r1 = 0
  · subst h
    go_enter Tryz.func87, Tryz.ntmps87
    go_wp2_with (first | (go_at_call 104; refine (c1 _).mono ?_; rintro e w' ⟨rfl, rfl⟩) | (go_at_call 107; refine (c2 _).mono ?_; rintro e w' ⟨rfl, rfl⟩))
    go_ret
    exact ⟨by simp, 0, _, by rw [alloc_eq_grow, alloc_eq_grow, grow_grow]; rfl⟩
  · go_enter Tryz.func87, Tryz.ntmps87
    go_wp2_with (first | (go_at_call 104; refine (c1 _).mono ?_; rintro e w' ⟨rfl, rfl⟩) | (go_at_call 107; refine (c2 _).mono ?_; rintro e w' ⟨rfl, rfl⟩))
    go_ret
    exact ⟨by simp [h], 0, _, by rw [alloc_eq_grow, alloc_eq_grow, grow_grow]; rfl⟩
theorem ltcf124 (x y : TDot) : ltOf cf124 x y = ltDot x y := by
  unfold ltOf cf124 Lib.compareInt ltDot
  rw [Bool.eq_iff_iff]
  simp only [decide_eq_true_eq, Bool.or_eq_true, Bool.and_eq_true]
  split <;> (repeat' split) <;> omega
theorem swocf124 : SWO (ltOf cf124) where
  irrefl x := by rw [ltcf124]; simp [ltDot]
  trans x y z h1 h2 := by rw [ltcf124] at *; simp [ltDot] at *; omega
  ntrans x y z h1 h2 := by rw [ltcf124] at *; simp [ltDot] at *; omega
instance inhcf124 : Inhabited TDot := ⟨⟨0, 0⟩⟩
theorem layscf124 (blk off size : Nat) (w : World) : CmpLays Tryz.prog 87 #[] TDot.v 2 cf124 blk off size w := fun _ _ _ _ x y => callcf124 x y _
set_option maxHeartbeats 2000000 in
set_option maxRecDepth 100000 in
theorem sort124_eq (blk off cap : Nat) (d : Array TDot) (w : World) (hH : HoldsK TDot.v 2 w blk off d) (hblk : blk < w.heap.size) (hsz : d.size < 4611686018427387904) :
    Calls Tryz.prog 124 #[.slice (some ⟨blk, off, none⟩) d.size cap, .func (.func 87) #[] #[]] w fun e w' => e = .returned (.tuple #[]) ∧ ∃ n os, w' = sortWorldK TDot.v 2 w blk off n (pdq (ltOf cf124) d 0 d.size (Lib.bitLen d.size) true true) os := by
  have eg : ∀ args w, (callFunc 87 args).run Tryz.prog w = .ok (.enter 87 args) w := Tryz.call87
  have e14 := Tryz.call139
  have e15 := Tryz.call128
  have hlim : Lib.bitLen d.size < 4611686018427387904 := Nat.lt_of_le_of_lt (Lib.bitLen_le d.size 62 (by omega) (by omega)) (by omega)
  have hp := AnyQ.pdqsortCmpFunc_all Tryz.pdq139 2 Tryz.isAgg32 Tryz.sizeOf32 TDot.v cf124 87 #[] swocf124 blk off cap d w eg (layscf124 blk off d.size w) ⟨fun _ => rfl, TDot.v1, hH, hblk⟩ (d.size + 1) 0 d.size (Lib.bitLen d.size) d w (by omega) rfl (SWK.start hH) (Nat.zero_le _) (Nat.le_refl _) hsz hlim (Or.inl rfl)
  change Calls Tryz.prog 139 _ _ _ at hp
  have hl : Calls Tryz.prog 128 #[.int .u64 (d.size : Int)] w fun e w' => e = .returned (.int .i64 (Lib.bitLen d.size : Nat)) ∧ w' = w := by
    have h := Any.bits_Len (SlLaysF0.n15.bits Tryz.bits128) (d.size : Int) w (by omega) (by omega)
    rwa [Int.toNat_natCast] at h
  have wr : IntKind.u64.wrap (d.size : Int) = d.size := by simp [IntKind.wrap, IntKind.bits, IntKind.signed]; omega
  clear hH
  go_enter Tryz.func124, Tryz.ntmps124
  go_wp2_with (first | (go_at_call 128; refine hl.mono ?_; rintro e w' ⟨rfl, rfl⟩) | (go_at_call 139; refine hp.mono ?_; rintro e w' ⟨rfl, n, os, rfl⟩))
  go_end0
  exact ⟨rfl, n, os, rfl⟩
theorem sort124_nil (w : World) : Calls Tryz.prog 124 #[.slice none 0 0, .func (.func 87) #[] #[]] w fun e w' => e = .returned (.tuple #[]) ∧ Go.RowKit.Below w.heap.size w w' := by
  have e14 := Tryz.call139
  have e15 := Tryz.call128
  have hp := fun lim W => AnyF.pdqsortCmpFunc_none Tryz.pdq139 none 0 lim (.func (.func 87) #[] #[]) W
  have hl : ∀ W, Calls Tryz.prog 128 #[.int .u64 0] W fun e w' => e = .returned (.int .i64 (Lib.bitLen 0 : Nat)) ∧ w' = W := fun W => by
    have h := Any.bits_Len (SlLaysF0.n15.bits Tryz.bits128) 0 W (by omega) (by omega)
    exact h
  go_enter Tryz.func124, Tryz.ntmps124
  go_wp2_with (first | (go_at_call 128; refine (hl _).mono ?_; rintro e w' ⟨rfl, rfl⟩) | (go_at_call 139; refine (hp _ _).mono ?_; rintro e w' ⟨rfl, rfl⟩))
  go_end0
  exact ⟨rfl, Go.RowKit.Below.refl _ _⟩
theorem srt124_87 : SortLaw Tryz.prog 124 87 2 TDot.v ltDot := SortLaw.of swocf124 ltcf124 (fun _ => rfl) sort124_nil (fun blk off cap d w hH hblk hsz => sort124_eq blk off cap d w hH hblk hsz)
end Go.Proofs

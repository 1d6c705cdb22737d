/- Facts of the program that the walks use. -/
import Derived.Test.YtacnidaafcfgiaaProg
import Derived.Test.YtacnidaafcfgiaaTe
import Derived.KernelRfl
namespace Go.Proofs
open Go.Ep
set_option linter.unusedSimpArgs false

theorem elem22 : ElemOK Try.prog 22 41 7 80 := ElemOK.mk' (z := .agg #[.int .u16 0, .int .u64 0, .int .u8 0, .int .u64 0, .int .u8 0, .string ⟨#[]⟩, .slice none 0 0]) Try.underlying22 (by kernel_rfl) rfl
theorem elem24 : ElemOK Try.prog 24 101 2 32 := ElemOK.mk' (z := .agg #[.int .u16 0, .slice none 0 0]) Try.underlying24 (by kernel_rfl) rfl
theorem elem34 : ElemOK Try.prog 34 114 2 16 := ElemOK.mk' (z := .agg #[.int .u64 0, .int .u64 0]) Try.underlying34 (by kernel_rfl) rfl
theorem elem39 : ElemOK Try.prog 39 38 2 16 := ElemOK.mk' (z := .agg #[.int .u16 0, .int .u64 0]) Try.underlying39 (by kernel_rfl) rfl
theorem elem45 : ElemOK Try.prog 45 5 1 1 := ElemOK.mk' (z := .int .u8 0) Try.underlying45 (by kernel_rfl) rfl
theorem elem180 : ElemOK Try.prog 180 36 1 8 := ElemOK.mk' (z := .int .u64 0) Try.underlying180 (by kernel_rfl) rfl
theorem build38 : BuildOK Try.prog 38 [(0, 1), (1, 1)] [.int .u16 0, .int .u64 0] := fun parts => by kernel_rfl
theorem build41 : BuildOK Try.prog 41 [(0, 2), (2, 1), (3, 1), (4, 1), (5, 1), (6, 1)] [.int .u16 0, .int .u64 0, .int .u8 0, .int .u64 0, .int .u8 0, .string ⟨#[]⟩, .slice none 0 0] := fun parts => by kernel_rfl
theorem build85 : BuildOK Try.prog 85 [(0, 1), (1, 1), (2, 1)] [.slice none 0 0, .int .i64 0, .int .i64 0] := fun parts => by kernel_rfl
theorem build101 : BuildOK Try.prog 101 [(0, 1), (1, 1)] [.int .u16 0, .slice none 0 0] := fun parts => by kernel_rfl
theorem build114 : BuildOK Try.prog 114 [(0, 1), (1, 1)] [.int .u64 0, .int .u64 0] := fun parts => by kernel_rfl
theorem build131 : BuildOK Try.prog 131 [(0, 1)] [.slice none 0 0] := fun parts => by kernel_rfl
theorem build133 : BuildOK Try.prog 133 [(0, 1), (1, 1)] [.slice none 0 0, .int .i64 0] := fun parts => by kernel_rfl
theorem key126 : KeyOK Try.prog 28 [.u16] := KeyOK.int Try.underlying28
theorem eq38 {a0 b0 : Int} {a1 b1 : Int} : AggEq Try.prog 38 [.int .u16 a0, .int .u64 a1] [.int .u16 b0, .int .u64 b1] ((decide (a0 = b0) && decide (a1 = b1))) := by
  refine ⟨by kernel_rfl, fun w => ?_⟩
  have hu : Try.prog.underlying 38 = some (.struct (Try.prog.fieldsOf 38)) := by simp only [Program.fieldsOf, Try.underlying38]
  rw [run_equalIn_agg w 9999 38 _ _ hu (by kernel_rfl)]
  simp [Program.fieldsOf, Try.underlying38, Op.eqFields, part, Try.isAgg28, Try.isAgg36, run_equalIn_int _ 9998 28 _ _ _ _ Try.underlying28, run_equalIn_int _ 9998 36 _ _ _ _ Try.underlying36, Result.andThen, beq_bytes]
  all_goals (repeat' split) <;> simp_all
theorem eq114 {a0 b0 : Int} {a1 b1 : Int} : AggEq Try.prog 114 [.int .u64 a0, .int .u64 a1] [.int .u64 b0, .int .u64 b1] ((decide (a0 = b0) && decide (a1 = b1))) := by
  refine ⟨by kernel_rfl, fun w => ?_⟩
  have hu : Try.prog.underlying 114 = some (.struct (Try.prog.fieldsOf 114)) := by simp only [Program.fieldsOf, Try.underlying114]
  rw [run_equalIn_agg w 9999 114 _ _ hu (by kernel_rfl)]
  simp [Program.fieldsOf, Try.underlying114, Op.eqFields, part, Try.isAgg36, run_equalIn_int _ 9998 36 _ _ _ _ Try.underlying36, Result.andThen, beq_bytes]
  all_goals (repeat' split) <;> simp_all
end Go.Proofs

/- Facts of the program that the walks use. -/
import Derived.Test.YtacnidaafcfgiaaGreatProg
import Derived.Test.YtacnidaafcfgiaaGreatTe
import Derived.KernelRfl
namespace Go.Proofs
open Go.Ep
set_option linter.unusedSimpArgs false

theorem elem23 : ElemOK Tryz.prog 23 80 2 32 := ElemOK.mk' (z := .agg #[.int .u16 0, .slice none 0 0]) Tryz.underlying23 (by kernel_rfl) rfl
theorem elem28 : ElemOK Tryz.prog 28 32 2 16 := ElemOK.mk' (z := .agg #[.int .u16 0, .int .u64 0]) Tryz.underlying28 (by kernel_rfl) rfl
theorem elem37 : ElemOK Tryz.prog 37 89 2 16 := ElemOK.mk' (z := .agg #[.int .u64 0, .int .u64 0]) Tryz.underlying37 (by kernel_rfl) rfl
theorem elem48 : ElemOK Tryz.prog 48 5 1 1 := ElemOK.mk' (z := .int .u8 0) Tryz.underlying48 (by kernel_rfl) rfl
theorem elem144 : ElemOK Tryz.prog 144 30 1 8 := ElemOK.mk' (z := .int .u64 0) Tryz.underlying144 (by kernel_rfl) rfl
theorem build32 : BuildOK Tryz.prog 32 [(0, 1), (1, 1)] [.int .u16 0, .int .u64 0] := fun parts => by kernel_rfl
theorem build53 : BuildOK Tryz.prog 53 [(0, 1), (1, 1), (2, 1)] [.slice none 0 0, .int .i64 0, .int .i64 0] := fun parts => by kernel_rfl
theorem build80 : BuildOK Tryz.prog 80 [(0, 1), (1, 1)] [.int .u16 0, .slice none 0 0] := fun parts => by kernel_rfl
theorem build89 : BuildOK Tryz.prog 89 [(0, 1), (1, 1)] [.int .u64 0, .int .u64 0] := fun parts => by kernel_rfl
theorem build95 : BuildOK Tryz.prog 95 [(0, 1)] [.slice none 0 0] := fun parts => by kernel_rfl
theorem build97 : BuildOK Tryz.prog 97 [(0, 1), (1, 1)] [.slice none 0 0, .int .i64 0] := fun parts => by kernel_rfl
theorem key86 : KeyOK Tryz.prog 29 [.u16] := KeyOK.int Tryz.underlying29
theorem eq32 {a0 b0 : Int} {a1 b1 : Int} : AggEq Tryz.prog 32 [.int .u16 a0, .int .u64 a1] [.int .u16 b0, .int .u64 b1] ((decide (a0 = b0) && decide (a1 = b1))) := by
  refine ⟨by kernel_rfl, fun w => ?_⟩
  have hu : Tryz.prog.underlying 32 = some (.struct (Tryz.prog.fieldsOf 32)) := by simp only [Program.fieldsOf, Tryz.underlying32]
  rw [run_equalIn_agg w 9999 32 _ _ hu (by kernel_rfl)]
  simp [Program.fieldsOf, Tryz.underlying32, Op.eqFields, part, Tryz.isAgg29, Tryz.isAgg30, run_equalIn_int _ 9998 29 _ _ _ _ Tryz.underlying29, run_equalIn_int _ 9998 30 _ _ _ _ Tryz.underlying30, Result.andThen, beq_bytes]
  all_goals (repeat' split) <;> simp_all
theorem eq89 {a0 b0 : Int} {a1 b1 : Int} : AggEq Tryz.prog 89 [.int .u64 a0, .int .u64 a1] [.int .u64 b0, .int .u64 b1] ((decide (a0 = b0) && decide (a1 = b1))) := by
  refine ⟨by kernel_rfl, fun w => ?_⟩
  have hu : Tryz.prog.underlying 89 = some (.struct (Tryz.prog.fieldsOf 89)) := by simp only [Program.fieldsOf, Tryz.underlying89]
  rw [run_equalIn_agg w 9999 89 _ _ hu (by kernel_rfl)]
  simp [Program.fieldsOf, Tryz.underlying89, Op.eqFields, part, Tryz.isAgg30, run_equalIn_int _ 9998 30 _ _ _ _ Tryz.underlying30, Result.andThen, beq_bytes]
  all_goals (repeat' split) <;> simp_all
end Go.Proofs

/- Facts of the program that the walks use. -/
import Derived.Test.YtdipflebhoodkaaProg
import Derived.Test.YtdipflebhoodkaaTe
import Derived.KernelRfl
namespace Go.Proofs
open Go.Ep
set_option linter.unusedSimpArgs false

theorem elem61 : ElemOK Try.prog 61 70 2 16 := ElemOK.mk' (z := .agg #[.int .u16 0, .int .u64 0]) Try.underlying61 (by kernel_rfl) rfl
theorem elem62 : ElemOK Try.prog 62 70 2 16 := ElemOK.mk' (z := .agg #[.int .u16 0, .int .u64 0]) Try.underlying62 (by kernel_rfl) rfl
theorem elem147 : ElemOK Try.prog 147 62 1 24 := ElemOK.mk' (z := .slice none 0 0) Try.underlying147 (by kernel_rfl) rfl
theorem build70 : BuildOK Try.prog 70 [(0, 1), (1, 1)] [.int .u16 0, .int .u64 0] := fun parts => by kernel_rfl
theorem key124 : KeyOK Try.prog 46 [.u16] := KeyOK.int Try.underlying46
theorem eq70 {a0 b0 : Int} {a1 b1 : Int} : AggEq Try.prog 70 [.int .u16 a0, .int .u64 a1] [.int .u16 b0, .int .u64 b1] ((decide (a0 = b0) && decide (a1 = b1))) := by
  refine ⟨by kernel_rfl, fun w => ?_⟩
  have hu : Try.prog.underlying 70 = some (.struct (Try.prog.fieldsOf 70)) := by simp only [Program.fieldsOf, Try.underlying70]
  rw [run_equalIn_agg w 9999 70 _ _ hu (by kernel_rfl)]
  simp [Program.fieldsOf, Try.underlying70, Op.eqFields, part, Try.isAgg34, Try.isAgg46, run_equalIn_int _ 9998 34 _ _ _ _ Try.underlying34, run_equalIn_int _ 9998 46 _ _ _ _ Try.underlying46, Result.andThen, beq_bytes]
  all_goals (repeat' split) <;> simp_all
end Go.Proofs

/- Facts of the program that the walks use. -/
import Derived.Test.YtdipflebhoodkaaProg
import Derived.Test.YtdipflebhoodkaaTe
import Derived.KernelRfl
namespace Go.Proofs
open Go.Ep
set_option linter.unusedSimpArgs false

theorem elem29 : ElemOK Try.prog 29 40 2 16 := ElemOK.mk' (z := .agg #[.int .u64 0, .int .u64 0]) Try.underlying29 (by kernel_rfl) rfl
theorem elem76 : ElemOK Try.prog 76 34 1 8 := ElemOK.mk' (z := .int .u64 0) Try.underlying76 (by kernel_rfl) rfl
theorem elem153 : ElemOK Try.prog 153 29 1 24 := ElemOK.mk' (z := .slice none 0 0) Try.underlying153 (by kernel_rfl) rfl
theorem build40 : BuildOK Try.prog 40 [(0, 1), (1, 1)] [.int .u64 0, .int .u64 0] := fun parts => by kernel_rfl
theorem eq40 {a0 b0 : Int} {a1 b1 : Int} : AggEq Try.prog 40 [.int .u64 a0, .int .u64 a1] [.int .u64 b0, .int .u64 b1] ((decide (a0 = b0) && decide (a1 = b1))) := by
  refine ⟨by kernel_rfl, fun w => ?_⟩
  have hu : Try.prog.underlying 40 = some (.struct (Try.prog.fieldsOf 40)) := by simp only [Program.fieldsOf, Try.underlying40]
  rw [run_equalIn_agg w 9999 40 _ _ hu (by kernel_rfl)]
  simp [Program.fieldsOf, Try.underlying40, Op.eqFields, part, Try.isAgg34, run_equalIn_int _ 9998 34 _ _ _ _ Try.underlying34, Result.andThen, beq_bytes]
  all_goals (repeat' split) <;> simp_all
end Go.Proofs

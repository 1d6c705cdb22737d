/- How what is handed to the laws is read. -/
import Derived.Test.YtacnidaafcfgiaaGreatTop
import Derived.Test.YtacnidaafcfgiaaGreatTe
import Derived.Test.YtacnidaafcfgiaaGreatProg
import Derived.KernelRfl
namespace Go.Ep
set_option linter.unusedVariables false

def TDot.ok (x : TDot) : Prop := okK .u16 x.dev ∧ okK .u64 x.n
def TDot.sz (x : TDot) : Nat := (1 + (1 + 0)) + 1
def TRun.ok (x : TRun) : Prop := okK .u64 x.lo ∧ okK .u64 x.hi
def TRun.sz (x : TRun) : Nat := (1 + (1 + 0)) + 1
def TPart.ok (x : TPart) : Prop := okK .u16 x.dev ∧ (List.length x.runs ≤ 9223372036854775807 ∧ ∀ a ∈ x.runs, TRun.ok a)
def TPart.sz (x : TPart) : Nat := (1 + ((szL TRun.sz x.runs + 1) + 0)) + 1
end Go.Ep
namespace Go.Proofs
open Go.Ep
set_option maxRecDepth 100000
theorem opnTDot : Opn Tryz.prog 32 2 TDot.e TDot.ok TDot.sz := (Opn.struct Tryz.underlying32 (by kernel_rfl) (OpnF.cons (Opn.int Tryz.underlying29 (by kernel_rfl)) rfl (OpnF.cons (Opn.int Tryz.underlying30 (by kernel_rfl)) rfl (OpnF.nil _)))).map (fun p => ⟨p.1, p.2.1⟩) (fun _ _ => rfl) (fun p h => ⟨h.1, h.2.1⟩) (fun _ => Nat.le_refl _)
theorem opnTRun : Opn Tryz.prog 89 2 TRun.e TRun.ok TRun.sz := (Opn.struct Tryz.underlying89 (by kernel_rfl) (OpnF.cons (Opn.int Tryz.underlying30 (by kernel_rfl)) rfl (OpnF.cons (Opn.int Tryz.underlying30 (by kernel_rfl)) rfl (OpnF.nil _)))).map (fun p => ⟨p.1, p.2.1⟩) (fun _ _ => rfl) (fun p h => ⟨h.1, h.2.1⟩) (fun _ => Nat.le_refl _)
theorem opnTPart : Opn Tryz.prog 80 2 TPart.e TPart.ok TPart.sz := (Opn.struct Tryz.underlying80 (by kernel_rfl) (OpnF.cons (Opn.int Tryz.underlying29 (by kernel_rfl)) rfl (OpnF.cons (opnTRun.slice Tryz.underlying37 (by kernel_rfl) (by decide)) rfl (OpnF.nil _)))).map (fun p => ⟨p.1, p.2.1⟩) (fun _ _ => rfl) (fun p h => ⟨h.1, h.2.1⟩) (fun _ => Nat.le_refl _)
end Go.Proofs

/- How what is handed to the laws is read. -/
import Derived.Test.YtdipflebhoodkaaTop
import Derived.Test.YtdipflebhoodkaaTe
import Derived.Test.YtdipflebhoodkaaProg
import Derived.KernelRfl
namespace Go.Ep
set_option linter.unusedVariables false

def TDot.ok (x : TDot) : Prop := okK .u16 x.dev ∧ okK .u64 x.n
def TDot.sz (x : TDot) : Nat := (1 + (1 + 0)) + 1
def TRun.ok (x : TRun) : Prop := okK .u64 x.lo ∧ okK .u64 x.hi
def TRun.sz (x : TRun) : Nat := (1 + (1 + 0)) + 1
def TMember.ok (x : TMember) : Prop := okK .u16 x.dev ∧ okK .u8 x.slot ∧ okK .u64 x.try_
def TMember.sz (x : TMember) : Nat := (1 + (1 + (1 + 0))) + 1
end Go.Ep
namespace Go.Proofs
open Go.Ep
set_option maxRecDepth 100000
theorem opnTDot : Opn Try.prog 70 2 TDot.e TDot.ok TDot.sz := (Opn.struct Try.underlying70 (by kernel_rfl) (OpnF.cons (Opn.int Try.underlying46 (by kernel_rfl)) rfl (OpnF.cons (Opn.int Try.underlying34 (by kernel_rfl)) rfl (OpnF.nil _)))).map (fun p => ⟨p.1, p.2.1⟩) (fun _ _ => rfl) (fun p h => ⟨h.1, h.2.1⟩) (fun _ => Nat.le_refl _)
theorem opnTRun : Opn Try.prog 40 2 TRun.e TRun.ok TRun.sz := (Opn.struct Try.underlying40 (by kernel_rfl) (OpnF.cons (Opn.int Try.underlying34 (by kernel_rfl)) rfl (OpnF.cons (Opn.int Try.underlying34 (by kernel_rfl)) rfl (OpnF.nil _)))).map (fun p => ⟨p.1, p.2.1⟩) (fun _ _ => rfl) (fun p h => ⟨h.1, h.2.1⟩) (fun _ => Nat.le_refl _)
theorem opnTMember : Opn Try.prog 53 3 TMember.e TMember.ok TMember.sz := (Opn.struct Try.underlying53 (by kernel_rfl) (OpnF.cons (Opn.int Try.underlying46 (by kernel_rfl)) rfl (OpnF.cons (Opn.int Try.underlying5 (by kernel_rfl)) rfl (OpnF.cons (Opn.int Try.underlying34 (by kernel_rfl)) rfl (OpnF.nil _))))).map (fun p => ⟨p.1, p.2.1, p.2.2.1⟩) (fun _ _ => rfl) (fun p h => ⟨h.1, h.2.1, h.2.2.1⟩) (fun _ => Nat.le_refl _)
end Go.Proofs

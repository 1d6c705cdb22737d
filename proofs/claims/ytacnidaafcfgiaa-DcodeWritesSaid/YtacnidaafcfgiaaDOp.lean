/- How what is handed to the laws is read. -/
import Derived.Test.YtacnidaafcfgiaaTop
import Derived.Test.YtacnidaafcfgiaaTe
import Derived.Test.YtacnidaafcfgiaaProg
import Derived.KernelRfl
namespace Go.Ep
set_option linter.unusedVariables false

def TDot.ok (x : TDot) : Prop := okK .u16 x.dev ∧ okK .u64 x.n
def TDot.sz (x : TDot) : Nat := (1 + (1 + 0)) + 1
def TRun.ok (x : TRun) : Prop := okK .u64 x.lo ∧ okK .u64 x.hi
def TRun.sz (x : TRun) : Nat := (1 + (1 + 0)) + 1
def TPart.ok (x : TPart) : Prop := okK .u16 x.dev ∧ (List.length x.runs ≤ 9223372036854775807 ∧ ∀ a ∈ x.runs, TRun.ok a)
def TPart.sz (x : TPart) : Nat := (1 + ((szL TRun.sz x.runs + 1) + 0)) + 1
def TEvent.ok (x : TEvent) : Prop := TDot.ok x.dot ∧ okK .u8 x.kind ∧ okK .u64 x.cid ∧ okK .u8 x.field ∧ ByteArray.size x.text ≤ 9223372036854775807 ∧ (List.length x.kills ≤ 9223372036854775807 ∧ ∀ a ∈ x.kills, TDot.ok a)
def TEvent.sz (x : TEvent) : Nat := (TDot.sz x.dot + (1 + (1 + (1 + ((ByteArray.size x.text + 1) + ((szL TDot.sz x.kills + 1) + 0)))))) + 1
end Go.Ep
namespace Go.Proofs
open Go.Ep
set_option maxRecDepth 100000
theorem opnTDot : Opn Try.prog 38 2 TDot.e TDot.ok TDot.sz := (Opn.struct Try.underlying38 (by kernel_rfl) (OpnF.cons (Opn.int Try.underlying28 (by kernel_rfl)) rfl (OpnF.cons (Opn.int Try.underlying36 (by kernel_rfl)) rfl (OpnF.nil _)))).map (fun p => ⟨p.1, p.2.1⟩) (fun _ _ => rfl) (fun p h => ⟨h.1, h.2.1⟩) (fun _ => Nat.le_refl _)
theorem opnTRun : Opn Try.prog 114 2 TRun.e TRun.ok TRun.sz := (Opn.struct Try.underlying114 (by kernel_rfl) (OpnF.cons (Opn.int Try.underlying36 (by kernel_rfl)) rfl (OpnF.cons (Opn.int Try.underlying36 (by kernel_rfl)) rfl (OpnF.nil _)))).map (fun p => ⟨p.1, p.2.1⟩) (fun _ _ => rfl) (fun p h => ⟨h.1, h.2.1⟩) (fun _ => Nat.le_refl _)
theorem opnTPart : Opn Try.prog 101 2 TPart.e TPart.ok TPart.sz := (Opn.struct Try.underlying101 (by kernel_rfl) (OpnF.cons (Opn.int Try.underlying28 (by kernel_rfl)) rfl (OpnF.cons (opnTRun.slice Try.underlying34 (by kernel_rfl) (by decide)) rfl (OpnF.nil _)))).map (fun p => ⟨p.1, p.2.1⟩) (fun _ _ => rfl) (fun p h => ⟨h.1, h.2.1⟩) (fun _ => Nat.le_refl _)
theorem opnTEvent : Opn Try.prog 41 7 TEvent.e TEvent.ok TEvent.sz := (Opn.struct Try.underlying41 (by kernel_rfl) (OpnF.cons opnTDot rfl (OpnF.cons (Opn.int Try.underlying5 (by kernel_rfl)) rfl (OpnF.cons (Opn.int Try.underlying36 (by kernel_rfl)) rfl (OpnF.cons (Opn.int Try.underlying5 (by kernel_rfl)) rfl (OpnF.cons (Opn.str Try.underlying9 (by kernel_rfl)) rfl (OpnF.cons (opnTDot.slice Try.underlying39 (by kernel_rfl) (by decide)) rfl (OpnF.nil _)))))))).map (fun p => ⟨p.1, p.2.1, p.2.2.1, p.2.2.2.1, p.2.2.2.2.1, p.2.2.2.2.2.1⟩) (fun _ _ => rfl) (fun p h => ⟨h.1, h.2.1, h.2.2.1, h.2.2.2.1, h.2.2.2.2.1, h.2.2.2.2.2.1⟩) (fun _ => Nat.le_refl _)
end Go.Proofs

/-
  No cell of these rows narrows 'for every input' (looked for: loops, veiled, ifaces, maps, wideKeys, modest, calm, conditions, laid).
  DERIVED. THE GIVEN ROWS OF THIS SEAT. 9 by the template 'for every input the law returns true; each argument reads behind the call as it read before'; 0 by the template 'total and deterministic' (their statements: YtacnidaafcfgiaaTotals.lean).
  GIVEN WITH THE SEED: the statements are not yours to turn. If you find one false, say at which input.
  Laid BY PROGRAM, IN A SANDBOX (cutbox-rows.mjs): the forced cells as the released guide's own fill.sh prints them over the translation 6b57bc9d6650abe5… (all of the seat's roots in one cut). By AI agents, Wed Nov 11 2026. No macro, syntax, notation, axiom, sorry.
-/
import Derived.Test.YtacnidaafcfgiaaChecked
import GoSem.Claim
import GoSem.ClaimJoined
import GoSem.ClaimMapViews
import Derived.JoinedTies
import Derived.KernelRfl
namespace Go.Proofs.Ytacnidaafcfgiaa
/- THE CELL 'sum', in the pinned program and in every row, IS THE sha256 OF THE DUMP (.gsa) THAT YtacnidaafcfgiaaProg.lean LOADS. Nothing in Lean hashes anything: it is a label: what it is worth is what the hold of that sum in a sandbox is worth. -/
noncomputable def Try.pinned : Pinned := { name := "ytacnidaafcfgiaa", sum := "6b57bc9d6650abe5e54b14a8a3a84a0d3089272a6779847699a3f63e90c33dd0", checked := Try.checked }
namespace Rows
def none {H : Type} : Left H := { results := [], args := [] }

/-- 'epitaphlaw29.OutboxParts': WHATEVER THE INPUT: true; the input reads as it did. -/
def outboxPartsSpec : ChangeSpec := { name := "outboxParts", fn := fun _ => fun
  | [d1, d2, d3] => { results := [.lit (.bool true)], args := [d1, d2, d3] }
  | _ => none }
def outboxPartsRow : OpenClaim := { program := "ytacnidaafcfgiaa", sum := "6b57bc9d6650abe5e54b14a8a3a84a0d3089272a6779847699a3f63e90c33dd0", func := "epitaph/epitaphlaw29.OutboxParts", spec := "outboxParts", unfollowed := true, recurses := true, apart := false }
def OutboxPartsSaid : Prop := outboxPartsRow.holds Try.pinned (OpenSpec.ofChange outboxPartsSpec)

/-- ITS FALSE NEIGHBOUR: 'it returns false'. Refute it at one input. -/
def outboxPartsWrong : ChangeSpec := { name := "outboxParts", fn := fun _ => fun
  | [d1, d2, d3] => { results := [.lit (.bool false)], args := [d1, d2, d3] }
  | _ => none }
def OutboxPartsWrongFalsely : Prop := outboxPartsRow.holds Try.pinned (OpenSpec.ofChange outboxPartsWrong)

/-- 'epitaphlaw29.OutboxNew': WHATEVER THE INPUT: true; the input reads as it did. -/
def outboxNewSpec : ChangeSpec := { name := "outboxNew", fn := fun _ => fun
  | [d1, d2, d3] => { results := [.lit (.bool true)], args := [d1, d2, d3] }
  | _ => none }
def outboxNewRow : OpenClaim := { program := "ytacnidaafcfgiaa", sum := "6b57bc9d6650abe5e54b14a8a3a84a0d3089272a6779847699a3f63e90c33dd0", func := "epitaph/epitaphlaw29.OutboxNew", spec := "outboxNew", unfollowed := true, recurses := true, apart := false }
def OutboxNewSaid : Prop := outboxNewRow.holds Try.pinned (OpenSpec.ofChange outboxNewSpec)

/-- ITS FALSE NEIGHBOUR: 'it returns false'. Refute it at one input. -/
def outboxNewWrong : ChangeSpec := { name := "outboxNew", fn := fun _ => fun
  | [d1, d2, d3] => { results := [.lit (.bool false)], args := [d1, d2, d3] }
  | _ => none }
def OutboxNewWrongFalsely : Prop := outboxNewRow.holds Try.pinned (OpenSpec.ofChange outboxNewWrong)

/-- 'epitaphlaw15.DcodeWrites': WHATEVER THE INPUT: true; the input reads as it did. -/
def dcodeWritesSpec : ChangeSpec := { name := "dcodeWrites", fn := fun _ => fun
  | [d1, d2, d3] => { results := [.lit (.bool true)], args := [d1, d2, d3] }
  | _ => none }
def dcodeWritesRow : OpenClaim := { program := "ytacnidaafcfgiaa", sum := "6b57bc9d6650abe5e54b14a8a3a84a0d3089272a6779847699a3f63e90c33dd0", func := "epitaph/epitaphlaw15.DcodeWrites", spec := "dcodeWrites", unfollowed := true, recurses := true, apart := false }
def DcodeWritesSaid : Prop := dcodeWritesRow.holds Try.pinned (OpenSpec.ofChange dcodeWritesSpec)

/-- ITS FALSE NEIGHBOUR: 'it returns false'. Refute it at one input. -/
def dcodeWritesWrong : ChangeSpec := { name := "dcodeWrites", fn := fun _ => fun
  | [d1, d2, d3] => { results := [.lit (.bool false)], args := [d1, d2, d3] }
  | _ => none }
def DcodeWritesWrongFalsely : Prop := dcodeWritesRow.holds Try.pinned (OpenSpec.ofChange dcodeWritesWrong)

/-- 'epitaphlaw16.EcodeWrites': WHATEVER THE INPUT: true; the input reads as it did. -/
def ecodeWritesSpec : ChangeSpec := { name := "ecodeWrites", fn := fun _ => fun
  | [d] => { results := [.lit (.bool true)], args := [d] }
  | _ => none }
def ecodeWritesRow : OpenClaim := { program := "ytacnidaafcfgiaa", sum := "6b57bc9d6650abe5e54b14a8a3a84a0d3089272a6779847699a3f63e90c33dd0", func := "epitaph/epitaphlaw16.EcodeWrites", spec := "ecodeWrites", unfollowed := true, recurses := true, apart := false }
def EcodeWritesSaid : Prop := ecodeWritesRow.holds Try.pinned (OpenSpec.ofChange ecodeWritesSpec)

/-- ITS FALSE NEIGHBOUR: 'it returns false'. Refute it at one input. -/
def ecodeWritesWrong : ChangeSpec := { name := "ecodeWrites", fn := fun _ => fun
  | [d] => { results := [.lit (.bool false)], args := [d] }
  | _ => none }
def EcodeWritesWrongFalsely : Prop := ecodeWritesRow.holds Try.pinned (OpenSpec.ofChange ecodeWritesWrong)

/-- 'epitaphlaw09.CtxCloses': WHATEVER THE INPUT: true; the input reads as it did. -/
def ctxClosesSpec : ChangeSpec := { name := "ctxCloses", fn := fun _ => fun
  | [d1, d2] => { results := [.lit (.bool true)], args := [d1, d2] }
  | _ => none }
def ctxClosesRow : OpenClaim := { program := "ytacnidaafcfgiaa", sum := "6b57bc9d6650abe5e54b14a8a3a84a0d3089272a6779847699a3f63e90c33dd0", func := "epitaph/epitaphlaw09.CtxCloses", spec := "ctxCloses", unfollowed := true, recurses := true, apart := false }
def CtxClosesSaid : Prop := ctxClosesRow.holds Try.pinned (OpenSpec.ofChange ctxClosesSpec)

/-- ITS FALSE NEIGHBOUR: 'it returns false'. Refute it at one input. -/
def ctxClosesWrong : ChangeSpec := { name := "ctxCloses", fn := fun _ => fun
  | [d1, d2] => { results := [.lit (.bool false)], args := [d1, d2] }
  | _ => none }
def CtxClosesWrongFalsely : Prop := ctxClosesRow.holds Try.pinned (OpenSpec.ofChange ctxClosesWrong)

/-- 'epitaphlaw15.DcodeOnce': WHATEVER THE INPUT: true; the input reads as it did. -/
def dcodeOnceSpec : ChangeSpec := { name := "dcodeOnce", fn := fun _ => fun
  | [d1, d2] => { results := [.lit (.bool true)], args := [d1, d2] }
  | _ => none }
def dcodeOnceRow : OpenClaim := { program := "ytacnidaafcfgiaa", sum := "6b57bc9d6650abe5e54b14a8a3a84a0d3089272a6779847699a3f63e90c33dd0", func := "epitaph/epitaphlaw15.DcodeOnce", spec := "dcodeOnce", unfollowed := true, recurses := true, apart := false }
def DcodeOnceSaid : Prop := dcodeOnceRow.holds Try.pinned (OpenSpec.ofChange dcodeOnceSpec)

/-- ITS FALSE NEIGHBOUR: 'it returns false'. Refute it at one input. -/
def dcodeOnceWrong : ChangeSpec := { name := "dcodeOnce", fn := fun _ => fun
  | [d1, d2] => { results := [.lit (.bool false)], args := [d1, d2] }
  | _ => none }
def DcodeOnceWrongFalsely : Prop := dcodeOnceRow.holds Try.pinned (OpenSpec.ofChange dcodeOnceWrong)

/-- 'epitaphlaw09.CtxLaws': WHATEVER THE INPUT: true; the input reads as it did. -/
def ctxLawsSpec : ChangeSpec := { name := "ctxLaws", fn := fun _ => fun
  | [d1, d2, d3] => { results := [.lit (.bool true)], args := [d1, d2, d3] }
  | _ => none }
def ctxLawsRow : OpenClaim := { program := "ytacnidaafcfgiaa", sum := "6b57bc9d6650abe5e54b14a8a3a84a0d3089272a6779847699a3f63e90c33dd0", func := "epitaph/epitaphlaw09.CtxLaws", spec := "ctxLaws", unfollowed := true, recurses := true, apart := false }
def CtxLawsSaid : Prop := ctxLawsRow.holds Try.pinned (OpenSpec.ofChange ctxLawsSpec)

/-- ITS FALSE NEIGHBOUR: 'it returns false'. Refute it at one input. -/
def ctxLawsWrong : ChangeSpec := { name := "ctxLaws", fn := fun _ => fun
  | [d1, d2, d3] => { results := [.lit (.bool false)], args := [d1, d2, d3] }
  | _ => none }
def CtxLawsWrongFalsely : Prop := ctxLawsRow.holds Try.pinned (OpenSpec.ofChange ctxLawsWrong)

/-- 'epitaphlaw16.EcodeReads': WHATEVER THE INPUT: true; the input reads as it did. -/
def ecodeReadsSpec : ChangeSpec := { name := "ecodeReads", fn := fun _ => fun
  | [d1, d2] => { results := [.lit (.bool true)], args := [d1, d2] }
  | _ => none }
def ecodeReadsRow : OpenClaim := { program := "ytacnidaafcfgiaa", sum := "6b57bc9d6650abe5e54b14a8a3a84a0d3089272a6779847699a3f63e90c33dd0", func := "epitaph/epitaphlaw16.EcodeReads", spec := "ecodeReads", unfollowed := true, recurses := true, apart := false }
def EcodeReadsSaid : Prop := ecodeReadsRow.holds Try.pinned (OpenSpec.ofChange ecodeReadsSpec)

/-- ITS FALSE NEIGHBOUR: 'it returns false'. Refute it at one input. -/
def ecodeReadsWrong : ChangeSpec := { name := "ecodeReads", fn := fun _ => fun
  | [d1, d2] => { results := [.lit (.bool false)], args := [d1, d2] }
  | _ => none }
def EcodeReadsWrongFalsely : Prop := ecodeReadsRow.holds Try.pinned (OpenSpec.ofChange ecodeReadsWrong)

/-- 'epitaphlaw16.EcodeBack': WHATEVER THE INPUT: true; the input reads as it did. -/
def ecodeBackSpec : ChangeSpec := { name := "ecodeBack", fn := fun _ => fun
  | [d1, d2] => { results := [.lit (.bool true)], args := [d1, d2] }
  | _ => none }
def ecodeBackRow : OpenClaim := { program := "ytacnidaafcfgiaa", sum := "6b57bc9d6650abe5e54b14a8a3a84a0d3089272a6779847699a3f63e90c33dd0", func := "epitaph/epitaphlaw16.EcodeBack", spec := "ecodeBack", unfollowed := true, recurses := true, apart := false }
def EcodeBackSaid : Prop := ecodeBackRow.holds Try.pinned (OpenSpec.ofChange ecodeBackSpec)

/-- ITS FALSE NEIGHBOUR: 'it returns false'. Refute it at one input. -/
def ecodeBackWrong : ChangeSpec := { name := "ecodeBack", fn := fun _ => fun
  | [d1, d2] => { results := [.lit (.bool false)], args := [d1, d2] }
  | _ => none }
def EcodeBackWrongFalsely : Prop := ecodeBackRow.holds Try.pinned (OpenSpec.ofChange ecodeBackWrong)

/- THE SECOND FORM. 'bulk': how many values and letters a reading holds, each counted each time it is reached (what is shared counts as often as it is met; a slice's spare places count too). A statement '..UptoSaid' is the law's where the arguments, and the package variables that the reading takes, are together of bulk at most 1048576: NARROWER than '..Said'. Prove '..Said' where nothing that the law and all that it calls make is longer than what came in: it says more and counts as full. Else prove '..UptoSaid'. A law counts once. -/
mutual
def uptoBulk {H : Type} : DataW H → Nat
  | .lit (.string bytes) => bytes.length + 1
  | .lit _ => 1
  | .nil => 1
  | .ptr d => uptoBulk d + 1
  | .slice elems spare => uptoBulkAll elems + uptoBulkAll spare + 1
  | .agg parts => uptoBulkAll parts + 1
  | .iface _ d => uptoBulk d + 1
  | .map entries => uptoBulkEntries entries + 1
  | .held _ => 1
def uptoBulkAll {H : Type} : List (DataW H) → Nat
  | [] => 0
  | d :: r => uptoBulk d + uptoBulkAll r
def uptoBulkEntries {H : Type} : List (Lit × DataW H) → Nat
  | [] => 0
  | x :: r => uptoBulkEntry x + uptoBulkEntries r
def uptoBulkEntry {H : Type} : Lit × DataW H → Nat
  | (.string bytes, d) => bytes.length + uptoBulk d + 1
  | (_, d) => uptoBulk d + 1
 end
def uptoSmall : (H : Type) → List (DataW H) → Bool := fun _ ds => decide (uptoBulkAll ds ≤ 1048576)
def OpenSpec.upto (s : _root_.Go.ChangeSpec) : _root_.Go.OpenSpec := { _root_.Go.OpenSpec.ofChange s with cond := some uptoSmall }

/-- 'epitaphlaw29.OutboxParts', WHERE WHAT IT READS IS OF BULK AT MOST 1048576: true; the input reads as it did. -/
def outboxPartsUptoRow : OpenClaim := { program := "ytacnidaafcfgiaa", sum := "6b57bc9d6650abe5e54b14a8a3a84a0d3089272a6779847699a3f63e90c33dd0", func := "epitaph/epitaphlaw29.OutboxParts", spec := "outboxParts", unfollowed := true, recurses := true, apart := false, narrowed := true }
def OutboxPartsUptoSaid : Prop := outboxPartsUptoRow.holds Try.pinned (OpenSpec.upto outboxPartsSpec)

/-- 'epitaphlaw29.OutboxNew', WHERE WHAT IT READS IS OF BULK AT MOST 1048576: true; the input reads as it did. -/
def outboxNewUptoRow : OpenClaim := { program := "ytacnidaafcfgiaa", sum := "6b57bc9d6650abe5e54b14a8a3a84a0d3089272a6779847699a3f63e90c33dd0", func := "epitaph/epitaphlaw29.OutboxNew", spec := "outboxNew", unfollowed := true, recurses := true, apart := false, narrowed := true }
def OutboxNewUptoSaid : Prop := outboxNewUptoRow.holds Try.pinned (OpenSpec.upto outboxNewSpec)

/-- 'epitaphlaw15.DcodeWrites', WHERE WHAT IT READS IS OF BULK AT MOST 1048576: true; the input reads as it did. -/
def dcodeWritesUptoRow : OpenClaim := { program := "ytacnidaafcfgiaa", sum := "6b57bc9d6650abe5e54b14a8a3a84a0d3089272a6779847699a3f63e90c33dd0", func := "epitaph/epitaphlaw15.DcodeWrites", spec := "dcodeWrites", unfollowed := true, recurses := true, apart := false, narrowed := true }
def DcodeWritesUptoSaid : Prop := dcodeWritesUptoRow.holds Try.pinned (OpenSpec.upto dcodeWritesSpec)

/-- 'epitaphlaw16.EcodeWrites', WHERE WHAT IT READS IS OF BULK AT MOST 1048576: true; the input reads as it did. -/
def ecodeWritesUptoRow : OpenClaim := { program := "ytacnidaafcfgiaa", sum := "6b57bc9d6650abe5e54b14a8a3a84a0d3089272a6779847699a3f63e90c33dd0", func := "epitaph/epitaphlaw16.EcodeWrites", spec := "ecodeWrites", unfollowed := true, recurses := true, apart := false, narrowed := true }
def EcodeWritesUptoSaid : Prop := ecodeWritesUptoRow.holds Try.pinned (OpenSpec.upto ecodeWritesSpec)

/-- 'epitaphlaw09.CtxCloses', WHERE WHAT IT READS IS OF BULK AT MOST 1048576: true; the input reads as it did. -/
def ctxClosesUptoRow : OpenClaim := { program := "ytacnidaafcfgiaa", sum := "6b57bc9d6650abe5e54b14a8a3a84a0d3089272a6779847699a3f63e90c33dd0", func := "epitaph/epitaphlaw09.CtxCloses", spec := "ctxCloses", unfollowed := true, recurses := true, apart := false, narrowed := true }
def CtxClosesUptoSaid : Prop := ctxClosesUptoRow.holds Try.pinned (OpenSpec.upto ctxClosesSpec)

/-- 'epitaphlaw15.DcodeOnce', WHERE WHAT IT READS IS OF BULK AT MOST 1048576: true; the input reads as it did. -/
def dcodeOnceUptoRow : OpenClaim := { program := "ytacnidaafcfgiaa", sum := "6b57bc9d6650abe5e54b14a8a3a84a0d3089272a6779847699a3f63e90c33dd0", func := "epitaph/epitaphlaw15.DcodeOnce", spec := "dcodeOnce", unfollowed := true, recurses := true, apart := false, narrowed := true }
def DcodeOnceUptoSaid : Prop := dcodeOnceUptoRow.holds Try.pinned (OpenSpec.upto dcodeOnceSpec)

/-- 'epitaphlaw09.CtxLaws', WHERE WHAT IT READS IS OF BULK AT MOST 1048576: true; the input reads as it did. -/
def ctxLawsUptoRow : OpenClaim := { program := "ytacnidaafcfgiaa", sum := "6b57bc9d6650abe5e54b14a8a3a84a0d3089272a6779847699a3f63e90c33dd0", func := "epitaph/epitaphlaw09.CtxLaws", spec := "ctxLaws", unfollowed := true, recurses := true, apart := false, narrowed := true }
def CtxLawsUptoSaid : Prop := ctxLawsUptoRow.holds Try.pinned (OpenSpec.upto ctxLawsSpec)

/-- 'epitaphlaw16.EcodeReads', WHERE WHAT IT READS IS OF BULK AT MOST 1048576: true; the input reads as it did. -/
def ecodeReadsUptoRow : OpenClaim := { program := "ytacnidaafcfgiaa", sum := "6b57bc9d6650abe5e54b14a8a3a84a0d3089272a6779847699a3f63e90c33dd0", func := "epitaph/epitaphlaw16.EcodeReads", spec := "ecodeReads", unfollowed := true, recurses := true, apart := false, narrowed := true }
def EcodeReadsUptoSaid : Prop := ecodeReadsUptoRow.holds Try.pinned (OpenSpec.upto ecodeReadsSpec)

/-- 'epitaphlaw16.EcodeBack', WHERE WHAT IT READS IS OF BULK AT MOST 1048576: true; the input reads as it did. -/
def ecodeBackUptoRow : OpenClaim := { program := "ytacnidaafcfgiaa", sum := "6b57bc9d6650abe5e54b14a8a3a84a0d3089272a6779847699a3f63e90c33dd0", func := "epitaph/epitaphlaw16.EcodeBack", spec := "ecodeBack", unfollowed := true, recurses := true, apart := false, narrowed := true }
def EcodeBackUptoSaid : Prop := ecodeBackUptoRow.holds Try.pinned (OpenSpec.upto ecodeBackSpec)

end Rows
end Go.Proofs.Ytacnidaafcfgiaa

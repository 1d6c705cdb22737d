/-
  No cell of these rows narrows 'for every input' (looked for: loops, veiled, ifaces, maps, wideKeys, modest, calm, conditions, laid).
  DERIVED. THE GIVEN ROWS OF THIS SEAT. 4 by the template 'for every input the law returns true; each argument reads behind the call as it read before'; 0 by the template 'total and deterministic' (their statements: YtipkoiklahndlaaGreatTotals.lean).
  GIVEN WITH THE SEED: the statements are not yours to turn. If you find one false, say at which input.
  Laid BY PROGRAM, IN A SANDBOX (cutbox-rows.mjs): the forced cells as the released guide's own fill.sh prints them over the translation c9816652e30301f1… (all of the seat's roots in one cut). By AI agents, Wed Nov 11 2026. No macro, syntax, notation, axiom, sorry.
-/
import Derived.Test.YtipkoiklahndlaaGreatChecked
import GoSem.Claim
import GoSem.ClaimJoined
import GoSem.ClaimMapViews
import Derived.JoinedTies
import Derived.KernelRfl
namespace Go.Proofs.YtipkoiklahndlaaGreat
/- THE CELL 'sum', in the pinned program and in every row, IS THE sha256 OF THE DUMP (.gsa) THAT YtipkoiklahndlaaGreatProg.lean LOADS. Nothing in Lean hashes anything: it is a label: what it is worth is what the hold of that sum in a sandbox is worth. -/
noncomputable def Tryz.pinned : Pinned := { name := "ytipkoiklahndlaagreat", sum := "c9816652e30301f193b5cda6bbfbc72f2e048c2d36767a0c628e526cda04a629", checked := Tryz.checked }
namespace Rows
def none {H : Type} : Left H := { results := [], args := [] }

/-- 'epitaphlaw21.BcodeWrites': WHATEVER THE INPUT: true; the input reads as it did. -/
def bcodeWritesSpec : ChangeSpec := { name := "bcodeWrites", fn := fun _ => fun
  | [d1, d2] => { results := [.lit (.bool true)], args := [d1, d2] }
  | _ => none }
def bcodeWritesRow : OpenClaim := { program := "ytipkoiklahndlaagreat", sum := "c9816652e30301f193b5cda6bbfbc72f2e048c2d36767a0c628e526cda04a629", func := "epitaph/epitaphlaw21.BcodeWrites", spec := "bcodeWrites", unfollowed := true, recurses := true, plainKeys := false, apart := false }
def BcodeWritesSaid : Prop := bcodeWritesRow.holds Tryz.pinned (OpenSpec.ofChange bcodeWritesSpec)

/-- ITS FALSE NEIGHBOUR: 'it returns false'. Refute it at one input. -/
def bcodeWritesWrong : ChangeSpec := { name := "bcodeWrites", fn := fun _ => fun
  | [d1, d2] => { results := [.lit (.bool false)], args := [d1, d2] }
  | _ => none }
def BcodeWritesWrongFalsely : Prop := bcodeWritesRow.holds Tryz.pinned (OpenSpec.ofChange bcodeWritesWrong)

/-- 'epitaphlaw29.OutboxUnsent': WHATEVER THE INPUT: true; the input reads as it did. -/
def outboxUnsentSpec : ChangeSpec := { name := "outboxUnsent", fn := fun _ => fun
  | [d1, d2, d3] => { results := [.lit (.bool true)], args := [d1, d2, d3] }
  | _ => none }
def outboxUnsentRow : OpenClaim := { program := "ytipkoiklahndlaagreat", sum := "c9816652e30301f193b5cda6bbfbc72f2e048c2d36767a0c628e526cda04a629", func := "epitaph/epitaphlaw29.OutboxUnsent", spec := "outboxUnsent", unfollowed := true, recurses := true, plainKeys := false, apart := false }
def OutboxUnsentSaid : Prop := outboxUnsentRow.holds Tryz.pinned (OpenSpec.ofChange outboxUnsentSpec)

/-- ITS FALSE NEIGHBOUR: 'it returns false'. Refute it at one input. -/
def outboxUnsentWrong : ChangeSpec := { name := "outboxUnsent", fn := fun _ => fun
  | [d1, d2, d3] => { results := [.lit (.bool false)], args := [d1, d2, d3] }
  | _ => none }
def OutboxUnsentWrongFalsely : Prop := outboxUnsentRow.holds Tryz.pinned (OpenSpec.ofChange outboxUnsentWrong)

/-- 'epitaphlaw18.BookFrom': WHATEVER THE INPUT: true; the input reads as it did. -/
def bookFromSpec : ChangeSpec := { name := "bookFrom", fn := fun _ => fun
  | [d1, d2, d3] => { results := [.lit (.bool true)], args := [d1, d2, d3] }
  | _ => none }
def bookFromRow : OpenClaim := { program := "ytipkoiklahndlaagreat", sum := "c9816652e30301f193b5cda6bbfbc72f2e048c2d36767a0c628e526cda04a629", func := "epitaph/epitaphlaw18.BookFrom", spec := "bookFrom", unfollowed := true, recurses := true, plainKeys := false, apart := false }
def BookFromSaid : Prop := bookFromRow.holds Tryz.pinned (OpenSpec.ofChange bookFromSpec)

/-- ITS FALSE NEIGHBOUR: 'it returns false'. Refute it at one input. -/
def bookFromWrong : ChangeSpec := { name := "bookFrom", fn := fun _ => fun
  | [d1, d2, d3] => { results := [.lit (.bool false)], args := [d1, d2, d3] }
  | _ => none }
def BookFromWrongFalsely : Prop := bookFromRow.holds Tryz.pinned (OpenSpec.ofChange bookFromWrong)

/-- 'epitaphlaw20.DeltaSays': WHATEVER THE INPUT: true; the input reads as it did. -/
def deltaSaysSpec : ChangeSpec := { name := "deltaSays", fn := fun _ => fun
  | [d1, d2, d3] => { results := [.lit (.bool true)], args := [d1, d2, d3] }
  | _ => none }
def deltaSaysRow : OpenClaim := { program := "ytipkoiklahndlaagreat", sum := "c9816652e30301f193b5cda6bbfbc72f2e048c2d36767a0c628e526cda04a629", func := "epitaph/epitaphlaw20.DeltaSays", spec := "deltaSays", unfollowed := true, recurses := true, plainKeys := false, apart := false }
def DeltaSaysSaid : Prop := deltaSaysRow.holds Tryz.pinned (OpenSpec.ofChange deltaSaysSpec)

/-- ITS FALSE NEIGHBOUR: 'it returns false'. Refute it at one input. -/
def deltaSaysWrong : ChangeSpec := { name := "deltaSays", fn := fun _ => fun
  | [d1, d2, d3] => { results := [.lit (.bool false)], args := [d1, d2, d3] }
  | _ => none }
def DeltaSaysWrongFalsely : Prop := deltaSaysRow.holds Tryz.pinned (OpenSpec.ofChange deltaSaysWrong)

/- THE SECOND FORM. 'bulk': how many values and letters a reading holds, each counted each time it is reached (what is shared counts as often as it is met; a slice's spare places count too). A statement '..UptoSaid' is the law's where the arguments, and the package variables that the reading takes, are together of bulk at most 1048576: NARROWER than '..Said'. Prove '..Said' where nothing that the law and all that it calls make is longer than what came in: it says more and counts as full. Else prove '..UptoSaid'. A law counts once. -/
mutual
def uptoBulk {H : Type} : DataW H → Nat
  | .lit (.string bytes) => bytes.length + 1
  | .lit _ => 1
  | .nil => 1
  | .ptr d => uptoBulk d + 1
  | .slice elems spare => uptoBulkAll elems + uptoBulkAll spare + 1
  | .agg parts => uptoBulkAll parts + 1
  | .iface _ d => uptoBulk d + 1
  | .map entries => uptoBulkEntries entries + 1
  | .held _ => 1
def uptoBulkAll {H : Type} : List (DataW H) → Nat
  | [] => 0
  | d :: r => uptoBulk d + uptoBulkAll r
def uptoBulkEntries {H : Type} : List (Lit × DataW H) → Nat
  | [] => 0
  | x :: r => uptoBulkEntry x + uptoBulkEntries r
def uptoBulkEntry {H : Type} : Lit × DataW H → Nat
  | (.string bytes, d) => bytes.length + uptoBulk d + 1
  | (_, d) => uptoBulk d + 1
 end
def uptoSmall : (H : Type) → List (DataW H) → Bool := fun _ ds => decide (uptoBulkAll ds ≤ 1048576)
def OpenSpec.upto (s : _root_.Go.ChangeSpec) : _root_.Go.OpenSpec := { _root_.Go.OpenSpec.ofChange s with cond := some uptoSmall }

/-- 'epitaphlaw21.BcodeWrites', WHERE WHAT IT READS IS OF BULK AT MOST 1048576: true; the input reads as it did. -/
def bcodeWritesUptoRow : OpenClaim := { program := "ytipkoiklahndlaagreat", sum := "c9816652e30301f193b5cda6bbfbc72f2e048c2d36767a0c628e526cda04a629", func := "epitaph/epitaphlaw21.BcodeWrites", spec := "bcodeWrites", unfollowed := true, recurses := true, plainKeys := false, apart := false, narrowed := true }
def BcodeWritesUptoSaid : Prop := bcodeWritesUptoRow.holds Tryz.pinned (OpenSpec.upto bcodeWritesSpec)

/-- 'epitaphlaw29.OutboxUnsent', WHERE WHAT IT READS IS OF BULK AT MOST 1048576: true; the input reads as it did. -/
def outboxUnsentUptoRow : OpenClaim := { program := "ytipkoiklahndlaagreat", sum := "c9816652e30301f193b5cda6bbfbc72f2e048c2d36767a0c628e526cda04a629", func := "epitaph/epitaphlaw29.OutboxUnsent", spec := "outboxUnsent", unfollowed := true, recurses := true, plainKeys := false, apart := false, narrowed := true }
def OutboxUnsentUptoSaid : Prop := outboxUnsentUptoRow.holds Tryz.pinned (OpenSpec.upto outboxUnsentSpec)

/-- 'epitaphlaw18.BookFrom', WHERE WHAT IT READS IS OF BULK AT MOST 1048576: true; the input reads as it did. -/
def bookFromUptoRow : OpenClaim := { program := "ytipkoiklahndlaagreat", sum := "c9816652e30301f193b5cda6bbfbc72f2e048c2d36767a0c628e526cda04a629", func := "epitaph/epitaphlaw18.BookFrom", spec := "bookFrom", unfollowed := true, recurses := true, plainKeys := false, apart := false, narrowed := true }
def BookFromUptoSaid : Prop := bookFromUptoRow.holds Tryz.pinned (OpenSpec.upto bookFromSpec)

/-- 'epitaphlaw20.DeltaSays', WHERE WHAT IT READS IS OF BULK AT MOST 1048576: true; the input reads as it did. -/
def deltaSaysUptoRow : OpenClaim := { program := "ytipkoiklahndlaagreat", sum := "c9816652e30301f193b5cda6bbfbc72f2e048c2d36767a0c628e526cda04a629", func := "epitaph/epitaphlaw20.DeltaSays", spec := "deltaSays", unfollowed := true, recurses := true, plainKeys := false, apart := false, narrowed := true }
def DeltaSaysUptoSaid : Prop := deltaSaysUptoRow.holds Tryz.pinned (OpenSpec.upto deltaSaysSpec)

end Rows
end Go.Proofs.YtipkoiklahndlaaGreat

/-
  No cell of these rows narrows 'for every input' (looked for: loops, veiled, ifaces, maps, wideKeys, modest, calm, conditions, laid).
  DERIVED. THE GIVEN ROWS OF THIS SEAT. 4 by the template 'for every input the law returns true; each argument reads behind the call as it read before'; 0 by the template 'total and deterministic' (their statements: YthmblgneimcgpaaGreatTotals.lean).
  GIVEN WITH THE SEED: the statements are not yours to turn. If you find one false, say at which input.
  Laid BY PROGRAM, IN A SANDBOX (cutbox-rows.mjs): the forced cells as the released guide's own fill.sh prints them over the translation 9da7417df5cca28b… (all of the seat's roots in one cut). By AI agents, Wed Nov 11 2026. No macro, syntax, notation, axiom, sorry.
-/
import Derived.Test.YthmblgneimcgpaaGreatChecked
import GoSem.Claim
import GoSem.ClaimJoined
import GoSem.ClaimMapViews
import Derived.JoinedTies
import Derived.KernelRfl
namespace Go.Proofs.YthmblgneimcgpaaGreat
/- THE CELL 'sum', in the pinned program and in every row, IS THE sha256 OF THE DUMP (.gsa) THAT YthmblgneimcgpaaGreatProg.lean LOADS. Nothing in Lean hashes anything: it is a label: what it is worth is what the hold of that sum in a sandbox is worth. -/
noncomputable def Tryz.pinned : Pinned := { name := "ythmblgneimcgpaagreat", sum := "9da7417df5cca28b941dbd856d331fe47c651787c6b842608b69f4549ea72085", checked := Tryz.checked }
namespace Rows
def none {H : Type} : Left H := { results := [], args := [] }

/-- 'epitaphlaw25.AckFront': WHATEVER THE INPUT: true; the input reads as it did. -/
def ackFrontSpec : ChangeSpec := { name := "ackFront", fn := fun _ => fun
  | [d1, d2] => { results := [.lit (.bool true)], args := [d1, d2] }
  | _ => none }
def ackFrontRow : OpenClaim := { program := "ythmblgneimcgpaagreat", sum := "9da7417df5cca28b941dbd856d331fe47c651787c6b842608b69f4549ea72085", func := "epitaph/epitaphlaw25.AckFront", spec := "ackFront", unfollowed := true, recurses := true, plainKeys := false, apart := false }
def AckFrontSaid : Prop := ackFrontRow.holds Tryz.pinned (OpenSpec.ofChange ackFrontSpec)

/-- ITS FALSE NEIGHBOUR: 'it returns false'. Refute it at one input. -/
def ackFrontWrong : ChangeSpec := { name := "ackFront", fn := fun _ => fun
  | [d1, d2] => { results := [.lit (.bool false)], args := [d1, d2] }
  | _ => none }
def AckFrontWrongFalsely : Prop := ackFrontRow.holds Tryz.pinned (OpenSpec.ofChange ackFrontWrong)

/-- 'epitaphlaw25.AckBelow': WHATEVER THE INPUT: true; the input reads as it did. -/
def ackBelowSpec : ChangeSpec := { name := "ackBelow", fn := fun _ => fun
  | [d1, d2] => { results := [.lit (.bool true)], args := [d1, d2] }
  | _ => none }
def ackBelowRow : OpenClaim := { program := "ythmblgneimcgpaagreat", sum := "9da7417df5cca28b941dbd856d331fe47c651787c6b842608b69f4549ea72085", func := "epitaph/epitaphlaw25.AckBelow", spec := "ackBelow", unfollowed := true, recurses := true, plainKeys := false, apart := false }
def AckBelowSaid : Prop := ackBelowRow.holds Tryz.pinned (OpenSpec.ofChange ackBelowSpec)

/-- ITS FALSE NEIGHBOUR: 'it returns false'. Refute it at one input. -/
def ackBelowWrong : ChangeSpec := { name := "ackBelow", fn := fun _ => fun
  | [d1, d2] => { results := [.lit (.bool false)], args := [d1, d2] }
  | _ => none }
def AckBelowWrongFalsely : Prop := ackBelowRow.holds Tryz.pinned (OpenSpec.ofChange ackBelowWrong)

/-- 'epitaphlaw25.AckPlays': WHATEVER THE INPUT: true; the input reads as it did. -/
def ackPlaysSpec : ChangeSpec := { name := "ackPlays", fn := fun _ => fun
  | [d1, d2, d3] => { results := [.lit (.bool true)], args := [d1, d2, d3] }
  | _ => none }
def ackPlaysRow : OpenClaim := { program := "ythmblgneimcgpaagreat", sum := "9da7417df5cca28b941dbd856d331fe47c651787c6b842608b69f4549ea72085", func := "epitaph/epitaphlaw25.AckPlays", spec := "ackPlays", unfollowed := true, recurses := true, plainKeys := false, apart := false }
def AckPlaysSaid : Prop := ackPlaysRow.holds Tryz.pinned (OpenSpec.ofChange ackPlaysSpec)

/-- ITS FALSE NEIGHBOUR: 'it returns false'. Refute it at one input. -/
def ackPlaysWrong : ChangeSpec := { name := "ackPlays", fn := fun _ => fun
  | [d1, d2, d3] => { results := [.lit (.bool false)], args := [d1, d2, d3] }
  | _ => none }
def AckPlaysWrongFalsely : Prop := ackPlaysRow.holds Tryz.pinned (OpenSpec.ofChange ackPlaysWrong)

/-- 'epitaphlaw25.AckNil': WHATEVER THE INPUT: true; the input reads as it did. -/
def ackNilSpec : ChangeSpec := { name := "ackNil", fn := fun _ => fun
  | [d1, d2] => { results := [.lit (.bool true)], args := [d1, d2] }
  | _ => none }
def ackNilRow : OpenClaim := { program := "ythmblgneimcgpaagreat", sum := "9da7417df5cca28b941dbd856d331fe47c651787c6b842608b69f4549ea72085", func := "epitaph/epitaphlaw25.AckNil", spec := "ackNil", unfollowed := true, recurses := true, plainKeys := false, apart := false }
def AckNilSaid : Prop := ackNilRow.holds Tryz.pinned (OpenSpec.ofChange ackNilSpec)

/-- ITS FALSE NEIGHBOUR: 'it returns false'. Refute it at one input. -/
def ackNilWrong : ChangeSpec := { name := "ackNil", fn := fun _ => fun
  | [d1, d2] => { results := [.lit (.bool false)], args := [d1, d2] }
  | _ => none }
def AckNilWrongFalsely : Prop := ackNilRow.holds Tryz.pinned (OpenSpec.ofChange ackNilWrong)

/- THE SECOND FORM. 'bulk': how many values and letters a reading holds, each counted each time it is reached (what is shared counts as often as it is met; a slice's spare places count too). A statement '..UptoSaid' is the law's where the arguments, and the package variables that the reading takes, are together of bulk at most 1048576: NARROWER than '..Said'. Prove '..Said' where nothing that the law and all that it calls make is longer than what came in: it says more and counts as full. Else prove '..UptoSaid'. A law counts once. -/
mutual
def uptoBulk {H : Type} : DataW H → Nat
  | .lit (.string bytes) => bytes.length + 1
  | .lit _ => 1
  | .nil => 1
  | .ptr d => uptoBulk d + 1
  | .slice elems spare => uptoBulkAll elems + uptoBulkAll spare + 1
  | .agg parts => uptoBulkAll parts + 1
  | .iface _ d => uptoBulk d + 1
  | .map entries => uptoBulkEntries entries + 1
  | .held _ => 1
def uptoBulkAll {H : Type} : List (DataW H) → Nat
  | [] => 0
  | d :: r => uptoBulk d + uptoBulkAll r
def uptoBulkEntries {H : Type} : List (Lit × DataW H) → Nat
  | [] => 0
  | x :: r => uptoBulkEntry x + uptoBulkEntries r
def uptoBulkEntry {H : Type} : Lit × DataW H → Nat
  | (.string bytes, d) => bytes.length + uptoBulk d + 1
  | (_, d) => uptoBulk d + 1
 end
def uptoSmall : (H : Type) → List (DataW H) → Bool := fun _ ds => decide (uptoBulkAll ds ≤ 1048576)
def OpenSpec.upto (s : _root_.Go.ChangeSpec) : _root_.Go.OpenSpec := { _root_.Go.OpenSpec.ofChange s with cond := some uptoSmall }

/-- 'epitaphlaw25.AckFront', WHERE WHAT IT READS IS OF BULK AT MOST 1048576: true; the input reads as it did. -/
def ackFrontUptoRow : OpenClaim := { program := "ythmblgneimcgpaagreat", sum := "9da7417df5cca28b941dbd856d331fe47c651787c6b842608b69f4549ea72085", func := "epitaph/epitaphlaw25.AckFront", spec := "ackFront", unfollowed := true, recurses := true, plainKeys := false, apart := false, narrowed := true }
def AckFrontUptoSaid : Prop := ackFrontUptoRow.holds Tryz.pinned (OpenSpec.upto ackFrontSpec)

/-- 'epitaphlaw25.AckBelow', WHERE WHAT IT READS IS OF BULK AT MOST 1048576: true; the input reads as it did. -/
def ackBelowUptoRow : OpenClaim := { program := "ythmblgneimcgpaagreat", sum := "9da7417df5cca28b941dbd856d331fe47c651787c6b842608b69f4549ea72085", func := "epitaph/epitaphlaw25.AckBelow", spec := "ackBelow", unfollowed := true, recurses := true, plainKeys := false, apart := false, narrowed := true }
def AckBelowUptoSaid : Prop := ackBelowUptoRow.holds Tryz.pinned (OpenSpec.upto ackBelowSpec)

/-- 'epitaphlaw25.AckPlays', WHERE WHAT IT READS IS OF BULK AT MOST 1048576: true; the input reads as it did. -/
def ackPlaysUptoRow : OpenClaim := { program := "ythmblgneimcgpaagreat", sum := "9da7417df5cca28b941dbd856d331fe47c651787c6b842608b69f4549ea72085", func := "epitaph/epitaphlaw25.AckPlays", spec := "ackPlays", unfollowed := true, recurses := true, plainKeys := false, apart := false, narrowed := true }
def AckPlaysUptoSaid : Prop := ackPlaysUptoRow.holds Tryz.pinned (OpenSpec.upto ackPlaysSpec)

/-- 'epitaphlaw25.AckNil', WHERE WHAT IT READS IS OF BULK AT MOST 1048576: true; the input reads as it did. -/
def ackNilUptoRow : OpenClaim := { program := "ythmblgneimcgpaagreat", sum := "9da7417df5cca28b941dbd856d331fe47c651787c6b842608b69f4549ea72085", func := "epitaph/epitaphlaw25.AckNil", spec := "ackNil", unfollowed := true, recurses := true, plainKeys := false, apart := false, narrowed := true }
def AckNilUptoSaid : Prop := ackNilUptoRow.holds Tryz.pinned (OpenSpec.upto ackNilSpec)

end Rows
end Go.Proofs.YthmblgneimcgpaaGreat

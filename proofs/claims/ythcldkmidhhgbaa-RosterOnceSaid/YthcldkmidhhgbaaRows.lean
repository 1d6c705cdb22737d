/-
  No cell of these rows narrows 'for every input' (looked for: loops, veiled, ifaces, maps, wideKeys, modest, calm, conditions, laid).
  DERIVED. THE GIVEN ROWS OF THIS SEAT. 4 by the template 'for every input the law returns true; each argument reads behind the call as it read before'; 0 by the template 'total and deterministic' (their statements: YthcldkmidhhgbaaTotals.lean).
  GIVEN WITH THE SEED: the statements are not yours to turn. If you find one false, say at which input.
  Laid BY PROGRAM, IN A SANDBOX (cutbox-rows.mjs): the forced cells as the released guide's own fill.sh prints them over the translation bc6b9ed89baf1752… (all of the seat's roots in one cut). By AI agents, Wed Nov 11 2026. No macro, syntax, notation, axiom, sorry.
-/
import Derived.Test.YthcldkmidhhgbaaChecked
import GoSem.Claim
import GoSem.ClaimJoined
import GoSem.ClaimMapViews
import Derived.JoinedTies
import Derived.KernelRfl
namespace Go.Proofs.Ythcldkmidhhgbaa
/- THE CELL 'sum', in the pinned program and in every row, IS THE sha256 OF THE DUMP (.gsa) THAT YthcldkmidhhgbaaProg.lean LOADS. Nothing in Lean hashes anything: it is a label: what it is worth is what the hold of that sum in a sandbox is worth. -/
noncomputable def Try.pinned : Pinned := { name := "ythcldkmidhhgbaa", sum := "bc6b9ed89baf1752c64f24cd6205827947f7b0f86ceffcdb98389cf3f6dd493f", checked := Try.checked }
namespace Rows
def none {H : Type} : Left H := { results := [], args := [] }

/-- 'epitaphlaw26.RosterOnce': WHATEVER THE INPUT: true; the input reads as it did. -/
def rosterOnceSpec : ChangeSpec := { name := "rosterOnce", fn := fun _ => fun
  | [d] => { results := [.lit (.bool true)], args := [d] }
  | _ => none }
def rosterOnceRow : OpenClaim := { program := "ythcldkmidhhgbaa", sum := "bc6b9ed89baf1752c64f24cd6205827947f7b0f86ceffcdb98389cf3f6dd493f", func := "epitaph/epitaphlaw26.RosterOnce", spec := "rosterOnce", unfollowed := true, recurses := true, apart := false }
def RosterOnceSaid : Prop := rosterOnceRow.holds Try.pinned (OpenSpec.ofChange rosterOnceSpec)

/-- ITS FALSE NEIGHBOUR: 'it returns false'. Refute it at one input. -/
def rosterOnceWrong : ChangeSpec := { name := "rosterOnce", fn := fun _ => fun
  | [d] => { results := [.lit (.bool false)], args := [d] }
  | _ => none }
def RosterOnceWrongFalsely : Prop := rosterOnceRow.holds Try.pinned (OpenSpec.ofChange rosterOnceWrong)

/-- 'epitaphlaw26.RosterFrom': WHATEVER THE INPUT: true; the input reads as it did. -/
def rosterFromSpec : ChangeSpec := { name := "rosterFrom", fn := fun _ => fun
  | [d1, d2, d3] => { results := [.lit (.bool true)], args := [d1, d2, d3] }
  | _ => none }
def rosterFromRow : OpenClaim := { program := "ythcldkmidhhgbaa", sum := "bc6b9ed89baf1752c64f24cd6205827947f7b0f86ceffcdb98389cf3f6dd493f", func := "epitaph/epitaphlaw26.RosterFrom", spec := "rosterFrom", unfollowed := true, recurses := true, apart := false }
def RosterFromSaid : Prop := rosterFromRow.holds Try.pinned (OpenSpec.ofChange rosterFromSpec)

/-- ITS FALSE NEIGHBOUR: 'it returns false'. Refute it at one input. -/
def rosterFromWrong : ChangeSpec := { name := "rosterFrom", fn := fun _ => fun
  | [d1, d2, d3] => { results := [.lit (.bool false)], args := [d1, d2, d3] }
  | _ => none }
def RosterFromWrongFalsely : Prop := rosterFromRow.holds Try.pinned (OpenSpec.ofChange rosterFromWrong)

/-- 'epitaphlaw26.RosterNil': WHATEVER THE INPUT: true; the input reads as it did. -/
def rosterNilSpec : ChangeSpec := { name := "rosterNil", fn := fun _ => fun
  | [d1, d2, d3] => { results := [.lit (.bool true)], args := [d1, d2, d3] }
  | _ => none }
def rosterNilRow : OpenClaim := { program := "ythcldkmidhhgbaa", sum := "bc6b9ed89baf1752c64f24cd6205827947f7b0f86ceffcdb98389cf3f6dd493f", func := "epitaph/epitaphlaw26.RosterNil", spec := "rosterNil", unfollowed := true, recurses := true, apart := false }
def RosterNilSaid : Prop := rosterNilRow.holds Try.pinned (OpenSpec.ofChange rosterNilSpec)

/-- ITS FALSE NEIGHBOUR: 'it returns false'. Refute it at one input. -/
def rosterNilWrong : ChangeSpec := { name := "rosterNil", fn := fun _ => fun
  | [d1, d2, d3] => { results := [.lit (.bool false)], args := [d1, d2, d3] }
  | _ => none }
def RosterNilWrongFalsely : Prop := rosterNilRow.holds Try.pinned (OpenSpec.ofChange rosterNilWrong)

/-- 'epitaphlaw26.RosterPlays': WHATEVER THE INPUT: true; the input reads as it did. -/
def rosterPlaysSpec : ChangeSpec := { name := "rosterPlays", fn := fun _ => fun
  | [d1, d2] => { results := [.lit (.bool true)], args := [d1, d2] }
  | _ => none }
def rosterPlaysRow : OpenClaim := { program := "ythcldkmidhhgbaa", sum := "bc6b9ed89baf1752c64f24cd6205827947f7b0f86ceffcdb98389cf3f6dd493f", func := "epitaph/epitaphlaw26.RosterPlays", spec := "rosterPlays", unfollowed := true, recurses := true, apart := false }
def RosterPlaysSaid : Prop := rosterPlaysRow.holds Try.pinned (OpenSpec.ofChange rosterPlaysSpec)

/-- ITS FALSE NEIGHBOUR: 'it returns false'. Refute it at one input. -/
def rosterPlaysWrong : ChangeSpec := { name := "rosterPlays", fn := fun _ => fun
  | [d1, d2] => { results := [.lit (.bool false)], args := [d1, d2] }
  | _ => none }
def RosterPlaysWrongFalsely : Prop := rosterPlaysRow.holds Try.pinned (OpenSpec.ofChange rosterPlaysWrong)

/- THE SECOND FORM. 'bulk': how many values and letters a reading holds, each counted each time it is reached (what is shared counts as often as it is met; a slice's spare places count too). A statement '..UptoSaid' is the law's where the arguments, and the package variables that the reading takes, are together of bulk at most 1048576: NARROWER than '..Said'. Prove '..Said' where nothing that the law and all that it calls make is longer than what came in: it says more and counts as full. Else prove '..UptoSaid'. A law counts once. -/
mutual
def uptoBulk {H : Type} : DataW H → Nat
  | .lit (.string bytes) => bytes.length + 1
  | .lit _ => 1
  | .nil => 1
  | .ptr d => uptoBulk d + 1
  | .slice elems spare => uptoBulkAll elems + uptoBulkAll spare + 1
  | .agg parts => uptoBulkAll parts + 1
  | .iface _ d => uptoBulk d + 1
  | .map entries => uptoBulkEntries entries + 1
  | .held _ => 1
def uptoBulkAll {H : Type} : List (DataW H) → Nat
  | [] => 0
  | d :: r => uptoBulk d + uptoBulkAll r
def uptoBulkEntries {H : Type} : List (Lit × DataW H) → Nat
  | [] => 0
  | x :: r => uptoBulkEntry x + uptoBulkEntries r
def uptoBulkEntry {H : Type} : Lit × DataW H → Nat
  | (.string bytes, d) => bytes.length + uptoBulk d + 1
  | (_, d) => uptoBulk d + 1
 end
def uptoSmall : (H : Type) → List (DataW H) → Bool := fun _ ds => decide (uptoBulkAll ds ≤ 1048576)
def OpenSpec.upto (s : _root_.Go.ChangeSpec) : _root_.Go.OpenSpec := { _root_.Go.OpenSpec.ofChange s with cond := some uptoSmall }

/-- 'epitaphlaw26.RosterOnce', WHERE WHAT IT READS IS OF BULK AT MOST 1048576: true; the input reads as it did. -/
def rosterOnceUptoRow : OpenClaim := { program := "ythcldkmidhhgbaa", sum := "bc6b9ed89baf1752c64f24cd6205827947f7b0f86ceffcdb98389cf3f6dd493f", func := "epitaph/epitaphlaw26.RosterOnce", spec := "rosterOnce", unfollowed := true, recurses := true, apart := false, narrowed := true }
def RosterOnceUptoSaid : Prop := rosterOnceUptoRow.holds Try.pinned (OpenSpec.upto rosterOnceSpec)

/-- 'epitaphlaw26.RosterFrom', WHERE WHAT IT READS IS OF BULK AT MOST 1048576: true; the input reads as it did. -/
def rosterFromUptoRow : OpenClaim := { program := "ythcldkmidhhgbaa", sum := "bc6b9ed89baf1752c64f24cd6205827947f7b0f86ceffcdb98389cf3f6dd493f", func := "epitaph/epitaphlaw26.RosterFrom", spec := "rosterFrom", unfollowed := true, recurses := true, apart := false, narrowed := true }
def RosterFromUptoSaid : Prop := rosterFromUptoRow.holds Try.pinned (OpenSpec.upto rosterFromSpec)

/-- 'epitaphlaw26.RosterNil', WHERE WHAT IT READS IS OF BULK AT MOST 1048576: true; the input reads as it did. -/
def rosterNilUptoRow : OpenClaim := { program := "ythcldkmidhhgbaa", sum := "bc6b9ed89baf1752c64f24cd6205827947f7b0f86ceffcdb98389cf3f6dd493f", func := "epitaph/epitaphlaw26.RosterNil", spec := "rosterNil", unfollowed := true, recurses := true, apart := false, narrowed := true }
def RosterNilUptoSaid : Prop := rosterNilUptoRow.holds Try.pinned (OpenSpec.upto rosterNilSpec)

/-- 'epitaphlaw26.RosterPlays', WHERE WHAT IT READS IS OF BULK AT MOST 1048576: true; the input reads as it did. -/
def rosterPlaysUptoRow : OpenClaim := { program := "ythcldkmidhhgbaa", sum := "bc6b9ed89baf1752c64f24cd6205827947f7b0f86ceffcdb98389cf3f6dd493f", func := "epitaph/epitaphlaw26.RosterPlays", spec := "rosterPlays", unfollowed := true, recurses := true, apart := false, narrowed := true }
def RosterPlaysUptoSaid : Prop := rosterPlaysUptoRow.holds Try.pinned (OpenSpec.upto rosterPlaysSpec)

end Rows
end Go.Proofs.Ythcldkmidhhgbaa

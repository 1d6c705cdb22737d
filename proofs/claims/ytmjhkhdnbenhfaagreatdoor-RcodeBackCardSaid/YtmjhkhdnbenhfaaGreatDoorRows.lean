/-
  NARROWER THAN 'FOR EVERY INPUT', by the rows' own cells (each row's printed sentence says how): RcodeBack: laid · RcodeOnce: laid.
  DERIVED. THE GIVEN ROWS OF THIS SEAT. 2 by the template 'for every input the law returns true; each argument reads behind the call as it read before'; 0 by the template 'total and deterministic' (their statements: YtmjhkhdnbenhfaaGreatDoorTotals.lean).
  GIVEN WITH THE SEED: the statements are not yours to turn. If you find one false, say at which input.
  Laid BY PROGRAM, IN A SANDBOX (cutbox-rows.mjs): the forced cells as the released guide's own fill.sh prints them over the translation ec059b5454d772d4… (all of the seat's roots in one cut). By AI agents, Wed Nov 11 2026. No macro, syntax, notation, axiom, sorry.
-/
import Derived.Test.YtmjhkhdnbenhfaaGreatDoorChecked
import GoSem.Claim
import GoSem.ClaimJoined
import GoSem.ClaimMapViews
import Derived.JoinedTies
import Derived.KernelRfl
namespace Go.Proofs.YtmjhkhdnbenhfaaGreatDoor
/- THE CELL 'sum', in the pinned program and in every row, IS THE sha256 OF THE DUMP (.gsa) THAT YtmjhkhdnbenhfaaGreatDoorProg.lean LOADS. Nothing in Lean hashes anything: it is a label: what it is worth is what the hold of that sum in a sandbox is worth. -/
noncomputable def Tryz.pinned : Pinned := { name := "ytmjhkhdnbenhfaagreatdoor", sum := "ec059b5454d772d4317e642e89ee1322d501264358a98dfd51f3acd93e78c9a6", checked := Tryz.checked }
namespace Rows
def none {H : Type} : Left H := { results := [], args := [] }

/- WHAT THE LISTED PACKAGE-LEVEL VARIABLES READ AS WHEN THE CALL BEGINS. Each datum BY PROGRAM (the guide's laid-datum.mjs) off the statement by which the dump's own 'gosem.cut.vars' lays the variable. In a bare row this is a premise. The card (YtmjhkhdnbenhfaaGreatDoorCards.lean) ties it to the program's text. -/
def laid_epitaph_rcode_named {H : Type} : DataW H := .agg [.lit (.int .i64 0), .lit (.int .i64 16), .lit (.int .i64 192), .lit (.int .i64 76), .lit (.int .i64 32), .lit (.int .i64 0), .lit (.int .i64 2), .lit (.int .i64 3), .lit (.int .i64 292), .lit (.int .i64 36), .lit (.int .i64 4)]

/-- 'epitaphlaw31.RcodeBack': WHATEVER THE INPUT: true; the input reads as it did. -/
def rcodeBackSpec : ChangeSpec := { name := "rcodeBack", fn := fun _ => fun
  | [d1, d2] => { results := [.lit (.bool true)], args := [d1, d2] }
  | _ => none }
def rcodeBackRow : OpenClaim := { program := "ytmjhkhdnbenhfaagreatdoor", sum := "ec059b5454d772d4317e642e89ee1322d501264358a98dfd51f3acd93e78c9a6", func := "epitaph/epitaphlaw31.RcodeBack", spec := "rcodeBack", unfollowed := true, recurses := true, named := ["epitaph/rcode.named"], plainKeys := false, apart := false, laid := [("epitaph/rcode.named", laid_epitaph_rcode_named)] }
def RcodeBackSaid : Prop := rcodeBackRow.holds Tryz.pinned (OpenSpec.ofChange rcodeBackSpec)

/-- ITS FALSE NEIGHBOUR: 'it returns false'. Refute it at one input. -/
def rcodeBackWrong : ChangeSpec := { name := "rcodeBack", fn := fun _ => fun
  | [d1, d2] => { results := [.lit (.bool false)], args := [d1, d2] }
  | _ => none }
def RcodeBackWrongFalsely : Prop := rcodeBackRow.holds Tryz.pinned (OpenSpec.ofChange rcodeBackWrong)

/-- 'epitaphlaw31.RcodeOnce': WHATEVER THE INPUT: true; the input reads as it did. -/
def rcodeOnceSpec : ChangeSpec := { name := "rcodeOnce", fn := fun _ => fun
  | [d] => { results := [.lit (.bool true)], args := [d] }
  | _ => none }
def rcodeOnceRow : OpenClaim := { program := "ytmjhkhdnbenhfaagreatdoor", sum := "ec059b5454d772d4317e642e89ee1322d501264358a98dfd51f3acd93e78c9a6", func := "epitaph/epitaphlaw31.RcodeOnce", spec := "rcodeOnce", unfollowed := true, recurses := true, named := ["epitaph/rcode.named"], plainKeys := false, apart := false, laid := [("epitaph/rcode.named", laid_epitaph_rcode_named)] }
def RcodeOnceSaid : Prop := rcodeOnceRow.holds Tryz.pinned (OpenSpec.ofChange rcodeOnceSpec)

/-- ITS FALSE NEIGHBOUR: 'it returns false'. Refute it at one input. -/
def rcodeOnceWrong : ChangeSpec := { name := "rcodeOnce", fn := fun _ => fun
  | [d] => { results := [.lit (.bool false)], args := [d] }
  | _ => none }
def RcodeOnceWrongFalsely : Prop := rcodeOnceRow.holds Tryz.pinned (OpenSpec.ofChange rcodeOnceWrong)

/- THE SECOND FORM. 'bulk': how many values and letters a reading holds, each counted each time it is reached (what is shared counts as often as it is met; a slice's spare places count too). A statement '..UptoSaid' is the law's where the arguments, and the package variables that the reading takes, are together of bulk at most 1048576: NARROWER than '..Said'. Prove '..Said' where nothing that the law and all that it calls make is longer than what came in: it says more and counts as full. Else prove '..UptoSaid'. A law counts once. -/
mutual
def uptoBulk {H : Type} : DataW H → Nat
  | .lit (.string bytes) => bytes.length + 1
  | .lit _ => 1
  | .nil => 1
  | .ptr d => uptoBulk d + 1
  | .slice elems spare => uptoBulkAll elems + uptoBulkAll spare + 1
  | .agg parts => uptoBulkAll parts + 1
  | .iface _ d => uptoBulk d + 1
  | .map entries => uptoBulkEntries entries + 1
  | .held _ => 1
def uptoBulkAll {H : Type} : List (DataW H) → Nat
  | [] => 0
  | d :: r => uptoBulk d + uptoBulkAll r
def uptoBulkEntries {H : Type} : List (Lit × DataW H) → Nat
  | [] => 0
  | x :: r => uptoBulkEntry x + uptoBulkEntries r
def uptoBulkEntry {H : Type} : Lit × DataW H → Nat
  | (.string bytes, d) => bytes.length + uptoBulk d + 1
  | (_, d) => uptoBulk d + 1
 end
def uptoSmall : (H : Type) → List (DataW H) → Bool := fun _ ds => decide (uptoBulkAll ds ≤ 1048576)
def OpenSpec.upto (s : _root_.Go.ChangeSpec) : _root_.Go.OpenSpec := { _root_.Go.OpenSpec.ofChange s with cond := some uptoSmall }

/-- 'epitaphlaw31.RcodeBack', WHERE WHAT IT READS IS OF BULK AT MOST 1048576: true; the input reads as it did. -/
def rcodeBackUptoRow : OpenClaim := { program := "ytmjhkhdnbenhfaagreatdoor", sum := "ec059b5454d772d4317e642e89ee1322d501264358a98dfd51f3acd93e78c9a6", func := "epitaph/epitaphlaw31.RcodeBack", spec := "rcodeBack", unfollowed := true, recurses := true, named := ["epitaph/rcode.named"], plainKeys := false, apart := false, laid := [("epitaph/rcode.named", laid_epitaph_rcode_named)], narrowed := true }
def RcodeBackUptoSaid : Prop := rcodeBackUptoRow.holds Tryz.pinned (OpenSpec.upto rcodeBackSpec)

/-- 'epitaphlaw31.RcodeOnce', WHERE WHAT IT READS IS OF BULK AT MOST 1048576: true; the input reads as it did. -/
def rcodeOnceUptoRow : OpenClaim := { program := "ytmjhkhdnbenhfaagreatdoor", sum := "ec059b5454d772d4317e642e89ee1322d501264358a98dfd51f3acd93e78c9a6", func := "epitaph/epitaphlaw31.RcodeOnce", spec := "rcodeOnce", unfollowed := true, recurses := true, named := ["epitaph/rcode.named"], plainKeys := false, apart := false, laid := [("epitaph/rcode.named", laid_epitaph_rcode_named)], narrowed := true }
def RcodeOnceUptoSaid : Prop := rcodeOnceUptoRow.holds Tryz.pinned (OpenSpec.upto rcodeOnceSpec)

end Rows
end Go.Proofs.YtmjhkhdnbenhfaaGreatDoor

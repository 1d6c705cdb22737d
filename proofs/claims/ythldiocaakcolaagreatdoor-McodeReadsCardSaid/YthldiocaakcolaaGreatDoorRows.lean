/-
  NARROWER THAN 'FOR EVERY INPUT', by the rows' own cells (each row's printed sentence says how): McodeReads: laid · McodeBack: laid · McodeOnce: laid.
  DERIVED. THE GIVEN ROWS OF THIS SEAT. 3 by the template 'for every input the law returns true; each argument reads behind the call as it read before'; 0 by the template 'total and deterministic' (their statements: YthldiocaakcolaaGreatDoorTotals.lean).
  GIVEN WITH THE SEED: the statements are not yours to turn. If you find one false, say at which input.
  Laid BY PROGRAM, IN A SANDBOX (cutbox-rows.mjs): the forced cells as the released guide's own fill.sh prints them over the translation 2fe5c68e117b366c… (all of the seat's roots in one cut). By AI agents, Wed Nov 11 2026. No macro, syntax, notation, axiom, sorry.
-/
import Derived.Test.YthldiocaakcolaaGreatDoorChecked
import GoSem.Claim
import GoSem.ClaimJoined
import GoSem.ClaimMapViews
import Derived.JoinedTies
import Derived.KernelRfl
namespace Go.Proofs.YthldiocaakcolaaGreatDoor
/- THE CELL 'sum', in the pinned program and in every row, IS THE sha256 OF THE DUMP (.gsa) THAT YthldiocaakcolaaGreatDoorProg.lean LOADS. Nothing in Lean hashes anything: it is a label: what it is worth is what the hold of that sum in a sandbox is worth. -/
noncomputable def Tryz.pinned : Pinned := { name := "ythldiocaakcolaagreatdoor", sum := "2fe5c68e117b366cf1a34ecd4af9bd46f46b7a2cb9bf1bb8602edf73822b3a6b", checked := Tryz.checked }
namespace Rows
def none {H : Type} : Left H := { results := [], args := [] }

/- WHAT THE LISTED PACKAGE-LEVEL VARIABLES READ AS WHEN THE CALL BEGINS. Each datum BY PROGRAM (the guide's laid-datum.mjs) off the statement by which the dump's own 'gosem.cut.vars' lays the variable. In a bare row this is a premise. The card (YthldiocaakcolaaGreatDoorCards.lean) ties it to the program's text. -/
def laid_epitaph_crc_four {H : Type} : DataW H := .agg [.lit (.int .u32 0), .lit (.int .u32 498536548), .lit (.int .u32 997073096), .lit (.int .u32 651767980), .lit (.int .u32 1994146192), .lit (.int .u32 1802195444), .lit (.int .u32 1303535960), .lit (.int .u32 1342533948), .lit (.int .u32 3988292384), .lit (.int .u32 4027552580), .lit (.int .u32 3604390888), .lit (.int .u32 3412177804), .lit (.int .u32 2607071920), .lit (.int .u32 2262029012), .lit (.int .u32 2685067896), .lit (.int .u32 3183342108)]

/-- 'epitaphlaw28.McodeReads': WHATEVER THE INPUT: true; the input reads as it did. -/
def mcodeReadsSpec : ChangeSpec := { name := "mcodeReads", fn := fun _ => fun
  | [d1, d2] => { results := [.lit (.bool true)], args := [d1, d2] }
  | _ => none }
def mcodeReadsRow : OpenClaim := { program := "ythldiocaakcolaagreatdoor", sum := "2fe5c68e117b366cf1a34ecd4af9bd46f46b7a2cb9bf1bb8602edf73822b3a6b", func := "epitaph/epitaphlaw28.McodeReads", spec := "mcodeReads", unfollowed := true, recurses := true, named := ["epitaph/crc.four"], apart := false, laid := [("epitaph/crc.four", laid_epitaph_crc_four)] }
def McodeReadsSaid : Prop := mcodeReadsRow.holds Tryz.pinned (OpenSpec.ofChange mcodeReadsSpec)

/-- ITS FALSE NEIGHBOUR: 'it returns false'. Refute it at one input. -/
def mcodeReadsWrong : ChangeSpec := { name := "mcodeReads", fn := fun _ => fun
  | [d1, d2] => { results := [.lit (.bool false)], args := [d1, d2] }
  | _ => none }
def McodeReadsWrongFalsely : Prop := mcodeReadsRow.holds Tryz.pinned (OpenSpec.ofChange mcodeReadsWrong)

/-- 'epitaphlaw28.McodeBack': WHATEVER THE INPUT: true; the input reads as it did. -/
def mcodeBackSpec : ChangeSpec := { name := "mcodeBack", fn := fun _ => fun
  | [d1, d2, d3] => { results := [.lit (.bool true)], args := [d1, d2, d3] }
  | _ => none }
def mcodeBackRow : OpenClaim := { program := "ythldiocaakcolaagreatdoor", sum := "2fe5c68e117b366cf1a34ecd4af9bd46f46b7a2cb9bf1bb8602edf73822b3a6b", func := "epitaph/epitaphlaw28.McodeBack", spec := "mcodeBack", unfollowed := true, recurses := true, named := ["epitaph/crc.four"], apart := false, laid := [("epitaph/crc.four", laid_epitaph_crc_four)] }
def McodeBackSaid : Prop := mcodeBackRow.holds Tryz.pinned (OpenSpec.ofChange mcodeBackSpec)

/-- ITS FALSE NEIGHBOUR: 'it returns false'. Refute it at one input. -/
def mcodeBackWrong : ChangeSpec := { name := "mcodeBack", fn := fun _ => fun
  | [d1, d2, d3] => { results := [.lit (.bool false)], args := [d1, d2, d3] }
  | _ => none }
def McodeBackWrongFalsely : Prop := mcodeBackRow.holds Tryz.pinned (OpenSpec.ofChange mcodeBackWrong)

/-- 'epitaphlaw28.McodeOnce': WHATEVER THE INPUT: true; the input reads as it did. -/
def mcodeOnceSpec : ChangeSpec := { name := "mcodeOnce", fn := fun _ => fun
  | [d1, d2] => { results := [.lit (.bool true)], args := [d1, d2] }
  | _ => none }
def mcodeOnceRow : OpenClaim := { program := "ythldiocaakcolaagreatdoor", sum := "2fe5c68e117b366cf1a34ecd4af9bd46f46b7a2cb9bf1bb8602edf73822b3a6b", func := "epitaph/epitaphlaw28.McodeOnce", spec := "mcodeOnce", unfollowed := true, recurses := true, named := ["epitaph/crc.four"], apart := false, laid := [("epitaph/crc.four", laid_epitaph_crc_four)] }
def McodeOnceSaid : Prop := mcodeOnceRow.holds Tryz.pinned (OpenSpec.ofChange mcodeOnceSpec)

/-- ITS FALSE NEIGHBOUR: 'it returns false'. Refute it at one input. -/
def mcodeOnceWrong : ChangeSpec := { name := "mcodeOnce", fn := fun _ => fun
  | [d1, d2] => { results := [.lit (.bool false)], args := [d1, d2] }
  | _ => none }
def McodeOnceWrongFalsely : Prop := mcodeOnceRow.holds Tryz.pinned (OpenSpec.ofChange mcodeOnceWrong)

/- THE SECOND FORM. 'bulk': how many values and letters a reading holds, each counted each time it is reached (what is shared counts as often as it is met; a slice's spare places count too). A statement '..UptoSaid' is the law's where the arguments, and the package variables that the reading takes, are together of bulk at most 1048576: NARROWER than '..Said'. Prove '..Said' where nothing that the law and all that it calls make is longer than what came in: it says more and counts as full. Else prove '..UptoSaid'. A law counts once. -/
mutual
def uptoBulk {H : Type} : DataW H → Nat
  | .lit (.string bytes) => bytes.length + 1
  | .lit _ => 1
  | .nil => 1
  | .ptr d => uptoBulk d + 1
  | .slice elems spare => uptoBulkAll elems + uptoBulkAll spare + 1
  | .agg parts => uptoBulkAll parts + 1
  | .iface _ d => uptoBulk d + 1
  | .map entries => uptoBulkEntries entries + 1
  | .held _ => 1
def uptoBulkAll {H : Type} : List (DataW H) → Nat
  | [] => 0
  | d :: r => uptoBulk d + uptoBulkAll r
def uptoBulkEntries {H : Type} : List (Lit × DataW H) → Nat
  | [] => 0
  | x :: r => uptoBulkEntry x + uptoBulkEntries r
def uptoBulkEntry {H : Type} : Lit × DataW H → Nat
  | (.string bytes, d) => bytes.length + uptoBulk d + 1
  | (_, d) => uptoBulk d + 1
 end
def uptoSmall : (H : Type) → List (DataW H) → Bool := fun _ ds => decide (uptoBulkAll ds ≤ 1048576)
def OpenSpec.upto (s : _root_.Go.ChangeSpec) : _root_.Go.OpenSpec := { _root_.Go.OpenSpec.ofChange s with cond := some uptoSmall }

/-- 'epitaphlaw28.McodeReads', WHERE WHAT IT READS IS OF BULK AT MOST 1048576: true; the input reads as it did. -/
def mcodeReadsUptoRow : OpenClaim := { program := "ythldiocaakcolaagreatdoor", sum := "2fe5c68e117b366cf1a34ecd4af9bd46f46b7a2cb9bf1bb8602edf73822b3a6b", func := "epitaph/epitaphlaw28.McodeReads", spec := "mcodeReads", unfollowed := true, recurses := true, named := ["epitaph/crc.four"], apart := false, laid := [("epitaph/crc.four", laid_epitaph_crc_four)], narrowed := true }
def McodeReadsUptoSaid : Prop := mcodeReadsUptoRow.holds Tryz.pinned (OpenSpec.upto mcodeReadsSpec)

/-- 'epitaphlaw28.McodeBack', WHERE WHAT IT READS IS OF BULK AT MOST 1048576: true; the input reads as it did. -/
def mcodeBackUptoRow : OpenClaim := { program := "ythldiocaakcolaagreatdoor", sum := "2fe5c68e117b366cf1a34ecd4af9bd46f46b7a2cb9bf1bb8602edf73822b3a6b", func := "epitaph/epitaphlaw28.McodeBack", spec := "mcodeBack", unfollowed := true, recurses := true, named := ["epitaph/crc.four"], apart := false, laid := [("epitaph/crc.four", laid_epitaph_crc_four)], narrowed := true }
def McodeBackUptoSaid : Prop := mcodeBackUptoRow.holds Tryz.pinned (OpenSpec.upto mcodeBackSpec)

/-- 'epitaphlaw28.McodeOnce', WHERE WHAT IT READS IS OF BULK AT MOST 1048576: true; the input reads as it did. -/
def mcodeOnceUptoRow : OpenClaim := { program := "ythldiocaakcolaagreatdoor", sum := "2fe5c68e117b366cf1a34ecd4af9bd46f46b7a2cb9bf1bb8602edf73822b3a6b", func := "epitaph/epitaphlaw28.McodeOnce", spec := "mcodeOnce", unfollowed := true, recurses := true, named := ["epitaph/crc.four"], apart := false, laid := [("epitaph/crc.four", laid_epitaph_crc_four)], narrowed := true }
def McodeOnceUptoSaid : Prop := mcodeOnceUptoRow.holds Tryz.pinned (OpenSpec.upto mcodeOnceSpec)

end Rows
end Go.Proofs.YthldiocaakcolaaGreatDoor

/-
  No cell of these rows narrows 'for every input' (looked for: loops, veiled, ifaces, maps, wideKeys, modest, calm, conditions, laid).
  DERIVED. THE GIVEN ROWS OF THIS SEAT. 3 by the template 'for every input the law returns true; each argument reads behind the call as it read before'; 0 by the template 'total and deterministic' (their statements: YtnejkopjonigeaaGreatTotals.lean).
  GIVEN WITH THE SEED: the statements are not yours to turn. If you find one false, say at which input.
  Laid BY PROGRAM, IN A SANDBOX (cutbox-rows.mjs): the forced cells as the released guide's own fill.sh prints them over the translation b965b2429246f7f1… (all of the seat's roots in one cut). By AI agents, Wed Nov 11 2026. No macro, syntax, notation, axiom, sorry.
-/
import Derived.Test.YtnejkopjonigeaaGreatChecked
import GoSem.Claim
import GoSem.ClaimJoined
import GoSem.ClaimMapViews
import Derived.JoinedTies
import Derived.KernelRfl
namespace Go.Proofs.YtnejkopjonigeaaGreat
/- THE CELL 'sum', in the pinned program and in every row, IS THE sha256 OF THE DUMP (.gsa) THAT YtnejkopjonigeaaGreatProg.lean LOADS. Nothing in Lean hashes anything: it is a label: what it is worth is what the hold of that sum in a sandbox is worth. -/
noncomputable def Tryz.pinned : Pinned := { name := "ytnejkopjonigeaagreat", sum := "b965b2429246f7f1f18b7bacad968620d7f741f2be9e04cbd52a396c3799e36b", checked := Tryz.checked }
namespace Rows
def none {H : Type} : Left H := { results := [], args := [] }

/-- 'epitaphlaw34.HcodePuts': WHATEVER THE INPUT: true; the input reads as it did. -/
def hcodePutsSpec : ChangeSpec := { name := "hcodePuts", fn := fun _ => fun
  | [d] => { results := [.lit (.bool true)], args := [d] }
  | _ => none }
def hcodePutsRow : OpenClaim := { program := "ytnejkopjonigeaagreat", sum := "b965b2429246f7f1f18b7bacad968620d7f741f2be9e04cbd52a396c3799e36b", func := "epitaph/epitaphlaw34.HcodePuts", spec := "hcodePuts", unfollowed := true, recurses := true, plainKeys := false, apart := false }
def HcodePutsSaid : Prop := hcodePutsRow.holds Tryz.pinned (OpenSpec.ofChange hcodePutsSpec)

/-- ITS FALSE NEIGHBOUR: 'it returns false'. Refute it at one input. -/
def hcodePutsWrong : ChangeSpec := { name := "hcodePuts", fn := fun _ => fun
  | [d] => { results := [.lit (.bool false)], args := [d] }
  | _ => none }
def HcodePutsWrongFalsely : Prop := hcodePutsRow.holds Tryz.pinned (OpenSpec.ofChange hcodePutsWrong)

/-- 'epitaphlaw34.HcodeGets': WHATEVER THE INPUT: true; the input reads as it did. -/
def hcodeGetsSpec : ChangeSpec := { name := "hcodeGets", fn := fun _ => fun
  | [d] => { results := [.lit (.bool true)], args := [d] }
  | _ => none }
def hcodeGetsRow : OpenClaim := { program := "ytnejkopjonigeaagreat", sum := "b965b2429246f7f1f18b7bacad968620d7f741f2be9e04cbd52a396c3799e36b", func := "epitaph/epitaphlaw34.HcodeGets", spec := "hcodeGets", unfollowed := true, recurses := true, plainKeys := false, apart := false }
def HcodeGetsSaid : Prop := hcodeGetsRow.holds Tryz.pinned (OpenSpec.ofChange hcodeGetsSpec)

/-- ITS FALSE NEIGHBOUR: 'it returns false'. Refute it at one input. -/
def hcodeGetsWrong : ChangeSpec := { name := "hcodeGets", fn := fun _ => fun
  | [d] => { results := [.lit (.bool false)], args := [d] }
  | _ => none }
def HcodeGetsWrongFalsely : Prop := hcodeGetsRow.holds Tryz.pinned (OpenSpec.ofChange hcodeGetsWrong)

/-- 'epitaphlaw34.HcodeBack': WHATEVER THE INPUT: true; the input reads as it did. -/
def hcodeBackSpec : ChangeSpec := { name := "hcodeBack", fn := fun _ => fun
  | [d1, d2] => { results := [.lit (.bool true)], args := [d1, d2] }
  | _ => none }
def hcodeBackRow : OpenClaim := { program := "ytnejkopjonigeaagreat", sum := "b965b2429246f7f1f18b7bacad968620d7f741f2be9e04cbd52a396c3799e36b", func := "epitaph/epitaphlaw34.HcodeBack", spec := "hcodeBack", unfollowed := true, recurses := true, plainKeys := false, apart := false }
def HcodeBackSaid : Prop := hcodeBackRow.holds Tryz.pinned (OpenSpec.ofChange hcodeBackSpec)

/-- ITS FALSE NEIGHBOUR: 'it returns false'. Refute it at one input. -/
def hcodeBackWrong : ChangeSpec := { name := "hcodeBack", fn := fun _ => fun
  | [d1, d2] => { results := [.lit (.bool false)], args := [d1, d2] }
  | _ => none }
def HcodeBackWrongFalsely : Prop := hcodeBackRow.holds Tryz.pinned (OpenSpec.ofChange hcodeBackWrong)

/- THE SECOND FORM. 'bulk': how many values and letters a reading holds, each counted each time it is reached (what is shared counts as often as it is met; a slice's spare places count too). A statement '..UptoSaid' is the law's where the arguments, and the package variables that the reading takes, are together of bulk at most 1048576: NARROWER than '..Said'. Prove '..Said' where nothing that the law and all that it calls make is longer than what came in: it says more and counts as full. Else prove '..UptoSaid'. A law counts once. -/
mutual
def uptoBulk {H : Type} : DataW H → Nat
  | .lit (.string bytes) => bytes.length + 1
  | .lit _ => 1
  | .nil => 1
  | .ptr d => uptoBulk d + 1
  | .slice elems spare => uptoBulkAll elems + uptoBulkAll spare + 1
  | .agg parts => uptoBulkAll parts + 1
  | .iface _ d => uptoBulk d + 1
  | .map entries => uptoBulkEntries entries + 1
  | .held _ => 1
def uptoBulkAll {H : Type} : List (DataW H) → Nat
  | [] => 0
  | d :: r => uptoBulk d + uptoBulkAll r
def uptoBulkEntries {H : Type} : List (Lit × DataW H) → Nat
  | [] => 0
  | x :: r => uptoBulkEntry x + uptoBulkEntries r
def uptoBulkEntry {H : Type} : Lit × DataW H → Nat
  | (.string bytes, d) => bytes.length + uptoBulk d + 1
  | (_, d) => uptoBulk d + 1
 end
def uptoSmall : (H : Type) → List (DataW H) → Bool := fun _ ds => decide (uptoBulkAll ds ≤ 1048576)
def OpenSpec.upto (s : _root_.Go.ChangeSpec) : _root_.Go.OpenSpec := { _root_.Go.OpenSpec.ofChange s with cond := some uptoSmall }

/-- 'epitaphlaw34.HcodePuts', WHERE WHAT IT READS IS OF BULK AT MOST 1048576: true; the input reads as it did. -/
def hcodePutsUptoRow : OpenClaim := { program := "ytnejkopjonigeaagreat", sum := "b965b2429246f7f1f18b7bacad968620d7f741f2be9e04cbd52a396c3799e36b", func := "epitaph/epitaphlaw34.HcodePuts", spec := "hcodePuts", unfollowed := true, recurses := true, plainKeys := false, apart := false, narrowed := true }
def HcodePutsUptoSaid : Prop := hcodePutsUptoRow.holds Tryz.pinned (OpenSpec.upto hcodePutsSpec)

/-- 'epitaphlaw34.HcodeGets', WHERE WHAT IT READS IS OF BULK AT MOST 1048576: true; the input reads as it did. -/
def hcodeGetsUptoRow : OpenClaim := { program := "ytnejkopjonigeaagreat", sum := "b965b2429246f7f1f18b7bacad968620d7f741f2be9e04cbd52a396c3799e36b", func := "epitaph/epitaphlaw34.HcodeGets", spec := "hcodeGets", unfollowed := true, recurses := true, plainKeys := false, apart := false, narrowed := true }
def HcodeGetsUptoSaid : Prop := hcodeGetsUptoRow.holds Tryz.pinned (OpenSpec.upto hcodeGetsSpec)

/-- 'epitaphlaw34.HcodeBack', WHERE WHAT IT READS IS OF BULK AT MOST 1048576: true; the input reads as it did. -/
def hcodeBackUptoRow : OpenClaim := { program := "ytnejkopjonigeaagreat", sum := "b965b2429246f7f1f18b7bacad968620d7f741f2be9e04cbd52a396c3799e36b", func := "epitaph/epitaphlaw34.HcodeBack", spec := "hcodeBack", unfollowed := true, recurses := true, plainKeys := false, apart := false, narrowed := true }
def HcodeBackUptoSaid : Prop := hcodeBackUptoRow.holds Tryz.pinned (OpenSpec.upto hcodeBackSpec)

end Rows
end Go.Proofs.YtnejkopjonigeaaGreat

/-
  DERIVED. GIVEN WITH THE SEED: THE CARDS: each row of YtmjhkhdnbenhfaaGreatDoorRows.lean that lists a variable, with what it lists TIED to the program's text (the seventh form; the later family's looks); each row that meets fmt, with fmt's text TOLD by the authors' own Lean function (tested against real Go, not proved from fmt's source: count such statements apart). THE CARD IS WHAT COUNTS. Prove the row's statement (the work); the ties are given (YtmjhkhdnbenhfaaGreatDoorTie.lean); close each card by the builder's one call (the guide's Derived/Test/ToyasCard.lean, 'card_holds'). Laid BY PROGRAM, IN A SANDBOX (cutbox-door.mjs). By AI agents, Wed Nov 11 2026. No macro, syntax, notation, axiom, sorry.
-/
import Derived.Test.YtmjhkhdnbenhfaaGreatDoorRows
import GoSem.ClaimSeven
namespace Go.Proofs.YtmjhkhdnbenhfaaGreatDoor
namespace Rows

/-- THE TIED CARD OF 'epitaphlaw31.RcodeBack'. -/
def rcodeBackCard : Claim7 := { stood := { row := rcodeBackRow, standIns := [], harness := (true, "7599d81d1f9558ceff0c87b3ab6edfe8ab2b5f4ed66e66e8d49867b738ce016f"), looks := false }, kinds := [], alts := [], laidByText := true, laidKinds := [.data], laidTests := true, laidLooks := .later }
def RcodeBackCardSaid : Prop := Claim7.holds Tryz.pinned (.plain (OpenSpec.ofChange rcodeBackSpec)) rcodeBackCard

/-- THE TIED CARD OF 'epitaphlaw31.RcodeOnce'. -/
def rcodeOnceCard : Claim7 := { stood := { row := rcodeOnceRow, standIns := [], harness := (true, "7599d81d1f9558ceff0c87b3ab6edfe8ab2b5f4ed66e66e8d49867b738ce016f"), looks := false }, kinds := [], alts := [], laidByText := true, laidKinds := [.data], laidTests := true, laidLooks := .later }
def RcodeOnceCardSaid : Prop := Claim7.holds Tryz.pinned (.plain (OpenSpec.ofChange rcodeOnceSpec)) rcodeOnceCard

/-- THE SECOND FORM's CARD OF 'epitaphlaw31.RcodeBack'. -/
def rcodeBackUptoCard : Claim7 := { stood := { row := rcodeBackUptoRow, standIns := [], harness := (true, "7599d81d1f9558ceff0c87b3ab6edfe8ab2b5f4ed66e66e8d49867b738ce016f"), looks := false }, kinds := [], alts := [], laidByText := true, laidKinds := [.data], laidTests := true, laidLooks := .later }
def RcodeBackUptoCardSaid : Prop := Claim7.holds Tryz.pinned (.plain (OpenSpec.upto rcodeBackSpec)) rcodeBackUptoCard

/-- THE SECOND FORM's CARD OF 'epitaphlaw31.RcodeOnce'. -/
def rcodeOnceUptoCard : Claim7 := { stood := { row := rcodeOnceUptoRow, standIns := [], harness := (true, "7599d81d1f9558ceff0c87b3ab6edfe8ab2b5f4ed66e66e8d49867b738ce016f"), looks := false }, kinds := [], alts := [], laidByText := true, laidKinds := [.data], laidTests := true, laidLooks := .later }
def RcodeOnceUptoCardSaid : Prop := Claim7.holds Tryz.pinned (.plain (OpenSpec.upto rcodeOnceSpec)) rcodeOnceUptoCard
end Rows
end Go.Proofs.YtmjhkhdnbenhfaaGreatDoor

/-
  DERIVED. GIVEN WITH THE SEED: THE CARDS: each row of YthldiocaakcolaaGreatDoorRows.lean that lists a variable, with what it lists TIED to the program's text (the seventh form; the later family's looks); each row that meets fmt, with fmt's text TOLD by the authors' own Lean function (tested against real Go, not proved from fmt's source: count such statements apart). THE CARD IS WHAT COUNTS. Prove the row's statement (the work); the ties are given (YthldiocaakcolaaGreatDoorTie.lean); close each card by the builder's one call (the guide's Derived/Test/ToyasCard.lean, 'card_holds'). Laid BY PROGRAM, IN A SANDBOX (cutbox-door.mjs). By AI agents, Wed Nov 11 2026. No macro, syntax, notation, axiom, sorry.
-/
import Derived.Test.YthldiocaakcolaaGreatDoorRows
import GoSem.ClaimSeven
namespace Go.Proofs.YthldiocaakcolaaGreatDoor
namespace Rows

/-- THE TIED CARD OF 'epitaphlaw28.McodeReads'. -/
def mcodeReadsCard : Claim7 := { stood := { row := mcodeReadsRow, standIns := [], harness := (true, "f3e69270dee762545e6af70ee01f07fa33381a4aabf06a8717a8966aceeda187"), looks := false }, kinds := [], alts := [], laidByText := true, laidKinds := [.data], laidTests := true, laidLooks := .later }
def McodeReadsCardSaid : Prop := Claim7.holds Tryz.pinned (.plain (OpenSpec.ofChange mcodeReadsSpec)) mcodeReadsCard

/-- THE TIED CARD OF 'epitaphlaw28.McodeBack'. -/
def mcodeBackCard : Claim7 := { stood := { row := mcodeBackRow, standIns := [], harness := (true, "f3e69270dee762545e6af70ee01f07fa33381a4aabf06a8717a8966aceeda187"), looks := false }, kinds := [], alts := [], laidByText := true, laidKinds := [.data], laidTests := true, laidLooks := .later }
def McodeBackCardSaid : Prop := Claim7.holds Tryz.pinned (.plain (OpenSpec.ofChange mcodeBackSpec)) mcodeBackCard

/-- THE TIED CARD OF 'epitaphlaw28.McodeOnce'. -/
def mcodeOnceCard : Claim7 := { stood := { row := mcodeOnceRow, standIns := [], harness := (true, "f3e69270dee762545e6af70ee01f07fa33381a4aabf06a8717a8966aceeda187"), looks := false }, kinds := [], alts := [], laidByText := true, laidKinds := [.data], laidTests := true, laidLooks := .later }
def McodeOnceCardSaid : Prop := Claim7.holds Tryz.pinned (.plain (OpenSpec.ofChange mcodeOnceSpec)) mcodeOnceCard

/-- THE SECOND FORM's CARD OF 'epitaphlaw28.McodeReads'. -/
def mcodeReadsUptoCard : Claim7 := { stood := { row := mcodeReadsUptoRow, standIns := [], harness := (true, "f3e69270dee762545e6af70ee01f07fa33381a4aabf06a8717a8966aceeda187"), looks := false }, kinds := [], alts := [], laidByText := true, laidKinds := [.data], laidTests := true, laidLooks := .later }
def McodeReadsUptoCardSaid : Prop := Claim7.holds Tryz.pinned (.plain (OpenSpec.upto mcodeReadsSpec)) mcodeReadsUptoCard

/-- THE SECOND FORM's CARD OF 'epitaphlaw28.McodeBack'. -/
def mcodeBackUptoCard : Claim7 := { stood := { row := mcodeBackUptoRow, standIns := [], harness := (true, "f3e69270dee762545e6af70ee01f07fa33381a4aabf06a8717a8966aceeda187"), looks := false }, kinds := [], alts := [], laidByText := true, laidKinds := [.data], laidTests := true, laidLooks := .later }
def McodeBackUptoCardSaid : Prop := Claim7.holds Tryz.pinned (.plain (OpenSpec.upto mcodeBackSpec)) mcodeBackUptoCard

/-- THE SECOND FORM's CARD OF 'epitaphlaw28.McodeOnce'. -/
def mcodeOnceUptoCard : Claim7 := { stood := { row := mcodeOnceUptoRow, standIns := [], harness := (true, "f3e69270dee762545e6af70ee01f07fa33381a4aabf06a8717a8966aceeda187"), looks := false }, kinds := [], alts := [], laidByText := true, laidKinds := [.data], laidTests := true, laidLooks := .later }
def McodeOnceUptoCardSaid : Prop := Claim7.holds Tryz.pinned (.plain (OpenSpec.upto mcodeOnceSpec)) mcodeOnceUptoCard
end Rows
end Go.Proofs.YthldiocaakcolaaGreatDoor

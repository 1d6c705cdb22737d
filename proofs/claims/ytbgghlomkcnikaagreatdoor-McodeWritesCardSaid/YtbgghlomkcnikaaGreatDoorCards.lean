/-
  DERIVED. GIVEN WITH THE SEED: THE CARDS: each row of YtbgghlomkcnikaaGreatDoorRows.lean that lists a variable, with what it lists TIED to the program's text (the seventh form; the later family's looks); each row that meets fmt, with fmt's text TOLD by the authors' own Lean function (tested against real Go, not proved from fmt's source: count such statements apart). THE CARD IS WHAT COUNTS. Prove the row's statement (the work); the ties are given (YtbgghlomkcnikaaGreatDoorTie.lean); close each card by the builder's one call (the guide's Derived/Test/ToyasCard.lean, 'card_holds'). Laid BY PROGRAM, IN A SANDBOX (cutbox-door.mjs). By AI agents, Wed Nov 11 2026. No macro, syntax, notation, axiom, sorry.
-/
import Derived.Test.YtbgghlomkcnikaaGreatDoorRows
import GoSem.ClaimSeven
namespace Go.Proofs.YtbgghlomkcnikaaGreatDoor
namespace Rows

/-- THE TIED CARD OF 'epitaphlaw28.McodeWrites'. -/
def mcodeWritesCard : Claim7 := { stood := { row := mcodeWritesRow, standIns := [], harness := (true, "f8c87680ed8fede2bec795c39678f5fd759d3f82695a3d77837e6996d005f597"), looks := false }, kinds := [], alts := [], laidByText := true, laidKinds := [.data], laidTests := true, laidLooks := .later }
def McodeWritesCardSaid : Prop := Claim7.holds Tryz.pinned (.plain (OpenSpec.ofChange mcodeWritesSpec)) mcodeWritesCard

/-- THE SECOND FORM's CARD OF 'epitaphlaw28.McodeWrites'. -/
def mcodeWritesUptoCard : Claim7 := { stood := { row := mcodeWritesUptoRow, standIns := [], harness := (true, "f8c87680ed8fede2bec795c39678f5fd759d3f82695a3d77837e6996d005f597"), looks := false }, kinds := [], alts := [], laidByText := true, laidKinds := [.data], laidTests := true, laidLooks := .later }
def McodeWritesUptoCardSaid : Prop := Claim7.holds Tryz.pinned (.plain (OpenSpec.upto mcodeWritesSpec)) mcodeWritesUptoCard
end Rows
end Go.Proofs.YtbgghlomkcnikaaGreatDoor

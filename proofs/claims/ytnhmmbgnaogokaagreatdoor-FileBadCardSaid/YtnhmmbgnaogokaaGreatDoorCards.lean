/-
  DERIVED. GIVEN WITH THE SEED: THE CARDS: each row of YtnhmmbgnaogokaaGreatDoorRows.lean that lists a variable, with what it lists TIED to the program's text (the seventh form; the later family's looks); each row that meets fmt, with fmt's text TOLD by the authors' own Lean function (tested against real Go, not proved from fmt's source: count such statements apart). THE CARD IS WHAT COUNTS. Prove the row's statement (the work); the ties are given (YtnhmmbgnaogokaaGreatDoorTie.lean); close each card by the builder's one call (the guide's Derived/Test/ToyasCard.lean, 'card_holds'). Laid BY PROGRAM, IN A SANDBOX (cutbox-door.mjs). By AI agents, Wed Nov 11 2026. No macro, syntax, notation, axiom, sorry.
-/
import Derived.Test.YtnhmmbgnaogokaaGreatDoorRows
import GoSem.ClaimSeven
namespace Go.Proofs.YtnhmmbgnaogokaaGreatDoor
namespace Rows

/-- THE TIED CARD OF 'sleuthlaw17.Files'. -/
def filesCard : Claim7 := { stood := { row := filesRow, standIns := [], harness := (true, "1fbe0c37e2e61ec94c46af2d327929f92c6c3e26c9d6764b78b624e1e1a9973e"), looks := true }, kinds := [], alts := [], laidByText := true, laidKinds := [.data, .data, .data, .sentinel, .sentinel], laidTests := true, laidLooks := .later }
def FilesCardSaid : Prop := Claim7.holds Tryz.pinned (.plain (OpenSpec.ofChange filesSpec)) filesCard

/-- THE TIED CARD OF 'sleuthlaw17.FileBad'. -/
def fileBadCard : Claim7 := { stood := { row := fileBadRow, standIns := [], harness := (true, "1fbe0c37e2e61ec94c46af2d327929f92c6c3e26c9d6764b78b624e1e1a9973e"), looks := true }, kinds := [], alts := [], laidByText := true, laidKinds := [.data, .data, .data, .sentinel, .sentinel], laidTests := true, laidLooks := .later }
def FileBadCardSaid : Prop := Claim7.holds Tryz.pinned (.plain (OpenSpec.ofChange fileBadSpec)) fileBadCard

/-- THE SECOND FORM's CARD OF 'sleuthlaw17.Files'. -/
def filesUptoCard : Claim7 := { stood := { row := filesUptoRow, standIns := [], harness := (true, "1fbe0c37e2e61ec94c46af2d327929f92c6c3e26c9d6764b78b624e1e1a9973e"), looks := true }, kinds := [], alts := [], laidByText := true, laidKinds := [.data, .data, .data, .sentinel, .sentinel], laidTests := true, laidLooks := .later }
def FilesUptoCardSaid : Prop := Claim7.holds Tryz.pinned (.plain (OpenSpec.upto filesSpec)) filesUptoCard

/-- THE SECOND FORM's CARD OF 'sleuthlaw17.FileBad'. -/
def fileBadUptoCard : Claim7 := { stood := { row := fileBadUptoRow, standIns := [], harness := (true, "1fbe0c37e2e61ec94c46af2d327929f92c6c3e26c9d6764b78b624e1e1a9973e"), looks := true }, kinds := [], alts := [], laidByText := true, laidKinds := [.data, .data, .data, .sentinel, .sentinel], laidTests := true, laidLooks := .later }
def FileBadUptoCardSaid : Prop := Claim7.holds Tryz.pinned (.plain (OpenSpec.upto fileBadSpec)) fileBadUptoCard
end Rows
end Go.Proofs.YtnhmmbgnaogokaaGreatDoor

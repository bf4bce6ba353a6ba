/-
  DERIVED. GIVEN WITH THE SEED: THE CARDS: each row of YtijamgfpgdiigaaGreatDoorRows.lean that lists a variable, with what it lists TIED to the program's text (the seventh form; the later family's looks); each row that meets fmt, with fmt's text TOLD by the authors' own Lean function (tested against real Go, not proved from fmt's source: count such statements apart). THE CARD IS WHAT COUNTS. Prove the row's statement (the work); the ties are given (YtijamgfpgdiigaaGreatDoorTie.lean); close each card by the builder's one call (the guide's Derived/Test/ToyasCard.lean, 'card_holds'). Laid BY PROGRAM, IN A SANDBOX (cutbox-door.mjs). By AI agents, Wed Nov 11 2026. No macro, syntax, notation, axiom, sorry.
-/
import Derived.Test.YtijamgfpgdiigaaGreatDoorRows
import GoSem.ClaimSeven
namespace Go.Proofs.YtijamgfpgdiigaaGreatDoor
namespace Rows

/-- THE TIED CARD OF 'sleuthlaw21.Sessions'. -/
def sessionsCard : Claim7 := { stood := { row := sessionsRow, standIns := [], harness := (true, "cc12d01335c27016d5dd7377f3ae95d0d9c7b2804f7acd34ff6c7499d937cefc"), looks := true }, kinds := [], alts := [], laidByText := true, laidKinds := [.data, .data, .data, .sentinel, .sentinel], laidTests := true, laidLooks := .later }
def SessionsCardSaid : Prop := Claim7.holds Tryz.pinned (.plain (OpenSpec.ofChange sessionsSpec)) sessionsCard

/-- THE SECOND FORM's CARD OF 'sleuthlaw21.Sessions'. -/
def sessionsUptoCard : Claim7 := { stood := { row := sessionsUptoRow, standIns := [], harness := (true, "cc12d01335c27016d5dd7377f3ae95d0d9c7b2804f7acd34ff6c7499d937cefc"), looks := true }, kinds := [], alts := [], laidByText := true, laidKinds := [.data, .data, .data, .sentinel, .sentinel], laidTests := true, laidLooks := .later }
def SessionsUptoCardSaid : Prop := Claim7.holds Tryz.pinned (.plain (OpenSpec.upto sessionsSpec)) sessionsUptoCard
end Rows
end Go.Proofs.YtijamgfpgdiigaaGreatDoor

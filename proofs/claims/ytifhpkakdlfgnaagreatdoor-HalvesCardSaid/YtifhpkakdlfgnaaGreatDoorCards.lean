/-
  DERIVED. GIVEN WITH THE SEED: THE CARDS: each row of YtifhpkakdlfgnaaGreatDoorRows.lean that lists a variable, with what it lists TIED to the program's text (the seventh form; the later family's looks); each row that meets fmt, with fmt's text TOLD by the authors' own Lean function (tested against real Go, not proved from fmt's source: count such statements apart). THE CARD IS WHAT COUNTS. Prove the row's statement (the work); the ties are given (YtifhpkakdlfgnaaGreatDoorTie.lean); close each card by the builder's one call (the guide's Derived/Test/ToyasCard.lean, 'card_holds'). Laid BY PROGRAM, IN A SANDBOX (cutbox-door.mjs). By AI agents, Wed Nov 11 2026. No macro, syntax, notation, axiom, sorry.
-/
import Derived.Test.YtifhpkakdlfgnaaGreatDoorRows
import GoSem.ClaimSeven
namespace Go.Proofs.YtifhpkakdlfgnaaGreatDoor
namespace Rows

/-- THE TIED CARD OF 'sleuthlaw19.Halves'. -/
def halvesCard : Claim7 := { stood := { row := halvesRow, standIns := [], harness := (true, "220d34f77c753e5ea361dee811a8802557e027a112854c91a40f25df2273ada9"), looks := true }, kinds := [], alts := [], laidByText := true, laidKinds := [.data, .data, .data, .sentinel, .sentinel], laidTests := true, laidLooks := .later }
def HalvesCardSaid : Prop := Claim7.holds Tryz.pinned (.plain (OpenSpec.ofChange halvesSpec)) halvesCard

/-- THE SECOND FORM's CARD OF 'sleuthlaw19.Halves'. -/
def halvesUptoCard : Claim7 := { stood := { row := halvesUptoRow, standIns := [], harness := (true, "220d34f77c753e5ea361dee811a8802557e027a112854c91a40f25df2273ada9"), looks := true }, kinds := [], alts := [], laidByText := true, laidKinds := [.data, .data, .data, .sentinel, .sentinel], laidTests := true, laidLooks := .later }
def HalvesUptoCardSaid : Prop := Claim7.holds Tryz.pinned (.plain (OpenSpec.upto halvesSpec)) halvesUptoCard
end Rows
end Go.Proofs.YtifhpkakdlfgnaaGreatDoor

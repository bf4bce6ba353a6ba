/-
  DERIVED. GIVEN WITH THE SEED: THE CARDS: each row of YtifhpkakdlfgnaaDoorRows.lean that lists a variable, with what it lists TIED to the program's text (the seventh form; the later family's looks); each row that meets fmt, with fmt's text TOLD by the authors' own Lean function (tested against real Go, not proved from fmt's source: count such statements apart). THE CARD IS WHAT COUNTS. Prove the row's statement (the work); the ties are given (YtifhpkakdlfgnaaDoorTie.lean); close each card by the builder's one call (the guide's Derived/Test/ToyasCard.lean, 'card_holds'). Laid BY PROGRAM, IN A SANDBOX (cutbox-door.mjs). By AI agents, Wed Nov 11 2026. No macro, syntax, notation, axiom, sorry.
-/
import Derived.Test.YtifhpkakdlfgnaaDoorRows
import GoSem.ClaimSeven
namespace Go.Proofs.YtifhpkakdlfgnaaDoor
namespace Rows

/-- THE TIED CARD OF 'sleuthlaw18.Tops'. -/
def topsCard : Claim7 := { stood := { row := topsRow, standIns := [], harness := (true, "d3f9039f18b9be1ca2431739232d8ce921598487ab4582c420ad9aa8f708c723"), looks := true }, kinds := [], alts := [], laidByText := true, laidKinds := [.data, .data, .data, .sentinel, .sentinel], laidTests := true, laidLooks := .later }
def TopsCardSaid : Prop := Claim7.holds Tryd.pinned (.plain (OpenSpec.ofChange topsSpec)) topsCard

/-- THE SECOND FORM's CARD OF 'sleuthlaw18.Tops'. -/
def topsUptoCard : Claim7 := { stood := { row := topsUptoRow, standIns := [], harness := (true, "d3f9039f18b9be1ca2431739232d8ce921598487ab4582c420ad9aa8f708c723"), looks := true }, kinds := [], alts := [], laidByText := true, laidKinds := [.data, .data, .data, .sentinel, .sentinel], laidTests := true, laidLooks := .later }
def TopsUptoCardSaid : Prop := Claim7.holds Tryd.pinned (.plain (OpenSpec.upto topsSpec)) topsUptoCard
end Rows
end Go.Proofs.YtifhpkakdlfgnaaDoor

/-
  DERIVED. GIVEN WITH THE SEED: THE CARDS: each row of YtljlmkbcichlpaaDoorRows.lean that lists a variable, with what it lists TIED to the program's text (the seventh form; the later family's looks); each row that meets fmt, with fmt's text TOLD by the authors' own Lean function (tested against real Go, not proved from fmt's source: count such statements apart). THE CARD IS WHAT COUNTS. Prove the row's statement (the work); the ties are given (YtljlmkbcichlpaaDoorTie.lean); close each card by the builder's one call (the guide's Derived/Test/ToyasCard.lean, 'card_holds'). Laid BY PROGRAM, IN A SANDBOX (cutbox-door.mjs). By AI agents, Wed Nov 11 2026. No macro, syntax, notation, axiom, sorry.
-/
import Derived.Test.YtljlmkbcichlpaaDoorRows
import GoSem.ClaimSeven
namespace Go.Proofs.YtljlmkbcichlpaaDoor
namespace Rows

/-- THE TIED CARD OF 'sleuthlaw4.Lexes'. -/
def lexesCard : Claim7 := { stood := { row := lexesRow, standIns := [], harness := (true, "9fd7d37931a4f0bde8860e1a97c97325f03edacfe39c53d89133cce38574f907"), looks := true }, kinds := [], alts := [], laidByText := true, laidKinds := [.listed, .data], laidTests := true, laidLooks := .later }
def LexesCardSaid : Prop := Claim7.holds Tryd.pinned (.plain (OpenSpec.ofChange lexesSpec)) lexesCard

/-- THE TIED CARD OF 'sleuthlaw4.LexForms'. -/
def lexFormsCard : Claim7 := { stood := { row := lexFormsRow, standIns := [], harness := (true, "9fd7d37931a4f0bde8860e1a97c97325f03edacfe39c53d89133cce38574f907"), looks := true }, kinds := [], alts := [], laidByText := true, laidKinds := [.listed, .data], laidTests := true, laidLooks := .later }
def LexFormsCardSaid : Prop := Claim7.holds Tryd.pinned (.plain (OpenSpec.ofChange lexFormsSpec)) lexFormsCard

/-- THE TIED CARD OF 'sleuthlaw4.LexJoin'. -/
def lexJoinCard : Claim7 := { stood := { row := lexJoinRow, standIns := [], harness := (true, "9fd7d37931a4f0bde8860e1a97c97325f03edacfe39c53d89133cce38574f907"), looks := true }, kinds := [], alts := [], laidByText := true, laidKinds := [.listed, .data], laidTests := true, laidLooks := .later }
def LexJoinCardSaid : Prop := Claim7.holds Tryd.pinned (.plain (OpenSpec.ofChange lexJoinSpec)) lexJoinCard

/-- THE TIED CARD OF 'sleuthlaw4.LexTwo'. -/
def lexTwoCard : Claim7 := { stood := { row := lexTwoRow, standIns := [], harness := (true, "9fd7d37931a4f0bde8860e1a97c97325f03edacfe39c53d89133cce38574f907"), looks := true }, kinds := [], alts := [], laidByText := true, laidKinds := [.listed, .data], laidTests := true, laidLooks := .later }
def LexTwoCardSaid : Prop := Claim7.holds Tryd.pinned (.plain (OpenSpec.ofChange lexTwoSpec)) lexTwoCard

/-- THE TIED CARD OF 'sleuthlaw4.LexBrackets'. -/
def lexBracketsCard : Claim7 := { stood := { row := lexBracketsRow, standIns := [], harness := (true, "9fd7d37931a4f0bde8860e1a97c97325f03edacfe39c53d89133cce38574f907"), looks := true }, kinds := [], alts := [], laidByText := true, laidKinds := [.listed, .data], laidTests := true, laidLooks := .later }
def LexBracketsCardSaid : Prop := Claim7.holds Tryd.pinned (.plain (OpenSpec.ofChange lexBracketsSpec)) lexBracketsCard

/-- THE SECOND FORM's CARD OF 'sleuthlaw4.Lexes'. -/
def lexesUptoCard : Claim7 := { stood := { row := lexesUptoRow, standIns := [], harness := (true, "9fd7d37931a4f0bde8860e1a97c97325f03edacfe39c53d89133cce38574f907"), looks := true }, kinds := [], alts := [], laidByText := true, laidKinds := [.listed, .data], laidTests := true, laidLooks := .later }
def LexesUptoCardSaid : Prop := Claim7.holds Tryd.pinned (.plain (OpenSpec.upto lexesSpec)) lexesUptoCard

/-- THE SECOND FORM's CARD OF 'sleuthlaw4.LexForms'. -/
def lexFormsUptoCard : Claim7 := { stood := { row := lexFormsUptoRow, standIns := [], harness := (true, "9fd7d37931a4f0bde8860e1a97c97325f03edacfe39c53d89133cce38574f907"), looks := true }, kinds := [], alts := [], laidByText := true, laidKinds := [.listed, .data], laidTests := true, laidLooks := .later }
def LexFormsUptoCardSaid : Prop := Claim7.holds Tryd.pinned (.plain (OpenSpec.upto lexFormsSpec)) lexFormsUptoCard

/-- THE SECOND FORM's CARD OF 'sleuthlaw4.LexJoin'. -/
def lexJoinUptoCard : Claim7 := { stood := { row := lexJoinUptoRow, standIns := [], harness := (true, "9fd7d37931a4f0bde8860e1a97c97325f03edacfe39c53d89133cce38574f907"), looks := true }, kinds := [], alts := [], laidByText := true, laidKinds := [.listed, .data], laidTests := true, laidLooks := .later }
def LexJoinUptoCardSaid : Prop := Claim7.holds Tryd.pinned (.plain (OpenSpec.upto lexJoinSpec)) lexJoinUptoCard

/-- THE SECOND FORM's CARD OF 'sleuthlaw4.LexTwo'. -/
def lexTwoUptoCard : Claim7 := { stood := { row := lexTwoUptoRow, standIns := [], harness := (true, "9fd7d37931a4f0bde8860e1a97c97325f03edacfe39c53d89133cce38574f907"), looks := true }, kinds := [], alts := [], laidByText := true, laidKinds := [.listed, .data], laidTests := true, laidLooks := .later }
def LexTwoUptoCardSaid : Prop := Claim7.holds Tryd.pinned (.plain (OpenSpec.upto lexTwoSpec)) lexTwoUptoCard

/-- THE SECOND FORM's CARD OF 'sleuthlaw4.LexBrackets'. -/
def lexBracketsUptoCard : Claim7 := { stood := { row := lexBracketsUptoRow, standIns := [], harness := (true, "9fd7d37931a4f0bde8860e1a97c97325f03edacfe39c53d89133cce38574f907"), looks := true }, kinds := [], alts := [], laidByText := true, laidKinds := [.listed, .data], laidTests := true, laidLooks := .later }
def LexBracketsUptoCardSaid : Prop := Claim7.holds Tryd.pinned (.plain (OpenSpec.upto lexBracketsSpec)) lexBracketsUptoCard
end Rows
end Go.Proofs.YtljlmkbcichlpaaDoor

/-
  DERIVED. GIVEN WITH THE SEED: THE CARDS: each row of YtgokcaccamfgfaaDoorRows.lean that lists a variable, with what it lists TIED to the program's text (the seventh form; the later family's looks); each row that meets fmt, with fmt's text TOLD by the authors' own Lean function (tested against real Go, not proved from fmt's source: count such statements apart). THE CARD IS WHAT COUNTS. Prove the row's statement (the work); the ties are given (YtgokcaccamfgfaaDoorTie.lean); close each card by the builder's one call (the guide's Derived/Test/ToyasCard.lean, 'card_holds'). Laid BY PROGRAM, IN A SANDBOX (cutbox-door.mjs). By AI agents, Wed Nov 11 2026. No macro, syntax, notation, axiom, sorry.
-/
import Derived.Test.YtgokcaccamfgfaaDoorRows
import GoSem.ClaimSeven
namespace Go.Proofs.YtgokcaccamfgfaaDoor
namespace Rows

/-- THE TIED CARD OF 'sleuthlaw20.NextForms'. -/
def nextFormsCard : Claim7 := { stood := { row := nextFormsRow, standIns := [], harness := (true, "2f021c9eb6aa35197615f4eb59f357ac461b7615ba0aabf6da4f32d20d3d34d0"), looks := true }, kinds := [], alts := [], laidByText := true, laidKinds := [.data, .data, .data, .sentinel, .sentinel], laidTests := true, laidLooks := .later }
def NextFormsCardSaid : Prop := Claim7.holds Tryd.pinned (.plain (OpenSpec.ofChange nextFormsSpec)) nextFormsCard

/-- THE TIED CARD OF 'sleuthlaw20.NextLast'. -/
def nextLastCard : Claim7 := { stood := { row := nextLastRow, standIns := [], harness := (true, "2f021c9eb6aa35197615f4eb59f357ac461b7615ba0aabf6da4f32d20d3d34d0"), looks := true }, kinds := [], alts := [], laidByText := true, laidKinds := [.data, .data, .data, .sentinel, .sentinel], laidTests := true, laidLooks := .later }
def NextLastCardSaid : Prop := Claim7.holds Tryd.pinned (.plain (OpenSpec.ofChange nextLastSpec)) nextLastCard

/-- THE TIED CARD OF 'sleuthlaw21.SessionForms'. -/
def sessionFormsCard : Claim7 := { stood := { row := sessionFormsRow, standIns := [], harness := (true, "2f021c9eb6aa35197615f4eb59f357ac461b7615ba0aabf6da4f32d20d3d34d0"), looks := true }, kinds := [], alts := [], laidByText := true, laidKinds := [.data, .data, .data, .sentinel, .sentinel], laidTests := true, laidLooks := .later }
def SessionFormsCardSaid : Prop := Claim7.holds Tryd.pinned (.plain (OpenSpec.ofChange sessionFormsSpec)) sessionFormsCard

/-- THE TIED CARD OF 'sleuthlaw21.SessionCut'. -/
def sessionCutCard : Claim7 := { stood := { row := sessionCutRow, standIns := [], harness := (true, "2f021c9eb6aa35197615f4eb59f357ac461b7615ba0aabf6da4f32d20d3d34d0"), looks := true }, kinds := [], alts := [], laidByText := true, laidKinds := [.data, .data, .data, .sentinel, .sentinel], laidTests := true, laidLooks := .later }
def SessionCutCardSaid : Prop := Claim7.holds Tryd.pinned (.plain (OpenSpec.ofChange sessionCutSpec)) sessionCutCard

/-- THE SECOND FORM's CARD OF 'sleuthlaw20.NextForms'. -/
def nextFormsUptoCard : Claim7 := { stood := { row := nextFormsUptoRow, standIns := [], harness := (true, "2f021c9eb6aa35197615f4eb59f357ac461b7615ba0aabf6da4f32d20d3d34d0"), looks := true }, kinds := [], alts := [], laidByText := true, laidKinds := [.data, .data, .data, .sentinel, .sentinel], laidTests := true, laidLooks := .later }
def NextFormsUptoCardSaid : Prop := Claim7.holds Tryd.pinned (.plain (OpenSpec.upto nextFormsSpec)) nextFormsUptoCard

/-- THE SECOND FORM's CARD OF 'sleuthlaw20.NextLast'. -/
def nextLastUptoCard : Claim7 := { stood := { row := nextLastUptoRow, standIns := [], harness := (true, "2f021c9eb6aa35197615f4eb59f357ac461b7615ba0aabf6da4f32d20d3d34d0"), looks := true }, kinds := [], alts := [], laidByText := true, laidKinds := [.data, .data, .data, .sentinel, .sentinel], laidTests := true, laidLooks := .later }
def NextLastUptoCardSaid : Prop := Claim7.holds Tryd.pinned (.plain (OpenSpec.upto nextLastSpec)) nextLastUptoCard

/-- THE SECOND FORM's CARD OF 'sleuthlaw21.SessionForms'. -/
def sessionFormsUptoCard : Claim7 := { stood := { row := sessionFormsUptoRow, standIns := [], harness := (true, "2f021c9eb6aa35197615f4eb59f357ac461b7615ba0aabf6da4f32d20d3d34d0"), looks := true }, kinds := [], alts := [], laidByText := true, laidKinds := [.data, .data, .data, .sentinel, .sentinel], laidTests := true, laidLooks := .later }
def SessionFormsUptoCardSaid : Prop := Claim7.holds Tryd.pinned (.plain (OpenSpec.upto sessionFormsSpec)) sessionFormsUptoCard

/-- THE SECOND FORM's CARD OF 'sleuthlaw21.SessionCut'. -/
def sessionCutUptoCard : Claim7 := { stood := { row := sessionCutUptoRow, standIns := [], harness := (true, "2f021c9eb6aa35197615f4eb59f357ac461b7615ba0aabf6da4f32d20d3d34d0"), looks := true }, kinds := [], alts := [], laidByText := true, laidKinds := [.data, .data, .data, .sentinel, .sentinel], laidTests := true, laidLooks := .later }
def SessionCutUptoCardSaid : Prop := Claim7.holds Tryd.pinned (.plain (OpenSpec.upto sessionCutSpec)) sessionCutUptoCard
end Rows
end Go.Proofs.YtgokcaccamfgfaaDoor

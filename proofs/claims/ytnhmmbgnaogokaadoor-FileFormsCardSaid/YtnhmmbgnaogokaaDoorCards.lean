/-
  DERIVED. GIVEN WITH THE SEED: THE CARDS: each row of YtnhmmbgnaogokaaDoorRows.lean that lists a variable, with what it lists TIED to the program's text (the seventh form; the later family's looks); each row that meets fmt, with fmt's text TOLD by the authors' own Lean function (tested against real Go, not proved from fmt's source: count such statements apart). THE CARD IS WHAT COUNTS. Prove the row's statement (the work); the ties are given (YtnhmmbgnaogokaaDoorTie.lean); close each card by the builder's one call (the guide's Derived/Test/ToyasCard.lean, 'card_holds'). Laid BY PROGRAM, IN A SANDBOX (cutbox-door.mjs). By AI agents, Wed Nov 11 2026. No macro, syntax, notation, axiom, sorry.
-/
import Derived.Test.YtnhmmbgnaogokaaDoorRows
import GoSem.ClaimSeven
namespace Go.Proofs.YtnhmmbgnaogokaaDoor
namespace Rows

/-- THE TIED CARD OF 'sleuthlaw17.FileCut'. -/
def fileCutCard : Claim7 := { stood := { row := fileCutRow, standIns := [], harness := (true, "f7087e3c9ac966fa5a290f66526ead094bcdc42367e431fc1507971c3abf431a"), looks := true }, kinds := [], alts := [], laidByText := true, laidKinds := [.data, .data, .data, .sentinel, .sentinel], laidTests := true, laidLooks := .later }
def FileCutCardSaid : Prop := Claim7.holds Tryd.pinned (.plain (OpenSpec.ofChange fileCutSpec)) fileCutCard

/-- THE TIED CARD OF 'sleuthlaw17.FileForms'. -/
def fileFormsCard : Claim7 := { stood := { row := fileFormsRow, standIns := [], harness := (true, "f7087e3c9ac966fa5a290f66526ead094bcdc42367e431fc1507971c3abf431a"), looks := true }, kinds := [], alts := [], laidByText := true, laidKinds := [.data, .data, .data, .sentinel, .sentinel], laidTests := true, laidLooks := .later }
def FileFormsCardSaid : Prop := Claim7.holds Tryd.pinned (.plain (OpenSpec.ofChange fileFormsSpec)) fileFormsCard

/-- THE TIED CARD OF 'sleuthlaw17.FileMay'. -/
def fileMayCard : Claim7 := { stood := { row := fileMayRow, standIns := [], harness := (true, "f7087e3c9ac966fa5a290f66526ead094bcdc42367e431fc1507971c3abf431a"), looks := true }, kinds := [], alts := [], laidByText := true, laidKinds := [.data, .data, .data, .sentinel, .sentinel], laidTests := true, laidLooks := .later }
def FileMayCardSaid : Prop := Claim7.holds Tryd.pinned (.plain (OpenSpec.ofChange fileMaySpec)) fileMayCard

/-- THE TIED CARD OF 'sleuthlaw17.FileTwo'. -/
def fileTwoCard : Claim7 := { stood := { row := fileTwoRow, standIns := [], harness := (true, "f7087e3c9ac966fa5a290f66526ead094bcdc42367e431fc1507971c3abf431a"), looks := true }, kinds := [], alts := [], laidByText := true, laidKinds := [.data, .data, .data, .sentinel, .sentinel], laidTests := true, laidLooks := .later }
def FileTwoCardSaid : Prop := Claim7.holds Tryd.pinned (.plain (OpenSpec.ofChange fileTwoSpec)) fileTwoCard

/-- THE SECOND FORM's CARD OF 'sleuthlaw17.FileCut'. -/
def fileCutUptoCard : Claim7 := { stood := { row := fileCutUptoRow, standIns := [], harness := (true, "f7087e3c9ac966fa5a290f66526ead094bcdc42367e431fc1507971c3abf431a"), looks := true }, kinds := [], alts := [], laidByText := true, laidKinds := [.data, .data, .data, .sentinel, .sentinel], laidTests := true, laidLooks := .later }
def FileCutUptoCardSaid : Prop := Claim7.holds Tryd.pinned (.plain (OpenSpec.upto fileCutSpec)) fileCutUptoCard

/-- THE SECOND FORM's CARD OF 'sleuthlaw17.FileForms'. -/
def fileFormsUptoCard : Claim7 := { stood := { row := fileFormsUptoRow, standIns := [], harness := (true, "f7087e3c9ac966fa5a290f66526ead094bcdc42367e431fc1507971c3abf431a"), looks := true }, kinds := [], alts := [], laidByText := true, laidKinds := [.data, .data, .data, .sentinel, .sentinel], laidTests := true, laidLooks := .later }
def FileFormsUptoCardSaid : Prop := Claim7.holds Tryd.pinned (.plain (OpenSpec.upto fileFormsSpec)) fileFormsUptoCard

/-- THE SECOND FORM's CARD OF 'sleuthlaw17.FileMay'. -/
def fileMayUptoCard : Claim7 := { stood := { row := fileMayUptoRow, standIns := [], harness := (true, "f7087e3c9ac966fa5a290f66526ead094bcdc42367e431fc1507971c3abf431a"), looks := true }, kinds := [], alts := [], laidByText := true, laidKinds := [.data, .data, .data, .sentinel, .sentinel], laidTests := true, laidLooks := .later }
def FileMayUptoCardSaid : Prop := Claim7.holds Tryd.pinned (.plain (OpenSpec.upto fileMaySpec)) fileMayUptoCard

/-- THE SECOND FORM's CARD OF 'sleuthlaw17.FileTwo'. -/
def fileTwoUptoCard : Claim7 := { stood := { row := fileTwoUptoRow, standIns := [], harness := (true, "f7087e3c9ac966fa5a290f66526ead094bcdc42367e431fc1507971c3abf431a"), looks := true }, kinds := [], alts := [], laidByText := true, laidKinds := [.data, .data, .data, .sentinel, .sentinel], laidTests := true, laidLooks := .later }
def FileTwoUptoCardSaid : Prop := Claim7.holds Tryd.pinned (.plain (OpenSpec.upto fileTwoSpec)) fileTwoUptoCard
end Rows
end Go.Proofs.YtnhmmbgnaogokaaDoor

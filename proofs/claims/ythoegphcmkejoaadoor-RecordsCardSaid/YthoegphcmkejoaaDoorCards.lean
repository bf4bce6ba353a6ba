/-
  DERIVED. GIVEN WITH THE SEED: THE CARDS: each row of YthoegphcmkejoaaDoorRows.lean that lists a variable, with what it lists TIED to the program's text (the seventh form; the later family's looks); each row that meets fmt, with fmt's text TOLD by the authors' own Lean function (tested against real Go, not proved from fmt's source: count such statements apart). THE CARD IS WHAT COUNTS. Prove the row's statement (the work); the ties are given (YthoegphcmkejoaaDoorTie.lean); close each card by the builder's one call (the guide's Derived/Test/ToyasCard.lean, 'card_holds'). Laid BY PROGRAM, IN A SANDBOX (cutbox-door.mjs). By AI agents, Wed Nov 11 2026. No macro, syntax, notation, axiom, sorry.
-/
import Derived.Test.YthoegphcmkejoaaDoorRows
import GoSem.ClaimSeven
namespace Go.Proofs.YthoegphcmkejoaaDoor
namespace Rows

/-- THE TIED CARD OF 'sleuthlaw15.Records'. -/
def recordsCard : Claim7 := { stood := { row := recordsRow, standIns := [], harness := (true, "dfcdd1b7540fe701f4bd44c432512a650179bbe30c2e5c50930e72035638e9fa"), looks := true }, kinds := [], alts := [], laidByText := true, laidKinds := [.data, .data, .data, .sentinel, .sentinel], laidTests := true, laidLooks := .later }
def RecordsCardSaid : Prop := Claim7.holds Tryd.pinned (.plain (OpenSpec.ofChange recordsSpec)) recordsCard

/-- THE TIED CARD OF 'sleuthlaw15.RecordForms'. -/
def recordFormsCard : Claim7 := { stood := { row := recordFormsRow, standIns := [], harness := (true, "dfcdd1b7540fe701f4bd44c432512a650179bbe30c2e5c50930e72035638e9fa"), looks := true }, kinds := [], alts := [], laidByText := true, laidKinds := [.data, .data, .data, .sentinel, .sentinel], laidTests := true, laidLooks := .later }
def RecordFormsCardSaid : Prop := Claim7.holds Tryd.pinned (.plain (OpenSpec.ofChange recordFormsSpec)) recordFormsCard

/-- THE TIED CARD OF 'sleuthlaw15.RecordUnlike'. -/
def recordUnlikeCard : Claim7 := { stood := { row := recordUnlikeRow, standIns := [], harness := (true, "dfcdd1b7540fe701f4bd44c432512a650179bbe30c2e5c50930e72035638e9fa"), looks := true }, kinds := [], alts := [], laidByText := true, laidKinds := [.data, .data, .data, .sentinel, .sentinel], laidTests := true, laidLooks := .later }
def RecordUnlikeCardSaid : Prop := Claim7.holds Tryd.pinned (.plain (OpenSpec.ofChange recordUnlikeSpec)) recordUnlikeCard

/-- THE TIED CARD OF 'sleuthlaw15.RecordSizes'. -/
def recordSizesCard : Claim7 := { stood := { row := recordSizesRow, standIns := [], harness := (true, "dfcdd1b7540fe701f4bd44c432512a650179bbe30c2e5c50930e72035638e9fa"), looks := true }, kinds := [], alts := [], laidByText := true, laidKinds := [.data, .data, .data, .sentinel, .sentinel], laidTests := true, laidLooks := .later }
def RecordSizesCardSaid : Prop := Claim7.holds Tryd.pinned (.plain (OpenSpec.ofChange recordSizesSpec)) recordSizesCard

/-- THE SECOND FORM's CARD OF 'sleuthlaw15.Records'. -/
def recordsUptoCard : Claim7 := { stood := { row := recordsUptoRow, standIns := [], harness := (true, "dfcdd1b7540fe701f4bd44c432512a650179bbe30c2e5c50930e72035638e9fa"), looks := true }, kinds := [], alts := [], laidByText := true, laidKinds := [.data, .data, .data, .sentinel, .sentinel], laidTests := true, laidLooks := .later }
def RecordsUptoCardSaid : Prop := Claim7.holds Tryd.pinned (.plain (OpenSpec.upto recordsSpec)) recordsUptoCard

/-- THE SECOND FORM's CARD OF 'sleuthlaw15.RecordForms'. -/
def recordFormsUptoCard : Claim7 := { stood := { row := recordFormsUptoRow, standIns := [], harness := (true, "dfcdd1b7540fe701f4bd44c432512a650179bbe30c2e5c50930e72035638e9fa"), looks := true }, kinds := [], alts := [], laidByText := true, laidKinds := [.data, .data, .data, .sentinel, .sentinel], laidTests := true, laidLooks := .later }
def RecordFormsUptoCardSaid : Prop := Claim7.holds Tryd.pinned (.plain (OpenSpec.upto recordFormsSpec)) recordFormsUptoCard

/-- THE SECOND FORM's CARD OF 'sleuthlaw15.RecordUnlike'. -/
def recordUnlikeUptoCard : Claim7 := { stood := { row := recordUnlikeUptoRow, standIns := [], harness := (true, "dfcdd1b7540fe701f4bd44c432512a650179bbe30c2e5c50930e72035638e9fa"), looks := true }, kinds := [], alts := [], laidByText := true, laidKinds := [.data, .data, .data, .sentinel, .sentinel], laidTests := true, laidLooks := .later }
def RecordUnlikeUptoCardSaid : Prop := Claim7.holds Tryd.pinned (.plain (OpenSpec.upto recordUnlikeSpec)) recordUnlikeUptoCard

/-- THE SECOND FORM's CARD OF 'sleuthlaw15.RecordSizes'. -/
def recordSizesUptoCard : Claim7 := { stood := { row := recordSizesUptoRow, standIns := [], harness := (true, "dfcdd1b7540fe701f4bd44c432512a650179bbe30c2e5c50930e72035638e9fa"), looks := true }, kinds := [], alts := [], laidByText := true, laidKinds := [.data, .data, .data, .sentinel, .sentinel], laidTests := true, laidLooks := .later }
def RecordSizesUptoCardSaid : Prop := Claim7.holds Tryd.pinned (.plain (OpenSpec.upto recordSizesSpec)) recordSizesUptoCard
end Rows
end Go.Proofs.YthoegphcmkejoaaDoor

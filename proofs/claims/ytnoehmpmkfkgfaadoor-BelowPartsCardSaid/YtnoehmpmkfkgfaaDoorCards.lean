/-
  DERIVED. GIVEN WITH THE SEED: THE CARDS: each row of YtnoehmpmkfkgfaaDoorRows.lean that lists a variable, with what it lists TIED to the program's text (the seventh form; the later family's looks); each row that meets fmt, with fmt's text TOLD by the authors' own Lean function (tested against real Go, not proved from fmt's source: count such statements apart). THE CARD IS WHAT COUNTS. Prove the row's statement (the work); the ties are given (YtnoehmpmkfkgfaaDoorTie.lean); close each card by the builder's one call (the guide's Derived/Test/ToyasCard.lean, 'card_holds'). Laid BY PROGRAM, IN A SANDBOX (cutbox-door.mjs). By AI agents, Wed Nov 11 2026. No macro, syntax, notation, axiom, sorry.
-/
import Derived.Test.YtnoehmpmkfkgfaaDoorRows
import GoSem.ClaimSeven
namespace Go.Proofs.YtnoehmpmkfkgfaaDoor
namespace Rows

/-- THE TIED CARD OF 'sleuthlaw3.Belows'. -/
def belowsCard : Claim7 := { stood := { row := belowsRow, standIns := [], harness := (true, "b4be9ca4d1cdea5a429be706dbb2003114eb2ccc000cb364a8a2204bec76d64f"), looks := true }, kinds := [], alts := [], laidByText := true, laidKinds := [.data, .data, .data, .sentinel, .sentinel], laidTests := true, laidLooks := .later }
def BelowsCardSaid : Prop := Claim7.holds Tryd.pinned (.plain (OpenSpec.ofChange belowsSpec)) belowsCard

/-- THE TIED CARD OF 'sleuthlaw3.BelowRow'. -/
def belowRowCard : Claim7 := { stood := { row := belowRowRow, standIns := [], harness := (true, "b4be9ca4d1cdea5a429be706dbb2003114eb2ccc000cb364a8a2204bec76d64f"), looks := true }, kinds := [], alts := [], laidByText := true, laidKinds := [.data, .data, .data, .sentinel, .sentinel], laidTests := true, laidLooks := .later }
def BelowRowCardSaid : Prop := Claim7.holds Tryd.pinned (.plain (OpenSpec.ofChange belowRowSpec)) belowRowCard

/-- THE TIED CARD OF 'sleuthlaw3.BelowForms'. -/
def belowFormsCard : Claim7 := { stood := { row := belowFormsRow, standIns := [], harness := (true, "b4be9ca4d1cdea5a429be706dbb2003114eb2ccc000cb364a8a2204bec76d64f"), looks := true }, kinds := [], alts := [], laidByText := true, laidKinds := [.data, .data, .data, .sentinel, .sentinel], laidTests := true, laidLooks := .later }
def BelowFormsCardSaid : Prop := Claim7.holds Tryd.pinned (.plain (OpenSpec.ofChange belowFormsSpec)) belowFormsCard

/-- THE TIED CARD OF 'sleuthlaw3.BelowHoles'. -/
def belowHolesCard : Claim7 := { stood := { row := belowHolesRow, standIns := [], harness := (true, "b4be9ca4d1cdea5a429be706dbb2003114eb2ccc000cb364a8a2204bec76d64f"), looks := true }, kinds := [], alts := [], laidByText := true, laidKinds := [.data, .data, .data, .sentinel, .sentinel], laidTests := true, laidLooks := .later }
def BelowHolesCardSaid : Prop := Claim7.holds Tryd.pinned (.plain (OpenSpec.ofChange belowHolesSpec)) belowHolesCard

/-- THE TIED CARD OF 'sleuthlaw3.BelowOthers'. -/
def belowOthersCard : Claim7 := { stood := { row := belowOthersRow, standIns := [], harness := (true, "b4be9ca4d1cdea5a429be706dbb2003114eb2ccc000cb364a8a2204bec76d64f"), looks := true }, kinds := [], alts := [], laidByText := true, laidKinds := [.data, .data, .data, .sentinel, .sentinel], laidTests := true, laidLooks := .later }
def BelowOthersCardSaid : Prop := Claim7.holds Tryd.pinned (.plain (OpenSpec.ofChange belowOthersSpec)) belowOthersCard

/-- THE TIED CARD OF 'sleuthlaw3.BelowParts'. -/
def belowPartsCard : Claim7 := { stood := { row := belowPartsRow, standIns := [], harness := (true, "b4be9ca4d1cdea5a429be706dbb2003114eb2ccc000cb364a8a2204bec76d64f"), looks := true }, kinds := [], alts := [], laidByText := true, laidKinds := [.data, .data, .data, .sentinel, .sentinel], laidTests := true, laidLooks := .later }
def BelowPartsCardSaid : Prop := Claim7.holds Tryd.pinned (.plain (OpenSpec.ofChange belowPartsSpec)) belowPartsCard

/-- THE TIED CARD OF 'sleuthlaw15.Records'. -/
def recordsCard : Claim7 := { stood := { row := recordsRow, standIns := [], harness := (true, "b4be9ca4d1cdea5a429be706dbb2003114eb2ccc000cb364a8a2204bec76d64f"), looks := true }, kinds := [], alts := [], laidByText := true, laidKinds := [.data, .data, .data, .sentinel, .sentinel], laidTests := true, laidLooks := .later }
def RecordsCardSaid : Prop := Claim7.holds Tryd.pinned (.plain (OpenSpec.ofChange recordsSpec)) recordsCard

/-- THE TIED CARD OF 'sleuthlaw15.RecordForms'. -/
def recordFormsCard : Claim7 := { stood := { row := recordFormsRow, standIns := [], harness := (true, "b4be9ca4d1cdea5a429be706dbb2003114eb2ccc000cb364a8a2204bec76d64f"), looks := true }, kinds := [], alts := [], laidByText := true, laidKinds := [.data, .data, .data, .sentinel, .sentinel], laidTests := true, laidLooks := .later }
def RecordFormsCardSaid : Prop := Claim7.holds Tryd.pinned (.plain (OpenSpec.ofChange recordFormsSpec)) recordFormsCard

/-- THE TIED CARD OF 'sleuthlaw15.RecordUnlike'. -/
def recordUnlikeCard : Claim7 := { stood := { row := recordUnlikeRow, standIns := [], harness := (true, "b4be9ca4d1cdea5a429be706dbb2003114eb2ccc000cb364a8a2204bec76d64f"), looks := true }, kinds := [], alts := [], laidByText := true, laidKinds := [.data, .data, .data, .sentinel, .sentinel], laidTests := true, laidLooks := .later }
def RecordUnlikeCardSaid : Prop := Claim7.holds Tryd.pinned (.plain (OpenSpec.ofChange recordUnlikeSpec)) recordUnlikeCard

/-- THE TIED CARD OF 'sleuthlaw15.RecordSizes'. -/
def recordSizesCard : Claim7 := { stood := { row := recordSizesRow, standIns := [], harness := (true, "b4be9ca4d1cdea5a429be706dbb2003114eb2ccc000cb364a8a2204bec76d64f"), looks := true }, kinds := [], alts := [], laidByText := true, laidKinds := [.data, .data, .data, .sentinel, .sentinel], laidTests := true, laidLooks := .later }
def RecordSizesCardSaid : Prop := Claim7.holds Tryd.pinned (.plain (OpenSpec.ofChange recordSizesSpec)) recordSizesCard

/-- THE SECOND FORM's CARD OF 'sleuthlaw3.Belows'. -/
def belowsUptoCard : Claim7 := { stood := { row := belowsUptoRow, standIns := [], harness := (true, "b4be9ca4d1cdea5a429be706dbb2003114eb2ccc000cb364a8a2204bec76d64f"), looks := true }, kinds := [], alts := [], laidByText := true, laidKinds := [.data, .data, .data, .sentinel, .sentinel], laidTests := true, laidLooks := .later }
def BelowsUptoCardSaid : Prop := Claim7.holds Tryd.pinned (.plain (OpenSpec.upto belowsSpec)) belowsUptoCard

/-- THE SECOND FORM's CARD OF 'sleuthlaw3.BelowRow'. -/
def belowRowUptoCard : Claim7 := { stood := { row := belowRowUptoRow, standIns := [], harness := (true, "b4be9ca4d1cdea5a429be706dbb2003114eb2ccc000cb364a8a2204bec76d64f"), looks := true }, kinds := [], alts := [], laidByText := true, laidKinds := [.data, .data, .data, .sentinel, .sentinel], laidTests := true, laidLooks := .later }
def BelowRowUptoCardSaid : Prop := Claim7.holds Tryd.pinned (.plain (OpenSpec.upto belowRowSpec)) belowRowUptoCard

/-- THE SECOND FORM's CARD OF 'sleuthlaw3.BelowForms'. -/
def belowFormsUptoCard : Claim7 := { stood := { row := belowFormsUptoRow, standIns := [], harness := (true, "b4be9ca4d1cdea5a429be706dbb2003114eb2ccc000cb364a8a2204bec76d64f"), looks := true }, kinds := [], alts := [], laidByText := true, laidKinds := [.data, .data, .data, .sentinel, .sentinel], laidTests := true, laidLooks := .later }
def BelowFormsUptoCardSaid : Prop := Claim7.holds Tryd.pinned (.plain (OpenSpec.upto belowFormsSpec)) belowFormsUptoCard

/-- THE SECOND FORM's CARD OF 'sleuthlaw3.BelowHoles'. -/
def belowHolesUptoCard : Claim7 := { stood := { row := belowHolesUptoRow, standIns := [], harness := (true, "b4be9ca4d1cdea5a429be706dbb2003114eb2ccc000cb364a8a2204bec76d64f"), looks := true }, kinds := [], alts := [], laidByText := true, laidKinds := [.data, .data, .data, .sentinel, .sentinel], laidTests := true, laidLooks := .later }
def BelowHolesUptoCardSaid : Prop := Claim7.holds Tryd.pinned (.plain (OpenSpec.upto belowHolesSpec)) belowHolesUptoCard

/-- THE SECOND FORM's CARD OF 'sleuthlaw3.BelowOthers'. -/
def belowOthersUptoCard : Claim7 := { stood := { row := belowOthersUptoRow, standIns := [], harness := (true, "b4be9ca4d1cdea5a429be706dbb2003114eb2ccc000cb364a8a2204bec76d64f"), looks := true }, kinds := [], alts := [], laidByText := true, laidKinds := [.data, .data, .data, .sentinel, .sentinel], laidTests := true, laidLooks := .later }
def BelowOthersUptoCardSaid : Prop := Claim7.holds Tryd.pinned (.plain (OpenSpec.upto belowOthersSpec)) belowOthersUptoCard

/-- THE SECOND FORM's CARD OF 'sleuthlaw3.BelowParts'. -/
def belowPartsUptoCard : Claim7 := { stood := { row := belowPartsUptoRow, standIns := [], harness := (true, "b4be9ca4d1cdea5a429be706dbb2003114eb2ccc000cb364a8a2204bec76d64f"), looks := true }, kinds := [], alts := [], laidByText := true, laidKinds := [.data, .data, .data, .sentinel, .sentinel], laidTests := true, laidLooks := .later }
def BelowPartsUptoCardSaid : Prop := Claim7.holds Tryd.pinned (.plain (OpenSpec.upto belowPartsSpec)) belowPartsUptoCard

/-- THE SECOND FORM's CARD OF 'sleuthlaw15.Records'. -/
def recordsUptoCard : Claim7 := { stood := { row := recordsUptoRow, standIns := [], harness := (true, "b4be9ca4d1cdea5a429be706dbb2003114eb2ccc000cb364a8a2204bec76d64f"), looks := true }, kinds := [], alts := [], laidByText := true, laidKinds := [.data, .data, .data, .sentinel, .sentinel], laidTests := true, laidLooks := .later }
def RecordsUptoCardSaid : Prop := Claim7.holds Tryd.pinned (.plain (OpenSpec.upto recordsSpec)) recordsUptoCard

/-- THE SECOND FORM's CARD OF 'sleuthlaw15.RecordForms'. -/
def recordFormsUptoCard : Claim7 := { stood := { row := recordFormsUptoRow, standIns := [], harness := (true, "b4be9ca4d1cdea5a429be706dbb2003114eb2ccc000cb364a8a2204bec76d64f"), looks := true }, kinds := [], alts := [], laidByText := true, laidKinds := [.data, .data, .data, .sentinel, .sentinel], laidTests := true, laidLooks := .later }
def RecordFormsUptoCardSaid : Prop := Claim7.holds Tryd.pinned (.plain (OpenSpec.upto recordFormsSpec)) recordFormsUptoCard

/-- THE SECOND FORM's CARD OF 'sleuthlaw15.RecordUnlike'. -/
def recordUnlikeUptoCard : Claim7 := { stood := { row := recordUnlikeUptoRow, standIns := [], harness := (true, "b4be9ca4d1cdea5a429be706dbb2003114eb2ccc000cb364a8a2204bec76d64f"), looks := true }, kinds := [], alts := [], laidByText := true, laidKinds := [.data, .data, .data, .sentinel, .sentinel], laidTests := true, laidLooks := .later }
def RecordUnlikeUptoCardSaid : Prop := Claim7.holds Tryd.pinned (.plain (OpenSpec.upto recordUnlikeSpec)) recordUnlikeUptoCard

/-- THE SECOND FORM's CARD OF 'sleuthlaw15.RecordSizes'. -/
def recordSizesUptoCard : Claim7 := { stood := { row := recordSizesUptoRow, standIns := [], harness := (true, "b4be9ca4d1cdea5a429be706dbb2003114eb2ccc000cb364a8a2204bec76d64f"), looks := true }, kinds := [], alts := [], laidByText := true, laidKinds := [.data, .data, .data, .sentinel, .sentinel], laidTests := true, laidLooks := .later }
def RecordSizesUptoCardSaid : Prop := Claim7.holds Tryd.pinned (.plain (OpenSpec.upto recordSizesSpec)) recordSizesUptoCard
end Rows
end Go.Proofs.YtnoehmpmkfkgfaaDoor

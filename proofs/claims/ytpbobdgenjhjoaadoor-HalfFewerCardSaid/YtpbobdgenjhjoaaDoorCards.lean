/-
  DERIVED. GIVEN WITH THE SEED: THE CARDS: each row of YtpbobdgenjhjoaaDoorRows.lean that lists a variable, with what it lists TIED to the program's text (the seventh form; the later family's looks); each row that meets fmt, with fmt's text TOLD by the authors' own Lean function (tested against real Go, not proved from fmt's source: count such statements apart). THE CARD IS WHAT COUNTS. Prove the row's statement (the work); the ties are given (YtpbobdgenjhjoaaDoorTie.lean); close each card by the builder's one call (the guide's Derived/Test/ToyasCard.lean, 'card_holds'). Laid BY PROGRAM, IN A SANDBOX (cutbox-door.mjs). By AI agents, Wed Nov 11 2026. No macro, syntax, notation, axiom, sorry.
-/
import Derived.Test.YtpbobdgenjhjoaaDoorRows
import GoSem.ClaimSeven
namespace Go.Proofs.YtpbobdgenjhjoaaDoor
namespace Rows

/-- THE TIED CARD OF 'sleuthlaw18.Tops'. -/
def topsCard : Claim7 := { stood := { row := topsRow, standIns := [], harness := (true, "d57f2b5e1cc42cc93e3699756d90be6c87b54131122da8a66b6272c4c7d8af3e"), looks := true }, kinds := [], alts := [], laidByText := true, laidKinds := [.data, .data, .data, .sentinel, .sentinel], laidTests := true, laidLooks := .later }
def TopsCardSaid : Prop := Claim7.holds Tryd.pinned (.plain (OpenSpec.ofChange topsSpec)) topsCard

/-- THE TIED CARD OF 'sleuthlaw18.TopForms'. -/
def topFormsCard : Claim7 := { stood := { row := topFormsRow, standIns := [], harness := (true, "d57f2b5e1cc42cc93e3699756d90be6c87b54131122da8a66b6272c4c7d8af3e"), looks := true }, kinds := [], alts := [], laidByText := true, laidKinds := [.data, .data, .data, .sentinel, .sentinel], laidTests := true, laidLooks := .later }
def TopFormsCardSaid : Prop := Claim7.holds Tryd.pinned (.plain (OpenSpec.ofChange topFormsSpec)) topFormsCard

/-- THE TIED CARD OF 'sleuthlaw18.TopAsks'. -/
def topAsksCard : Claim7 := { stood := { row := topAsksRow, standIns := [], harness := (true, "d57f2b5e1cc42cc93e3699756d90be6c87b54131122da8a66b6272c4c7d8af3e"), looks := true }, kinds := [], alts := [], laidByText := true, laidKinds := [.data, .data, .data, .sentinel, .sentinel], laidTests := true, laidLooks := .later }
def TopAsksCardSaid : Prop := Claim7.holds Tryd.pinned (.plain (OpenSpec.ofChange topAsksSpec)) topAsksCard

/-- THE TIED CARD OF 'sleuthlaw18.TopTable'. -/
def topTableCard : Claim7 := { stood := { row := topTableRow, standIns := [], harness := (true, "d57f2b5e1cc42cc93e3699756d90be6c87b54131122da8a66b6272c4c7d8af3e"), looks := true }, kinds := [], alts := [], laidByText := true, laidKinds := [.data, .data, .data, .sentinel, .sentinel], laidTests := true, laidLooks := .later }
def TopTableCardSaid : Prop := Claim7.holds Tryd.pinned (.plain (OpenSpec.ofChange topTableSpec)) topTableCard

/-- THE TIED CARD OF 'sleuthlaw18.TopStill'. -/
def topStillCard : Claim7 := { stood := { row := topStillRow, standIns := [], harness := (true, "d57f2b5e1cc42cc93e3699756d90be6c87b54131122da8a66b6272c4c7d8af3e"), looks := true }, kinds := [], alts := [], laidByText := true, laidKinds := [.data, .data, .data, .sentinel, .sentinel], laidTests := true, laidLooks := .later }
def TopStillCardSaid : Prop := Claim7.holds Tryd.pinned (.plain (OpenSpec.ofChange topStillSpec)) topStillCard

/-- THE TIED CARD OF 'sleuthlaw19.HalfForms'. -/
def halfFormsCard : Claim7 := { stood := { row := halfFormsRow, standIns := [], harness := (true, "d57f2b5e1cc42cc93e3699756d90be6c87b54131122da8a66b6272c4c7d8af3e"), looks := true }, kinds := [], alts := [], laidByText := true, laidKinds := [.data, .data, .data, .sentinel, .sentinel], laidTests := true, laidLooks := .later }
def HalfFormsCardSaid : Prop := Claim7.holds Tryd.pinned (.plain (OpenSpec.ofChange halfFormsSpec)) halfFormsCard

/-- THE TIED CARD OF 'sleuthlaw19.HalfAsks'. -/
def halfAsksCard : Claim7 := { stood := { row := halfAsksRow, standIns := [], harness := (true, "d57f2b5e1cc42cc93e3699756d90be6c87b54131122da8a66b6272c4c7d8af3e"), looks := true }, kinds := [], alts := [], laidByText := true, laidKinds := [.data, .data, .data, .sentinel, .sentinel], laidTests := true, laidLooks := .later }
def HalfAsksCardSaid : Prop := Claim7.holds Tryd.pinned (.plain (OpenSpec.ofChange halfAsksSpec)) halfAsksCard

/-- THE TIED CARD OF 'sleuthlaw19.HalfRow'. -/
def halfRowCard : Claim7 := { stood := { row := halfRowRow, standIns := [], harness := (true, "d57f2b5e1cc42cc93e3699756d90be6c87b54131122da8a66b6272c4c7d8af3e"), looks := true }, kinds := [], alts := [], laidByText := true, laidKinds := [.data, .data, .data, .sentinel, .sentinel], laidTests := true, laidLooks := .later }
def HalfRowCardSaid : Prop := Claim7.holds Tryd.pinned (.plain (OpenSpec.ofChange halfRowSpec)) halfRowCard

/-- THE TIED CARD OF 'sleuthlaw19.HalfTable'. -/
def halfTableCard : Claim7 := { stood := { row := halfTableRow, standIns := [], harness := (true, "d57f2b5e1cc42cc93e3699756d90be6c87b54131122da8a66b6272c4c7d8af3e"), looks := true }, kinds := [], alts := [], laidByText := true, laidKinds := [.data, .data, .data, .sentinel, .sentinel], laidTests := true, laidLooks := .later }
def HalfTableCardSaid : Prop := Claim7.holds Tryd.pinned (.plain (OpenSpec.ofChange halfTableSpec)) halfTableCard

/-- THE TIED CARD OF 'sleuthlaw19.HalfFewer'. -/
def halfFewerCard : Claim7 := { stood := { row := halfFewerRow, standIns := [], harness := (true, "d57f2b5e1cc42cc93e3699756d90be6c87b54131122da8a66b6272c4c7d8af3e"), looks := true }, kinds := [], alts := [], laidByText := true, laidKinds := [.data, .data, .data, .sentinel, .sentinel], laidTests := true, laidLooks := .later }
def HalfFewerCardSaid : Prop := Claim7.holds Tryd.pinned (.plain (OpenSpec.ofChange halfFewerSpec)) halfFewerCard

/-- THE SECOND FORM's CARD OF 'sleuthlaw18.Tops'. -/
def topsUptoCard : Claim7 := { stood := { row := topsUptoRow, standIns := [], harness := (true, "d57f2b5e1cc42cc93e3699756d90be6c87b54131122da8a66b6272c4c7d8af3e"), looks := true }, kinds := [], alts := [], laidByText := true, laidKinds := [.data, .data, .data, .sentinel, .sentinel], laidTests := true, laidLooks := .later }
def TopsUptoCardSaid : Prop := Claim7.holds Tryd.pinned (.plain (OpenSpec.upto topsSpec)) topsUptoCard

/-- THE SECOND FORM's CARD OF 'sleuthlaw18.TopForms'. -/
def topFormsUptoCard : Claim7 := { stood := { row := topFormsUptoRow, standIns := [], harness := (true, "d57f2b5e1cc42cc93e3699756d90be6c87b54131122da8a66b6272c4c7d8af3e"), looks := true }, kinds := [], alts := [], laidByText := true, laidKinds := [.data, .data, .data, .sentinel, .sentinel], laidTests := true, laidLooks := .later }
def TopFormsUptoCardSaid : Prop := Claim7.holds Tryd.pinned (.plain (OpenSpec.upto topFormsSpec)) topFormsUptoCard

/-- THE SECOND FORM's CARD OF 'sleuthlaw18.TopAsks'. -/
def topAsksUptoCard : Claim7 := { stood := { row := topAsksUptoRow, standIns := [], harness := (true, "d57f2b5e1cc42cc93e3699756d90be6c87b54131122da8a66b6272c4c7d8af3e"), looks := true }, kinds := [], alts := [], laidByText := true, laidKinds := [.data, .data, .data, .sentinel, .sentinel], laidTests := true, laidLooks := .later }
def TopAsksUptoCardSaid : Prop := Claim7.holds Tryd.pinned (.plain (OpenSpec.upto topAsksSpec)) topAsksUptoCard

/-- THE SECOND FORM's CARD OF 'sleuthlaw18.TopTable'. -/
def topTableUptoCard : Claim7 := { stood := { row := topTableUptoRow, standIns := [], harness := (true, "d57f2b5e1cc42cc93e3699756d90be6c87b54131122da8a66b6272c4c7d8af3e"), looks := true }, kinds := [], alts := [], laidByText := true, laidKinds := [.data, .data, .data, .sentinel, .sentinel], laidTests := true, laidLooks := .later }
def TopTableUptoCardSaid : Prop := Claim7.holds Tryd.pinned (.plain (OpenSpec.upto topTableSpec)) topTableUptoCard

/-- THE SECOND FORM's CARD OF 'sleuthlaw18.TopStill'. -/
def topStillUptoCard : Claim7 := { stood := { row := topStillUptoRow, standIns := [], harness := (true, "d57f2b5e1cc42cc93e3699756d90be6c87b54131122da8a66b6272c4c7d8af3e"), looks := true }, kinds := [], alts := [], laidByText := true, laidKinds := [.data, .data, .data, .sentinel, .sentinel], laidTests := true, laidLooks := .later }
def TopStillUptoCardSaid : Prop := Claim7.holds Tryd.pinned (.plain (OpenSpec.upto topStillSpec)) topStillUptoCard

/-- THE SECOND FORM's CARD OF 'sleuthlaw19.HalfForms'. -/
def halfFormsUptoCard : Claim7 := { stood := { row := halfFormsUptoRow, standIns := [], harness := (true, "d57f2b5e1cc42cc93e3699756d90be6c87b54131122da8a66b6272c4c7d8af3e"), looks := true }, kinds := [], alts := [], laidByText := true, laidKinds := [.data, .data, .data, .sentinel, .sentinel], laidTests := true, laidLooks := .later }
def HalfFormsUptoCardSaid : Prop := Claim7.holds Tryd.pinned (.plain (OpenSpec.upto halfFormsSpec)) halfFormsUptoCard

/-- THE SECOND FORM's CARD OF 'sleuthlaw19.HalfAsks'. -/
def halfAsksUptoCard : Claim7 := { stood := { row := halfAsksUptoRow, standIns := [], harness := (true, "d57f2b5e1cc42cc93e3699756d90be6c87b54131122da8a66b6272c4c7d8af3e"), looks := true }, kinds := [], alts := [], laidByText := true, laidKinds := [.data, .data, .data, .sentinel, .sentinel], laidTests := true, laidLooks := .later }
def HalfAsksUptoCardSaid : Prop := Claim7.holds Tryd.pinned (.plain (OpenSpec.upto halfAsksSpec)) halfAsksUptoCard

/-- THE SECOND FORM's CARD OF 'sleuthlaw19.HalfRow'. -/
def halfRowUptoCard : Claim7 := { stood := { row := halfRowUptoRow, standIns := [], harness := (true, "d57f2b5e1cc42cc93e3699756d90be6c87b54131122da8a66b6272c4c7d8af3e"), looks := true }, kinds := [], alts := [], laidByText := true, laidKinds := [.data, .data, .data, .sentinel, .sentinel], laidTests := true, laidLooks := .later }
def HalfRowUptoCardSaid : Prop := Claim7.holds Tryd.pinned (.plain (OpenSpec.upto halfRowSpec)) halfRowUptoCard

/-- THE SECOND FORM's CARD OF 'sleuthlaw19.HalfTable'. -/
def halfTableUptoCard : Claim7 := { stood := { row := halfTableUptoRow, standIns := [], harness := (true, "d57f2b5e1cc42cc93e3699756d90be6c87b54131122da8a66b6272c4c7d8af3e"), looks := true }, kinds := [], alts := [], laidByText := true, laidKinds := [.data, .data, .data, .sentinel, .sentinel], laidTests := true, laidLooks := .later }
def HalfTableUptoCardSaid : Prop := Claim7.holds Tryd.pinned (.plain (OpenSpec.upto halfTableSpec)) halfTableUptoCard

/-- THE SECOND FORM's CARD OF 'sleuthlaw19.HalfFewer'. -/
def halfFewerUptoCard : Claim7 := { stood := { row := halfFewerUptoRow, standIns := [], harness := (true, "d57f2b5e1cc42cc93e3699756d90be6c87b54131122da8a66b6272c4c7d8af3e"), looks := true }, kinds := [], alts := [], laidByText := true, laidKinds := [.data, .data, .data, .sentinel, .sentinel], laidTests := true, laidLooks := .later }
def HalfFewerUptoCardSaid : Prop := Claim7.holds Tryd.pinned (.plain (OpenSpec.upto halfFewerSpec)) halfFewerUptoCard
end Rows
end Go.Proofs.YtpbobdgenjhjoaaDoor

/-
  DERIVED. GIVEN WITH THE SEED: THE CARDS: each row of YtgcdbpnflchobaaDoorRows.lean that lists a variable, with what it lists TIED to the program's text (the seventh form; the later family's looks); each row that meets fmt, with fmt's text TOLD by the authors' own Lean function (tested against real Go, not proved from fmt's source: count such statements apart). THE CARD IS WHAT COUNTS. Prove the row's statement (the work); the ties are given (YtgcdbpnflchobaaDoorTie.lean); close each card by the builder's one call (the guide's Derived/Test/ToyasCard.lean, 'card_holds'). Laid BY PROGRAM, IN A SANDBOX (cutbox-door.mjs). By AI agents, Wed Nov 11 2026. No macro, syntax, notation, axiom, sorry.
-/
import Derived.Test.YtgcdbpnflchobaaDoorRows
import GoSem.ClaimSeven
namespace Go.Proofs.YtgcdbpnflchobaaDoor
namespace Rows

/-- THE TIED CARD OF 'sleuthlaw13.Trees'. -/
def treesCard : Claim7 := { stood := { row := treesRow, standIns := [], harness := (true, "1a48f8cc8cbebaf0d669b8240b3d709a7ad64c139b1f9af6c1973eee8c17d15b"), looks := true }, kinds := [], alts := [], laidByText := true, laidKinds := [.data, .data, .data, .sentinel, .sentinel], laidTests := true, laidLooks := .later }
def TreesCardSaid : Prop := Claim7.holds Tryd.pinned (.plain (OpenSpec.ofChange treesSpec)) treesCard

/-- THE TIED CARD OF 'sleuthlaw13.TreeSums'. -/
def treeSumsCard : Claim7 := { stood := { row := treeSumsRow, standIns := [], harness := (true, "1a48f8cc8cbebaf0d669b8240b3d709a7ad64c139b1f9af6c1973eee8c17d15b"), looks := true }, kinds := [], alts := [], laidByText := true, laidKinds := [.data, .data, .data, .sentinel, .sentinel], laidTests := true, laidLooks := .later }
def TreeSumsCardSaid : Prop := Claim7.holds Tryd.pinned (.plain (OpenSpec.ofChange treeSumsSpec)) treeSumsCard

/-- THE TIED CARD OF 'sleuthlaw13.TreeForms'. -/
def treeFormsCard : Claim7 := { stood := { row := treeFormsRow, standIns := [], harness := (true, "1a48f8cc8cbebaf0d669b8240b3d709a7ad64c139b1f9af6c1973eee8c17d15b"), looks := true }, kinds := [], alts := [], laidByText := true, laidKinds := [.data, .data, .data, .sentinel, .sentinel], laidTests := true, laidLooks := .later }
def TreeFormsCardSaid : Prop := Claim7.holds Tryd.pinned (.plain (OpenSpec.ofChange treeFormsSpec)) treeFormsCard

/-- THE TIED CARD OF 'sleuthlaw13.TreeAll'. -/
def treeAllCard : Claim7 := { stood := { row := treeAllRow, standIns := [], harness := (true, "1a48f8cc8cbebaf0d669b8240b3d709a7ad64c139b1f9af6c1973eee8c17d15b"), looks := true }, kinds := [], alts := [], laidByText := true, laidKinds := [.data, .data, .data, .sentinel, .sentinel], laidTests := true, laidLooks := .later }
def TreeAllCardSaid : Prop := Claim7.holds Tryd.pinned (.plain (OpenSpec.ofChange treeAllSpec)) treeAllCard

/-- THE TIED CARD OF 'sleuthlaw13.TreeChain'. -/
def treeChainCard : Claim7 := { stood := { row := treeChainRow, standIns := [], harness := (true, "1a48f8cc8cbebaf0d669b8240b3d709a7ad64c139b1f9af6c1973eee8c17d15b"), looks := true }, kinds := [], alts := [], laidByText := true, laidKinds := [.data, .data, .data, .sentinel, .sentinel], laidTests := true, laidLooks := .later }
def TreeChainCardSaid : Prop := Claim7.holds Tryd.pinned (.plain (OpenSpec.ofChange treeChainSpec)) treeChainCard

/-- THE TIED CARD OF 'sleuthlaw13.TreeCut'. -/
def treeCutCard : Claim7 := { stood := { row := treeCutRow, standIns := [], harness := (true, "1a48f8cc8cbebaf0d669b8240b3d709a7ad64c139b1f9af6c1973eee8c17d15b"), looks := true }, kinds := [], alts := [], laidByText := true, laidKinds := [.data, .data, .data, .sentinel, .sentinel], laidTests := true, laidLooks := .later }
def TreeCutCardSaid : Prop := Claim7.holds Tryd.pinned (.plain (OpenSpec.ofChange treeCutSpec)) treeCutCard

/-- THE TIED CARD OF 'sleuthlaw24.Backs'. -/
def backsCard : Claim7 := { stood := { row := backsRow, standIns := [], harness := (true, "1a48f8cc8cbebaf0d669b8240b3d709a7ad64c139b1f9af6c1973eee8c17d15b"), looks := true }, kinds := [], alts := [], laidByText := true, laidKinds := [.data, .data, .data, .sentinel, .sentinel], laidTests := true, laidLooks := .later }
def BacksCardSaid : Prop := Claim7.holds Tryd.pinned (.plain (OpenSpec.ofChange backsSpec)) backsCard

/-- THE TIED CARD OF 'sleuthlaw24.BackForms'. -/
def backFormsCard : Claim7 := { stood := { row := backFormsRow, standIns := [], harness := (true, "1a48f8cc8cbebaf0d669b8240b3d709a7ad64c139b1f9af6c1973eee8c17d15b"), looks := true }, kinds := [], alts := [], laidByText := true, laidKinds := [.data, .data, .data, .sentinel, .sentinel], laidTests := true, laidLooks := .later }
def BackFormsCardSaid : Prop := Claim7.holds Tryd.pinned (.plain (OpenSpec.ofChange backFormsSpec)) backFormsCard

/-- THE TIED CARD OF 'sleuthlaw24.BackFalls'. -/
def backFallsCard : Claim7 := { stood := { row := backFallsRow, standIns := [], harness := (true, "1a48f8cc8cbebaf0d669b8240b3d709a7ad64c139b1f9af6c1973eee8c17d15b"), looks := true }, kinds := [], alts := [], laidByText := true, laidKinds := [.data, .data, .data, .sentinel, .sentinel], laidTests := true, laidLooks := .later }
def BackFallsCardSaid : Prop := Claim7.holds Tryd.pinned (.plain (OpenSpec.ofChange backFallsSpec)) backFallsCard

/-- THE TIED CARD OF 'sleuthlaw24.BackLast'. -/
def backLastCard : Claim7 := { stood := { row := backLastRow, standIns := [], harness := (true, "1a48f8cc8cbebaf0d669b8240b3d709a7ad64c139b1f9af6c1973eee8c17d15b"), looks := true }, kinds := [], alts := [], laidByText := true, laidKinds := [.data, .data, .data, .sentinel, .sentinel], laidTests := true, laidLooks := .later }
def BackLastCardSaid : Prop := Claim7.holds Tryd.pinned (.plain (OpenSpec.ofChange backLastSpec)) backLastCard

/-- THE TIED CARD OF 'sleuthlaw24.BackRow'. -/
def backRowCard : Claim7 := { stood := { row := backRowRow, standIns := [], harness := (true, "1a48f8cc8cbebaf0d669b8240b3d709a7ad64c139b1f9af6c1973eee8c17d15b"), looks := true }, kinds := [], alts := [], laidByText := true, laidKinds := [.data, .data, .data, .sentinel, .sentinel], laidTests := true, laidLooks := .later }
def BackRowCardSaid : Prop := Claim7.holds Tryd.pinned (.plain (OpenSpec.ofChange backRowSpec)) backRowCard

/-- THE SECOND FORM's CARD OF 'sleuthlaw13.Trees'. -/
def treesUptoCard : Claim7 := { stood := { row := treesUptoRow, standIns := [], harness := (true, "1a48f8cc8cbebaf0d669b8240b3d709a7ad64c139b1f9af6c1973eee8c17d15b"), looks := true }, kinds := [], alts := [], laidByText := true, laidKinds := [.data, .data, .data, .sentinel, .sentinel], laidTests := true, laidLooks := .later }
def TreesUptoCardSaid : Prop := Claim7.holds Tryd.pinned (.plain (OpenSpec.upto treesSpec)) treesUptoCard

/-- THE SECOND FORM's CARD OF 'sleuthlaw13.TreeSums'. -/
def treeSumsUptoCard : Claim7 := { stood := { row := treeSumsUptoRow, standIns := [], harness := (true, "1a48f8cc8cbebaf0d669b8240b3d709a7ad64c139b1f9af6c1973eee8c17d15b"), looks := true }, kinds := [], alts := [], laidByText := true, laidKinds := [.data, .data, .data, .sentinel, .sentinel], laidTests := true, laidLooks := .later }
def TreeSumsUptoCardSaid : Prop := Claim7.holds Tryd.pinned (.plain (OpenSpec.upto treeSumsSpec)) treeSumsUptoCard

/-- THE SECOND FORM's CARD OF 'sleuthlaw13.TreeForms'. -/
def treeFormsUptoCard : Claim7 := { stood := { row := treeFormsUptoRow, standIns := [], harness := (true, "1a48f8cc8cbebaf0d669b8240b3d709a7ad64c139b1f9af6c1973eee8c17d15b"), looks := true }, kinds := [], alts := [], laidByText := true, laidKinds := [.data, .data, .data, .sentinel, .sentinel], laidTests := true, laidLooks := .later }
def TreeFormsUptoCardSaid : Prop := Claim7.holds Tryd.pinned (.plain (OpenSpec.upto treeFormsSpec)) treeFormsUptoCard

/-- THE SECOND FORM's CARD OF 'sleuthlaw13.TreeAll'. -/
def treeAllUptoCard : Claim7 := { stood := { row := treeAllUptoRow, standIns := [], harness := (true, "1a48f8cc8cbebaf0d669b8240b3d709a7ad64c139b1f9af6c1973eee8c17d15b"), looks := true }, kinds := [], alts := [], laidByText := true, laidKinds := [.data, .data, .data, .sentinel, .sentinel], laidTests := true, laidLooks := .later }
def TreeAllUptoCardSaid : Prop := Claim7.holds Tryd.pinned (.plain (OpenSpec.upto treeAllSpec)) treeAllUptoCard

/-- THE SECOND FORM's CARD OF 'sleuthlaw13.TreeChain'. -/
def treeChainUptoCard : Claim7 := { stood := { row := treeChainUptoRow, standIns := [], harness := (true, "1a48f8cc8cbebaf0d669b8240b3d709a7ad64c139b1f9af6c1973eee8c17d15b"), looks := true }, kinds := [], alts := [], laidByText := true, laidKinds := [.data, .data, .data, .sentinel, .sentinel], laidTests := true, laidLooks := .later }
def TreeChainUptoCardSaid : Prop := Claim7.holds Tryd.pinned (.plain (OpenSpec.upto treeChainSpec)) treeChainUptoCard

/-- THE SECOND FORM's CARD OF 'sleuthlaw13.TreeCut'. -/
def treeCutUptoCard : Claim7 := { stood := { row := treeCutUptoRow, standIns := [], harness := (true, "1a48f8cc8cbebaf0d669b8240b3d709a7ad64c139b1f9af6c1973eee8c17d15b"), looks := true }, kinds := [], alts := [], laidByText := true, laidKinds := [.data, .data, .data, .sentinel, .sentinel], laidTests := true, laidLooks := .later }
def TreeCutUptoCardSaid : Prop := Claim7.holds Tryd.pinned (.plain (OpenSpec.upto treeCutSpec)) treeCutUptoCard

/-- THE SECOND FORM's CARD OF 'sleuthlaw24.Backs'. -/
def backsUptoCard : Claim7 := { stood := { row := backsUptoRow, standIns := [], harness := (true, "1a48f8cc8cbebaf0d669b8240b3d709a7ad64c139b1f9af6c1973eee8c17d15b"), looks := true }, kinds := [], alts := [], laidByText := true, laidKinds := [.data, .data, .data, .sentinel, .sentinel], laidTests := true, laidLooks := .later }
def BacksUptoCardSaid : Prop := Claim7.holds Tryd.pinned (.plain (OpenSpec.upto backsSpec)) backsUptoCard

/-- THE SECOND FORM's CARD OF 'sleuthlaw24.BackForms'. -/
def backFormsUptoCard : Claim7 := { stood := { row := backFormsUptoRow, standIns := [], harness := (true, "1a48f8cc8cbebaf0d669b8240b3d709a7ad64c139b1f9af6c1973eee8c17d15b"), looks := true }, kinds := [], alts := [], laidByText := true, laidKinds := [.data, .data, .data, .sentinel, .sentinel], laidTests := true, laidLooks := .later }
def BackFormsUptoCardSaid : Prop := Claim7.holds Tryd.pinned (.plain (OpenSpec.upto backFormsSpec)) backFormsUptoCard

/-- THE SECOND FORM's CARD OF 'sleuthlaw24.BackFalls'. -/
def backFallsUptoCard : Claim7 := { stood := { row := backFallsUptoRow, standIns := [], harness := (true, "1a48f8cc8cbebaf0d669b8240b3d709a7ad64c139b1f9af6c1973eee8c17d15b"), looks := true }, kinds := [], alts := [], laidByText := true, laidKinds := [.data, .data, .data, .sentinel, .sentinel], laidTests := true, laidLooks := .later }
def BackFallsUptoCardSaid : Prop := Claim7.holds Tryd.pinned (.plain (OpenSpec.upto backFallsSpec)) backFallsUptoCard

/-- THE SECOND FORM's CARD OF 'sleuthlaw24.BackLast'. -/
def backLastUptoCard : Claim7 := { stood := { row := backLastUptoRow, standIns := [], harness := (true, "1a48f8cc8cbebaf0d669b8240b3d709a7ad64c139b1f9af6c1973eee8c17d15b"), looks := true }, kinds := [], alts := [], laidByText := true, laidKinds := [.data, .data, .data, .sentinel, .sentinel], laidTests := true, laidLooks := .later }
def BackLastUptoCardSaid : Prop := Claim7.holds Tryd.pinned (.plain (OpenSpec.upto backLastSpec)) backLastUptoCard

/-- THE SECOND FORM's CARD OF 'sleuthlaw24.BackRow'. -/
def backRowUptoCard : Claim7 := { stood := { row := backRowUptoRow, standIns := [], harness := (true, "1a48f8cc8cbebaf0d669b8240b3d709a7ad64c139b1f9af6c1973eee8c17d15b"), looks := true }, kinds := [], alts := [], laidByText := true, laidKinds := [.data, .data, .data, .sentinel, .sentinel], laidTests := true, laidLooks := .later }
def BackRowUptoCardSaid : Prop := Claim7.holds Tryd.pinned (.plain (OpenSpec.upto backRowSpec)) backRowUptoCard
end Rows
end Go.Proofs.YtgcdbpnflchobaaDoor

/-
  DERIVED. GIVEN WITH THE SEED: THE CARDS: each row of YtbnljapgnfmmoaaDoorRows.lean that lists a variable, with what it lists TIED to the program's text (the seventh form; the later family's looks); each row that meets fmt, with fmt's text TOLD by the authors' own Lean function (tested against real Go, not proved from fmt's source: count such statements apart). THE CARD IS WHAT COUNTS. Prove the row's statement (the work); the ties are given (YtbnljapgnfmmoaaDoorTie.lean); close each card by the builder's one call (the guide's Derived/Test/ToyasCard.lean, 'card_holds'). Laid BY PROGRAM, IN A SANDBOX (cutbox-door.mjs). By AI agents, Wed Nov 11 2026. No macro, syntax, notation, axiom, sorry.
-/
import Derived.Test.YtbnljapgnfmmoaaDoorRows
import GoSem.ClaimSeven
namespace Go.Proofs.YtbnljapgnfmmoaaDoor
namespace Rows

/-- THE TIED CARD OF 'sleuthlaw22.AnswerForms'. -/
def answerFormsCard : Claim7 := { stood := { row := answerFormsRow, standIns := [], harness := (true, "1e3da080c05aa0e593db3e90638392a72f39f18382754b5af1537f8c8ba2e78f"), looks := true }, kinds := [], alts := [], laidByText := true, laidKinds := [.data, .data, .data, .sentinel, .sentinel], laidTests := true, laidLooks := .later }
def AnswerFormsCardSaid : Prop := Claim7.holds Tryd.pinned (.plain (OpenSpec.ofChange answerFormsSpec)) answerFormsCard

/-- THE SECOND FORM's CARD OF 'sleuthlaw22.AnswerForms'. -/
def answerFormsUptoCard : Claim7 := { stood := { row := answerFormsUptoRow, standIns := [], harness := (true, "1e3da080c05aa0e593db3e90638392a72f39f18382754b5af1537f8c8ba2e78f"), looks := true }, kinds := [], alts := [], laidByText := true, laidKinds := [.data, .data, .data, .sentinel, .sentinel], laidTests := true, laidLooks := .later }
def AnswerFormsUptoCardSaid : Prop := Claim7.holds Tryd.pinned (.plain (OpenSpec.upto answerFormsSpec)) answerFormsUptoCard
end Rows
end Go.Proofs.YtbnljapgnfmmoaaDoor

/-
  DERIVED. GIVEN WITH THE SEED: THE CARDS: each row of YtbnljapgnfmmoaaGreatDoorRows.lean that lists a variable, with what it lists TIED to the program's text (the seventh form; the later family's looks); each row that meets fmt, with fmt's text TOLD by the authors' own Lean function (tested against real Go, not proved from fmt's source: count such statements apart). THE CARD IS WHAT COUNTS. Prove the row's statement (the work); the ties are given (YtbnljapgnfmmoaaGreatDoorTie.lean); close each card by the builder's one call (the guide's Derived/Test/ToyasCard.lean, 'card_holds'). Laid BY PROGRAM, IN A SANDBOX (cutbox-door.mjs). By AI agents, Wed Nov 11 2026. No macro, syntax, notation, axiom, sorry.
-/
import Derived.Test.YtbnljapgnfmmoaaGreatDoorRows
import GoSem.ClaimSeven
namespace Go.Proofs.YtbnljapgnfmmoaaGreatDoor
namespace Rows

/-- THE TIED CARD OF 'sleuthlaw22.Answers'. -/
def answersCard : Claim7 := { stood := { row := answersRow, standIns := [], harness := (true, "b2e4f8928a3575d6ae1c143891d4eef568f091977f2464a4ff66600294f266e0"), looks := true }, kinds := [], alts := [], laidByText := true, laidKinds := [.data, .data, .data, .sentinel, .sentinel], laidTests := true, laidLooks := .later }
def AnswersCardSaid : Prop := Claim7.holds Tryz.pinned (.plain (OpenSpec.ofChange answersSpec)) answersCard

/-- THE TIED CARD OF 'sleuthlaw22.AnswerBack'. -/
def answerBackCard : Claim7 := { stood := { row := answerBackRow, standIns := [], harness := (true, "b2e4f8928a3575d6ae1c143891d4eef568f091977f2464a4ff66600294f266e0"), looks := true }, kinds := [], alts := [], laidByText := true, laidKinds := [.data, .data, .data, .sentinel, .sentinel], laidTests := true, laidLooks := .later }
def AnswerBackCardSaid : Prop := Claim7.holds Tryz.pinned (.plain (OpenSpec.ofChange answerBackSpec)) answerBackCard

/-- THE TIED CARD OF 'sleuthlaw22.AnswerEnds'. -/
def answerEndsCard : Claim7 := { stood := { row := answerEndsRow, standIns := [], harness := (true, "b2e4f8928a3575d6ae1c143891d4eef568f091977f2464a4ff66600294f266e0"), looks := true }, kinds := [], alts := [], laidByText := true, laidKinds := [.data, .data, .data, .sentinel, .sentinel], laidTests := true, laidLooks := .later }
def AnswerEndsCardSaid : Prop := Claim7.holds Tryz.pinned (.plain (OpenSpec.ofChange answerEndsSpec)) answerEndsCard

/-- THE TIED CARD OF 'sleuthlaw22.AnswerRow'. -/
def answerRowCard : Claim7 := { stood := { row := answerRowRow, standIns := [], harness := (true, "b2e4f8928a3575d6ae1c143891d4eef568f091977f2464a4ff66600294f266e0"), looks := true }, kinds := [], alts := [], laidByText := true, laidKinds := [.data, .data, .data, .sentinel, .sentinel], laidTests := true, laidLooks := .later }
def AnswerRowCardSaid : Prop := Claim7.holds Tryz.pinned (.plain (OpenSpec.ofChange answerRowSpec)) answerRowCard

/-- THE SECOND FORM's CARD OF 'sleuthlaw22.Answers'. -/
def answersUptoCard : Claim7 := { stood := { row := answersUptoRow, standIns := [], harness := (true, "b2e4f8928a3575d6ae1c143891d4eef568f091977f2464a4ff66600294f266e0"), looks := true }, kinds := [], alts := [], laidByText := true, laidKinds := [.data, .data, .data, .sentinel, .sentinel], laidTests := true, laidLooks := .later }
def AnswersUptoCardSaid : Prop := Claim7.holds Tryz.pinned (.plain (OpenSpec.upto answersSpec)) answersUptoCard

/-- THE SECOND FORM's CARD OF 'sleuthlaw22.AnswerBack'. -/
def answerBackUptoCard : Claim7 := { stood := { row := answerBackUptoRow, standIns := [], harness := (true, "b2e4f8928a3575d6ae1c143891d4eef568f091977f2464a4ff66600294f266e0"), looks := true }, kinds := [], alts := [], laidByText := true, laidKinds := [.data, .data, .data, .sentinel, .sentinel], laidTests := true, laidLooks := .later }
def AnswerBackUptoCardSaid : Prop := Claim7.holds Tryz.pinned (.plain (OpenSpec.upto answerBackSpec)) answerBackUptoCard

/-- THE SECOND FORM's CARD OF 'sleuthlaw22.AnswerEnds'. -/
def answerEndsUptoCard : Claim7 := { stood := { row := answerEndsUptoRow, standIns := [], harness := (true, "b2e4f8928a3575d6ae1c143891d4eef568f091977f2464a4ff66600294f266e0"), looks := true }, kinds := [], alts := [], laidByText := true, laidKinds := [.data, .data, .data, .sentinel, .sentinel], laidTests := true, laidLooks := .later }
def AnswerEndsUptoCardSaid : Prop := Claim7.holds Tryz.pinned (.plain (OpenSpec.upto answerEndsSpec)) answerEndsUptoCard

/-- THE SECOND FORM's CARD OF 'sleuthlaw22.AnswerRow'. -/
def answerRowUptoCard : Claim7 := { stood := { row := answerRowUptoRow, standIns := [], harness := (true, "b2e4f8928a3575d6ae1c143891d4eef568f091977f2464a4ff66600294f266e0"), looks := true }, kinds := [], alts := [], laidByText := true, laidKinds := [.data, .data, .data, .sentinel, .sentinel], laidTests := true, laidLooks := .later }
def AnswerRowUptoCardSaid : Prop := Claim7.holds Tryz.pinned (.plain (OpenSpec.upto answerRowSpec)) answerRowUptoCard
end Rows
end Go.Proofs.YtbnljapgnfmmoaaGreatDoor

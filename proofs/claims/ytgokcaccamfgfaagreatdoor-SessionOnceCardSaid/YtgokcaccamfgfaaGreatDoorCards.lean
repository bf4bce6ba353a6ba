/-
  DERIVED. GIVEN WITH THE SEED: THE CARDS: each row of YtgokcaccamfgfaaGreatDoorRows.lean that lists a variable, with what it lists TIED to the program's text (the seventh form; the later family's looks); each row that meets fmt, with fmt's text TOLD by the authors' own Lean function (tested against real Go, not proved from fmt's source: count such statements apart). THE CARD IS WHAT COUNTS. Prove the row's statement (the work); the ties are given (YtgokcaccamfgfaaGreatDoorTie.lean); close each card by the builder's one call (the guide's Derived/Test/ToyasCard.lean, 'card_holds'). Laid BY PROGRAM, IN A SANDBOX (cutbox-door.mjs). By AI agents, Wed Nov 11 2026. No macro, syntax, notation, axiom, sorry.
-/
import Derived.Test.YtgokcaccamfgfaaGreatDoorRows
import GoSem.ClaimSeven
namespace Go.Proofs.YtgokcaccamfgfaaGreatDoor
namespace Rows

/-- THE TIED CARD OF 'sleuthlaw20.Nexts'. -/
def nextsCard : Claim7 := { stood := { row := nextsRow, standIns := [], harness := (true, "71f6e8e7de26b86560fae63e080cefd6cfa4e40506d0870040b7235a0fe29002"), looks := true }, kinds := [], alts := [], laidByText := true, laidKinds := [.data, .data, .data, .sentinel, .sentinel], laidTests := true, laidLooks := .later }
def NextsCardSaid : Prop := Claim7.holds Tryz.pinned (.plain (OpenSpec.ofChange nextsSpec)) nextsCard

/-- THE TIED CARD OF 'sleuthlaw20.NextAsks'. -/
def nextAsksCard : Claim7 := { stood := { row := nextAsksRow, standIns := [], harness := (true, "71f6e8e7de26b86560fae63e080cefd6cfa4e40506d0870040b7235a0fe29002"), looks := true }, kinds := [], alts := [], laidByText := true, laidKinds := [.data, .data, .data, .sentinel, .sentinel], laidTests := true, laidLooks := .later }
def NextAsksCardSaid : Prop := Claim7.holds Tryz.pinned (.plain (OpenSpec.ofChange nextAsksSpec)) nextAsksCard

/-- THE TIED CARD OF 'sleuthlaw21.Sessions'. -/
def sessionsCard : Claim7 := { stood := { row := sessionsRow, standIns := [], harness := (true, "71f6e8e7de26b86560fae63e080cefd6cfa4e40506d0870040b7235a0fe29002"), looks := true }, kinds := [], alts := [], laidByText := true, laidKinds := [.data, .data, .data, .sentinel, .sentinel], laidTests := true, laidLooks := .later }
def SessionsCardSaid : Prop := Claim7.holds Tryz.pinned (.plain (OpenSpec.ofChange sessionsSpec)) sessionsCard

/-- THE TIED CARD OF 'sleuthlaw21.SessionOnce'. -/
def sessionOnceCard : Claim7 := { stood := { row := sessionOnceRow, standIns := [], harness := (true, "71f6e8e7de26b86560fae63e080cefd6cfa4e40506d0870040b7235a0fe29002"), looks := true }, kinds := [], alts := [], laidByText := true, laidKinds := [.data, .data, .data, .sentinel, .sentinel], laidTests := true, laidLooks := .later }
def SessionOnceCardSaid : Prop := Claim7.holds Tryz.pinned (.plain (OpenSpec.ofChange sessionOnceSpec)) sessionOnceCard

/-- THE SECOND FORM's CARD OF 'sleuthlaw20.Nexts'. -/
def nextsUptoCard : Claim7 := { stood := { row := nextsUptoRow, standIns := [], harness := (true, "71f6e8e7de26b86560fae63e080cefd6cfa4e40506d0870040b7235a0fe29002"), looks := true }, kinds := [], alts := [], laidByText := true, laidKinds := [.data, .data, .data, .sentinel, .sentinel], laidTests := true, laidLooks := .later }
def NextsUptoCardSaid : Prop := Claim7.holds Tryz.pinned (.plain (OpenSpec.upto nextsSpec)) nextsUptoCard

/-- THE SECOND FORM's CARD OF 'sleuthlaw20.NextAsks'. -/
def nextAsksUptoCard : Claim7 := { stood := { row := nextAsksUptoRow, standIns := [], harness := (true, "71f6e8e7de26b86560fae63e080cefd6cfa4e40506d0870040b7235a0fe29002"), looks := true }, kinds := [], alts := [], laidByText := true, laidKinds := [.data, .data, .data, .sentinel, .sentinel], laidTests := true, laidLooks := .later }
def NextAsksUptoCardSaid : Prop := Claim7.holds Tryz.pinned (.plain (OpenSpec.upto nextAsksSpec)) nextAsksUptoCard

/-- THE SECOND FORM's CARD OF 'sleuthlaw21.Sessions'. -/
def sessionsUptoCard : Claim7 := { stood := { row := sessionsUptoRow, standIns := [], harness := (true, "71f6e8e7de26b86560fae63e080cefd6cfa4e40506d0870040b7235a0fe29002"), looks := true }, kinds := [], alts := [], laidByText := true, laidKinds := [.data, .data, .data, .sentinel, .sentinel], laidTests := true, laidLooks := .later }
def SessionsUptoCardSaid : Prop := Claim7.holds Tryz.pinned (.plain (OpenSpec.upto sessionsSpec)) sessionsUptoCard

/-- THE SECOND FORM's CARD OF 'sleuthlaw21.SessionOnce'. -/
def sessionOnceUptoCard : Claim7 := { stood := { row := sessionOnceUptoRow, standIns := [], harness := (true, "71f6e8e7de26b86560fae63e080cefd6cfa4e40506d0870040b7235a0fe29002"), looks := true }, kinds := [], alts := [], laidByText := true, laidKinds := [.data, .data, .data, .sentinel, .sentinel], laidTests := true, laidLooks := .later }
def SessionOnceUptoCardSaid : Prop := Claim7.holds Tryz.pinned (.plain (OpenSpec.upto sessionOnceSpec)) sessionOnceUptoCard
end Rows
end Go.Proofs.YtgokcaccamfgfaaGreatDoor

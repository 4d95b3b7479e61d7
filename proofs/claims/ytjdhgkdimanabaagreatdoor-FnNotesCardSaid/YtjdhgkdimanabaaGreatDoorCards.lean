/-
  DERIVED. GIVEN WITH THE SEED: THE CARDS: each row of YtjdhgkdimanabaaGreatDoorRows.lean that lists a variable, with what it lists TIED to the program's text (the seventh form; the later family's looks); each row that meets fmt, with fmt's text TOLD by the authors' own Lean function (tested against real Go, not proved from fmt's source: count such statements apart). THE CARD IS WHAT COUNTS. Prove the row's statement (the work); the ties are given (YtjdhgkdimanabaaGreatDoorTie.lean); close each card by the builder's one call (the guide's Derived/Test/ToyasCard.lean, 'card_holds'). Laid BY PROGRAM, IN A SANDBOX (cutbox-door.mjs). By AI agents, Wed Nov 11 2026. No macro, syntax, notation, axiom, sorry.
-/
import Derived.Test.YtjdhgkdimanabaaGreatDoorRows
import GoSem.ClaimSeven
namespace Go.Proofs.YtjdhgkdimanabaaGreatDoor
namespace Rows

/-- THE TIED CARD OF 'laws.FnPuzzleTexts'. -/
def fnPuzzleTextsCard : Claim7 := { stood := { row := fnPuzzleTextsRow, standIns := [], harness := (true, "b74f16d3eca6324d8ef47b282cf94b134be3046b3df1293409c85307ade4d24c"), looks := false }, kinds := [], alts := [], laidByText := true, laidKinds := [.data, .data, .data], laidTests := true, laidLooks := .later }
def FnPuzzleTextsCardSaid : Prop := Claim7.holds Tryz.pinned (.plain (OpenSpec.ofChange fnPuzzleTextsSpec)) fnPuzzleTextsCard

/-- THE TIED CARD OF 'laws.FnNotes'. -/
def fnNotesCard : Claim7 := { stood := { row := fnNotesRow, standIns := [], harness := (true, "b74f16d3eca6324d8ef47b282cf94b134be3046b3df1293409c85307ade4d24c"), looks := false }, kinds := [], alts := [], laidByText := true, laidKinds := [.data, .data, .data], laidTests := true, laidLooks := .later }
def FnNotesCardSaid : Prop := Claim7.holds Tryz.pinned (.plain (OpenSpec.ofChange fnNotesSpec)) fnNotesCard

/-- THE SECOND FORM's CARD OF 'laws.FnPuzzleTexts'. -/
def fnPuzzleTextsUptoCard : Claim7 := { stood := { row := fnPuzzleTextsUptoRow, standIns := [], harness := (true, "b74f16d3eca6324d8ef47b282cf94b134be3046b3df1293409c85307ade4d24c"), looks := false }, kinds := [], alts := [], laidByText := true, laidKinds := [.data, .data, .data], laidTests := true, laidLooks := .later }
def FnPuzzleTextsUptoCardSaid : Prop := Claim7.holds Tryz.pinned (.plain (OpenSpec.upto fnPuzzleTextsSpec)) fnPuzzleTextsUptoCard

/-- THE SECOND FORM's CARD OF 'laws.FnNotes'. -/
def fnNotesUptoCard : Claim7 := { stood := { row := fnNotesUptoRow, standIns := [], harness := (true, "b74f16d3eca6324d8ef47b282cf94b134be3046b3df1293409c85307ade4d24c"), looks := false }, kinds := [], alts := [], laidByText := true, laidKinds := [.data, .data, .data], laidTests := true, laidLooks := .later }
def FnNotesUptoCardSaid : Prop := Claim7.holds Tryz.pinned (.plain (OpenSpec.upto fnNotesSpec)) fnNotesUptoCard
end Rows
end Go.Proofs.YtjdhgkdimanabaaGreatDoor

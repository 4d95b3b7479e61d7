/-
  DERIVED. GIVEN WITH THE SEED: THE CARDS: each row of YtdhmdaoijnnfjaaGreatDoorRows.lean that lists a variable, with what it lists TIED to the program's text (the seventh form; the later family's looks); each row that meets fmt, with fmt's text TOLD by the authors' own Lean function (tested against real Go, not proved from fmt's source: count such statements apart). THE CARD IS WHAT COUNTS. Prove the row's statement (the work); the ties are given (YtdhmdaoijnnfjaaGreatDoorTie.lean); close each card by the builder's one call (the guide's Derived/Test/ToyasCard.lean, 'card_holds'). Laid BY PROGRAM, IN A SANDBOX (cutbox-door.mjs). By AI agents, Wed Nov 11 2026. No macro, syntax, notation, axiom, sorry.
-/
import Derived.Test.YtdhmdaoijnnfjaaGreatDoorRows
import GoSem.ClaimSeven
namespace Go.Proofs.YtdhmdaoijnnfjaaGreatDoor
namespace Rows

/-- THE TIED CARD OF 'laws.FnExactHintFor'. -/
def fnExactHintForCard : Claim7 := { stood := { row := fnExactHintForRow, standIns := [], harness := (true, "bd5f9774466ded99896f41f78fd2e767a08e16a864ec83c379ae5140697867b0"), looks := false }, kinds := [], alts := [], laidByText := true, laidKinds := [.data, .data, .data], laidTests := true, laidLooks := .later }
def FnExactHintForCardSaid : Prop := Claim7.holds Tryz.pinned (.plain (OpenSpec.ofChange fnExactHintForSpec)) fnExactHintForCard

/-- THE TIED CARD OF 'laws.FnExactPuzzleText'. -/
def fnExactPuzzleTextCard : Claim7 := { stood := { row := fnExactPuzzleTextRow, standIns := [], harness := (true, "bd5f9774466ded99896f41f78fd2e767a08e16a864ec83c379ae5140697867b0"), looks := false }, kinds := [], alts := [], laidByText := true, laidKinds := [.data, .data, .data], laidTests := true, laidLooks := .later }
def FnExactPuzzleTextCardSaid : Prop := Claim7.holds Tryz.pinned (.plain (OpenSpec.ofChange fnExactPuzzleTextSpec)) fnExactPuzzleTextCard

/-- THE TIED CARD OF 'laws.FnExactSummaryOf'. -/
def fnExactSummaryOfCard : Claim7 := { stood := { row := fnExactSummaryOfRow, standIns := [], harness := (true, "bd5f9774466ded99896f41f78fd2e767a08e16a864ec83c379ae5140697867b0"), looks := false }, kinds := [], alts := [], laidByText := true, laidKinds := [.data, .data, .data], laidTests := true, laidLooks := .later }
def FnExactSummaryOfCardSaid : Prop := Claim7.holds Tryz.pinned (.plain (OpenSpec.ofChange fnExactSummaryOfSpec)) fnExactSummaryOfCard

/-- THE TIED CARD OF 'laws.FnExactRecordText'. -/
def fnExactRecordTextCard : Claim7 := { stood := { row := fnExactRecordTextRow, standIns := [], harness := (true, "bd5f9774466ded99896f41f78fd2e767a08e16a864ec83c379ae5140697867b0"), looks := false }, kinds := [], alts := [], laidByText := true, laidKinds := [.data, .data, .data], laidTests := true, laidLooks := .later }
def FnExactRecordTextCardSaid : Prop := Claim7.holds Tryz.pinned (.plain (OpenSpec.ofChange fnExactRecordTextSpec)) fnExactRecordTextCard

/-- THE TIED CARD OF 'laws.FnExactReadPuzzle'. -/
def fnExactReadPuzzleCard : Claim7 := { stood := { row := fnExactReadPuzzleRow, standIns := [], harness := (true, "bd5f9774466ded99896f41f78fd2e767a08e16a864ec83c379ae5140697867b0"), looks := false }, kinds := [], alts := [], laidByText := true, laidKinds := [.data, .data, .data], laidTests := true, laidLooks := .later }
def FnExactReadPuzzleCardSaid : Prop := Claim7.holds Tryz.pinned (.plain (OpenSpec.ofChange fnExactReadPuzzleSpec)) fnExactReadPuzzleCard

/-- THE TIED CARD OF 'laws.FnExactCheckRecord'. -/
def fnExactCheckRecordCard : Claim7 := { stood := { row := fnExactCheckRecordRow, standIns := [], harness := (true, "bd5f9774466ded99896f41f78fd2e767a08e16a864ec83c379ae5140697867b0"), looks := false }, kinds := [], alts := [], laidByText := true, laidKinds := [.data, .data, .data], laidTests := true, laidLooks := .later }
def FnExactCheckRecordCardSaid : Prop := Claim7.holds Tryz.pinned (.plain (OpenSpec.ofChange fnExactCheckRecordSpec)) fnExactCheckRecordCard

/-- THE TIED CARD OF 'laws.FnExactReadRecord'. -/
def fnExactReadRecordCard : Claim7 := { stood := { row := fnExactReadRecordRow, standIns := [], harness := (true, "bd5f9774466ded99896f41f78fd2e767a08e16a864ec83c379ae5140697867b0"), looks := false }, kinds := [], alts := [], laidByText := true, laidKinds := [.data, .data, .data], laidTests := true, laidLooks := .later }
def FnExactReadRecordCardSaid : Prop := Claim7.holds Tryz.pinned (.plain (OpenSpec.ofChange fnExactReadRecordSpec)) fnExactReadRecordCard

/-- THE SECOND FORM's CARD OF 'laws.FnExactHintFor'. -/
def fnExactHintForUptoCard : Claim7 := { stood := { row := fnExactHintForUptoRow, standIns := [], harness := (true, "bd5f9774466ded99896f41f78fd2e767a08e16a864ec83c379ae5140697867b0"), looks := false }, kinds := [], alts := [], laidByText := true, laidKinds := [.data, .data, .data], laidTests := true, laidLooks := .later }
def FnExactHintForUptoCardSaid : Prop := Claim7.holds Tryz.pinned (.plain (OpenSpec.upto fnExactHintForSpec)) fnExactHintForUptoCard

/-- THE SECOND FORM's CARD OF 'laws.FnExactPuzzleText'. -/
def fnExactPuzzleTextUptoCard : Claim7 := { stood := { row := fnExactPuzzleTextUptoRow, standIns := [], harness := (true, "bd5f9774466ded99896f41f78fd2e767a08e16a864ec83c379ae5140697867b0"), looks := false }, kinds := [], alts := [], laidByText := true, laidKinds := [.data, .data, .data], laidTests := true, laidLooks := .later }
def FnExactPuzzleTextUptoCardSaid : Prop := Claim7.holds Tryz.pinned (.plain (OpenSpec.upto fnExactPuzzleTextSpec)) fnExactPuzzleTextUptoCard

/-- THE SECOND FORM's CARD OF 'laws.FnExactSummaryOf'. -/
def fnExactSummaryOfUptoCard : Claim7 := { stood := { row := fnExactSummaryOfUptoRow, standIns := [], harness := (true, "bd5f9774466ded99896f41f78fd2e767a08e16a864ec83c379ae5140697867b0"), looks := false }, kinds := [], alts := [], laidByText := true, laidKinds := [.data, .data, .data], laidTests := true, laidLooks := .later }
def FnExactSummaryOfUptoCardSaid : Prop := Claim7.holds Tryz.pinned (.plain (OpenSpec.upto fnExactSummaryOfSpec)) fnExactSummaryOfUptoCard

/-- THE SECOND FORM's CARD OF 'laws.FnExactRecordText'. -/
def fnExactRecordTextUptoCard : Claim7 := { stood := { row := fnExactRecordTextUptoRow, standIns := [], harness := (true, "bd5f9774466ded99896f41f78fd2e767a08e16a864ec83c379ae5140697867b0"), looks := false }, kinds := [], alts := [], laidByText := true, laidKinds := [.data, .data, .data], laidTests := true, laidLooks := .later }
def FnExactRecordTextUptoCardSaid : Prop := Claim7.holds Tryz.pinned (.plain (OpenSpec.upto fnExactRecordTextSpec)) fnExactRecordTextUptoCard

/-- THE SECOND FORM's CARD OF 'laws.FnExactReadPuzzle'. -/
def fnExactReadPuzzleUptoCard : Claim7 := { stood := { row := fnExactReadPuzzleUptoRow, standIns := [], harness := (true, "bd5f9774466ded99896f41f78fd2e767a08e16a864ec83c379ae5140697867b0"), looks := false }, kinds := [], alts := [], laidByText := true, laidKinds := [.data, .data, .data], laidTests := true, laidLooks := .later }
def FnExactReadPuzzleUptoCardSaid : Prop := Claim7.holds Tryz.pinned (.plain (OpenSpec.upto fnExactReadPuzzleSpec)) fnExactReadPuzzleUptoCard

/-- THE SECOND FORM's CARD OF 'laws.FnExactCheckRecord'. -/
def fnExactCheckRecordUptoCard : Claim7 := { stood := { row := fnExactCheckRecordUptoRow, standIns := [], harness := (true, "bd5f9774466ded99896f41f78fd2e767a08e16a864ec83c379ae5140697867b0"), looks := false }, kinds := [], alts := [], laidByText := true, laidKinds := [.data, .data, .data], laidTests := true, laidLooks := .later }
def FnExactCheckRecordUptoCardSaid : Prop := Claim7.holds Tryz.pinned (.plain (OpenSpec.upto fnExactCheckRecordSpec)) fnExactCheckRecordUptoCard

/-- THE SECOND FORM's CARD OF 'laws.FnExactReadRecord'. -/
def fnExactReadRecordUptoCard : Claim7 := { stood := { row := fnExactReadRecordUptoRow, standIns := [], harness := (true, "bd5f9774466ded99896f41f78fd2e767a08e16a864ec83c379ae5140697867b0"), looks := false }, kinds := [], alts := [], laidByText := true, laidKinds := [.data, .data, .data], laidTests := true, laidLooks := .later }
def FnExactReadRecordUptoCardSaid : Prop := Claim7.holds Tryz.pinned (.plain (OpenSpec.upto fnExactReadRecordSpec)) fnExactReadRecordUptoCard
end Rows
end Go.Proofs.YtdhmdaoijnnfjaaGreatDoor

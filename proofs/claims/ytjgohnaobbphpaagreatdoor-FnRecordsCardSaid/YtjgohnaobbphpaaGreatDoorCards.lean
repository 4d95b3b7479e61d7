/-
  DERIVED. GIVEN WITH THE SEED: THE CARDS: each row of YtjgohnaobbphpaaGreatDoorRows.lean that lists a variable, with what it lists TIED to the program's text (the seventh form; the later family's looks); each row that meets fmt, with fmt's text TOLD by the authors' own Lean function (tested against real Go, not proved from fmt's source: count such statements apart). THE CARD IS WHAT COUNTS. Prove the row's statement (the work); the ties are given (YtjgohnaobbphpaaGreatDoorTie.lean); close each card by the builder's one call (the guide's Derived/Test/ToyasCard.lean, 'card_holds'). Laid BY PROGRAM, IN A SANDBOX (cutbox-door.mjs). By AI agents, Wed Nov 11 2026. No macro, syntax, notation, axiom, sorry.
-/
import Derived.Test.YtjgohnaobbphpaaGreatDoorRows
import GoSem.ClaimSeven
namespace Go.Proofs.YtjgohnaobbphpaaGreatDoor
namespace Rows

/-- THE TIED CARD OF 'laws.FnReasons'. -/
def fnReasonsCard : Claim7 := { stood := { row := fnReasonsRow, standIns := [], harness := (true, "c155937754f0643ff84c5b4a489a44c6299357d1e1a97638edccd3c63fd74ec6"), looks := false }, kinds := [], alts := [], laidByText := true, laidKinds := [.data, .data, .data], laidTests := true, laidLooks := .later }
def FnReasonsCardSaid : Prop := Claim7.holds Tryz.pinned (.plain (OpenSpec.ofChange fnReasonsSpec)) fnReasonsCard

/-- THE TIED CARD OF 'laws.FnExactCheckRecord'. -/
def fnExactCheckRecordCard : Claim7 := { stood := { row := fnExactCheckRecordRow, standIns := [], harness := (true, "c155937754f0643ff84c5b4a489a44c6299357d1e1a97638edccd3c63fd74ec6"), looks := false }, kinds := [], alts := [], laidByText := true, laidKinds := [.data, .data, .data], laidTests := true, laidLooks := .later }
def FnExactCheckRecordCardSaid : Prop := Claim7.holds Tryz.pinned (.plain (OpenSpec.ofChange fnExactCheckRecordSpec)) fnExactCheckRecordCard

/-- THE TIED CARD OF 'laws.FnExactReadRecord'. -/
def fnExactReadRecordCard : Claim7 := { stood := { row := fnExactReadRecordRow, standIns := [], harness := (true, "c155937754f0643ff84c5b4a489a44c6299357d1e1a97638edccd3c63fd74ec6"), looks := false }, kinds := [], alts := [], laidByText := true, laidKinds := [.data, .data, .data], laidTests := true, laidLooks := .later }
def FnExactReadRecordCardSaid : Prop := Claim7.holds Tryz.pinned (.plain (OpenSpec.ofChange fnExactReadRecordSpec)) fnExactReadRecordCard

/-- THE TIED CARD OF 'laws.FnRecords'. -/
def fnRecordsCard : Claim7 := { stood := { row := fnRecordsRow, standIns := [], harness := (true, "c155937754f0643ff84c5b4a489a44c6299357d1e1a97638edccd3c63fd74ec6"), looks := false }, kinds := [], alts := [], laidByText := true, laidKinds := [.data, .data, .data], laidTests := true, laidLooks := .later }
def FnRecordsCardSaid : Prop := Claim7.holds Tryz.pinned (.plain (OpenSpec.ofChange fnRecordsSpec)) fnRecordsCard

/-- THE SECOND FORM's CARD OF 'laws.FnReasons'. -/
def fnReasonsUptoCard : Claim7 := { stood := { row := fnReasonsUptoRow, standIns := [], harness := (true, "c155937754f0643ff84c5b4a489a44c6299357d1e1a97638edccd3c63fd74ec6"), looks := false }, kinds := [], alts := [], laidByText := true, laidKinds := [.data, .data, .data], laidTests := true, laidLooks := .later }
def FnReasonsUptoCardSaid : Prop := Claim7.holds Tryz.pinned (.plain (OpenSpec.upto fnReasonsSpec)) fnReasonsUptoCard

/-- THE SECOND FORM's CARD OF 'laws.FnExactCheckRecord'. -/
def fnExactCheckRecordUptoCard : Claim7 := { stood := { row := fnExactCheckRecordUptoRow, standIns := [], harness := (true, "c155937754f0643ff84c5b4a489a44c6299357d1e1a97638edccd3c63fd74ec6"), looks := false }, kinds := [], alts := [], laidByText := true, laidKinds := [.data, .data, .data], laidTests := true, laidLooks := .later }
def FnExactCheckRecordUptoCardSaid : Prop := Claim7.holds Tryz.pinned (.plain (OpenSpec.upto fnExactCheckRecordSpec)) fnExactCheckRecordUptoCard

/-- THE SECOND FORM's CARD OF 'laws.FnExactReadRecord'. -/
def fnExactReadRecordUptoCard : Claim7 := { stood := { row := fnExactReadRecordUptoRow, standIns := [], harness := (true, "c155937754f0643ff84c5b4a489a44c6299357d1e1a97638edccd3c63fd74ec6"), looks := false }, kinds := [], alts := [], laidByText := true, laidKinds := [.data, .data, .data], laidTests := true, laidLooks := .later }
def FnExactReadRecordUptoCardSaid : Prop := Claim7.holds Tryz.pinned (.plain (OpenSpec.upto fnExactReadRecordSpec)) fnExactReadRecordUptoCard

/-- THE SECOND FORM's CARD OF 'laws.FnRecords'. -/
def fnRecordsUptoCard : Claim7 := { stood := { row := fnRecordsUptoRow, standIns := [], harness := (true, "c155937754f0643ff84c5b4a489a44c6299357d1e1a97638edccd3c63fd74ec6"), looks := false }, kinds := [], alts := [], laidByText := true, laidKinds := [.data, .data, .data], laidTests := true, laidLooks := .later }
def FnRecordsUptoCardSaid : Prop := Claim7.holds Tryz.pinned (.plain (OpenSpec.upto fnRecordsSpec)) fnRecordsUptoCard
end Rows
end Go.Proofs.YtjgohnaobbphpaaGreatDoor

/-
  DERIVED. GIVEN WITH THE SEED: THE CARDS: each row of YtjklnidbndopiaaGreatDoorRows.lean that lists a variable, with what it lists TIED to the program's text (the seventh form; the later family's looks); each row that meets fmt, with fmt's text TOLD by the authors' own Lean function (tested against real Go, not proved from fmt's source: count such statements apart). THE CARD IS WHAT COUNTS. Prove the row's statement (the work); the ties are given (YtjklnidbndopiaaGreatDoorTie.lean); close each card by the builder's one call (the guide's Derived/Test/ToyasCard.lean, 'card_holds'). Laid BY PROGRAM, IN A SANDBOX (cutbox-door.mjs). By AI agents, Wed Nov 11 2026. No macro, syntax, notation, axiom, sorry.
-/
import Derived.Test.YtjklnidbndopiaaGreatDoorRows
import GoSem.ClaimSeven
namespace Go.Proofs.YtjklnidbndopiaaGreatDoor
namespace Rows

/-- THE TIED CARD OF 'laws.FnExactBookText'. -/
def fnExactBookTextCard : Claim7 := { stood := { row := fnExactBookTextRow, standIns := [], harness := (true, "d29c4d75d1b53a7167e0b74afe20591982ebc55190f9b38c64685a87ebe3c31f"), looks := false }, kinds := [], alts := [], laidByText := true, laidKinds := [.data, .data, .data], laidTests := true, laidLooks := .later }
def FnExactBookTextCardSaid : Prop := Claim7.holds Tryz.pinned (.plain (OpenSpec.ofChange fnExactBookTextSpec)) fnExactBookTextCard

/-- THE TIED CARD OF 'laws.FnExactReadBook'. -/
def fnExactReadBookCard : Claim7 := { stood := { row := fnExactReadBookRow, standIns := [], harness := (true, "d29c4d75d1b53a7167e0b74afe20591982ebc55190f9b38c64685a87ebe3c31f"), looks := false }, kinds := [], alts := [], laidByText := true, laidKinds := [.data, .data, .data], laidTests := true, laidLooks := .later }
def FnExactReadBookCardSaid : Prop := Claim7.holds Tryz.pinned (.plain (OpenSpec.ofChange fnExactReadBookSpec)) fnExactReadBookCard

/-- THE TIED CARD OF 'laws.FnBooks'. -/
def fnBooksCard : Claim7 := { stood := { row := fnBooksRow, standIns := [], harness := (true, "d29c4d75d1b53a7167e0b74afe20591982ebc55190f9b38c64685a87ebe3c31f"), looks := false }, kinds := [], alts := [], laidByText := true, laidKinds := [.data, .data, .data], laidTests := true, laidLooks := .later }
def FnBooksCardSaid : Prop := Claim7.holds Tryz.pinned (.plain (OpenSpec.ofChange fnBooksSpec)) fnBooksCard

/-- THE SECOND FORM's CARD OF 'laws.FnExactBookText'. -/
def fnExactBookTextUptoCard : Claim7 := { stood := { row := fnExactBookTextUptoRow, standIns := [], harness := (true, "d29c4d75d1b53a7167e0b74afe20591982ebc55190f9b38c64685a87ebe3c31f"), looks := false }, kinds := [], alts := [], laidByText := true, laidKinds := [.data, .data, .data], laidTests := true, laidLooks := .later }
def FnExactBookTextUptoCardSaid : Prop := Claim7.holds Tryz.pinned (.plain (OpenSpec.upto fnExactBookTextSpec)) fnExactBookTextUptoCard

/-- THE SECOND FORM's CARD OF 'laws.FnExactReadBook'. -/
def fnExactReadBookUptoCard : Claim7 := { stood := { row := fnExactReadBookUptoRow, standIns := [], harness := (true, "d29c4d75d1b53a7167e0b74afe20591982ebc55190f9b38c64685a87ebe3c31f"), looks := false }, kinds := [], alts := [], laidByText := true, laidKinds := [.data, .data, .data], laidTests := true, laidLooks := .later }
def FnExactReadBookUptoCardSaid : Prop := Claim7.holds Tryz.pinned (.plain (OpenSpec.upto fnExactReadBookSpec)) fnExactReadBookUptoCard

/-- THE SECOND FORM's CARD OF 'laws.FnBooks'. -/
def fnBooksUptoCard : Claim7 := { stood := { row := fnBooksUptoRow, standIns := [], harness := (true, "d29c4d75d1b53a7167e0b74afe20591982ebc55190f9b38c64685a87ebe3c31f"), looks := false }, kinds := [], alts := [], laidByText := true, laidKinds := [.data, .data, .data], laidTests := true, laidLooks := .later }
def FnBooksUptoCardSaid : Prop := Claim7.holds Tryz.pinned (.plain (OpenSpec.upto fnBooksSpec)) fnBooksUptoCard
end Rows
end Go.Proofs.YtjklnidbndopiaaGreatDoor

/-
  DERIVED. GIVEN WITH THE SEED: THE CARDS: each row of YtjgohnaobbphpaaDoorRows.lean that lists a variable, with what it lists TIED to the program's text (the seventh form; the later family's looks); each row that meets fmt, with fmt's text TOLD by the authors' own Lean function (tested against real Go, not proved from fmt's source: count such statements apart). THE CARD IS WHAT COUNTS. Prove the row's statement (the work); the ties are given (YtjgohnaobbphpaaDoorTie.lean); close each card by the builder's one call (the guide's Derived/Test/ToyasCard.lean, 'card_holds'). Laid BY PROGRAM, IN A SANDBOX (cutbox-door.mjs). By AI agents, Wed Nov 11 2026. No macro, syntax, notation, axiom, sorry.
-/
import Derived.Test.YtjgohnaobbphpaaDoorRows
import GoSem.ClaimSeven
namespace Go.Proofs.YtjgohnaobbphpaaDoor
namespace Rows

/-- THE TIED CARD OF 'laws.FnExactExplainMove'. -/
def fnExactExplainMoveCard : Claim7 := { stood := { row := fnExactExplainMoveRow, standIns := [], harness := (true, "afecae2bc0b8151d6eb81e6bef34e0d23982ea7b26c8ee9dcd269d7cdac3abe8"), looks := false }, kinds := [], alts := [], laidByText := true, laidKinds := [.data, .data, .data], laidTests := true, laidLooks := .later }
def FnExactExplainMoveCardSaid : Prop := Claim7.holds Tryd.pinned (.plain (OpenSpec.ofChange fnExactExplainMoveSpec)) fnExactExplainMoveCard

/-- THE SECOND FORM's CARD OF 'laws.FnExactExplainMove'. -/
def fnExactExplainMoveUptoCard : Claim7 := { stood := { row := fnExactExplainMoveUptoRow, standIns := [], harness := (true, "afecae2bc0b8151d6eb81e6bef34e0d23982ea7b26c8ee9dcd269d7cdac3abe8"), looks := false }, kinds := [], alts := [], laidByText := true, laidKinds := [.data, .data, .data], laidTests := true, laidLooks := .later }
def FnExactExplainMoveUptoCardSaid : Prop := Claim7.holds Tryd.pinned (.plain (OpenSpec.upto fnExactExplainMoveSpec)) fnExactExplainMoveUptoCard
end Rows
end Go.Proofs.YtjgohnaobbphpaaDoor

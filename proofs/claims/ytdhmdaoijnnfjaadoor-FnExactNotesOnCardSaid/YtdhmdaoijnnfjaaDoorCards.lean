/-
  DERIVED. GIVEN WITH THE SEED: THE CARDS: each row of YtdhmdaoijnnfjaaDoorRows.lean that lists a variable, with what it lists TIED to the program's text (the seventh form; the later family's looks); each row that meets fmt, with fmt's text TOLD by the authors' own Lean function (tested against real Go, not proved from fmt's source: count such statements apart). THE CARD IS WHAT COUNTS. Prove the row's statement (the work); the ties are given (YtdhmdaoijnnfjaaDoorTie.lean); close each card by the builder's one call (the guide's Derived/Test/ToyasCard.lean, 'card_holds'). Laid BY PROGRAM, IN A SANDBOX (cutbox-door.mjs). By AI agents, Wed Nov 11 2026. No macro, syntax, notation, axiom, sorry.
-/
import Derived.Test.YtdhmdaoijnnfjaaDoorRows
import GoSem.ClaimSeven
namespace Go.Proofs.YtdhmdaoijnnfjaaDoor
namespace Rows

/-- THE TIED CARD OF 'laws.FnExactNotesOn'. -/
def fnExactNotesOnCard : Claim7 := { stood := { row := fnExactNotesOnRow, standIns := [], harness := (true, "62a783611c9fa683888638d0d7dfed9cc6364419a287cb0127512f2472bbf689"), looks := false }, kinds := [], alts := [], laidByText := true, laidKinds := [.data, .data, .data], laidTests := true, laidLooks := .later }
def FnExactNotesOnCardSaid : Prop := Claim7.holds Tryd.pinned (.plain (OpenSpec.ofChange fnExactNotesOnSpec)) fnExactNotesOnCard

/-- THE TIED CARD OF 'laws.FnExactExplainMove'. -/
def fnExactExplainMoveCard : Claim7 := { stood := { row := fnExactExplainMoveRow, standIns := [], harness := (true, "62a783611c9fa683888638d0d7dfed9cc6364419a287cb0127512f2472bbf689"), looks := false }, kinds := [], alts := [], laidByText := true, laidKinds := [.data, .data, .data], laidTests := true, laidLooks := .later }
def FnExactExplainMoveCardSaid : Prop := Claim7.holds Tryd.pinned (.plain (OpenSpec.ofChange fnExactExplainMoveSpec)) fnExactExplainMoveCard

/-- THE TIED CARD OF 'laws.FnExactCheckRules'. -/
def fnExactCheckRulesCard : Claim7 := { stood := { row := fnExactCheckRulesRow, standIns := [], harness := (true, "62a783611c9fa683888638d0d7dfed9cc6364419a287cb0127512f2472bbf689"), looks := false }, kinds := [], alts := [], laidByText := true, laidKinds := [.data, .data, .data], laidTests := true, laidLooks := .later }
def FnExactCheckRulesCardSaid : Prop := Claim7.holds Tryd.pinned (.plain (OpenSpec.ofChange fnExactCheckRulesSpec)) fnExactCheckRulesCard

/-- THE TIED CARD OF 'laws.FnNames'. -/
def fnNamesCard : Claim7 := { stood := { row := fnNamesRow, standIns := [], harness := (true, "62a783611c9fa683888638d0d7dfed9cc6364419a287cb0127512f2472bbf689"), looks := false }, kinds := [], alts := [], laidByText := true, laidKinds := [.data, .data, .data], laidTests := true, laidLooks := .later }
def FnNamesCardSaid : Prop := Claim7.holds Tryd.pinned (.plain (OpenSpec.ofChange fnNamesSpec)) fnNamesCard

/-- THE SECOND FORM's CARD OF 'laws.FnExactNotesOn'. -/
def fnExactNotesOnUptoCard : Claim7 := { stood := { row := fnExactNotesOnUptoRow, standIns := [], harness := (true, "62a783611c9fa683888638d0d7dfed9cc6364419a287cb0127512f2472bbf689"), looks := false }, kinds := [], alts := [], laidByText := true, laidKinds := [.data, .data, .data], laidTests := true, laidLooks := .later }
def FnExactNotesOnUptoCardSaid : Prop := Claim7.holds Tryd.pinned (.plain (OpenSpec.upto fnExactNotesOnSpec)) fnExactNotesOnUptoCard

/-- THE SECOND FORM's CARD OF 'laws.FnExactExplainMove'. -/
def fnExactExplainMoveUptoCard : Claim7 := { stood := { row := fnExactExplainMoveUptoRow, standIns := [], harness := (true, "62a783611c9fa683888638d0d7dfed9cc6364419a287cb0127512f2472bbf689"), looks := false }, kinds := [], alts := [], laidByText := true, laidKinds := [.data, .data, .data], laidTests := true, laidLooks := .later }
def FnExactExplainMoveUptoCardSaid : Prop := Claim7.holds Tryd.pinned (.plain (OpenSpec.upto fnExactExplainMoveSpec)) fnExactExplainMoveUptoCard

/-- THE SECOND FORM's CARD OF 'laws.FnExactCheckRules'. -/
def fnExactCheckRulesUptoCard : Claim7 := { stood := { row := fnExactCheckRulesUptoRow, standIns := [], harness := (true, "62a783611c9fa683888638d0d7dfed9cc6364419a287cb0127512f2472bbf689"), looks := false }, kinds := [], alts := [], laidByText := true, laidKinds := [.data, .data, .data], laidTests := true, laidLooks := .later }
def FnExactCheckRulesUptoCardSaid : Prop := Claim7.holds Tryd.pinned (.plain (OpenSpec.upto fnExactCheckRulesSpec)) fnExactCheckRulesUptoCard

/-- THE SECOND FORM's CARD OF 'laws.FnNames'. -/
def fnNamesUptoCard : Claim7 := { stood := { row := fnNamesUptoRow, standIns := [], harness := (true, "62a783611c9fa683888638d0d7dfed9cc6364419a287cb0127512f2472bbf689"), looks := false }, kinds := [], alts := [], laidByText := true, laidKinds := [.data, .data, .data], laidTests := true, laidLooks := .later }
def FnNamesUptoCardSaid : Prop := Claim7.holds Tryd.pinned (.plain (OpenSpec.upto fnNamesSpec)) fnNamesUptoCard
end Rows
end Go.Proofs.YtdhmdaoijnnfjaaDoor

/-
  DERIVED. GIVEN WITH THE SEED: THE CARDS: each row of YthdmaamdlibjaaaDoorRows.lean that lists a variable, with what it lists TIED to the program's text (the seventh form; the later family's looks); each row that meets fmt, with fmt's text TOLD by the authors' own Lean function (tested against real Go, not proved from fmt's source: count such statements apart). THE CARD IS WHAT COUNTS. Prove the row's statement (the work); the ties are given (YthdmaamdlibjaaaDoorTie.lean); close each card by the builder's one call (the guide's Derived/Test/ToyasCard.lean, 'card_holds'). Laid BY PROGRAM, IN A SANDBOX (cutbox-door.mjs). By AI agents, Wed Nov 11 2026. No macro, syntax, notation, axiom, sorry.
-/
import Derived.Test.YthdmaamdlibjaaaDoorRows
import GoSem.ClaimSeven
namespace Go.Proofs.YthdmaamdlibjaaaDoor
namespace Rows

/-- THE TIED CARD OF 'laws.FnNames'. -/
def fnNamesCard : Claim7 := { stood := { row := fnNamesRow, standIns := [], harness := (true, "aeaaaa604d07ff224b42f4b57f0d3b8516c6c65109b50a4dd8bcf91051230a92"), looks := false }, kinds := [], alts := [], laidByText := true, laidKinds := [.data, .data, .data], laidTests := true, laidLooks := .later }
def FnNamesCardSaid : Prop := Claim7.holds Tryd.pinned (.plain (OpenSpec.ofChange fnNamesSpec)) fnNamesCard

/-- THE TIED CARD OF 'laws.FnExactCheckRules'. -/
def fnExactCheckRulesCard : Claim7 := { stood := { row := fnExactCheckRulesRow, standIns := [], harness := (true, "aeaaaa604d07ff224b42f4b57f0d3b8516c6c65109b50a4dd8bcf91051230a92"), looks := false }, kinds := [], alts := [], laidByText := true, laidKinds := [.data, .data, .data], laidTests := true, laidLooks := .later }
def FnExactCheckRulesCardSaid : Prop := Claim7.holds Tryd.pinned (.plain (OpenSpec.ofChange fnExactCheckRulesSpec)) fnExactCheckRulesCard

/-- THE TIED CARD OF 'laws.FnRuleTexts'. -/
def fnRuleTextsCard : Claim7 := { stood := { row := fnRuleTextsRow, standIns := [], harness := (true, "aeaaaa604d07ff224b42f4b57f0d3b8516c6c65109b50a4dd8bcf91051230a92"), looks := false }, kinds := [], alts := [], laidByText := true, laidKinds := [.data, .data, .data], laidTests := true, laidLooks := .later }
def FnRuleTextsCardSaid : Prop := Claim7.holds Tryd.pinned (.plain (OpenSpec.ofChange fnRuleTextsSpec)) fnRuleTextsCard

/-- THE SECOND FORM's CARD OF 'laws.FnNames'. -/
def fnNamesUptoCard : Claim7 := { stood := { row := fnNamesUptoRow, standIns := [], harness := (true, "aeaaaa604d07ff224b42f4b57f0d3b8516c6c65109b50a4dd8bcf91051230a92"), looks := false }, kinds := [], alts := [], laidByText := true, laidKinds := [.data, .data, .data], laidTests := true, laidLooks := .later }
def FnNamesUptoCardSaid : Prop := Claim7.holds Tryd.pinned (.plain (OpenSpec.upto fnNamesSpec)) fnNamesUptoCard

/-- THE SECOND FORM's CARD OF 'laws.FnExactCheckRules'. -/
def fnExactCheckRulesUptoCard : Claim7 := { stood := { row := fnExactCheckRulesUptoRow, standIns := [], harness := (true, "aeaaaa604d07ff224b42f4b57f0d3b8516c6c65109b50a4dd8bcf91051230a92"), looks := false }, kinds := [], alts := [], laidByText := true, laidKinds := [.data, .data, .data], laidTests := true, laidLooks := .later }
def FnExactCheckRulesUptoCardSaid : Prop := Claim7.holds Tryd.pinned (.plain (OpenSpec.upto fnExactCheckRulesSpec)) fnExactCheckRulesUptoCard

/-- THE SECOND FORM's CARD OF 'laws.FnRuleTexts'. -/
def fnRuleTextsUptoCard : Claim7 := { stood := { row := fnRuleTextsUptoRow, standIns := [], harness := (true, "aeaaaa604d07ff224b42f4b57f0d3b8516c6c65109b50a4dd8bcf91051230a92"), looks := false }, kinds := [], alts := [], laidByText := true, laidKinds := [.data, .data, .data], laidTests := true, laidLooks := .later }
def FnRuleTextsUptoCardSaid : Prop := Claim7.holds Tryd.pinned (.plain (OpenSpec.upto fnRuleTextsSpec)) fnRuleTextsUptoCard
end Rows
end Go.Proofs.YthdmaamdlibjaaaDoor

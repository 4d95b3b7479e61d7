/-
  No cell of these rows narrows 'for every input' (looked for: loops, veiled, ifaces, maps, wideKeys, modest, calm, conditions, laid).
  DERIVED. THE GIVEN ROWS OF THIS SEAT. 7 by the template 'for every input the law returns true; each argument reads behind the call as it read before'; 0 by the template 'total and deterministic' (their statements: YtinkeciedmjjmaaTotals.lean).
  GIVEN WITH THE SEED: the statements are not yours to turn. If you find one false, say at which input.
  Laid BY PROGRAM, IN A SANDBOX (cutbox-rows.mjs): the forced cells as the released guide's own fill.sh prints them over the translation d8dcf9f834ed8a43… (all of the seat's roots in one cut). By AI agents, Wed Nov 11 2026. No macro, syntax, notation, axiom, sorry.
-/
import Derived.Test.YtinkeciedmjjmaaChecked
import GoSem.Claim
import GoSem.ClaimJoined
import GoSem.ClaimMapViews
import Derived.JoinedTies
import Derived.KernelRfl
namespace Go.Proofs.Ytinkeciedmjjmaa
/- THE CELL 'sum', in the pinned program and in every row, IS THE sha256 OF THE DUMP (.gsa) THAT YtinkeciedmjjmaaProg.lean LOADS. Nothing in Lean hashes anything: it is a label: what it is worth is what the hold of that sum in a sandbox is worth. -/
noncomputable def Try.pinned : Pinned := { name := "ytinkeciedmjjmaa", sum := "d8dcf9f834ed8a43600f6263d3c86a25a2ec73eaaa256f0e94dce99503f5af0a", checked := Try.checked }
namespace Rows
def none {H : Type} : Left H := { results := [], args := [] }

/-- 'laws.FnExactSearchOptions': WHATEVER THE INPUT: true; the input reads as it did. -/
def fnExactSearchOptionsSpec : ChangeSpec := { name := "fnExactSearchOptions", fn := fun _ => fun
  | [d1, d2, d3] => { results := [.lit (.bool true)], args := [d1, d2, d3] }
  | _ => none }
def fnExactSearchOptionsRow : OpenClaim := { program := "ytinkeciedmjjmaa", sum := "d8dcf9f834ed8a43600f6263d3c86a25a2ec73eaaa256f0e94dce99503f5af0a", func := "loop.example/g00926/laws.FnExactSearchOptions", spec := "fnExactSearchOptions", recurses := true, apart := false }
def FnExactSearchOptionsSaid : Prop := fnExactSearchOptionsRow.holds Try.pinned (OpenSpec.ofChange fnExactSearchOptionsSpec)

/-- ITS FALSE NEIGHBOUR: 'it returns false'. Refute it at one input. -/
def fnExactSearchOptionsWrong : ChangeSpec := { name := "fnExactSearchOptions", fn := fun _ => fun
  | [d1, d2, d3] => { results := [.lit (.bool false)], args := [d1, d2, d3] }
  | _ => none }
def FnExactSearchOptionsWrongFalsely : Prop := fnExactSearchOptionsRow.holds Try.pinned (OpenSpec.ofChange fnExactSearchOptionsWrong)

/-- 'laws.FnExactSearchLine': WHATEVER THE INPUT: true; the input reads as it did. -/
def fnExactSearchLineSpec : ChangeSpec := { name := "fnExactSearchLine", fn := fun _ => fun
  | [d1, d2, d3] => { results := [.lit (.bool true)], args := [d1, d2, d3] }
  | _ => none }
def fnExactSearchLineRow : OpenClaim := { program := "ytinkeciedmjjmaa", sum := "d8dcf9f834ed8a43600f6263d3c86a25a2ec73eaaa256f0e94dce99503f5af0a", func := "loop.example/g00926/laws.FnExactSearchLine", spec := "fnExactSearchLine", recurses := true, apart := false }
def FnExactSearchLineSaid : Prop := fnExactSearchLineRow.holds Try.pinned (OpenSpec.ofChange fnExactSearchLineSpec)

/-- ITS FALSE NEIGHBOUR: 'it returns false'. Refute it at one input. -/
def fnExactSearchLineWrong : ChangeSpec := { name := "fnExactSearchLine", fn := fun _ => fun
  | [d1, d2, d3] => { results := [.lit (.bool false)], args := [d1, d2, d3] }
  | _ => none }
def FnExactSearchLineWrongFalsely : Prop := fnExactSearchLineRow.holds Try.pinned (OpenSpec.ofChange fnExactSearchLineWrong)

/-- 'laws.FnExactPuzzleOf': WHATEVER THE INPUT: true; the input reads as it did. -/
def fnExactPuzzleOfSpec : ChangeSpec := { name := "fnExactPuzzleOf", fn := fun _ => fun
  | [d1, d2, d3] => { results := [.lit (.bool true)], args := [d1, d2, d3] }
  | _ => none }
def fnExactPuzzleOfRow : OpenClaim := { program := "ytinkeciedmjjmaa", sum := "d8dcf9f834ed8a43600f6263d3c86a25a2ec73eaaa256f0e94dce99503f5af0a", func := "loop.example/g00926/laws.FnExactPuzzleOf", spec := "fnExactPuzzleOf", recurses := true, apart := false }
def FnExactPuzzleOfSaid : Prop := fnExactPuzzleOfRow.holds Try.pinned (OpenSpec.ofChange fnExactPuzzleOfSpec)

/-- ITS FALSE NEIGHBOUR: 'it returns false'. Refute it at one input. -/
def fnExactPuzzleOfWrong : ChangeSpec := { name := "fnExactPuzzleOf", fn := fun _ => fun
  | [d1, d2, d3] => { results := [.lit (.bool false)], args := [d1, d2, d3] }
  | _ => none }
def FnExactPuzzleOfWrongFalsely : Prop := fnExactPuzzleOfRow.holds Try.pinned (OpenSpec.ofChange fnExactPuzzleOfWrong)

/-- 'laws.FnExactValidPuzzle': WHATEVER THE INPUT: true; the input reads as it did. -/
def fnExactValidPuzzleSpec : ChangeSpec := { name := "fnExactValidPuzzle", fn := fun _ => fun
  | [d] => { results := [.lit (.bool true)], args := [d] }
  | _ => none }
def fnExactValidPuzzleRow : OpenClaim := { program := "ytinkeciedmjjmaa", sum := "d8dcf9f834ed8a43600f6263d3c86a25a2ec73eaaa256f0e94dce99503f5af0a", func := "loop.example/g00926/laws.FnExactValidPuzzle", spec := "fnExactValidPuzzle", recurses := true, apart := false }
def FnExactValidPuzzleSaid : Prop := fnExactValidPuzzleRow.holds Try.pinned (OpenSpec.ofChange fnExactValidPuzzleSpec)

/-- ITS FALSE NEIGHBOUR: 'it returns false'. Refute it at one input. -/
def fnExactValidPuzzleWrong : ChangeSpec := { name := "fnExactValidPuzzle", fn := fun _ => fun
  | [d] => { results := [.lit (.bool false)], args := [d] }
  | _ => none }
def FnExactValidPuzzleWrongFalsely : Prop := fnExactValidPuzzleRow.holds Try.pinned (OpenSpec.ofChange fnExactValidPuzzleWrong)

/-- 'laws.FnExactAnswerLoss': WHATEVER THE INPUT: true; the input reads as it did. -/
def fnExactAnswerLossSpec : ChangeSpec := { name := "fnExactAnswerLoss", fn := fun _ => fun
  | [d1, d2] => { results := [.lit (.bool true)], args := [d1, d2] }
  | _ => none }
def fnExactAnswerLossRow : OpenClaim := { program := "ytinkeciedmjjmaa", sum := "d8dcf9f834ed8a43600f6263d3c86a25a2ec73eaaa256f0e94dce99503f5af0a", func := "loop.example/g00926/laws.FnExactAnswerLoss", spec := "fnExactAnswerLoss", recurses := true, apart := false }
def FnExactAnswerLossSaid : Prop := fnExactAnswerLossRow.holds Try.pinned (OpenSpec.ofChange fnExactAnswerLossSpec)

/-- ITS FALSE NEIGHBOUR: 'it returns false'. Refute it at one input. -/
def fnExactAnswerLossWrong : ChangeSpec := { name := "fnExactAnswerLoss", fn := fun _ => fun
  | [d1, d2] => { results := [.lit (.bool false)], args := [d1, d2] }
  | _ => none }
def FnExactAnswerLossWrongFalsely : Prop := fnExactAnswerLossRow.holds Try.pinned (OpenSpec.ofChange fnExactAnswerLossWrong)

/-- 'laws.FnExactTurnPuzzle': WHATEVER THE INPUT: true; the input reads as it did. -/
def fnExactTurnPuzzleSpec : ChangeSpec := { name := "fnExactTurnPuzzle", fn := fun _ => fun
  | [d] => { results := [.lit (.bool true)], args := [d] }
  | _ => none }
def fnExactTurnPuzzleRow : OpenClaim := { program := "ytinkeciedmjjmaa", sum := "d8dcf9f834ed8a43600f6263d3c86a25a2ec73eaaa256f0e94dce99503f5af0a", func := "loop.example/g00926/laws.FnExactTurnPuzzle", spec := "fnExactTurnPuzzle", recurses := true, apart := false }
def FnExactTurnPuzzleSaid : Prop := fnExactTurnPuzzleRow.holds Try.pinned (OpenSpec.ofChange fnExactTurnPuzzleSpec)

/-- ITS FALSE NEIGHBOUR: 'it returns false'. Refute it at one input. -/
def fnExactTurnPuzzleWrong : ChangeSpec := { name := "fnExactTurnPuzzle", fn := fun _ => fun
  | [d] => { results := [.lit (.bool false)], args := [d] }
  | _ => none }
def FnExactTurnPuzzleWrongFalsely : Prop := fnExactTurnPuzzleRow.holds Try.pinned (OpenSpec.ofChange fnExactTurnPuzzleWrong)

/-- 'laws.FnExactSolutionOf': WHATEVER THE INPUT: true; the input reads as it did. -/
def fnExactSolutionOfSpec : ChangeSpec := { name := "fnExactSolutionOf", fn := fun _ => fun
  | [d] => { results := [.lit (.bool true)], args := [d] }
  | _ => none }
def fnExactSolutionOfRow : OpenClaim := { program := "ytinkeciedmjjmaa", sum := "d8dcf9f834ed8a43600f6263d3c86a25a2ec73eaaa256f0e94dce99503f5af0a", func := "loop.example/g00926/laws.FnExactSolutionOf", spec := "fnExactSolutionOf", recurses := true, apart := false }
def FnExactSolutionOfSaid : Prop := fnExactSolutionOfRow.holds Try.pinned (OpenSpec.ofChange fnExactSolutionOfSpec)

/-- ITS FALSE NEIGHBOUR: 'it returns false'. Refute it at one input. -/
def fnExactSolutionOfWrong : ChangeSpec := { name := "fnExactSolutionOf", fn := fun _ => fun
  | [d] => { results := [.lit (.bool false)], args := [d] }
  | _ => none }
def FnExactSolutionOfWrongFalsely : Prop := fnExactSolutionOfRow.holds Try.pinned (OpenSpec.ofChange fnExactSolutionOfWrong)

/- THE SECOND FORM. 'bulk': how many values and letters a reading holds, each counted each time it is reached (what is shared counts as often as it is met; a slice's spare places count too). A statement '..UptoSaid' is the law's where the arguments, and the package variables that the reading takes, are together of bulk at most 1048576: NARROWER than '..Said'. Prove '..Said' where nothing that the law and all that it calls make is longer than what came in: it says more and counts as full. Else prove '..UptoSaid'. A law counts once. -/
mutual
def uptoBulk {H : Type} : DataW H → Nat
  | .lit (.string bytes) => bytes.length + 1
  | .lit _ => 1
  | .nil => 1
  | .ptr d => uptoBulk d + 1
  | .slice elems spare => uptoBulkAll elems + uptoBulkAll spare + 1
  | .agg parts => uptoBulkAll parts + 1
  | .iface _ d => uptoBulk d + 1
  | .map entries => uptoBulkEntries entries + 1
  | .held _ => 1
def uptoBulkAll {H : Type} : List (DataW H) → Nat
  | [] => 0
  | d :: r => uptoBulk d + uptoBulkAll r
def uptoBulkEntries {H : Type} : List (Lit × DataW H) → Nat
  | [] => 0
  | x :: r => uptoBulkEntry x + uptoBulkEntries r
def uptoBulkEntry {H : Type} : Lit × DataW H → Nat
  | (.string bytes, d) => bytes.length + uptoBulk d + 1
  | (_, d) => uptoBulk d + 1
 end
def uptoSmall : (H : Type) → List (DataW H) → Bool := fun _ ds => decide (uptoBulkAll ds ≤ 1048576)
def OpenSpec.upto (s : _root_.Go.ChangeSpec) : _root_.Go.OpenSpec := { _root_.Go.OpenSpec.ofChange s with cond := some uptoSmall }

/-- 'laws.FnExactSearchOptions', WHERE WHAT IT READS IS OF BULK AT MOST 1048576: true; the input reads as it did. -/
def fnExactSearchOptionsUptoRow : OpenClaim := { program := "ytinkeciedmjjmaa", sum := "d8dcf9f834ed8a43600f6263d3c86a25a2ec73eaaa256f0e94dce99503f5af0a", func := "loop.example/g00926/laws.FnExactSearchOptions", spec := "fnExactSearchOptions", recurses := true, apart := false, narrowed := true }
def FnExactSearchOptionsUptoSaid : Prop := fnExactSearchOptionsUptoRow.holds Try.pinned (OpenSpec.upto fnExactSearchOptionsSpec)

/-- 'laws.FnExactSearchLine', WHERE WHAT IT READS IS OF BULK AT MOST 1048576: true; the input reads as it did. -/
def fnExactSearchLineUptoRow : OpenClaim := { program := "ytinkeciedmjjmaa", sum := "d8dcf9f834ed8a43600f6263d3c86a25a2ec73eaaa256f0e94dce99503f5af0a", func := "loop.example/g00926/laws.FnExactSearchLine", spec := "fnExactSearchLine", recurses := true, apart := false, narrowed := true }
def FnExactSearchLineUptoSaid : Prop := fnExactSearchLineUptoRow.holds Try.pinned (OpenSpec.upto fnExactSearchLineSpec)

/-- 'laws.FnExactPuzzleOf', WHERE WHAT IT READS IS OF BULK AT MOST 1048576: true; the input reads as it did. -/
def fnExactPuzzleOfUptoRow : OpenClaim := { program := "ytinkeciedmjjmaa", sum := "d8dcf9f834ed8a43600f6263d3c86a25a2ec73eaaa256f0e94dce99503f5af0a", func := "loop.example/g00926/laws.FnExactPuzzleOf", spec := "fnExactPuzzleOf", recurses := true, apart := false, narrowed := true }
def FnExactPuzzleOfUptoSaid : Prop := fnExactPuzzleOfUptoRow.holds Try.pinned (OpenSpec.upto fnExactPuzzleOfSpec)

/-- 'laws.FnExactValidPuzzle', WHERE WHAT IT READS IS OF BULK AT MOST 1048576: true; the input reads as it did. -/
def fnExactValidPuzzleUptoRow : OpenClaim := { program := "ytinkeciedmjjmaa", sum := "d8dcf9f834ed8a43600f6263d3c86a25a2ec73eaaa256f0e94dce99503f5af0a", func := "loop.example/g00926/laws.FnExactValidPuzzle", spec := "fnExactValidPuzzle", recurses := true, apart := false, narrowed := true }
def FnExactValidPuzzleUptoSaid : Prop := fnExactValidPuzzleUptoRow.holds Try.pinned (OpenSpec.upto fnExactValidPuzzleSpec)

/-- 'laws.FnExactAnswerLoss', WHERE WHAT IT READS IS OF BULK AT MOST 1048576: true; the input reads as it did. -/
def fnExactAnswerLossUptoRow : OpenClaim := { program := "ytinkeciedmjjmaa", sum := "d8dcf9f834ed8a43600f6263d3c86a25a2ec73eaaa256f0e94dce99503f5af0a", func := "loop.example/g00926/laws.FnExactAnswerLoss", spec := "fnExactAnswerLoss", recurses := true, apart := false, narrowed := true }
def FnExactAnswerLossUptoSaid : Prop := fnExactAnswerLossUptoRow.holds Try.pinned (OpenSpec.upto fnExactAnswerLossSpec)

/-- 'laws.FnExactTurnPuzzle', WHERE WHAT IT READS IS OF BULK AT MOST 1048576: true; the input reads as it did. -/
def fnExactTurnPuzzleUptoRow : OpenClaim := { program := "ytinkeciedmjjmaa", sum := "d8dcf9f834ed8a43600f6263d3c86a25a2ec73eaaa256f0e94dce99503f5af0a", func := "loop.example/g00926/laws.FnExactTurnPuzzle", spec := "fnExactTurnPuzzle", recurses := true, apart := false, narrowed := true }
def FnExactTurnPuzzleUptoSaid : Prop := fnExactTurnPuzzleUptoRow.holds Try.pinned (OpenSpec.upto fnExactTurnPuzzleSpec)

/-- 'laws.FnExactSolutionOf', WHERE WHAT IT READS IS OF BULK AT MOST 1048576: true; the input reads as it did. -/
def fnExactSolutionOfUptoRow : OpenClaim := { program := "ytinkeciedmjjmaa", sum := "d8dcf9f834ed8a43600f6263d3c86a25a2ec73eaaa256f0e94dce99503f5af0a", func := "loop.example/g00926/laws.FnExactSolutionOf", spec := "fnExactSolutionOf", recurses := true, apart := false, narrowed := true }
def FnExactSolutionOfUptoSaid : Prop := fnExactSolutionOfUptoRow.holds Try.pinned (OpenSpec.upto fnExactSolutionOfSpec)

end Rows
end Go.Proofs.Ytinkeciedmjjmaa

/-
  No cell of these rows narrows 'for every input' (looked for: loops, veiled, ifaces, maps, wideKeys, modest, calm, conditions, laid).
  DERIVED. THE GIVEN ROWS OF THIS SEAT. 14 by the template 'for every input the law returns true; each argument reads behind the call as it read before'; 0 by the template 'total and deterministic' (their statements: YtejnmechnhgmfaaTotals.lean).
  GIVEN WITH THE SEED: the statements are not yours to turn. If you find one false, say at which input.
  Laid BY PROGRAM, IN A SANDBOX (cutbox-rows.mjs): the forced cells as the released guide's own fill.sh prints them over the translation e0e886ae760c9aff… (all of the seat's roots in one cut). By AI agents, Wed Nov 11 2026. No macro, syntax, notation, axiom, sorry.
-/
import Derived.Test.YtejnmechnhgmfaaChecked
import GoSem.Claim
import GoSem.ClaimJoined
import GoSem.ClaimMapViews
import Derived.JoinedTies
import Derived.KernelRfl
namespace Go.Proofs.Ytejnmechnhgmfaa
/- THE CELL 'sum', in the pinned program and in every row, IS THE sha256 OF THE DUMP (.gsa) THAT YtejnmechnhgmfaaProg.lean LOADS. Nothing in Lean hashes anything: it is a label: what it is worth is what the hold of that sum in a sandbox is worth. -/
noncomputable def Try.pinned : Pinned := { name := "ytejnmechnhgmfaa", sum := "e0e886ae760c9aff8fd09a566613746653f4f81945b4da76d79a44149d7bf3db", checked := Try.checked }
namespace Rows
def none {H : Type} : Left H := { results := [], args := [] }

/-- 'laws.FnExactRepeatsOf': WHATEVER THE INPUT: true; the input reads as it did. -/
def fnExactRepeatsOfSpec : ChangeSpec := { name := "fnExactRepeatsOf", fn := fun _ => fun
  | [d] => { results := [.lit (.bool true)], args := [d] }
  | _ => none }
def fnExactRepeatsOfRow : OpenClaim := { program := "ytejnmechnhgmfaa", sum := "e0e886ae760c9aff8fd09a566613746653f4f81945b4da76d79a44149d7bf3db", func := "loop.example/g00926/laws.FnExactRepeatsOf", spec := "fnExactRepeatsOf", apart := false }
def FnExactRepeatsOfSaid : Prop := fnExactRepeatsOfRow.holds Try.pinned (OpenSpec.ofChange fnExactRepeatsOfSpec)

/-- ITS FALSE NEIGHBOUR: 'it returns false'. Refute it at one input. -/
def fnExactRepeatsOfWrong : ChangeSpec := { name := "fnExactRepeatsOf", fn := fun _ => fun
  | [d] => { results := [.lit (.bool false)], args := [d] }
  | _ => none }
def FnExactRepeatsOfWrongFalsely : Prop := fnExactRepeatsOfRow.holds Try.pinned (OpenSpec.ofChange fnExactRepeatsOfWrong)

/-- 'laws.FnExactGainsOf': WHATEVER THE INPUT: true; the input reads as it did. -/
def fnExactGainsOfSpec : ChangeSpec := { name := "fnExactGainsOf", fn := fun _ => fun
  | [d] => { results := [.lit (.bool true)], args := [d] }
  | _ => none }
def fnExactGainsOfRow : OpenClaim := { program := "ytejnmechnhgmfaa", sum := "e0e886ae760c9aff8fd09a566613746653f4f81945b4da76d79a44149d7bf3db", func := "loop.example/g00926/laws.FnExactGainsOf", spec := "fnExactGainsOf", apart := false }
def FnExactGainsOfSaid : Prop := fnExactGainsOfRow.holds Try.pinned (OpenSpec.ofChange fnExactGainsOfSpec)

/-- ITS FALSE NEIGHBOUR: 'it returns false'. Refute it at one input. -/
def fnExactGainsOfWrong : ChangeSpec := { name := "fnExactGainsOf", fn := fun _ => fun
  | [d] => { results := [.lit (.bool false)], args := [d] }
  | _ => none }
def FnExactGainsOfWrongFalsely : Prop := fnExactGainsOfRow.holds Try.pinned (OpenSpec.ofChange fnExactGainsOfWrong)

/-- 'laws.FnExactMoversOf': WHATEVER THE INPUT: true; the input reads as it did. -/
def fnExactMoversOfSpec : ChangeSpec := { name := "fnExactMoversOf", fn := fun _ => fun
  | [d] => { results := [.lit (.bool true)], args := [d] }
  | _ => none }
def fnExactMoversOfRow : OpenClaim := { program := "ytejnmechnhgmfaa", sum := "e0e886ae760c9aff8fd09a566613746653f4f81945b4da76d79a44149d7bf3db", func := "loop.example/g00926/laws.FnExactMoversOf", spec := "fnExactMoversOf", apart := false }
def FnExactMoversOfSaid : Prop := fnExactMoversOfRow.holds Try.pinned (OpenSpec.ofChange fnExactMoversOfSpec)

/-- ITS FALSE NEIGHBOUR: 'it returns false'. Refute it at one input. -/
def fnExactMoversOfWrong : ChangeSpec := { name := "fnExactMoversOf", fn := fun _ => fun
  | [d] => { results := [.lit (.bool false)], args := [d] }
  | _ => none }
def FnExactMoversOfWrongFalsely : Prop := fnExactMoversOfRow.holds Try.pinned (OpenSpec.ofChange fnExactMoversOfWrong)

/-- 'laws.FnExactHistoryOf': WHATEVER THE INPUT: true; the input reads as it did. -/
def fnExactHistoryOfSpec : ChangeSpec := { name := "fnExactHistoryOf", fn := fun _ => fun
  | [d] => { results := [.lit (.bool true)], args := [d] }
  | _ => none }
def fnExactHistoryOfRow : OpenClaim := { program := "ytejnmechnhgmfaa", sum := "e0e886ae760c9aff8fd09a566613746653f4f81945b4da76d79a44149d7bf3db", func := "loop.example/g00926/laws.FnExactHistoryOf", spec := "fnExactHistoryOf", apart := false }
def FnExactHistoryOfSaid : Prop := fnExactHistoryOfRow.holds Try.pinned (OpenSpec.ofChange fnExactHistoryOfSpec)

/-- ITS FALSE NEIGHBOUR: 'it returns false'. Refute it at one input. -/
def fnExactHistoryOfWrong : ChangeSpec := { name := "fnExactHistoryOf", fn := fun _ => fun
  | [d] => { results := [.lit (.bool false)], args := [d] }
  | _ => none }
def FnExactHistoryOfWrongFalsely : Prop := fnExactHistoryOfRow.holds Try.pinned (OpenSpec.ofChange fnExactHistoryOfWrong)

/-- 'laws.FnExactResignGame': WHATEVER THE INPUT: true; the input reads as it did. -/
def fnExactResignGameSpec : ChangeSpec := { name := "fnExactResignGame", fn := fun _ => fun
  | [d1, d2] => { results := [.lit (.bool true)], args := [d1, d2] }
  | _ => none }
def fnExactResignGameRow : OpenClaim := { program := "ytejnmechnhgmfaa", sum := "e0e886ae760c9aff8fd09a566613746653f4f81945b4da76d79a44149d7bf3db", func := "loop.example/g00926/laws.FnExactResignGame", spec := "fnExactResignGame", apart := false }
def FnExactResignGameSaid : Prop := fnExactResignGameRow.holds Try.pinned (OpenSpec.ofChange fnExactResignGameSpec)

/-- ITS FALSE NEIGHBOUR: 'it returns false'. Refute it at one input. -/
def fnExactResignGameWrong : ChangeSpec := { name := "fnExactResignGame", fn := fun _ => fun
  | [d1, d2] => { results := [.lit (.bool false)], args := [d1, d2] }
  | _ => none }
def FnExactResignGameWrongFalsely : Prop := fnExactResignGameRow.holds Try.pinned (OpenSpec.ofChange fnExactResignGameWrong)

/-- 'laws.FnExactUndoMove': WHATEVER THE INPUT: true; the input reads as it did. -/
def fnExactUndoMoveSpec : ChangeSpec := { name := "fnExactUndoMove", fn := fun _ => fun
  | [d] => { results := [.lit (.bool true)], args := [d] }
  | _ => none }
def fnExactUndoMoveRow : OpenClaim := { program := "ytejnmechnhgmfaa", sum := "e0e886ae760c9aff8fd09a566613746653f4f81945b4da76d79a44149d7bf3db", func := "loop.example/g00926/laws.FnExactUndoMove", spec := "fnExactUndoMove", apart := false }
def FnExactUndoMoveSaid : Prop := fnExactUndoMoveRow.holds Try.pinned (OpenSpec.ofChange fnExactUndoMoveSpec)

/-- ITS FALSE NEIGHBOUR: 'it returns false'. Refute it at one input. -/
def fnExactUndoMoveWrong : ChangeSpec := { name := "fnExactUndoMove", fn := fun _ => fun
  | [d] => { results := [.lit (.bool false)], args := [d] }
  | _ => none }
def FnExactUndoMoveWrongFalsely : Prop := fnExactUndoMoveRow.holds Try.pinned (OpenSpec.ofChange fnExactUndoMoveWrong)

/-- 'laws.FnExactEndOf': WHATEVER THE INPUT: true; the input reads as it did. -/
def fnExactEndOfSpec : ChangeSpec := { name := "fnExactEndOf", fn := fun _ => fun
  | [d] => { results := [.lit (.bool true)], args := [d] }
  | _ => none }
def fnExactEndOfRow : OpenClaim := { program := "ytejnmechnhgmfaa", sum := "e0e886ae760c9aff8fd09a566613746653f4f81945b4da76d79a44149d7bf3db", func := "loop.example/g00926/laws.FnExactEndOf", spec := "fnExactEndOf", apart := false }
def FnExactEndOfSaid : Prop := fnExactEndOfRow.holds Try.pinned (OpenSpec.ofChange fnExactEndOfSpec)

/-- ITS FALSE NEIGHBOUR: 'it returns false'. Refute it at one input. -/
def fnExactEndOfWrong : ChangeSpec := { name := "fnExactEndOf", fn := fun _ => fun
  | [d] => { results := [.lit (.bool false)], args := [d] }
  | _ => none }
def FnExactEndOfWrongFalsely : Prop := fnExactEndOfRow.holds Try.pinned (OpenSpec.ofChange fnExactEndOfWrong)

/-- 'laws.FnExactPlayMove': WHATEVER THE INPUT: true; the input reads as it did. -/
def fnExactPlayMoveSpec : ChangeSpec := { name := "fnExactPlayMove", fn := fun _ => fun
  | [d1, d2] => { results := [.lit (.bool true)], args := [d1, d2] }
  | _ => none }
def fnExactPlayMoveRow : OpenClaim := { program := "ytejnmechnhgmfaa", sum := "e0e886ae760c9aff8fd09a566613746653f4f81945b4da76d79a44149d7bf3db", func := "loop.example/g00926/laws.FnExactPlayMove", spec := "fnExactPlayMove", apart := false }
def FnExactPlayMoveSaid : Prop := fnExactPlayMoveRow.holds Try.pinned (OpenSpec.ofChange fnExactPlayMoveSpec)

/-- ITS FALSE NEIGHBOUR: 'it returns false'. Refute it at one input. -/
def fnExactPlayMoveWrong : ChangeSpec := { name := "fnExactPlayMove", fn := fun _ => fun
  | [d1, d2] => { results := [.lit (.bool false)], args := [d1, d2] }
  | _ => none }
def FnExactPlayMoveWrongFalsely : Prop := fnExactPlayMoveRow.holds Try.pinned (OpenSpec.ofChange fnExactPlayMoveWrong)

/-- 'laws.FnExactPlayMoves': WHATEVER THE INPUT: true; the input reads as it did. -/
def fnExactPlayMovesSpec : ChangeSpec := { name := "fnExactPlayMoves", fn := fun _ => fun
  | [d1, d2] => { results := [.lit (.bool true)], args := [d1, d2] }
  | _ => none }
def fnExactPlayMovesRow : OpenClaim := { program := "ytejnmechnhgmfaa", sum := "e0e886ae760c9aff8fd09a566613746653f4f81945b4da76d79a44149d7bf3db", func := "loop.example/g00926/laws.FnExactPlayMoves", spec := "fnExactPlayMoves", apart := false }
def FnExactPlayMovesSaid : Prop := fnExactPlayMovesRow.holds Try.pinned (OpenSpec.ofChange fnExactPlayMovesSpec)

/-- ITS FALSE NEIGHBOUR: 'it returns false'. Refute it at one input. -/
def fnExactPlayMovesWrong : ChangeSpec := { name := "fnExactPlayMoves", fn := fun _ => fun
  | [d1, d2] => { results := [.lit (.bool false)], args := [d1, d2] }
  | _ => none }
def FnExactPlayMovesWrongFalsely : Prop := fnExactPlayMovesRow.holds Try.pinned (OpenSpec.ofChange fnExactPlayMovesWrong)

/-- 'laws.FnExactWinnerOf': WHATEVER THE INPUT: true; the input reads as it did. -/
def fnExactWinnerOfSpec : ChangeSpec := { name := "fnExactWinnerOf", fn := fun _ => fun
  | [d] => { results := [.lit (.bool true)], args := [d] }
  | _ => none }
def fnExactWinnerOfRow : OpenClaim := { program := "ytejnmechnhgmfaa", sum := "e0e886ae760c9aff8fd09a566613746653f4f81945b4da76d79a44149d7bf3db", func := "loop.example/g00926/laws.FnExactWinnerOf", spec := "fnExactWinnerOf", apart := false }
def FnExactWinnerOfSaid : Prop := fnExactWinnerOfRow.holds Try.pinned (OpenSpec.ofChange fnExactWinnerOfSpec)

/-- ITS FALSE NEIGHBOUR: 'it returns false'. Refute it at one input. -/
def fnExactWinnerOfWrong : ChangeSpec := { name := "fnExactWinnerOf", fn := fun _ => fun
  | [d] => { results := [.lit (.bool false)], args := [d] }
  | _ => none }
def FnExactWinnerOfWrongFalsely : Prop := fnExactWinnerOfRow.holds Try.pinned (OpenSpec.ofChange fnExactWinnerOfWrong)

/-- 'laws.FnExactScoresOf': WHATEVER THE INPUT: true; the input reads as it did. -/
def fnExactScoresOfSpec : ChangeSpec := { name := "fnExactScoresOf", fn := fun _ => fun
  | [d] => { results := [.lit (.bool true)], args := [d] }
  | _ => none }
def fnExactScoresOfRow : OpenClaim := { program := "ytejnmechnhgmfaa", sum := "e0e886ae760c9aff8fd09a566613746653f4f81945b4da76d79a44149d7bf3db", func := "loop.example/g00926/laws.FnExactScoresOf", spec := "fnExactScoresOf", apart := false }
def FnExactScoresOfSaid : Prop := fnExactScoresOfRow.holds Try.pinned (OpenSpec.ofChange fnExactScoresOfSpec)

/-- ITS FALSE NEIGHBOUR: 'it returns false'. Refute it at one input. -/
def fnExactScoresOfWrong : ChangeSpec := { name := "fnExactScoresOf", fn := fun _ => fun
  | [d] => { results := [.lit (.bool false)], args := [d] }
  | _ => none }
def FnExactScoresOfWrongFalsely : Prop := fnExactScoresOfRow.holds Try.pinned (OpenSpec.ofChange fnExactScoresOfWrong)

/-- 'laws.FnExactFinalPosition': WHATEVER THE INPUT: true; the input reads as it did. -/
def fnExactFinalPositionSpec : ChangeSpec := { name := "fnExactFinalPosition", fn := fun _ => fun
  | [d] => { results := [.lit (.bool true)], args := [d] }
  | _ => none }
def fnExactFinalPositionRow : OpenClaim := { program := "ytejnmechnhgmfaa", sum := "e0e886ae760c9aff8fd09a566613746653f4f81945b4da76d79a44149d7bf3db", func := "loop.example/g00926/laws.FnExactFinalPosition", spec := "fnExactFinalPosition", apart := false }
def FnExactFinalPositionSaid : Prop := fnExactFinalPositionRow.holds Try.pinned (OpenSpec.ofChange fnExactFinalPositionSpec)

/-- ITS FALSE NEIGHBOUR: 'it returns false'. Refute it at one input. -/
def fnExactFinalPositionWrong : ChangeSpec := { name := "fnExactFinalPosition", fn := fun _ => fun
  | [d] => { results := [.lit (.bool false)], args := [d] }
  | _ => none }
def FnExactFinalPositionWrongFalsely : Prop := fnExactFinalPositionRow.holds Try.pinned (OpenSpec.ofChange fnExactFinalPositionWrong)

/-- 'laws.FnExactCutGame': WHATEVER THE INPUT: true; the input reads as it did. -/
def fnExactCutGameSpec : ChangeSpec := { name := "fnExactCutGame", fn := fun _ => fun
  | [d] => { results := [.lit (.bool true)], args := [d] }
  | _ => none }
def fnExactCutGameRow : OpenClaim := { program := "ytejnmechnhgmfaa", sum := "e0e886ae760c9aff8fd09a566613746653f4f81945b4da76d79a44149d7bf3db", func := "loop.example/g00926/laws.FnExactCutGame", spec := "fnExactCutGame", apart := false }
def FnExactCutGameSaid : Prop := fnExactCutGameRow.holds Try.pinned (OpenSpec.ofChange fnExactCutGameSpec)

/-- ITS FALSE NEIGHBOUR: 'it returns false'. Refute it at one input. -/
def fnExactCutGameWrong : ChangeSpec := { name := "fnExactCutGame", fn := fun _ => fun
  | [d] => { results := [.lit (.bool false)], args := [d] }
  | _ => none }
def FnExactCutGameWrongFalsely : Prop := fnExactCutGameRow.holds Try.pinned (OpenSpec.ofChange fnExactCutGameWrong)

/-- 'laws.FnPlayed': WHATEVER THE INPUT: true; the input reads as it did. -/
def fnPlayedSpec : ChangeSpec := { name := "fnPlayed", fn := fun _ => fun
  | [d] => { results := [.lit (.bool true)], args := [d] }
  | _ => none }
def fnPlayedRow : OpenClaim := { program := "ytejnmechnhgmfaa", sum := "e0e886ae760c9aff8fd09a566613746653f4f81945b4da76d79a44149d7bf3db", func := "loop.example/g00926/laws.FnPlayed", spec := "fnPlayed", apart := false }
def FnPlayedSaid : Prop := fnPlayedRow.holds Try.pinned (OpenSpec.ofChange fnPlayedSpec)

/-- ITS FALSE NEIGHBOUR: 'it returns false'. Refute it at one input. -/
def fnPlayedWrong : ChangeSpec := { name := "fnPlayed", fn := fun _ => fun
  | [d] => { results := [.lit (.bool false)], args := [d] }
  | _ => none }
def FnPlayedWrongFalsely : Prop := fnPlayedRow.holds Try.pinned (OpenSpec.ofChange fnPlayedWrong)

/- THE SECOND FORM. 'bulk': how many values and letters a reading holds, each counted each time it is reached (what is shared counts as often as it is met; a slice's spare places count too). A statement '..UptoSaid' is the law's where the arguments, and the package variables that the reading takes, are together of bulk at most 1048576: NARROWER than '..Said'. Prove '..Said' where nothing that the law and all that it calls make is longer than what came in: it says more and counts as full. Else prove '..UptoSaid'. A law counts once. -/
mutual
def uptoBulk {H : Type} : DataW H → Nat
  | .lit (.string bytes) => bytes.length + 1
  | .lit _ => 1
  | .nil => 1
  | .ptr d => uptoBulk d + 1
  | .slice elems spare => uptoBulkAll elems + uptoBulkAll spare + 1
  | .agg parts => uptoBulkAll parts + 1
  | .iface _ d => uptoBulk d + 1
  | .map entries => uptoBulkEntries entries + 1
  | .held _ => 1
def uptoBulkAll {H : Type} : List (DataW H) → Nat
  | [] => 0
  | d :: r => uptoBulk d + uptoBulkAll r
def uptoBulkEntries {H : Type} : List (Lit × DataW H) → Nat
  | [] => 0
  | x :: r => uptoBulkEntry x + uptoBulkEntries r
def uptoBulkEntry {H : Type} : Lit × DataW H → Nat
  | (.string bytes, d) => bytes.length + uptoBulk d + 1
  | (_, d) => uptoBulk d + 1
 end
def uptoSmall : (H : Type) → List (DataW H) → Bool := fun _ ds => decide (uptoBulkAll ds ≤ 1048576)
def OpenSpec.upto (s : _root_.Go.ChangeSpec) : _root_.Go.OpenSpec := { _root_.Go.OpenSpec.ofChange s with cond := some uptoSmall }

/-- 'laws.FnExactRepeatsOf', WHERE WHAT IT READS IS OF BULK AT MOST 1048576: true; the input reads as it did. -/
def fnExactRepeatsOfUptoRow : OpenClaim := { program := "ytejnmechnhgmfaa", sum := "e0e886ae760c9aff8fd09a566613746653f4f81945b4da76d79a44149d7bf3db", func := "loop.example/g00926/laws.FnExactRepeatsOf", spec := "fnExactRepeatsOf", apart := false, narrowed := true }
def FnExactRepeatsOfUptoSaid : Prop := fnExactRepeatsOfUptoRow.holds Try.pinned (OpenSpec.upto fnExactRepeatsOfSpec)

/-- 'laws.FnExactGainsOf', WHERE WHAT IT READS IS OF BULK AT MOST 1048576: true; the input reads as it did. -/
def fnExactGainsOfUptoRow : OpenClaim := { program := "ytejnmechnhgmfaa", sum := "e0e886ae760c9aff8fd09a566613746653f4f81945b4da76d79a44149d7bf3db", func := "loop.example/g00926/laws.FnExactGainsOf", spec := "fnExactGainsOf", apart := false, narrowed := true }
def FnExactGainsOfUptoSaid : Prop := fnExactGainsOfUptoRow.holds Try.pinned (OpenSpec.upto fnExactGainsOfSpec)

/-- 'laws.FnExactMoversOf', WHERE WHAT IT READS IS OF BULK AT MOST 1048576: true; the input reads as it did. -/
def fnExactMoversOfUptoRow : OpenClaim := { program := "ytejnmechnhgmfaa", sum := "e0e886ae760c9aff8fd09a566613746653f4f81945b4da76d79a44149d7bf3db", func := "loop.example/g00926/laws.FnExactMoversOf", spec := "fnExactMoversOf", apart := false, narrowed := true }
def FnExactMoversOfUptoSaid : Prop := fnExactMoversOfUptoRow.holds Try.pinned (OpenSpec.upto fnExactMoversOfSpec)

/-- 'laws.FnExactHistoryOf', WHERE WHAT IT READS IS OF BULK AT MOST 1048576: true; the input reads as it did. -/
def fnExactHistoryOfUptoRow : OpenClaim := { program := "ytejnmechnhgmfaa", sum := "e0e886ae760c9aff8fd09a566613746653f4f81945b4da76d79a44149d7bf3db", func := "loop.example/g00926/laws.FnExactHistoryOf", spec := "fnExactHistoryOf", apart := false, narrowed := true }
def FnExactHistoryOfUptoSaid : Prop := fnExactHistoryOfUptoRow.holds Try.pinned (OpenSpec.upto fnExactHistoryOfSpec)

/-- 'laws.FnExactResignGame', WHERE WHAT IT READS IS OF BULK AT MOST 1048576: true; the input reads as it did. -/
def fnExactResignGameUptoRow : OpenClaim := { program := "ytejnmechnhgmfaa", sum := "e0e886ae760c9aff8fd09a566613746653f4f81945b4da76d79a44149d7bf3db", func := "loop.example/g00926/laws.FnExactResignGame", spec := "fnExactResignGame", apart := false, narrowed := true }
def FnExactResignGameUptoSaid : Prop := fnExactResignGameUptoRow.holds Try.pinned (OpenSpec.upto fnExactResignGameSpec)

/-- 'laws.FnExactUndoMove', WHERE WHAT IT READS IS OF BULK AT MOST 1048576: true; the input reads as it did. -/
def fnExactUndoMoveUptoRow : OpenClaim := { program := "ytejnmechnhgmfaa", sum := "e0e886ae760c9aff8fd09a566613746653f4f81945b4da76d79a44149d7bf3db", func := "loop.example/g00926/laws.FnExactUndoMove", spec := "fnExactUndoMove", apart := false, narrowed := true }
def FnExactUndoMoveUptoSaid : Prop := fnExactUndoMoveUptoRow.holds Try.pinned (OpenSpec.upto fnExactUndoMoveSpec)

/-- 'laws.FnExactEndOf', WHERE WHAT IT READS IS OF BULK AT MOST 1048576: true; the input reads as it did. -/
def fnExactEndOfUptoRow : OpenClaim := { program := "ytejnmechnhgmfaa", sum := "e0e886ae760c9aff8fd09a566613746653f4f81945b4da76d79a44149d7bf3db", func := "loop.example/g00926/laws.FnExactEndOf", spec := "fnExactEndOf", apart := false, narrowed := true }
def FnExactEndOfUptoSaid : Prop := fnExactEndOfUptoRow.holds Try.pinned (OpenSpec.upto fnExactEndOfSpec)

/-- 'laws.FnExactPlayMove', WHERE WHAT IT READS IS OF BULK AT MOST 1048576: true; the input reads as it did. -/
def fnExactPlayMoveUptoRow : OpenClaim := { program := "ytejnmechnhgmfaa", sum := "e0e886ae760c9aff8fd09a566613746653f4f81945b4da76d79a44149d7bf3db", func := "loop.example/g00926/laws.FnExactPlayMove", spec := "fnExactPlayMove", apart := false, narrowed := true }
def FnExactPlayMoveUptoSaid : Prop := fnExactPlayMoveUptoRow.holds Try.pinned (OpenSpec.upto fnExactPlayMoveSpec)

/-- 'laws.FnExactPlayMoves', WHERE WHAT IT READS IS OF BULK AT MOST 1048576: true; the input reads as it did. -/
def fnExactPlayMovesUptoRow : OpenClaim := { program := "ytejnmechnhgmfaa", sum := "e0e886ae760c9aff8fd09a566613746653f4f81945b4da76d79a44149d7bf3db", func := "loop.example/g00926/laws.FnExactPlayMoves", spec := "fnExactPlayMoves", apart := false, narrowed := true }
def FnExactPlayMovesUptoSaid : Prop := fnExactPlayMovesUptoRow.holds Try.pinned (OpenSpec.upto fnExactPlayMovesSpec)

/-- 'laws.FnExactWinnerOf', WHERE WHAT IT READS IS OF BULK AT MOST 1048576: true; the input reads as it did. -/
def fnExactWinnerOfUptoRow : OpenClaim := { program := "ytejnmechnhgmfaa", sum := "e0e886ae760c9aff8fd09a566613746653f4f81945b4da76d79a44149d7bf3db", func := "loop.example/g00926/laws.FnExactWinnerOf", spec := "fnExactWinnerOf", apart := false, narrowed := true }
def FnExactWinnerOfUptoSaid : Prop := fnExactWinnerOfUptoRow.holds Try.pinned (OpenSpec.upto fnExactWinnerOfSpec)

/-- 'laws.FnExactScoresOf', WHERE WHAT IT READS IS OF BULK AT MOST 1048576: true; the input reads as it did. -/
def fnExactScoresOfUptoRow : OpenClaim := { program := "ytejnmechnhgmfaa", sum := "e0e886ae760c9aff8fd09a566613746653f4f81945b4da76d79a44149d7bf3db", func := "loop.example/g00926/laws.FnExactScoresOf", spec := "fnExactScoresOf", apart := false, narrowed := true }
def FnExactScoresOfUptoSaid : Prop := fnExactScoresOfUptoRow.holds Try.pinned (OpenSpec.upto fnExactScoresOfSpec)

/-- 'laws.FnExactFinalPosition', WHERE WHAT IT READS IS OF BULK AT MOST 1048576: true; the input reads as it did. -/
def fnExactFinalPositionUptoRow : OpenClaim := { program := "ytejnmechnhgmfaa", sum := "e0e886ae760c9aff8fd09a566613746653f4f81945b4da76d79a44149d7bf3db", func := "loop.example/g00926/laws.FnExactFinalPosition", spec := "fnExactFinalPosition", apart := false, narrowed := true }
def FnExactFinalPositionUptoSaid : Prop := fnExactFinalPositionUptoRow.holds Try.pinned (OpenSpec.upto fnExactFinalPositionSpec)

/-- 'laws.FnExactCutGame', WHERE WHAT IT READS IS OF BULK AT MOST 1048576: true; the input reads as it did. -/
def fnExactCutGameUptoRow : OpenClaim := { program := "ytejnmechnhgmfaa", sum := "e0e886ae760c9aff8fd09a566613746653f4f81945b4da76d79a44149d7bf3db", func := "loop.example/g00926/laws.FnExactCutGame", spec := "fnExactCutGame", apart := false, narrowed := true }
def FnExactCutGameUptoSaid : Prop := fnExactCutGameUptoRow.holds Try.pinned (OpenSpec.upto fnExactCutGameSpec)

/-- 'laws.FnPlayed', WHERE WHAT IT READS IS OF BULK AT MOST 1048576: true; the input reads as it did. -/
def fnPlayedUptoRow : OpenClaim := { program := "ytejnmechnhgmfaa", sum := "e0e886ae760c9aff8fd09a566613746653f4f81945b4da76d79a44149d7bf3db", func := "loop.example/g00926/laws.FnPlayed", spec := "fnPlayed", apart := false, narrowed := true }
def FnPlayedUptoSaid : Prop := fnPlayedUptoRow.holds Try.pinned (OpenSpec.upto fnPlayedSpec)

end Rows
end Go.Proofs.Ytejnmechnhgmfaa

/-
  No cell of these rows narrows 'for every input' (looked for: loops, veiled, ifaces, maps, wideKeys, modest, calm, conditions, laid).
  DERIVED. THE GIVEN ROWS OF THIS SEAT. 5 by the template 'for every input the law returns true; each argument reads behind the call as it read before'; 0 by the template 'total and deterministic' (their statements: YtcmfnlleikcpnaaTotals.lean).
  GIVEN WITH THE SEED: the statements are not yours to turn. If you find one false, say at which input.
  Laid BY PROGRAM, IN A SANDBOX (cutbox-rows.mjs): the forced cells as the released guide's own fill.sh prints them over the translation a7079c95e9ab7dfb… (all of the seat's roots in one cut). By AI agents, Wed Nov 11 2026. No macro, syntax, notation, axiom, sorry.
-/
import Derived.Test.YtcmfnlleikcpnaaChecked
import GoSem.Claim
import GoSem.ClaimJoined
import GoSem.ClaimMapViews
import Derived.JoinedTies
import Derived.KernelRfl
namespace Go.Proofs.Ytcmfnlleikcpnaa
/- THE CELL 'sum', in the pinned program and in every row, IS THE sha256 OF THE DUMP (.gsa) THAT YtcmfnlleikcpnaaProg.lean LOADS. Nothing in Lean hashes anything: it is a label: what it is worth is what the hold of that sum in a sandbox is worth. -/
noncomputable def Try.pinned : Pinned := { name := "ytcmfnlleikcpnaa", sum := "a7079c95e9ab7dfb5b716d632130a82abbb707d59dd3624f716a2e6c7fffde02", checked := Try.checked }
namespace Rows
def none {H : Type} : Left H := { results := [], args := [] }

/-- 'laws.FnExactValidBook': WHATEVER THE INPUT: true; the input reads as it did. -/
def fnExactValidBookSpec : ChangeSpec := { name := "fnExactValidBook", fn := fun _ => fun
  | [d] => { results := [.lit (.bool true)], args := [d] }
  | _ => none }
def fnExactValidBookRow : OpenClaim := { program := "ytcmfnlleikcpnaa", sum := "a7079c95e9ab7dfb5b716d632130a82abbb707d59dd3624f716a2e6c7fffde02", func := "loop.example/g00926/laws.FnExactValidBook", spec := "fnExactValidBook", apart := false }
def FnExactValidBookSaid : Prop := fnExactValidBookRow.holds Try.pinned (OpenSpec.ofChange fnExactValidBookSpec)

/-- ITS FALSE NEIGHBOUR: 'it returns false'. Refute it at one input. -/
def fnExactValidBookWrong : ChangeSpec := { name := "fnExactValidBook", fn := fun _ => fun
  | [d] => { results := [.lit (.bool false)], args := [d] }
  | _ => none }
def FnExactValidBookWrongFalsely : Prop := fnExactValidBookRow.holds Try.pinned (OpenSpec.ofChange fnExactValidBookWrong)

/-- 'laws.FnExactPruneBook': WHATEVER THE INPUT: true; the input reads as it did. -/
def fnExactPruneBookSpec : ChangeSpec := { name := "fnExactPruneBook", fn := fun _ => fun
  | [d1, d2] => { results := [.lit (.bool true)], args := [d1, d2] }
  | _ => none }
def fnExactPruneBookRow : OpenClaim := { program := "ytcmfnlleikcpnaa", sum := "a7079c95e9ab7dfb5b716d632130a82abbb707d59dd3624f716a2e6c7fffde02", func := "loop.example/g00926/laws.FnExactPruneBook", spec := "fnExactPruneBook", apart := false }
def FnExactPruneBookSaid : Prop := fnExactPruneBookRow.holds Try.pinned (OpenSpec.ofChange fnExactPruneBookSpec)

/-- ITS FALSE NEIGHBOUR: 'it returns false'. Refute it at one input. -/
def fnExactPruneBookWrong : ChangeSpec := { name := "fnExactPruneBook", fn := fun _ => fun
  | [d1, d2] => { results := [.lit (.bool false)], args := [d1, d2] }
  | _ => none }
def FnExactPruneBookWrongFalsely : Prop := fnExactPruneBookRow.holds Try.pinned (OpenSpec.ofChange fnExactPruneBookWrong)

/-- 'laws.FnExactChooseMove': WHATEVER THE INPUT: true; the input reads as it did. -/
def fnExactChooseMoveSpec : ChangeSpec := { name := "fnExactChooseMove", fn := fun _ => fun
  | [d1, d2] => { results := [.lit (.bool true)], args := [d1, d2] }
  | _ => none }
def fnExactChooseMoveRow : OpenClaim := { program := "ytcmfnlleikcpnaa", sum := "a7079c95e9ab7dfb5b716d632130a82abbb707d59dd3624f716a2e6c7fffde02", func := "loop.example/g00926/laws.FnExactChooseMove", spec := "fnExactChooseMove", apart := false }
def FnExactChooseMoveSaid : Prop := fnExactChooseMoveRow.holds Try.pinned (OpenSpec.ofChange fnExactChooseMoveSpec)

/-- ITS FALSE NEIGHBOUR: 'it returns false'. Refute it at one input. -/
def fnExactChooseMoveWrong : ChangeSpec := { name := "fnExactChooseMove", fn := fun _ => fun
  | [d1, d2] => { results := [.lit (.bool false)], args := [d1, d2] }
  | _ => none }
def FnExactChooseMoveWrongFalsely : Prop := fnExactChooseMoveRow.holds Try.pinned (OpenSpec.ofChange fnExactChooseMoveWrong)

/-- 'laws.FnExactLookUp': WHATEVER THE INPUT: true; the input reads as it did. -/
def fnExactLookUpSpec : ChangeSpec := { name := "fnExactLookUp", fn := fun _ => fun
  | [d1, d2] => { results := [.lit (.bool true)], args := [d1, d2] }
  | _ => none }
def fnExactLookUpRow : OpenClaim := { program := "ytcmfnlleikcpnaa", sum := "a7079c95e9ab7dfb5b716d632130a82abbb707d59dd3624f716a2e6c7fffde02", func := "loop.example/g00926/laws.FnExactLookUp", spec := "fnExactLookUp", apart := false }
def FnExactLookUpSaid : Prop := fnExactLookUpRow.holds Try.pinned (OpenSpec.ofChange fnExactLookUpSpec)

/-- ITS FALSE NEIGHBOUR: 'it returns false'. Refute it at one input. -/
def fnExactLookUpWrong : ChangeSpec := { name := "fnExactLookUp", fn := fun _ => fun
  | [d1, d2] => { results := [.lit (.bool false)], args := [d1, d2] }
  | _ => none }
def FnExactLookUpWrongFalsely : Prop := fnExactLookUpRow.holds Try.pinned (OpenSpec.ofChange fnExactLookUpWrong)

/-- 'laws.FnExactMergeBooks': WHATEVER THE INPUT: true; the input reads as it did. -/
def fnExactMergeBooksSpec : ChangeSpec := { name := "fnExactMergeBooks", fn := fun _ => fun
  | [d1, d2] => { results := [.lit (.bool true)], args := [d1, d2] }
  | _ => none }
def fnExactMergeBooksRow : OpenClaim := { program := "ytcmfnlleikcpnaa", sum := "a7079c95e9ab7dfb5b716d632130a82abbb707d59dd3624f716a2e6c7fffde02", func := "loop.example/g00926/laws.FnExactMergeBooks", spec := "fnExactMergeBooks", apart := false }
def FnExactMergeBooksSaid : Prop := fnExactMergeBooksRow.holds Try.pinned (OpenSpec.ofChange fnExactMergeBooksSpec)

/-- ITS FALSE NEIGHBOUR: 'it returns false'. Refute it at one input. -/
def fnExactMergeBooksWrong : ChangeSpec := { name := "fnExactMergeBooks", fn := fun _ => fun
  | [d1, d2] => { results := [.lit (.bool false)], args := [d1, d2] }
  | _ => none }
def FnExactMergeBooksWrongFalsely : Prop := fnExactMergeBooksRow.holds Try.pinned (OpenSpec.ofChange fnExactMergeBooksWrong)

/- THE SECOND FORM. 'bulk': how many values and letters a reading holds, each counted each time it is reached (what is shared counts as often as it is met; a slice's spare places count too). A statement '..UptoSaid' is the law's where the arguments, and the package variables that the reading takes, are together of bulk at most 1048576: NARROWER than '..Said'. Prove '..Said' where nothing that the law and all that it calls make is longer than what came in: it says more and counts as full. Else prove '..UptoSaid'. A law counts once. -/
mutual
def uptoBulk {H : Type} : DataW H → Nat
  | .lit (.string bytes) => bytes.length + 1
  | .lit _ => 1
  | .nil => 1
  | .ptr d => uptoBulk d + 1
  | .slice elems spare => uptoBulkAll elems + uptoBulkAll spare + 1
  | .agg parts => uptoBulkAll parts + 1
  | .iface _ d => uptoBulk d + 1
  | .map entries => uptoBulkEntries entries + 1
  | .held _ => 1
def uptoBulkAll {H : Type} : List (DataW H) → Nat
  | [] => 0
  | d :: r => uptoBulk d + uptoBulkAll r
def uptoBulkEntries {H : Type} : List (Lit × DataW H) → Nat
  | [] => 0
  | x :: r => uptoBulkEntry x + uptoBulkEntries r
def uptoBulkEntry {H : Type} : Lit × DataW H → Nat
  | (.string bytes, d) => bytes.length + uptoBulk d + 1
  | (_, d) => uptoBulk d + 1
 end
def uptoSmall : (H : Type) → List (DataW H) → Bool := fun _ ds => decide (uptoBulkAll ds ≤ 1048576)
def OpenSpec.upto (s : _root_.Go.ChangeSpec) : _root_.Go.OpenSpec := { _root_.Go.OpenSpec.ofChange s with cond := some uptoSmall }

/-- 'laws.FnExactValidBook', WHERE WHAT IT READS IS OF BULK AT MOST 1048576: true; the input reads as it did. -/
def fnExactValidBookUptoRow : OpenClaim := { program := "ytcmfnlleikcpnaa", sum := "a7079c95e9ab7dfb5b716d632130a82abbb707d59dd3624f716a2e6c7fffde02", func := "loop.example/g00926/laws.FnExactValidBook", spec := "fnExactValidBook", apart := false, narrowed := true }
def FnExactValidBookUptoSaid : Prop := fnExactValidBookUptoRow.holds Try.pinned (OpenSpec.upto fnExactValidBookSpec)

/-- 'laws.FnExactPruneBook', WHERE WHAT IT READS IS OF BULK AT MOST 1048576: true; the input reads as it did. -/
def fnExactPruneBookUptoRow : OpenClaim := { program := "ytcmfnlleikcpnaa", sum := "a7079c95e9ab7dfb5b716d632130a82abbb707d59dd3624f716a2e6c7fffde02", func := "loop.example/g00926/laws.FnExactPruneBook", spec := "fnExactPruneBook", apart := false, narrowed := true }
def FnExactPruneBookUptoSaid : Prop := fnExactPruneBookUptoRow.holds Try.pinned (OpenSpec.upto fnExactPruneBookSpec)

/-- 'laws.FnExactChooseMove', WHERE WHAT IT READS IS OF BULK AT MOST 1048576: true; the input reads as it did. -/
def fnExactChooseMoveUptoRow : OpenClaim := { program := "ytcmfnlleikcpnaa", sum := "a7079c95e9ab7dfb5b716d632130a82abbb707d59dd3624f716a2e6c7fffde02", func := "loop.example/g00926/laws.FnExactChooseMove", spec := "fnExactChooseMove", apart := false, narrowed := true }
def FnExactChooseMoveUptoSaid : Prop := fnExactChooseMoveUptoRow.holds Try.pinned (OpenSpec.upto fnExactChooseMoveSpec)

/-- 'laws.FnExactLookUp', WHERE WHAT IT READS IS OF BULK AT MOST 1048576: true; the input reads as it did. -/
def fnExactLookUpUptoRow : OpenClaim := { program := "ytcmfnlleikcpnaa", sum := "a7079c95e9ab7dfb5b716d632130a82abbb707d59dd3624f716a2e6c7fffde02", func := "loop.example/g00926/laws.FnExactLookUp", spec := "fnExactLookUp", apart := false, narrowed := true }
def FnExactLookUpUptoSaid : Prop := fnExactLookUpUptoRow.holds Try.pinned (OpenSpec.upto fnExactLookUpSpec)

/-- 'laws.FnExactMergeBooks', WHERE WHAT IT READS IS OF BULK AT MOST 1048576: true; the input reads as it did. -/
def fnExactMergeBooksUptoRow : OpenClaim := { program := "ytcmfnlleikcpnaa", sum := "a7079c95e9ab7dfb5b716d632130a82abbb707d59dd3624f716a2e6c7fffde02", func := "loop.example/g00926/laws.FnExactMergeBooks", spec := "fnExactMergeBooks", apart := false, narrowed := true }
def FnExactMergeBooksUptoSaid : Prop := fnExactMergeBooksUptoRow.holds Try.pinned (OpenSpec.upto fnExactMergeBooksSpec)

end Rows
end Go.Proofs.Ytcmfnlleikcpnaa

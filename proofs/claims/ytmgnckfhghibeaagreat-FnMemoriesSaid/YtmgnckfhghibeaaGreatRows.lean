/-
  No cell of these rows narrows 'for every input' (looked for: loops, veiled, ifaces, maps, wideKeys, modest, calm, conditions, laid).
  DERIVED. THE GIVEN ROWS OF THIS SEAT. 3 by the template 'for every input the law returns true; each argument reads behind the call as it read before'; 0 by the template 'total and deterministic' (their statements: YtmgnckfhghibeaaGreatTotals.lean).
  GIVEN WITH THE SEED: the statements are not yours to turn. If you find one false, say at which input.
  Laid BY PROGRAM, IN A SANDBOX (cutbox-rows.mjs): the forced cells as the released guide's own fill.sh prints them over the translation 7909e3b651a5ea35… (all of the seat's roots in one cut). By AI agents, Wed Nov 11 2026. No macro, syntax, notation, axiom, sorry.
-/
import Derived.Test.YtmgnckfhghibeaaGreatChecked
import GoSem.Claim
import GoSem.ClaimJoined
import GoSem.ClaimMapViews
import Derived.JoinedTies
import Derived.KernelRfl
namespace Go.Proofs.YtmgnckfhghibeaaGreat
/- THE CELL 'sum', in the pinned program and in every row, IS THE sha256 OF THE DUMP (.gsa) THAT YtmgnckfhghibeaaGreatProg.lean LOADS. Nothing in Lean hashes anything: it is a label: what it is worth is what the hold of that sum in a sandbox is worth. -/
noncomputable def Tryz.pinned : Pinned := { name := "ytmgnckfhghibeaagreat", sum := "7909e3b651a5ea350eaf2cadad440fba9c5f43d989d6228afc4e2ed3632c0f8d", checked := Tryz.checked }
namespace Rows
def none {H : Type} : Left H := { results := [], args := [] }

/-- 'laws.FnMemories': WHATEVER THE INPUT: true; the input reads as it did. -/
def fnMemoriesSpec : ChangeSpec := { name := "fnMemories", fn := fun _ => fun
  | [d] => { results := [.lit (.bool true)], args := [d] }
  | _ => none }
def fnMemoriesRow : OpenClaim := { program := "ytmgnckfhghibeaagreat", sum := "7909e3b651a5ea350eaf2cadad440fba9c5f43d989d6228afc4e2ed3632c0f8d", func := "loop.example/g00926/laws.FnMemories", spec := "fnMemories", recurses := true, apart := false }
def FnMemoriesSaid : Prop := fnMemoriesRow.holds Tryz.pinned (OpenSpec.ofChange fnMemoriesSpec)

/-- ITS FALSE NEIGHBOUR: 'it returns false'. Refute it at one input. -/
def fnMemoriesWrong : ChangeSpec := { name := "fnMemories", fn := fun _ => fun
  | [d] => { results := [.lit (.bool false)], args := [d] }
  | _ => none }
def FnMemoriesWrongFalsely : Prop := fnMemoriesRow.holds Tryz.pinned (OpenSpec.ofChange fnMemoriesWrong)

/-- 'laws.FnPuzzles': WHATEVER THE INPUT: true; the input reads as it did. -/
def fnPuzzlesSpec : ChangeSpec := { name := "fnPuzzles", fn := fun _ => fun
  | [d] => { results := [.lit (.bool true)], args := [d] }
  | _ => none }
def fnPuzzlesRow : OpenClaim := { program := "ytmgnckfhghibeaagreat", sum := "7909e3b651a5ea350eaf2cadad440fba9c5f43d989d6228afc4e2ed3632c0f8d", func := "loop.example/g00926/laws.FnPuzzles", spec := "fnPuzzles", recurses := true, apart := false }
def FnPuzzlesSaid : Prop := fnPuzzlesRow.holds Tryz.pinned (OpenSpec.ofChange fnPuzzlesSpec)

/-- ITS FALSE NEIGHBOUR: 'it returns false'. Refute it at one input. -/
def fnPuzzlesWrong : ChangeSpec := { name := "fnPuzzles", fn := fun _ => fun
  | [d] => { results := [.lit (.bool false)], args := [d] }
  | _ => none }
def FnPuzzlesWrongFalsely : Prop := fnPuzzlesRow.holds Tryz.pinned (OpenSpec.ofChange fnPuzzlesWrong)

/-- 'laws.FnExactSearchWith': WHATEVER THE INPUT: true; the input reads as it did. -/
def fnExactSearchWithSpec : ChangeSpec := { name := "fnExactSearchWith", fn := fun _ => fun
  | [d1, d2, d3] => { results := [.lit (.bool true)], args := [d1, d2, d3] }
  | _ => none }
def fnExactSearchWithRow : OpenClaim := { program := "ytmgnckfhghibeaagreat", sum := "7909e3b651a5ea350eaf2cadad440fba9c5f43d989d6228afc4e2ed3632c0f8d", func := "loop.example/g00926/laws.FnExactSearchWith", spec := "fnExactSearchWith", recurses := true, apart := false }
def FnExactSearchWithSaid : Prop := fnExactSearchWithRow.holds Tryz.pinned (OpenSpec.ofChange fnExactSearchWithSpec)

/-- ITS FALSE NEIGHBOUR: 'it returns false'. Refute it at one input. -/
def fnExactSearchWithWrong : ChangeSpec := { name := "fnExactSearchWith", fn := fun _ => fun
  | [d1, d2, d3] => { results := [.lit (.bool false)], args := [d1, d2, d3] }
  | _ => none }
def FnExactSearchWithWrongFalsely : Prop := fnExactSearchWithRow.holds Tryz.pinned (OpenSpec.ofChange fnExactSearchWithWrong)

/- THE SECOND FORM. 'bulk': how many values and letters a reading holds, each counted each time it is reached (what is shared counts as often as it is met; a slice's spare places count too). A statement '..UptoSaid' is the law's where the arguments, and the package variables that the reading takes, are together of bulk at most 1048576: NARROWER than '..Said'. Prove '..Said' where nothing that the law and all that it calls make is longer than what came in: it says more and counts as full. Else prove '..UptoSaid'. A law counts once. -/
mutual
def uptoBulk {H : Type} : DataW H → Nat
  | .lit (.string bytes) => bytes.length + 1
  | .lit _ => 1
  | .nil => 1
  | .ptr d => uptoBulk d + 1
  | .slice elems spare => uptoBulkAll elems + uptoBulkAll spare + 1
  | .agg parts => uptoBulkAll parts + 1
  | .iface _ d => uptoBulk d + 1
  | .map entries => uptoBulkEntries entries + 1
  | .held _ => 1
def uptoBulkAll {H : Type} : List (DataW H) → Nat
  | [] => 0
  | d :: r => uptoBulk d + uptoBulkAll r
def uptoBulkEntries {H : Type} : List (Lit × DataW H) → Nat
  | [] => 0
  | x :: r => uptoBulkEntry x + uptoBulkEntries r
def uptoBulkEntry {H : Type} : Lit × DataW H → Nat
  | (.string bytes, d) => bytes.length + uptoBulk d + 1
  | (_, d) => uptoBulk d + 1
 end
def uptoSmall : (H : Type) → List (DataW H) → Bool := fun _ ds => decide (uptoBulkAll ds ≤ 1048576)
def OpenSpec.upto (s : _root_.Go.ChangeSpec) : _root_.Go.OpenSpec := { _root_.Go.OpenSpec.ofChange s with cond := some uptoSmall }

/-- 'laws.FnMemories', WHERE WHAT IT READS IS OF BULK AT MOST 1048576: true; the input reads as it did. -/
def fnMemoriesUptoRow : OpenClaim := { program := "ytmgnckfhghibeaagreat", sum := "7909e3b651a5ea350eaf2cadad440fba9c5f43d989d6228afc4e2ed3632c0f8d", func := "loop.example/g00926/laws.FnMemories", spec := "fnMemories", recurses := true, apart := false, narrowed := true }
def FnMemoriesUptoSaid : Prop := fnMemoriesUptoRow.holds Tryz.pinned (OpenSpec.upto fnMemoriesSpec)

/-- 'laws.FnPuzzles', WHERE WHAT IT READS IS OF BULK AT MOST 1048576: true; the input reads as it did. -/
def fnPuzzlesUptoRow : OpenClaim := { program := "ytmgnckfhghibeaagreat", sum := "7909e3b651a5ea350eaf2cadad440fba9c5f43d989d6228afc4e2ed3632c0f8d", func := "loop.example/g00926/laws.FnPuzzles", spec := "fnPuzzles", recurses := true, apart := false, narrowed := true }
def FnPuzzlesUptoSaid : Prop := fnPuzzlesUptoRow.holds Tryz.pinned (OpenSpec.upto fnPuzzlesSpec)

/-- 'laws.FnExactSearchWith', WHERE WHAT IT READS IS OF BULK AT MOST 1048576: true; the input reads as it did. -/
def fnExactSearchWithUptoRow : OpenClaim := { program := "ytmgnckfhghibeaagreat", sum := "7909e3b651a5ea350eaf2cadad440fba9c5f43d989d6228afc4e2ed3632c0f8d", func := "loop.example/g00926/laws.FnExactSearchWith", spec := "fnExactSearchWith", recurses := true, apart := false, narrowed := true }
def FnExactSearchWithUptoSaid : Prop := fnExactSearchWithUptoRow.holds Tryz.pinned (OpenSpec.upto fnExactSearchWithSpec)

end Rows
end Go.Proofs.YtmgnckfhghibeaaGreat

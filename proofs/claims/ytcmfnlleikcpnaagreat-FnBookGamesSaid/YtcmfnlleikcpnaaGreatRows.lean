/-
  No cell of these rows narrows 'for every input' (looked for: loops, veiled, ifaces, maps, wideKeys, modest, calm, conditions, laid).
  DERIVED. THE GIVEN ROWS OF THIS SEAT. 5 by the template 'for every input the law returns true; each argument reads behind the call as it read before'; 0 by the template 'total and deterministic' (their statements: YtcmfnlleikcpnaaGreatTotals.lean).
  GIVEN WITH THE SEED: the statements are not yours to turn. If you find one false, say at which input.
  Laid BY PROGRAM, IN A SANDBOX (cutbox-rows.mjs): the forced cells as the released guide's own fill.sh prints them over the translation ef097ccaafd436e2… (all of the seat's roots in one cut). By AI agents, Wed Nov 11 2026. No macro, syntax, notation, axiom, sorry.
-/
import Derived.Test.YtcmfnlleikcpnaaGreatChecked
import GoSem.Claim
import GoSem.ClaimJoined
import GoSem.ClaimMapViews
import Derived.JoinedTies
import Derived.KernelRfl
namespace Go.Proofs.YtcmfnlleikcpnaaGreat
/- THE CELL 'sum', in the pinned program and in every row, IS THE sha256 OF THE DUMP (.gsa) THAT YtcmfnlleikcpnaaGreatProg.lean LOADS. Nothing in Lean hashes anything: it is a label: what it is worth is what the hold of that sum in a sandbox is worth. -/
noncomputable def Tryz.pinned : Pinned := { name := "ytcmfnlleikcpnaagreat", sum := "ef097ccaafd436e2bc3df757f3d8c680603ecebdc87307d5782eb15d40a2c779", checked := Tryz.checked }
namespace Rows
def none {H : Type} : Left H := { results := [], args := [] }

/-- 'laws.FnExactBookLine': WHATEVER THE INPUT: true; the input reads as it did. -/
def fnExactBookLineSpec : ChangeSpec := { name := "fnExactBookLine", fn := fun _ => fun
  | [d1, d2, d3] => { results := [.lit (.bool true)], args := [d1, d2, d3] }
  | _ => none }
def fnExactBookLineRow : OpenClaim := { program := "ytcmfnlleikcpnaagreat", sum := "ef097ccaafd436e2bc3df757f3d8c680603ecebdc87307d5782eb15d40a2c779", func := "loop.example/g00926/laws.FnExactBookLine", spec := "fnExactBookLine", apart := false }
def FnExactBookLineSaid : Prop := fnExactBookLineRow.holds Tryz.pinned (OpenSpec.ofChange fnExactBookLineSpec)

/-- ITS FALSE NEIGHBOUR: 'it returns false'. Refute it at one input. -/
def fnExactBookLineWrong : ChangeSpec := { name := "fnExactBookLine", fn := fun _ => fun
  | [d1, d2, d3] => { results := [.lit (.bool false)], args := [d1, d2, d3] }
  | _ => none }
def FnExactBookLineWrongFalsely : Prop := fnExactBookLineRow.holds Tryz.pinned (OpenSpec.ofChange fnExactBookLineWrong)

/-- 'laws.FnExactAddResult': WHATEVER THE INPUT: true; the input reads as it did. -/
def fnExactAddResultSpec : ChangeSpec := { name := "fnExactAddResult", fn := fun _ => fun
  | [d1, d2, d3, d4] => { results := [.lit (.bool true)], args := [d1, d2, d3, d4] }
  | _ => none }
def fnExactAddResultRow : OpenClaim := { program := "ytcmfnlleikcpnaagreat", sum := "ef097ccaafd436e2bc3df757f3d8c680603ecebdc87307d5782eb15d40a2c779", func := "loop.example/g00926/laws.FnExactAddResult", spec := "fnExactAddResult", apart := false }
def FnExactAddResultSaid : Prop := fnExactAddResultRow.holds Tryz.pinned (OpenSpec.ofChange fnExactAddResultSpec)

/-- ITS FALSE NEIGHBOUR: 'it returns false'. Refute it at one input. -/
def fnExactAddResultWrong : ChangeSpec := { name := "fnExactAddResult", fn := fun _ => fun
  | [d1, d2, d3, d4] => { results := [.lit (.bool false)], args := [d1, d2, d3, d4] }
  | _ => none }
def FnExactAddResultWrongFalsely : Prop := fnExactAddResultRow.holds Tryz.pinned (OpenSpec.ofChange fnExactAddResultWrong)

/-- 'laws.FnExactAddGame': WHATEVER THE INPUT: true; the input reads as it did. -/
def fnExactAddGameSpec : ChangeSpec := { name := "fnExactAddGame", fn := fun _ => fun
  | [d1, d2] => { results := [.lit (.bool true)], args := [d1, d2] }
  | _ => none }
def fnExactAddGameRow : OpenClaim := { program := "ytcmfnlleikcpnaagreat", sum := "ef097ccaafd436e2bc3df757f3d8c680603ecebdc87307d5782eb15d40a2c779", func := "loop.example/g00926/laws.FnExactAddGame", spec := "fnExactAddGame", apart := false }
def FnExactAddGameSaid : Prop := fnExactAddGameRow.holds Tryz.pinned (OpenSpec.ofChange fnExactAddGameSpec)

/-- ITS FALSE NEIGHBOUR: 'it returns false'. Refute it at one input. -/
def fnExactAddGameWrong : ChangeSpec := { name := "fnExactAddGame", fn := fun _ => fun
  | [d1, d2] => { results := [.lit (.bool false)], args := [d1, d2] }
  | _ => none }
def FnExactAddGameWrongFalsely : Prop := fnExactAddGameRow.holds Tryz.pinned (OpenSpec.ofChange fnExactAddGameWrong)

/-- 'laws.FnBookLines': WHATEVER THE INPUT: true; the input reads as it did. -/
def fnBookLinesSpec : ChangeSpec := { name := "fnBookLines", fn := fun _ => fun
  | [d] => { results := [.lit (.bool true)], args := [d] }
  | _ => none }
def fnBookLinesRow : OpenClaim := { program := "ytcmfnlleikcpnaagreat", sum := "ef097ccaafd436e2bc3df757f3d8c680603ecebdc87307d5782eb15d40a2c779", func := "loop.example/g00926/laws.FnBookLines", spec := "fnBookLines", apart := false }
def FnBookLinesSaid : Prop := fnBookLinesRow.holds Tryz.pinned (OpenSpec.ofChange fnBookLinesSpec)

/-- ITS FALSE NEIGHBOUR: 'it returns false'. Refute it at one input. -/
def fnBookLinesWrong : ChangeSpec := { name := "fnBookLines", fn := fun _ => fun
  | [d] => { results := [.lit (.bool false)], args := [d] }
  | _ => none }
def FnBookLinesWrongFalsely : Prop := fnBookLinesRow.holds Tryz.pinned (OpenSpec.ofChange fnBookLinesWrong)

/-- 'laws.FnBookGames': WHATEVER THE INPUT: true; the input reads as it did. -/
def fnBookGamesSpec : ChangeSpec := { name := "fnBookGames", fn := fun _ => fun
  | [d] => { results := [.lit (.bool true)], args := [d] }
  | _ => none }
def fnBookGamesRow : OpenClaim := { program := "ytcmfnlleikcpnaagreat", sum := "ef097ccaafd436e2bc3df757f3d8c680603ecebdc87307d5782eb15d40a2c779", func := "loop.example/g00926/laws.FnBookGames", spec := "fnBookGames", apart := false }
def FnBookGamesSaid : Prop := fnBookGamesRow.holds Tryz.pinned (OpenSpec.ofChange fnBookGamesSpec)

/-- ITS FALSE NEIGHBOUR: 'it returns false'. Refute it at one input. -/
def fnBookGamesWrong : ChangeSpec := { name := "fnBookGames", fn := fun _ => fun
  | [d] => { results := [.lit (.bool false)], args := [d] }
  | _ => none }
def FnBookGamesWrongFalsely : Prop := fnBookGamesRow.holds Tryz.pinned (OpenSpec.ofChange fnBookGamesWrong)

/- THE SECOND FORM. 'bulk': how many values and letters a reading holds, each counted each time it is reached (what is shared counts as often as it is met; a slice's spare places count too). A statement '..UptoSaid' is the law's where the arguments, and the package variables that the reading takes, are together of bulk at most 1048576: NARROWER than '..Said'. Prove '..Said' where nothing that the law and all that it calls make is longer than what came in: it says more and counts as full. Else prove '..UptoSaid'. A law counts once. -/
mutual
def uptoBulk {H : Type} : DataW H → Nat
  | .lit (.string bytes) => bytes.length + 1
  | .lit _ => 1
  | .nil => 1
  | .ptr d => uptoBulk d + 1
  | .slice elems spare => uptoBulkAll elems + uptoBulkAll spare + 1
  | .agg parts => uptoBulkAll parts + 1
  | .iface _ d => uptoBulk d + 1
  | .map entries => uptoBulkEntries entries + 1
  | .held _ => 1
def uptoBulkAll {H : Type} : List (DataW H) → Nat
  | [] => 0
  | d :: r => uptoBulk d + uptoBulkAll r
def uptoBulkEntries {H : Type} : List (Lit × DataW H) → Nat
  | [] => 0
  | x :: r => uptoBulkEntry x + uptoBulkEntries r
def uptoBulkEntry {H : Type} : Lit × DataW H → Nat
  | (.string bytes, d) => bytes.length + uptoBulk d + 1
  | (_, d) => uptoBulk d + 1
 end
def uptoSmall : (H : Type) → List (DataW H) → Bool := fun _ ds => decide (uptoBulkAll ds ≤ 1048576)
def OpenSpec.upto (s : _root_.Go.ChangeSpec) : _root_.Go.OpenSpec := { _root_.Go.OpenSpec.ofChange s with cond := some uptoSmall }

/-- 'laws.FnExactBookLine', WHERE WHAT IT READS IS OF BULK AT MOST 1048576: true; the input reads as it did. -/
def fnExactBookLineUptoRow : OpenClaim := { program := "ytcmfnlleikcpnaagreat", sum := "ef097ccaafd436e2bc3df757f3d8c680603ecebdc87307d5782eb15d40a2c779", func := "loop.example/g00926/laws.FnExactBookLine", spec := "fnExactBookLine", apart := false, narrowed := true }
def FnExactBookLineUptoSaid : Prop := fnExactBookLineUptoRow.holds Tryz.pinned (OpenSpec.upto fnExactBookLineSpec)

/-- 'laws.FnExactAddResult', WHERE WHAT IT READS IS OF BULK AT MOST 1048576: true; the input reads as it did. -/
def fnExactAddResultUptoRow : OpenClaim := { program := "ytcmfnlleikcpnaagreat", sum := "ef097ccaafd436e2bc3df757f3d8c680603ecebdc87307d5782eb15d40a2c779", func := "loop.example/g00926/laws.FnExactAddResult", spec := "fnExactAddResult", apart := false, narrowed := true }
def FnExactAddResultUptoSaid : Prop := fnExactAddResultUptoRow.holds Tryz.pinned (OpenSpec.upto fnExactAddResultSpec)

/-- 'laws.FnExactAddGame', WHERE WHAT IT READS IS OF BULK AT MOST 1048576: true; the input reads as it did. -/
def fnExactAddGameUptoRow : OpenClaim := { program := "ytcmfnlleikcpnaagreat", sum := "ef097ccaafd436e2bc3df757f3d8c680603ecebdc87307d5782eb15d40a2c779", func := "loop.example/g00926/laws.FnExactAddGame", spec := "fnExactAddGame", apart := false, narrowed := true }
def FnExactAddGameUptoSaid : Prop := fnExactAddGameUptoRow.holds Tryz.pinned (OpenSpec.upto fnExactAddGameSpec)

/-- 'laws.FnBookLines', WHERE WHAT IT READS IS OF BULK AT MOST 1048576: true; the input reads as it did. -/
def fnBookLinesUptoRow : OpenClaim := { program := "ytcmfnlleikcpnaagreat", sum := "ef097ccaafd436e2bc3df757f3d8c680603ecebdc87307d5782eb15d40a2c779", func := "loop.example/g00926/laws.FnBookLines", spec := "fnBookLines", apart := false, narrowed := true }
def FnBookLinesUptoSaid : Prop := fnBookLinesUptoRow.holds Tryz.pinned (OpenSpec.upto fnBookLinesSpec)

/-- 'laws.FnBookGames', WHERE WHAT IT READS IS OF BULK AT MOST 1048576: true; the input reads as it did. -/
def fnBookGamesUptoRow : OpenClaim := { program := "ytcmfnlleikcpnaagreat", sum := "ef097ccaafd436e2bc3df757f3d8c680603ecebdc87307d5782eb15d40a2c779", func := "loop.example/g00926/laws.FnBookGames", spec := "fnBookGames", apart := false, narrowed := true }
def FnBookGamesUptoSaid : Prop := fnBookGamesUptoRow.holds Tryz.pinned (OpenSpec.upto fnBookGamesSpec)

end Rows
end Go.Proofs.YtcmfnlleikcpnaaGreat

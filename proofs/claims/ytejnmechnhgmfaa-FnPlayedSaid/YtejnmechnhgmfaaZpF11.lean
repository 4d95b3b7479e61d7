/- A framework for walks: the greater and the lesser of two numbers. -/
import Derived.Test.YtejnmechnhgmfaaZpF10
import Derived.Laws.StructEq
set_option linter.unusedSimpArgs false
set_option linter.unusedVariables false
namespace Go.Proofs.Ytejnmechnhgmfaa
open Go.RowKit
section
variable {P : Program}
theorem p_eqlS {n : Nat} {l : Fr} {dst : Option Tmp} {ty : TypeId} {pos : String} {af : Array Edge} {gd : Option (Nat × Bool)} {x y : Operand} {t t' : TypeId} {xs ys : Array Value} {r : Bool} (hg : P.eqGuardType P.depth t = false) (he : ∀ w, (Op.equalIn 10000 t (.agg xs) (.agg ys)).run P w = .ok r w) (hx : opd l x = some (.agg xs)) (hy : opd l y = some (.agg ys)) :
    OpP P n l ⟨dst, .binOp .eql t x y t', ty, pos, af, gd⟩ (.bool r) := fun a w ha => by
  simp [execOp, ha.eval hx, ha.eval hy, run_eqGuard_agg w .eql t x y xs ys hg, run_eql_struct, he]
end
end Go.Proofs.Ytejnmechnhgmfaa

/- A framework for walks: the greater and the lesser of two numbers. -/
import Derived.Test.YtinkeciedmjjmaaF10
import Derived.Laws.StructEq
set_option linter.unusedSimpArgs false
set_option linter.unusedVariables false
namespace Go.Proofs.Ytinkeciedmjjmaa
open Go.RowKit
section
variable {P : Program}
theorem src_intsN {lo : Nat} {B : List Nat} {u : World} {os : List Own} {tx e' e : TypeId} {m c : Nat} {A : Option Addr} {xs : List Int} (hk : P.underlying tx = some (.slice e')) (hm : xs.length = m) (h : (Ty.ints e xs).ok u (.slice A m c)) : ∀ w, St lo B u w os → Src P 1 tx (.slice A m c) m (ints_ xs) w := by
  subst hm; exact src_ints hk h
theorem p_max {n : Nat} {l : Fr} {dst : Option Tmp} {ty : TypeId} {pos : String} {af : Array Edge} {gd : Option (Nat × Bool)} {x y : Operand} {k : IntKind} {i j : Int} {ts : Array TypeId} (hx : opd l x = some (.int k i)) (hy : opd l y = some (.int k j)) :
    OpP P n l ⟨dst, .call { callee := .builtin .max, args := #[x, y], argTypes := ts }, ty, pos, af, gd⟩ (.int k (if i < j then j else i)) := fun a w ha => by
  simp only [execOp, resolve, invoke, Sem.run_bind, Sem.run_pure, Result.andThen_ok, List.map_toArray, List.map_cons, List.map_nil, ha.eval hx, ha.eval hy]
  simp [builtin, Builtin.max_, Builtin.max2]
theorem p_min {n : Nat} {l : Fr} {dst : Option Tmp} {ty : TypeId} {pos : String} {af : Array Edge} {gd : Option (Nat × Bool)} {x y : Operand} {k : IntKind} {i j : Int} {ts : Array TypeId} (hx : opd l x = some (.int k i)) (hy : opd l y = some (.int k j)) :
    OpP P n l ⟨dst, .call { callee := .builtin .min, args := #[x, y], argTypes := ts }, ty, pos, af, gd⟩ (.int k (if j < i then j else i)) := fun a w ha => by
  simp only [execOp, resolve, invoke, Sem.run_bind, Sem.run_pure, Result.andThen_ok, List.map_toArray, List.map_cons, List.map_nil, ha.eval hx, ha.eval hy]
  simp [builtin, Builtin.min_, Builtin.min2]
theorem p_eqlS {n : Nat} {l : Fr} {dst : Option Tmp} {ty : TypeId} {pos : String} {af : Array Edge} {gd : Option (Nat × Bool)} {x y : Operand} {t t' : TypeId} {xs ys : Array Value} {r : Bool} (hg : P.eqGuardType P.depth t = false) (he : ∀ w, (Op.equalIn 10000 t (.agg xs) (.agg ys)).run P w = .ok r w) (hx : opd l x = some (.agg xs)) (hy : opd l y = some (.agg ys)) :
    OpP P n l ⟨dst, .binOp .eql t x y t', ty, pos, af, gd⟩ (.bool r) := fun a w ha => by
  simp [execOp, ha.eval hx, ha.eval hy, run_eqGuard_agg w .eql t x y xs ys hg, run_eql_struct, he]
theorem p_neqS {n : Nat} {l : Fr} {dst : Option Tmp} {ty : TypeId} {pos : String} {af : Array Edge} {gd : Option (Nat × Bool)} {x y : Operand} {t t' : TypeId} {xs ys : Array Value} {r : Bool} (hg : P.eqGuardType P.depth t = false) (he : ∀ w, (Op.equalIn 10000 t (.agg xs) (.agg ys)).run P w = .ok r w) (hx : opd l x = some (.agg xs)) (hy : opd l y = some (.agg ys)) :
    OpP P n l ⟨dst, .binOp .neq t x y t', ty, pos, af, gd⟩ (.bool (!r)) := fun a w ha => by
  simp [execOp, ha.eval hx, ha.eval hy, run_eqGuard_agg w .neq t x y xs ys hg, run_neq_struct, he]
end
end Go.Proofs.Ytinkeciedmjjmaa

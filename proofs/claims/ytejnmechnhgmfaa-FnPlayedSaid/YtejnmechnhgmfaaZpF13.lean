/- A framework for walks: the objects written out; rows that go out as cut ones. -/
import Derived.Test.YtejnmechnhgmfaaZpF12
set_option linter.unusedSimpArgs false
set_option linter.unusedVariables false
namespace Go.Proofs.Ytejnmechnhgmfaa
open Go.RowKit
section
variable {P : Program} {n lo : Nat} {B : List Nat} {l : Fr} {os : List Own} {u : World}
theorem Js.is {Q : Exit → Act → World → Prop} {cs : List Code} {os' : List Own} (h : os = os') (k : Js P n lo B Q cs l os' u) : Js P n lo B Q cs l os u := h ▸ k
theorem ro_nil {w : World} {e : TypeId} {xs : List Int} (h : [] = xs) : (Ty.ro e xs).own w (.slice none 0 0) [] := by
  subst h; exact ⟨rfl, rfl, .inl ⟨rfl, rfl⟩⟩
theorem ro_ownR {w : World} {e : TypeId} {v : Value} {m : Nat} {xs ys : List Int} (h : w.ownsRow 0 e 1 v m (ints_ ys)) (hx : ys = xs) : (Ty.ro e xs).own w v v.ownBlock.toList := by
  subst hx
  have hl : m = ys.length := by have := h.1; simpa [ints_] using this.symm
  subst hl
  refine ⟨rfl, by simp [ints_], ?_⟩
  rcases h.2 with ⟨h2, h3⟩ | ⟨g, c, cur, h2, _, hg, h4, h5, h6, h7⟩
  · exact .inl ⟨h2, h3⟩
  · exact .inr ⟨g, c, cur, h2, hg, h4, h5, by rw [h6]; omega, by rw [Nat.mul_one] at h7; exact h7⟩
end
end Go.Proofs.Ytejnmechnhgmfaa

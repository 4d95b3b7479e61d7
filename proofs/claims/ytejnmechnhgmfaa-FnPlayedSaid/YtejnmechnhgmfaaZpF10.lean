/- A framework for walks: lists of structs that are written in place. -/
import Derived.Test.YtejnmechnhgmfaaZpF9
set_option linter.unusedSimpArgs false
set_option linter.unusedVariables false
namespace Go.Proofs.Ytejnmechnhgmfaa
open Go.RowKit
section
variable {P : Program} {n lo : Nat} {B : List Nat} {Q : Exit → Act → World → Prop} {cs : List Code} {l : Fr} {os : List Own} {u : World} {K : Act → World → Prop} {ops : Array Oper} {rest : List Oper}
theorem Js.ex3 {F : List Nat → List Nat → List Nat → List Own} (ho : ∀ w, St lo B u w os → ∃ a b c, St lo B u w (F a b c)) (k : ∀ a b c, Js P n lo B Q cs l (F a b c) u) : Js P n lo B Q cs l os u := fun a w ha hw => by
  obtain ⟨x, y, z, h⟩ := ho w hw
  exact k x y z a w ha h
theorem JL.ex3 {F : List Nat → List Nat → List Nat → List Own} (ho : ∀ w, St lo B u w os → ∃ a b c, St lo B u w (F a b c)) (k : ∀ a b c, JL P n lo B K ops rest l (F a b c) u) : JL P n lo B K ops rest l os u := fun a w ha hw => by
  obtain ⟨x, y, z, h⟩ := ho w hw
  exact k x y z a w ha h
theorem St.elemS {α : Type} (F : α → List Ty) {w : World} {i m k : Nat} {xs : List α} {y : α} {vs c : List Value} {f : List Nat} (hF : ∀ a, (F a).length = m) (hi : os[i]? = some (ownC (xs.flatMap F) vs f)) (hy : xs[k]? = some y) (hc : (vs.drop (0 + k * m)).take m = c)
    (hw : St lo B u w os) : ∃ f1 f2 f3, St lo B u w (ownC (F y) c f1 :: ownC ((xs.drop (k + 1)).flatMap F) (vs.drop (k * m + m)) f2 :: ownC ((xs.take k).flatMap F) (vs.take (k * m)) f3 :: os.eraseIdx i) := by
  have h1 := hw.front hi
  obtain ⟨hk, hy'⟩ := List.getElem?_eq_some_iff.1 hy
  have e1 : xs = xs.take k ++ (y :: xs.drop (k + 1)) := by rw [← hy', ← List.drop_eq_getElem_cons hk, List.take_append_drop]
  have l1 : ((xs.take k).flatMap F).length = k * m := by
    rw [flat_len' F m hF, List.length_take, Nat.min_eq_left (by omega)]
  have hl : vs.length = (xs.flatMap F).length := cellsOwn.length (w := w) (fp := f) (h1.prs (ownC (xs.flatMap F) vs f) (List.mem_cons_self ..))
  have l0 : (xs.flatMap F).length = xs.length * m := flat_len' F m hF xs
  have lb : (k + 1) * m ≤ xs.length * m := Nat.mul_le_mul_right m hk
  rw [Nat.succ_mul] at lb
  have e2 : xs.flatMap F = (xs.take k).flatMap F ++ (F y ++ (xs.drop (k + 1)).flatMap F) := by
    conv => lhs; rw [e1]
    simp
  have e3 : vs = vs.take (k * m) ++ (c ++ vs.drop (k * m + m)) := by
    rw [← hc, Nat.zero_add]
    rw [← List.drop_drop, List.take_append_drop, List.take_append_drop]
  rw [e2] at h1
  rw [e3] at h1
  obtain ⟨g1, g2, h2⟩ := h1.part (by rw [List.length_take, l1]; omega)
  have h3 := h2.front (i := 1) (o := ownC _ _ g2) rfl
  obtain ⟨g3, g4, h4⟩ := h3.part (by rw [← hc, hF, List.length_take, List.length_drop]; omega)
  exact ⟨g3, g4, g1, h4⟩
theorem St.unpack2 {w : World} {i : Nat} {o o1 o2 : Own} (hi : os[i]? = some o) (hc : ∀ w, o.pr w → o1.pr w ∧ o2.pr w ∧ o.fp = o1.fp ++ o2.fp) (hw : St lo B u w os) : St lo B u w (o1 :: o2 :: os.eraseIdx i) := by
  have h1 := hw.front hi
  obtain ⟨a, b, c⟩ := hc w (h1.prs o (by simp))
  refine h1.conv (fun x hx => ?_) ?_
  · simp only [List.mem_cons] at hx
    rcases hx with rfl | rfl | hx
    · exact a
    · exact b
    · exact h1.prs x (by simp [hx])
  · simp [c]
theorem ints_open {w : World} {e : TypeId} {xs : List Int} {A : Option Addr} {c m : Nat} {fp : List Nat} (h : (Ty.ints e xs).own w (.slice A m c) fp) : (rowO e 1 (.slice A m c) m (ints_ xs) []).pr w ∧ fp = (rowO e 1 (.slice A m c) m (ints_ xs) []).fp := by
  obtain ⟨A', c', he, _, _⟩ := sl_form ((Ty.ints e xs).ownok h)
  obtain ⟨_, vs, f, h3, h4, h5⟩ := h
  obtain ⟨rfl, rfl⟩ := ints_cells h5
  injection he with _ he _
  subst he
  exact ⟨h3, by simpa [rowO] using h4⟩
theorem elem_in {w : World} {α : Type} (F : α → List Ty) {m k : Nat} {xs : List α} {vs : List Value} (hF : ∀ a, (F a).length = m) (h : cellsOk w (xs.flatMap F) vs) (hk : k < xs.length) : 0 + k * m + m ≤ vs.length := by
  rw [h.length, flat_len' F m hF, Nat.zero_add]
  have : (k + 1) * m ≤ xs.length * m := Nat.mul_le_mul_right m hk
  rw [Nat.succ_mul] at this
  exact this
end
end Go.Proofs.Ytejnmechnhgmfaa

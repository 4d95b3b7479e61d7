/- A framework for walks: lists of structs that are written in place. -/
import Derived.Test.YtinkeciedmjjmaaF9
set_option linter.unusedSimpArgs false
set_option linter.unusedVariables false
namespace Go.Proofs.Ytinkeciedmjjmaa
open Go.RowKit
section
variable {P : Program} {n lo : Nat} {B : List Nat} {Q : Exit → Act → World → Prop} {cs : List Code} {l : Fr} {os : List Own} {u : World} {K : Act → World → Prop} {ops : Array Oper} {rest : List Oper}
theorem Js.ex3 {F : List Nat → List Nat → List Nat → List Own} (ho : ∀ w, St lo B u w os → ∃ a b c, St lo B u w (F a b c)) (k : ∀ a b c, Js P n lo B Q cs l (F a b c) u) : Js P n lo B Q cs l os u := fun a w ha hw => by
  obtain ⟨x, y, z, h⟩ := ho w hw
  exact k x y z a w ha h
theorem JL.ex3 {F : List Nat → List Nat → List Nat → List Own} (ho : ∀ w, St lo B u w os → ∃ a b c, St lo B u w (F a b c)) (k : ∀ a b c, JL P n lo B K ops rest l (F a b c) u) : JL P n lo B K ops rest l os u := fun a w ha hw => by
  obtain ⟨x, y, z, h⟩ := ho w hw
  exact k x y z a w ha h
/-- an element is taken out of a list -/
theorem St.elemS {α : Type} (F : α → List Ty) {w : World} {i m k : Nat} {xs : List α} {y : α} {vs c : List Value} {f : List Nat} (hF : ∀ a, (F a).length = m) (hi : os[i]? = some (ownC (xs.flatMap F) vs f)) (hy : xs[k]? = some y) (hc : (vs.drop (0 + k * m)).take m = c)
    (hw : St lo B u w os) : ∃ f1 f2 f3, St lo B u w (ownC (F y) c f1 :: ownC ((xs.drop (k + 1)).flatMap F) (vs.drop (k * m + m)) f2 :: ownC ((xs.take k).flatMap F) (vs.take (k * m)) f3 :: os.eraseIdx i) := by
  have h1 := hw.front hi
  obtain ⟨hk, hy'⟩ := List.getElem?_eq_some_iff.1 hy
  have e1 : xs = xs.take k ++ (y :: xs.drop (k + 1)) := by rw [← hy', ← List.drop_eq_getElem_cons hk, List.take_append_drop]
  have l1 : ((xs.take k).flatMap F).length = k * m := by
    rw [flat_len' F m hF, List.length_take, Nat.min_eq_left (by omega)]
  have hl : vs.length = (xs.flatMap F).length := cellsOwn.length (w := w) (fp := f) (h1.prs (ownC (xs.flatMap F) vs f) (List.mem_cons_self ..))
  have l0 : (xs.flatMap F).length = xs.length * m := flat_len' F m hF xs
  have lb : (k + 1) * m ≤ xs.length * m := Nat.mul_le_mul_right m hk
  rw [Nat.succ_mul] at lb
  have e2 : xs.flatMap F = (xs.take k).flatMap F ++ (F y ++ (xs.drop (k + 1)).flatMap F) := by
    conv => lhs; rw [e1]
    simp
  have e3 : vs = vs.take (k * m) ++ (c ++ vs.drop (k * m + m)) := by
    rw [← hc, Nat.zero_add]
    rw [← List.drop_drop, List.take_append_drop, List.take_append_drop]
  rw [e2] at h1
  rw [e3] at h1
  obtain ⟨g1, g2, h2⟩ := h1.part (by rw [List.length_take, l1]; omega)
  have h3 := h2.front (i := 1) (o := ownC _ _ g2) rfl
  obtain ⟨g3, g4, h4⟩ := h3.part (by rw [← hc, hF, List.length_take, List.length_drop]; omega)
  exact ⟨g3, g4, g1, h4⟩
/-- what one object holds becomes two -/
theorem St.unpack2 {w : World} {i : Nat} {o o1 o2 : Own} (hi : os[i]? = some o) (hc : ∀ w, o.pr w → o1.pr w ∧ o2.pr w ∧ o.fp = o1.fp ++ o2.fp) (hw : St lo B u w os) : St lo B u w (o1 :: o2 :: os.eraseIdx i) := by
  have h1 := hw.front hi
  obtain ⟨a, b, c⟩ := hc w (h1.prs o (by simp))
  refine h1.conv (fun x hx => ?_) ?_
  · simp only [List.mem_cons] at hx
    rcases hx with rfl | rfl | hx
    · exact a
    · exact b
    · exact h1.prs x (by simp [hx])
  · simp [c]
/-- what one object holds is of other types as well -/
theorem St.retype {w : World} {i : Nat} {Ts Us : List Ty} {vs us : List Value} {f : List Nat} (hi : os[i]? = some (ownC Ts vs f)) (hc : ∀ w, cellsOwn w Ts vs f → cellsOwn w Us us f) (hw : St lo B u w os) : St lo B u w (ownC Us us f :: os.eraseIdx i) := by
  have h1 := hw.front hi
  refine h1.conv (fun x hx => ?_) (by simp [ownC])
  rcases List.mem_cons.1 hx with rfl | hx
  · exact hc w (h1.prs (ownC Ts vs f) (by simp))
  · exact h1.prs x (by simp [hx])
theorem ints_open {w : World} {e : TypeId} {xs : List Int} {A : Option Addr} {c m : Nat} {fp : List Nat} (h : (Ty.ints e xs).own w (.slice A m c) fp) : (rowO e 1 (.slice A m c) m (ints_ xs) []).pr w ∧ fp = (rowO e 1 (.slice A m c) m (ints_ xs) []).fp := by
  obtain ⟨A', c', he, _, _⟩ := sl_form ((Ty.ints e xs).ownok h)
  obtain ⟨_, vs, f, h3, h4, h5⟩ := h
  obtain ⟨rfl, rfl⟩ := ints_cells h5
  injection he with _ he _
  subst he
  exact ⟨h3, by simpa [rowO] using h4⟩
/-- an element is put back at its place -/
theorem St.closeE {α : Type} (F : α → List Ty) {w : World} {m k : Nat} {xs : List α} {y : α} {vs c vs' : List Value} {f1 f2 f3 : List Nat} (hk : k < xs.length) (hc : c.length = m) (hv : setL vs (0 + k * m) c = vs')
    (hw : St lo B u w (ownC ((xs.take k).flatMap F) (vs.take (k * m)) f3 :: ownC (F y) c f1 :: ownC ((xs.drop (k + 1)).flatMap F) (vs.drop (k * m + m)) f2 :: os)) : St lo B u w (ownC ((xs.set k y).flatMap F) vs' (f3 ++ f1 ++ f2) :: os) := by
  have h := hw.join.join
  have e1 : (xs.take k).flatMap F ++ F y ++ (xs.drop (k + 1)).flatMap F = (xs.set k y).flatMap F := by
    rw [List.set_eq_take_append_cons_drop, if_pos hk]; simp
  have e2 : vs.take (k * m) ++ c ++ vs.drop (k * m + m) = vs' := by
    rw [← hv]; unfold setL; rw [Nat.zero_add, hc]
  rw [e1, e2] at h
  exact h
theorem setL_same {vs c : List Value} {o m : Nat} (h : (vs.drop o).take m = c) (hc : c.length = m) : setL vs o c = vs := by
  unfold setL; rw [hc, ← h, List.append_assoc, ← List.drop_drop, List.take_append_drop, List.take_append_drop]
theorem setL_twice {vs c d : List Value} {o : Nat} (h : c.length = d.length) (hl : o + c.length ≤ vs.length) : setL (setL vs o c) o d = setL vs o d := by
  unfold setL
  have h1 : (vs.take o).length = o := by rw [List.length_take]; omega
  rw [List.append_assoc (vs.take o), List.take_append_of_le_length (by omega), List.take_of_length_le (by omega)]
  congr 1
  rw [List.drop_append, h1, List.drop_eq_nil_of_le (by omega), List.nil_append, List.drop_append, List.drop_eq_nil_of_le (by omega), List.nil_append, ← h]
  rw [show o + c.length - o - c.length = 0 by omega, List.drop_zero]
theorem setL_at {vs c : List Value} {o j m : Nat} {x : Value} {c' : List Value} (h : (vs.drop o).take m = c) (hj : j < m) (hl : o + m ≤ vs.length) (hs : c.set j x = c') : setL vs (o + j) [x] = setL vs o c' := by
  subst h
  subst hs
  have h1 : ((vs.drop o).take m).length = m := by rw [List.length_take, List.length_drop]; omega
  unfold setL
  rw [List.length_set, h1, List.set_eq_take_append_cons_drop, if_pos (by omega)]
  have a1 : vs.take (o + j) = vs.take o ++ ((vs.drop o).take m).take j := by
    rw [List.take_take, Nat.min_eq_left (by omega), List.take_add]
  have a2 : vs.drop (o + j + [x].length) = ((vs.drop o).take m).drop (j + 1) ++ vs.drop (o + m) := by
    rw [← List.take_append_drop (m - (j + 1)) (vs.drop (o + j + [x].length))]
    rw [List.drop_take, List.drop_drop, List.drop_drop]
    simp only [List.length_singleton]
    rw [show o + j + 1 + (m - (j + 1)) = o + m by omega, Nat.add_assoc o j 1]
  rw [a1, a2]
  simp
theorem setL_len {vs c : List Value} {o : Nat} (hl : o + c.length ≤ vs.length) : (setL vs o c).length = vs.length := by
  unfold setL; simp; omega
theorem setL_get {vs c : List Value} {o m : Nat} (hc : c.length = m) (hl : o + m ≤ vs.length) : ((setL vs o c).drop o).take m = c := by
  unfold setL
  rw [List.append_assoc, List.drop_append_of_le_length (by rw [List.length_take]; omega), List.drop_eq_nil_of_le (by rw [List.length_take]; omega), List.nil_append, List.take_append_of_le_length (by omega), List.take_of_length_le (by omega)]
theorem elem_in {w : World} {α : Type} (F : α → List Ty) {m k : Nat} {xs : List α} {vs : List Value} (hF : ∀ a, (F a).length = m) (h : cellsOk w (xs.flatMap F) vs) (hk : k < xs.length) : 0 + k * m + m ≤ vs.length := by
  rw [h.length, flat_len' F m hF, Nat.zero_add]
  have : (k + 1) * m ≤ xs.length * m := Nat.mul_le_mul_right m hk
  rw [Nat.succ_mul] at this
  exact this
/-- a list of structs of the call's own is read by others -/
theorem srow_ok {α : Type} (F : List α → List Ty) {w : World} {e : TypeId} {sz m : Nat} {v : Value} {vs : List Value} {xs : List α} {f : List Nat} (hr : w.ownsRow 0 e sz v m vs) (hc : cellsOwn w (F xs) vs f) (hl : (F xs).length = xs.length * sz) (hsz : 0 < sz := by decide) :
    (Ty.sl e sz xs.length (F xs)).ok w v := (Ty.sl e sz xs.length (F xs)).ownok (srow_own F hr hc hl rfl hsz)
end
end Go.Proofs.Ytinkeciedmjjmaa

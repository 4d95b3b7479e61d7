/- A framework for walks: lists of structs that are the call's own. -/
import Derived.Test.YtejnmechnhgmfaaZpF8
set_option linter.unusedSimpArgs false
set_option linter.unusedVariables false
namespace Go.Proofs.Ytejnmechnhgmfaa
open Go.RowKit
def RoRow (w : World) (e : TypeId) (v : Value) (n : Nat) (vs : List Value) : Prop :=
  vs.length = n ∧ ((v = .slice none 0 0 ∧ n = 0) ∨ ∃ g c cur, v = .slice (some ⟨g, 0, none⟩) n c ∧ w.heap[g]? = some (.cells cur e (0, 0)) ∧ n ≤ c ∧ c ≤ maxLen ∧ c ≤ cur.size ∧ cur.toList.take n = vs)
theorem RoRow.loc {w w' : World} {e : TypeId} {v : Value} {n : Nat} {vs : List Value} (h : RoRow w e v n vs) (k : ∀ b ∈ v.ownBlock.toList, w'.heap[b]? = w.heap[b]?) : RoRow w' e v n vs := by
  refine ⟨h.1, ?_⟩
  rcases h.2 with h2 | ⟨g, c, cur, rfl, hg, r⟩
  · exact .inl h2
  · exact .inr ⟨g, c, cur, rfl, by rw [k g (by simp [Value.ownBlock])]; exact hg, r⟩
theorem RoRow.form {w : World} {e : TypeId} {v : Value} {n : Nat} {vs : List Value} (h : RoRow w e v n vs) : ∃ A c, v = .slice A n c ∧ n ≤ c ∧ c ≤ 9223372036854775807 := by
  rcases h.2 with ⟨rfl, rfl⟩ | ⟨g, c, cur, rfl, hg, h1, h2, _⟩
  · exact ⟨_, _, rfl, Nat.le_refl _, by omega⟩
  · exact ⟨_, _, rfl, h1, h2⟩
theorem RoRow.ok {w : World} {e : TypeId} {v : Value} {n : Nat} {xs : List Int} (h : RoRow w e v n (ints_ xs)) : (Ty.ints e xs).ok w v := by
  have hl : n = xs.length := by rw [← h.1]; simp [ints_]
  subst hl
  rcases h.2 with ⟨rfl, h0⟩ | ⟨g, c, cur, rfl, hg, h1, h2, h3, h4⟩
  · exact ⟨by simp, none, 0, ints_ xs, by rw [h0], by omega, by unfold maxLen; omega, (ints_own w xs).ok, fun hp => by simp [h0] at hp⟩
  · refine ⟨by simp, some ⟨g, 0, none⟩, c, ints_ xs, rfl, h1, h2, (ints_own w xs).ok, fun _ => ⟨g, 0, rfl, fun j x hj => ⟨cur, e, (0, 0), hg, ?_⟩⟩⟩
    rw [← h4, List.getElem?_take] at hj
    split at hj
    · rw [Nat.zero_add]; simpa using hj
    · simp at hj
def roO (e : TypeId) (v : Value) (n : Nat) (vs : List Value) : Own := ⟨v.ownBlock.toList, fun w => RoRow w e v n vs, fun h k => k.loc h⟩
def Ty.ro (e : TypeId) (xs : List Int) : Ty :=
  ⟨fun w v => (Ty.ints e xs).ok w v,
   fun w v fp => fp = v.ownBlock.toList ∧ RoRow w e v xs.length (ints_ xs),
   fun h x => Ty.mono _ h x,
   fun {_ _ _ _} h k => ⟨h.1, h.2.loc (fun b hb => k b (by rw [h.1]; exact hb))⟩,
   fun h => h.2.ok⟩
theorem ro_form {e : TypeId} {u : World} {v : Value} {xs : List Int} (h : (Ty.ro e xs).ok u v) : ∃ A c, v = .slice A xs.length c ∧ xs.length ≤ c ∧ c ≤ 9223372036854775807 := sl_form (show (Ty.ints e xs).ok u v from h)
theorem ro_own {w : World} {e : TypeId} {v : Value} {n : Nat} {xs ys : List Int} (h : RoRow w e v n (ints_ ys)) (hx : ys = xs) : (Ty.ro e xs).own w v v.ownBlock.toList := by
  subst hx
  have hl : n = ys.length := by rw [← h.1]; simp [ints_]
  subst hl
  exact ⟨rfl, h⟩
theorem Spl.ro (e : TypeId) (xs : List Int) : Spl (Ty.ro e xs) (fun v ow => ∃ A c, v = .slice A xs.length c ∧ ow = [roO e (.slice A xs.length c) xs.length (ints_ xs)] ∧ xs.length ≤ c ∧ c ≤ 9223372036854775807) := fun w v fp h => by
  obtain ⟨A, c, rfl, h1, h2⟩ := h.2.form
  exact ⟨_, ⟨A, c, rfl, rfl, h1, h2⟩, by simpa [roO] using h.1, fun o ho => by simp at ho; subst ho; exact h.2⟩
theorem srow_own {α : Type} (F : List α → List Ty) {w : World} {e : TypeId} {sz m : Nat} {v : Value} {vs : List Value} {xs ys : List α} {f : List Nat} (hr : w.ownsRow 0 e sz v m vs) (hc : cellsOwn w (F xs) vs f) (hl : (F xs).length = xs.length * sz) (h : xs = ys) (hsz : 0 < sz := by decide) :
    (Ty.sl e sz ys.length (F ys)).own w v (v.ownBlock.toList ++ f) := by
  subst h
  have h1 := hr.1
  have h2 := hc.length
  have hm : m = xs.length := Nat.eq_of_mul_eq_mul_right hsz (by omega)
  subst hm
  exact row_own hr hc
theorem snil_own {α : Type} (F : List α → List Ty) {w : World} {e : TypeId} {sz : Nat} {xs : List α} (h : [] = xs) (hF : F [] = [] := by rfl) : (Ty.sl e sz xs.length (F xs)).own w (.slice none 0 0) [] := by
  subst h
  rw [hF]
  exact ⟨by simp, [], [], ⟨by simp, .inl ⟨rfl, rfl⟩⟩, rfl, rfl⟩
theorem flat_len' {α β : Type} (f : α → List β) (k : Nat) (hf : ∀ a, (f a).length = k) : ∀ (l : List α), (l.flatMap f).length = l.length * k
  | [] => by simp
  | x :: l => by rw [List.flatMap_cons, List.length_append, hf, flat_len' f k hf l, List.length_cons, Nat.succ_mul, Nat.add_comm]
section
variable {P : Program} {n lo : Nat} {B : List Nat} {Q : Exit → Act → World → Prop} {cs : List Code} {l : Fr} {os : List Own} {u : World}
theorem Js.pack2 {i j : Nat} {o1 o2 : Own} (Ts : List Ty) (vs : List Value) (hi : os[i]? = some o1) (hj : (os.eraseIdx i)[j]? = some o2) (hc : ∀ w, o1.pr w → o2.pr w → cellsOwn w Ts vs (o1.fp ++ o2.fp))
    (k : ∀ f, Js P n lo B Q cs l (ownC Ts vs f :: (os.eraseIdx i).eraseIdx j) u) : Js P n lo B Q cs l os u :=
  Js.conv (os' := ownC Ts vs (o1.fp ++ o2.fp) :: (os.eraseIdx i).eraseIdx j) (fun w h => by
    have h1 := (h.front hi).front (i := j + 1) (o := o2) (by simpa using hj)
    simp only [List.eraseIdx_cons_succ] at h1
    refine h1.conv (fun o ho => ?_) ?_
    · rcases List.mem_cons.1 ho with rfl | ho
      · exact hc w (h1.prs o1 (by simp)) (h1.prs o2 (by simp))
      · exact h1.prs o (by simp [ho])
    · simp only [List.flatMap_cons, ownC]
      rw [← List.append_assoc]
      exact List.Perm.append_right _ List.perm_append_comm) (k _)
theorem Js.joinL {i j : Nat} {Ts Us Vs : List Ty} {vs us : List Value} {f g : List Nat} (hi : os[i]? = some (ownC Ts vs f)) (hj : (os.eraseIdx i)[j]? = some (ownC Us us g)) (he : Ts ++ Us = Vs)
    (k : ∀ f', Js P n lo B Q cs l (ownC Vs (vs ++ us) f' :: (os.eraseIdx i).eraseIdx j) u) : Js P n lo B Q cs l os u := by
  subst he
  exact Js.join2 hi hj (k _)
theorem Js.elemO {α : Type} (F : α → List Ty) {i m k : Nat} {xs : List α} {y : α} {vs c : List Value} {f : List Nat} (hF : ∀ a, (F a).length = m) (hi : os[i]? = some (ownC (xs.flatMap F) vs f)) (hy : xs[k]? = some y) (hc : (vs.drop (0 + k * m)).take m = c)
    (kk : ∀ f1 f2 f3, Js P n lo B Q cs l (ownC (F y) c f1 :: anyO f2 :: anyO f3 :: os.eraseIdx i) u) : Js P n lo B Q cs l os u := fun a w ha hw => by
  have h1 := hw.front hi
  obtain ⟨hk, hy'⟩ := List.getElem?_eq_some_iff.1 hy
  have e1 : xs = xs.take k ++ (y :: xs.drop (k + 1)) := by rw [← hy', ← List.drop_eq_getElem_cons hk, List.take_append_drop]
  have l1 : ((xs.take k).flatMap F).length = k * m := by
    rw [flat_len' F m hF, List.length_take, Nat.min_eq_left (by omega)]
  have hl : vs.length = (xs.flatMap F).length := cellsOwn.length (w := w) (fp := f) (h1.prs (ownC (xs.flatMap F) vs f) (List.mem_cons_self ..))
  have l0 : (xs.flatMap F).length = xs.length * m := flat_len' F m hF xs
  have lb : (k + 1) * m ≤ xs.length * m := Nat.mul_le_mul_right m hk
  rw [Nat.succ_mul] at lb
  have e2 : xs.flatMap F = (xs.take k).flatMap F ++ (F y ++ (xs.drop (k + 1)).flatMap F) := by
    conv => lhs; rw [e1]
    simp
  have e3 : vs = vs.take (k * m) ++ (c ++ vs.drop (k * m + m)) := by
    rw [← hc, Nat.zero_add]
    rw [← List.drop_drop, List.take_append_drop, List.take_append_drop]
  rw [e2] at h1
  rw [e3] at h1
  obtain ⟨g1, g2, h2⟩ := h1.part (by rw [List.length_take, l1]; omega)
  have h3 := h2.front (i := 1) (o := ownC _ _ g2) rfl
  obtain ⟨g3, g4, h4⟩ := h3.part (by rw [← hc, hF, List.length_take, List.length_drop]; omega)
  refine kk g3 g4 g1 a w ha (h4.conv (fun o ho => ?_) ?_)
  · simp only [List.mem_cons] at ho
    rcases ho with rfl | rfl | rfl | ho
    · exact h4.prs _ (by simp)
    · trivial
    · trivial
    · exact h4.prs o (by simp [ho])
  · simp [ownC, anyO]
theorem Mem.rowR' {i b c m sz : Nat} {e : TypeId} {vs : List Value} {g : List Nat} {o s : Nat} {x : List Value} (hi : os[i]? = some (rowO e sz (.slice (some ⟨b, 0, none⟩) m c) m vs g)) (he : (vs.drop o).take s = x) : Mem lo B u os fun w => RowAt w b o x := by
  subst he; exact Mem.rowR hi o s
end
end Go.Proofs.Ytejnmechnhgmfaa

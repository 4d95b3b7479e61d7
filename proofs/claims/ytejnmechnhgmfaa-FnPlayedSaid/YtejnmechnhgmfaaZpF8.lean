/- A framework for walks: results that are there under a condition, variables of their own, made rows, objects that are joined and parted. -/
import Derived.Test.YtejnmechnhgmfaaZpF7
import Derived.Test.YtejnmechnhgmfaaZpM5
import Derived.Laws.MakeOwn
set_option linter.unusedSimpArgs false
set_option linter.unusedVariables false
namespace Go.Proofs.Ytejnmechnhgmfaa
open Go.RowKit
def Ty.opt (c : Bool) (T : Ty) : Ty :=
  ⟨fun w v => if c = true then T.ok w v else v = .pointer none, fun w v fp => if c = true then T.own w v fp else v = .pointer none ∧ fp = [],
   fun {_ _ _} h x => by split at h <;> rename_i hc <;> simp only [hc, if_true, if_false, Bool.false_eq_true]; exact T.mono h x; exact h,
   fun {_ _ _ _} h x => by split at h <;> rename_i hc <;> simp only [hc, if_true, if_false, Bool.false_eq_true]; exact T.loc h x; exact h,
   fun {_ _ _} h => by split at h <;> rename_i hc <;> simp only [hc, if_true, if_false, Bool.false_eq_true]; exact T.ownok h; exact h.1⟩
theorem opt_yes {c : Bool} {T : Ty} {u : World} {v : Value} (h : (Ty.opt c T).ok u v) (hc : c = true) : T.ok u v := by
  subst hc; exact h
theorem opt_own {c : Bool} {T : Ty} {u : World} {v : Value} {fp : List Nat} (h : T.own u v fp) (hc : c = true) : (Ty.opt c T).own u v fp := by
  subst hc; exact h
theorem opt_nil {c : Bool} {T : Ty} {u : World} (hc : c = false) : (Ty.opt c T).own u (.pointer none) [] := by
  subst hc; exact ⟨rfl, rfl⟩
theorem box_ref {T : TypeId} {Ts : List Ty} {u : World} {v : Value} (h : (Ty.box T Ts).ok u v) : (Ty.ref Ts).ok u v := h
section
theorem Spl.agg {Ts : List Ty} {Rs : List (Value → List Own → Prop)} (hs : Spls Ts Rs) : Spl (Ty.agg Ts) (fun v ow => ∃ vs, v = .agg vs.toArray ∧ RL Rs vs ow) := fun w v fp h => by
  obtain ⟨vs, rfl, hc⟩ := h
  obtain ⟨ow, h1, h2, h3⟩ := hs.cells hc
  exact ⟨ow, ⟨vs, rfl, h1⟩, h2, h3⟩
theorem Spl.box {T : TypeId} {Ts : List Ty} {Rs : List (Value → List Own → Prop)} (hs : Spls Ts Rs) : Spl (Ty.box T Ts) (fun v ow => ∃ b vs o2, v = .pointer (some ⟨b, 0, none⟩) ∧ RL Rs vs o2 ∧ ow = boxO b vs T :: o2) := fun w v fp h => by
  obtain ⟨b, vs, f, rfl, rfl, hb, hc⟩ := h
  obtain ⟨ow, h1, h2, h3⟩ := hs.cells hc
  refine ⟨_, ⟨b, vs, ow, rfl, h1, rfl⟩, by simp [boxO, h2], fun o ho => ?_⟩
  rcases List.mem_cons.1 ho with rfl | ho
  · exact hb
  · exact h3 o ho
end
theorem box_own {w : World} {b : Nat} {vs : List Value} {T : TypeId} {Ts : List Ty} {f : List Nat} (hb : (boxO b vs T).pr w) (hc : cellsOwn w Ts vs f) : (Ty.box T Ts).own w (.pointer (some ⟨b, 0, none⟩)) (b :: f) := ⟨b, vs, f, rfl, rfl, hb, hc⟩
section
variable {P : Program} {n lo : Nat} {B : List Nat} {Q : Exit → Act → World → Prop} {cs : List Code} {l : Fr} {os : List Own} {u : World} {dst : Option Tmp} {ty : TypeId} {pos : String} {af : Array Edge} {gd : Option (Nat × Bool)}
theorem Js.trashE (k : Js P n lo B Q cs l (os ++ [anyO []]) u) : Js P n lo B Q cs l os u := Js.conv (fun w h => h.conv (fun o ho => by
    rcases List.mem_append.1 ho with ho | ho
    · exact h.prs o ho
    · simp at ho; subst ho; trivial) (by simp [anyO])) k
theorem St.move {w : World} (h : St lo B u w os) {i : Nat} {o : Own} (hi : os[i]? = some o) : St lo B u w (os.eraseIdx i ++ [o]) := by
  refine (h.front hi).swap ?_
  exact List.perm_append_singleton _ _
theorem St.join2 {w : World} {i j : Nat} {Ts Us : List Ty} {vs us : List Value} {f g : List Nat} (h : St lo B u w os) (hi : os[i]? = some (ownC Ts vs f)) (hj : (os.eraseIdx i)[j]? = some (ownC Us us g)) :
    St lo B u w (ownC (Ts ++ Us) (vs ++ us) (f ++ g) :: (os.eraseIdx i).eraseIdx j) := by
  have h1 := h.front hi
  have h2 := h1.front (i := j + 1) (o := ownC Us us g) (by simpa using hj)
  refine St.join (h2.swap ?_)
  simp only [List.eraseIdx_cons_succ]
  exact List.Perm.swap _ _ _
theorem Js.join2 {i j : Nat} {Ts Us : List Ty} {vs us : List Value} {f g : List Nat} (hi : os[i]? = some (ownC Ts vs f)) (hj : (os.eraseIdx i)[j]? = some (ownC Us us g))
    (k : Js P n lo B Q cs l (ownC (Ts ++ Us) (vs ++ us) (f ++ g) :: (os.eraseIdx i).eraseIdx j) u) : Js P n lo B Q cs l os u := Js.conv (fun _ h => h.join2 hi hj) k
theorem Js.front {i : Nat} {o : Own} (hi : os[i]? = some o) (k : Js P n lo B Q cs l (o :: os.eraseIdx i) u) : Js P n lo B Q cs l os u := Js.conv (fun _ h => h.front hi) k
theorem Js.vals {Ts : List Ty} {vs : List Value} (hc : ∀ w, cellsOwn w Ts vs []) (k : Js P n lo B Q cs l (ownC Ts vs [] :: os) u) : Js P n lo B Q cs l os u := Js.conv (fun w h => h.addVals (hc w)) k
end
theorem ints_some {e : TypeId} {c : Nat} {A : Option Addr} {xs : List Int} {u : World} (h : (Ty.ints e xs).ok u (.slice A xs.length c)) (hp : 0 < xs.length) : ∃ b o, A = some ⟨b, o, none⟩ := by
  obtain ⟨b, o, h1, _⟩ := ints_elem h hp
  unfold elemA at h1
  split at h1
  · rename_i h2; injection h2 with h2 _ _; exact ⟨_, _, h2⟩
  · simp at h1
theorem ints_cell {e : TypeId} {c b o i : Nat} {xs : List Int} {u : World} (h : (Ty.ints e xs).ok u (.slice (some ⟨b, o, none⟩) xs.length c)) (hi : i < xs.length) : Cell u b (o + i * 1) (.int .i64 (M.nth xs i)) := by
  obtain ⟨b', o', h1, h2⟩ := ints_elem h hi
  have h3 : some (⟨b, o + i * 1, none⟩ : Addr) = some ⟨b', o', none⟩ := h1
  injection h3 with h3
  injection h3 with h3 h4
  subst h3; subst h4; exact h2
theorem ints_cellI {e : TypeId} {c b o : Nat} {i : Int} {xs : List Int} {u : World} (h : (Ty.ints e xs).ok u (.slice (some ⟨b, o, none⟩) xs.length c)) (hi : i.toNat < xs.length) : Cell u b (o + i.toNat * 1) (.int .i64 (M.getI xs i)) := ints_cell h hi
theorem ints_row {e : TypeId} {n : Nat} {xs ys : List Int} {w : World} {v : Value} (hr : w.ownsRow 0 e 1 v n (ints_ xs)) (h : xs = ys) : (Ty.ints e ys).own w v (v.ownBlock.toList ++ []) := by
  subst h
  have hn : n = xs.length := by have := hr.1; simp [ints_] at this; omega
  subst hn
  exact row_own hr (ints_own _ _)
theorem ints_rowok {e : TypeId} {n : Nat} {xs : List Int} {w : World} {v : Value} (hr : w.ownsRow 0 e 1 v n (ints_ xs)) : (Ty.ints e xs).ok w v := (Ty.ints e xs).ownok (ints_row hr rfl)
theorem Spls.nil : Spls [] [] := trivial
theorem Spls.cons {T : Ty} {Ts : List Ty} {R : Value → List Own → Prop} {Rs : List (Value → List Own → Prop)} (h : Spl T R) (k : Spls Ts Rs) : Spls (T :: Ts) (R :: Rs) := ⟨h, k⟩
theorem ints_getI {xs : List Int} {i : Int} (h : i.toNat < xs.length) : (ints_ xs)[0 + i.toNat * 1]? = some (.int .i64 (M.getI xs i)) := ints_get h
theorem ints_lt {xs : List Int} {i : Nat} (h : i < xs.length) : 0 + i * 1 + 1 ≤ (ints_ xs).length := by simp only [ints_, List.length_map]; omega
end Go.Proofs.Ytejnmechnhgmfaa

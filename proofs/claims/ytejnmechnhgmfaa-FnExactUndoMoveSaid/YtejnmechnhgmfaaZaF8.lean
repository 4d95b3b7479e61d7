/- A framework for walks: results that are there under a condition, variables of their own, made rows, objects that are joined and parted. -/
import Derived.Test.YtejnmechnhgmfaaZaF7
import Derived.Test.YtejnmechnhgmfaaZaM5
import Derived.Laws.MakeOwn
set_option linter.unusedSimpArgs false
set_option linter.unusedVariables false
namespace Go.Proofs.Ytejnmechnhgmfaa
open Go.RowKit

/-- a pointer that is nil unless a condition holds -/
def Ty.opt (c : Bool) (T : Ty) : Ty :=
  ⟨fun w v => if c = true then T.ok w v else v = .pointer none, fun w v fp => if c = true then T.own w v fp else v = .pointer none ∧ fp = [],
   fun {_ _ _} h x => by split at h <;> rename_i hc <;> simp only [hc, if_true, if_false, Bool.false_eq_true]; exact T.mono h x; exact h,
   fun {_ _ _ _} h x => by split at h <;> rename_i hc <;> simp only [hc, if_true, if_false, Bool.false_eq_true]; exact T.loc h x; exact h,
   fun {_ _ _} h => by split at h <;> rename_i hc <;> simp only [hc, if_true, if_false, Bool.false_eq_true]; exact T.ownok h; exact h.1⟩
theorem opt_yes {c : Bool} {T : Ty} {u : World} {v : Value} (h : (Ty.opt c T).ok u v) (hc : c = true) : T.ok u v := by
  subst hc; exact h
theorem opt_own {c : Bool} {T : Ty} {u : World} {v : Value} {fp : List Nat} (h : T.own u v fp) (hc : c = true) : (Ty.opt c T).own u v fp := by
  subst hc; exact h
theorem opt_nil {c : Bool} {T : Ty} {u : World} (hc : c = false) : (Ty.opt c T).own u (.pointer none) [] := by
  subst hc; exact ⟨rfl, rfl⟩
theorem box_ref {T : TypeId} {Ts : List Ty} {u : World} {v : Value} (h : (Ty.box T Ts).ok u v) : (Ty.ref Ts).ok u v := h

section
theorem Spl.agg {Ts : List Ty} {Rs : List (Value → List Own → Prop)} (hs : Spls Ts Rs) : Spl (Ty.agg Ts) (fun v ow => ∃ vs, v = .agg vs.toArray ∧ RL Rs vs ow) := fun w v fp h => by
  obtain ⟨vs, rfl, hc⟩ := h
  obtain ⟨ow, h1, h2, h3⟩ := hs.cells hc
  exact ⟨ow, ⟨vs, rfl, h1⟩, h2, h3⟩
theorem Spl.box {T : TypeId} {Ts : List Ty} {Rs : List (Value → List Own → Prop)} (hs : Spls Ts Rs) : Spl (Ty.box T Ts) (fun v ow => ∃ b vs o2, v = .pointer (some ⟨b, 0, none⟩) ∧ RL Rs vs o2 ∧ ow = boxO b vs T :: o2) := fun w v fp h => by
  obtain ⟨b, vs, f, rfl, rfl, hb, hc⟩ := h
  obtain ⟨ow, h1, h2, h3⟩ := hs.cells hc
  refine ⟨_, ⟨b, vs, ow, rfl, h1, rfl⟩, by simp [boxO, h2], fun o ho => ?_⟩
  rcases List.mem_cons.1 ho with rfl | ho
  · exact hb
  · exact h3 o ho
end
theorem box_own {w : World} {b : Nat} {vs : List Value} {T : TypeId} {Ts : List Ty} {f : List Nat} (hb : (boxO b vs T).pr w) (hc : cellsOwn w Ts vs f) : (Ty.box T Ts).own w (.pointer (some ⟨b, 0, none⟩)) (b :: f) := ⟨b, vs, f, rfl, rfl, hb, hc⟩

section
variable {P : Program} {n lo : Nat} {B : List Nat} {Q : Exit → Act → World → Prop} {cs : List Code} {l : Fr} {os : List Own} {u : World} {dst : Option Tmp} {ty : TypeId} {pos : String} {af : Array Edge} {gd : Option (Nat × Bool)}
theorem Js.trashE (k : Js P n lo B Q cs l (os ++ [anyO []]) u) : Js P n lo B Q cs l os u := Js.conv (fun w h => h.conv (fun o ho => by
    rcases List.mem_append.1 ho with ho | ho
    · exact h.prs o ho
    · simp at ho; subst ho; trivial) (by simp [anyO])) k
theorem St.move {w : World} (h : St lo B u w os) {i : Nat} {o : Own} (hi : os[i]? = some o) : St lo B u w (os.eraseIdx i ++ [o]) := by
  refine (h.front hi).swap ?_
  exact List.perm_append_singleton _ _
/-- two objects become one: the second is put behind the first -/
theorem St.join2 {w : World} {i j : Nat} {Ts Us : List Ty} {vs us : List Value} {f g : List Nat} (h : St lo B u w os) (hi : os[i]? = some (ownC Ts vs f)) (hj : (os.eraseIdx i)[j]? = some (ownC Us us g)) :
    St lo B u w (ownC (Ts ++ Us) (vs ++ us) (f ++ g) :: (os.eraseIdx i).eraseIdx j) := by
  have h1 := h.front hi
  have h2 := h1.front (i := j + 1) (o := ownC Us us g) (by simpa using hj)
  refine St.join (h2.swap ?_)
  simp only [List.eraseIdx_cons_succ]
  exact List.Perm.swap _ _ _
theorem Js.join2 {i j : Nat} {Ts Us : List Ty} {vs us : List Value} {f g : List Nat} (hi : os[i]? = some (ownC Ts vs f)) (hj : (os.eraseIdx i)[j]? = some (ownC Us us g))
    (k : Js P n lo B Q cs l (ownC (Ts ++ Us) (vs ++ us) (f ++ g) :: (os.eraseIdx i).eraseIdx j) u) : Js P n lo B Q cs l os u := Js.conv (fun _ h => h.join2 hi hj) k
/-- an object is put first -/
theorem Js.front {i : Nat} {o : Own} (hi : os[i]? = some o) (k : Js P n lo B Q cs l (o :: os.eraseIdx i) u) : Js P n lo B Q cs l os u := Js.conv (fun _ h => h.front hi) k
theorem Js.vals {Ts : List Ty} {vs : List Value} (hc : ∀ w, cellsOwn w Ts vs []) (k : Js P n lo B Q cs l (ownC Ts vs [] :: os) u) : Js P n lo B Q cs l os u := Js.conv (fun w h => h.addVals (hc w)) k
/-- a made row of numbers -/
theorem e_makeI {x y : Operand} {t e : TypeId} {by' : Nat} {m : Nat} {a0 : Int} (ht : elOf P t = some (e, 1, by', [.int .i64 0])) (hb : Nat.ble by' 64 = true) (hx : opd l x = some (.int .i64 a0)) (hy : opd l y = some (.int .i64 a0)) (ha0 : a0 = (m : Int)) (hm : m ≤ 16777216) :
    OpE P n lo B l os u ⟨dst, .makeSlice t x y, ty, pos, af, gd⟩ true (fun v' os' u' => ∃ b, v' = .slice (some ⟨b, 0, none⟩) m m ∧ os' = rowO e 1 (.slice (some ⟨b, 0, none⟩) m m) m (ints_ (List.replicate m 0)) [] :: os ∧ u = u') := fun a w ha hw K Q hk => by
  subst ha0
  have hb : by' ≤ 64 := by simpa [Nat.ble_eq] using hb
  unfold elOf at ht
  split at ht
  · rename_i e' hu
    split at ht
    · rename_i i' hi'
      split at ht
      · rename_i zv hzz
        simp only [Option.some.injEq, Prod.mk.injEq] at ht
        obtain ⟨rfl, hs1, rfl, hz⟩ := ht
        have hz' : zv.cells = #[.int .i64 0] := by
          have := congrArg List.toArray hz
          simpa using this
        have hbm : i'.bytes * m ≤ 281474976710656 := by
          have : i'.bytes * m ≤ 64 * m := Nat.mul_le_mul_right m hb
          omega
        have hb63 : (i'.bytes : Int) * (m : Int) ≤ 281474976710656 := by
          have h9 : ((i'.bytes * m : Nat) : Int) ≤ 281474976710656 := by omega
          rwa [Int.natCast_mul] at h9
        have hr := run_makeSlice (P := P) w t e' i' zv hu hi' hzz .i64 .i64 (m : Int) (m : Int) (by omega) (by omega) (by rw [hs1, Int.toNat_natCast, Nat.mul_one]; exact hm) hb63 (by omega)
        have hcells : madeCells zv.cells ((m : Int).toNat * i'.size) = (ints_ (List.replicate m 0)).toArray := by
          rw [hs1, hz']
          apply Array.ext'
          simp only [madeCells, ints_, List.map_replicate, Int.toNat_natCast, Nat.mul_one, List.size_toArray, List.length_cons, List.length_nil, Nat.zero_add, Nat.mod_one]
          simp only [Array.toList_map, Array.toList_range]
          refine List.ext_getElem? fun k => ?_
          simp only [List.getElem?_map, List.getElem?_replicate]
          by_cases hk : k < m
          · rw [List.getElem?_range hk]; simp [hk]
          · rw [List.getElem?_eq_none (by simpa using hk)]; simp [hk]
        rw [hcells] at hr
        have hr' : (execOp a.eval ⟨dst, .makeSlice t x y, ty, pos, af, gd⟩).run P w = .ok (.value (.slice (some ⟨w.heap.size, 0, none⟩) m m)) (w.alloc (.cells (ints_ (List.replicate m 0)).toArray e')) := by
          simp [execOp, ha.eval hx, ha.eval hy, hr]
        unfold Oper.wp
        rw [hr']
        refine hk _ _ u _ ⟨_, rfl, rfl, rfl⟩ (Up.refl lo u) (hw.newRow e' 1 m _ (by simp [ints_]) (by unfold maxLen; omega)) (fun _ => (Ext.refl w).alloc _)
      · simp at ht
    · simp at ht
  · simp at ht
end
theorem RL_cons {R : Value → List Own → Prop} {Rs : List (Value → List Own → Prop)} : ∀ {vs : List Value} {ow : List Own}, RL (R :: Rs) vs ow → ∃ v r o1 o2, vs = v :: r ∧ R v o1 ∧ RL Rs r o2 ∧ ow = o1 ++ o2
  | v :: r, _, ⟨o1, o2, h1, h2, h3⟩ => ⟨v, r, o1, o2, rfl, h1, h2, h3⟩
theorem RL_nil : ∀ {vs : List Value} {ow : List Own}, RL [] vs ow → vs = [] ∧ ow = []
  | [], _, h => ⟨rfl, h⟩
theorem ints_cast {e : TypeId} {xs ys : List Int} {w : World} {v : Value} {fp : List Nat} (h : xs = ys) (k : (Ty.ints e xs).own w v fp) : (Ty.ints e ys).own w v fp := h ▸ k
theorem ints_some {e : TypeId} {c : Nat} {A : Option Addr} {xs : List Int} {u : World} (h : (Ty.ints e xs).ok u (.slice A xs.length c)) (hp : 0 < xs.length) : ∃ b o, A = some ⟨b, o, none⟩ := by
  obtain ⟨b, o, h1, _⟩ := ints_elem h hp
  unfold elemA at h1
  split at h1
  · rename_i h2; injection h2 with h2 _ _; exact ⟨_, _, h2⟩
  · simp at h1
theorem ints_cell {e : TypeId} {c b o i : Nat} {xs : List Int} {u : World} (h : (Ty.ints e xs).ok u (.slice (some ⟨b, o, none⟩) xs.length c)) (hi : i < xs.length) : Cell u b (o + i * 1) (.int .i64 (M.nth xs i)) := by
  obtain ⟨b', o', h1, h2⟩ := ints_elem h hi
  have h3 : some (⟨b, o + i * 1, none⟩ : Addr) = some ⟨b', o', none⟩ := h1
  injection h3 with h3
  injection h3 with h3 h4
  subst h3; subst h4; exact h2
theorem ints_cellI {e : TypeId} {c b o : Nat} {i : Int} {xs : List Int} {u : World} (h : (Ty.ints e xs).ok u (.slice (some ⟨b, o, none⟩) xs.length c)) (hi : i.toNat < xs.length) : Cell u b (o + i.toNat * 1) (.int .i64 (M.getI xs i)) := ints_cell h hi
theorem ints_row {e : TypeId} {n : Nat} {xs ys : List Int} {w : World} {v : Value} (hr : w.ownsRow 0 e 1 v n (ints_ xs)) (h : xs = ys) : (Ty.ints e ys).own w v (v.ownBlock.toList ++ []) := by
  subst h
  have hn : n = xs.length := by have := hr.1; simp [ints_] at this; omega
  subst hn
  exact row_own hr (ints_own _ _)
theorem ints_rowok {e : TypeId} {n : Nat} {xs : List Int} {w : World} {v : Value} (hr : w.ownsRow 0 e 1 v n (ints_ xs)) : (Ty.ints e xs).ok w v := (Ty.ints e xs).ownok (ints_row hr rfl)
theorem own_cast {α : Type} (F : α → List Ty) {x y : α} {w : World} {v : Value} {fp : List Nat} (h : x = y) (k : (Ty.agg (F x)).own w v fp) : (Ty.agg (F y)).own w v fp := h ▸ k
theorem Spls.nil : Spls [] [] := trivial
theorem Spls.cons {T : Ty} {Ts : List Ty} {R : Value → List Own → Prop} {Rs : List (Value → List Own → Prop)} (h : Spl T R) (k : Spls Ts Rs) : Spls (T :: Ts) (R :: Rs) := ⟨h, k⟩
theorem ints_getI {xs : List Int} {i : Int} (h : i.toNat < xs.length) : (ints_ xs)[0 + i.toNat * 1]? = some (.int .i64 (M.getI xs i)) := ints_get h
theorem ints_lt {xs : List Int} {i : Nat} (h : i < xs.length) : 0 + i * 1 + 1 ≤ (ints_ xs).length := by simp only [ints_, List.length_map]; omega
end Go.Proofs.Ytejnmechnhgmfaa

/- A framework for walks: rows that are cut out of wider ones. -/
import Derived.Test.YtejnmechnhgmfaaZaF10
set_option linter.unusedSimpArgs false
set_option linter.unusedVariables false
namespace Go.Proofs.Ytejnmechnhgmfaa
open Go.RowKit
section
variable {P : Program} {n lo : Nat} {B : List Nat} {l : Fr} {os : List Own} {u : World} {dst : Option Tmp} {ty : TypeId} {pos : String} {af : Array Edge} {gd : Option (Nat × Bool)}
/-- the first ones of a row, and room for no more -/
theorem St.cutRo {w : World} {i m c k : Nat} {e : TypeId} {A : Option Addr} {xs : List Int} (hi : os[i]? = some (rowO e 1 (.slice A m c) m (ints_ xs) [])) (hk : k ≤ m) (hw : St lo B u w os) :
    St lo B u w (roO e (.slice (cutA 1 A 0 k) (k - 0) (k - 0)) k (ints_ (xs.take k)) :: os.eraseIdx i) := by
  have h1 := hw.front hi
  have ho : w.ownsRow 0 e 1 (.slice A m c) m (ints_ xs) := h1.prs (rowO e 1 (.slice A m c) m (ints_ xs) []) (by simp)
  have hlen : xs.length = m := by have := ho.1; simpa [ints_] using this
  have hl : (ints_ (xs.take k)).length = k := by simp [ints_]; omega
  have key : RoRow w e (.slice (cutA 1 A 0 k) (k - 0) (k - 0)) k (ints_ (xs.take k)) ∧ (Value.slice (cutA 1 A 0 k) (k - 0) (k - 0)).ownBlock.toList = (Value.slice A m c).ownBlock.toList ++ [] := by
    rcases ho.2 with ⟨h2, h3⟩ | ⟨g, cap, cur, h2, _, hg, h4, h5, h6, h7⟩
    · cases h2
      have : k = 0 := by omega
      subst this
      exact ⟨⟨hl, .inl ⟨rfl, rfl⟩⟩, rfl⟩
    · cases h2
      have e1 : cutA 1 (some ⟨g, 0, none⟩) 0 k = some ⟨g, 0, none⟩ := by unfold cutA; split <;> simp [addr_add]
      rw [e1]
      refine ⟨⟨hl, .inr ⟨g, k, cur, rfl, hg, Nat.le_refl _, by omega, by rw [h6]; omega, ?_⟩⟩, by simp [Value.ownBlock]⟩
      have : ints_ (xs.take k) = (ints_ xs).take k := by simp [ints_, List.map_take]
      rw [this, ← h7, List.take_take]
      congr 1; omega
  refine h1.conv (fun x hx => ?_) (by simp only [List.flatMap_cons, roO, rowO, key.2]; exact List.Perm.refl _)
  rcases List.mem_cons.1 hx with rfl | hx
  · exact key.1
  · exact h1.prs x (by simp [hx])
theorem setL_prefix {cur xs vs : List Value} {o m : Nat} (h7 : cur.take m = xs) (e0 : m = xs.length) (hl : o + vs.length ≤ xs.length) (hle : xs.length ≤ cur.length) : (setL cur o vs).take m = setL xs o vs := by
  have ex : xs = cur.take xs.length := by rw [← e0]; exact h7.symm
  rw [e0]
  apply List.ext_getElem?
  intro j
  simp only [setL, List.getElem?_take]
  by_cases hj : j < xs.length
  · rw [if_pos hj]
    rw [List.append_assoc, List.append_assoc]
    have l1 : (cur.take o).length = o := by rw [List.length_take]; omega
    have l2 : (xs.take o).length = o := by rw [List.length_take]; omega
    by_cases h1' : j < o
    · rw [List.getElem?_append_left (l₁ := cur.take o) (by rw [l1]; omega), List.getElem?_append_left (l₁ := xs.take o) (by rw [l2]; omega)]
      simp only [List.getElem?_take, h1', if_true]
      conv => rhs; rw [ex]
      rw [List.getElem?_take, if_pos hj]
    · rw [List.getElem?_append_right (l₁ := cur.take o) (by rw [l1]; omega), List.getElem?_append_right (l₁ := xs.take o) (by rw [l2]; omega)]
      simp only [l1, l2]
      by_cases h2' : j - o < vs.length
      · rw [List.getElem?_append_left (l₂ := cur.drop _) h2', List.getElem?_append_left (l₂ := xs.drop _) h2']
      · rw [List.getElem?_append_right (l₂ := cur.drop _) (by omega), List.getElem?_append_right (l₂ := xs.drop _) (by omega)]
        simp only [List.getElem?_drop]
        conv => rhs; rw [ex]
        rw [List.getElem?_take, if_pos (by omega)]
  · rw [if_neg hj, List.getElem?_eq_none]
    simp only [List.length_append, List.length_take, List.length_drop]; omega
theorem ro_some {i m c : Nat} {e : TypeId} {A : Option Addr} {vs : List Value} (hi : os[i]? = some (roO e (.slice A m c) m vs)) (hm : 0 < m) : ∀ w, St lo B u w os → ∃ b, A = some ⟨b, 0, none⟩ := fun w hw => by
  have h : RoRow w e (.slice A m c) m vs := hw.prs _ (List.mem_of_getElem? hi)
  rcases h.2 with ⟨h2, h3⟩ | ⟨g, cap, cur, h2, _⟩
  · omega
  · cases h2; exact ⟨g, rfl⟩
theorem Mem.ro {i b c m : Nat} {e : TypeId} {vs : List Value} {o : Nat} {x : Value} (hi : os[i]? = some (roO e (.slice (some ⟨b, 0, none⟩) m c) m vs)) (hx : vs[o]? = some x) : Mem lo B u os fun w => Cell w b o x := fun w hw => by
  have h : RoRow w e (.slice (some ⟨b, 0, none⟩) m c) m vs := hw.prs _ (List.mem_of_getElem? hi)
  rcases h.2 with ⟨h2, h3⟩ | ⟨g, cap, cur, h2, hg, h4, h5, h6, h7⟩
  · cases h2
  · cases h2
    refine ⟨cur, e, (0, 0), hg, ?_⟩
    rw [← h7, List.getElem?_take] at hx
    split at hx
    · simpa using hx
    · simp at hx
theorem e_storeRo {x y : Operand} {t e : TypeId} {gg : Bool} {i b o c m : Nat} {xs xs' : List Value} {v : Value} (ht : tyOf P t = some (gg, 1)) (hx : opd l x = some (.pointer (some ⟨b, o, none⟩))) (hi : os[i]? = some (roO e (.slice (some ⟨b, 0, none⟩) m c) m xs)) (hy : opd l y = some v)
    (hv : cellsL v = [v]) (h1 : v.oneCell' = true) (hl : o + 1 ≤ xs.length) (hc : setL xs o [v] = xs') :
    OpE P n lo B l os u ⟨dst, .store t x y, ty, pos, af, gd⟩ false (fun _ os' u' => os' = os.set i (roO e (.slice (some ⟨b, 0, none⟩) m c) m xs') ∧ u = u') := fun a w ha hw K Q hk => by
  subst hc
  have h0 : RoRow w e (.slice (some ⟨b, 0, none⟩) m c) m xs := hw.prs _ (List.mem_of_getElem? hi)
  obtain ⟨hown1, hown2⟩ := h0
  rcases hown2 with ⟨h2, _⟩ | ⟨g', cap, cur, h2, hg, h4, h5, h6, h7⟩
  · cases h2
  injection h2 with h2 _ h3
  injection h2 with h2
  injection h2 with h2 _ _
  subst h2; subst h3
  have hle : xs.length ≤ cur.toList.length := by rw [← h7, List.length_take]; omega
  obtain ⟨w', r1, r2, r3, r4, r5, r6, r7⟩ := run_storeCells_box P b e [v] 0 o cur.toList w (by simpa using hg) (by simp; omega) (by simpa using h1)
  have hsz := (run_isAgg (P := P) w ht).2
  have hr : (execOp a.eval ⟨dst, .store t x y, ty, pos, af, gd⟩).run P w = .ok .skip w' := by
    simp [execOp, ha.eval hx, ha.eval hy, Instr.storeAt, Instr.sureAddr, storeVar, hsz, cellsL_eq, hv, r1]
  unfold Oper.wp
  rw [hr]
  have hset : (setL cur.toList o [v]).length = cur.toList.length := by
    simp only [setL, List.length_append, List.length_take, List.length_drop, List.length_singleton]; omega
  refine hk _ _ u _ ⟨rfl, rfl⟩ (Up.refl lo u) (hw.upd hi r5 r6 r7 (by omega) (fun k _ hk => r3 k (fun e => hk (by simp [roO, Value.ownBlock, e]))) (fun k hk => .inl hk) ?_ ?_ (fun k hk _ => hk)) (fun h => by cases h)
  · have h9 := nodup_mem hw.dis (List.mem_of_getElem? hi)
    exact h9
  · refine ⟨by simp only [setL, List.length_append, List.length_take, List.length_drop, List.length_singleton]; omega, .inr ⟨b, c, (setL cur.toList o [v]).toArray, rfl, by simpa using r2, h4, h5, by simp only [List.size_toArray, hset]; simpa using h6, ?_⟩⟩
    rw [List.toList_toArray]
    exact setL_prefix h7 hown1.symm hl hle
theorem ints_rook {e : TypeId} {m : Nat} {xs : List Int} {w : World} {v : Value} (h : RoRow w e v m (ints_ xs)) : (Ty.ints e xs).ok w v := h.ok
end
end Go.Proofs.Ytejnmechnhgmfaa

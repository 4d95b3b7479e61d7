/- A framework for walks: rows that are cut out of wider ones. -/
import Derived.Test.YtejnmechnhgmfaaZpF10
set_option linter.unusedSimpArgs false
set_option linter.unusedVariables false
namespace Go.Proofs.Ytejnmechnhgmfaa
open Go.RowKit
section
variable {P : Program} {n lo : Nat} {B : List Nat} {l : Fr} {os : List Own} {u : World} {dst : Option Tmp} {ty : TypeId} {pos : String} {af : Array Edge} {gd : Option (Nat × Bool)}
theorem St.cutRo {w : World} {i m c k : Nat} {e : TypeId} {A : Option Addr} {xs : List Int} (hi : os[i]? = some (rowO e 1 (.slice A m c) m (ints_ xs) [])) (hk : k ≤ m) (hw : St lo B u w os) :
    St lo B u w (roO e (.slice (cutA 1 A 0 k) (k - 0) (k - 0)) k (ints_ (xs.take k)) :: os.eraseIdx i) := by
  have h1 := hw.front hi
  have ho : w.ownsRow 0 e 1 (.slice A m c) m (ints_ xs) := h1.prs (rowO e 1 (.slice A m c) m (ints_ xs) []) (by simp)
  have hlen : xs.length = m := by have := ho.1; simpa [ints_] using this
  have hl : (ints_ (xs.take k)).length = k := by simp [ints_]; omega
  have key : RoRow w e (.slice (cutA 1 A 0 k) (k - 0) (k - 0)) k (ints_ (xs.take k)) ∧ (Value.slice (cutA 1 A 0 k) (k - 0) (k - 0)).ownBlock.toList = (Value.slice A m c).ownBlock.toList ++ [] := by
    rcases ho.2 with ⟨h2, h3⟩ | ⟨g, cap, cur, h2, _, hg, h4, h5, h6, h7⟩
    · cases h2
      have : k = 0 := by omega
      subst this
      exact ⟨⟨hl, .inl ⟨rfl, rfl⟩⟩, rfl⟩
    · cases h2
      have e1 : cutA 1 (some ⟨g, 0, none⟩) 0 k = some ⟨g, 0, none⟩ := by unfold cutA; split <;> simp [addr_add]
      rw [e1]
      refine ⟨⟨hl, .inr ⟨g, k, cur, rfl, hg, Nat.le_refl _, by omega, by rw [h6]; omega, ?_⟩⟩, by simp [Value.ownBlock]⟩
      have : ints_ (xs.take k) = (ints_ xs).take k := by simp [ints_, List.map_take]
      rw [this, ← h7, List.take_take]
      congr 1; omega
  refine h1.conv (fun x hx => ?_) (by simp only [List.flatMap_cons, roO, rowO, key.2]; exact List.Perm.refl _)
  rcases List.mem_cons.1 hx with rfl | hx
  · exact key.1
  · exact h1.prs x (by simp [hx])
theorem Mem.ro {i b c m : Nat} {e : TypeId} {vs : List Value} {o : Nat} {x : Value} (hi : os[i]? = some (roO e (.slice (some ⟨b, 0, none⟩) m c) m vs)) (hx : vs[o]? = some x) : Mem lo B u os fun w => Cell w b o x := fun w hw => by
  have h : RoRow w e (.slice (some ⟨b, 0, none⟩) m c) m vs := hw.prs _ (List.mem_of_getElem? hi)
  rcases h.2 with ⟨h2, h3⟩ | ⟨g, cap, cur, h2, hg, h4, h5, h6, h7⟩
  · cases h2
  · cases h2
    refine ⟨cur, e, (0, 0), hg, ?_⟩
    rw [← h7, List.getElem?_take] at hx
    split at hx
    · simpa using hx
    · simp at hx
theorem ints_rook {e : TypeId} {m : Nat} {xs : List Int} {w : World} {v : Value} (h : RoRow w e v m (ints_ xs)) : (Ty.ints e xs).ok w v := h.ok
end
end Go.Proofs.Ytejnmechnhgmfaa

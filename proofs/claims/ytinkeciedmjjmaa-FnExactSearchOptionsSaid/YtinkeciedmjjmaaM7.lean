/- Plain mathematics of marks on lists of structs. -/
import Derived.Test.YtinkeciedmjjmaaM6
set_option linter.unusedSimpArgs false
set_option linter.unusedVariables false
namespace Go.Proofs.Ytinkeciedmjjmaa.M

section
variable {α : Type} (f : Int → α → α) (sz : α → Int)
def mkL : Int → List α → List α
  | _, [] => []
  | k, x :: l => f k x :: mkL (k + sz x) l
def szs : List α → Int
  | [] => 0
  | x :: l => sz x + szs l
theorem mkL_len : ∀ (k : Int) (l : List α), (mkL f sz k l).length = l.length
  | _, [] => rfl
  | k, x :: l => by rw [mkL, List.length_cons, mkL_len, List.length_cons]
theorem mkL_get : ∀ (l : List α) (k : Int) (i : Nat) (y : α), l[i]? = some y → (mkL f sz k l)[i]? = some (f (k + szs sz (l.take i)) y)
  | x :: l, k, 0, y, h => by simp at h; subst h; simp [mkL, szs]
  | x :: l, k, i + 1, y, h => by
    simp at h
    rw [mkL, List.getElem?_cons_succ, mkL_get l _ i y h, List.take_succ_cons, szs, Int.add_assoc]
  | [], _, _, _, h => by simp at h
theorem szs_step : ∀ (l : List α) (i : Nat) (y : α), l[i]? = some y → szs sz (l.take (i + 1)) = szs sz (l.take i) + sz y
  | x :: l, 0, y, h => by simp at h; subst h; simp [szs]
  | x :: l, i + 1, y, h => by
    simp at h
    rw [List.take_succ_cons, szs, szs_step l i y h, List.take_succ_cons, szs, Int.add_assoc]
  | [], _, _, h => by simp at h
/-- the first ones are marked -/
def mkd2 (k : Int) (l : List α) (i : Nat) : List α := (mkL f sz k l).take i ++ l.drop i
theorem mkd2_zero (k : Int) (l : List α) : l = mkd2 f sz k l 0 := by simp [mkd2]
theorem mkd2_step {k : Int} {l : List α} {i : Nat} {y : α} (h : l[i]? = some y) : (mkd2 f sz k l i).set i (f (k + szs sz (l.take i)) y) = mkd2 f sz k l (i + 1) := by
  obtain ⟨hi, hy⟩ := List.getElem?_eq_some_iff.1 h
  have h1 : ((mkL f sz k l).take i).length = i := by rw [List.length_take, mkL_len]; omega
  unfold mkd2
  rw [List.set_append_right _ _ (by omega), h1, Nat.sub_self, List.drop_eq_getElem_cons hi, List.set_cons_zero, List.take_add_one, mkL_get f sz l k i y h]
  simp
theorem mkd2_get {k : Int} {l : List α} {i : Nat} {y : α} (h : (mkd2 f sz k l i)[i]? = some y) : l[i]? = some y := by
  by_cases hi : i < l.length
  · have h1 : ((mkL f sz k l).take i).length = i := by rw [List.length_take, mkL_len]; omega
    unfold mkd2 at h
    rw [List.getElem?_append_right (by omega), h1, Nat.sub_self, List.getElem?_drop] at h
    exact h
  · unfold mkd2 at h
    rw [List.getElem?_eq_none (by rw [List.length_append, List.length_take, mkL_len, List.length_drop]; omega)] at h
    cases h
theorem mkd2_len (k : Int) (l : List α) (i : Nat) : (mkd2 f sz k l i).length = l.length := by
  unfold mkd2; rw [List.length_append, List.length_take, mkL_len, List.length_drop]; omega
theorem mkd2_end {k : Int} {l : List α} {i : Nat} (h : i = l.length) : mkd2 f sz k l i = mkL f sz k l := by
  subst h; unfold mkd2; rw [List.drop_length, List.append_nil, List.take_of_length_le (by rw [mkL_len]; omega)]
variable (hf : Int → α → Int)
def heldL : Int → List α → Int
  | k, [] => k
  | k, x :: l => if hf k x < 0 then -1 else heldL (hf k x) l
theorem heldL_mk (h : ∀ k x, 0 ≤ k → hf k (f k x) = k + sz x) (h0 : ∀ x, 0 ≤ sz x) : ∀ (l : List α) (k : Int), 0 ≤ k → heldL hf k (mkL f sz k l) = k + szs sz l
  | [], k, hk => by simp [mkL, heldL, szs]
  | x :: l, k, hk => by
    have := h0 x
    rw [mkL, heldL, h k x hk, if_neg (by omega), heldL_mk h h0 l _ (by omega), szs, Int.add_assoc]
theorem szs_nn (h0 : ∀ x, 0 ≤ sz x) : ∀ l : List α, 0 ≤ szs sz l
  | [] => by simp [szs]
  | x :: l => by have := szs_nn h0 l; have := h0 x; rw [szs]; omega
theorem heldL_step {l : List α} {kk X : Int} {i : Nat} {y : α} (h : heldL hf kk (l.drop i) = X) (hy : l[i]? = some y) (hn : ¬ hf kk y < 0) : heldL hf (hf kk y) (l.drop (i + 1)) = X := by
  rw [drop_some hy, heldL, if_neg hn] at h; exact h
theorem heldL_no {l : List α} {kk X : Int} {i : Nat} {y : α} (h : heldL hf kk (l.drop i) = X) (hy : l[i]? = some y) (hn : hf kk y < 0) : X = -1 := by
  rw [drop_some hy, heldL, if_pos hn] at h; exact h.symm
theorem heldL_end {l : List α} {kk X : Int} {i : Nat} (h : heldL hf kk (l.drop i) = X) (hi : l.length ≤ i) : X = kk := by
  rw [List.drop_eq_nil_of_le hi, heldL] at h; exact h.symm
end

section
variable {α : Type}
theorem upto_step {a b : List α} {k : Nat} {x : α} (h : a.take k = b.take k) (ha : a[k]? = some x) (hb : b[k]? = some x) : a.take (k + 1) = b.take (k + 1) := by
  rw [List.take_add_one, List.take_add_one, h, ha, hb]
theorem upto_done {a b : List α} {k : Nat} (h : a.take k = b.take k) (ha : a.length ≤ k) (hb : b.length ≤ k) : a = b := by
  rwa [List.take_of_length_le ha, List.take_of_length_le hb] at h
theorem upto_ne {a b : List α} {k : Nat} {x y : α} (ha : a[k]? = some x) (hb : b[k]? = some y) (h : x ≠ y) : a ≠ b := by
  rintro rfl; rw [ha] at hb; cases hb; exact h rfl
end

/-! ### options -/
def fO (k : Int) (_ : Opt) : Opt := ⟨k, k + 1⟩
def sO (_ : Opt) : Int := 2
def hO (k : Int) (x : Opt) : Int := if x.move ≠ k then -1 else if x.value ≠ k + 1 then -1 else k + 2
theorem szs_O : ∀ l : List Opt, szs sO l = 2 * (l.length : Int)
  | [] => rfl
  | x :: l => by rw [szs, szs_O l, List.length_cons, sO]; omega
theorem hO_fO (k : Int) (x : Opt) (_ : 0 ≤ k) : hO k (fO k x) = k + sO x := by simp [hO, fO, sO]
theorem hO_1 {k : Int} {x : Opt} (h : x.move ≠ k) : hO k x = -1 := by unfold hO; rw [if_pos h]
theorem hO_2 {k : Int} {x : Opt} (h : x.move = k) (h2 : x.value ≠ k + 1) : hO k x = -1 := by unfold hO; rw [if_neg (by simpa using h), if_pos h2]
theorem hO_0 {k : Int} {x : Opt} (h : x.move = k) (h2 : x.value = k + 1) : hO k x = k + 2 := by unfold hO; rw [if_neg (by simpa using h), if_neg (by simpa using h2)]
theorem held_O (l : List Opt) {k : Int} (h : 0 ≤ k) : heldL hO k (mkL fO sO k l) = k + 2 * (l.length : Int) := by
  rw [heldL_mk fO sO hO hO_fO (fun _ => by simp [sO]) l k h, szs_O]
/-! ### positions -/
def fQ (k : Int) (p : Pos) : Pos := ⟨up k p.pits.length, up (k + p.pits.length) p.stores.length, k + p.pits.length + p.stores.length⟩
def sQ (p : Pos) : Int := p.pits.length + p.stores.length + 1
def hQ (k : Int) (p : Pos) : Int := if held p.pits k < 0 then -1 else if held p.stores (held p.pits k) < 0 then -1 else if p.player ≠ held p.stores (held p.pits k) then -1 else held p.stores (held p.pits k) + 1
theorem sQ_nn (p : Pos) : 0 ≤ sQ p := by unfold sQ; omega
theorem hQ_fQ (k : Int) (p : Pos) (h : 0 ≤ k) : hQ k (fQ k p) = k + sQ p := by
  unfold hQ fQ sQ
  rw [held_up, if_neg (by omega), held_up, if_neg (by omega), if_neg (by simp)]; omega
theorem hQ_1 {k : Int} {x : Pos} (h : held x.pits k < 0) : hQ k x = -1 := by unfold hQ; rw [if_pos h]
theorem hQ_2 {k : Int} {x : Pos} (h : ¬ held x.pits k < 0) (h2 : held x.stores (held x.pits k) < 0) : hQ k x = -1 := by unfold hQ; rw [if_neg h, if_pos h2]
theorem hQ_3 {k : Int} {x : Pos} (h : ¬ held x.pits k < 0) (h2 : ¬ held x.stores (held x.pits k) < 0) (h3 : x.player ≠ held x.stores (held x.pits k)) : hQ k x = -1 := by unfold hQ; rw [if_neg h, if_neg h2, if_pos h3]
theorem hQ_0 {k : Int} {x : Pos} (h : ¬ held x.pits k < 0) (h2 : ¬ held x.stores (held x.pits k) < 0) (h3 : x.player = held x.stores (held x.pits k)) : hQ k x = held x.stores (held x.pits k) + 1 := by unfold hQ; rw [if_neg h, if_neg h2, if_neg (by simpa using h3)]
theorem held_Q (l : List Pos) {k : Int} (h : 0 ≤ k) : heldL hQ k (mkL fQ sQ k l) = k + szs sQ l := heldL_mk fQ sQ hQ hQ_fQ sQ_nn l k h
theorem mkL_Q {l : List Pos} : ∀ {k : Int} {i : Nat} {q : Pos}, (mkL fQ sQ k l)[i]? = some q → ∃ y, l[i]? = some y ∧ q.pits.length = y.pits.length ∧ q.stores.length = y.stores.length := fun {k i q} h => by
  by_cases hi : i < l.length
  · have h1 := mkL_get fQ sQ l k i l[i] (List.getElem?_eq_getElem hi)
    rw [h1] at h
    cases h
    exact ⟨_, List.getElem?_eq_getElem hi, by simp [fQ], by simp [fQ]⟩
  · rw [List.getElem?_eq_none (by rw [mkL_len]; omega)] at h; cases h
/-- all positions of a game -/
def histR (g : Gam) : List Pos := if okG g = true then playedP g else []
theorem histR_yes {g : Gam} (h : okG g = true) : histR g = playedP g := by unfold histR; rw [if_pos h]
theorem histR_no {g : Gam} (h : okG g = false) : histR g = [] := by unfold histR; rw [if_neg (by simp [h])]
theorem histR_len (g : Gam) : (histR g).length ≤ 121 := by
  cases h : okG g
  · rw [histR_no h]; simp
  · rw [histR_yes h]
    obtain ⟨k1, k2, k3, k4, k5, k6, k7, k8, k9⟩ := okG_parts h
    rw [k6, hist_length, k8]; omega
theorem histR_el {g : Gam} {k : Nat} {q : Pos} (hk : (histR g)[k]? = some q) : q.pits.length ≤ 1000 ∧ q.stores.length ≤ 1000 := by
  cases h : okG g
  · rw [histR_no h] at hk; simp at hk
  · rw [histR_yes h] at hk
    have h1 := okP_bd (hist_okG h hk)
    omega
end Go.Proofs.Ytinkeciedmjjmaa.M

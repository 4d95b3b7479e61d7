/- Plain mathematics of marks on lists of structs. -/
import Derived.Test.YtcmfnlleikcpnaaZqA2
set_option linter.unusedSimpArgs false
set_option linter.unusedVariables false
namespace Go.Proofs.Ytcmfnlleikcpnaa.M
section
variable {α : Type} (f : Int → α → α) (sz : α → Int)
def mkL : Int → List α → List α
  | _, [] => []
  | k, x :: l => f k x :: mkL (k + sz x) l
def szs : List α → Int
  | [] => 0
  | x :: l => sz x + szs l
theorem mkL_len : ∀ (k : Int) (l : List α), (mkL f sz k l).length = l.length
  | _, [] => rfl
  | k, x :: l => by rw [mkL, List.length_cons, mkL_len, List.length_cons]
theorem mkL_get : ∀ (l : List α) (k : Int) (i : Nat) (y : α), l[i]? = some y → (mkL f sz k l)[i]? = some (f (k + szs sz (l.take i)) y)
  | x :: l, k, 0, y, h => by simp at h; subst h; simp [mkL, szs]
  | x :: l, k, i + 1, y, h => by
    simp at h
    rw [mkL, List.getElem?_cons_succ, mkL_get l _ i y h, List.take_succ_cons, szs, Int.add_assoc]
  | [], _, _, _, h => by simp at h
theorem szs_step : ∀ (l : List α) (i : Nat) (y : α), l[i]? = some y → szs sz (l.take (i + 1)) = szs sz (l.take i) + sz y
  | x :: l, 0, y, h => by simp at h; subst h; simp [szs]
  | x :: l, i + 1, y, h => by
    simp at h
    rw [List.take_succ_cons, szs, szs_step l i y h, List.take_succ_cons, szs, Int.add_assoc]
  | [], _, _, h => by simp at h
def mkd2 (k : Int) (l : List α) (i : Nat) : List α := (mkL f sz k l).take i ++ l.drop i
theorem mkd2_zero (k : Int) (l : List α) : l = mkd2 f sz k l 0 := by simp [mkd2]
theorem mkd2_step {k : Int} {l : List α} {i : Nat} {y : α} (h : l[i]? = some y) : (mkd2 f sz k l i).set i (f (k + szs sz (l.take i)) y) = mkd2 f sz k l (i + 1) := by
  obtain ⟨hi, hy⟩ := List.getElem?_eq_some_iff.1 h
  have h1 : ((mkL f sz k l).take i).length = i := by rw [List.length_take, mkL_len]; omega
  unfold mkd2
  rw [List.set_append_right _ _ (by omega), h1, Nat.sub_self, List.drop_eq_getElem_cons hi, List.set_cons_zero, List.take_add_one, mkL_get f sz l k i y h]
  simp
theorem mkd2_get {k : Int} {l : List α} {i : Nat} {y : α} (h : (mkd2 f sz k l i)[i]? = some y) : l[i]? = some y := by
  by_cases hi : i < l.length
  · have h1 : ((mkL f sz k l).take i).length = i := by rw [List.length_take, mkL_len]; omega
    unfold mkd2 at h
    rw [List.getElem?_append_right (by omega), h1, Nat.sub_self, List.getElem?_drop] at h
    exact h
  · unfold mkd2 at h
    rw [List.getElem?_eq_none (by rw [List.length_append, List.length_take, mkL_len, List.length_drop]; omega)] at h
    cases h
theorem mkd2_end {k : Int} {l : List α} {i : Nat} (h : i = l.length) : mkd2 f sz k l i = mkL f sz k l := by
  subst h; unfold mkd2; rw [List.drop_length, List.append_nil, List.take_of_length_le (by rw [mkL_len]; omega)]
variable (hf : Int → α → Int)
def heldL : Int → List α → Int
  | k, [] => k
  | k, x :: l => if hf k x < 0 then -1 else heldL (hf k x) l
theorem heldL_mk (h : ∀ k x, 0 ≤ k → hf k (f k x) = k + sz x) (h0 : ∀ x, 0 ≤ sz x) : ∀ (l : List α) (k : Int), 0 ≤ k → heldL hf k (mkL f sz k l) = k + szs sz l
  | [], k, hk => by simp [mkL, heldL, szs]
  | x :: l, k, hk => by
    have := h0 x
    rw [mkL, heldL, h k x hk, if_neg (by omega), heldL_mk h h0 l _ (by omega), szs, Int.add_assoc]
theorem szs_nn (h0 : ∀ x, 0 ≤ sz x) : ∀ l : List α, 0 ≤ szs sz l
  | [] => by simp [szs]
  | x :: l => by have := szs_nn h0 l; have := h0 x; rw [szs]; omega
theorem heldL_step {l : List α} {kk X : Int} {i : Nat} {y : α} (h : heldL hf kk (l.drop i) = X) (hy : l[i]? = some y) (hn : ¬ hf kk y < 0) : heldL hf (hf kk y) (l.drop (i + 1)) = X := by
  rw [drop_some hy, heldL, if_neg hn] at h; exact h
theorem heldL_no {l : List α} {kk X : Int} {i : Nat} {y : α} (h : heldL hf kk (l.drop i) = X) (hy : l[i]? = some y) (hn : hf kk y < 0) : X = -1 := by
  rw [drop_some hy, heldL, if_pos hn] at h; exact h.symm
theorem heldL_end {l : List α} {kk X : Int} {i : Nat} (h : heldL hf kk (l.drop i) = X) (hi : l.length ≤ i) : X = kk := by
  rw [List.drop_eq_nil_of_le hi, heldL] at h; exact h.symm
end
section
variable {α : Type}
theorem upto_step {a b : List α} {k : Nat} {x : α} (h : a.take k = b.take k) (ha : a[k]? = some x) (hb : b[k]? = some x) : a.take (k + 1) = b.take (k + 1) := by
  rw [List.take_add_one, List.take_add_one, h, ha, hb]
theorem upto_done {a b : List α} {k : Nat} (h : a.take k = b.take k) (ha : a.length ≤ k) (hb : b.length ≤ k) : a = b := by
  rwa [List.take_of_length_le ha, List.take_of_length_le hb] at h
theorem upto_ne {a b : List α} {k : Nat} {x y : α} (ha : a[k]? = some x) (hb : b[k]? = some y) (h : x ≠ y) : a ≠ b := by
  rintro rfl; rw [ha] at hb; cases hb; exact h rfl
end
def hQ (k : Int) (p : Pos) : Int := if held p.pits k < 0 then -1 else if held p.stores (held p.pits k) < 0 then -1 else if p.player ≠ held p.stores (held p.pits k) then -1 else held p.stores (held p.pits k) + 1
end Go.Proofs.Ytcmfnlleikcpnaa.M

namespace Go.Proofs.Ytcmfnlleikcpnaa.M
section
variable {α : Type}
def cpS (z : α) (a : List α) (k : Nat) : List α := a.take k ++ List.replicate (a.length - k) z
theorem cpS_zero (z : α) (a : List α) : List.replicate a.length z = cpS z a 0 := by simp [cpS]
theorem cpS_step {z y : α} {a : List α} {k : Nat} (h : a[k]? = some y) : (cpS z a k).set k y = cpS z a (k + 1) := by
  obtain ⟨hk, rfl⟩ := List.getElem?_eq_some_iff.1 h
  have h1 : (a.take k).length = k := by rw [List.length_take]; omega
  unfold cpS
  have e : a.take (k + 1) = a.take k ++ [a[k]] := by rw [List.take_add_one, List.getElem?_eq_getElem hk]; rfl
  rw [List.set_append_right _ _ (by omega), h1, Nat.sub_self, e, show a.length - k = (a.length - (k + 1)) + 1 by omega, List.replicate_succ, List.set_cons_zero, List.append_assoc]
  rfl
theorem cpS_all {z : α} {a : List α} {k : Nat} (h : a.length ≤ k) : cpS z a k = a := by
  unfold cpS; rw [List.take_of_length_le h, show a.length - k = 0 by omega]; simp
end
theorem cho_set {cs : List Cho} {k : Nat} {y : Cho} (h : k < cs.length) : cho (cs.set k y) k = y := by simp [cho, List.getD, h]
theorem cho_ext {a b : Cho} (h1 : a.move = b.move) (h2 : a.games = b.games) (h3 : a.score = b.score) : a = b := by cases a; cases b; simp_all
theorem ent_ext {a b : Ent} (h1 : a.pits = b.pits) (h2 : a.choices = b.choices) : a = b := by cases a; cases b; simp_all
theorem boo_ext {a b : Boo} (h1 : a.rules = b.rules) (h2 : a.entries = b.entries) : a = b := by cases a; cases b; simp_all
def totE : List Ent → Nat
  | [] => 0
  | e :: es => e.pits.length + e.choices.length + totE es
theorem totE_app : ∀ (a b : List Ent), totE (a ++ b) = totE a + totE b
  | [], b => by simp [totE]
  | e :: a, b => by rw [List.cons_append, totE, totE_app a b, totE]; omega
theorem totE_step {es : List Ent} {i : Nat} (h : i < es.length) : totE (es.take (i + 1)) = totE (es.take i) + ((ent es i).pits.length + (ent es i).choices.length) := by
  rw [List.take_add_one, ent_get h, totE_app]; simp [totE]
theorem totE_le (es : List Ent) (i : Nat) : totE (es.take i) ≤ totE es := by
  conv => rhs; rw [← List.take_append_drop i es, totE_app]
  omega
theorem totE_mem {es : List Ent} {x : Ent} (h : x ∈ es) : x.pits.length + x.choices.length ≤ totE es := by
  induction es with
  | nil => simp at h
  | cons e es ih =>
    rcases List.mem_cons.1 h with rfl | h
    · rw [totE]; omega
    · have := ih h; rw [totE]; omega
theorem totE_small {es : List Ent} {n : Nat} (h : totE es ≤ n) : ∀ x ∈ es, x.pits.length ≤ n ∧ x.choices.length ≤ n := fun x hx => by have := totE_mem hx; omega
def fC (k : Int) (_ : Cho) : Cho := ⟨k, k + 1, k + 2⟩
def sC (_ : Cho) : Int := 3
def hC (k : Int) (x : Cho) : Int := if x.move ≠ k then -1 else if x.games ≠ k + 1 then -1 else if x.score ≠ k + 2 then -1 else k + 3
theorem szs_C : ∀ l : List Cho, szs sC l = 3 * (l.length : Int)
  | [] => rfl
  | x :: l => by rw [szs, szs_C l, List.length_cons, sC]; omega
theorem hC_fC (k : Int) (x : Cho) (_ : 0 ≤ k) : hC k (fC k x) = k + sC x := by simp [hC, fC, sC]
theorem hC_1 {k : Int} {x : Cho} (h : x.move ≠ k) : hC k x = -1 := by unfold hC; rw [if_pos h]
theorem hC_2 {k : Int} {x : Cho} (h : x.move = k) (h2 : x.games ≠ k + 1) : hC k x = -1 := by unfold hC; rw [if_neg (by simpa using h), if_pos h2]
theorem hC_3 {k : Int} {x : Cho} (h : x.move = k) (h2 : x.games = k + 1) (h3 : x.score ≠ k + 2) : hC k x = -1 := by unfold hC; rw [if_neg (by simpa using h), if_neg (by simpa using h2), if_pos h3]
theorem hC_0 {k : Int} {x : Cho} (h : x.move = k) (h2 : x.games = k + 1) (h3 : x.score = k + 2) : hC k x = k + 3 := by unfold hC; rw [if_neg (by simpa using h), if_neg (by simpa using h2), if_neg (by simpa using h3)]
theorem held_C (l : List Cho) {k : Int} (h : 0 ≤ k) : heldL hC k (mkL fC sC k l) = k + 3 * (l.length : Int) := by
  rw [heldL_mk fC sC hC hC_fC (fun _ => by simp [sC]) l k h, szs_C]
def fE (k : Int) (e : Ent) : Ent := ⟨up k e.pits.length, mkL fC sC (k + e.pits.length) e.choices⟩
def sE (e : Ent) : Int := e.pits.length + 3 * e.choices.length
def hE (k : Int) (e : Ent) : Int := if held e.pits k < 0 then -1 else if heldL hC (held e.pits k) e.choices < 0 then -1 else heldL hC (held e.pits k) e.choices
theorem sE_nn (e : Ent) : 0 ≤ sE e := by unfold sE; omega
theorem szs_E_le (l : List Ent) : szs sE l ≤ 3 * (totE l : Int) := by
  induction l with
  | nil => simp [szs, totE]
  | cons e l ih => rw [szs, totE, sE]; omega
theorem szs_E_take (l : List Ent) (i : Nat) : szs sE (l.take i) ≤ 3 * (totE l : Int) := by
  have := szs_E_le (l.take i); have := totE_le l i; omega
theorem szs_E_nn (l : List Ent) : 0 ≤ szs sE l := szs_nn sE sE_nn l
end Go.Proofs.Ytcmfnlleikcpnaa.M

namespace Go.Proofs.Ytcmfnlleikcpnaa.M
theorem cmpL_neg : ∀ a b : List Int, cmpL a b = -cmpL b a
  | [], [] => rfl
  | [], _ :: _ => rfl
  | _ :: _, [] => rfl
  | a :: x, b :: y => by
    rw [cmpL, cmpL]
    by_cases h1 : a < b
    · rw [if_pos h1, if_neg (by omega), if_pos h1]
    · rw [if_neg h1]
      by_cases h2 : b < a
      · rw [if_pos h2, if_pos h2]; rfl
      · rw [if_neg h2, if_neg h2, if_neg h1]; exact cmpL_neg x y
theorem cmpL_trans : ∀ {a b c : List Int}, cmpL a b < 0 → cmpL b c < 0 → cmpL a c < 0
  | [], [], _, h, _ => by simp [cmpL] at h
  | _ :: _, [], _, h, _ => by simp [cmpL] at h
  | _, _ :: _, [], _, h => by simp [cmpL] at h
  | [], _ :: _, _ :: _, _, _ => by simp [cmpL]
  | a :: x, b :: y, c :: z, h1, h2 => by
    rw [cmpL] at h1 h2 ⊢
    by_cases e1 : a < b
    · by_cases e2 : b < c
      · rw [if_pos (by omega)]; omega
      · rw [if_neg e2] at h2
        by_cases e3 : c < b
        · rw [if_pos e3] at h2; omega
        · rw [if_pos (by omega)]; omega
    · rw [if_neg e1] at h1
      by_cases e4 : b < a
      · rw [if_pos e4] at h1; omega
      · rw [if_neg e4] at h1
        have : a = b := by omega
        subst this
        by_cases e2 : a < c
        · rw [if_pos e2]; omega
        · rw [if_neg e2] at h2 ⊢
          by_cases e3 : c < a
          · rw [if_pos e3] at h2; omega
          · rw [if_neg e3] at h2 ⊢; exact cmpL_trans h1 h2
def viewP (r : Rul) (p : Pos) : Pos := if p.player = 0 then p else turnP r p
theorem viewP_0 {r : Rul} {p : Pos} (h : p.player = 0) : viewP r p = p := by unfold viewP; rw [if_pos h]
theorem viewP_1 {r : Rul} {p : Pos} (h : ¬ p.player = 0) : viewP r p = turnP r p := by unfold viewP; rw [if_neg h]
theorem viewP_len {r : Rul} {p : Pos} (h : okP r p = true) : (viewP r p).pits.length ≤ 4194304 ∧ (viewP r p).stores.length ≤ 4194304 := by
  have hb := okP_bd h
  unfold viewP; split
  · omega
  · simp [turnP]; omega
def lookE : List Ent → List Int → List Cho
  | [], _ => []
  | e :: es, pits => if e.pits = pits then e.choices else lookE es pits
theorem lookE_step {es : List Ent} {pits : List Int} {k : Nat} (h : lookE (es.drop k) pits = lookE es pits) (hk : k < es.length) (hn : (ent es k).pits ≠ pits) : lookE (es.drop (k + 1)) pits = lookE es pits := by
  rw [drop_some (ent_get hk), lookE, if_neg hn] at h; exact h
theorem lookE_hit {es : List Ent} {pits : List Int} {k : Nat} (h : lookE (es.drop k) pits = lookE es pits) (hk : k < es.length) (hn : (ent es k).pits = pits) : lookE es pits = (ent es k).choices := by
  rw [← h, drop_some (ent_get hk), lookE, if_pos hn]
theorem lookE_end {es : List Ent} {pits : List Int} {k : Nat} (h : lookE (es.drop k) pits = lookE es pits) (hk : es.length ≤ k) : lookE es pits = [] := by
  rw [← h, List.drop_eq_nil_of_le hk]; rfl
def findE : List Ent → List Int → Nat
  | [], _ => 0
  | e :: es, pits => if 0 ≤ cmpL e.pits pits then 0 else findE es pits + 1
theorem findE_step {es : List Ent} {pits : List Int} {k : Nat} (h : k + findE (es.drop k) pits = findE es pits) (hk : k < es.length) (hn : ¬ 0 ≤ cmpL (ent es k).pits pits) : k + 1 + findE (es.drop (k + 1)) pits = findE es pits := by
  rw [drop_some (ent_get hk), findE, if_neg hn] at h; omega
theorem findE_hit {es : List Ent} {pits : List Int} {k : Nat} (h : k + findE (es.drop k) pits = findE es pits) (hk : k < es.length) (hn : 0 ≤ cmpL (ent es k).pits pits) : findE es pits = k := by
  rw [← h, drop_some (ent_get hk), findE, if_pos hn]; rfl
theorem findE_end {es : List Ent} {pits : List Int} {k : Nat} (h : k + findE (es.drop k) pits = findE es pits) (hk : es.length ≤ k) (hk2 : k ≤ es.length) : findE es pits = es.length := by
  rw [← h, List.drop_eq_nil_of_le hk]; show k + 0 = _; omega
def hasE (es : List Ent) (pits : List Int) : Bool := decide (findE es pits < es.length) && decide (cmpL (ent es (findE es pits)).pits pits = 0)
theorem hasE_hit {es : List Ent} {pits : List Int} {k : Nat} (h : findE es pits = k) (hk : k < es.length) : hasE es pits = decide (cmpL (ent es k).pits pits = 0) := by
  unfold hasE; rw [h, decide_eq_true hk]; simp
theorem hasE_end {es : List Ent} {pits : List Int} (h : findE es pits = es.length) : hasE es pits = false := by
  unfold hasE; rw [h]; simp
theorem hasE_lt {es : List Ent} {pits : List Int} (h : hasE es pits = true) : findE es pits < es.length := by
  unfold hasE at h; simp only [Bool.and_eq_true, decide_eq_true_eq] at h; exact h.1
theorem hasE_look {es : List Ent} {pits : List Int} (h : hasE es pits = true) : lookE es pits = (ent es (findE es pits)).choices := by
  induction es with
  | nil => simp [hasE] at h
  | cons e es ih =>
    have hlt := hasE_lt h
    unfold hasE at h
    rw [findE] at h hlt ⊢
    rw [lookE]
    by_cases hc : 0 ≤ cmpL e.pits pits
    · rw [if_pos hc] at h ⊢
      have he : e.pits = pits := by
        simp only [Bool.and_eq_true, decide_eq_true_eq] at h
        exact cmpL_eq.1 h.2
      rw [if_pos he]; rfl
    · rw [if_neg hc] at h ⊢
      rw [if_neg (fun he => hc (by rw [cmpL_eq.2 he]; omega))]
      exact ih (by unfold hasE; simpa [ent] using h)
def SortE (es : List Ent) : Prop := ∀ i j, i < j → j < es.length → cmpL (ent es i).pits (ent es j).pits < 0
theorem sortE_of {r : Rul} {es : List Ent} (h : (List.range es.length).all (entAt r es) = true) : SortE es := by
  intro i j hij hj
  induction j with
  | zero => omega
  | succ j ih =>
    have h1 : cmpL (ent es j).pits (ent es (j + 1)).pits < 0 := by
      have := all_at h hj
      unfold entAt at this
      simp only [Bool.and_eq_true, Bool.or_eq_true, decide_eq_true_eq] at this
      rcases this.1 with h0 | h0
      · omega
      · exact h0
    by_cases e : i = j
    · rw [e]; exact h1
    · exact cmpL_trans (ih (by omega) (by omega)) h1
theorem SortE.tail {e : Ent} {es : List Ent} (h : SortE (e :: es)) : SortE es := fun i j hij hj => by
  have := h (i + 1) (j + 1) (by omega) (by simp; omega)
  simpa [ent] using this
theorem look_none {es : List Ent} {pits : List Int} (hs : SortE es) (h : hasE es pits = false) : lookE es pits = [] := by
  induction es with
  | nil => rfl
  | cons e es ih =>
    rw [lookE]
    by_cases hc : 0 ≤ cmpL e.pits pits
    · have hne : ¬ e.pits = pits := fun he => by
        unfold hasE at h
        rw [findE, if_pos hc] at h
        have : cmpL (ent (e :: es) 0).pits pits = 0 := cmpL_eq.2 he
        simp [this] at h
      rw [if_neg hne]
      have hgt : cmpL pits e.pits < 0 := by
        rw [cmpL_neg]
        have : cmpL e.pits pits ≠ 0 := fun h0 => hne (cmpL_eq.1 h0)
        omega
      -- none behind it is the same
      have key : ∀ l : List Ent, (∀ x ∈ l, cmpL pits x.pits < 0) → lookE l pits = [] := fun l => by
        induction l with
        | nil => exact fun _ => rfl
        | cons x l ih =>
          intro hx
          rw [lookE, if_neg]
          · exact ih fun y hy => hx y (by simp [hy])
          · intro he
            have := hx x (by simp)
            rw [← he, cmpL_eq.2 rfl] at this; omega
      refine key es fun x hx => ?_
      obtain ⟨i, hi⟩ := List.mem_iff_getElem?.1 hx
      have hil := (List.getElem?_eq_some_iff.1 hi).1
      have := hs 0 (i + 1) (by omega) (by simp; omega)
      have e1 : ent (e :: es) (i + 1) = x := by simp [ent, List.getD, hi]
      rw [e1] at this
      exact cmpL_trans hgt this
    · rw [if_neg (fun he => hc (by rw [cmpL_eq.2 he]; omega))]
      refine ih hs.tail ?_
      unfold hasE at h ⊢
      rw [findE, if_neg hc] at h
      simpa [ent] using h
theorem lookE_mem {es : List Ent} {pits : List Int} {n : Nat} (h : ∀ x ∈ es, x.choices.length ≤ n) : (lookE es pits).length ≤ n := by
  induction es with
  | nil => simp [lookE]
  | cons e es ih =>
    rw [lookE]; split
    · exact h e (by simp)
    · exact ih fun x hx => h x (by simp [hx])
theorem lookE_ok {r : Rul} {es : List Ent} {pits : List Int} (h : ∀ x ∈ es, okE r x = true) : lookE es pits = [] ∨ ∃ x ∈ es, x.pits = pits ∧ lookE es pits = x.choices := by
  induction es with
  | nil => exact .inl rfl
  | cons e es ih =>
    rw [lookE]; split
    · rename_i he; exact .inr ⟨e, by simp, he, rfl⟩
    · rcases ih fun x hx => h x (by simp [hx]) with h1 | ⟨x, h1, h2⟩
      · exact .inl h1
      · exact .inr ⟨x, by simp [h1], h2⟩
theorem okB_all {b : Boo} (h : okB b = true) : ∀ x ∈ b.entries, okE b.rules x = true := fun x hx => by
  obtain ⟨i, hi⟩ := List.mem_iff_getElem?.1 hx
  have hil := (List.getElem?_eq_some_iff.1 hi).1
  have := okB_ent h hil
  rwa [show ent b.entries i = x by simp [ent, List.getD, hi]] at this
theorem okB_sort {b : Boo} (h : okB b = true) : SortE b.entries := sortE_of (okB_parts h).2.2
def ChoB (l : List Cho) : Prop := ∀ x ∈ l, 1 ≤ x.games ∧ x.games ≤ 1000000 ∧ 0 ≤ x.score ∧ x.score ≤ 2000000
theorem okCs_b {r : Rul} {p : Pos} {cs : List Cho} (h : okCs r p cs = true) : ChoB cs := fun x hx => by
  obtain ⟨i, hi⟩ := List.mem_iff_getElem?.1 hx
  have hil := (List.getElem?_eq_some_iff.1 hi).1
  have := all_at h hil
  unfold chAt at this
  simp only [Bool.and_eq_true] at this
  rw [show cho cs i = x by simp [cho, List.getD, hi]] at this
  have h1 := betw_iff.1 this.1.2
  have h2 := betw_iff.1 this.2
  omega
theorem lookE_b {b : Boo} (h : okB b = true) (pits : List Int) : ChoB (lookE b.entries pits) := by
  rcases lookE_ok (pits := pits) (okB_all h) with h1 | ⟨x, h1, _, h2⟩
  · rw [h1]; exact fun _ h => by simp at h
  · rw [h2]; exact okCs_b (okE_parts (okB_all h x h1)).2.2
def better (c t : Cho) : Bool := decide (t.score * c.games < c.score * t.games) || (decide (c.score * t.games = t.score * c.games) && decide (t.games < c.games))
theorem better_self (c : Cho) : better c c = false := by unfold better; simp
def cbF (b : Cho) : List Cho → Cho
  | [] => b
  | c :: l => cbF (if better c b = true then c else b) l
def cbest (l : List Cho) : Cho := cbF (cho l 0) l
theorem cbF_yes {l : List Cho} {b : Cho} {k : Nat} {X : Cho} (h : cbF b (l.drop k) = X) (hk : k < l.length) (hb : better (cho l k) b = true) : cbF (cho l k) (l.drop (k + 1)) = X := by
  rw [drop_some (cho_get hk), cbF, if_pos hb] at h; exact h
theorem cbF_no {l : List Cho} {b : Cho} {k : Nat} {X : Cho} (h : cbF b (l.drop k) = X) (hk : k < l.length) (hb : better (cho l k) b = false) : cbF b (l.drop (k + 1)) = X := by
  rw [drop_some (cho_get hk), cbF, if_neg (by simp [hb])] at h; exact h
theorem cbF_end {l : List Cho} {b : Cho} {k : Nat} {X : Cho} (h : cbF b (l.drop k) = X) (hk : l.length ≤ k) : X = b := by
  rw [List.drop_eq_nil_of_le hk] at h; exact h.symm
theorem cbest_one {l : List Cho} (h : 0 < l.length) : cbF (cho l 0) (l.drop 1) = cbest l := by
  unfold cbest
  have : l = cho l 0 :: l.drop 1 := by
    have := drop_some (cho_get h); simpa using this
  conv => rhs; rw [this]
  rw [cbF]
  have e : cho (cho l 0 :: List.drop 1 l) 0 = cho l 0 := rfl
  rw [e, better_self]; rfl
theorem mulC_bd {a b : Int} (h1 : 0 ≤ a) (h2 : a ≤ 2000000) (h3 : 1 ≤ b) (h4 : b ≤ 1000000) : 0 ≤ a * b ∧ a * b ≤ 2000000000000 := by
  constructor
  · exact Int.mul_nonneg h1 (by omega)
  · have := Int.mul_le_mul h2 h4 (by omega) (by omega); omega
def lookR (b : Boo) (p : Pos) : List Cho := if okB b = true ∧ okP b.rules p = true then lookE b.entries (viewP b.rules p).pits else []
def lookC (b : Boo) (p : Pos) : Int := if okB b = true ∧ okP b.rules p = true then (if (lookE b.entries (viewP b.rules p).pits).length = 0 then 3 else 0) else 1
theorem lookR_no {b : Boo} {p : Pos} (h : ¬ (okB b = true ∧ okP b.rules p = true)) : lookR b p = [] := by unfold lookR; rw [if_neg h]
theorem lookR_len {b : Boo} {p : Pos} {n : Nat} (h : ∀ x ∈ b.entries, x.pits.length ≤ n ∧ x.choices.length ≤ n) : (lookR b p).length ≤ n := by
  unfold lookR; split
  · exact lookE_mem fun x hx => (h x hx).2
  · simp
theorem lookC_no {b : Boo} {p : Pos} (h : ¬ (okB b = true ∧ okP b.rules p = true)) : lookC b p = 1 := by unfold lookC; rw [if_neg h]
theorem lookR_yes {b : Boo} {p : Pos} (h : okB b = true ∧ okP b.rules p = true) : lookR b p = lookE b.entries (viewP b.rules p).pits := by unfold lookR; rw [if_pos h]
theorem lookC_0 {b : Boo} {p : Pos} (h : okB b = true ∧ okP b.rules p = true) (h0 : ¬ (lookE b.entries (viewP b.rules p).pits).length = 0) : lookC b p = 0 := by unfold lookC; rw [if_pos h, if_neg h0]
theorem lookC_3 {b : Boo} {p : Pos} (h : okB b = true ∧ okP b.rules p = true) (h0 : (lookE b.entries (viewP b.rules p).pits).length = 0) : lookC b p = 3 := by unfold lookC; rw [if_pos h, if_pos h0]
theorem lookC_ok {b : Boo} {p : Pos} (h : lookC b p = 0) : (okB b = true ∧ okP b.rules p = true) ∧ ¬ (lookE b.entries (viewP b.rules p).pits).length = 0 := by
  by_cases h1 : okB b = true ∧ okP b.rules p = true
  · refine ⟨h1, fun h0 => ?_⟩
    rw [lookC_3 h1 h0] at h; omega
  · rw [lookC_no h1] at h; omega
def chooseR (b : Boo) (p : Pos) : Int := if lookC b p = 0 then (cbest (lookE b.entries (viewP b.rules p).pits)).move else 0
theorem chooseR_0 {b : Boo} {p : Pos} (h : lookC b p = 0) : chooseR b p = (cbest (lookE b.entries (viewP b.rules p).pits)).move := by unfold chooseR; rw [if_pos h]
theorem chooseR_n {b : Boo} {p : Pos} (h : ¬ lookC b p = 0) : chooseR b p = 0 := by unfold chooseR; rw [if_neg h]
theorem has_len {b : Boo} {pits : List Int} (h : okB b = true) (hh : hasE b.entries pits = true) : 0 < (lookE b.entries pits).length := by
  rw [hasE_look hh]
  exact (okE_parts (okB_ent h (hasE_lt hh))).2.1
end Go.Proofs.Ytcmfnlleikcpnaa.M

namespace Go.Proofs.Ytcmfnlleikcpnaa
open Go.RowKit
def RX (w : World) (R : Value → Prop) (e : Ending) (w' : World) : Prop := ∃ v, e = .returned v ∧ R v ∧ Ext w w'
def RetX (P : Program) (f : FuncId) (args : List Value) (w : World) (R : Value → Prop) : Prop := Calls P f args.toArray w (RX w R)
section
variable {P : Program} {n lo : Nat} {B : List Nat} {Q : Exit → Act → World → Prop} {cs : List Code} {K : Act → World → Prop} {ops : Array Oper} {rest : List Oper} {l : Fr} {os os' os1 : List Own} {u : World} {ty : TypeId} {pos : String} {af : Array Edge} {gd : Option (Nat × Bool)} {dst : Option Tmp} {v : Value} {d : Nat}
theorem e_callX {f : FuncId} {xs : List Operand} {ts : Array TypeId} {vs : List Value} {R : World → Value → Prop} {R' : Value → Prop} (hf : goodF P f = true) (hx : opds l xs = some vs) (hc : ∀ w, St lo B u w os → RetX P f vs w (R w)) (hk : ∀ w v, St lo B u w os → R w v → R' v) :
    OpE P n lo B l os u ⟨dst, .call { callee := .value (.func f), args := xs.toArray, argTypes := ts }, ty, pos, af, gd⟩ true (fun v' os' u' => R' v' ∧ os' = os ∧ u = u') := fun a w ha hw K Q hq => by
  unfold Oper.wp
  rw [run_call hf ha hx, Oper.upon_enter]
  refine Calls.mono (hc w hw) fun e w' h => ?_
  obtain ⟨v, rfl, hR, hxt⟩ := h
  exact hq v _ u w' ⟨hk w v hw hR, rfl, rfl⟩ (Up.refl lo u) (hw.call hxt) (fun _ => hxt)
theorem zxc {f : FuncId} {xs : List Operand} {ts : Array TypeId} {vs : List Value} {R : World → Value → Prop} (R' : Value → Prop) [hf : FnI P f] (hx : opds l xs = some vs) (hc : ∀ w, St lo B u w os → RetX P f vs w (R w)) (hk : ∀ w v, St lo B u w os → R w v → R' v)
    (k : ∀ v, R' v → JL P n lo B K ops rest ((d, v) :: l) os u) (hn : Nat.blt d n = true := by rfl) :
    JL P n lo B K ops (⟨some d, .call { callee := .value (.func f), args := xs.toArray, argTypes := ts }, ty, pos, af, none⟩ :: rest) l os u := JL.e (e_callX hf.h hx hc hk) (by rintro v _ _ ⟨h, rfl, rfl⟩ _; exact k v h) rfl rfl hn
theorem zX {fn : Func} {R : Value → Prop} {w₀ : World} {rs : List ResultVar} {vs : List Value} (x : Up w₀.heap.size w₀ u) (h : R v) (hq : RetQ P fn (RX w₀ R) Q := by exact rq_) (hr : fn.results = rs.toArray := by rfl) (hv : ResOk P n w₀.heap.size [] l os u rs vs := by exact rs_) (ho : OutV vs v := by exact ov_) : Js P n w₀.heap.size [] Q (.ret :: cs) l os u :=
  Js.ret hr hq.eq hv fun w hw => by rw [ho.eq]; exact ⟨v, rfl, h, hw.ext x⟩
end
def EltAt (w : World) (sz : Nat) (A : Option Addr) (n c k : Nat) (vs : List Value) : Prop := ∃ b o, elemA sz (.slice A n c) k = some ⟨b, o, none⟩ ∧ RowAt w b o vs
theorem alias_ent {lo : Nat} {B : List Nat} {os : List Own} {u w : World} {e e' c k : Nat} {A : Option Addr} {es : List M.Ent} {x y : Value} (hw : St lo B u w os) (h : (Ty.sl e 2 es.length (lBookEntry es)).ok u (.slice A es.length c)) (hk : k < es.length) (hx : EltAt w 2 A es.length c k [y, x]) :
    ∃ A' c', x = .slice A' (M.ent es k).choices.length c' ∧ (Ty.sl e' 3 (M.ent es k).choices.length (lChoice (M.ent es k).choices)).ok u (.slice A' (M.ent es k).choices.length c') ∧ (M.ent es k).choices.length ≤ c' ∧ c' ≤ 9223372036854775807 := by
  obtain ⟨b, o, h1, h2⟩ := hx
  obtain ⟨b', o', A0, c0, A1, c1, h3, h4, h5, h6, _, _, h8, h9⟩ := elem_BookEntry h (M.ent_get hk)
  rw [h3] at h1
  injection h1 with h1
  injection h1 with h1 h10 _
  subst h1; subst h10
  have ha := (h4.vis hw.vis) 1 _ rfl
  have hb := h2 1 x rfl
  exact ⟨A1, c1, hb.uniq ha, h6, h8, h9⟩
end Go.Proofs.Ytcmfnlleikcpnaa


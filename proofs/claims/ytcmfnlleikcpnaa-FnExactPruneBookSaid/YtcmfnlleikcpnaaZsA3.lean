/- Plain mathematics of books: copies, sizes, marks. -/
import Derived.Test.YtcmfnlleikcpnaaZsA2
set_option linter.unusedSimpArgs false
set_option linter.unusedVariables false
namespace Go.Proofs.Ytcmfnlleikcpnaa.M
section
variable {α : Type}
def cpS (z : α) (a : List α) (k : Nat) : List α := a.take k ++ List.replicate (a.length - k) z
theorem cpS_zero (z : α) (a : List α) : List.replicate a.length z = cpS z a 0 := by simp [cpS]
theorem cpS_step {z y : α} {a : List α} {k : Nat} (h : a[k]? = some y) : (cpS z a k).set k y = cpS z a (k + 1) := by
  obtain ⟨hk, rfl⟩ := List.getElem?_eq_some_iff.1 h
  have h1 : (a.take k).length = k := by rw [List.length_take]; omega
  unfold cpS
  have e : a.take (k + 1) = a.take k ++ [a[k]] := by rw [List.take_add_one, List.getElem?_eq_getElem hk]; rfl
  rw [List.set_append_right _ _ (by omega), h1, Nat.sub_self, e, show a.length - k = (a.length - (k + 1)) + 1 by omega, List.replicate_succ, List.set_cons_zero, List.append_assoc]
  rfl
theorem cpS_all {z : α} {a : List α} {k : Nat} (h : a.length ≤ k) : cpS z a k = a := by
  unfold cpS; rw [List.take_of_length_le h, show a.length - k = 0 by omega]; simp
end
theorem cho_set {cs : List Cho} {k : Nat} {y : Cho} (h : k < cs.length) : cho (cs.set k y) k = y := by simp [cho, List.getD, h]
theorem cho_ext {a b : Cho} (h1 : a.move = b.move) (h2 : a.games = b.games) (h3 : a.score = b.score) : a = b := by cases a; cases b; simp_all
theorem ent_ext {a b : Ent} (h1 : a.pits = b.pits) (h2 : a.choices = b.choices) : a = b := by cases a; cases b; simp_all
theorem boo_ext {a b : Boo} (h1 : a.rules = b.rules) (h2 : a.entries = b.entries) : a = b := by cases a; cases b; simp_all
def totE : List Ent → Nat
  | [] => 0
  | e :: es => e.pits.length + e.choices.length + totE es
theorem totE_app : ∀ (a b : List Ent), totE (a ++ b) = totE a + totE b
  | [], b => by simp [totE]
  | e :: a, b => by rw [List.cons_append, totE, totE_app a b, totE]; omega
theorem totE_step {es : List Ent} {i : Nat} (h : i < es.length) : totE (es.take (i + 1)) = totE (es.take i) + ((ent es i).pits.length + (ent es i).choices.length) := by
  rw [List.take_add_one, ent_get h, totE_app]; simp [totE]
theorem totE_le (es : List Ent) (i : Nat) : totE (es.take i) ≤ totE es := by
  conv => rhs; rw [← List.take_append_drop i es, totE_app]
  omega
theorem totE_mem {es : List Ent} {x : Ent} (h : x ∈ es) : x.pits.length + x.choices.length ≤ totE es := by
  induction es with
  | nil => simp at h
  | cons e es ih =>
    rcases List.mem_cons.1 h with rfl | h
    · rw [totE]; omega
    · have := ih h; rw [totE]; omega
theorem totE_small {es : List Ent} {n : Nat} (h : totE es ≤ n) : ∀ x ∈ es, x.pits.length ≤ n ∧ x.choices.length ≤ n := fun x hx => by have := totE_mem hx; omega
def fC (k : Int) (_ : Cho) : Cho := ⟨k, k + 1, k + 2⟩
def sC (_ : Cho) : Int := 3
def hC (k : Int) (x : Cho) : Int := if x.move ≠ k then -1 else if x.games ≠ k + 1 then -1 else if x.score ≠ k + 2 then -1 else k + 3
theorem szs_C : ∀ l : List Cho, szs sC l = 3 * (l.length : Int)
  | [] => rfl
  | x :: l => by rw [szs, szs_C l, List.length_cons, sC]; omega
theorem hC_fC (k : Int) (x : Cho) (_ : 0 ≤ k) : hC k (fC k x) = k + sC x := by simp [hC, fC, sC]
theorem hC_1 {k : Int} {x : Cho} (h : x.move ≠ k) : hC k x = -1 := by unfold hC; rw [if_pos h]
theorem hC_2 {k : Int} {x : Cho} (h : x.move = k) (h2 : x.games ≠ k + 1) : hC k x = -1 := by unfold hC; rw [if_neg (by simpa using h), if_pos h2]
theorem hC_3 {k : Int} {x : Cho} (h : x.move = k) (h2 : x.games = k + 1) (h3 : x.score ≠ k + 2) : hC k x = -1 := by unfold hC; rw [if_neg (by simpa using h), if_neg (by simpa using h2), if_pos h3]
theorem hC_0 {k : Int} {x : Cho} (h : x.move = k) (h2 : x.games = k + 1) (h3 : x.score = k + 2) : hC k x = k + 3 := by unfold hC; rw [if_neg (by simpa using h), if_neg (by simpa using h2), if_neg (by simpa using h3)]
theorem held_C (l : List Cho) {k : Int} (h : 0 ≤ k) : heldL hC k (mkL fC sC k l) = k + 3 * (l.length : Int) := by
  rw [heldL_mk fC sC hC hC_fC (fun _ => by simp [sC]) l k h, szs_C]
theorem heldC_bd : ∀ (l : List Cho) {k : Int}, 0 ≤ k → -1 ≤ heldL hC k l ∧ heldL hC k l ≤ k + 3 * (l.length : Int)
  | [], k, h => by simp [heldL]; omega
  | x :: l, k, h => by
    have hb : hC k x = -1 ∨ hC k x = k + 3 := by
      by_cases h1 : x.move = k
      · by_cases h2 : x.games = k + 1
        · by_cases h3 : x.score = k + 2
          · exact .inr (hC_0 h1 h2 h3)
          · exact .inl (hC_3 h1 h2 h3)
        · exact .inl (hC_2 h1 h2)
      · exact .inl (hC_1 h1)
    rw [heldL, List.length_cons]
    rcases hb with hb | hb
    · rw [if_pos (by omega)]; omega
    · rw [if_neg (by omega), hb]
      have := heldC_bd l (k := k + 3) (by omega); omega
def fE (k : Int) (e : Ent) : Ent := ⟨up k e.pits.length, mkL fC sC (k + e.pits.length) e.choices⟩
def sE (e : Ent) : Int := e.pits.length + 3 * e.choices.length
def hE (k : Int) (e : Ent) : Int := if held e.pits k < 0 then -1 else if heldL hC (held e.pits k) e.choices < 0 then -1 else heldL hC (held e.pits k) e.choices
theorem sE_nn (e : Ent) : 0 ≤ sE e := by unfold sE; omega
theorem hE_fE (k : Int) (e : Ent) (h : 0 ≤ k) : hE k (fE k e) = k + sE e := by
  unfold hE fE sE
  rw [held_up, if_neg (by omega), held_C _ (by omega), if_neg (by omega)]; omega
theorem hE_1 {k : Int} {x : Ent} (h : held x.pits k < 0) : hE k x = -1 := by unfold hE; rw [if_pos h]
theorem hE_2 {k : Int} {x : Ent} (h : ¬ held x.pits k < 0) (h2 : heldL hC (held x.pits k) x.choices < 0) : hE k x = -1 := by unfold hE; rw [if_neg h, if_pos h2]
theorem hE_0 {k : Int} {x : Ent} (h : ¬ held x.pits k < 0) (h2 : ¬ heldL hC (held x.pits k) x.choices < 0) : hE k x = heldL hC (held x.pits k) x.choices := by unfold hE; rw [if_neg h, if_neg h2]
theorem held_E (l : List Ent) {k : Int} (h : 0 ≤ k) : heldL hE k (mkL fE sE k l) = k + szs sE l := heldL_mk fE sE hE hE_fE sE_nn l k h
theorem szs_E_le (l : List Ent) : szs sE l ≤ 3 * (totE l : Int) := by
  induction l with
  | nil => simp [szs, totE]
  | cons e l ih => rw [szs, totE, sE]; omega
theorem szs_E_take (l : List Ent) (i : Nat) : szs sE (l.take i) ≤ 3 * (totE l : Int) := by
  have := szs_E_le (l.take i); have := totE_le l i; omega
theorem szs_E_nn (l : List Ent) : 0 ≤ szs sE l := szs_nn sE sE_nn l
theorem heldE_bd : ∀ (l : List Ent) {k : Int}, 0 ≤ k → -1 ≤ heldL hE k l
  | [], k, h => by simp [heldL]; omega
  | x :: l, k, h => by
    rw [heldL]; split
    · omega
    · rename_i hn; exact heldE_bd l (by omega)
theorem totE_mk (l : List Ent) (k : Int) : totE (mkL fE sE k l) = totE l := by
  induction l generalizing k with
  | nil => rfl
  | cons e l ih => rw [mkL, totE, totE, ih]; simp [fE, mkL_len]
end Go.Proofs.Ytcmfnlleikcpnaa.M

namespace Go.Proofs.Ytcmfnlleikcpnaa.M
def prC (lo : Int) (cs : List Cho) : List Cho := cs.filter (fun c => decide (lo ≤ c.games))
def prE (lo : Int) (es : List Ent) : List Ent := (es.map (fun e => (⟨e.pits, prC lo e.choices⟩ : Ent))).filter (fun e => decide (0 < e.choices.length))
theorem prC_yes {lo : Int} {cs : List Cho} {k : Nat} (hk : k < cs.length) (h : lo ≤ (cho cs k).games) : prC lo (cs.take (k + 1)) = prC lo (cs.take k) ++ [cho cs k] := by
  unfold prC; rw [List.take_add_one, cho_get hk]; simp [List.filter_append, h]
theorem prC_no {lo : Int} {cs : List Cho} {k : Nat} (hk : k < cs.length) (h : ¬ lo ≤ (cho cs k).games) : prC lo (cs.take (k + 1)) = prC lo (cs.take k) := by
  unfold prC; rw [List.take_add_one, cho_get hk]; simp [List.filter_append, h]
theorem prC_len (lo : Int) (cs : List Cho) : (prC lo cs).length ≤ cs.length := List.length_filter_le _ _
theorem prC_lent (lo : Int) (cs : List Cho) (k : Nat) : (prC lo (cs.take k)).length ≤ k := by have := prC_len lo (cs.take k); rw [List.length_take] at this; omega
theorem prE_yes {lo : Int} {es : List Ent} {k : Nat} (hk : k < es.length) (h : 0 < (prC lo (ent es k).choices).length) : prE lo (es.take (k + 1)) = prE lo (es.take k) ++ [⟨(ent es k).pits, prC lo (ent es k).choices⟩] := by
  unfold prE; rw [List.take_add_one, ent_get hk]; simp only [Option.toList_some, List.map_append, List.map_cons, List.map_nil, List.filter_append]; congr 1; rw [List.filter_cons_of_pos (by simpa using h), List.filter_nil]
theorem prE_no {lo : Int} {es : List Ent} {k : Nat} (hk : k < es.length) (h : ¬ 0 < (prC lo (ent es k).choices).length) : prE lo (es.take (k + 1)) = prE lo (es.take k) := by
  unfold prE; rw [List.take_add_one, ent_get hk]; simp only [Option.toList_some, List.map_append, List.map_cons, List.map_nil, List.filter_append]; rw [List.filter_cons_of_neg (by simpa using h), List.filter_nil, List.append_nil]
theorem prE_len (lo : Int) (es : List Ent) : (prE lo es).length ≤ es.length := by
  unfold prE; have := List.length_filter_le (fun e : Ent => decide (0 < e.choices.length)) (es.map (fun e => (⟨e.pits, prC lo e.choices⟩ : Ent))); rw [List.length_map] at this; exact this
theorem prE_lent (lo : Int) (es : List Ent) (k : Nat) : (prE lo (es.take k)).length ≤ k := by have := prE_len lo (es.take k); rw [List.length_take] at this; omega
theorem prE_tot (lo : Int) : ∀ es : List Ent, (prE lo es).length + totE (prE lo es) ≤ es.length + totE es
  | [] => by simp [prE, totE]
  | e :: es => by
    have h := prE_tot lo es
    have h2 := prC_len lo e.choices
    have e1 : prE lo (e :: es) = if 0 < (prC lo e.choices).length then ⟨e.pits, prC lo e.choices⟩ :: prE lo es else prE lo es := by
      unfold prE; rw [List.map_cons, List.filter_cons]; simp
    rw [e1]; split
    · simp only [List.length_cons, totE]; omega
    · simp only [List.length_cons, totE]; omega
def prune (b : Boo) (lo : Int) : Boo × Int := if okB b = true then (if betw lo 0 1000000 = true then (⟨b.rules, prE lo b.entries⟩, 0) else (Boo.zero, 2)) else (Boo.zero, 1)
theorem prune_1 {b : Boo} {lo : Int} (h : ¬ okB b = true) : prune b lo = (Boo.zero, 1) := by unfold prune; rw [if_neg h]
theorem prune_2 {b : Boo} {lo : Int} (h : okB b = true) (h2 : ¬ betw lo 0 1000000 = true) : prune b lo = (Boo.zero, 2) := by unfold prune; rw [if_pos h, if_neg h2]
theorem prune_0 {b : Boo} {lo : Int} (h : okB b = true) (h2 : betw lo 0 1000000 = true) : prune b lo = (⟨b.rules, prE lo b.entries⟩, 0) := by unfold prune; rw [if_pos h, if_pos h2]
theorem prune_tot (b : Boo) (lo : Int) : (prune b lo).1.entries.length + totE (prune b lo).1.entries ≤ b.entries.length + totE b.entries := by
  unfold prune; split
  · split
    · exact prE_tot lo b.entries
    · simp [Boo.zero, totE]
  · simp [Boo.zero, totE]
end Go.Proofs.Ytcmfnlleikcpnaa.M


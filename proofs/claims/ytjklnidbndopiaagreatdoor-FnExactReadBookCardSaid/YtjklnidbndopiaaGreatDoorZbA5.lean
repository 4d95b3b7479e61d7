/- Plain mathematics: facts that are drawn and compared. -/
import Derived.Test.YtjklnidbndopiaaGreatDoorZbA4
import Derived.Test.YtjklnidbndopiaaGreatDoorZbA1
import Derived.Test.YtjklnidbndopiaaGreatDoorZbA2
set_option linter.unusedSimpArgs false
set_option linter.unusedVariables false
namespace Go.Proofs.YtjklnidbndopiaaGreatDoor.M
theorem split_p (b : UInt8) (l : List UInt8) : 0 < (split b l).length := List.length_pos_iff.2 (split_ne b l)
end Go.Proofs.YtjklnidbndopiaaGreatDoor.M
namespace Go.Proofs.YtjklnidbndopiaaGreatDoor
open Go.RowKit
theorem strs_drop {e c a : Nat} {A : Option Addr} {xs : List (List UInt8)} {u : World} (h : (Ty.strs e xs).ok u (.slice A xs.length c)) (h1 : a ≤ xs.length) (h3 : xs.length ≤ c) (hl : (xs.drop a).length = xs.length - a) :
    (Ty.strs e (xs.drop a)).ok u (.slice (cutA 1 A a c) (xs.drop a).length (c - a)) := by
  have := sl_cut (b := xs.length) (m := c) h h1 (Nat.le_refl _) h3 (Nat.le_refl _)
  rw [Nat.mul_one, Nat.mul_one, ← List.map_drop, ← List.map_take, List.take_of_length_le (Nat.le_of_eq hl)] at this
  unfold Ty.strs
  rw [hl]
  exact this
end Go.Proofs.YtjklnidbndopiaaGreatDoor
namespace Go.Proofs.YtjklnidbndopiaaGreatDoor.M
section
variable {α : Type}
end
theorem cho_set {cs : List Cho} {k : Nat} {y : Cho} (h : k < cs.length) : cho (cs.set k y) k = y := by simp [cho, List.getD, h]
theorem cho_ext {a b : Cho} (h1 : a.move = b.move) (h2 : a.games = b.games) (h3 : a.score = b.score) : a = b := by cases a; cases b; simp_all
theorem ent_ext {a b : Ent} (h1 : a.pits = b.pits) (h2 : a.choices = b.choices) : a = b := by cases a; cases b; simp_all
theorem boo_ext {a b : Boo} (h1 : a.rules = b.rules) (h2 : a.entries = b.entries) : a = b := by cases a; cases b; simp_all
def totE : List Ent → Nat
  | [] => 0
  | e :: es => e.pits.length + e.choices.length + totE es
theorem totE_app : ∀ (a b : List Ent), totE (a ++ b) = totE a + totE b
  | [], b => by simp [totE]
  | e :: a, b => by rw [List.cons_append, totE, totE_app a b, totE]; omega
theorem totE_step {es : List Ent} {i : Nat} (h : i < es.length) : totE (es.take (i + 1)) = totE (es.take i) + ((ent es i).pits.length + (ent es i).choices.length) := by
  rw [List.take_add_one, ent_get h, totE_app]; simp [totE]
theorem totE_le (es : List Ent) (i : Nat) : totE (es.take i) ≤ totE es := by
  conv => rhs; rw [← List.take_append_drop i es, totE_app]
  omega
theorem totE_mem {es : List Ent} {x : Ent} (h : x ∈ es) : x.pits.length + x.choices.length ≤ totE es := by
  induction es with
  | nil => simp at h
  | cons e es ih =>
    rcases List.mem_cons.1 h with rfl | h
    · rw [totE]; omega
    · have := ih h; rw [totE]; omega
theorem totE_small {es : List Ent} {n : Nat} (h : totE es ≤ n) : ∀ x ∈ es, x.pits.length ≤ n ∧ x.choices.length ≤ n := fun x hx => by have := totE_mem hx; omega
def fC (k : Int) (_ : Cho) : Cho := ⟨k, k + 1, k + 2⟩
def sC (_ : Cho) : Int := 3
def hC (k : Int) (x : Cho) : Int := if x.move ≠ k then -1 else if x.games ≠ k + 1 then -1 else if x.score ≠ k + 2 then -1 else k + 3
theorem szs_C : ∀ l : List Cho, szs sC l = 3 * (l.length : Int)
  | [] => rfl
  | x :: l => by rw [szs, szs_C l, List.length_cons, sC]; omega
theorem hC_fC (k : Int) (x : Cho) (_ : 0 ≤ k) : hC k (fC k x) = k + sC x := by simp [hC, fC, sC]
theorem hC_1 {k : Int} {x : Cho} (h : x.move ≠ k) : hC k x = -1 := by unfold hC; rw [if_pos h]
theorem hC_2 {k : Int} {x : Cho} (h : x.move = k) (h2 : x.games ≠ k + 1) : hC k x = -1 := by unfold hC; rw [if_neg (by simpa using h), if_pos h2]
theorem hC_3 {k : Int} {x : Cho} (h : x.move = k) (h2 : x.games = k + 1) (h3 : x.score ≠ k + 2) : hC k x = -1 := by unfold hC; rw [if_neg (by simpa using h), if_neg (by simpa using h2), if_pos h3]
theorem hC_0 {k : Int} {x : Cho} (h : x.move = k) (h2 : x.games = k + 1) (h3 : x.score = k + 2) : hC k x = k + 3 := by unfold hC; rw [if_neg (by simpa using h), if_neg (by simpa using h2), if_neg (by simpa using h3)]
theorem held_C (l : List Cho) {k : Int} (h : 0 ≤ k) : heldL hC k (mkL fC sC k l) = k + 3 * (l.length : Int) := by
  rw [heldL_mk fC sC hC hC_fC (fun _ => by simp [sC]) l k h, szs_C]
theorem heldC_bd : ∀ (l : List Cho) {k : Int}, 0 ≤ k → -1 ≤ heldL hC k l ∧ heldL hC k l ≤ k + 3 * (l.length : Int)
  | [], k, h => by simp [heldL]; omega
  | x :: l, k, h => by
    have hb : hC k x = -1 ∨ hC k x = k + 3 := by
      by_cases h1 : x.move = k
      · by_cases h2 : x.games = k + 1
        · by_cases h3 : x.score = k + 2
          · exact .inr (hC_0 h1 h2 h3)
          · exact .inl (hC_3 h1 h2 h3)
        · exact .inl (hC_2 h1 h2)
      · exact .inl (hC_1 h1)
    rw [heldL, List.length_cons]
    rcases hb with hb | hb
    · rw [if_pos (by omega)]; omega
    · rw [if_neg (by omega), hb]
      have := heldC_bd l (k := k + 3) (by omega); omega
def fE (k : Int) (e : Ent) : Ent := ⟨up k e.pits.length, mkL fC sC (k + e.pits.length) e.choices⟩
def sE (e : Ent) : Int := e.pits.length + 3 * e.choices.length
def hE (k : Int) (e : Ent) : Int := if held e.pits k < 0 then -1 else if heldL hC (held e.pits k) e.choices < 0 then -1 else heldL hC (held e.pits k) e.choices
theorem sE_nn (e : Ent) : 0 ≤ sE e := by unfold sE; omega
theorem hE_fE (k : Int) (e : Ent) (h : 0 ≤ k) : hE k (fE k e) = k + sE e := by
  unfold hE fE sE
  rw [held_up, if_neg (by omega), held_C _ (by omega), if_neg (by omega)]; omega
theorem hE_1 {k : Int} {x : Ent} (h : held x.pits k < 0) : hE k x = -1 := by unfold hE; rw [if_pos h]
theorem hE_2 {k : Int} {x : Ent} (h : ¬ held x.pits k < 0) (h2 : heldL hC (held x.pits k) x.choices < 0) : hE k x = -1 := by unfold hE; rw [if_neg h, if_pos h2]
theorem hE_0 {k : Int} {x : Ent} (h : ¬ held x.pits k < 0) (h2 : ¬ heldL hC (held x.pits k) x.choices < 0) : hE k x = heldL hC (held x.pits k) x.choices := by unfold hE; rw [if_neg h, if_neg h2]
theorem held_E (l : List Ent) {k : Int} (h : 0 ≤ k) : heldL hE k (mkL fE sE k l) = k + szs sE l := heldL_mk fE sE hE hE_fE sE_nn l k h
theorem szs_E_le (l : List Ent) : szs sE l ≤ 3 * (totE l : Int) := by
  induction l with
  | nil => simp [szs, totE]
  | cons e l ih => rw [szs, totE, sE]; omega
theorem szs_E_take (l : List Ent) (i : Nat) : szs sE (l.take i) ≤ 3 * (totE l : Int) := by
  have := szs_E_le (l.take i); have := totE_le l i; omega
theorem szs_E_nn (l : List Ent) : 0 ≤ szs sE l := szs_nn sE sE_nn l
theorem heldE_bd : ∀ (l : List Ent) {k : Int}, 0 ≤ k → -1 ≤ heldL hE k l
  | [], k, h => by simp [heldL]; omega
  | x :: l, k, h => by
    rw [heldL]; split
    · omega
    · rename_i hn; exact heldE_bd l (by omega)
theorem totE_mk (l : List Ent) (k : Int) : totE (mkL fE sE k l) = totE l := by
  induction l generalizing k with
  | nil => rfl
  | cons e l ih => rw [mkL, totE, totE, ih]; simp [fE, mkL_len]
theorem totE_b : ∀ {es : List Ent}, (∀ x ∈ es, EntB x) → totE es ≤ 24 * es.length
  | [], _ => Nat.le_refl _
  | e :: es, h => by
    have a : EntB e := h e (by simp)
    have b : totE es ≤ 24 * es.length := totE_b (fun x hx => h x (by simp [hx]))
    have c := a.p; have d := a.c
    rw [List.length_cons]; show e.pits.length + e.choices.length + totE es ≤ _; omega
theorem readB_ok (s : List UInt8) : (readB s).1 = Boo.zero ∨ okB (readB s).1 = true := by
  unfold readB; split
  · rename_i h; exact .inr h.2.2.2.2
  · exact .inl rfl
theorem readB_tot (s : List UInt8) : (readB s).1.entries.length ≤ 200 ∧ totE (readB s).1.entries ≤ 4800 := by
  rcases readB_ok s with h | h
  · rw [h]; exact ⟨Nat.zero_le _, Nat.zero_le _⟩
  · obtain ⟨_, a, b⟩ := okB_all9 h
    have := totE_b b
    exact ⟨a, by omega⟩
end Go.Proofs.YtjklnidbndopiaaGreatDoor.M

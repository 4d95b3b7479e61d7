/- Plain mathematics of texts that are read: positions, puzzles. -/
import Derived.Test.YtjdhgkdimanabaaGreatDoorZeA3
set_option linter.unusedSimpArgs false
set_option linter.unusedVariables false
namespace Go.Proofs.YtjdhgkdimanabaaGreatDoor.M
theorem w3_get {s : List UInt8} {i : Nat} (h : i < (split 32 s).length) : (split 32 s)[i]? = some (w3 s i) := by
  unfold w3; rw [List.getD_eq_getElem?_getD, List.getElem?_eq_getElem h]; rfl
theorem w3_len {s : List UInt8} {i : Nat} : (w3 s i).length ≤ s.length := by
  by_cases h : i < (split 32 s).length
  · exact split_mem 32 s _ (List.mem_of_getElem? (w3_get h))
  · unfold w3; rw [List.getD_eq_getElem?_getD, List.getElem?_eq_none (Nat.le_of_not_lt h)]; simp
theorem x2_get {s : List UInt8} {i : Nat} (h : i < (split 47 (w3 s 1)).length) : (split 47 (w3 s 1))[i]? = some (x2 s i) := by
  unfold x2; rw [List.getD_eq_getElem?_getD, List.getElem?_eq_getElem h]; rfl
theorem x2_len {s : List UInt8} {i : Nat} : (x2 s i).length ≤ s.length := by
  by_cases h : i < (split 47 (w3 s 1)).length
  · exact Nat.le_trans (split_mem 47 _ _ (List.mem_of_getElem? (x2_get h))) w3_len
  · unfold x2; rw [List.getD_eq_getElem?_getD, List.getElem?_eq_none (Nat.le_of_not_lt h)]; simp
theorem cutS_len2 (s sep : List UInt8) : (cutS s sep).1.length + (cutS s sep).2.1.length ≤ s.length := by
  unfold cutS; split
  · rename_i k h
    rw [List.find?_range_eq_some] at h
    have := h.1; unfold hit at this; simp only [Bool.and_eq_true, decide_eq_true_eq] at this
    simp only [List.length_take, List.length_drop]; omega
  · simp
theorem x2_sum {s : List UInt8} (h : (split 47 (w3 s 1)).length = 2) : (x2 s 0).length + (x2 s 1).length + 1 = (w3 s 1).length := by
  have hj := joinW_split 47 (w3 s 1)
  obtain ⟨a, b, hw⟩ : ∃ a b, split 47 (w3 s 1) = [a, b] := by
    match hs : split 47 (w3 s 1), h with
    | [a, b], _ => exact ⟨a, b, rfl⟩
  have e0 : x2 s 0 = a := by unfold x2; rw [hw]; rfl
  have e1 : x2 s 1 = b := by unfold x2; rw [hw]; rfl
  rw [hw] at hj
  rw [e0, e1, ← hj]
  simp [joinW]; omega
theorem readP_short {r : Rul} {s : List UInt8} (h : (split 32 s).length ≠ 3) : readP r s = (Pos.zero, false) :=
  readP_no (congrArg Prod.snd (readP0_no fun ⟨h1, _⟩ => h h1))
theorem readP_first {r : Rul} {s : List UInt8} (h : ¬ first5 s) : readP r s = (Pos.zero, false) := readP_no (congrArg Prod.snd (first_no h))
theorem readP_bad {r : Rul} {s : List UInt8} (h3 : (split 32 s).length = 3) (h : first5 s) (hb : okP r (readQ s) = false ∨ posTextR r (readQ s) ≠ s) : readP r s = (Pos.zero, false) := by
  have hf := first_yes h3 h
  by_cases hl : (nums (cutS (w3 s 1) [47]).1).1.length = (nums (cutS (w3 s 1) [47]).2.1).1.length
  · rw [if_pos hl] at hf
    unfold readP
    rw [if_neg]
    rintro ⟨h1, h2⟩
    rw [hf] at h2
    rcases hb with hb | hb
    · rw [hb] at h2; exact absurd h2 (by simp)
    · apply hb
      rw [posTextR_yes h2]
      exact (read_same h3 h h2).2 hl
  · rw [if_neg hl] at hf
    exact readP_no (congrArg Prod.snd hf)
theorem readP_good {r : Rul} {s : List UInt8} (h3 : (split 32 s).length = 3) (h : first5 s) (ho : okP r (readQ s) = true) (ht : posTextR r (readQ s) = s) : readP r s = (readQ s, true) := by
  have hf := first_yes h3 h
  rw [posTextR_yes ho] at ht
  rw [if_pos ((read_same h3 h ho).1 ht)] at hf
  unfold readP
  rw [if_pos ⟨by rw [hf], by rw [hf]; exact ho⟩, hf]
theorem readP_ok {r : Rul} {s : List UInt8} (h : (readP r s).2 = true) : okP r (readP r s).1 = true ∧ (readP r s).1 = readQ s ∧ (split 32 s).length = 3 ∧ first5 s := by
  by_cases h3 : (split 32 s).length = 3
  · by_cases hf : first5 s
    · by_cases hb : okP r (readQ s) = false ∨ posTextR r (readQ s) ≠ s
      · rw [readP_bad h3 hf hb] at h; exact absurd h (by simp)
      · simp only [not_or, Bool.not_eq_false, Classical.not_not] at hb
        have e := readP_good h3 hf hb.1 hb.2
        rw [e]; exact ⟨hb.1, rfl, h3, hf⟩
    · rw [readP_first hf] at h; exact absurd h (by simp)
  · rw [readP_short h3] at h; exact absurd h (by simp)
theorem dec_B' {n : Int} {x : UInt8} (h : x ∈ dec n) : x ≠ 100 := fun e => by
  have hb := dec_B h
  subst e
  revert hb; unfold decB; decide
theorem joinT_d {l : List Int} {x : UInt8} (h : x ∈ joinT l) : x ≠ 100 := fun e => by
  subst e
  rcases joinT_mem h with h | h
  · exact absurd h (by decide)
  · revert h; unfold decB; decide
theorem readP_bytes {r : Rul} {s : List UInt8} (h : (readP r s).2 = true) : ∀ x ∈ s, x ≠ 100 := by
  obtain ⟨_, _, h3, hf⟩ := readP_ok h
  intro x hx
  rw [read_text h3 hf] at hx
  simp only [List.mem_append, List.mem_cons] at hx
  rcases hx with hx | hx | (hx | hx | hx) | hx | hx
  · exact dec_B' hx
  · subst hx; decide
  · exact joinT_d hx
  · subst hx; decide
  · exact joinT_d hx
  · subst hx; decide
  · exact joinT_d hx
theorem readP0_yes {s : List UInt8} (h : (split 32 s).length = 3 ∧ (split 47 (w3 s 1)).length = 2 ∧ (num (w3 s 0)).2 = true ∧ (nums (x2 s 0)).2 = true ∧ (nums (x2 s 1)).2 = true ∧ (nums (w3 s 2)).2 = true ∧ (nums (x2 s 0)).1.length = (nums (x2 s 1)).1.length) :
    readP0 s = (⟨(nums (x2 s 0)).1 ++ (nums (x2 s 1)).1, (nums (w3 s 2)).1, (num (w3 s 0)).1⟩, true) := by unfold readP0; rw [if_pos h]
theorem readP_y {r : Rul} {s : List UInt8} (h1 : (readP0 s).2 = true) (h2 : okP r (readP0 s).1 = true) : readP r s = ((readP0 s).1, true) := by unfold readP; rw [if_pos ⟨h1, h2⟩]
theorem readP_n {r : Rul} {s : List UInt8} (h : ¬ ((readP0 s).2 = true ∧ okP r (readP0 s).1 = true)) : readP r s = (Pos.zero, false) := by unfold readP; rw [if_neg h]
theorem readP0_len (s : List UInt8) : (readP0 s).1.pits.length ≤ s.length + 2 ∧ (readP0 s).1.stores.length ≤ s.length + 1 := by
  unfold readP0; split
  · rename_i h
    have a := nums_len (x2 s 0); have b := nums_len (x2 s 1); have c := nums_len (w3 s 2)
    have d := x2_sum h.2.1; have e := w3_len (s := s) (i := 1); have f := w3_len (s := s) (i := 2)
    simp only [List.length_append]; omega
  · simp [Pos.zero]
def depthT : List UInt8 := [32, 100, 101, 112, 116, 104, 32]
def w5 (s : List UInt8) : List UInt8 := w3 s 0 ++ [32] ++ w3 s 1 ++ [32] ++ w3 s 2
def zIn (r : Rul) (s : List UInt8) : Bool := (cutS s depthT).2.2 && (num (cutS s depthT).2.1).2 && (readP r (cutS s depthT).1).2
def zIn2 (r : Rul) (s : List UInt8) : Bool := decide ((split 32 s).length = 5) && decide (w3 s 3 = [100, 101, 112, 116, 104]) && (readP r (w5 s)).2 && (num (w3 s 4)).2
theorem cutS_at {s sep : List UInt8} (h : (cutS s sep).2.2 = true) : s = (cutS s sep).1 ++ sep ++ (cutS s sep).2.1 := by
  unfold cutS at h ⊢
  split
  · rename_i k hk
    rw [List.find?_range_eq_some] at hk
    obtain ⟨h1, _, _⟩ := hk
    unfold hit at h1
    simp only [Bool.and_eq_true, decide_eq_true_eq] at h1
    show s = s.take k ++ sep ++ s.drop (k + sep.length)
    have : s.drop k = sep ++ s.drop (k + sep.length) := by
      rw [← List.drop_drop]
      conv => rhs; lhs; rw [← h1.2]
      exact (List.take_append_drop _ _).symm
    rw [List.append_assoc, ← this, List.take_append_drop]
  · rename_i hk
    rw [hk] at h; exact absurd h (by simp)
theorem split_join3 {s : List UInt8} (h3 : (split 32 s).length = 3) : s = w5 s := by
  have hj := joinW_split 32 s
  obtain ⟨a, b, c, hw⟩ : ∃ a b c, split 32 s = [a, b, c] := by
    match hs : split 32 s, h3 with
    | [a, b, c], _ => exact ⟨a, b, c, rfl⟩
  have e0 : w3 s 0 = a := by unfold w3; rw [hw]; rfl
  have e1 : w3 s 1 = b := by unfold w3; rw [hw]; rfl
  have e2 : w3 s 2 = c := by unfold w3; rw [hw]; rfl
  unfold w5
  rw [e0, e1, e2]
  rw [hw] at hj
  simpa [joinW] using hj.symm
theorem split_app_gen (b : UInt8) : ∀ (p q : List UInt8), split b (p ++ b :: q) = split b p ++ split b q
  | [], q => by simp [split]
  | x :: p, q => by
    have ih := split_app_gen b p q
    rw [List.cons_append, split]
    by_cases hx : x = b
    · rw [if_pos hx, ih, split, if_pos hx]; rfl
    · rw [if_neg hx, ih, split, if_neg hx]
      cases hs : split b p with
      | nil => exact absurd hs (split_ne b p)
      | cons w ws => rfl
theorem num_noblank {s : List UInt8} (h : (num s).2 = true) : (32 : UInt8) ∉ s := by
  rw [← num_dec h]; exact dec_no (.inl rfl)
theorem zIn_yes {r : Rul} {s : List UInt8} (h : zIn r s = true) : zIn2 r s = true ∧ w5 s = (cutS s depthT).1 ∧ w3 s 4 = (cutS s depthT).2.1 := by
  unfold zIn at h
  simp only [Bool.and_eq_true] at h
  obtain ⟨⟨h1, h2⟩, h3⟩ := h
  have hs := cutS_at h1
  generalize (cutS s depthT).1 = a at *
  generalize (cutS s depthT).2.1 = c at *
  obtain ⟨_, _, ha3, _⟩ := readP_ok h3
  have hsp : split 32 s = split 32 a ++ [[100, 101, 112, 116, 104], c] := by
    rw [hs, show a ++ depthT ++ c = a ++ 32 :: ([100, 101, 112, 116, 104] ++ 32 :: c) by simp [depthT], split_app_gen, split_app_gen, split_last 32 c (num_noblank h2)]
    rfl
  obtain ⟨x, y, z, hw⟩ : ∃ x y z, split 32 a = [x, y, z] := by
    match hs : split 32 a, ha3 with
    | [a, b, c], _ => exact ⟨a, b, c, rfl⟩
  rw [hw] at hsp
  have e0 : w3 s 0 = x := by unfold w3; rw [hsp]; rfl
  have e1 : w3 s 1 = y := by unfold w3; rw [hsp]; rfl
  have e2 : w3 s 2 = z := by unfold w3; rw [hsp]; rfl
  have e3 : w3 s 3 = [100, 101, 112, 116, 104] := by unfold w3; rw [hsp]; rfl
  have e4 : w3 s 4 = c := by unfold w3; rw [hsp]; rfl
  have e5 : w5 s = a := by
    have := split_join3 ha3
    unfold w5 at this ⊢
    rw [e0, e1, e2, this]
    have f0 : w3 a 0 = x := by unfold w3; rw [hw]; rfl
    have f1 : w3 a 1 = y := by unfold w3; rw [hw]; rfl
    have f2 : w3 a 2 = z := by unfold w3; rw [hw]; rfl
    rw [f0, f1, f2]
  refine ⟨?_, e5, e4⟩
  unfold zIn2
  rw [hsp, e3, e4, e5, h2, h3]
  rfl
theorem zIn2_yes {r : Rul} {s : List UInt8} (h : zIn2 r s = true) : zIn r s = true := by
  unfold zIn2 at h
  simp only [Bool.and_eq_true, decide_eq_true_eq] at h
  obtain ⟨⟨⟨h5, hd⟩, h3⟩, h4⟩ := h
  have hj := joinW_split 32 s
  obtain ⟨x, y, z, d, c, hw⟩ : ∃ x y z d c, split 32 s = [x, y, z, d, c] := by
    match hs : split 32 s, h5 with
    | [x, y, z, d, c], _ => exact ⟨x, y, z, d, c, rfl⟩
  have e0 : w3 s 0 = x := by unfold w3; rw [hw]; rfl
  have e1 : w3 s 1 = y := by unfold w3; rw [hw]; rfl
  have e2 : w3 s 2 = z := by unfold w3; rw [hw]; rfl
  have e3 : w3 s 3 = d := by unfold w3; rw [hw]; rfl
  have e4 : w3 s 4 = c := by unfold w3; rw [hw]; rfl
  rw [e4] at h4
  rw [e3] at hd
  rw [hw] at hj
  have hs : s = w5 s ++ depthT ++ c := by
    unfold w5; rw [e0, e1, e2]
    rw [← hj, hd]
    simp [joinW, depthT]
  have hb := readP_bytes h3
  generalize w5 s = a at *
  have hl : s.length = a.length + 7 + c.length := by rw [hs]; simp [depthT]; omega
  have hc : cutS s depthT = (a, c, true) := by
    have h1 : (s.drop a.length).take depthT.length = depthT := by rw [hs, List.append_assoc, List.drop_left, List.take_left]
    rw [cutS_yes (k := a.length) (by rw [hl]; simp [depthT]) h1 ?_]
    · have e1 : s.take a.length = a := by rw [hs, List.append_assoc, List.take_left]
      have e2 : s.drop (a.length + depthT.length) = c := by rw [hs, ← List.length_append, List.drop_left]
      rw [e1, e2]
    · intro i hi he
      have hg : s[i + 1]? = some 100 := by
        have := congrArg (fun l => l[1]?) he
        simpa [List.getElem?_take, List.getElem?_drop, depthT] using this
      rw [hs, List.append_assoc, List.getElem?_append] at hg
      by_cases h9 : i + 1 < a.length
      · rw [if_pos h9] at hg
        exact hb 100 (List.mem_of_getElem? hg) rfl
      · have : i + 1 - a.length = 0 := by omega
        rw [if_neg h9, this] at hg
        exact absurd hg (by simp [depthT])
  unfold zIn
  rw [hc]
  simp [h3, h4]
def zPuz (r : Rul) (s : List UInt8) : Puz × Int := puz r (readP r (cutS s depthT).1).1 (num (cutS s depthT).2.1).1
def readZ (r : Rul) (s : List UInt8) : Puz × Bool := if zIn r s = true then ((zPuz r s).1, decide ((zPuz r s).2 = 0)) else (Puz.zero, false)
theorem zIn_p {r : Rul} {s : List UInt8} (h : zIn r s = true) : (readP r (cutS s depthT).1).2 = true := by
  unfold zIn at h; simp only [Bool.and_eq_true] at h; exact h.2
theorem readZ_no {r : Rul} {s : List UInt8} (h : zIn r s = false) : readZ r s = (Puz.zero, false) := by unfold readZ; rw [if_neg (by simp [h])]
theorem readZ_yes {r : Rul} {s : List UInt8} (h : zIn r s = true) : readZ r s = ((zPuz r s).1, decide ((zPuz r s).2 = 0)) := by unfold readZ; rw [if_pos h]
theorem zIn2_no {r : Rul} {s : List UInt8} (h : zIn2 r s = false) : zIn r s = false := by
  cases e : zIn r s
  · rfl
  · rw [(zIn_yes e).1] at h; exact absurd h (by simp)
theorem zIn2_bad {r : Rul} {s : List UInt8} (h : ¬ ((split 32 s).length = 5 ∧ w3 s 3 = [100, 101, 112, 116, 104])) : zIn2 r s = false := by
  cases e : zIn2 r s
  · rfl
  · unfold zIn2 at e; simp only [Bool.and_eq_true, decide_eq_true_eq] at e; exact absurd ⟨e.1.1.1, e.1.1.2⟩ h
theorem zIn2_not {r : Rul} {s : List UInt8} (h : ¬ ((readP r (w5 s)).2 = true ∧ (num (w3 s 4)).2 = true)) : zIn2 r s = false := by
  cases e : zIn2 r s
  · rfl
  · unfold zIn2 at e; simp only [Bool.and_eq_true, decide_eq_true_eq] at e; exact absurd ⟨e.1.2, e.2⟩ h
theorem zIn2_all {r : Rul} {s : List UInt8} (h1 : (split 32 s).length = 5) (h2 : w3 s 3 = [100, 101, 112, 116, 104]) (h3 : (readP r (w5 s)).2 = true) (h4 : (num (w3 s 4)).2 = true) : zIn2 r s = true := by
  unfold zIn2; rw [h3, h4]; simp [h1, h2]
theorem puz_zero {r : Rul} {p : Pos} {depth : Int} : (puz r p depth).2 ≠ 0 → (puz r p depth).1 = Puz.zero := by
  unfold puz
  split
  · exact fun _ => rfl
  · split
    · exact fun _ => rfl
    · split
      · exact fun _ => rfl
      · exact fun h => absurd rfl h
theorem readZ_small (r : Rul) (s : List UInt8) : SmallP (readZ r s).1.position := by
  unfold readZ; split
  · exact puz_small _ _ _
  · exact ⟨by simp [Puz.zero, Pos.zero], by simp [Puz.zero, Pos.zero]⟩
theorem samez_refl (z : Puz) : samez z z = true := by simp [samez, sameP_true]
def d2 (n : Nat) : List UInt8 := if n < 10 then [UInt8.ofNat (48 + n)] else [UInt8.ofNat (48 + n / 10), UInt8.ofNat (48 + n % 10)]
theorem dec_d2 {n : Nat} (h : n < 100) : dec (n : Int) = d2 n := by
  rw [dec_in (by omega) (by omega), Lib.itoa_nonneg]
  unfold d2
  split
  · exact Lib.decDigits_one ‹_›
  · exact Lib.decDigits_two ‹_› h
theorem num_d2 : ∀ n : Fin 97, (¬ ((numT (d2 n)).length < 1 ∨ 18 < (numT (d2 n)).length)) ∧ digs (numT (d2 n)) = true ∧ numS (d2 n) = (n.val : Int) := by decide
theorem num_dec_small {n : Int} (h0 : 0 ≤ n) (h1 : n ≤ 96) : num (dec n) = (n, true) := by
  obtain ⟨m, rfl⟩ := Int.eq_ofNat_of_zero_le h0
  have hm : m < 97 := by omega
  obtain ⟨a, b, c⟩ := num_d2 ⟨m, hm⟩
  rw [dec_d2 (by omega)]
  rw [num_yes a b (by rw [c]; exact dec_d2 (by omega)), c]
theorem ok_mem {l : List Int} (h : allOk l = true) : ∀ x ∈ l, 0 ≤ x ∧ x ≤ 96 := fun x hx => by
  unfold allOk at h
  exact betw_iff.1 (List.all_eq_true.1 h x hx)
theorem nums_joinT {l : List Int} (hl : l ≠ []) (h : allOk l = true) : nums (joinT l) = (l, true) := by
  have hm := ok_mem h
  have hs := split_joinT hl
  have ho : numsOk (split 44 (joinT l)) = true := by
    unfold numsOk; rw [hs, List.all_map, List.all_eq_true]
    intro x hx
    obtain ⟨a, b⟩ := hm x hx
    show (num (dec x)).2 = true
    rw [num_dec_small a b]
  rw [nums_yes ho]
  congr 1
  unfold numsV
  rw [hs, List.map_map]
  conv => rhs; rw [← List.map_id l]
  refine List.map_congr_left fun x hx => ?_
  obtain ⟨a, b⟩ := hm x hx
  show (num (dec x)).1 = x
  rw [num_dec_small a b]
theorem split_posText (p : Pos) : split 32 (posText p) = [dec p.player, joinT (p.pits.take (p.pits.length / 2)) ++ 47 :: joinT (p.pits.drop (p.pits.length / 2)), joinT p.stores] := by
  rw [posText_eq, split_app 32 _ _ (dec_no (.inl rfl)), split_app 32 _ _ (by
    intro h
    rcases List.mem_append.1 h with h | h
    · exact joinT_no (.inl rfl) h
    · rcases List.mem_cons.1 h with h | h
      · exact absurd h (by decide)
      · exact joinT_no (.inl rfl) h), split_last 32 _ (joinT_no (.inl rfl))]
theorem readP_text {r : Rul} {p : Pos} (h : okP r p = true) : readP r (posText p) = (p, true) := by
  obtain ⟨g1, g2, g3, g4, g5, g6, g7⟩ := okP_bd h
  have hs := split_posText p
  have e0 : w3 (posText p) 0 = dec p.player := by unfold w3; rw [hs]; rfl
  have e1 : w3 (posText p) 1 = joinT (p.pits.take (p.pits.length / 2)) ++ 47 :: joinT (p.pits.drop (p.pits.length / 2)) := by unfold w3; rw [hs]; rfl
  have e2 : w3 (posText p) 2 = joinT p.stores := by unfold w3; rw [hs]; rfl
  have hx : split 47 (w3 (posText p) 1) = [joinT (p.pits.take (p.pits.length / 2)), joinT (p.pits.drop (p.pits.length / 2))] := by
    rw [e1, split_app 47 _ _ (joinT_no (.inr rfl)), split_last 47 _ (joinT_no (.inr rfl))]
  have x0 : x2 (posText p) 0 = joinT (p.pits.take (p.pits.length / 2)) := by unfold x2; rw [hx]; rfl
  have x1 : x2 (posText p) 1 = joinT (p.pits.drop (p.pits.length / 2)) := by unfold x2; rw [hx]; rfl
  have n0 : num (dec p.player) = (p.player, true) := num_dec_small (by omega) (by omega)
  have n1 := nums_joinT (l := p.pits.take (p.pits.length / 2)) (by intro h9; have h8 := congrArg List.length h9; rw [List.length_take] at h8; simp only [List.length_nil] at h8; omega) (allOk_take _ g5)
  have n2 := nums_joinT (l := p.pits.drop (p.pits.length / 2)) (by intro h9; have h8 := congrArg List.length h9; rw [List.length_drop] at h8; simp only [List.length_nil] at h8; omega) (allOk_drop _ g5)
  have n3 := nums_joinT (l := p.stores) (by intro h9; rw [h9] at g4; simp at g4) g6
  have hy : readP0 (posText p) = (p, true) := by
    rw [readP0_yes ⟨by rw [hs]; rfl, by rw [hx]; rfl, by rw [e0, n0], by rw [x0, n1], by rw [x1, n2], by rw [e2, n3], by rw [x0, x1, n1, n2]; show (p.pits.take _).length = (p.pits.drop _).length; rw [List.length_take, List.length_drop]; omega⟩]
    rw [e0, e2, x0, x1, n0, n1, n2, n3]
    simp only [List.take_append_drop]
  rw [readP_y (by rw [hy]) (by rw [hy]; exact h), hy]
theorem readP_back {r : Rul} {s : List UInt8} (h : (readP r s).2 = true) : posText (readP r s).1 = s := by
  obtain ⟨a, b, c, d⟩ := readP_ok h
  by_cases hb : okP r (readQ s) = false ∨ posTextR r (readQ s) ≠ s
  · rw [readP_bad c d hb] at h; exact absurd h (by simp)
  · simp only [not_or, Bool.not_eq_false, Classical.not_not] at hb
    rw [b]; rw [posTextR_yes hb.1] at hb; exact hb.2
theorem readZ_nil (r : Rul) : readZ r [] = (Puz.zero, false) := readZ_no (zIn2_no (zIn2_bad (by rintro ⟨h, _⟩; revert h; decide)))
theorem readZ_text {z : Puz} (h : okZ z = true) : readZ z.rules (puzText z) = (z, true) := by
  obtain ⟨hoc, hpz⟩ := okZ_parts h
  have ho := optsC_ok hoc
  have hr := readP_text ho.1
  have et : puzText z = posText z.position ++ 32 :: ([100, 101, 112, 116, 104] ++ 32 :: dec z.depth) := by rw [puzText_yes h]; simp
  have hsp := split_posText z.position
  have hs : split 32 (puzText z) = [dec z.position.player, joinT (z.position.pits.take (z.position.pits.length / 2)) ++ 47 :: joinT (z.position.pits.drop (z.position.pits.length / 2)), joinT z.position.stores, [100, 101, 112, 116, 104], dec z.depth] := by
    rw [et, split_app_gen, hsp, split_app 32 _ _ (by decide), split_last 32 _ (dec_no (.inl rfl))]; rfl
  have e0 : w3 (puzText z) 0 = dec z.position.player := by unfold w3; rw [hs]; rfl
  have e1 : w3 (puzText z) 1 = joinT (z.position.pits.take (z.position.pits.length / 2)) ++ 47 :: joinT (z.position.pits.drop (z.position.pits.length / 2)) := by unfold w3; rw [hs]; rfl
  have e2 : w3 (puzText z) 2 = joinT z.position.stores := by unfold w3; rw [hs]; rfl
  have e3 : w3 (puzText z) 3 = [100, 101, 112, 116, 104] := by unfold w3; rw [hs]; rfl
  have e4 : w3 (puzText z) 4 = dec z.depth := by unfold w3; rw [hs]; rfl
  have e5 : w5 (puzText z) = posText z.position := by unfold w5; rw [e0, e1, e2, posText_eq]; simp
  have hd : num (dec z.depth) = (z.depth, true) := num_dec_small (by have := ho.2.1; omega) (by have := ho.2.2.1; omega)
  have h2 : zIn2 z.rules (puzText z) = true := zIn2_all (by rw [hs]; rfl) e3 (by rw [e5, hr]) (by rw [e4, hd])
  have hz := zIn2_yes h2
  obtain ⟨_, q1, q2⟩ := zIn_yes hz
  rw [readZ_yes hz]
  unfold zPuz
  rw [← q1, ← q2, e5, e4, hr, hd]
  simp only
  rw [hpz]; rfl
theorem readZ_back {r : Rul} {s : List UInt8} (h : (readZ r s).2 = true) : puzText (readZ r s).1 = s := by
  by_cases hz : zIn r s = true
  · rw [readZ_yes hz] at h ⊢
    simp only [decide_eq_true_eq] at h
    obtain ⟨hP, _⟩ := puzzled (show (puz r (readP r (cutS s depthT).1).1 (num (cutS s depthT).2.1).1).2 = 0 from h)
    show puzText (puz r (readP r (cutS s depthT).1).1 (num (cutS s depthT).2.1).1).1 = s
    rw [puzText_yes hP.ok, hP.pp, hP.pd]
    have hz' := hz
    unfold zIn at hz
    simp only [Bool.and_eq_true] at hz
    rw [readP_back hz.2, num_dec hz.1.2]
    exact (cutS_at hz.1.1).symm
  · rw [readZ_no (by simpa using hz)] at h; cases h
theorem readZ_ok (z : Puz) : (readZ z.rules (puzText z)).2 = decide (puzText z ≠ []) ∧ ((readZ z.rules (puzText z)).2 = true → (readZ z.rules (puzText z)).1 = z) := by
  cases h : okZ z with
  | true =>
    rw [readZ_text h]
    have : puzText z ≠ [] := by rw [puzText_yes h]; simp
    exact ⟨by simp [this], fun _ => rfl⟩
  | false =>
    rw [puzText_no h, readZ_nil]
    exact ⟨by simp, fun h9 => by cases h9⟩
theorem puzText_len (z : Puz) : (puzText z).length ≤ 1100 := by
  cases h : okZ z with
  | true =>
    obtain ⟨hoc, _⟩ := okZ_parts h
    have ho := optsC_ok hoc
    obtain ⟨_, g2, g3, g4, _⟩ := okP_bd ho.1
    have h1 := posText_len (p := z.position) (by omega) (by omega)
    have h2 := dec_len z.depth
    rw [puzText_yes h]; simp only [List.length_append, List.length_cons, List.length_nil]; omega
  | false => rw [puzText_no h]; exact Nat.zero_le _
theorem readZ_dead (z : Puz) : ((readZ z.rules (puzText z)).2 && !(samez (readZ z.rules (puzText z)).1 z)) = false := by
  have h := (readZ_ok z).2
  cases e : (readZ z.rules (puzText z)).2 with
  | false => rfl
  | true => rw [h e]; simp [samez_refl]
theorem readZ_or (r : Rul) (s : List UInt8) : (!(readZ r s).2 || decide (puzText (readZ r s).1 = s)) = true := by
  cases e : (readZ r s).2 with
  | false => rfl
  | true => simp [readZ_back e]
theorem readZ_same {z : Puz} (h : ¬ puzText z = []) : samez (readZ z.rules (puzText z)).1 z = true := by
  obtain ⟨a, b⟩ := readZ_ok z
  rw [b (by rw [a]; simp [h])]; exact samez_refl z
end Go.Proofs.YtjdhgkdimanabaaGreatDoor.M

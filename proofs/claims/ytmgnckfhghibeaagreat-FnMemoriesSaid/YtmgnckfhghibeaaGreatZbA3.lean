/- Plain mathematics of moves: the board seen from the other side, with other stores. -/
import Derived.Test.YtmgnckfhghibeaaGreatZbA2
import Derived.Test.YtmgnckfhghibeaaGreatProg
import Derived.ProofKit
import Derived.SizedLaws
import Derived.Test.YtmgnckfhghibeaaGreatZbA1
set_option linter.unusedSimpArgs false
set_option linter.unusedVariables false
namespace Go.Proofs.YtmgnckfhghibeaaGreat.M
def opl (r : Rul) (k : Int) : Int := if k < 0 then k else if k < r.pits then k + r.pits else k - r.pits
def rot (r : Rul) (l : List Int) : List Int := l.drop r.pits.toNat ++ l.take r.pits.toNat
def twS (d0 d1 : Int) (ss : List Int) : List Int := [nth ss 1 + d1, nth ss 0 + d0]
def twSw (r : Rul) (d0 d1 : Int) (s : Sw) : Sw := ⟨rot r s.pits, twS d0 d1 s.stores, opl r s.last, s.laps⟩
def twP (r : Rul) (d0 d1 : Int) (p : Pos) : Pos := ⟨rot r p.pits, twS d0 d1 p.stores, 1 - p.player⟩
def twR (r : Rul) (d0 d1 : Int) (x : Res) : Res := ⟨x.move, x.gain, x.again, twP r d0 d1 x.next⟩
theorem opl_neg {r : Rul} {k : Int} (h : k < 0) : opl r k = k := by unfold opl; rw [if_pos h]
theorem opl_lo {r : Rul} {k : Int} (h : 0 ≤ k) (h1 : k < r.pits) : opl r k = k + r.pits := by unfold opl; rw [if_neg (by omega), if_pos h1]
theorem opl_hi {r : Rul} {k : Int} (h : 0 ≤ k) (h1 : r.pits ≤ k) : opl r k = k - r.pits := by unfold opl; rw [if_neg (by omega), if_neg (by omega)]
theorem opl_cases (r : Rul) (k : Int) : (k < 0 ∧ opl r k = k) ∨ (0 ≤ k ∧ k < r.pits ∧ opl r k = k + r.pits) ∨ (0 ≤ k ∧ r.pits ≤ k ∧ opl r k = k - r.pits) := by
  by_cases h : k < 0
  · exact .inl ⟨h, opl_neg h⟩
  · by_cases h1 : k < r.pits
    · exact .inr (.inl ⟨by omega, h1, opl_lo (by omega) h1⟩)
    · exact .inr (.inr ⟨by omega, by omega, opl_hi (by omega) (by omega)⟩)
theorem rot_len (r : Rul) (l : List Int) : (rot r l).length = l.length := by simp [rot]; omega
theorem getI_rot {r : Rul} {l : List Int} (hl : (l.length : Int) = 2 * r.pits) {k : Int} (h0 : 0 ≤ k) (h1 : k < 2 * r.pits) : getI (rot r l) (opl r k) = getI l k := by
  unfold getI nth rot
  rw [List.getD_eq_getElem?_getD, List.getD_eq_getElem?_getD]
  rcases opl_cases r k with ⟨a, b⟩ | ⟨a, b, c⟩ | ⟨a, b, c⟩
  · omega
  · rw [c, List.getElem?_append_right (by simp; omega), List.getElem?_take_of_lt (by simp; omega)]
    congr 2; simp; omega
  · rw [c, List.getElem?_append_left (by simp; omega), List.getElem?_drop]
    congr 2; omega
theorem setI_rot {r : Rul} {l : List Int} (hl : (l.length : Int) = 2 * r.pits) {k : Int} (h0 : 0 ≤ k) (h1 : k < 2 * r.pits) (v : Int) : setI (rot r l) (opl r k) v = rot r (setI l k v) := by
  unfold setI rot
  rcases opl_cases r k with ⟨a, b⟩ | ⟨a, b, c⟩ | ⟨a, b, c⟩
  · omega
  · rw [c, List.set_append_right _ _ (by simp; omega), List.drop_set, if_pos (by omega), List.take_set]
    congr 2; simp; omega
  · have e : (List.take r.pits.toNat l).set k.toNat v = List.take r.pits.toNat l := List.set_eq_of_length_le (by simp; omega)
    rw [c, List.set_append_left _ _ (by simp; omega), List.drop_set, if_neg (by omega), List.take_set, e]
    congr 2; omega
theorem two_list {ss : List Int} (h : ss.length = 2) : ss = [nth ss 0, nth ss 1] := by
  match ss, h with
  | [a, b], _ => rfl
theorem twS_put {d0 d1 pl c : Int} {ss : List Int} (h : ss.length = 2) (hp : pl = 0 ∨ pl = 1) : setI (twS d0 d1 ss) (1 - pl) (getI (twS d0 d1 ss) (1 - pl) + c) = twS d0 d1 (setI ss pl (getI ss pl + c)) := by
  match ss, h with
  | [a, b], _ =>
    rcases hp with rfl | rfl
    · show [b + d1, a + d0 + c] = [b + d1, a + c + d0]
      rw [Int.add_right_comm]
    · show [b + d1 + c, a + d0] = [b + c + d1, a + d0]
      rw [Int.add_right_comm]
theorem twS_get {d0 d1 pl : Int} {ss : List Int} (hp : pl = 0 ∨ pl = 1) : getI (twS d0 d1 ss) (1 - pl) = getI ss pl + if pl = 0 then d0 else d1 := by
  rcases hp with rfl | rfl <;> rfl
theorem opl_bd {r : Rul} {k : Int} (hr : 2 ≤ r.pits) (h0 : -1 ≤ k) (h1 : k < 2 * r.pits) : -1 ≤ opl r k ∧ opl r k < 2 * r.pits := by
  rcases opl_cases r k with a | a | a <;> omega
theorem opl_inj {r : Rul} {a b : Int} (ha : -1 ≤ a) (ha1 : a < 2 * r.pits) (hb : -1 ≤ b) (hb1 : b < 2 * r.pits) (hr : 2 ≤ r.pits) : opl r a = opl r b ↔ a = b := by
  constructor
  · intro h
    rcases opl_cases r a with x | x | x <;> rcases opl_cases r b with y | y | y <;> omega
  · rintro rfl; rfl
theorem after_key {r : Rul} {k m A B : Int} (hr : 2 ≤ r.pits) (h0 : -1 ≤ k) (h1 : k < 2 * r.pits)
    (hA : (k = m - 1 ∧ r.stores = true ∧ A = -1) ∨ (¬ (k = m - 1 ∧ r.stores = true) ∧ ((k = -1 ∧ A = m % (2 * r.pits)) ∨ (0 ≤ k ∧ k + 1 = 2 * r.pits ∧ A = 0) ∨ (0 ≤ k ∧ k + 1 < 2 * r.pits ∧ A = k + 1))))
    (hB : (opl r k = 3 * r.pits - m - 1 ∧ r.stores = true ∧ B = -1) ∨ (¬ (opl r k = 3 * r.pits - m - 1 ∧ r.stores = true) ∧ ((opl r k = -1 ∧ B = (3 * r.pits - m) % (2 * r.pits)) ∨ (0 ≤ opl r k ∧ opl r k + 1 = 2 * r.pits ∧ B = 0) ∨ (0 ≤ opl r k ∧ opl r k + 1 < 2 * r.pits ∧ B = opl r k + 1))))
    (hm : m = r.pits ∨ m = 2 * r.pits) : B = opl r A := by
  have e1 : r.pits % (2 * r.pits) = r.pits := Int.emod_eq_of_lt (by omega) (by omega)
  have e2 : (2 * r.pits) % (2 * r.pits) = 0 := Int.emod_self
  have hk := opl_cases r k
  have hA' := opl_cases r A
  by_cases hs : r.stores = true
  · simp only [hs, true_and, and_true] at hA hB
    rcases hm with rfl | rfl
    · rw [show 3 * r.pits - r.pits = 2 * r.pits by omega, e2] at hB; rw [e1] at hA; omega
    · rw [show 3 * r.pits - 2 * r.pits = r.pits by omega, e1] at hB; rw [e2] at hA; omega
  · simp only [hs, Bool.false_eq_true, false_and, and_false, not_false_eq_true, true_and, false_or] at hA hB
    rcases hm with rfl | rfl
    · rw [show 3 * r.pits - r.pits = 2 * r.pits by omega, e2] at hB; rw [e1] at hA; omega
    · rw [show 3 * r.pits - 2 * r.pits = r.pits by omega, e1] at hB; rw [e2] at hA; omega
theorem after_c {r : Rul} {pl k : Int} (hr : 2 ≤ r.pits) (h0 : -1 ≤ k) (h1 : k < 2 * r.pits) :
    (k = (pl + 1) * r.pits - 1 ∧ r.stores = true ∧ after r pl k = -1) ∨ (¬ (k = (pl + 1) * r.pits - 1 ∧ r.stores = true) ∧ ((k = -1 ∧ after r pl k = ((pl + 1) * r.pits) % (2 * r.pits)) ∨ (0 ≤ k ∧ k + 1 = 2 * r.pits ∧ after r pl k = 0) ∨ (0 ≤ k ∧ k + 1 < 2 * r.pits ∧ after r pl k = k + 1))) := by
  unfold after
  by_cases h : k = (pl + 1) * r.pits - 1 ∧ r.stores = true
  · rw [if_pos h]; exact .inl ⟨h.1, h.2, rfl⟩
  · rw [if_neg h]
    refine .inr ⟨h, ?_⟩
    by_cases hk : k = -1
    · rw [if_pos hk]; exact .inl ⟨hk, rfl⟩
    · rw [if_neg hk]
      by_cases h2 : k + 1 = 2 * r.pits
      · exact .inr (.inl ⟨by omega, h2, by rw [h2, Int.emod_self]⟩)
      · exact .inr (.inr ⟨by omega, by omega, Int.emod_eq_of_lt (by omega) (by omega)⟩)
theorem after_tw {r : Rul} {pl k : Int} (hr : 2 ≤ r.pits) (hp : pl = 0 ∨ pl = 1) (h0 : -1 ≤ k) (h1 : k < 2 * r.pits) : after r (1 - pl) (opl r k) = opl r (after r pl k) := by
  have hb := opl_bd hr h0 h1
  have hA := after_c (pl := pl) hr h0 h1
  have hB := after_c (pl := 1 - pl) hr hb.1 hb.2
  have e : (1 - pl + 1) * r.pits = 3 * r.pits - (pl + 1) * r.pits := by
    rw [← Int.sub_mul]; congr 1; omega
  rw [e] at hB
  refine after_key hr h0 h1 hA hB ?_
  rcases hp with rfl | rfl
  · left; rw [Int.zero_add, Int.one_mul]
  · right; rfl
theorem nxt_tw {r : Rul} {pl frm k : Int} (hr : 2 ≤ r.pits) (h8 : r.pits ≤ 8) (hp : pl = 0 ∨ pl = 1) (f0 : 0 ≤ frm) (f1 : frm < 2 * r.pits) (h0 : -1 ≤ k) (h1 : k < 2 * r.pits) : nxt r (1 - pl) (opl r frm) (opl r k) = opl r (nxt r pl frm k) := by
  have ha := after_bd r h8 hr hp h0
  have e := after_tw hr hp h0 h1
  have e2 := after_tw hr hp (k := frm) (by omega) f1
  unfold nxt
  rw [e, e2]
  by_cases hs : r.skip = true ∧ after r pl k = frm
  · rw [if_pos hs, if_pos ⟨hs.1, by rw [hs.2]⟩]
  · rw [if_neg hs, if_neg (fun h => hs ⟨h.1, (opl_inj ha.1 ha.2 (by omega) f1 hr).1 h.2⟩)]
theorem sow_tw {r : Rul} {pl frm d0 d1 : Int} (hr : 2 ≤ r.pits) (h8 : r.pits ≤ 8) (hp : pl = 0 ∨ pl = 1) (f0 : 0 ≤ frm) (f1 : frm < 2 * r.pits) : ∀ (n : Nat) (place : Int) (ps ss path : List Int), -1 ≤ place → place < 2 * r.pits → (ps.length : Int) = 2 * r.pits → ss.length = 2 →
    sow r (1 - pl) (opl r frm) n (opl r place) (rot r ps) (twS d0 d1 ss) (path.map (opl r)) =
      (opl r (sow r pl frm n place ps ss path).1, rot r (sow r pl frm n place ps ss path).2.1, twS d0 d1 (sow r pl frm n place ps ss path).2.2.1, (sow r pl frm n place ps ss path).2.2.2.map (opl r))
  | 0, place, ps, ss, path, _, _, _, _ => rfl
  | n + 1, place, ps, ss, path, h0, h1, hl, hs => by
    have hn := nxt_bd r h8 hr hp (frm := frm) h0 f0
    have e := nxt_tw hr h8 hp f0 f1 h0 h1
    rw [sow_succ e, sow_succ rfl]
    have hm : ∀ x : Int, path.map (opl r) ++ [opl r x] = (path ++ [x]).map (opl r) := fun x => by simp
    by_cases hc : nxt r pl frm place < 0
    · rw [if_pos hc, if_pos (by rw [opl_neg hc]; exact hc), twS_put hs hp, hm]
      exact sow_tw hr h8 hp f0 f1 n _ _ _ _ hn.1 hn.2 hl (by simpa using hs)
    · have hb : ¬ opl r (nxt r pl frm place) < 0 := by rcases opl_cases r (nxt r pl frm place) with a | a | a <;> omega
      rw [if_neg hc, if_neg hb, getI_rot hl (by omega) hn.2, setI_rot hl (by omega) hn.2, hm]
      exact sow_tw hr h8 hp f0 f1 n _ _ _ _ hn.1 hn.2 (by simpa using hl) hs
theorem lap_tw {r : Rul} {pl frm d0 d1 : Int} {s : Sw} {path : List Int} (hr : 2 ≤ r.pits) (h8 : r.pits ≤ 8) (hp : pl = 0 ∨ pl = 1) (f0 : 0 ≤ frm) (f1 : frm < 2 * r.pits) (hG : Good r s.pits s.stores 0) :
    lap r (1 - pl) (opl r frm) (twSw r d0 d1 s) (path.map (opl r)) = (twSw r d0 d1 (lap r pl frm s path).1, (lap r pl frm s path).2.map (opl r)) := by
  have hl := hG.lp
  unfold lap twSw
  simp only
  rw [getI_rot hl f0 f1, setI_rot hl f0 f1, sow_tw hr h8 hp f0 f1 _ _ _ _ _ (by omega) f1 (by simpa using hl) hG.ls]
theorem more_tw {r : Rul} {d0 d1 : Int} {s : Sw} (hr : 2 ≤ r.pits) (hG : Good r s.pits s.stores 0) (h0 : -1 ≤ s.last) (h1 : s.last < 2 * r.pits) : more r (twSw r d0 d1 s) = more r s := by
  unfold more twSw
  simp only
  rcases opl_cases r s.last with ⟨a, b⟩ | ⟨a, b, c⟩ | ⟨a, b, c⟩
  · rw [decide_eq_false (p := 0 ≤ opl r s.last) (by omega), decide_eq_false (p := 0 ≤ s.last) (by omega)]; simp
  · rw [getI_rot hG.lp a h1, decide_eq_true (p := 0 ≤ opl r s.last) (by omega), decide_eq_true (p := 0 ≤ s.last) (by omega)]
  · rw [getI_rot hG.lp a h1, decide_eq_true (p := 0 ≤ opl r s.last) (by omega), decide_eq_true (p := 0 ≤ s.last) (by omega)]
theorem mv_tw {r : Rul} {pl d0 d1 : Int} (hr : 2 ≤ r.pits) (h8 : r.pits ≤ 8) (hp : pl = 0 ∨ pl = 1) : ∀ (n : Nat) (frm : Int) (s : Sw) (path : List Int), 0 ≤ frm → frm < 2 * r.pits → Good r s.pits s.stores 0 →
    mv r (1 - pl) n (opl r frm) (twSw r d0 d1 s) (path.map (opl r)) = (mv r pl n frm s path).map fun x => (twSw r d0 d1 x.1, x.2.map (opl r))
  | 0, _, _, _, _, _, _ => rfl
  | n + 1, frm, s, path, f0, f1, hG => by
    obtain ⟨a, b, c, _⟩ := lap_keeps r path h8 hr hp f0 f1 hG
    rw [mv, mv, lap_tw hr h8 hp f0 f1 hG]
    simp only
    rw [more_tw hr a b c]
    by_cases hm : more r (lap r pl frm s path).1 = true
    · rw [if_pos hm, if_pos hm]
      exact mv_tw hr h8 hp n _ _ _ (more_last hm) c a
    · rw [if_neg hm, if_neg hm]; rfl
theorem owner_lo {r : Rul} {k : Int} (h0 : 0 ≤ k) (h1 : k < r.pits) : owner r k = 0 := Int.ediv_eq_zero_of_lt h0 h1
theorem owner_hi {r : Rul} {k : Int} (h0 : r.pits ≤ k) (h1 : k < 2 * r.pits) : owner r k = 1 := by
  unfold owner
  have h := Int.add_mul_ediv_right (k - r.pits) 1 (c := r.pits) (by omega)
  rw [Int.one_mul, Int.sub_add_cancel] at h
  rw [h, Int.ediv_eq_zero_of_lt (a := k - r.pits) (by omega) (by omega)]; rfl
theorem owner_opl {r : Rul} {k : Int} (h0 : 0 ≤ k) (h1 : k < 2 * r.pits) : owner r (opl r k) = 1 - owner r k := by
  rcases opl_cases r k with ⟨a, b⟩ | ⟨a, b, c⟩ | ⟨a, b, c⟩
  · omega
  · rw [c, owner_lo a b, owner_hi (by omega) (by omega)]; rfl
  · rw [c, owner_hi b h1, owner_lo (by omega) (by omega)]; rfl
theorem ttI_tw {r : Rul} {pl : Int} {ps : List Int} (hr : 2 ≤ r.pits) (hp : pl = 0 ∨ pl = 1) (hl : (ps.length : Int) = 2 * r.pits) : ∀ (n : Nat) (k : Int), k.toNat = n → 0 ≤ k → k < 2 * r.pits → ttI r (1 - pl) (rot r ps) (opl r k) = (ttI r pl ps k).map (opl r) := by
  intro n
  induction n with
  | zero =>
    intro k hk h0 h1
    have hz : k = 0 := by omega
    subst hz
    by_cases hc : owner r 0 = pl ∨ betw (getI ps 0) 2 3 = false
    · rw [ttI_no hc, ttI_no ?_]; · rfl
      rcases hc with hc | hc
      · left; rw [owner_opl h0 h1, hc]
      · right; rw [getI_rot hl h0 h1]; exact hc
    · have h2 : owner r 0 ≠ pl := fun h => hc (.inl h)
      have h3 : betw (getI ps 0) 2 3 = true := by simpa using fun h => hc (.inr h)
      have ho := owner_lo (r := r) (k := 0) (by omega) (by omega)
      have hz : opl r 0 = r.pits := by rw [opl_lo (by omega) (by omega)]; omega
      rw [ttI_yes (k := 0) (by omega) h2 h3, ttI_yes (k := opl r 0) (by omega) (by rw [owner_opl h0 h1]; omega) (by rw [getI_rot hl h0 h1]; exact h3)]
      rw [ttI_neg (k := 0 - 1) (by omega), ttI_no (k := opl r 0 - 1)]
      · rfl
      · left; rw [hz, owner_lo (by omega) (by omega)]; omega
  | succ n ih =>
    intro k hk h0 h1
    by_cases hc : owner r k = pl ∨ betw (getI ps k) 2 3 = false
    · rw [ttI_no hc, ttI_no ?_]; · rfl
      rcases hc with hc | hc
      · left; rw [owner_opl h0 h1, hc]
      · right; rw [getI_rot hl h0 h1]; exact hc
    · have h2 : owner r k ≠ pl := fun h => hc (.inl h)
      have h3 : betw (getI ps k) 2 3 = true := by simpa using fun h => hc (.inr h)
      have hb : 0 ≤ opl r k := by rcases opl_cases r k with a | a | a <;> omega
      rw [ttI_yes (k := k) h0 h2 h3, ttI_yes (k := opl r k) hb (by rw [owner_opl h0 h1]; omega) (by rw [getI_rot hl h0 h1]; exact h3), List.map_cons]
      congr 1
      by_cases hn : k = r.pits
      · have ho := owner_hi (r := r) (k := k) (by omega) h1
        rw [ttI_neg (k := opl r k - 1) (by rw [opl_hi h0 (by omega)]; omega), ttI_no (k := k - 1) (.inl ?_)]
        · rfl
        · rw [owner_lo (by omega) (by omega)]; omega
      · rw [show opl r k - 1 = opl r (k - 1) by rcases opl_cases r k with a | a | a <;> rcases opl_cases r (k - 1) with b | b | b <;> omega]
        exact ih (k - 1) (by omega) (by omega) (by omega)
theorem opp_opl {r : Rul} {k : Int} (h0 : 0 ≤ k) (h1 : k < 2 * r.pits) : opp r (opl r k) = opl r (opp r k) := by
  unfold opp
  rcases opl_cases r k with a | a | a <;> rcases opl_cases r (2 * r.pits - 1 - k) with b | b | b <;> omega
theorem taken_tw {r : Rul} {pl d0 d1 : Int} {s : Sw} (hr : 2 ≤ r.pits) (hp : pl = 0 ∨ pl = 1) (hG : Good r s.pits s.stores 0) (h0 : -1 ≤ s.last) (h1 : s.last < 2 * r.pits) : taken r (twSw r d0 d1 s) (1 - pl) = (taken r s pl).map (opl r) := by
  have hl := hG.lp
  unfold taken
  by_cases hn : s.last < 0
  · rw [if_pos (show (twSw r d0 d1 s).last < 0 by show opl r s.last < 0; rw [opl_neg hn]; exact hn), if_pos hn]; rfl
  · have hb : ¬ opl r s.last < 0 := by rcases opl_cases r s.last with a | a | a <;> omega
    rw [if_neg (show ¬ (twSw r d0 d1 s).last < 0 from hb), if_neg hn]
    by_cases c1 : r.capture = 1
    · rw [if_pos c1, if_pos c1]
      have e := ttI_tw hr hp hl _ s.last rfl (by omega) h1
      unfold ttI at e
      rw [if_neg hn, if_neg hb] at e
      exact e
    · rw [if_neg c1, if_neg c1]
      have g1 : getI (twSw r d0 d1 s).pits (twSw r d0 d1 s).last = getI s.pits s.last := getI_rot hl (by omega) h1
      have o1 : owner r (twSw r d0 d1 s).last = 1 - owner r s.last := owner_opl (by omega) h1
      have p1 : opp r (twSw r d0 d1 s).last = opl r (opp r s.last) := opp_opl (by omega) h1
      have g2 : getI (twSw r d0 d1 s).pits (opl r (opp r s.last)) = getI s.pits (opp r s.last) := getI_rot hl (by unfold opp; omega) (by unfold opp; omega)
      rw [g1, o1, p1, g2]
      by_cases c2 : r.capture = 2
      · rw [if_pos c2, if_pos c2]
        by_cases c4 : owner r s.last = pl ∧ getI s.pits s.last = 1 ∧ 0 < getI s.pits (opp r s.last)
        · rw [if_pos c4, if_pos ⟨by omega, c4.2⟩]; rfl
        · rw [if_neg c4, if_neg (fun h => c4 ⟨by omega, h.2⟩)]; rfl
      · rw [if_neg c2, if_neg c2]
        by_cases c3 : r.capture = 3
        · rw [if_pos c3, if_pos c3]
          by_cases c4 : owner r s.last ≠ pl ∧ getI s.pits s.last % 2 = 0
          · rw [if_pos c4, if_pos ⟨by omega, c4.2⟩]; rfl
          · rw [if_neg c4, if_neg (fun h => c4 ⟨by omega, h.2⟩)]; rfl
        · rw [if_neg c3, if_neg c3]; rfl
theorem side_tw {r : Rul} {pl : Int} {ps : List Int} (hr : 2 ≤ r.pits) (hp : pl = 0 ∨ pl = 1) (hl : (ps.length : Int) = 2 * r.pits) : side r (rot r ps) (1 - pl) = side r ps pl := by
  unfold side rot
  rcases hp with rfl | rfl
  · rw [show ((1 : Int) - 0) * r.pits = r.pits by rw [Int.sub_zero, Int.one_mul], show ((0 : Int) * r.pits).toNat = 0 by simp, List.drop_zero, List.drop_append_of_le_length (by simp; omega), List.drop_eq_nil_of_le (by simp; omega), List.nil_append, List.take_take, Nat.min_self]
  · rw [show (((1 : Int) - 1) * r.pits).toNat = 0 by simp, show ((1 : Int) * r.pits) = r.pits by rw [Int.one_mul], List.drop_zero, List.take_append_of_le_length (by simp; omega)]
theorem gone_tw {r : Rul} {pl d0 d1 : Int} {s : Sw} (hG : Good r s.pits s.stores 0) : ∀ l : List Int, (∀ x ∈ l, 0 ≤ x ∧ x < 2 * r.pits) → gone r (twSw r d0 d1 s) (1 - pl) (l.map (opl r)) = gone r s pl l
  | [], _ => rfl
  | k :: l, h => by
    have hk := h k (by simp)
    rw [List.map_cons, gone_cons, gone_cons, gone_tw hG l (fun x hx => h x (by simp [hx])), owner_opl hk.1 hk.2]
    have g : getI (twSw r d0 d1 s).pits (opl r k) = getI s.pits k := getI_rot hG.lp hk.1 hk.2
    rw [g]
    by_cases e : owner r k = pl
    · rw [if_pos e, if_pos (by omega)]
    · rw [if_neg e, if_neg (by omega)]
theorem slams_tw {r : Rul} {pl d0 d1 : Int} {s : Sw} (hr : 2 ≤ r.pits) (hp : pl = 0 ∨ pl = 1) (hG : Good r s.pits s.stores 0) (h0 : -1 ≤ s.last) (h1 : s.last < 2 * r.pits) : slams r (twSw r d0 d1 s) (1 - pl) = slams r s pl := by
  unfold slams
  rw [taken_tw hr hp hG h0 h1, gone_tw hG _ (fun x hx => taken_mem h1 hx)]
  have e : side r (twSw r d0 d1 s).pits (1 - (1 - pl)) = side r s.pits (1 - pl) := side_tw hr (by omega) hG.lp
  rw [e]
theorem captured_tw {r : Rul} {pl d0 d1 : Int} {s : Sw} (hr : 2 ≤ r.pits) (hp : pl = 0 ∨ pl = 1) (hG : Good r s.pits s.stores 0) (h0 : -1 ≤ s.last) (h1 : s.last < 2 * r.pits) : captured r (twSw r d0 d1 s) (1 - pl) = (captured r s pl).map (opl r) := by
  unfold captured
  rw [slams_tw hr hp hG h0 h1, taken_tw hr hp hG h0 h1]
  split
  · rfl
  · rfl
theorem zeros_tw {r : Rul} : ∀ (l ps : List Int), (ps.length : Int) = 2 * r.pits → (∀ x ∈ l, 0 ≤ x ∧ x < 2 * r.pits) → zeros (l.map (opl r)) (rot r ps) = rot r (zeros l ps)
  | [], _, _, _ => rfl
  | k :: l, ps, hl, h => by
    have hk := h k (by simp)
    show zeros (l.map (opl r)) (setI (rot r ps) (opl r k) 0) = rot r (zeros l (setI ps k 0))
    rw [setI_rot hl hk.1 hk.2]
    exact zeros_tw l _ (by simpa using hl) (fun x hx => h x (by simp [hx]))
theorem take_tw {r : Rul} {pl d0 d1 : Int} {s : Sw} (hr : 2 ≤ r.pits) (hp : pl = 0 ∨ pl = 1) (hG : Good r s.pits s.stores 0) (h0 : -1 ≤ s.last) (h1 : s.last < 2 * r.pits) : take r (twSw r d0 d1 s) (1 - pl) = twSw r d0 d1 (take r s pl) := by
  have hm : ∀ x ∈ captured r s pl, 0 ≤ x ∧ x < 2 * r.pits := fun x hx => captured_mem h1 hx
  unfold take
  rw [captured_tw hr hp hG h0 h1]
  have e1 : (twSw r d0 d1 s).pits = rot r s.pits := rfl
  have e2 : (twSw r d0 d1 s).stores = twS d0 d1 s.stores := rfl
  have e3 : ((captured r s pl).map (opl r)).map (getI (rot r s.pits)) = (captured r s pl).map (getI s.pits) := by
    rw [List.map_map]
    exact List.map_congr_left fun x hx => getI_rot hG.lp (hm x hx).1 (hm x hx).2
  rw [e1, e2, e3, zeros_tw _ _ hG.lp hm, twS_put hG.ls hp]
  rfl
theorem twP_pit {r : Rul} {p : Pos} {d0 d1 move : Int} (hok : okP r p = true) (m0 : 0 ≤ move) (m1 : move < r.pits) : (twP r d0 d1 p).player * r.pits + move = opl r (p.player * r.pits + move) := by
  obtain ⟨b1, b2, b3, b4, b5, b6, b7⟩ := okP_bd hok
  show (1 - p.player) * r.pits + move = _
  rcases b7 with e | e <;> rw [e]
  · rw [opl_lo (by omega) (by omega)]; omega
  · rw [opl_hi (by omega) (by omega)]; omega
theorem mv_last {r : Rul} {pl frm : Int} {n : Nat} {path : List Int} (s t : Sw) (h1 : s.pits = t.pits) (h2 : s.stores = t.stores) (h3 : s.laps = t.laps) : mv r pl (n + 1) frm s path = mv r pl (n + 1) frm t path := by
  have e : lap r pl frm s path = lap r pl frm t path := by unfold lap; rw [h1, h2, h3]
  rw [mv, mv, e]
theorem sowMove_tw {r : Rul} {p : Pos} {d0 d1 : Int} (hok : okP r p = true) (hoq : okP r (twP r d0 d1 p) = true) (move : Int) :
    (sowMove r (twP r d0 d1 p) move).1 = (sowMove r p move).1 ∧ ((sowMove r p move).1 = 0 → (sowMove r (twP r d0 d1 p) move).2.1 = twSw r d0 d1 (sowMove r p move).2.1) := by
  obtain ⟨b1, b2, b3, b4, b5, b6, b7⟩ := okP_bd hok
  have hc : sowCode r (twP r d0 d1 p) move = sowCode r p move := by
    have c1 : ∀ x, okP r x = true → sowCode r x move = if betw move 0 (r.pits - 1) = false then 2 else if getI x.pits (x.player * r.pits + move) = 0 then 6 else 0 := fun x hx => by unfold sowCode; rw [if_neg (by simp [hx])]
    rw [c1 _ hok, c1 _ hoq]
    cases hb : betw move 0 (r.pits - 1)
    · rfl
    · obtain ⟨m0, m1⟩ := betw_iff.1 hb
      have e : getI (twP r d0 d1 p).pits (opl r (p.player * r.pits + move)) = getI p.pits (p.player * r.pits + move) := getI_rot b3 (by rcases b7 with e | e <;> rw [e] <;> omega) (by rcases b7 with e | e <;> rw [e] <;> omega)
      rw [twP_pit hok m0 (by omega), e]
  unfold sowMove
  rw [hc]
  by_cases hz : sowCode r p move = 0
  · rw [if_neg (by simpa using hz), if_neg (by simpa using hz)]
    obtain ⟨_, m0, m1, _⟩ := sowCode_ok hz
    have e := mv_tw (d0 := d0) (d1 := d1) b1 b2 b7 100 (p.player * r.pits + move) ⟨p.pits, p.stores, 0, 0⟩ [] (by rcases b7 with e | e <;> rw [e] <;> omega) (by rcases b7 with e | e <;> rw [e] <;> omega) (Good.of_ok hok)
    rw [← twP_pit (d0 := d0) (d1 := d1) hok m0 m1] at e
    have e2 : mv r (twP r d0 d1 p).player 100 ((twP r d0 d1 p).player * r.pits + move) ⟨(twP r d0 d1 p).pits, (twP r d0 d1 p).stores, 0, 0⟩ [] = (mv r p.player 100 (p.player * r.pits + move) ⟨p.pits, p.stores, 0, 0⟩ []).map fun x => (twSw r d0 d1 x.1, x.2.map (opl r)) := by
      exact (mv_last (n := 99) ⟨(twP r d0 d1 p).pits, (twP r d0 d1 p).stores, 0, 0⟩ (twSw r d0 d1 ⟨p.pits, p.stores, 0, 0⟩) rfl rfl rfl).trans e
    rw [e2]
    cases hmv : mv r p.player 100 (p.player * r.pits + move) ⟨p.pits, p.stores, 0, 0⟩ [] with
    | none => exact ⟨rfl, fun h => by simp at h⟩
    | some x => exact ⟨rfl, fun _ => rfl⟩
  · rw [if_pos hz, if_pos hz]; exact ⟨rfl, fun h => absurd h hz⟩
theorem done_tw {r : Rul} {p : Pos} {d0 d1 : Int} (hok : okP r p = true) (hoq : okP r (twP r d0 d1 p) = true) (move : Int) :
    (done r (twP r d0 d1 p) move).2 = (done r p move).2 ∧ ((done r p move).2 = 0 → (done r (twP r d0 d1 p) move).1 = twSw r d0 d1 (done r p move).1) := by
  obtain ⟨b1, b2, b3, b4, b5, b6, b7⟩ := okP_bd hok
  obtain ⟨e1, e2⟩ := sowMove_tw hok hoq move
  by_cases hz : (sowMove r p move).1 = 0
  · obtain ⟨_, _, _, hG, l0, l1, _⟩ := sowMove_ok hz
    have c1 : ∀ x, (sowMove r x move).1 = 0 → done r x move = if (decide (r.slam = 1) && slams r (sowMove r x move).2.1 x.player) || (mustFeed r x && decide (side r (take r (sowMove r x move).2.1 x.player).pits (1 - x.player) = 0)) then (Sw.zero, 9) else (take r (sowMove r x move).2.1 x.player, 0) := fun x hx => by unfold done; rw [if_neg (by simpa using hx)]
    rw [c1 _ hz, c1 _ (e1.trans hz), e2 hz]
    have f1 : slams r (twSw r d0 d1 (sowMove r p move).2.1) (twP r d0 d1 p).player = slams r (sowMove r p move).2.1 p.player := slams_tw b1 b7 hG l0 l1
    have f2 : take r (twSw r d0 d1 (sowMove r p move).2.1) (twP r d0 d1 p).player = twSw r d0 d1 (take r (sowMove r p move).2.1 p.player) := take_tw b1 b7 hG l0 l1
    have f3 : mustFeed r (twP r d0 d1 p) = mustFeed r p := by
      unfold mustFeed
      have : side r (twP r d0 d1 p).pits (1 - (twP r d0 d1 p).player) = side r p.pits (1 - p.player) := side_tw (pl := 1 - p.player) b1 (by omega) b3
      rw [this]
    have f4 : side r (twSw r d0 d1 (take r (sowMove r p move).2.1 p.player)).pits (1 - (twP r d0 d1 p).player) = side r (take r (sowMove r p move).2.1 p.player).pits (1 - p.player) := side_tw (pl := 1 - p.player) b1 (by omega) (take_keeps b7 hG l1).1.lp
    rw [f1, f2, f3, f4]
    split
    · exact ⟨rfl, fun h => by simp at h⟩
    · exact ⟨rfl, fun _ => rfl⟩
  · have c2 : ∀ x, (sowMove r x move).1 ≠ 0 → done r x move = (Sw.zero, (sowMove r x move).1) := fun x hx => by unfold done; rw [if_pos hx]
    rw [c2 _ hz, c2 _ (by rw [e1]; exact hz), e1]
    exact ⟨rfl, fun h => absurd h hz⟩
theorem make_tw {r : Rul} {p : Pos} {d0 d1 : Int} (hok : okP r p = true) (hoq : okP r (twP r d0 d1 p) = true) (move : Int) :
    (make r (twP r d0 d1 p) move).2 = (make r p move).2 ∧ ((make r p move).2 = 0 → (make r (twP r d0 d1 p) move).1 = twR r d0 d1 (make r p move).1) := by
  obtain ⟨b1, b2, b3, b4, b5, b6, b7⟩ := okP_bd hok
  obtain ⟨e1, e2⟩ := done_tw hok hoq move
  rw [make_code, make_code]
  refine ⟨e1, fun hz => ?_⟩
  obtain ⟨h1, h2⟩ := done_ok hz
  obtain ⟨_, _, _, hG, l0, l1, _⟩ := sowMove_ok h1
  have ht := (take_keeps b7 hG l1).1
  rw [← h2] at ht
  have hl : -1 ≤ (done r p move).1.last := by rw [h2]; exact l0
  rw [make_yes hz, make_yes (by rw [e1]; exact hz), e2 hz]
  have a1 : decide ((twSw r d0 d1 (done r p move).1).last = -1) = decide ((done r p move).1.last = -1) := by
    have : opl r (done r p move).1.last = -1 ↔ (done r p move).1.last = -1 := by rcases opl_cases r (done r p move).1.last with a | a | a <;> omega
    show decide (opl r (done r p move).1.last = -1) = _
    rw [decide_eq_decide]; exact this
  have g1 : getI (twSw r d0 d1 (done r p move).1).stores (twP r d0 d1 p).player - getI (twP r d0 d1 p).stores (twP r d0 d1 p).player = getI (done r p move).1.stores p.player - getI p.stores p.player := by
    show getI (twS d0 d1 _) (1 - p.player) - getI (twS d0 d1 _) (1 - p.player) = _
    rw [twS_get b7, twS_get b7]; omega
  unfold resOf
  simp only
  rw [a1, g1]
  unfold twR
  simp only
  congr 1
  unfold twP
  simp only
  congr 1
  split <;> omega
theorem make_tw_ok {r : Rul} {p : Pos} {d0 d1 : Int} (hok : okP r p = true) (hoq : okP r (twP r d0 d1 p) = true) {move : Int} (hz : (make r p move).2 = 0) : okP r (make r p move).1.next = true ∧ okP r (twP r d0 d1 (make r p move).1.next) = true := by
  obtain ⟨e1, e2⟩ := make_tw hok hoq move
  refine ⟨(make_ok hz).2.2.2.1, ?_⟩
  have := (make_ok (e1.trans hz)).2.2.2.1
  rw [e2 hz] at this; exact this
theorem resultsTo_tw {r : Rul} {p : Pos} {d0 d1 : Int} (hok : okP r p = true) (hoq : okP r (twP r d0 d1 p) = true) : ∀ n : Nat, resultsTo r (twP r d0 d1 p) n = (resultsTo r p n).map (twR r d0 d1)
  | 0 => rfl
  | n + 1 => by
    obtain ⟨e1, e2⟩ := make_tw hok hoq (n : Int)
    rw [resultsTo, resultsTo, resultsTo_tw hok hoq n, e1, List.map_append]
    congr 1
    by_cases hz : (make r p n).2 = 0
    · rw [if_pos hz, if_pos hz, e2 hz]; rfl
    · rw [if_neg hz, if_neg hz]; rfl
theorem results_tw {r : Rul} {p : Pos} {d0 d1 : Int} (hok : okP r p = true) (hoq : okP r (twP r d0 d1 p) = true) : results r (twP r d0 d1 p) = (results r p).map (twR r d0 d1) := resultsTo_tw hok hoq _
theorem results_tw_ok {r : Rul} {p : Pos} {d0 d1 : Int} (hok : okP r p = true) (hoq : okP r (twP r d0 d1 p) = true) {x : Res} (hx : x ∈ results r p) : okP r x.next = true ∧ okP r (twP r d0 d1 x.next) = true := by
  obtain ⟨m, hm, rfl⟩ := results_fact hx
  exact make_tw_ok hok hoq hm
theorem endV_tw {r : Rul} {p : Pos} {d0 d1 : Int} (hok : okP r p = true) : endV r (twP r d0 d1 p) = endV r p := by
  obtain ⟨b1, b2, b3, b4, b5, b6, b7⟩ := okP_bd hok
  have h1 : side r (twP r d0 d1 p).pits (twP r d0 d1 p).player = side r p.pits p.player := side_tw b1 b7 b3
  have h2 : side r (twP r d0 d1 p).pits (1 - (twP r d0 d1 p).player) = side r p.pits (1 - p.player) := side_tw (pl := 1 - p.player) b1 (by omega) b3
  unfold endV
  rw [h1, h2]
theorem val_tw {r : Rul} {d0 d1 : Int} : ∀ (d : Nat) (p : Pos), okP r p = true → okP r (twP r d0 d1 p) = true → val r d (twP r d0 d1 p) = val r d p
  | 0, p, hok, hoq => by rw [val, val, results_tw hok hoq, List.length_map, endV_tw hok]
  | d + 1, p, hok, hoq => by
    rw [val, val, results_tw hok hoq, List.length_map, endV_tw hok, List.map_map]
    split
    · rfl
    · congr 1
      refine List.map_congr_left fun x hx => ?_
      obtain ⟨h1, h2⟩ := results_tw_ok hok hoq hx
      show moveV (twR r d0 d1 x) (val r d (twP r d0 d1 x.next)) = _
      rw [val_tw d x.next h1 h2]; rfl
theorem size_tw {r : Rul} {d0 d1 : Int} : ∀ (d : Nat) (p : Pos), okP r p = true → okP r (twP r d0 d1 p) = true → size r d (twP r d0 d1 p) = size r d p
  | 0, p, _, _ => rfl
  | d + 1, p, hok, hoq => by
    rw [size, size, results_tw hok hoq, List.map_map]
    congr 2
    refine List.map_congr_left fun x hx => ?_
    obtain ⟨h1, h2⟩ := results_tw_ok hok hoq hx
    exact size_tw d x.next h1 h2
theorem rot_rot {r : Rul} {l : List Int} (hl : (l.length : Int) = 2 * r.pits) : rot r (rot r l) = l := by
  unfold rot
  rw [List.drop_append_of_le_length (by simp; omega), List.take_append_of_le_length (by simp; omega), @List.drop_eq_nil_of_le _ (List.drop r.pits.toNat l) _ (by simp; omega), List.nil_append, List.take_of_length_le (l := List.drop _ l) (by simp; omega), List.take_append_drop]
theorem turnP_tw {r : Rul} (p : Pos) : turnP r p = twP r 0 0 p := by
  unfold turnP twP twS rot
  simp
theorem isum_rot (r : Rul) (l : List Int) : isum (rot r l) = isum l := by
  unfold rot
  conv => rhs; rw [← List.take_append_drop r.pits.toNat l]
  rw [isum_append, isum_append]; omega
theorem allOk_rot {r : Rul} {l : List Int} (h : allOk l = true) : allOk (rot r l) = true := by
  unfold rot allOk at *
  rw [List.all_eq_true] at *
  intro x hx
  rcases List.mem_append.1 hx with hx | hx
  · exact h x (List.mem_of_mem_drop hx)
  · exact h x (List.mem_of_mem_take hx)
theorem okP_mk {r : Rul} {p q : Pos} (h : okP r p = true) (h1 : q.pits.length = p.pits.length) (h2 : q.stores.length = 2) (h3 : q.player = 0 ∨ q.player = 1) (h4 : allOk q.pits = true) (h5 : allOk q.stores = true) (h6 : isum q.pits + isum q.stores ≤ isum p.pits + isum p.stores) : okP r q = true := by
  have hs := okP_sum h
  have hr := okP_okR h
  obtain ⟨b1, b2, b3, b4, b5, b6, b7⟩ := okP_bd h
  unfold okP
  simp only [Bool.and_eq_true, decide_eq_true_eq, Bool.or_eq_true]
  exact ⟨⟨⟨⟨⟨⟨hr, by rw [h1]; exact b3⟩, h2⟩, h3⟩, h4⟩, h5⟩, by omega⟩
theorem okP_turn {r : Rul} {p : Pos} (h : okP r p = true) : okP r (turnP r p) = true := by
  obtain ⟨b1, b2, b3, b4, b5, b6, b7⟩ := okP_bd h
  have e := two_list b4
  have h1 := allOk_nth b6 0
  have h2 := allOk_nth b6 1
  have e2 : isum p.stores = nth p.stores 0 + nth p.stores 1 := by
    conv => lhs; rw [e]
    simp [nth]
  refine okP_mk h (rot_len r p.pits) rfl (by show 1 - p.player = 0 ∨ 1 - p.player = 1; omega) (allOk_rot b5) ?_ ?_
  · show allOk [nth p.stores 1, nth p.stores 0] = true
    unfold allOk
    simp only [List.all_cons, List.all_nil, Bool.and_true, Bool.and_eq_true]
    exact ⟨betw_iff.2 h2, betw_iff.2 h1⟩
  · show isum (rot r p.pits) + isum [nth p.stores 1, nth p.stores 0] ≤ _
    rw [isum_rot, e2]; simp; omega
def bare (p : Pos) : Pos := ⟨p.pits, [0, 0], p.player⟩
theorem okP_bare {r : Rul} {p : Pos} (h : okP r p = true) : okP r (bare p) = true := by
  obtain ⟨b1, b2, b3, b4, b5, b6, b7⟩ := okP_bd h
  have := (isum_bd b6).1
  exact okP_mk h rfl rfl b7 b5 (by show allOk [0, 0] = true; decide) (by show isum p.pits + isum [0, 0] ≤ _; simp; omega)
theorem bare_tw {r : Rul} {p : Pos} (h : okP r p = true) : bare p = twP r (-nth (turnP r p).stores 0) (-nth (turnP r p).stores 1) (turnP r p) := by
  obtain ⟨b1, b2, b3, b4, b5, b6, b7⟩ := okP_bd h
  unfold bare twP
  have e1 : rot r (turnP r p).pits = p.pits := rot_rot b3
  rw [e1]
  congr 1
  · unfold twS; simp [Int.add_right_neg]
  · show p.player = 1 - (1 - p.player); omega
theorem val_turn {r : Rul} {p : Pos} (h : okP r p = true) (d : Nat) : val r d (turnP r p) = val r d p := by
  have ht := okP_turn h
  rw [turnP_tw] at ht ⊢
  exact val_tw d p h ht
theorem size_turn {r : Rul} {p : Pos} (h : okP r p = true) (d : Nat) : size r d (turnP r p) = size r d p := by
  have ht := okP_turn h
  rw [turnP_tw] at ht ⊢
  exact size_tw d p h ht
theorem val_bare {r : Rul} {p : Pos} (h : okP r p = true) (d : Nat) : val r d (bare p) = val r d p := by
  have ht := okP_turn h
  have hb := okP_bare h
  rw [bare_tw h] at hb ⊢
  rw [val_tw d _ ht hb, val_turn h]
theorem store_add {ss : List Int} {pl a b : Int} (h : ss.length = 2) (hp : pl = 0 ∨ pl = 1) : setI (setI ss pl (getI ss pl + a)) pl (getI (setI ss pl (getI ss pl + a)) pl + b) = setI ss pl (getI ss pl + (a + b)) := by
  rw [getI_setI_same (by omega) (by omega), setI_setI, Int.add_assoc]
theorem store_same {ss : List Int} {pl : Int} (h : ss.length = 2) (hp : pl = 0 ∨ pl = 1) : setI ss pl (getI ss pl + 0) = ss := by
  match ss, h with
  | [a, b], _ => rcases hp with rfl | rfl <;> simp [setI, getI, nth]
theorem sow_st (r : Rul) {pl : Int} (hp : pl = 0 ∨ pl = 1) (frm : Int) : ∀ (n : Nat) (place : Int) (ps ss path : List Int), ss.length = 2 →
    ∃ t : Int, 0 ≤ t ∧ (sow r pl frm n place ps ss path).2.2.1 = setI ss pl (getI ss pl + t)
  | 0, place, ps, ss, path, h => ⟨0, by omega, by rw [sow]; exact (store_same h hp).symm⟩
  | n + 1, place, ps, ss, path, h => by
    rw [sow]; split
    · obtain ⟨t, h0, e⟩ := sow_st r hp frm n (nxt r pl frm place) ps (setI ss pl (getI ss pl + 1)) (path ++ [nxt r pl frm place]) (by rw [setI_length, h])
      exact ⟨1 + t, by omega, by rw [e, store_add h hp]⟩
    · exact sow_st r hp frm n _ _ ss _ h
theorem mv_st (r : Rul) {pl : Int} (hp : pl = 0 ∨ pl = 1) : ∀ (n : Nat) (frm : Int) (s : Sw) (path : List Int) (x : Sw × List Int), s.stores.length = 2 → mv r pl n frm s path = some x →
    ∃ t : Int, 0 ≤ t ∧ x.1.stores = setI s.stores pl (getI s.stores pl + t)
  | 0, frm, s, path, x, h2, h => by simp [mv] at h
  | n + 1, frm, s, path, x, h2, h => by
    obtain ⟨t, h0, e⟩ := sow_st r hp frm (getI s.pits frm).toNat frm (setI s.pits frm 0) s.stores path h2
    have e : (lap r pl frm s path).1.stores = setI s.stores pl (getI s.stores pl + t) := e
    rw [mv] at h
    split at h
    · obtain ⟨t2, h3, e2⟩ := mv_st r hp n _ _ _ x (by rw [e, setI_length, h2]) h
      exact ⟨t + t2, by omega, by rw [e2, e, store_add h2 hp]⟩
    · injection h with h; subst h; exact ⟨t, h0, e⟩
theorem sowMove_st {r : Rul} {p : Pos} {move : Int} (h : (sowMove r p move).1 = 0) : ∃ t : Int, 0 ≤ t ∧ (sowMove r p move).2.1.stores = setI p.stores p.player (getI p.stores p.player + t) := by
  obtain ⟨ho, _⟩ := sowMove_ok h
  obtain ⟨r1, r2, g1, g2, g3, g4, g5⟩ := okP_bd ho
  unfold sowMove at *
  by_cases hc : sowCode r p move = 0
  case neg => rw [if_pos hc] at h; exact absurd h hc
  rw [if_neg (by simpa using hc)] at h ⊢
  cases hmv : mv r p.player 100 (p.player * r.pits + move) ⟨p.pits, p.stores, 0, 0⟩ [] with
  | none => rw [hmv] at h; simp at h
  | some x => exact mv_st r g5 100 _ ⟨p.pits, p.stores, 0, 0⟩ [] x g2 hmv
theorem gain_of {r : Rul} {p : Pos} {move : Int} (h : (make r p move).2 = 0) : 0 ≤ (make r p move).1.gain ∧ isum (make r p move).1.next.pits + (make r p move).1.gain = isum p.pits := by
  have h1 := make_code (r := r) (p := p) (move := move)
  rw [h] at h1
  have hd := h1.symm
  obtain ⟨h2, h3⟩ := done_ok hd
  obtain ⟨hok, _, _, hG, _⟩ := sowMove_ok h2
  obtain ⟨r1, r2, g1, g2, g3, g4, g5⟩ := okP_bd hok
  obtain ⟨t, t0, et⟩ := sowMove_st h2
  have hs := (make_ok h).2.2.2.2.2
  have hc : 0 ≤ isum ((captured r (sowMove r p move).2.1 p.player).map (getI (sowMove r p move).2.1.pits)) := nn_isum fun x hx => by
    obtain ⟨k, _, rfl⟩ := List.mem_map.1 hx
    exact (hG.pit k).1
  have e2 : (done r p move).1.stores = setI p.stores p.player (getI p.stores p.player + (t + isum ((captured r (sowMove r p move).2.1 p.player).map (getI (sowMove r p move).2.1.pits)))) := by
    rw [h3]
    show setI (sowMove r p move).2.1.stores p.player (getI (sowMove r p move).2.1.stores p.player + _) = _
    rw [et, store_add g2 g5]
  rw [make_yes hd] at hs ⊢
  simp only at hs ⊢
  have e3 : (resOf r p move (done r p move).1).gain = t + isum ((captured r (sowMove r p move).2.1 p.player).map (getI (sowMove r p move).2.1.pits)) := by
    show getI (done r p move).1.stores p.player - getI p.stores p.player = _
    rw [e2, getI_setI_same (by omega) (by omega)]; omega
  have e4 : isum (resOf r p move (done r p move).1).next.stores = isum p.stores + (resOf r p move (done r p move).1).gain := by
    rw [e3]
    show isum (done r p move).1.stores = _
    rw [e2, isum_setI (by omega) (by omega)]; omega
  exact ⟨by rw [e3]; omega, by omega⟩
theorem results_pits {r : Rul} {p : Pos} {x : Res} (h : x ∈ results r p) : 0 ≤ x.gain ∧ isum x.next.pits + x.gain = isum p.pits := by
  obtain ⟨m, hm, rfl⟩ := results_fact h
  exact gain_of hm
theorem endV_pits {r : Rul} {p : Pos} (h : okP r p = true) : -isum p.pits ≤ endV r p ∧ endV r p ≤ isum p.pits := by
  obtain ⟨r1, r2, g1, g2, g3, g4, g5⟩ := okP_bd h
  have hsa := side_all (r := r) (ps := p.pits) (by omega) g1
  have a := side_bd g3 r2 p.player
  have b := side_bd g3 r2 (1 - p.player)
  unfold endV
  rcases g5 with e | e
  · rw [e] at a b ⊢; rw [show (1 : Int) - 0 = 1 from rfl] at *; omega
  · rw [e] at a b ⊢; rw [show (1 : Int) - 1 = 0 from rfl] at *; omega
theorem pits_96 {r : Rul} {p : Pos} (h : okP r p = true) : 0 ≤ isum p.pits ∧ isum p.pits ≤ 96 := by
  obtain ⟨r1, r2, g1, g2, g3, g4, g5⟩ := okP_bd h
  have a := nn_isum (nn_of_ok g3)
  have b := nn_isum (nn_of_ok g4)
  have := okP_sum h
  omega
structure Slo where
  used : Bool
  pits : List Int
  player : Int
  depth : Int
  value : Int
  bound : Int
  deriving DecidableEq
structure Mem where
  rules : Rul
  slots : List Slo
  deriving DecidableEq
structure Vst where
  rules : Rul
  slots : List Slo
  hits : Int
  deriving DecidableEq
def Slo.zero : Slo := ⟨false, [], 0, 0, 0, 0⟩
def Mem.zero : Mem := ⟨Rul.zero, []⟩
def slo (l : List Slo) (k : Nat) : Slo := l.getD k Slo.zero
theorem slo_get {l : List Slo} {k : Nat} (h : k < l.length) : l[k]? = some (slo l k) := by simp [slo, List.getD, h]
theorem slo_mem {l : List Slo} {k : Nat} (h : k < l.length) : slo l k ∈ l := List.mem_of_getElem? (slo_get h)
theorem slo_set {l : List Slo} {k : Nat} {y : Slo} (h : k < l.length) : slo (l.set k y) k = y := by simp [slo, List.getD, h]
theorem slo_set_ne {l : List Slo} {k j : Nat} {y : Slo} (h : k ≠ j) : slo (l.set k y) j = slo l j := by simp [slo, List.getD, List.getElem?_set, h]
theorem slo_ext {a b : Slo} (h1 : a.used = b.used) (h2 : a.pits = b.pits) (h3 : a.player = b.player) (h4 : a.depth = b.depth) (h5 : a.value = b.value) (h6 : a.bound = b.bound) : a = b := by cases a; cases b; simp_all
theorem mem_ext {a b : Mem} (h1 : a.rules = b.rules) (h2 : a.slots = b.slots) : a = b := by cases a; cases b; simp_all
def hashF (h x : Int) : Int := (31 * h + x) % 1000003
def hashP (pits : List Int) (player : Int) : Int := pits.foldl hashF (player + 1)
theorem hash_step {pits : List Int} {h0 : Int} {k : Nat} (h : k < pits.length) : (pits.take (k + 1)).foldl hashF h0 = (31 * (pits.take k).foldl hashF h0 + nth pits k) % 1000003 := by
  rw [take_nth h, List.foldl_append]; rfl
theorem hash_all {pits : List Int} {h0 : Int} {k : Nat} (h : pits.length ≤ k) : (pits.take k).foldl hashF h0 = pits.foldl hashF h0 := by rw [List.take_of_length_le h]
def plc (n : Nat) (pits : List Int) (player : Int) : Int := hashP pits player % (n : Int)
theorem plc_bd {n : Nat} (pits : List Int) (player : Int) (h : 0 < n) : 0 ≤ plc n pits player ∧ plc n pits player < n :=
  ⟨Int.emod_nonneg _ (by omega), Int.emod_lt_of_pos _ (by omega)⟩
@[reducible] def posS (s : Slo) : Pos := ⟨s.pits, [0, 0], s.player⟩
def okCt (d v b : Int) : Bool := betw d 1 8 && betw v (-96) 96 && betw b 0 2
def freeS (s : Slo) : Bool := decide (s.pits.length = 0) && decide (s.player = 0) && decide (s.depth = 0) && decide (s.value = 0) && decide (s.bound = 0)
def okS (r : Rul) (n i : Nat) (s : Slo) : Bool := if s.used = true then okP r (posS s) && okCt s.depth s.value s.bound && decide (plc n s.pits s.player = (i : Int)) else freeS s
def okM (m : Mem) : Bool := okR m.rules && betw (m.slots.length : Int) 1 64 && (List.range m.slots.length).all fun i => okS m.rules m.slots.length i (slo m.slots i)
theorem okM_parts {m : Mem} (h : okM m = true) : okR m.rules = true ∧ 1 ≤ m.slots.length ∧ m.slots.length ≤ 64 ∧ ∀ i, i < m.slots.length → okS m.rules m.slots.length i (slo m.slots i) = true := by
  unfold okM at h
  simp only [Bool.and_eq_true, betw_iff, List.all_eq_true, List.mem_range] at h
  exact ⟨h.1.1, by omega, by omega, h.2⟩
theorem okM_of {m : Mem} (h1 : okR m.rules = true) (h2 : 1 ≤ m.slots.length) (h3 : m.slots.length ≤ 64) (h4 : ∀ i, i < m.slots.length → okS m.rules m.slots.length i (slo m.slots i) = true) : okM m = true := by
  unfold okM
  simp only [Bool.and_eq_true, betw_iff, List.all_eq_true, List.mem_range]
  exact ⟨⟨h1, by omega, by omega⟩, h4⟩
def stoS (l : List Slo) (s : Slo) : List Slo := if (slo l (plc l.length s.pits s.player).toNat).used = false ∨ (slo l (plc l.length s.pits s.player).toNat).depth ≤ s.depth then l.set (plc l.length s.pits s.player).toNat s else l
theorem stoS_len (l : List Slo) (s : Slo) : (stoS l s).length = l.length := by unfold stoS; split <;> simp
def fnd (l : List Slo) (p : Pos) : Slo := slo l (plc l.length p.pits p.player).toNat
def fndB (l : List Slo) (p : Pos) (d : Int) : Bool := (fnd l p).used && decide ((fnd l p).depth = d) && decide ((fnd l p).player = p.player) && decide ((fnd l p).pits = p.pits)
def mx (a b : Int) : Int := if a < b then b else a
def useS (s : Slo) (low high : Int) : Bool := decide (s.bound = 0) || decide (s.bound = 1) && decide (high ≤ s.value) || decide (s.bound = 2) && decide (s.value ≤ low)
def bndV (best low high : Int) : Int := if best ≤ low then 2 else if high ≤ best then 1 else 0
def loV (x : Res) (low high b : Int) : Int := if x.again = true then mx low b - x.gain else x.gain - high
def hiV (x : Res) (low high b : Int) : Int := if x.again = true then high - x.gain else x.gain - mx low b
def visL (f : Pos → Int → Int → List Slo × Int → Int × List Slo × Int) (low high : Int) : Int → List Slo × Int → List Res → Int × List Slo × Int
  | b, st, [] => (b, st)
  | b, st, x :: l => if high ≤ b then (b, st) else visL f low high (mx b (moveV x (f x.next (loV x low high b) (hiV x low high b) st).1)) (f x.next (loV x low high b) (hiV x low high b) st).2 l
def vis (r : Rul) : Nat → Pos → Int → Int → List Slo × Int → Int × List Slo × Int
  | 0, p, _, _, st => if (results r p).length = 0 then (endV r p, st) else (0, st)
  | d + 1, p, low, high, st =>
    if (results r p).length = 0 then (endV r p, st)
    else if (fndB st.1 p (d + 1 : Nat) && useS (fnd st.1 p) low high) = true then ((fnd st.1 p).value, st.1, st.2 + 1)
    else ((visL (vis r d) low high (-1000) st (results r p)).1, stoS (visL (vis r d) low high (-1000) st (results r p)).2.1 ⟨true, p.pits, p.player, (d + 1 : Nat), (visL (vis r d) low high (-1000) st (results r p)).1, bndV (visL (vis r d) low high (-1000) st (results r p)).1 low high⟩, (visL (vis r d) low high (-1000) st (results r p)).2.2)
theorem visL_len {f : Pos → Int → Int → List Slo × Int → Int × List Slo × Int} (hf : ∀ p a b st, (f p a b st).2.1.length = st.1.length) (low high : Int) : ∀ (l : List Res) (b : Int) (st : List Slo × Int), (visL f low high b st l).2.1.length = st.1.length
  | [], _, _ => rfl
  | x :: l, b, st => by
    rw [visL]; split
    · rfl
    · rw [visL_len hf low high l, hf]
theorem vis_len (r : Rul) : ∀ (d : Nat) (p : Pos) (low high : Int) (st : List Slo × Int), (vis r d p low high st).2.1.length = st.1.length
  | 0, p, _, _, st => by rw [vis]; split <;> rfl
  | d + 1, p, low, high, st => by
    rw [vis]; split
    · rfl
    · split
      · rfl
      · rw [stoS_len, visL_len (vis_len r d)]
structure SndS (r : Rul) (s : Slo) : Prop where
  ok : okP r (posS s) = true
  d1 : 1 ≤ s.depth
  d2 : s.depth ≤ 8
  sz : size r s.depth.toNat (posS s) ≤ 3000
  v1 : -isum s.pits ≤ s.value
  v2 : s.value ≤ isum s.pits
  bd : (s.bound = 0 ∧ s.value = val r s.depth.toNat (posS s)) ∨ (s.bound = 1 ∧ s.value ≤ val r s.depth.toNat (posS s)) ∨ (s.bound = 2 ∧ val r s.depth.toNat (posS s) ≤ s.value)
structure SndM (r : Rul) (D : Int) (l : List Slo) : Prop where
  us : ∀ i, i < l.length → (slo l i).used = true → SndS r (slo l i) ∧ plc l.length (slo l i).pits (slo l i).player = (i : Int) ∧ (slo l i).depth ≤ D
  fr : ∀ i, i < l.length → (slo l i).used = false → freeS (slo l i) = true
theorem SndM.empty (r : Rul) (D : Int) (n : Nat) : SndM r D (List.replicate n Slo.zero) := by
  have e : ∀ i, slo (List.replicate n Slo.zero) i = Slo.zero := fun i => by
    unfold slo
    rw [List.getD_eq_getElem?_getD, List.getElem?_replicate]
    split <;> rfl
  exact ⟨fun i _ h => by rw [e] at h; simp [Slo.zero] at h, fun i _ _ => by rw [e]; decide⟩
theorem SndM.sto {r : Rul} {D : Int} {l : List Slo} {s : Slo} (h : SndM r D l) (hl : 0 < l.length) (hs : SndS r s) (hus : s.used = true) (hd : s.depth ≤ D) : SndM r D (stoS l s) := by
  have hp := plc_bd s.pits s.player hl
  unfold stoS
  split
  · refine ⟨fun i hi hu => ?_, fun i hi hu => ?_⟩
    · rw [List.length_set] at hi ⊢
      by_cases e : (plc l.length s.pits s.player).toNat = i
      · subst e
        rw [slo_set hi] at hu ⊢
        exact ⟨hs, by omega, hd⟩
      · rw [slo_set_ne e] at hu ⊢
        exact h.us i hi hu
    · rw [List.length_set] at hi
      by_cases e : (plc l.length s.pits s.player).toNat = i
      · subst e
        rw [slo_set hi, hus] at hu; cases hu
      · rw [slo_set_ne e] at hu ⊢
        exact h.fr i hi hu
  · exact h
def AB (low high v V : Int) : Prop := (v ≤ low → V ≤ v) ∧ (high ≤ v → v ≤ V) ∧ (low < v → v < high → v = V)
theorem AB.refl (low high v : Int) : AB low high v v := ⟨fun _ => Int.le_refl _, fun _ => Int.le_refl _, fun _ _ => rfl⟩
theorem mx_le (a b : Int) : a ≤ mx a b ∧ b ≤ mx a b ∧ (mx a b = a ∨ mx a b = b) := by unfold mx; split <;> omega
theorem bestF_ge : ∀ (l : List Int) (b : Int), b ≤ bestF false b l
  | [], b => Int.le_refl _
  | v :: l, b => by
    have h1 := bestF_ge l (if false = true ∨ b < v then v else b)
    have h2 : b ≤ (if false = true ∨ b < v then v else b) := by simp only [Bool.false_eq_true, false_or]; split <;> omega
    rw [bestF]; omega
structure Says (r : Rul) (D : Int) (n : Nat) (V : Int) (S : Int) (low high : Int) (R : Int × List Slo × Int) : Prop where
  sn : SndM r D R.2.1
  ln : R.2.1.length = n
  v1 : -S ≤ R.1
  v2 : R.1 ≤ S
  ab : AB low high R.1 V
def Rec (r : Rul) (D : Int) (d : Nat) (f : Pos → Int → Int → List Slo × Int → Int × List Slo × Int) : Prop :=
  ∀ (p : Pos) (low high : Int) (st : List Slo × Int), okP r p = true → size r d p ≤ 3000 → low < high → isum p.pits - 192 ≤ high → low ≤ 192 - isum p.pits → SndM r D st.1 → 0 < st.1.length → Says r D st.1.length (val r d p) (isum p.pits) low high (f p low high st)
theorem child_ok {r : Rul} {D : Int} {d : Nat} {f : Pos → Int → Int → List Slo × Int → Int × List Slo × Int} (hf : Rec r D d f) {p : Pos} (hp : okP r p = true) {x : Res} (hx : x ∈ results r p) (hz : size r d x.next ≤ 3000) {low high b : Int} {st : List Slo × Int} (hb : b < high) (hl : low < high)
    (h1 : isum p.pits - 192 ≤ high) (h2 : low ≤ 192 - isum p.pits) (h3 : b ≤ isum p.pits) (hs : SndM r D st.1) (hn : 0 < st.1.length) :
    Says r D st.1.length (val r d x.next) (isum x.next.pits) (loV x low high b) (hiV x low high b) (f x.next (loV x low high b) (hiV x low high b) st) ∧
      AB (mx low b) high (moveV x (f x.next (loV x low high b) (hiV x low high b) st).1) (moveV x (val r d x.next)) ∧
      -isum p.pits ≤ moveV x (f x.next (loV x low high b) (hiV x low high b) st).1 ∧ moveV x (f x.next (loV x low high b) (hiV x low high b) st).1 ≤ isum p.pits := by
  have hm := mx_le low b
  obtain ⟨g0, g1⟩ := results_pits hx
  have hs96 := pits_96 hp
  have hq := hf x.next (loV x low high b) (hiV x low high b) st (results_ok hx) hz (by unfold loV hiV; split <;> omega) (by unfold hiV; split <;> omega) (by unfold loV; split <;> omega) hs hn
  refine ⟨hq, ?_, ?_, ?_⟩
  · obtain ⟨a1, a2, a3⟩ := hq.ab
    unfold loV hiV at a1 a2 a3 ⊢
    unfold moveV AB
    cases hg : x.again
    · simp only [hg, if_false, Bool.false_eq_true] at a1 a2 a3 ⊢
      refine ⟨fun h => ?_, fun h => ?_, fun h h' => ?_⟩
      · have := a2 (by omega); omega
      · have := a1 (by omega); omega
      · have := a3 (by omega) (by omega); omega
    · simp only [hg, if_true] at a1 a2 a3 ⊢
      refine ⟨fun h => ?_, fun h => ?_, fun h h' => ?_⟩
      · have := a1 (by omega); omega
      · have := a2 (by omega); omega
      · have := a3 (by omega) (by omega); omega
  · have v1 := hq.v1; have v2 := hq.v2
    unfold moveV; split <;> omega
  · have v1 := hq.v1; have v2 := hq.v2
    unfold moveV; split <;> omega
theorem ab_step {low high b own t M : Int} (hl : low < high) (hb : b < high) (h1 : AB low high b M) (h2 : AB (mx low b) high own t) : AB low high (mx b own) (if M < t then t else M) := by
  obtain ⟨a1, a2, a3⟩ := h1
  obtain ⟨b1, b2, b3⟩ := h2
  have m1 := mx_le low b
  have m2 := mx_le b own
  refine ⟨fun h => ?_, fun h => ?_, fun h h' => ?_⟩
  · have c1 := a1 (by omega)
    have c2 := b1 (by omega)
    split <;> omega
  · have c2 := b2 (by omega)
    split <;> omega
  · by_cases q : own ≤ mx low b
    · have c2 := b1 q
      have c3 := a3 (by omega) (by omega)
      split <;> omega
    · have c2 := b3 (by omega) (by omega)
      by_cases q2 : b ≤ low
      · have c1 := a1 q2
        split <;> omega
      · have c1 := a3 (by omega) hb
        split <;> omega
theorem visL_sound {r : Rul} {D : Int} {d : Nat} {f : Pos → Int → Int → List Slo × Int → Int × List Slo × Int} (hf : Rec r D d f) {p : Pos} (hp : okP r p = true) {low high : Int} (hl : low < high) (h1 : isum p.pits - 192 ≤ high) (h2 : low ≤ 192 - isum p.pits) :
    ∀ (l : List Res) (b M : Int) (st : List Slo × Int), (∀ x ∈ l, x ∈ results r p ∧ size r d x.next ≤ 3000) → -isum p.pits ≤ b → b ≤ isum p.pits → AB low high b M → SndM r D st.1 → 0 < st.1.length →
      Says r D st.1.length (bestF false M (l.map fun x => moveV x (val r d x.next))) (isum p.pits) low high (visL f low high b st l)
  | [], b, M, st, _, b1, b2, hab, hs, hn => ⟨hs, rfl, b1, b2, hab⟩
  | x :: l, b, M, st, hx, b1, b2, hab, hs, hn => by
    rw [visL, List.map_cons, bestF]
    simp only [Bool.false_eq_true, false_or]
    by_cases hb : high ≤ b
    · rw [if_pos hb]
      have h3 := bestF_ge (l.map fun x => moveV x (val r d x.next)) (if M < moveV x (val r d x.next) then moveV x (val r d x.next) else M)
      have h4 : M ≤ (if M < moveV x (val r d x.next) then moveV x (val r d x.next) else M) := by split <;> omega
      have h5 := hab.2.1 hb
      exact ⟨hs, rfl, b1, b2, fun h => absurd hb (by simp only at h; omega), fun _ => by simp only; omega, fun _ h => absurd hb (by simp only at h; omega)⟩
    · rw [if_neg hb]
      obtain ⟨hq, q1, q2, q3⟩ := child_ok hf hp (hx x (by simp)).1 (hx x (by simp)).2 (b := b) (by omega) hl h1 h2 b2 hs hn
      have hm := mx_le b (moveV x (f x.next (loV x low high b) (hiV x low high b) st).1)
      have := visL_sound hf hp hl h1 h2 l (mx b (moveV x (f x.next (loV x low high b) (hiV x low high b) st).1)) (if M < moveV x (val r d x.next) then moveV x (val r d x.next) else M) (f x.next (loV x low high b) (hiV x low high b) st).2 (fun y hy => hx y (by simp [hy])) (by omega) (by omega) (ab_step hl (by omega) hab q1) hq.sn (by rw [hq.ln]; exact hn)
      rw [hq.ln] at this
      exact this
theorem visL_start {r : Rul} {D : Int} {d : Nat} {f : Pos → Int → Int → List Slo × Int → Int × List Slo × Int} (hf : Rec r D d f) {p : Pos} (hp : okP r p = true) {low high : Int} (hl : low < high) (h1 : isum p.pits - 192 ≤ high) (h2 : low ≤ 192 - isum p.pits) {l : List Res} (hl0 : l ≠ []) (hx : ∀ x ∈ l, x ∈ results r p ∧ size r d x.next ≤ 3000) {st : List Slo × Int} (hs : SndM r D st.1) (hn : 0 < st.1.length) :
    Says r D st.1.length (best (l.map fun x => moveV x (val r d x.next))) (isum p.pits) low high (visL f low high (-1000) st l) := by
  have hs96 := pits_96 hp
  cases l with
  | nil => exact absurd rfl hl0
  | cons x l =>
    unfold best
    rw [visL, if_neg (by omega : ¬ high ≤ -1000), List.map_cons, bestF, if_pos (.inl rfl)]
    obtain ⟨hq, q1, q2, q3⟩ := child_ok hf hp (hx x (by simp)).1 (hx x (by simp)).2 (b := -1000) (by omega) hl h1 h2 (by omega) hs hn
    have hm := mx_le (-1000) (moveV x (f x.next (loV x low high (-1000)) (hiV x low high (-1000)) st).1)
    have hm0 : mx (-1000) (moveV x (f x.next (loV x low high (-1000)) (hiV x low high (-1000)) st).1) = moveV x (f x.next (loV x low high (-1000)) (hiV x low high (-1000)) st).1 := by unfold mx; rw [if_pos (by omega)]
    have hm2 := mx_le low (-1000)
    rw [hm0]
    obtain ⟨a1, a2, a3⟩ := q1
    have := visL_sound hf hp hl h1 h2 l (moveV x (f x.next (loV x low high (-1000)) (hiV x low high (-1000)) st).1) (moveV x (val r d x.next)) (f x.next (loV x low high (-1000)) (hiV x low high (-1000)) st).2 (fun y hy => hx y (by simp [hy])) q2 q3 ⟨fun h => a1 (by omega), fun h => a2 h, fun h h' => a3 (by omega) h'⟩ hq.sn (by rw [hq.ln]; exact hn)
    rw [hq.ln] at this
    exact this
theorem size_bare {r : Rul} {p : Pos} (h : okP r p = true) (d : Nat) : size r d (bare p) = size r d p := by
  have ht := okP_turn h
  have hb := okP_bare h
  rw [bare_tw h] at hb ⊢
  rw [size_tw d _ ht hb, size_turn h]
theorem vis_rec {r : Rul} {D : Int} : ∀ (d : Nat), (d : Int) ≤ 8 → (d : Int) ≤ D → Rec r D d (vis r d)
  | 0, _, _ => fun p low high st hp hz hl h1 h2 hs hn => by
    have h3 := endV_pits hp
    have h4 := pits_96 hp
    rw [vis, val]
    split
    · exact ⟨hs, rfl, h3.1, h3.2, AB.refl _ _ _⟩
    · exact ⟨hs, rfl, by simp only; omega, by simp only; omega, AB.refl _ _ _⟩
  | d + 1, h8, hD => fun p low high st hp hz hl h1 h2 hs hn => by
    have h3 := endV_pits hp
    have h4 := pits_96 hp
    by_cases he : (results r p).length = 0
    · rw [vis, if_pos he, val_end he]
      exact ⟨hs, rfl, h3.1, h3.2, AB.refl _ _ _⟩
    · rw [vis, if_neg he]
      by_cases hc : (fndB st.1 p (d + 1 : Nat) && useS (fnd st.1 p) low high) = true
      · rw [if_pos hc]
        simp only [fndB, useS, Bool.and_eq_true, Bool.or_eq_true, decide_eq_true_eq] at hc
        obtain ⟨⟨⟨⟨c1, c2⟩, c3⟩, c4⟩, c5⟩ := hc
        have hpb := plc_bd p.pits p.player hn
        obtain ⟨q, q1, q2⟩ := hs.us (plc st.1.length p.pits p.player).toNat (by omega) c1
        have q : SndS r (fnd st.1 p) := q
        have e1 : posS (fnd st.1 p) = bare p := by show Pos.mk (fnd st.1 p).pits [0, 0] (fnd st.1 p).player = _; rw [c3, c4]; rfl
        have e2 : val r (fnd st.1 p).depth.toNat (posS (fnd st.1 p)) = val r (d + 1) p := by rw [e1, c2, val_bare hp]; rfl
        have qv1 := q.v1; have qv2 := q.v2; have qb := q.bd
        rw [c4] at qv1 qv2
        rw [e2] at qb
        refine ⟨hs, rfl, qv1, qv2, ?_⟩
        show AB low high (fnd st.1 p).value (val r (d + 1) p)
        rcases qb with ⟨_, b2⟩ | ⟨b1, b2⟩ | ⟨b1, b2⟩
        · rw [b2]; exact AB.refl _ _ _
        · rcases c5 with (c5 | c5) | c5
          · omega
          · exact ⟨fun h => by omega, fun h => b2, fun h h' => by omega⟩
          · omega
        · rcases c5 with (c5 | c5) | c5
          · omega
          · omega
          · exact ⟨fun h => b2, fun h => by omega, fun h h' => by omega⟩
      · rw [if_neg hc]
        have hsz : ∀ x ∈ results r p, x ∈ results r p ∧ size r d x.next ≤ 3000 := fun x hx => ⟨hx, by have := size_sub (d := d) hx; omega⟩
        have hq := visL_start (vis_rec d (by omega) (by omega)) hp hl h1 h2 (l := results r p) (fun e => he (by rw [e]; rfl)) hsz hs hn
        rw [← val_s he] at hq
        have e1 : posS ⟨true, p.pits, p.player, (d + 1 : Nat), (visL (vis r d) low high (-1000) st (results r p)).1, bndV (visL (vis r d) low high (-1000) st (results r p)).1 low high⟩ = bare p := rfl
        obtain ⟨a1, a2, a3⟩ := hq.ab
        have hnew : SndS r ⟨true, p.pits, p.player, (d + 1 : Nat), (visL (vis r d) low high (-1000) st (results r p)).1, bndV (visL (vis r d) low high (-1000) st (results r p)).1 low high⟩ := by
          have e2 : val r (((d + 1 : Nat) : Int)).toNat (bare p) = val r (d + 1) p := val_bare hp (d + 1)
          refine ⟨okP_bare hp, by simp only; omega, h8, ?_, hq.v1, hq.v2, ?_⟩
          · show size r (d + 1) (bare p) ≤ 3000
            rw [size_bare hp]; exact hz
          · show _ ∨ _ ∨ _
            rw [e1]
            simp only
            rw [e2]
            unfold bndV
            by_cases hb1 : (visL (vis r d) low high (-1000) st (results r p)).1 ≤ low
            · rw [if_pos hb1]; exact .inr (.inr ⟨rfl, a1 hb1⟩)
            · rw [if_neg hb1]
              by_cases hb2 : high ≤ (visL (vis r d) low high (-1000) st (results r p)).1
              · rw [if_pos hb2]; exact .inr (.inl ⟨rfl, a2 hb2⟩)
              · rw [if_neg hb2]; exact .inl ⟨rfl, a3 (by omega) (by omega)⟩
        exact ⟨hq.sn.sto (by rw [hq.ln]; exact hn) hnew rfl hD, by rw [stoS_len, hq.ln], hq.v1, hq.v2, hq.ab⟩
theorem vis_plain {r : Rul} {p : Pos} {d : Nat} {st : List Slo × Int} (hp : okP r p = true) (h8 : (d : Int) ≤ 8) (hz : size r d p ≤ 3000) (hs : SndM r (d : Int) st.1) (hn : 0 < st.1.length) :
    Says r (d : Int) st.1.length (val r d p) (isum p.pits) (-1000) 1000 (vis r d p (-1000) 1000 st) ∧ (vis r d p (-1000) 1000 st).1 = val r d p := by
  have h4 := pits_96 hp
  have hq := vis_rec (r := r) (D := (d : Int)) d h8 (Int.le_refl _) p (-1000) 1000 st hp hz (by omega) (by omega) (by omega) hs hn
  have v1 := hq.v1; have v2 := hq.v2
  exact ⟨hq, hq.ab.2.2 (by omega) (by omega)⟩
theorem vis_again {r : Rul} {p : Pos} {d : Nat} {st : List Slo × Int} (hp : okP r p = true) (h8 : ((d + 1 : Nat) : Int) ≤ 8) (hz : size r (d + 1) p ≤ 3000) (hs : SndM r ((d + 1 : Nat) : Int) st.1) (hn : 0 < st.1.length) (he : (results r p).length ≠ 0) (hu : fndB st.1 p (d + 1 : Nat) = false) (h : Int) :
    vis r (d + 1) p (-1000) 1000 ((vis r (d + 1) p (-1000) 1000 st).2.1, h) = (val r (d + 1) p, (vis r (d + 1) p (-1000) 1000 st).2.1, h + 1) := by
  have h4 := pits_96 hp
  obtain ⟨hq, hv⟩ := vis_plain hp h8 hz hs hn
  have e : vis r (d + 1) p (-1000) 1000 st = ((visL (vis r d) (-1000) 1000 (-1000) st (results r p)).1, stoS (visL (vis r d) (-1000) 1000 (-1000) st (results r p)).2.1 ⟨true, p.pits, p.player, (d + 1 : Nat), (visL (vis r d) (-1000) 1000 (-1000) st (results r p)).1, bndV (visL (vis r d) (-1000) 1000 (-1000) st (results r p)).1 (-1000) 1000⟩, (visL (vis r d) (-1000) 1000 (-1000) st (results r p)).2.2) := by
    rw [vis, if_neg he, if_neg (by rw [hu]; simp)]
  have hsz : ∀ x ∈ results r p, x ∈ results r p ∧ size r d x.next ≤ 3000 := fun x hx => ⟨hx, by have := size_sub (d := d) hx; omega⟩
  have hb := visL_start (vis_rec (D := ((d + 1 : Nat) : Int)) d (by omega) (by omega)) hp (low := -1000) (high := 1000) (by omega) (by omega) (by omega) (l := results r p) (fun e => he (by rw [e]; rfl)) hsz hs hn
  rw [e] at hv
  have hv : (visL (vis r d) (-1000) 1000 (-1000) st (results r p)).1 = val r (d + 1) p := hv
  have v1 := hb.v1; have v2 := hb.v2
  have hbn : bndV (visL (vis r d) (-1000) 1000 (-1000) st (results r p)).1 (-1000) 1000 = 0 := by unfold bndV; rw [if_neg (by omega), if_neg (by omega)]
  have hpb := plc_bd p.pits p.player hn
  have hln := hb.ln
  have est : (vis r (d + 1) p (-1000) 1000 st).2.1 = (visL (vis r d) (-1000) 1000 (-1000) st (results r p)).2.1.set (plc st.1.length p.pits p.player).toNat ⟨true, p.pits, p.player, (d + 1 : Nat), val r (d + 1) p, 0⟩ := by
    rw [e]
    show stoS _ _ = _
    unfold stoS
    simp only
    rw [hln, hbn, hv, if_pos]
    cases hu2 : (slo (visL (vis r d) (-1000) 1000 (-1000) st (results r p)).2.1 (plc st.1.length p.pits p.player).toNat).used
    · exact .inl rfl
    · right
      exact (hb.sn.us _ (by omega) hu2).2.2
  have ef : fnd (vis r (d + 1) p (-1000) 1000 st).2.1 p = ⟨true, p.pits, p.player, (d + 1 : Nat), val r (d + 1) p, 0⟩ := by
    unfold fnd
    rw [est, List.length_set, hln, slo_set (by omega)]
  have eb : (fndB (vis r (d + 1) p (-1000) 1000 st).2.1 p (d + 1 : Nat) && useS (fnd (vis r (d + 1) p (-1000) 1000 st).2.1 p) (-1000) 1000) = true := by
    unfold fndB useS
    rw [ef]; simp
  conv => lhs; rw [vis]
  rw [if_neg he, if_pos eb]
  simp only
  rw [ef]
theorem snd_ok {r : Rul} {D : Int} {l : List Slo} (hr : okR r = true) (h : SndM r D l) (h1 : 1 ≤ l.length) (h2 : l.length ≤ 64) : okM ⟨r, l⟩ = true := by
  refine okM_of hr h1 h2 fun i hi => ?_
  unfold okS
  cases hu : (slo l i).used
  · rw [if_neg (by simp [hu])]; exact h.fr i hi hu
  · rw [if_pos (by simp [hu])]
    obtain ⟨q, q1, q2⟩ := h.us i hi hu
    have hp := pits_96 q.ok
    have e : (posS (slo l i)).pits = (slo l i).pits := rfl
    rw [e] at hp
    have a := q.v1; have b := q.v2; have c := q.d1; have d := q.d2
    unfold okCt
    simp only [Bool.and_eq_true, betw_iff, decide_eq_true_eq]
    refine ⟨⟨q.ok, ⟨⟨⟨c, d⟩, by omega, by omega⟩, ?_⟩⟩, q1⟩
    rcases q.bd with ⟨b1, _⟩ | ⟨b1, _⟩ | ⟨b1, _⟩ <;> omega
end Go.Proofs.YtmgnckfhghibeaaGreat.M
namespace Go.Proofs.YtmgnckfhghibeaaGreat
open Go.RowKit
theorem cellsOk_cons {w : World} {T : Ty} {Ts : List Ty} : ∀ {vs : List Value}, cellsOk w (T :: Ts) vs → ∃ x r, vs = x :: r ∧ T.ok w x ∧ cellsOk w Ts r
  | x :: r, h => ⟨x, r, rfl, h.1, h.2⟩
theorem cellsOk_nil {w : World} : ∀ {vs : List Value}, cellsOk w [] vs → vs = []
  | [], _ => rfl
theorem drop_flat {α β : Type} (f : α → List β) (k : Nat) (hf : ∀ a, (f a).length = k) : ∀ (l : List α) (i : Nat) (a : α), l[i]? = some a → ((l.flatMap f).drop (i * k)).take k = f a
  | x :: l, 0, a, h => by
    simp at h; subst h
    simp [List.flatMap_cons, hf, List.take_append]
  | x :: l, i + 1, a, h => by
    simp at h
    rw [List.flatMap_cons, Nat.succ_mul, Nat.add_comm, ← List.drop_drop, List.drop_left' (hf x)]
    exact drop_flat f k hf l i a h
  | [], _, _, h => by simp at h
theorem flat_len {α β : Type} (f : α → List β) (k : Nat) (hf : ∀ a, (f a).length = k) : ∀ (l : List α), (l.flatMap f).length = l.length * k
  | [] => by simp
  | x :: l => by rw [List.flatMap_cons, List.length_append, hf, flat_len f k hf l, List.length_cons, Nat.succ_mul, Nat.add_comm]
instance ty_2 : TyI Tryz.prog 2 false 1 := ⟨by kernel_rfl⟩
instance ty_3 : TyI Tryz.prog 3 false 1 := ⟨by kernel_rfl⟩
instance ty_4 : TyI Tryz.prog 4 false 1 := ⟨by kernel_rfl⟩
instance ty_5 : TyI Tryz.prog 5 false 1 := ⟨by kernel_rfl⟩
instance ty_9 : TyI Tryz.prog 9 false 1 := ⟨by kernel_rfl⟩
instance ty_22 : TyI Tryz.prog 22 false 1 := ⟨by kernel_rfl⟩
instance ty_25 : TyI Tryz.prog 25 true 9 := ⟨by kernel_rfl⟩
instance ty_26 : TyI Tryz.prog 26 false 1 := ⟨by kernel_rfl⟩
instance ty_28 : TyI Tryz.prog 28 true 10 := ⟨by kernel_rfl⟩
instance ty_29 : TyI Tryz.prog 29 false 1 := ⟨by kernel_rfl⟩
instance ty_31 : TyI Tryz.prog 31 true 3 := ⟨by kernel_rfl⟩
instance ty_42 : TyI Tryz.prog 42 false 1 := ⟨by kernel_rfl⟩
instance ty_49 : TyI Tryz.prog 49 true 6 := ⟨by kernel_rfl⟩
instance ty_87 : TyI Tryz.prog 87 true 11 := ⟨by kernel_rfl⟩
instance ty_95 : TyI Tryz.prog 95 false 1 := ⟨by kernel_rfl⟩
instance ty_99 : TyI Tryz.prog 99 true 11 := ⟨by kernel_rfl⟩
instance ty_108 : TyI Tryz.prog 108 true 3 := ⟨by kernel_rfl⟩
instance ty_114 : TyI Tryz.prog 114 true 6 := ⟨by kernel_rfl⟩
instance ty_139 : TyI Tryz.prog 139 true 3 := ⟨by kernel_rfl⟩
instance ty_150 : TyI Tryz.prog 150 true 2 := ⟨by kernel_rfl⟩
instance ty_181 : TyI Tryz.prog 181 true 4 := ⟨by kernel_rfl⟩
instance ty_201 : TyI Tryz.prog 201 true 15 := ⟨by kernel_rfl⟩
instance fld_25_0 : FldI Tryz.prog 25 0 0 2 false 1 := ⟨by kernel_rfl⟩
instance fld_25_1 : FldI Tryz.prog 25 1 1 2 false 1 := ⟨by kernel_rfl⟩
instance fld_25_2 : FldI Tryz.prog 25 2 2 4 false 1 := ⟨by kernel_rfl⟩
instance fld_25_3 : FldI Tryz.prog 25 3 3 4 false 1 := ⟨by kernel_rfl⟩
instance fld_25_4 : FldI Tryz.prog 25 4 4 4 false 1 := ⟨by kernel_rfl⟩
instance fld_25_5 : FldI Tryz.prog 25 5 5 4 false 1 := ⟨by kernel_rfl⟩
instance fld_25_6 : FldI Tryz.prog 25 6 6 4 false 1 := ⟨by kernel_rfl⟩
instance fld_25_7 : FldI Tryz.prog 25 7 7 2 false 1 := ⟨by kernel_rfl⟩
instance fld_25_8 : FldI Tryz.prog 25 8 8 2 false 1 := ⟨by kernel_rfl⟩
instance fld_28_0 : FldI Tryz.prog 28 0 0 25 true 9 := ⟨by kernel_rfl⟩
instance fld_28_1 : FldI Tryz.prog 28 1 9 26 false 1 := ⟨by kernel_rfl⟩
instance fld_31_0 : FldI Tryz.prog 31 0 0 29 false 1 := ⟨by kernel_rfl⟩
instance fld_31_1 : FldI Tryz.prog 31 1 1 29 false 1 := ⟨by kernel_rfl⟩
instance fld_31_2 : FldI Tryz.prog 31 2 2 2 false 1 := ⟨by kernel_rfl⟩
instance fld_49_0 : FldI Tryz.prog 49 0 0 4 false 1 := ⟨by kernel_rfl⟩
instance fld_49_1 : FldI Tryz.prog 49 1 1 29 false 1 := ⟨by kernel_rfl⟩
instance fld_49_2 : FldI Tryz.prog 49 2 2 2 false 1 := ⟨by kernel_rfl⟩
instance fld_49_3 : FldI Tryz.prog 49 3 3 2 false 1 := ⟨by kernel_rfl⟩
instance fld_49_4 : FldI Tryz.prog 49 4 4 2 false 1 := ⟨by kernel_rfl⟩
instance fld_49_5 : FldI Tryz.prog 49 5 5 2 false 1 := ⟨by kernel_rfl⟩
instance fld_87_0 : FldI Tryz.prog 87 0 0 28 true 10 := ⟨by kernel_rfl⟩
instance fld_87_1 : FldI Tryz.prog 87 1 10 2 false 1 := ⟨by kernel_rfl⟩
instance fld_99_0 : FldI Tryz.prog 99 0 0 28 true 10 := ⟨by kernel_rfl⟩
instance fld_99_1 : FldI Tryz.prog 99 1 10 2 false 1 := ⟨by kernel_rfl⟩
instance fld_108_0 : FldI Tryz.prog 108 0 0 22 false 1 := ⟨by kernel_rfl⟩
instance fld_108_1 : FldI Tryz.prog 108 1 1 3 false 1 := ⟨by kernel_rfl⟩
instance fld_108_2 : FldI Tryz.prog 108 2 2 42 false 1 := ⟨by kernel_rfl⟩
instance fld_114_0 : FldI Tryz.prog 114 0 0 2 false 1 := ⟨by kernel_rfl⟩
instance fld_114_1 : FldI Tryz.prog 114 1 1 2 false 1 := ⟨by kernel_rfl⟩
instance fld_114_2 : FldI Tryz.prog 114 2 2 4 false 1 := ⟨by kernel_rfl⟩
instance fld_114_3 : FldI Tryz.prog 114 3 3 31 true 3 := ⟨by kernel_rfl⟩
instance fld_139_0 : FldI Tryz.prog 139 0 0 22 false 1 := ⟨by kernel_rfl⟩
instance fld_139_1 : FldI Tryz.prog 139 1 1 3 false 1 := ⟨by kernel_rfl⟩
instance fld_139_2 : FldI Tryz.prog 139 2 2 42 false 1 := ⟨by kernel_rfl⟩
instance fld_150_0 : FldI Tryz.prog 150 0 0 95 false 1 := ⟨by kernel_rfl⟩
instance fld_150_1 : FldI Tryz.prog 150 1 1 2 false 1 := ⟨by kernel_rfl⟩
instance fld_181_0 : FldI Tryz.prog 181 0 0 29 false 1 := ⟨by kernel_rfl⟩
instance fld_181_1 : FldI Tryz.prog 181 1 1 29 false 1 := ⟨by kernel_rfl⟩
instance fld_181_2 : FldI Tryz.prog 181 2 2 2 false 1 := ⟨by kernel_rfl⟩
instance fld_181_3 : FldI Tryz.prog 181 3 3 2 false 1 := ⟨by kernel_rfl⟩
instance fld_201_0 : FldI Tryz.prog 201 0 0 25 true 9 := ⟨by kernel_rfl⟩
instance fld_201_1 : FldI Tryz.prog 201 1 9 2 false 1 := ⟨by kernel_rfl⟩
instance fld_201_2 : FldI Tryz.prog 201 2 10 181 true 4 := ⟨by kernel_rfl⟩
instance fld_201_3 : FldI Tryz.prog 201 3 14 29 false 1 := ⟨by kernel_rfl⟩
instance eI_22 : ElI Tryz.prog 22 5 1 1 [.int .u8 0] := ⟨by kernel_rfl⟩
theorem el_22 : elOf Tryz.prog 22 = some (5, 1, 1, [.int .u8 0]) := ElI.h
instance eI_26 : ElI Tryz.prog 26 49 6 64 [.bool false, .slice none 0 0, .int .i64 0, .int .i64 0, .int .i64 0, .int .i64 0] := ⟨by kernel_rfl⟩
theorem el_26 : elOf Tryz.prog 26 = some (49, 6, 64, [.bool false, .slice none 0 0, .int .i64 0, .int .i64 0, .int .i64 0, .int .i64 0]) := ElI.h
instance eI_29 : ElI Tryz.prog 29 2 1 8 [.int .i64 0] := ⟨by kernel_rfl⟩
theorem el_29 : elOf Tryz.prog 29 = some (2, 1, 8, [.int .i64 0]) := ElI.h
instance eI_111 : ElI Tryz.prog 111 114 6 80 [.int .i64 0, .int .i64 0, .bool false, .slice none 0 0, .slice none 0 0, .int .i64 0] := ⟨by kernel_rfl⟩
theorem el_111 : elOf Tryz.prog 111 = some (114, 6, 80, [.int .i64 0, .int .i64 0, .bool false, .slice none 0 0, .slice none 0 0, .int .i64 0]) := ElI.h
instance eI_212 : ElI Tryz.prog 212 9 1 16 [.string ByteArray.empty] := ⟨by kernel_rfl⟩
theorem el_212 : elOf Tryz.prog 212 = some (9, 1, 16, [.string ByteArray.empty]) := ElI.h
instance zero_25 : ZeroI Tryz.prog 25 [.int .i64 0, .int .i64 0, .bool false, .bool false, .bool false, .bool false, .bool false, .int .i64 0, .int .i64 0] := ⟨by kernel_rfl⟩
instance zero_28 : ZeroI Tryz.prog 28 [.int .i64 0, .int .i64 0, .bool false, .bool false, .bool false, .bool false, .bool false, .int .i64 0, .int .i64 0, .slice none 0 0] := ⟨by kernel_rfl⟩
instance zero_31 : ZeroI Tryz.prog 31 [.slice none 0 0, .slice none 0 0, .int .i64 0] := ⟨by kernel_rfl⟩
instance zero_49 : ZeroI Tryz.prog 49 [.bool false, .slice none 0 0, .int .i64 0, .int .i64 0, .int .i64 0, .int .i64 0] := ⟨by kernel_rfl⟩
instance zero_87 : ZeroI Tryz.prog 87 [.int .i64 0, .int .i64 0, .bool false, .bool false, .bool false, .bool false, .bool false, .int .i64 0, .int .i64 0, .slice none 0 0, .int .i64 0] := ⟨by kernel_rfl⟩
instance zero_99 : ZeroI Tryz.prog 99 [.int .i64 0, .int .i64 0, .bool false, .bool false, .bool false, .bool false, .bool false, .int .i64 0, .int .i64 0, .slice none 0 0, .int .i64 0] := ⟨by kernel_rfl⟩
instance zero_108 : ZeroI Tryz.prog 108 [.slice none 0 0, .int .i64 0, .int .u64 0] := ⟨by kernel_rfl⟩
instance zero_114 : ZeroI Tryz.prog 114 [.int .i64 0, .int .i64 0, .bool false, .slice none 0 0, .slice none 0 0, .int .i64 0] := ⟨by kernel_rfl⟩
instance zero_139 : ZeroI Tryz.prog 139 [.slice none 0 0, .int .i64 0, .int .u64 0] := ⟨by kernel_rfl⟩
instance zero_150 : ZeroI Tryz.prog 150 [.pointer none, .int .i64 0] := ⟨by kernel_rfl⟩
instance zero_181 : ZeroI Tryz.prog 181 [.slice none 0 0, .slice none 0 0, .int .i64 0, .int .i64 0] := ⟨by kernel_rfl⟩
instance zero_201 : ZeroI Tryz.prog 201 [.int .i64 0, .int .i64 0, .bool false, .bool false, .bool false, .bool false, .bool false, .int .i64 0, .int .i64 0, .int .i64 0, .slice none 0 0, .slice none 0 0, .int .i64 0, .int .i64 0, .slice none 0 0] := ⟨by kernel_rfl⟩
instance flds_25 : FldsI Tryz.prog 25 [(0, 1), (1, 1), (2, 1), (3, 1), (4, 1), (5, 1), (6, 1), (7, 1), (8, 1)] := ⟨by kernel_rfl⟩
instance flds_28 : FldsI Tryz.prog 28 [(0, 9), (9, 1)] := ⟨by kernel_rfl⟩
instance flds_31 : FldsI Tryz.prog 31 [(0, 1), (1, 1), (2, 1)] := ⟨by kernel_rfl⟩
instance flds_49 : FldsI Tryz.prog 49 [(0, 1), (1, 1), (2, 1), (3, 1), (4, 1), (5, 1)] := ⟨by kernel_rfl⟩
instance flds_87 : FldsI Tryz.prog 87 [(0, 10), (10, 1)] := ⟨by kernel_rfl⟩
instance flds_99 : FldsI Tryz.prog 99 [(0, 10), (10, 1)] := ⟨by kernel_rfl⟩
instance flds_108 : FldsI Tryz.prog 108 [(0, 1), (1, 1), (2, 1)] := ⟨by kernel_rfl⟩
instance flds_114 : FldsI Tryz.prog 114 [(0, 1), (1, 1), (2, 1), (3, 3)] := ⟨by kernel_rfl⟩
instance flds_139 : FldsI Tryz.prog 139 [(0, 1), (1, 1), (2, 1)] := ⟨by kernel_rfl⟩
instance flds_150 : FldsI Tryz.prog 150 [(0, 1), (1, 1)] := ⟨by kernel_rfl⟩
instance flds_181 : FldsI Tryz.prog 181 [(0, 1), (1, 1), (2, 1), (3, 1)] := ⟨by kernel_rfl⟩
instance flds_201 : FldsI Tryz.prog 201 [(0, 9), (9, 1), (10, 4), (14, 1)] := ⟨by kernel_rfl⟩
instance fn_6 : FnI Tryz.prog 6 := ⟨by kernel_rfl⟩
instance fn_7 : FnI Tryz.prog 7 := ⟨by kernel_rfl⟩
instance fn_8 : FnI Tryz.prog 8 := ⟨by kernel_rfl⟩
instance fn_9 : FnI Tryz.prog 9 := ⟨by kernel_rfl⟩
instance fn_10 : FnI Tryz.prog 10 := ⟨by kernel_rfl⟩
instance fn_11 : FnI Tryz.prog 11 := ⟨by kernel_rfl⟩
instance fn_12 : FnI Tryz.prog 12 := ⟨by kernel_rfl⟩
instance fn_13 : FnI Tryz.prog 13 := ⟨by kernel_rfl⟩
instance fn_14 : FnI Tryz.prog 14 := ⟨by kernel_rfl⟩
instance fn_15 : FnI Tryz.prog 15 := ⟨by kernel_rfl⟩
instance fn_16 : FnI Tryz.prog 16 := ⟨by kernel_rfl⟩
instance fn_17 : FnI Tryz.prog 17 := ⟨by kernel_rfl⟩
instance fn_40 : FnI Tryz.prog 40 := ⟨by kernel_rfl⟩
instance fn_41 : FnI Tryz.prog 41 := ⟨by kernel_rfl⟩
instance fn_42 : FnI Tryz.prog 42 := ⟨by kernel_rfl⟩
instance fn_43 : FnI Tryz.prog 43 := ⟨by kernel_rfl⟩
instance fn_44 : FnI Tryz.prog 44 := ⟨by kernel_rfl⟩
instance fn_45 : FnI Tryz.prog 45 := ⟨by kernel_rfl⟩
instance fn_46 : FnI Tryz.prog 46 := ⟨by kernel_rfl⟩
instance fn_47 : FnI Tryz.prog 47 := ⟨by kernel_rfl⟩
instance fn_48 : FnI Tryz.prog 48 := ⟨by kernel_rfl⟩
instance fn_49 : FnI Tryz.prog 49 := ⟨by kernel_rfl⟩
instance fn_50 : FnI Tryz.prog 50 := ⟨by kernel_rfl⟩
instance fn_51 : FnI Tryz.prog 51 := ⟨by kernel_rfl⟩
instance fn_52 : FnI Tryz.prog 52 := ⟨by kernel_rfl⟩
instance fn_53 : FnI Tryz.prog 53 := ⟨by kernel_rfl⟩
instance fn_54 : FnI Tryz.prog 54 := ⟨by kernel_rfl⟩
instance fn_55 : FnI Tryz.prog 55 := ⟨by kernel_rfl⟩
instance fn_56 : FnI Tryz.prog 56 := ⟨by kernel_rfl⟩
instance fn_57 : FnI Tryz.prog 57 := ⟨by kernel_rfl⟩
instance fn_58 : FnI Tryz.prog 58 := ⟨by kernel_rfl⟩
instance fn_67 : FnI Tryz.prog 67 := ⟨by kernel_rfl⟩
instance fn_85 : FnI Tryz.prog 85 := ⟨by kernel_rfl⟩
instance fn_86 : FnI Tryz.prog 86 := ⟨by kernel_rfl⟩
instance fn_87 : FnI Tryz.prog 87 := ⟨by kernel_rfl⟩
instance fn_88 : FnI Tryz.prog 88 := ⟨by kernel_rfl⟩
instance fn_89 : FnI Tryz.prog 89 := ⟨by kernel_rfl⟩
instance fn_90 : FnI Tryz.prog 90 := ⟨by kernel_rfl⟩
instance fn_91 : FnI Tryz.prog 91 := ⟨by kernel_rfl⟩
instance fn_92 : FnI Tryz.prog 92 := ⟨by kernel_rfl⟩
instance fn_93 : FnI Tryz.prog 93 := ⟨by kernel_rfl⟩
instance fn_94 : FnI Tryz.prog 94 := ⟨by kernel_rfl⟩
instance fn_95 : FnI Tryz.prog 95 := ⟨by kernel_rfl⟩
instance fn_96 : FnI Tryz.prog 96 := ⟨by kernel_rfl⟩
instance fn_97 : FnI Tryz.prog 97 := ⟨by kernel_rfl⟩
instance fn_98 : FnI Tryz.prog 98 := ⟨by kernel_rfl⟩
instance fn_99 : FnI Tryz.prog 99 := ⟨by kernel_rfl⟩
instance fn_100 : FnI Tryz.prog 100 := ⟨by kernel_rfl⟩
instance fn_101 : FnI Tryz.prog 101 := ⟨by kernel_rfl⟩
instance fn_102 : FnI Tryz.prog 102 := ⟨by kernel_rfl⟩
instance fn_103 : FnI Tryz.prog 103 := ⟨by kernel_rfl⟩
instance fn_104 : FnI Tryz.prog 104 := ⟨by kernel_rfl⟩
instance fn_105 : FnI Tryz.prog 105 := ⟨by kernel_rfl⟩
instance fn_106 : FnI Tryz.prog 106 := ⟨by kernel_rfl⟩
instance fn_107 : FnI Tryz.prog 107 := ⟨by kernel_rfl⟩
instance fn_108 : FnI Tryz.prog 108 := ⟨by kernel_rfl⟩
instance fn_109 : FnI Tryz.prog 109 := ⟨by kernel_rfl⟩
instance fn_110 : FnI Tryz.prog 110 := ⟨by kernel_rfl⟩
instance fn_111 : FnI Tryz.prog 111 := ⟨by kernel_rfl⟩
instance fn_114 : FnI Tryz.prog 114 := ⟨by kernel_rfl⟩
instance fn_117 : FnI Tryz.prog 117 := ⟨by kernel_rfl⟩
instance fn_119 : FnI Tryz.prog 119 := ⟨by kernel_rfl⟩
instance fn_126 : FnI Tryz.prog 126 := ⟨by kernel_rfl⟩
instance fn_127 : FnI Tryz.prog 127 := ⟨by kernel_rfl⟩
instance fn_128 : FnI Tryz.prog 128 := ⟨by kernel_rfl⟩
instance fn_129 : FnI Tryz.prog 129 := ⟨by kernel_rfl⟩
instance fn_130 : FnI Tryz.prog 130 := ⟨by kernel_rfl⟩
instance fn_131 : FnI Tryz.prog 131 := ⟨by kernel_rfl⟩
instance fn_132 : FnI Tryz.prog 132 := ⟨by kernel_rfl⟩
instance fn_133 : FnI Tryz.prog 133 := ⟨by kernel_rfl⟩
instance fn_134 : FnI Tryz.prog 134 := ⟨by kernel_rfl⟩
instance fn_135 : FnI Tryz.prog 135 := ⟨by kernel_rfl⟩
instance fn_136 : FnI Tryz.prog 136 := ⟨by kernel_rfl⟩
instance fn_137 : FnI Tryz.prog 137 := ⟨by kernel_rfl⟩
instance fn_138 : FnI Tryz.prog 138 := ⟨by kernel_rfl⟩
instance fn_139 : FnI Tryz.prog 139 := ⟨by kernel_rfl⟩
instance fn_140 : FnI Tryz.prog 140 := ⟨by kernel_rfl⟩
instance fn_141 : FnI Tryz.prog 141 := ⟨by kernel_rfl⟩
instance fn_142 : FnI Tryz.prog 142 := ⟨by kernel_rfl⟩
instance fn_144 : FnI Tryz.prog 144 := ⟨by kernel_rfl⟩
instance fn_145 : FnI Tryz.prog 145 := ⟨by kernel_rfl⟩
instance fn_146 : FnI Tryz.prog 146 := ⟨by kernel_rfl⟩
instance fn_147 : FnI Tryz.prog 147 := ⟨by kernel_rfl⟩
instance fn_148 : FnI Tryz.prog 148 := ⟨by kernel_rfl⟩
instance fn_149 : FnI Tryz.prog 149 := ⟨by kernel_rfl⟩
instance fn_150 : FnI Tryz.prog 150 := ⟨by kernel_rfl⟩
instance fn_151 : FnI Tryz.prog 151 := ⟨by kernel_rfl⟩
instance fn_152 : FnI Tryz.prog 152 := ⟨by kernel_rfl⟩
instance fn_153 : FnI Tryz.prog 153 := ⟨by kernel_rfl⟩
instance fn_154 : FnI Tryz.prog 154 := ⟨by kernel_rfl⟩
instance fn_155 : FnI Tryz.prog 155 := ⟨by kernel_rfl⟩
instance fn_156 : FnI Tryz.prog 156 := ⟨by kernel_rfl⟩
instance fn_157 : FnI Tryz.prog 157 := ⟨by kernel_rfl⟩
instance fn_158 : FnI Tryz.prog 158 := ⟨by kernel_rfl⟩
instance fn_159 : FnI Tryz.prog 159 := ⟨by kernel_rfl⟩
instance fn_160 : FnI Tryz.prog 160 := ⟨by kernel_rfl⟩
instance fn_161 : FnI Tryz.prog 161 := ⟨by kernel_rfl⟩
instance fn_162 : FnI Tryz.prog 162 := ⟨by kernel_rfl⟩
instance fn_163 : FnI Tryz.prog 163 := ⟨by kernel_rfl⟩
instance fn_164 : FnI Tryz.prog 164 := ⟨by kernel_rfl⟩
instance fn_165 : FnI Tryz.prog 165 := ⟨by kernel_rfl⟩
instance fn_166 : FnI Tryz.prog 166 := ⟨by kernel_rfl⟩
instance fn_167 : FnI Tryz.prog 167 := ⟨by kernel_rfl⟩
instance fn_168 : FnI Tryz.prog 168 := ⟨by kernel_rfl⟩
instance fn_169 : FnI Tryz.prog 169 := ⟨by kernel_rfl⟩
instance fn_170 : FnI Tryz.prog 170 := ⟨by kernel_rfl⟩
instance fn_171 : FnI Tryz.prog 171 := ⟨by kernel_rfl⟩
instance fn_172 : FnI Tryz.prog 172 := ⟨by kernel_rfl⟩
instance fn_173 : FnI Tryz.prog 173 := ⟨by kernel_rfl⟩
instance fn_174 : FnI Tryz.prog 174 := ⟨by kernel_rfl⟩
instance fn_175 : FnI Tryz.prog 175 := ⟨by kernel_rfl⟩
instance fn_176 : FnI Tryz.prog 176 := ⟨by kernel_rfl⟩
instance fn_177 : FnI Tryz.prog 177 := ⟨by kernel_rfl⟩
instance fn_178 : FnI Tryz.prog 178 := ⟨by kernel_rfl⟩
instance uI_4 : UndI Tryz.prog 4 (.bool) := ⟨@Tryz.underlying4⟩
theorem und_4 : Tryz.prog.underlying 4 = some (.bool) := UndI.h
instance uI_9 : UndI Tryz.prog 9 (.string) := ⟨@Tryz.underlying9⟩
theorem und_9 : Tryz.prog.underlying 9 = some (.string) := UndI.h
instance uI_10 : UndI Tryz.prog 10 (.string) := ⟨@Tryz.underlying10⟩
instance uI_11 : UndI Tryz.prog 11 (.string) := ⟨@Tryz.underlying11⟩
instance uI_22 : UndI Tryz.prog 22 (.slice 5) := ⟨@Tryz.underlying22⟩
instance uI_26 : UndI Tryz.prog 26 (.slice 49) := ⟨@Tryz.underlying26⟩
theorem und_26 : Tryz.prog.underlying 26 = some (.slice 49) := UndI.h
instance uI_29 : UndI Tryz.prog 29 (.slice 2) := ⟨@Tryz.underlying29⟩
theorem und_29 : Tryz.prog.underlying 29 = some (.slice 2) := UndI.h
instance uI_65 : UndI Tryz.prog 65 (.slice 175) := ⟨@Tryz.underlying65⟩
instance uI_111 : UndI Tryz.prog 111 (.slice 114) := ⟨@Tryz.underlying111⟩
theorem und_111 : Tryz.prog.underlying 111 = some (.slice 114) := UndI.h
instance uI_164 : UndI Tryz.prog 164 (.slice 168) := ⟨@Tryz.underlying164⟩
instance uI_212 : UndI Tryz.prog 212 (.slice 9) := ⟨@Tryz.underlying212⟩
instance mixI : MixI Tryz.prog := ⟨by kernel_rfl⟩
@[reducible] def cRules (x : M.Rul) : List Ty := [Ty.int x.pits, Ty.int x.seeds, Ty.bool x.stores, Ty.bool x.skip, Ty.bool x.relay, Ty.bool x.feed, Ty.bool x.again, Ty.int x.capture, Ty.int x.slam]
def lRules (xs : List M.Rul) : List Ty := xs.flatMap cRules
theorem lRules_length (xs : List M.Rul) : (lRules xs).length = xs.length * 9 := flat_len cRules 9 (fun _ => rfl) xs
instance : LenL lRules 9 := ⟨lRules_length⟩
set_option maxRecDepth 100000 in
theorem eqs_Rules (a b : M.Rul) (w : World) : (Op.equalIn 10000 25 (.agg #[.int .i64 a.pits, .int .i64 a.seeds, .bool a.stores, .bool a.skip, .bool a.relay, .bool a.feed, .bool a.again, .int .i64 a.capture, .int .i64 a.slam]) (.agg #[.int .i64 b.pits, .int .i64 b.seeds, .bool b.stores, .bool b.skip, .bool b.relay, .bool b.feed, .bool b.again, .int .i64 b.capture, .int .i64 b.slam])).run Tryz.prog w = .ok (decide (a = b)) w := by
  have u2 := Tryz.underlying2
  have u4 := Tryz.underlying4
  have i2 := run_equalIn_int (P := Tryz.prog) (d := 9998) (t := 2) (k := .i64) (k' := .i64) (h := u2)
  have i4 := run_equalIn_bool (P := Tryz.prog) 9998 (t := 4) u4
  rw [show (10000 : Nat) = 9999 + 1 from rfl, run_equalIn_agg w 9999 25 _ _ (by kernel_rfl) (by kernel_rfl)]
  simp only [Program.fieldsOf, Tryz.underlying25]
  go_simp
  by_cases h : a = b
  · subst h; simp
  rw [decide_eq_false h]
  by_cases h0 : a.pits = b.pits
  case neg => rw [if_neg h0]
  rw [if_pos h0]
  by_cases h1 : a.seeds = b.seeds
  case neg => rw [if_neg h1]
  rw [if_pos h1]
  by_cases h2 : a.stores = b.stores
  case neg => rw [if_neg h2]
  rw [if_pos h2]
  by_cases h3 : a.skip = b.skip
  case neg => rw [if_neg h3]
  rw [if_pos h3]
  by_cases h4 : a.relay = b.relay
  case neg => rw [if_neg h4]
  rw [if_pos h4]
  by_cases h5 : a.feed = b.feed
  case neg => rw [if_neg h5]
  rw [if_pos h5]
  by_cases h6 : a.again = b.again
  case neg => rw [if_neg h6]
  rw [if_pos h6]
  by_cases h7 : a.capture = b.capture
  case neg => rw [if_neg h7]
  rw [if_pos h7]
  by_cases h8 : a.slam = b.slam
  case neg => rw [if_neg h8]
  rw [if_pos h8]
  exact absurd (by cases a; cases b; simp_all) h
@[reducible] def cPosition (x : M.Pos) : List Ty := [Ty.ints 2 x.pits, Ty.ints 2 x.stores, Ty.int x.player]
def lPosition (xs : List M.Pos) : List Ty := xs.flatMap cPosition
theorem lPosition_length (xs : List M.Pos) : (lPosition xs).length = xs.length * 3 := flat_len cPosition 3 (fun _ => rfl) xs
instance : LenL lPosition 3 := ⟨lPosition_length⟩
@[reducible] def cSown (x : M.Sw) : List Ty := [Ty.ints 2 x.pits, Ty.ints 2 x.stores, Ty.int x.last, Ty.int x.laps]
def lSown (xs : List M.Sw) : List Ty := xs.flatMap cSown
theorem lSown_length (xs : List M.Sw) : (lSown xs).length = xs.length * 4 := flat_len cSown 4 (fun _ => rfl) xs
instance : LenL lSown 4 := ⟨lSown_length⟩
@[reducible] def csowing (x : M.Sow) : List Ty := [Ty.int x.rules.pits, Ty.int x.rules.seeds, Ty.bool x.rules.stores, Ty.bool x.rules.skip, Ty.bool x.rules.relay, Ty.bool x.rules.feed, Ty.bool x.rules.again, Ty.int x.rules.capture, Ty.int x.rules.slam, Ty.int x.player, Ty.ints 2 x.sown.pits, Ty.ints 2 x.sown.stores, Ty.int x.sown.last, Ty.int x.sown.laps, Ty.ints 2 x.path]
theorem ref_sowing {u : World} {v : Value} {x : M.Sow} (h : (Ty.ref (csowing x)).ok u v) : ∃ b o A10 c10 A11 c11 A14 c14, v = .pointer (some ⟨b, o, none⟩) ∧ RowAt u b o [.int .i64 x.rules.pits, .int .i64 x.rules.seeds, .bool x.rules.stores, .bool x.rules.skip, .bool x.rules.relay, .bool x.rules.feed, .bool x.rules.again, .int .i64 x.rules.capture, .int .i64 x.rules.slam, .int .i64 x.player, .slice A10 x.sown.pits.length c10, .slice A11 x.sown.stores.length c11, .int .i64 x.sown.last, .int .i64 x.sown.laps, .slice A14 x.path.length c14] ∧ (Ty.ints 2 x.sown.pits).ok u (.slice A10 x.sown.pits.length c10) ∧ (Ty.ints 2 x.sown.stores).ok u (.slice A11 x.sown.stores.length c11) ∧ (Ty.ints 2 x.path).ok u (.slice A14 x.path.length c14) ∧ x.sown.pits.length ≤ c10 ∧ c10 ≤ 9223372036854775807 ∧ x.sown.stores.length ≤ c11 ∧ c11 ≤ 9223372036854775807 ∧ x.path.length ≤ c14 ∧ c14 ≤ 9223372036854775807 := by
  obtain ⟨b, o, vs, rfl, h, hr⟩ := h
  obtain ⟨x0, r, rfl, h0, h⟩ := cellsOk_cons h
  obtain ⟨x1, r, rfl, h1, h⟩ := cellsOk_cons h
  obtain ⟨x2, r, rfl, h2, h⟩ := cellsOk_cons h
  obtain ⟨x3, r, rfl, h3, h⟩ := cellsOk_cons h
  obtain ⟨x4, r, rfl, h4, h⟩ := cellsOk_cons h
  obtain ⟨x5, r, rfl, h5, h⟩ := cellsOk_cons h
  obtain ⟨x6, r, rfl, h6, h⟩ := cellsOk_cons h
  obtain ⟨x7, r, rfl, h7, h⟩ := cellsOk_cons h
  obtain ⟨x8, r, rfl, h8, h⟩ := cellsOk_cons h
  obtain ⟨x9, r, rfl, h9, h⟩ := cellsOk_cons h
  obtain ⟨x10, r, rfl, h10, h⟩ := cellsOk_cons h
  obtain ⟨x11, r, rfl, h11, h⟩ := cellsOk_cons h
  obtain ⟨x12, r, rfl, h12, h⟩ := cellsOk_cons h
  obtain ⟨x13, r, rfl, h13, h⟩ := cellsOk_cons h
  obtain ⟨x14, r, rfl, h14, h⟩ := cellsOk_cons h
  obtain rfl := cellsOk_nil h
  obtain rfl : x0 = .int .i64 x.rules.pits := h0
  obtain rfl : x1 = .int .i64 x.rules.seeds := h1
  obtain rfl : x2 = .bool x.rules.stores := h2
  obtain rfl : x3 = .bool x.rules.skip := h3
  obtain rfl : x4 = .bool x.rules.relay := h4
  obtain rfl : x5 = .bool x.rules.feed := h5
  obtain rfl : x6 = .bool x.rules.again := h6
  obtain rfl : x7 = .int .i64 x.rules.capture := h7
  obtain rfl : x8 = .int .i64 x.rules.slam := h8
  obtain rfl : x9 = .int .i64 x.player := h9
  obtain ⟨A10, c10, rfl, b10, d10⟩ := sl_form h10
  obtain ⟨A11, c11, rfl, b11, d11⟩ := sl_form h11
  obtain rfl : x12 = .int .i64 x.sown.last := h12
  obtain rfl : x13 = .int .i64 x.sown.laps := h13
  obtain ⟨A14, c14, rfl, b14, d14⟩ := sl_form h14
  exact ⟨b, o, A10, c10, A11, c11, A14, c14, rfl, hr, h10, h11, h14, b10, d10, b11, d11, b14, d14⟩
def lsowing (xs : List M.Sow) : List Ty := xs.flatMap csowing
theorem lsowing_length (xs : List M.Sow) : (lsowing xs).length = xs.length * 15 := flat_len csowing 15 (fun _ => rfl) xs
instance : LenL lsowing 15 := ⟨lsowing_length⟩
@[reducible] def cResult (x : M.Res) : List Ty := [Ty.int x.move, Ty.int x.gain, Ty.bool x.again, Ty.ints 2 x.next.pits, Ty.ints 2 x.next.stores, Ty.int x.next.player]
def lResult (xs : List M.Res) : List Ty := xs.flatMap cResult
theorem lResult_length (xs : List M.Res) : (lResult xs).length = xs.length * 6 := flat_len cResult 6 (fun _ => rfl) xs
instance : LenL lResult 6 := ⟨lResult_length⟩
theorem elem_Result {u : World} {e c i : Nat} {A : Option Addr} {xs : List M.Res} {x : M.Res} (h : (Ty.sl e 6 xs.length (lResult xs)).ok u (.slice A xs.length c)) (hi : xs[i]? = some x) : ∃ b o A3 c3 A4 c4, elemA 6 (.slice A xs.length c) i = some ⟨b, o, none⟩ ∧ RowAt u b o [.int .i64 x.move, .int .i64 x.gain, .bool x.again, .slice A3 x.next.pits.length c3, .slice A4 x.next.stores.length c4, .int .i64 x.next.player] ∧ (Ty.ints 2 x.next.pits).ok u (.slice A3 x.next.pits.length c3) ∧ (Ty.ints 2 x.next.stores).ok u (.slice A4 x.next.stores.length c4) ∧ x.next.pits.length ≤ c3 ∧ c3 ≤ 9223372036854775807 ∧ x.next.stores.length ≤ c4 ∧ c4 ≤ 9223372036854775807 := by
  obtain ⟨b, o, vs, he, h, hr⟩ := sl_elem h (List.getElem?_eq_some_iff.1 hi).1 rfl
  have e := drop_flat cResult 6 (fun _ => rfl) xs i x hi
  unfold lResult at h
  rw [e] at h
  obtain ⟨x0, r, rfl, h0, h⟩ := cellsOk_cons h
  obtain ⟨x1, r, rfl, h1, h⟩ := cellsOk_cons h
  obtain ⟨x2, r, rfl, h2, h⟩ := cellsOk_cons h
  obtain ⟨x3, r, rfl, h3, h⟩ := cellsOk_cons h
  obtain ⟨x4, r, rfl, h4, h⟩ := cellsOk_cons h
  obtain ⟨x5, r, rfl, h5, h⟩ := cellsOk_cons h
  obtain rfl := cellsOk_nil h
  obtain rfl : x0 = .int .i64 x.move := h0
  obtain rfl : x1 = .int .i64 x.gain := h1
  obtain rfl : x2 = .bool x.again := h2
  obtain ⟨A3, c3, rfl, b3, d3⟩ := sl_form h3
  obtain ⟨A4, c4, rfl, b4, d4⟩ := sl_form h4
  obtain rfl : x5 = .int .i64 x.next.player := h5
  exact ⟨b, o, A3, c3, A4, c4, he, hr, h3, h4, b3, d3, b4, d4⟩
theorem elemv_Result {w : World} {i : Nat} {xs : List M.Res} {x : M.Res} {vs : List Value} (h : cellsOk w (lResult xs) vs) (hi : xs[i]? = some x) : ∃ A3 c3 A4 c4, (vs.drop (0 + i * 6)).take 6 = [.int .i64 x.move, .int .i64 x.gain, .bool x.again, .slice A3 x.next.pits.length c3, .slice A4 x.next.stores.length c4, .int .i64 x.next.player] ∧ x.next.pits.length ≤ c3 ∧ c3 ≤ 9223372036854775807 ∧ x.next.stores.length ≤ c4 ∧ c4 ≤ 9223372036854775807 := by
  rw [Nat.zero_add]
  have h := cellsOk.take 6 (cellsOk.drop (i * 6) h)
  rw [lResult, drop_flat cResult 6 (fun _ => rfl) xs i x hi] at h
  generalize (vs.drop (i * 6)).take 6 = vs at h ⊢
  obtain ⟨x0, r, rfl, h0, h⟩ := cellsOk_cons h
  obtain ⟨x1, r, rfl, h1, h⟩ := cellsOk_cons h
  obtain ⟨x2, r, rfl, h2, h⟩ := cellsOk_cons h
  obtain ⟨x3, r, rfl, h3, h⟩ := cellsOk_cons h
  obtain ⟨x4, r, rfl, h4, h⟩ := cellsOk_cons h
  obtain ⟨x5, r, rfl, h5, h⟩ := cellsOk_cons h
  obtain rfl := cellsOk_nil h
  obtain rfl : x0 = .int .i64 x.move := h0
  obtain rfl : x1 = .int .i64 x.gain := h1
  obtain rfl : x2 = .bool x.again := h2
  obtain ⟨A3, c3, rfl, b3, d3⟩ := sl_form h3
  obtain ⟨A4, c4, rfl, b4, d4⟩ := sl_form h4
  obtain rfl : x5 = .int .i64 x.next.player := h5
  exact ⟨A3, c3, A4, c4, rfl, b3, d3, b4, d4⟩
theorem lResult_snoc (xs : List M.Res) (x : M.Res) : lResult xs ++ cResult x = lResult (xs ++ [x]) := by simp [lResult]
theorem pack_Result {w : World} {x : M.Res} {v1 v2 : Value} {f1 f2 : List Nat} (h1 : (Ty.ints 2 x.next.pits).own w v1 f1) (h2 : (Ty.ints 2 x.next.stores).own w v2 f2) : cellsOwn w (cResult x) [.int .i64 x.move, .int .i64 x.gain, .bool x.again, v1, v2, .int .i64 x.next.player] (f1 ++ f2) :=
  ⟨[], f1 ++ f2, rfl, ⟨rfl, rfl⟩, ⟨[], f1 ++ f2, rfl, ⟨rfl, rfl⟩, ⟨[], f1 ++ f2, rfl, ⟨rfl, rfl⟩, ⟨f1, f2, rfl, h1, ⟨f2, [], (List.append_nil _).symm, h2, ⟨[], [], rfl, ⟨rfl, rfl⟩, rfl⟩⟩⟩⟩⟩⟩
theorem unpack_Result {w : World} {x : M.Res} {A3 A4 : Option Addr} {m3 m4 c3 c4 : Nat} {f : List Nat} (h : cellsOwn w (cResult x) [.int .i64 x.move, .int .i64 x.gain, .bool x.again, .slice A3 m3 c3, .slice A4 m4 c4, .int .i64 x.next.player] f) : (rowO 2 1 (.slice A3 m3 c3) m3 (ints_ x.next.pits) []).pr w ∧ (rowO 2 1 (.slice A4 m4 c4) m4 (ints_ x.next.stores) []).pr w ∧ f = (rowO 2 1 (.slice A3 m3 c3) m3 (ints_ x.next.pits) []).fp ++ (rowO 2 1 (.slice A4 m4 c4) m4 (ints_ x.next.stores) []).fp := by
  obtain ⟨g0, r0, rfl, h0, h⟩ := h
  obtain ⟨g1, r1, rfl, h1, h⟩ := h
  obtain ⟨g2, r2, rfl, h2, h⟩ := h
  obtain ⟨g3, r3, rfl, h3, h⟩ := h
  obtain ⟨g4, r4, rfl, h4, h⟩ := h
  obtain ⟨g5, r5, rfl, h5, h⟩ := h
  obtain rfl : _ = [] := h
  obtain ⟨_, rfl⟩ := h0
  obtain ⟨_, rfl⟩ := h1
  obtain ⟨_, rfl⟩ := h2
  obtain ⟨_, rfl⟩ := h5
  have a := ints_open h3
  have b := ints_open h4
  exact ⟨a.1, b.1, by rw [← a.2, ← b.2]; simp⟩
@[reducible] def cResultL (x : M.Res) : List Ty := [Ty.int x.move, Ty.int x.gain, Ty.bool x.again, Ty.any, Ty.any, Ty.any]
def lResultL (xs : List M.Res) : List Ty := xs.flatMap cResultL
theorem lResultL_length (xs : List M.Res) : (lResultL xs).length = xs.length * 6 := flat_len cResultL 6 (fun _ => rfl) xs
instance : LenL lResultL 6 := ⟨lResultL_length⟩
@[reducible] def cOption (x : M.Opt) : List Ty := [Ty.int x.move, Ty.int x.value]
def lOption (xs : List M.Opt) : List Ty := xs.flatMap cOption
theorem lOption_length (xs : List M.Opt) : (lOption xs).length = xs.length * 2 := flat_len cOption 2 (fun _ => rfl) xs
instance : LenL lOption 2 := ⟨lOption_length⟩
@[reducible] def cPuzzle (x : M.Puz) : List Ty := [Ty.int x.rules.pits, Ty.int x.rules.seeds, Ty.bool x.rules.stores, Ty.bool x.rules.skip, Ty.bool x.rules.relay, Ty.bool x.rules.feed, Ty.bool x.rules.again, Ty.int x.rules.capture, Ty.int x.rules.slam, Ty.ints 2 x.position.pits, Ty.ints 2 x.position.stores, Ty.int x.position.player, Ty.int x.depth, Ty.int x.move, Ty.int x.value, Ty.int x.margin]
def lPuzzle (xs : List M.Puz) : List Ty := xs.flatMap cPuzzle
theorem lPuzzle_length (xs : List M.Puz) : (lPuzzle xs).length = xs.length * 16 := flat_len cPuzzle 16 (fun _ => rfl) xs
instance : LenL lPuzzle 16 := ⟨lPuzzle_length⟩
@[reducible] def cSlot (x : M.Slo) : List Ty := [Ty.bool x.used, Ty.ints 2 x.pits, Ty.int x.player, Ty.int x.depth, Ty.int x.value, Ty.int x.bound]
def lSlot (xs : List M.Slo) : List Ty := xs.flatMap cSlot
theorem lSlot_length (xs : List M.Slo) : (lSlot xs).length = xs.length * 6 := flat_len cSlot 6 (fun _ => rfl) xs
instance : LenL lSlot 6 := ⟨lSlot_length⟩
theorem elem_Slot {u : World} {e c i : Nat} {A : Option Addr} {xs : List M.Slo} {x : M.Slo} (h : (Ty.sl e 6 xs.length (lSlot xs)).ok u (.slice A xs.length c)) (hi : xs[i]? = some x) : ∃ b o A1 c1, elemA 6 (.slice A xs.length c) i = some ⟨b, o, none⟩ ∧ RowAt u b o [.bool x.used, .slice A1 x.pits.length c1, .int .i64 x.player, .int .i64 x.depth, .int .i64 x.value, .int .i64 x.bound] ∧ (Ty.ints 2 x.pits).ok u (.slice A1 x.pits.length c1) ∧ x.pits.length ≤ c1 ∧ c1 ≤ 9223372036854775807 := by
  obtain ⟨b, o, vs, he, h, hr⟩ := sl_elem h (List.getElem?_eq_some_iff.1 hi).1 rfl
  have e := drop_flat cSlot 6 (fun _ => rfl) xs i x hi
  unfold lSlot at h
  rw [e] at h
  obtain ⟨x0, r, rfl, h0, h⟩ := cellsOk_cons h
  obtain ⟨x1, r, rfl, h1, h⟩ := cellsOk_cons h
  obtain ⟨x2, r, rfl, h2, h⟩ := cellsOk_cons h
  obtain ⟨x3, r, rfl, h3, h⟩ := cellsOk_cons h
  obtain ⟨x4, r, rfl, h4, h⟩ := cellsOk_cons h
  obtain ⟨x5, r, rfl, h5, h⟩ := cellsOk_cons h
  obtain rfl := cellsOk_nil h
  obtain rfl : x0 = .bool x.used := h0
  obtain ⟨A1, c1, rfl, b1, d1⟩ := sl_form h1
  obtain rfl : x2 = .int .i64 x.player := h2
  obtain rfl : x3 = .int .i64 x.depth := h3
  obtain rfl : x4 = .int .i64 x.value := h4
  obtain rfl : x5 = .int .i64 x.bound := h5
  exact ⟨b, o, A1, c1, he, hr, h1, b1, d1⟩
theorem elemv_Slot {w : World} {i : Nat} {xs : List M.Slo} {x : M.Slo} {vs : List Value} (h : cellsOk w (lSlot xs) vs) (hi : xs[i]? = some x) : ∃ A1 c1, (vs.drop (0 + i * 6)).take 6 = [.bool x.used, .slice A1 x.pits.length c1, .int .i64 x.player, .int .i64 x.depth, .int .i64 x.value, .int .i64 x.bound] ∧ x.pits.length ≤ c1 ∧ c1 ≤ 9223372036854775807 := by
  rw [Nat.zero_add]
  have h := cellsOk.take 6 (cellsOk.drop (i * 6) h)
  rw [lSlot, drop_flat cSlot 6 (fun _ => rfl) xs i x hi] at h
  generalize (vs.drop (i * 6)).take 6 = vs at h ⊢
  obtain ⟨x0, r, rfl, h0, h⟩ := cellsOk_cons h
  obtain ⟨x1, r, rfl, h1, h⟩ := cellsOk_cons h
  obtain ⟨x2, r, rfl, h2, h⟩ := cellsOk_cons h
  obtain ⟨x3, r, rfl, h3, h⟩ := cellsOk_cons h
  obtain ⟨x4, r, rfl, h4, h⟩ := cellsOk_cons h
  obtain ⟨x5, r, rfl, h5, h⟩ := cellsOk_cons h
  obtain rfl := cellsOk_nil h
  obtain rfl : x0 = .bool x.used := h0
  obtain ⟨A1, c1, rfl, b1, d1⟩ := sl_form h1
  obtain rfl : x2 = .int .i64 x.player := h2
  obtain rfl : x3 = .int .i64 x.depth := h3
  obtain rfl : x4 = .int .i64 x.value := h4
  obtain rfl : x5 = .int .i64 x.bound := h5
  exact ⟨A1, c1, rfl, b1, d1⟩
theorem lSlot_snoc (xs : List M.Slo) (x : M.Slo) : lSlot xs ++ cSlot x = lSlot (xs ++ [x]) := by simp [lSlot]
theorem zown_Slot (w : World) : cellsOwn w (cSlot M.Slo.zero) [.bool false, .slice none 0 0, .int .i64 0, .int .i64 0, .int .i64 0, .int .i64 0] [] := ⟨[], [], rfl, ⟨rfl, rfl⟩, ⟨[], [], rfl, nil_own, ⟨[], [], rfl, ⟨rfl, rfl⟩, ⟨[], [], rfl, ⟨rfl, rfl⟩, ⟨[], [], rfl, ⟨rfl, rfl⟩, ⟨[], [], rfl, ⟨rfl, rfl⟩, rfl⟩⟩⟩⟩⟩⟩
@[reducible] def cSlotL (x : M.Slo) : List Ty := [Ty.bool x.used, Ty.any, Ty.int x.player, Ty.int x.depth, Ty.int x.value, Ty.int x.bound]
def lSlotL (xs : List M.Slo) : List Ty := xs.flatMap cSlotL
theorem lSlotL_length (xs : List M.Slo) : (lSlotL xs).length = xs.length * 6 := flat_len cSlotL 6 (fun _ => rfl) xs
instance : LenL lSlotL 6 := ⟨lSlotL_length⟩
@[reducible] def cMemory (x : M.Mem) : List Ty := [Ty.int x.rules.pits, Ty.int x.rules.seeds, Ty.bool x.rules.stores, Ty.bool x.rules.skip, Ty.bool x.rules.relay, Ty.bool x.rules.feed, Ty.bool x.rules.again, Ty.int x.rules.capture, Ty.int x.rules.slam, Ty.sl 49 6 x.slots.length (lSlot x.slots)]
def lMemory (xs : List M.Mem) : List Ty := xs.flatMap cMemory
theorem lMemory_length (xs : List M.Mem) : (lMemory xs).length = xs.length * 10 := flat_len cMemory 10 (fun _ => rfl) xs
instance : LenL lMemory 10 := ⟨lMemory_length⟩
@[reducible] def cvisitor (x : M.Vst) : List Ty := [Ty.int x.rules.pits, Ty.int x.rules.seeds, Ty.bool x.rules.stores, Ty.bool x.rules.skip, Ty.bool x.rules.relay, Ty.bool x.rules.feed, Ty.bool x.rules.again, Ty.int x.rules.capture, Ty.int x.rules.slam, Ty.sl 49 6 x.slots.length (lSlot x.slots), Ty.int x.hits]
def lvisitor (xs : List M.Vst) : List Ty := xs.flatMap cvisitor
theorem lvisitor_length (xs : List M.Vst) : (lvisitor xs).length = xs.length * 11 := flat_len cvisitor 11 (fun _ => rfl) xs
instance : LenL lvisitor 11 := ⟨lvisitor_length⟩
@[reducible] def cl16S (x : M.Vst) : List Ty := [Ty.int x.rules.pits, Ty.int x.rules.seeds, Ty.bool x.rules.stores, Ty.bool x.rules.skip, Ty.bool x.rules.relay, Ty.bool x.rules.feed, Ty.bool x.rules.again, Ty.int x.rules.capture, Ty.int x.rules.slam, Ty.sl 49 6 x.slots.length (lSlot x.slots), Ty.int x.hits]
def ll16S (xs : List M.Vst) : List Ty := xs.flatMap cl16S
theorem ll16S_length (xs : List M.Vst) : (ll16S xs).length = xs.length * 11 := flat_len cl16S 11 (fun _ => rfl) xs
instance : LenL ll16S 11 := ⟨ll16S_length⟩
@[reducible] def cPositionL (x : M.Pos) : List Ty := [Ty.rx 2 x.pits, Ty.ints 2 x.stores, Ty.int x.player]
def lPositionL (xs : List M.Pos) : List Ty := xs.flatMap cPositionL
theorem lPositionL_length (xs : List M.Pos) : (lPositionL xs).length = xs.length * 3 := flat_len cPositionL 3 (fun _ => rfl) xs
instance : LenL lPositionL 3 := ⟨lPositionL_length⟩
open Go.RowKit Go.ChangeShapes Go.WideShapes Go.ChangeAt
theorem cell_of {w : World} {b o : Nat} {x : Value} (h : w.cell? ⟨b, o, none⟩ = some x) : Cell w b o x := by
  unfold World.cell? at h
  split at h
  · rename_i c t f hb
    exact ⟨c, t, f, hb, by simpa using h⟩
  all_goals simp at h
section
variable {H : Type} {enc : TypeId × Value → H} {w : World} {spare : Nat → Bool} {held : Bool} {fuel : Nat} {x : DataW H × List MemPlace} {cs : List Value}
end
section
variable {H : Type} {enc : TypeId × Value → H} {w : World} {spare : Nat → Bool} {held : Bool} {fuel : Nat} {x : DataW H × List MemPlace} {cs : List Value}
theorem byte_wf {n : Int} (h : (Lit.int .u8 n).wf = true) : 0 ≤ n ∧ n ≤ 255 := by
  simp only [Lit.wf, Bool.and_eq_true, decide_eq_true_eq] at h
  first | exact h | (obtain ⟨a, b⟩ := h; constructor <;> simp_all [IntKind.min, IntKind.max] <;> omega)
theorem bytes_ok (w : World) : ∀ (l : List Int), (∀ n ∈ l, 0 ≤ n ∧ n ≤ 255) → cellsOk w (List.replicate l.length Ty.byte) (l.map (fun n => .int .u8 n))
  | [], _ => trivial
  | n :: l, h => ⟨⟨n, rfl, h n (by simp)⟩, bytes_ok w l (fun m hm => h m (by simp [hm]))⟩
theorem rd_bytes {P : Program} {t e : TypeId} (ht : P.underlying t = some (.slice e)) (he : P.underlying e = some (.int .u8)) (hc : P.cellsOf e = 1) (h : DataW.trod enc P w 0 spare held fuel t cs = some x) : ∃ n : Nat, cellsOk w [Ty.bytes e n] cs := by
  rcases open_ints ht he hc h with ⟨rfl, _⟩ | ⟨a, len, cap, zs, rfl, _, hl, hm, hz, _, hcell, hwf⟩
  · exact ⟨0, nil_ok, trivial⟩
  · have hlz : len ≤ zs.length := by rw [hz]; split <;> omega
    have hlen : (zs.take len).length = len := by simp; omega
    refine ⟨len, ⟨by simp, some a, cap, (zs.take len).map (fun n => .int .u8 n), rfl, hl, hm, ?_, fun hp => ?_⟩, trivial⟩
    · have := bytes_ok w (zs.take len) (fun n hn => byte_wf (hwf n (List.mem_of_mem_take hn)))
      rwa [hlen] at this
    have hp : 0 < len := by simpa using hp
    obtain ⟨b, off, spot⟩ := a
    have hspot : spot = none := by simpa [Addr.add] using World.cell?_spot (hcell 0 (by omega))
    subst hspot
    refine ⟨b, off, rfl, fun j v hj => ?_⟩
    simp only [List.getElem?_map, Option.map_eq_some_iff] at hj
    obtain ⟨n, hn, rfl⟩ := hj
    rw [List.getElem?_take] at hn
    split at hn
    · rename_i hjl
      have := hcell j (by omega)
      rw [addr_add] at this
      have e : zs.getD j 0 = n := by simp [List.getD, hn]
      rw [e] at this
      exact cell_of this
    · simp at hn
end
section
variable {H : Type} {enc : TypeId × Value → H} {w : World} {spare : Nat → Bool} {held : Bool} {fuel : Nat} {x : DataW H × List MemPlace} {cs : List Value}
end
end Go.Proofs.YtmgnckfhghibeaaGreat
namespace Go.Proofs.YtmgnckfhghibeaaGreat.M
section
variable {α : Type} (f : Int → α → α) (sz : α → Int)
variable (hf : Int → α → Int)
def heldL : Int → List α → Int
  | k, [] => k
  | k, x :: l => if hf k x < 0 then -1 else heldL (hf k x) l
end
section
variable {α : Type}
end
def hQ (k : Int) (p : Pos) : Int := if held p.pits k < 0 then -1 else if held p.stores (held p.pits k) < 0 then -1 else if p.player ≠ held p.stores (held p.pits k) then -1 else held p.stores (held p.pits k) + 1
def stdNames : List (List UInt8) := [[107, 97, 108, 97, 104], [109, 105, 110, 105], [111, 119, 97, 114, 101], [114, 101, 108, 97, 121]]
def cutG (g : Gam) (n : Nat) : Gam := ⟨g.rules, g.start, g.moves.take n, (playedP g).getD n Pos.zero, -1⟩
theorem cutG_now {g : Gam} {n : Nat} {y : Pos} (h : (playedP g)[n]? = some y) : (cutG g n).now = y := by simp [cutG, List.getD, h]
def undo (g : Gam) : Gam × Int := if okG g = true then (if g.moves.length = 0 ∨ 0 ≤ g.resigned then (Gam.zero, 6) else (cutG g ((g.moves.length : Int) - 1).toNat, 0)) else (Gam.zero, 1)
theorem undo_0 {g : Gam} (h : okG g = true) (h2 : ¬ (g.moves.length = 0 ∨ 0 ≤ g.resigned)) : undo g = (cutG g ((g.moves.length : Int) - 1).toNat, 0) := by unfold undo; rw [if_pos h, if_neg h2]
def Cut (g : Gam) (k : Nat) : Prop := ∀ j, j < k → endOf (cutG g j) = 0
theorem Cut.zero (g : Gam) : Cut g 0 := fun j h => by omega
theorem Cut.step {g : Gam} {k : Nat} (h : Cut g k) (h2 : endOf (cutG g k) = 0) : Cut g (k + 1) := fun j hj => by
  by_cases e : j = k
  · subst e; exact h2
  · exact h j (by omega)
def startP (r : Rul) : Pos := ⟨List.replicate (2 * r.pits).toNat r.seeds, [0, 0], 0⟩
theorem mul01 {a n : Int} (h0 : 0 ≤ a) (h1 : a = 0 ∨ a < 2) (n0 : 0 ≤ n) (n8 : n ≤ 8) : 0 ≤ a * n ∧ a * n ≤ n ∧ (a + 1) * n = a * n + n := by
  have h : a = 0 ∨ a = 1 := by omega
  rcases h with rfl | rfl <;> simp <;> omega
def legal (r : Rul) (p : Pos) : List Int := if okP r p = true then (results r p).map (·.move) else []
theorem legal_yes {r : Rul} {p : Pos} (h : okP r p = true) : legal r p = (results r p).map (·.move) := by unfold legal; rw [if_pos h]
theorem legal_no {r : Rul} {p : Pos} (h : okP r p = false) : legal r p = [] := by unfold legal; rw [if_neg (by simp [h])]
theorem moves_step {l : List Res} {k : Nat} {y : Res} (h : l[k]? = some y) : (l.map (·.move)).take (k + 1) = (l.map (·.move)).take k ++ [y.move] := by
  rw [List.take_add_one, List.getElem?_map, h]; rfl
end Go.Proofs.YtmgnckfhghibeaaGreat.M
namespace Go.Proofs.YtmgnckfhghibeaaGreat
open Go.RowKit
theorem setL_drop {xs : List Value} {o j : Nat} {v : Value} (h : o ≤ xs.length) : (setL xs (o + j) [v]).drop o = setL (xs.drop o) j [v] := by
  simp only [setL, List.length_singleton, List.append_assoc]
  rw [List.drop_append_of_le_length (by simp; omega), List.drop_take, List.drop_drop]
  rw [show o + j - o = j from by omega, show o + (j + 1) = o + j + 1 from rfl]
section
variable {P : Program} {n lo : Nat} {B : List Nat} {l : Fr} {os : List Own} {u : World} {dst : Option Tmp} {ty : TypeId} {pos : String} {af : Array Edge} {gd : Option (Nat × Bool)}
theorem rx_some {i m c : Nat} {e : TypeId} {A : Option Addr} {vs : List Value} (hi : os[i]? = some (rxO e (.slice A m c) m vs)) (hm : 0 < m) : ∀ w, St lo B u w os → ∃ b o, A = some ⟨b, o, none⟩ := fun w hw => by
  have h : RxRow w e (.slice A m c) m vs := hw.prs _ (List.mem_of_getElem? hi)
  rcases h.2 with ⟨h2, h3⟩ | ⟨g, o, cap, cur, h2, _⟩
  · omega
  · cases h2; exact ⟨g, o, rfl⟩
theorem Mem.rx {i b o c m j : Nat} {e : TypeId} {vs : List Value} {x : Value} (hi : os[i]? = some (rxO e (.slice (some ⟨b, o, none⟩) m c) m vs)) (hx : vs[0 + j * 1]? = some x) : Mem lo B u os fun w => Cell w b (o + j * 1) x := fun w hw => by
  have h : RxRow w e (.slice (some ⟨b, o, none⟩) m c) m vs := hw.prs _ (List.mem_of_getElem? hi)
  rcases h.2 with ⟨h2, h3⟩ | ⟨g, o', cap, cur, h2, hg, h4, h5, h7⟩
  · cases h2
  · cases h2
    refine ⟨cur, e, (0, 0), hg, ?_⟩
    rw [← h7, List.getElem?_take] at hx
    split at hx
    · rw [List.getElem?_drop] at hx
      simpa using hx
    · simp at hx
theorem e_storeRx {x y : Operand} {t e : TypeId} {gg : Bool} {i b o c m j : Nat} {xs xs' : List Value} {v : Value} (ht : tyOf P t = some (gg, 1)) (hx : opd l x = some (.pointer (some ⟨b, o + j * 1, none⟩))) (hi : os[i]? = some (rxO e (.slice (some ⟨b, o, none⟩) m c) m xs)) (hy : opd l y = some v)
    (hv : cellsL v = [v]) (h1 : v.oneCell' = true) (hl : (0 + j * 1) + 1 ≤ xs.length) (hc : setL xs (0 + j * 1) [v] = xs') :
    OpE P n lo B l os u ⟨dst, .store t x y, ty, pos, af, gd⟩ false (fun _ os' u' => os' = os.set i (rxO e (.slice (some ⟨b, o, none⟩) m c) m xs') ∧ u = u') := fun a w ha hw K Q hk => by
  subst hc
  simp only [Nat.zero_add, Nat.mul_one] at hx hl ⊢
  have h0 : RxRow w e (.slice (some ⟨b, o, none⟩) m c) m xs := hw.prs _ (List.mem_of_getElem? hi)
  obtain ⟨hown1, hown2⟩ := h0
  rcases hown2 with ⟨h2, _⟩ | ⟨g', o', cap, cur, h2, hg, h4, h5, h7⟩
  · cases h2
  cases h2
  have hle : xs.length ≤ (cur.toList.drop o).length := by rw [← h7, List.length_take]; omega
  have hle2 : o + xs.length ≤ cur.toList.length := by rw [List.length_drop] at hle; omega
  obtain ⟨w', r1, r2, r3, r4, r5, r6, r7⟩ := run_storeCells_box P b e [v] 0 (o + j) cur.toList w (by simpa using hg) (by simp at hle2 ⊢; omega) (by simpa using h1)
  have hsz := (run_isAgg (P := P) w ht).2
  have hr : (execOp a.eval ⟨dst, .store t x y, ty, pos, af, gd⟩).run P w = .ok .skip w' := by
    simp [execOp, ha.eval hx, ha.eval hy, Instr.storeAt, Instr.sureAddr, storeVar, hsz, cellsL_eq, hv, r1]
  unfold Oper.wp
  rw [hr]
  refine hk _ _ u _ ⟨rfl, rfl⟩ (Up.refl lo u) (hw.upd hi r5 r6 r7 (by omega) (fun k _ hk => r3 k (fun e => hk (by simp [rxO, Value.ownBlock, e]))) (fun k hk => .inl hk) ?_ ?_ (fun k hk _ => hk)) (fun h => by cases h)
  · have h9 := nodup_mem hw.dis (List.mem_of_getElem? hi)
    exact h9
  · refine ⟨by simp only [setL, List.length_append, List.length_take, List.length_drop, List.length_singleton]; omega, .inr ⟨b, o, c, (setL cur.toList (o + j) [v]).toArray, rfl, by simpa using r2, h4, h5, ?_⟩⟩
    rw [List.toList_toArray, setL_drop (by omega)]
    simpa only [Nat.zero_add, Nat.mul_one] using setL_prefix (vs := [v]) h7 hown1.symm hl hle
end
theorem St.releaseB {lo : Nat} {B : List Nat} {u w : World} {os : List Own} (h : St lo B u w os) {i : Nat} {o : Own} (hi : os[i]? = some o) (hB : ∀ k ∈ B, k ∈ (os.eraseIdx i).flatMap (·.fp)) :
    ∃ u', Up lo u u' ∧ St lo B u' w (os.eraseIdx i) ∧ (∀ k ∈ o.fp, u'.heap[k]? = w.heap[k]?) := by
  have hlt : i < os.length := (List.getElem?_eq_some_iff.1 hi).1
  have hpart : ∃ pre post, os = pre ++ o :: post ∧ os.eraseIdx i = pre ++ post := by
    refine ⟨os.take i, os.drop (i + 1), ?_, List.eraseIdx_eq_take_drop_succ ..⟩
    have := (List.getElem?_eq_some_iff.1 hi).2
    rw [← this, ← List.drop_eq_getElem_cons hlt, List.take_append_drop]
  obtain ⟨pre, post, e1, e2⟩ := hpart
  rw [e2] at hB
  have hd := h.dis
  rw [e1] at hd
  simp only [List.flatMap_append, List.flatMap_cons] at hd
  rw [List.nodup_append] at hd
  obtain ⟨d1, d2, d3⟩ := hd
  rw [List.nodup_append] at d2
  obtain ⟨d4, d5, d6⟩ := d2
  have hs : (offW w ((pre ++ post).flatMap (·.fp))).heap.size = w.heap.size := by simp [offW]
  have hsz := h.size
  have hlo := h.lo_
  have mem : ∀ x, x ∈ pre ++ post → x ∈ os := fun x hx => by rw [e1]; simp only [List.mem_append, List.mem_cons] at hx ⊢; rcases hx with hx | hx <;> simp [hx]
  have mem' : ∀ x, x ∈ os → x = o ∨ x ∈ pre ++ post := fun x hx => by
    rw [e1] at hx
    simp only [List.mem_append, List.mem_cons] at hx ⊢
    rcases hx with hx | hx | hx
    · exact .inr (.inl hx)
    · exact .inl hx
    · exact .inr (.inr hx)
  have apart : ∀ k ∈ o.fp, k ∉ (pre ++ post).flatMap (·.fp) := fun k hk hm => by
    rw [List.flatMap_append, List.mem_append] at hm
    rcases hm with hm | hm
    · exact d3 k hm k (List.mem_append_left _ hk) rfl
    · exact d6 k hk k hm rfl
  rw [e2]
  refine ⟨offW w ((pre ++ post).flatMap (·.fp)), ⟨⟨by omega, fun k c t f hk => ?_⟩, fun k hk => ?_, h.os_, h.tape, h.output⟩, ⟨rfl, rfl, rfl, by omega, by omega, fun k hk hn => ?_, fun x hx k hk => ⟨(h.hid x (mem x hx) k hk).1, (h.hid x (mem x hx) k hk).2.1, fun hlt' => ?_⟩, fun x hx => h.prs x (mem x hx), ?_, hB⟩, fun k hk => ?_⟩
  · rw [offW_get, if_neg]
    · exact h.vis.vis k c t f hk
    · intro hm
      obtain ⟨x, hx, hm⟩ := List.mem_flatMap.1 hm
      have := (h.hid x (mem x hx) k hm).2.2 (Array.getElem?_eq_some_iff.1 hk).1
      rw [this] at hk
      simp [hidO] at hk
  · by_cases hm : k ∈ (pre ++ post).flatMap (·.fp)
    · rw [offW_get, if_pos hm, if_pos (by omega)]
      obtain ⟨x, hx, hm⟩ := List.mem_flatMap.1 hm
      exact ((h.hid x (mem x hx) k hm).2.2 (by omega)).symm
    · have nh : ∀ x ∈ os, k ∉ x.fp := fun x hx hk' => by
        rcases mem' x hx with rfl | hx'
        · rcases (h.hid x hx k hk').2.1 with h9 | h9
          · omega
          · exact hm (hB k h9)
        · exact hm (List.mem_flatMap.2 ⟨x, hx', hk'⟩)
      rw [offW_get, if_neg hm]
      exact h.pub k (by omega) nh
  · rw [offW_get, if_neg]
    intro hm
    obtain ⟨x, hx, hm⟩ := List.mem_flatMap.1 hm
    exact hn x hx hm
  · rw [offW_get, if_pos (List.mem_flatMap.2 ⟨x, hx, hk⟩), if_pos (by have := (h.hid x (mem x hx) k hk).1; omega)]
  · rw [List.flatMap_append, List.nodup_append]
    exact ⟨d1, d5, fun a ha b hb e => d3 a ha b (List.mem_append_right _ hb) e⟩
  · rw [offW_get, if_neg (apart k hk)]
theorem Js.pubBox {P : Program} {n lo : Nat} {B : List Nat} {Q : Exit → Act → World → Prop} {cs : List Code} {l : Fr} {os : List Own} {u : World} {i j b bs : Nat} {c c2 : List Value} {T T2 : TypeId} (hi : os[i]? = some (boxO b c T)) (hj : (os.eraseIdx i)[j]? = some (boxO bs c2 T2))
    (k : ∀ u', Up lo u u' → RowAt u' b 0 c → Js P n lo B Q cs l (os.eraseIdx i) u') (hB : B = [bs] := by rfl) : Js P n lo B Q cs l os u := fun a w ha hw => by
  obtain ⟨u', h1, h2, h3⟩ := hw.releaseB hi (fun k hk => by
    rw [hB, List.mem_singleton] at hk
    subst hk
    exact List.mem_flatMap.2 ⟨_, List.mem_of_getElem? hj, by simp [boxO]⟩)
  have hp : w.heap[b]? = some (.cells c.toArray T (0, 0)) := hw.prs _ (List.mem_of_getElem? hi)
  refine k u' h1 (fun m x hm => ⟨c.toArray, T, (0, 0), by rw [h3 b (by simp [boxO])]; exact hp, ?_⟩) a w ha h2
  simpa using hm
inductive RowX : List Own → TypeId → Value → List Int → Prop
  | a {e : TypeId} {v : Value} {m : Nat} {xs : List Int} {r : List Own} : RowX (rxO e v m (ints_ xs) :: r) e v xs
  | s {e : TypeId} {v : Value} {xs : List Int} {q : Own} {r : List Own} (h : RowX r e v xs) : RowX (q :: r) e v xs
theorem RowX.get {os : List Own} {e : TypeId} {v : Value} {xs : List Int} (h : RowX os e v xs) {w : World} : (∀ o ∈ os, o.pr w) → (Ty.ints e xs).ok w v := by
  induction h with
  | a => intro hp; exact ints_rxok (hp _ List.mem_cons_self)
  | s _ ih => intro hp; exact ih fun q hq => hp q (by simp [hq])
theorem okx_ {lo : Nat} {B : List Nat} {os : List Own} {u w : World} {T : Ty} {v : Value} (hw : St lo B u w os) (h : St lo B u w os → T.ok w v := by
    intro hw
    repeat' (first
    | exact ok_i | exact ok_b | with_reducible apply ok_c | with_reducible exact ok_n | with_reducible apply ok_agg | exact ok_s | exact Ty.mono _ (by assumption) vis_ | exact nil_ok | (refine RowX.get ?_ (St.prs hw); (repeat (first | with_reducible exact RowX.a | with_reducible apply RowX.s)); done) | (refine Row1.get ?_ (St.prs hw); (repeat (first | with_reducible exact Row1.a | with_reducible exact Row1.b | with_reducible apply Row1.s)); done) | (refine Own1.get ?_ (St.prs hw); (repeat (first | ((with_reducible apply Own1.a); (repeat (first | with_reducible exact Cel.z | with_reducible apply Cel.s)); done) | with_reducible apply Own1.s)); done) | (refine ok_ofro (Own1.get ?_ (St.prs hw)); (repeat (first | ((with_reducible apply Own1.a); (repeat (first | with_reducible exact Cel.z | with_reducible apply Cel.s)); done) | with_reducible apply Own1.s)); done) | apply ok_ro
    | ((with_reducible apply ok_refB (hw := hw)); (repeat (first | with_reducible exact LdB.z | with_reducible apply LdB.s))) | (apply ok_refP; assumption; exact vis_; rfl; exact off_; exact nl) | exact rfl | assumption | fail)) : T.ok w v := h hw
end Go.Proofs.YtmgnckfhghibeaaGreat
namespace Go.Proofs.YtmgnckfhghibeaaGreat.M
theorem legal_len' {r : Rul} {p : Pos} (h : okP r p = true) : (legal r p).length = (results r p).length := by rw [legal_yes h, List.length_map]
def legC (r : Rul) (p : Pos) : Int := if okP r p = true then 0 else 1
theorem legC_y {r : Rul} {p : Pos} (h : okP r p = true) : legC r p = 0 := if_pos h
theorem legC_n {r : Rul} {p : Pos} (h : okP r p = false) : legC r p = 1 := by unfold legC; rw [h]; rfl
theorem place_bd {r : Rul} {p : Pos} {m : Int} (h : okP r p = true) (h0 : 0 ≤ m) (h1 : m ≤ r.pits - 1) : 0 ≤ p.player * r.pits ∧ p.player * r.pits ≤ 8 ∧ 0 ≤ p.player * r.pits + m ∧ p.player * r.pits + m < (p.pits.length : Int) := by
  obtain ⟨g1, g2, g3, g4, g5, g6, g7⟩ := okP_bd h
  rw [g3]
  rcases g7 with e | e <;> rw [e] <;> omega
def newM (r : Rul) (n : Int) : Mem × Int := if okR r = true then (if betw n 1 64 = true then (⟨r, List.replicate n.toNat Slo.zero⟩, 0) else (Mem.zero, 2)) else (Mem.zero, 1)
theorem newM_1 {r : Rul} {n : Int} (h : ¬ okR r = true) : newM r n = (Mem.zero, 1) := by unfold newM; rw [if_neg h]
theorem newM_2 {r : Rul} {n : Int} (h : okR r = true) (h2 : ¬ betw n 1 64 = true) : newM r n = (Mem.zero, 2) := by unfold newM; rw [if_pos h, if_neg h2]
theorem newM_0 {r : Rul} {n : Int} (h : okR r = true) (h2 : betw n 1 64 = true) : newM r n = (⟨r, List.replicate n.toNat Slo.zero⟩, 0) := by unfold newM; rw [if_pos h, if_pos h2]
@[reducible] def remB (m : Mem) (p : Pos) : Bool := okM m && okP m.rules p
def remC (m : Mem) (p : Pos) : Int := if remB m p = true then 0 else 1
theorem remC_0 {m : Mem} {p : Pos} (h : remB m p = true) : remC m p = 0 := by unfold remC; rw [if_pos h]
theorem remC_1 {m : Mem} {p : Pos} (h : ¬ remB m p = true) : remC m p = 1 := by unfold remC; rw [if_neg h]
def swS (m : Mem) (p : Pos) (depth : Int) : Int × List Slo × Int := vis m.rules depth.toNat p (-1000) 1000 (m.slots, 0)
def swOk (m : Mem) (p : Pos) (depth : Int) : Bool := betw (swS m p depth).1 (-96) 96 && okM ⟨m.rules, (swS m p depth).2.1⟩
def swM (m : Mem) (p : Pos) (depth : Int) : Int × Int × Mem × Int :=
  if remB m p = true then (if srchC m.rules p depth = 0 then (if swOk m p depth = true then ((swS m p depth).1, (swS m p depth).2.2, ⟨m.rules, (swS m p depth).2.1⟩, 0) else (0, 0, Mem.zero, 6)) else (0, 0, Mem.zero, srchC m.rules p depth)) else (0, 0, Mem.zero, 1)
theorem swM_1 {m : Mem} {p : Pos} {d : Int} (h : ¬ remB m p = true) : swM m p d = (0, 0, Mem.zero, 1) := by unfold swM; rw [if_neg h]
theorem swM_c {m : Mem} {p : Pos} {d : Int} (h : remB m p = true) (h2 : ¬ srchC m.rules p d = 0) : swM m p d = (0, 0, Mem.zero, srchC m.rules p d) := by unfold swM; rw [if_pos h, if_neg h2]
theorem swM_6 {m : Mem} {p : Pos} {d : Int} (h : remB m p = true) (h2 : srchC m.rules p d = 0) (h3 : ¬ swOk m p d = true) : swM m p d = (0, 0, Mem.zero, 6) := by unfold swM; rw [if_pos h, if_pos h2, if_neg h3]
theorem swM_0 {m : Mem} {p : Pos} {d : Int} (h : remB m p = true) (h2 : srchC m.rules p d = 0) (h3 : swOk m p d = true) : swM m p d = ((swS m p d).1, (swS m p d).2.2, ⟨m.rules, (swS m p d).2.1⟩, 0) := by unfold swM; rw [if_pos h, if_pos h2, if_pos h3]
def SzM (n : Nat) (l : List Slo) : Prop := ∀ s ∈ l, s.pits.length ≤ n
theorem SzM.mono {m n : Nat} {l : List Slo} (h : SzM m l) (hm : m ≤ n) : SzM n l := fun s hs => by have := h s hs; omega
theorem SzM.sto {n : Nat} {l : List Slo} {s : Slo} (h : SzM n l) (hs : s.pits.length ≤ n) : SzM n (stoS l s) := fun x hx => by
  unfold stoS at hx
  split at hx
  · rcases List.mem_or_eq_of_mem_set hx with hx | rfl
    · exact h x hx
    · exact hs
  · exact h x hx
theorem okS_16 {r : Rul} {n i : Nat} {s : Slo} (h : okS r n i s = true) : s.pits.length ≤ 16 := by
  unfold okS at h
  split at h
  · simp only [Bool.and_eq_true] at h
    have := okP_bd h.1.1
    have e : (posS s).pits = s.pits := rfl
    rw [e] at this
    omega
  · unfold freeS at h
    simp only [Bool.and_eq_true, decide_eq_true_eq] at h
    omega
theorem okM_16 {m : Mem} (h : okM m = true) : SzM 16 m.slots := fun s hs => by
  obtain ⟨_, _, _, h4⟩ := okM_parts h
  obtain ⟨i, hi⟩ := List.mem_iff_getElem?.1 hs
  have hil := (List.getElem?_eq_some_iff.1 hi).1
  have := h4 i hil
  rw [show slo m.slots i = s by simp [slo, List.getD, hi]] at this
  exact okS_16 this
def BdM (l : List Slo) : Prop := ∀ s ∈ l, s.used = true → -(1000 + 96 * s.depth) ≤ s.value ∧ s.value ≤ 1000 + 96 * s.depth
theorem BdM.sto {l : List Slo} {s : Slo} (h : BdM l) (hs : -(1000 + 96 * s.depth) ≤ s.value ∧ s.value ≤ 1000 + 96 * s.depth) : BdM (stoS l s) := fun x hx hu => by
  unfold stoS at hx
  split at hx
  · rcases List.mem_or_eq_of_mem_set hx with hx | rfl
    · exact h x hx hu
    · exact hs
  · exact h x hx hu
theorem okM_bd {m : Mem} (h : okM m = true) : BdM m.slots := fun s hs hu => by
  obtain ⟨_, _, _, h4⟩ := okM_parts h
  obtain ⟨i, hi⟩ := List.mem_iff_getElem?.1 hs
  have hil := (List.getElem?_eq_some_iff.1 hi).1
  have := h4 i hil
  rw [show slo m.slots i = s by simp [slo, List.getD, hi]] at this
  unfold okS at this
  rw [if_pos hu] at this
  simp only [Bool.and_eq_true, okCt, betw_iff] at this
  omega
structure VB (d : Nat) (l : List Slo) (h : Int) (R : Int × List Slo × Int) : Prop where
  bd : BdM R.2.1
  sz : SzM 4194304 l → SzM 4194304 R.2.1
  v1 : -(1000 + 96 * (d : Int)) ≤ R.1
  v2 : R.1 ≤ 1000 + 96 * (d : Int)
  h1 : h ≤ R.2.2
  h2 : R.2.2 ≤ h + 9 ^ d
theorem visL_vb {r : Rul} {d : Nat} {f : Pos → Int → Int → List Slo × Int → Int × List Slo × Int} (hf : ∀ p a b st, okP r p = true → BdM st.1 → 0 < st.1.length → VB d st.1 st.2 (f p a b st) ∧ (f p a b st).2.1.length = st.1.length) {p : Pos} (low high : Int) :
    ∀ (l : List Res) (b : Int) (st : List Slo × Int), (∀ x ∈ l, x ∈ results r p) → -(1000 + 96 * ((d + 1 : Nat) : Int)) ≤ b → b ≤ 1000 + 96 * ((d + 1 : Nat) : Int) → BdM st.1 → 0 < st.1.length →
      BdM (visL f low high b st l).2.1 ∧ (SzM 4194304 st.1 → SzM 4194304 (visL f low high b st l).2.1) ∧ -(1000 + 96 * ((d + 1 : Nat) : Int)) ≤ (visL f low high b st l).1 ∧ (visL f low high b st l).1 ≤ 1000 + 96 * ((d + 1 : Nat) : Int) ∧ st.2 ≤ (visL f low high b st l).2.2 ∧ (visL f low high b st l).2.2 ≤ st.2 + l.length * 9 ^ d
  | [], b, st, _, h1, h2, hb, _ => by rw [visL]; exact ⟨hb, fun h => h, h1, h2, Int.le_refl _, by simp⟩
  | x :: l, b, st, hx, h1, h2, hb, hn => by
    have h9 : (0 : Int) < 9 ^ d := Int.pow_pos (by decide)
    have hl9 : (0 : Int) ≤ l.length * 9 ^ d := Int.mul_nonneg (by omega) (by omega)
    have el : (((x :: l).length : Nat) : Int) * 9 ^ d = l.length * 9 ^ d + 9 ^ d := by rw [List.length_cons]; push_cast; rw [Int.add_mul, Int.one_mul]
    rw [visL]; split
    · exact ⟨hb, fun h => h, h1, h2, Int.le_refl _, by rw [el]; simp only; omega⟩
    · obtain ⟨hq, hln⟩ := hf x.next (loV x low high b) (hiV x low high b) st (results_ok (hx x (by simp))) hb hn
      obtain ⟨q1, q2, q3, q4, q5, q6⟩ := hq
      have hg := results_gain (hx x (by simp))
      have hm := mx_le b (moveV x (f x.next (loV x low high b) (hiV x low high b) st).1)
      have hmv : -(1000 + 96 * ((d + 1 : Nat) : Int)) ≤ moveV x (f x.next (loV x low high b) (hiV x low high b) st).1 ∧ moveV x (f x.next (loV x low high b) (hiV x low high b) st).1 ≤ 1000 + 96 * ((d + 1 : Nat) : Int) := by
        unfold moveV; split <;> (push_cast; omega)
      obtain ⟨a1, a2, a3, a4, a5, a6⟩ := visL_vb hf low high l (mx b (moveV x (f x.next (loV x low high b) (hiV x low high b) st).1)) (f x.next (loV x low high b) (hiV x low high b) st).2 (fun y hy => hx y (by simp [hy])) (by omega) (by omega) q1 (by rw [hln]; exact hn)
      exact ⟨a1, fun h => a2 (q2 h), a3, a4, by omega, by rw [el]; omega⟩
theorem vis_vb {r : Rul} : ∀ (d : Nat) (p : Pos) (low high : Int) (st : List Slo × Int), okP r p = true → BdM st.1 → 0 < st.1.length → VB d st.1 st.2 (vis r d p low high st)
  | 0, p, low, high, st, hp, hb, hn => by
    have h3 := endV_bd hp
    rw [vis]; split
    · exact ⟨hb, fun h => h, by simp only; omega, by simp only; omega, Int.le_refl _, by simp only; omega⟩
    · exact ⟨hb, fun h => h, by simp only; omega, by simp only; omega, Int.le_refl _, by simp only; omega⟩
  | d + 1, p, low, high, st, hp, hb, hn => by
    have h3 := endV_bd hp
    have h9 : (0 : Int) < 9 ^ d := Int.pow_pos (by decide)
    have e9 : (9 : Int) ^ (d + 1) = 9 * 9 ^ d := by rw [Int.pow_succ, Int.mul_comm]
    have hpb := plc_bd p.pits p.player hn
    have h16 := okP_bd hp
    rw [vis]; split
    · exact ⟨hb, fun h => h, by simp only; omega, by simp only; omega, Int.le_refl _, by rw [e9]; simp only; omega⟩
    · split
      · rename_i hc
        simp only [fndB, Bool.and_eq_true, decide_eq_true_eq] at hc
        have hv := hb _ (slo_mem (l := st.1) (k := (plc st.1.length p.pits p.player).toNat) (by omega)) hc.1.1.1.1
        have e : slo st.1 (plc st.1.length p.pits p.player).toNat = fnd st.1 p := rfl
        rw [e, hc.1.1.1.2] at hv
        exact ⟨hb, fun h => h, hv.1, hv.2, by simp only; omega, by rw [e9]; simp only; omega⟩
      · obtain ⟨a1, a2, a3, a4, a5, a6⟩ := visL_vb (r := r) (d := d) (f := vis r d) (fun p a b st h1 h2 h3 => ⟨vis_vb d p a b st h1 h2 h3, vis_len r d p a b st⟩) (p := p) low high (results r p) (-1000) st (fun x hx => hx) (by omega) (by omega) hb hn
        have h8 := results_8 hp
        have h8' : ((results r p).length : Int) * 9 ^ d ≤ 8 * 9 ^ d := Int.mul_le_mul_of_nonneg_right (by omega) (by omega)
        exact ⟨a1.sto ⟨a3, a4⟩, fun h => (a2 h).sto (by simp only; omega), a3, a4, a5, by rw [e9]; simp only; omega⟩
theorem visL_y {f : Pos → Int → Int → List Slo × Int → Int × List Slo × Int} {low high b : Int} {st X : List Slo × Int} {V : Int × List Slo × Int} {l : List Res} {k : Nat} {y : Res} (h : visL f low high b st (l.drop k) = V) (hy : l[k]? = some y) (hb : ¬ high ≤ b) :
    visL f low high (mx b (moveV y (f y.next (loV y low high b) (hiV y low high b) st).1)) (f y.next (loV y low high b) (hiV y low high b) st).2 (l.drop (k + 1)) = V := by
  rw [drop_some hy, visL, if_neg hb] at h; exact h
theorem visL_b {f : Pos → Int → Int → List Slo × Int → Int × List Slo × Int} {low high b : Int} {st : List Slo × Int} {V : Int × List Slo × Int} {l : List Res} {k : Nat} (h : visL f low high b st (l.drop k) = V) (hb : high ≤ b) : V = (b, st) := by
  cases hl : l.drop k with
  | nil => rw [hl, visL] at h; exact h.symm
  | cons y t => rw [hl, visL, if_pos hb] at h; exact h.symm
theorem visL_e {f : Pos → Int → Int → List Slo × Int → Int × List Slo × Int} {low high b : Int} {st : List Slo × Int} {V : Int × List Slo × Int} {l : List Res} {k : Nat} (h : visL f low high b st (l.drop k) = V) (hk : l.length ≤ k) : V = (b, st) := by
  rw [List.drop_eq_nil_of_le hk, visL] at h; exact h.symm
def okSI (r : Rul) (n : Nat) (i : Int) (s : Slo) : Bool := if s.used = true then okP r (posS s) && okCt s.depth s.value s.bound && decide (plc n s.pits s.player = i) else freeS s
theorem okSI_y {r : Rul} {n : Nat} {i : Int} {s : Slo} (h : s.used = true) : okSI r n i s = (okP r (posS s) && okCt s.depth s.value s.bound && decide (plc n s.pits s.player = i)) := by unfold okSI; rw [if_pos h]
theorem okSI_n {r : Rul} {n : Nat} {i : Int} {s : Slo} (h : s.used = false) : okSI r n i s = freeS s := by unfold okSI; rw [if_neg (by simp [h])]
theorem okM_no {m : Mem} {k : Nat} (h : k < m.slots.length) (hs : okSI m.rules m.slots.length k (slo m.slots k) = false) : okM m = false := by
  cases e : okM m with
  | false => rfl
  | true =>
    have h9 := (okM_parts e).2.2.2 k h
    rw [show okS m.rules m.slots.length k (slo m.slots k) = okSI m.rules m.slots.length k (slo m.slots k) from rfl, hs] at h9
    cases h9
theorem okM_r {m : Mem} (h : okR m.rules = false) : okM m = false := by unfold okM; rw [h]; rfl
theorem okM_l {m : Mem} (h : betw (m.slots.length : Int) 1 64 = false) : okM m = false := by unfold okM; rw [h]; cases okR m.rules <;> rfl
def sameS (a b : Slo) : Bool := (a.used == b.used) && decide (a.pits = b.pits) && decide (a.player = b.player) && decide (a.depth = b.depth) && decide (a.value = b.value) && decide (a.bound = b.bound)
theorem sameS_iff {a b : Slo} : sameS a b = true ↔ a = b := by
  unfold sameS
  simp only [Bool.and_eq_true, decide_eq_true_eq, beq_iff_eq]
  exact ⟨fun h => slo_ext h.1.1.1.1.1 h.1.1.1.1.2 h.1.1.1.2 h.1.1.2 h.1.2 h.2, fun h => by subst h; simp⟩
theorem takeS {l : List Slo} {k : Nat} (h : k < l.length) : l.take (k + 1) = l.take k ++ [slo l k] := by
  rw [List.take_add_one, slo_get h]; rfl
end Go.Proofs.YtmgnckfhghibeaaGreat.M

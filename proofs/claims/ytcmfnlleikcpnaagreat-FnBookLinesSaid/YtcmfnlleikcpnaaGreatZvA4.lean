/- Plain mathematics of moves: the board seen from the other side, with other stores. -/
import Derived.Test.YtcmfnlleikcpnaaGreatZvA3
import Derived.Test.YtcmfnlleikcpnaaGreatZvA1
set_option linter.unusedSimpArgs false
set_option linter.unusedVariables false
namespace Go.Proofs.YtcmfnlleikcpnaaGreat.M
def opl (r : Rul) (k : Int) : Int := if k < 0 then k else if k < r.pits then k + r.pits else k - r.pits
def rot (r : Rul) (l : List Int) : List Int := l.drop r.pits.toNat ++ l.take r.pits.toNat
def twS (d0 d1 : Int) (ss : List Int) : List Int := [nth ss 1 + d1, nth ss 0 + d0]
def twSw (r : Rul) (d0 d1 : Int) (s : Sw) : Sw := ⟨rot r s.pits, twS d0 d1 s.stores, opl r s.last, s.laps⟩
def twP (r : Rul) (d0 d1 : Int) (p : Pos) : Pos := ⟨rot r p.pits, twS d0 d1 p.stores, 1 - p.player⟩
def twR (r : Rul) (d0 d1 : Int) (x : Res) : Res := ⟨x.move, x.gain, x.again, twP r d0 d1 x.next⟩
theorem opl_neg {r : Rul} {k : Int} (h : k < 0) : opl r k = k := by unfold opl; rw [if_pos h]
theorem opl_lo {r : Rul} {k : Int} (h : 0 ≤ k) (h1 : k < r.pits) : opl r k = k + r.pits := by unfold opl; rw [if_neg (by omega), if_pos h1]
theorem opl_hi {r : Rul} {k : Int} (h : 0 ≤ k) (h1 : r.pits ≤ k) : opl r k = k - r.pits := by unfold opl; rw [if_neg (by omega), if_neg (by omega)]
theorem opl_cases (r : Rul) (k : Int) : (k < 0 ∧ opl r k = k) ∨ (0 ≤ k ∧ k < r.pits ∧ opl r k = k + r.pits) ∨ (0 ≤ k ∧ r.pits ≤ k ∧ opl r k = k - r.pits) := by
  by_cases h : k < 0
  · exact .inl ⟨h, opl_neg h⟩
  · by_cases h1 : k < r.pits
    · exact .inr (.inl ⟨by omega, h1, opl_lo (by omega) h1⟩)
    · exact .inr (.inr ⟨by omega, by omega, opl_hi (by omega) (by omega)⟩)
theorem rot_len (r : Rul) (l : List Int) : (rot r l).length = l.length := by simp [rot]; omega
theorem getI_rot {r : Rul} {l : List Int} (hl : (l.length : Int) = 2 * r.pits) {k : Int} (h0 : 0 ≤ k) (h1 : k < 2 * r.pits) : getI (rot r l) (opl r k) = getI l k := by
  unfold getI nth rot
  rw [List.getD_eq_getElem?_getD, List.getD_eq_getElem?_getD]
  rcases opl_cases r k with ⟨a, b⟩ | ⟨a, b, c⟩ | ⟨a, b, c⟩
  · omega
  · rw [c, List.getElem?_append_right (by simp; omega), List.getElem?_take_of_lt (by simp; omega)]
    congr 2; simp; omega
  · rw [c, List.getElem?_append_left (by simp; omega), List.getElem?_drop]
    congr 2; omega
theorem setI_rot {r : Rul} {l : List Int} (hl : (l.length : Int) = 2 * r.pits) {k : Int} (h0 : 0 ≤ k) (h1 : k < 2 * r.pits) (v : Int) : setI (rot r l) (opl r k) v = rot r (setI l k v) := by
  unfold setI rot
  rcases opl_cases r k with ⟨a, b⟩ | ⟨a, b, c⟩ | ⟨a, b, c⟩
  · omega
  · rw [c, List.set_append_right _ _ (by simp; omega), List.drop_set, if_pos (by omega), List.take_set]
    congr 2; simp; omega
  · have e : (List.take r.pits.toNat l).set k.toNat v = List.take r.pits.toNat l := List.set_eq_of_length_le (by simp; omega)
    rw [c, List.set_append_left _ _ (by simp; omega), List.drop_set, if_neg (by omega), List.take_set, e]
    congr 2; omega
theorem two_list {ss : List Int} (h : ss.length = 2) : ss = [nth ss 0, nth ss 1] := by
  match ss, h with
  | [a, b], _ => rfl
theorem twS_put {d0 d1 pl c : Int} {ss : List Int} (h : ss.length = 2) (hp : pl = 0 ∨ pl = 1) : setI (twS d0 d1 ss) (1 - pl) (getI (twS d0 d1 ss) (1 - pl) + c) = twS d0 d1 (setI ss pl (getI ss pl + c)) := by
  match ss, h with
  | [a, b], _ =>
    rcases hp with rfl | rfl
    · show [b + d1, a + d0 + c] = [b + d1, a + c + d0]
      rw [Int.add_right_comm]
    · show [b + d1 + c, a + d0] = [b + c + d1, a + d0]
      rw [Int.add_right_comm]
theorem twS_get {d0 d1 pl : Int} {ss : List Int} (hp : pl = 0 ∨ pl = 1) : getI (twS d0 d1 ss) (1 - pl) = getI ss pl + if pl = 0 then d0 else d1 := by
  rcases hp with rfl | rfl <;> rfl
theorem opl_bd {r : Rul} {k : Int} (hr : 2 ≤ r.pits) (h0 : -1 ≤ k) (h1 : k < 2 * r.pits) : -1 ≤ opl r k ∧ opl r k < 2 * r.pits := by
  rcases opl_cases r k with a | a | a <;> omega
theorem opl_inj {r : Rul} {a b : Int} (ha : -1 ≤ a) (ha1 : a < 2 * r.pits) (hb : -1 ≤ b) (hb1 : b < 2 * r.pits) (hr : 2 ≤ r.pits) : opl r a = opl r b ↔ a = b := by
  constructor
  · intro h
    rcases opl_cases r a with x | x | x <;> rcases opl_cases r b with y | y | y <;> omega
  · rintro rfl; rfl
theorem after_key {r : Rul} {k m A B : Int} (hr : 2 ≤ r.pits) (h0 : -1 ≤ k) (h1 : k < 2 * r.pits)
    (hA : (k = m - 1 ∧ r.stores = true ∧ A = -1) ∨ (¬ (k = m - 1 ∧ r.stores = true) ∧ ((k = -1 ∧ A = m % (2 * r.pits)) ∨ (0 ≤ k ∧ k + 1 = 2 * r.pits ∧ A = 0) ∨ (0 ≤ k ∧ k + 1 < 2 * r.pits ∧ A = k + 1))))
    (hB : (opl r k = 3 * r.pits - m - 1 ∧ r.stores = true ∧ B = -1) ∨ (¬ (opl r k = 3 * r.pits - m - 1 ∧ r.stores = true) ∧ ((opl r k = -1 ∧ B = (3 * r.pits - m) % (2 * r.pits)) ∨ (0 ≤ opl r k ∧ opl r k + 1 = 2 * r.pits ∧ B = 0) ∨ (0 ≤ opl r k ∧ opl r k + 1 < 2 * r.pits ∧ B = opl r k + 1))))
    (hm : m = r.pits ∨ m = 2 * r.pits) : B = opl r A := by
  have e1 : r.pits % (2 * r.pits) = r.pits := Int.emod_eq_of_lt (by omega) (by omega)
  have e2 : (2 * r.pits) % (2 * r.pits) = 0 := Int.emod_self
  have hk := opl_cases r k
  have hA' := opl_cases r A
  by_cases hs : r.stores = true
  · simp only [hs, true_and, and_true] at hA hB
    rcases hm with rfl | rfl
    · rw [show 3 * r.pits - r.pits = 2 * r.pits by omega, e2] at hB; rw [e1] at hA; omega
    · rw [show 3 * r.pits - 2 * r.pits = r.pits by omega, e1] at hB; rw [e2] at hA; omega
  · simp only [hs, Bool.false_eq_true, false_and, and_false, not_false_eq_true, true_and, false_or] at hA hB
    rcases hm with rfl | rfl
    · rw [show 3 * r.pits - r.pits = 2 * r.pits by omega, e2] at hB; rw [e1] at hA; omega
    · rw [show 3 * r.pits - 2 * r.pits = r.pits by omega, e1] at hB; rw [e2] at hA; omega
theorem after_c {r : Rul} {pl k : Int} (hr : 2 ≤ r.pits) (h0 : -1 ≤ k) (h1 : k < 2 * r.pits) :
    (k = (pl + 1) * r.pits - 1 ∧ r.stores = true ∧ after r pl k = -1) ∨ (¬ (k = (pl + 1) * r.pits - 1 ∧ r.stores = true) ∧ ((k = -1 ∧ after r pl k = ((pl + 1) * r.pits) % (2 * r.pits)) ∨ (0 ≤ k ∧ k + 1 = 2 * r.pits ∧ after r pl k = 0) ∨ (0 ≤ k ∧ k + 1 < 2 * r.pits ∧ after r pl k = k + 1))) := by
  unfold after
  by_cases h : k = (pl + 1) * r.pits - 1 ∧ r.stores = true
  · rw [if_pos h]; exact .inl ⟨h.1, h.2, rfl⟩
  · rw [if_neg h]
    refine .inr ⟨h, ?_⟩
    by_cases hk : k = -1
    · rw [if_pos hk]; exact .inl ⟨hk, rfl⟩
    · rw [if_neg hk]
      by_cases h2 : k + 1 = 2 * r.pits
      · exact .inr (.inl ⟨by omega, h2, by rw [h2, Int.emod_self]⟩)
      · exact .inr (.inr ⟨by omega, by omega, Int.emod_eq_of_lt (by omega) (by omega)⟩)
theorem after_tw {r : Rul} {pl k : Int} (hr : 2 ≤ r.pits) (hp : pl = 0 ∨ pl = 1) (h0 : -1 ≤ k) (h1 : k < 2 * r.pits) : after r (1 - pl) (opl r k) = opl r (after r pl k) := by
  have hb := opl_bd hr h0 h1
  have hA := after_c (pl := pl) hr h0 h1
  have hB := after_c (pl := 1 - pl) hr hb.1 hb.2
  have e : (1 - pl + 1) * r.pits = 3 * r.pits - (pl + 1) * r.pits := by
    rw [← Int.sub_mul]; congr 1; omega
  rw [e] at hB
  refine after_key hr h0 h1 hA hB ?_
  rcases hp with rfl | rfl
  · left; rw [Int.zero_add, Int.one_mul]
  · right; rfl
theorem nxt_tw {r : Rul} {pl frm k : Int} (hr : 2 ≤ r.pits) (h8 : r.pits ≤ 8) (hp : pl = 0 ∨ pl = 1) (f0 : 0 ≤ frm) (f1 : frm < 2 * r.pits) (h0 : -1 ≤ k) (h1 : k < 2 * r.pits) : nxt r (1 - pl) (opl r frm) (opl r k) = opl r (nxt r pl frm k) := by
  have ha := after_bd r h8 hr hp h0
  have e := after_tw hr hp h0 h1
  have e2 := after_tw hr hp (k := frm) (by omega) f1
  unfold nxt
  rw [e, e2]
  by_cases hs : r.skip = true ∧ after r pl k = frm
  · rw [if_pos hs, if_pos ⟨hs.1, by rw [hs.2]⟩]
  · rw [if_neg hs, if_neg (fun h => hs ⟨h.1, (opl_inj ha.1 ha.2 (by omega) f1 hr).1 h.2⟩)]
theorem sow_tw {r : Rul} {pl frm d0 d1 : Int} (hr : 2 ≤ r.pits) (h8 : r.pits ≤ 8) (hp : pl = 0 ∨ pl = 1) (f0 : 0 ≤ frm) (f1 : frm < 2 * r.pits) : ∀ (n : Nat) (place : Int) (ps ss path : List Int), -1 ≤ place → place < 2 * r.pits → (ps.length : Int) = 2 * r.pits → ss.length = 2 →
    sow r (1 - pl) (opl r frm) n (opl r place) (rot r ps) (twS d0 d1 ss) (path.map (opl r)) =
      (opl r (sow r pl frm n place ps ss path).1, rot r (sow r pl frm n place ps ss path).2.1, twS d0 d1 (sow r pl frm n place ps ss path).2.2.1, (sow r pl frm n place ps ss path).2.2.2.map (opl r))
  | 0, place, ps, ss, path, _, _, _, _ => rfl
  | n + 1, place, ps, ss, path, h0, h1, hl, hs => by
    have hn := nxt_bd r h8 hr hp (frm := frm) h0 f0
    have e := nxt_tw hr h8 hp f0 f1 h0 h1
    rw [sow_succ e, sow_succ rfl]
    have hm : ∀ x : Int, path.map (opl r) ++ [opl r x] = (path ++ [x]).map (opl r) := fun x => by simp
    by_cases hc : nxt r pl frm place < 0
    · rw [if_pos hc, if_pos (by rw [opl_neg hc]; exact hc), twS_put hs hp, hm]
      exact sow_tw hr h8 hp f0 f1 n _ _ _ _ hn.1 hn.2 hl (by simpa using hs)
    · have hb : ¬ opl r (nxt r pl frm place) < 0 := by rcases opl_cases r (nxt r pl frm place) with a | a | a <;> omega
      rw [if_neg hc, if_neg hb, getI_rot hl (by omega) hn.2, setI_rot hl (by omega) hn.2, hm]
      exact sow_tw hr h8 hp f0 f1 n _ _ _ _ hn.1 hn.2 (by simpa using hl) hs
theorem lap_tw {r : Rul} {pl frm d0 d1 : Int} {s : Sw} {path : List Int} (hr : 2 ≤ r.pits) (h8 : r.pits ≤ 8) (hp : pl = 0 ∨ pl = 1) (f0 : 0 ≤ frm) (f1 : frm < 2 * r.pits) (hG : Good r s.pits s.stores 0) :
    lap r (1 - pl) (opl r frm) (twSw r d0 d1 s) (path.map (opl r)) = (twSw r d0 d1 (lap r pl frm s path).1, (lap r pl frm s path).2.map (opl r)) := by
  have hl := hG.lp
  unfold lap twSw
  simp only
  rw [getI_rot hl f0 f1, setI_rot hl f0 f1, sow_tw hr h8 hp f0 f1 _ _ _ _ _ (by omega) f1 (by simpa using hl) hG.ls]
theorem more_tw {r : Rul} {d0 d1 : Int} {s : Sw} (hr : 2 ≤ r.pits) (hG : Good r s.pits s.stores 0) (h0 : -1 ≤ s.last) (h1 : s.last < 2 * r.pits) : more r (twSw r d0 d1 s) = more r s := by
  unfold more twSw
  simp only
  rcases opl_cases r s.last with ⟨a, b⟩ | ⟨a, b, c⟩ | ⟨a, b, c⟩
  · rw [decide_eq_false (p := 0 ≤ opl r s.last) (by omega), decide_eq_false (p := 0 ≤ s.last) (by omega)]; simp
  · rw [getI_rot hG.lp a h1, decide_eq_true (p := 0 ≤ opl r s.last) (by omega), decide_eq_true (p := 0 ≤ s.last) (by omega)]
  · rw [getI_rot hG.lp a h1, decide_eq_true (p := 0 ≤ opl r s.last) (by omega), decide_eq_true (p := 0 ≤ s.last) (by omega)]
theorem mv_tw {r : Rul} {pl d0 d1 : Int} (hr : 2 ≤ r.pits) (h8 : r.pits ≤ 8) (hp : pl = 0 ∨ pl = 1) : ∀ (n : Nat) (frm : Int) (s : Sw) (path : List Int), 0 ≤ frm → frm < 2 * r.pits → Good r s.pits s.stores 0 →
    mv r (1 - pl) n (opl r frm) (twSw r d0 d1 s) (path.map (opl r)) = (mv r pl n frm s path).map fun x => (twSw r d0 d1 x.1, x.2.map (opl r))
  | 0, _, _, _, _, _, _ => rfl
  | n + 1, frm, s, path, f0, f1, hG => by
    obtain ⟨a, b, c, _⟩ := lap_keeps r path h8 hr hp f0 f1 hG
    rw [mv, mv, lap_tw hr h8 hp f0 f1 hG]
    simp only
    rw [more_tw hr a b c]
    by_cases hm : more r (lap r pl frm s path).1 = true
    · rw [if_pos hm, if_pos hm]
      exact mv_tw hr h8 hp n _ _ _ (more_last hm) c a
    · rw [if_neg hm, if_neg hm]; rfl
theorem owner_lo {r : Rul} {k : Int} (h0 : 0 ≤ k) (h1 : k < r.pits) : owner r k = 0 := Int.ediv_eq_zero_of_lt h0 h1
theorem owner_hi {r : Rul} {k : Int} (h0 : r.pits ≤ k) (h1 : k < 2 * r.pits) : owner r k = 1 := by
  unfold owner
  have h := Int.add_mul_ediv_right (k - r.pits) 1 (c := r.pits) (by omega)
  rw [Int.one_mul, Int.sub_add_cancel] at h
  rw [h, Int.ediv_eq_zero_of_lt (a := k - r.pits) (by omega) (by omega)]; rfl
theorem owner_opl {r : Rul} {k : Int} (h0 : 0 ≤ k) (h1 : k < 2 * r.pits) : owner r (opl r k) = 1 - owner r k := by
  rcases opl_cases r k with ⟨a, b⟩ | ⟨a, b, c⟩ | ⟨a, b, c⟩
  · omega
  · rw [c, owner_lo a b, owner_hi (by omega) (by omega)]; rfl
  · rw [c, owner_hi b h1, owner_lo (by omega) (by omega)]; rfl
theorem ttI_tw {r : Rul} {pl : Int} {ps : List Int} (hr : 2 ≤ r.pits) (hp : pl = 0 ∨ pl = 1) (hl : (ps.length : Int) = 2 * r.pits) : ∀ (n : Nat) (k : Int), k.toNat = n → 0 ≤ k → k < 2 * r.pits → ttI r (1 - pl) (rot r ps) (opl r k) = (ttI r pl ps k).map (opl r) := by
  intro n
  induction n with
  | zero =>
    intro k hk h0 h1
    have hz : k = 0 := by omega
    subst hz
    by_cases hc : owner r 0 = pl ∨ betw (getI ps 0) 2 3 = false
    · rw [ttI_no hc, ttI_no ?_]; · rfl
      rcases hc with hc | hc
      · left; rw [owner_opl h0 h1, hc]
      · right; rw [getI_rot hl h0 h1]; exact hc
    · have h2 : owner r 0 ≠ pl := fun h => hc (.inl h)
      have h3 : betw (getI ps 0) 2 3 = true := by simpa using fun h => hc (.inr h)
      have ho := owner_lo (r := r) (k := 0) (by omega) (by omega)
      have hz : opl r 0 = r.pits := by rw [opl_lo (by omega) (by omega)]; omega
      rw [ttI_yes (k := 0) (by omega) h2 h3, ttI_yes (k := opl r 0) (by omega) (by rw [owner_opl h0 h1]; omega) (by rw [getI_rot hl h0 h1]; exact h3)]
      rw [ttI_neg (k := 0 - 1) (by omega), ttI_no (k := opl r 0 - 1)]
      · rfl
      · left; rw [hz, owner_lo (by omega) (by omega)]; omega
  | succ n ih =>
    intro k hk h0 h1
    by_cases hc : owner r k = pl ∨ betw (getI ps k) 2 3 = false
    · rw [ttI_no hc, ttI_no ?_]; · rfl
      rcases hc with hc | hc
      · left; rw [owner_opl h0 h1, hc]
      · right; rw [getI_rot hl h0 h1]; exact hc
    · have h2 : owner r k ≠ pl := fun h => hc (.inl h)
      have h3 : betw (getI ps k) 2 3 = true := by simpa using fun h => hc (.inr h)
      have hb : 0 ≤ opl r k := by rcases opl_cases r k with a | a | a <;> omega
      rw [ttI_yes (k := k) h0 h2 h3, ttI_yes (k := opl r k) hb (by rw [owner_opl h0 h1]; omega) (by rw [getI_rot hl h0 h1]; exact h3), List.map_cons]
      congr 1
      by_cases hn : k = r.pits
      · have ho := owner_hi (r := r) (k := k) (by omega) h1
        rw [ttI_neg (k := opl r k - 1) (by rw [opl_hi h0 (by omega)]; omega), ttI_no (k := k - 1) (.inl ?_)]
        · rfl
        · rw [owner_lo (by omega) (by omega)]; omega
      · rw [show opl r k - 1 = opl r (k - 1) by rcases opl_cases r k with a | a | a <;> rcases opl_cases r (k - 1) with b | b | b <;> omega]
        exact ih (k - 1) (by omega) (by omega) (by omega)
theorem opp_opl {r : Rul} {k : Int} (h0 : 0 ≤ k) (h1 : k < 2 * r.pits) : opp r (opl r k) = opl r (opp r k) := by
  unfold opp
  rcases opl_cases r k with a | a | a <;> rcases opl_cases r (2 * r.pits - 1 - k) with b | b | b <;> omega
theorem taken_tw {r : Rul} {pl d0 d1 : Int} {s : Sw} (hr : 2 ≤ r.pits) (hp : pl = 0 ∨ pl = 1) (hG : Good r s.pits s.stores 0) (h0 : -1 ≤ s.last) (h1 : s.last < 2 * r.pits) : taken r (twSw r d0 d1 s) (1 - pl) = (taken r s pl).map (opl r) := by
  have hl := hG.lp
  unfold taken
  by_cases hn : s.last < 0
  · rw [if_pos (show (twSw r d0 d1 s).last < 0 by show opl r s.last < 0; rw [opl_neg hn]; exact hn), if_pos hn]; rfl
  · have hb : ¬ opl r s.last < 0 := by rcases opl_cases r s.last with a | a | a <;> omega
    rw [if_neg (show ¬ (twSw r d0 d1 s).last < 0 from hb), if_neg hn]
    by_cases c1 : r.capture = 1
    · rw [if_pos c1, if_pos c1]
      have e := ttI_tw hr hp hl _ s.last rfl (by omega) h1
      unfold ttI at e
      rw [if_neg hn, if_neg hb] at e
      exact e
    · rw [if_neg c1, if_neg c1]
      have g1 : getI (twSw r d0 d1 s).pits (twSw r d0 d1 s).last = getI s.pits s.last := getI_rot hl (by omega) h1
      have o1 : owner r (twSw r d0 d1 s).last = 1 - owner r s.last := owner_opl (by omega) h1
      have p1 : opp r (twSw r d0 d1 s).last = opl r (opp r s.last) := opp_opl (by omega) h1
      have g2 : getI (twSw r d0 d1 s).pits (opl r (opp r s.last)) = getI s.pits (opp r s.last) := getI_rot hl (by unfold opp; omega) (by unfold opp; omega)
      rw [g1, o1, p1, g2]
      by_cases c2 : r.capture = 2
      · rw [if_pos c2, if_pos c2]
        by_cases c4 : owner r s.last = pl ∧ getI s.pits s.last = 1 ∧ 0 < getI s.pits (opp r s.last)
        · rw [if_pos c4, if_pos ⟨by omega, c4.2⟩]; rfl
        · rw [if_neg c4, if_neg (fun h => c4 ⟨by omega, h.2⟩)]; rfl
      · rw [if_neg c2, if_neg c2]
        by_cases c3 : r.capture = 3
        · rw [if_pos c3, if_pos c3]
          by_cases c4 : owner r s.last ≠ pl ∧ getI s.pits s.last % 2 = 0
          · rw [if_pos c4, if_pos ⟨by omega, c4.2⟩]; rfl
          · rw [if_neg c4, if_neg (fun h => c4 ⟨by omega, h.2⟩)]; rfl
        · rw [if_neg c3, if_neg c3]; rfl
theorem side_tw {r : Rul} {pl : Int} {ps : List Int} (hr : 2 ≤ r.pits) (hp : pl = 0 ∨ pl = 1) (hl : (ps.length : Int) = 2 * r.pits) : side r (rot r ps) (1 - pl) = side r ps pl := by
  unfold side rot
  rcases hp with rfl | rfl
  · rw [show ((1 : Int) - 0) * r.pits = r.pits by rw [Int.sub_zero, Int.one_mul], show ((0 : Int) * r.pits).toNat = 0 by simp, List.drop_zero, List.drop_append_of_le_length (by simp; omega), List.drop_eq_nil_of_le (by simp; omega), List.nil_append, List.take_take, Nat.min_self]
  · rw [show (((1 : Int) - 1) * r.pits).toNat = 0 by simp, show ((1 : Int) * r.pits) = r.pits by rw [Int.one_mul], List.drop_zero, List.take_append_of_le_length (by simp; omega)]
theorem gone_tw {r : Rul} {pl d0 d1 : Int} {s : Sw} (hG : Good r s.pits s.stores 0) : ∀ l : List Int, (∀ x ∈ l, 0 ≤ x ∧ x < 2 * r.pits) → gone r (twSw r d0 d1 s) (1 - pl) (l.map (opl r)) = gone r s pl l
  | [], _ => rfl
  | k :: l, h => by
    have hk := h k (by simp)
    rw [List.map_cons, gone_cons, gone_cons, gone_tw hG l (fun x hx => h x (by simp [hx])), owner_opl hk.1 hk.2]
    have g : getI (twSw r d0 d1 s).pits (opl r k) = getI s.pits k := getI_rot hG.lp hk.1 hk.2
    rw [g]
    by_cases e : owner r k = pl
    · rw [if_pos e, if_pos (by omega)]
    · rw [if_neg e, if_neg (by omega)]
theorem slams_tw {r : Rul} {pl d0 d1 : Int} {s : Sw} (hr : 2 ≤ r.pits) (hp : pl = 0 ∨ pl = 1) (hG : Good r s.pits s.stores 0) (h0 : -1 ≤ s.last) (h1 : s.last < 2 * r.pits) : slams r (twSw r d0 d1 s) (1 - pl) = slams r s pl := by
  unfold slams
  rw [taken_tw hr hp hG h0 h1, gone_tw hG _ (fun x hx => taken_mem h1 hx)]
  have e : side r (twSw r d0 d1 s).pits (1 - (1 - pl)) = side r s.pits (1 - pl) := side_tw hr (by omega) hG.lp
  rw [e]
theorem captured_tw {r : Rul} {pl d0 d1 : Int} {s : Sw} (hr : 2 ≤ r.pits) (hp : pl = 0 ∨ pl = 1) (hG : Good r s.pits s.stores 0) (h0 : -1 ≤ s.last) (h1 : s.last < 2 * r.pits) : captured r (twSw r d0 d1 s) (1 - pl) = (captured r s pl).map (opl r) := by
  unfold captured
  rw [slams_tw hr hp hG h0 h1, taken_tw hr hp hG h0 h1]
  split
  · rfl
  · rfl
theorem zeros_tw {r : Rul} : ∀ (l ps : List Int), (ps.length : Int) = 2 * r.pits → (∀ x ∈ l, 0 ≤ x ∧ x < 2 * r.pits) → zeros (l.map (opl r)) (rot r ps) = rot r (zeros l ps)
  | [], _, _, _ => rfl
  | k :: l, ps, hl, h => by
    have hk := h k (by simp)
    show zeros (l.map (opl r)) (setI (rot r ps) (opl r k) 0) = rot r (zeros l (setI ps k 0))
    rw [setI_rot hl hk.1 hk.2]
    exact zeros_tw l _ (by simpa using hl) (fun x hx => h x (by simp [hx]))
theorem take_tw {r : Rul} {pl d0 d1 : Int} {s : Sw} (hr : 2 ≤ r.pits) (hp : pl = 0 ∨ pl = 1) (hG : Good r s.pits s.stores 0) (h0 : -1 ≤ s.last) (h1 : s.last < 2 * r.pits) : take r (twSw r d0 d1 s) (1 - pl) = twSw r d0 d1 (take r s pl) := by
  have hm : ∀ x ∈ captured r s pl, 0 ≤ x ∧ x < 2 * r.pits := fun x hx => captured_mem h1 hx
  unfold take
  rw [captured_tw hr hp hG h0 h1]
  have e1 : (twSw r d0 d1 s).pits = rot r s.pits := rfl
  have e2 : (twSw r d0 d1 s).stores = twS d0 d1 s.stores := rfl
  have e3 : ((captured r s pl).map (opl r)).map (getI (rot r s.pits)) = (captured r s pl).map (getI s.pits) := by
    rw [List.map_map]
    exact List.map_congr_left fun x hx => getI_rot hG.lp (hm x hx).1 (hm x hx).2
  rw [e1, e2, e3, zeros_tw _ _ hG.lp hm, twS_put hG.ls hp]
  rfl
theorem twP_pit {r : Rul} {p : Pos} {d0 d1 move : Int} (hok : okP r p = true) (m0 : 0 ≤ move) (m1 : move < r.pits) : (twP r d0 d1 p).player * r.pits + move = opl r (p.player * r.pits + move) := by
  obtain ⟨b1, b2, b3, b4, b5, b6, b7⟩ := okP_bd hok
  show (1 - p.player) * r.pits + move = _
  rcases b7 with e | e <;> rw [e]
  · rw [opl_lo (by omega) (by omega)]; omega
  · rw [opl_hi (by omega) (by omega)]; omega
theorem mv_last {r : Rul} {pl frm : Int} {n : Nat} {path : List Int} (s t : Sw) (h1 : s.pits = t.pits) (h2 : s.stores = t.stores) (h3 : s.laps = t.laps) : mv r pl (n + 1) frm s path = mv r pl (n + 1) frm t path := by
  have e : lap r pl frm s path = lap r pl frm t path := by unfold lap; rw [h1, h2, h3]
  rw [mv, mv, e]
theorem sowMove_tw {r : Rul} {p : Pos} {d0 d1 : Int} (hok : okP r p = true) (hoq : okP r (twP r d0 d1 p) = true) (move : Int) :
    (sowMove r (twP r d0 d1 p) move).1 = (sowMove r p move).1 ∧ ((sowMove r p move).1 = 0 → (sowMove r (twP r d0 d1 p) move).2.1 = twSw r d0 d1 (sowMove r p move).2.1) := by
  obtain ⟨b1, b2, b3, b4, b5, b6, b7⟩ := okP_bd hok
  have hc : sowCode r (twP r d0 d1 p) move = sowCode r p move := by
    have c1 : ∀ x, okP r x = true → sowCode r x move = if betw move 0 (r.pits - 1) = false then 2 else if getI x.pits (x.player * r.pits + move) = 0 then 6 else 0 := fun x hx => by unfold sowCode; rw [if_neg (by simp [hx])]
    rw [c1 _ hok, c1 _ hoq]
    cases hb : betw move 0 (r.pits - 1)
    · rfl
    · obtain ⟨m0, m1⟩ := betw_iff.1 hb
      have e : getI (twP r d0 d1 p).pits (opl r (p.player * r.pits + move)) = getI p.pits (p.player * r.pits + move) := getI_rot b3 (by rcases b7 with e | e <;> rw [e] <;> omega) (by rcases b7 with e | e <;> rw [e] <;> omega)
      rw [twP_pit hok m0 (by omega), e]
  unfold sowMove
  rw [hc]
  by_cases hz : sowCode r p move = 0
  · rw [if_neg (by simpa using hz), if_neg (by simpa using hz)]
    obtain ⟨_, m0, m1, _⟩ := sowCode_ok hz
    have e := mv_tw (d0 := d0) (d1 := d1) b1 b2 b7 100 (p.player * r.pits + move) ⟨p.pits, p.stores, 0, 0⟩ [] (by rcases b7 with e | e <;> rw [e] <;> omega) (by rcases b7 with e | e <;> rw [e] <;> omega) (Good.of_ok hok)
    rw [← twP_pit (d0 := d0) (d1 := d1) hok m0 m1] at e
    have e2 : mv r (twP r d0 d1 p).player 100 ((twP r d0 d1 p).player * r.pits + move) ⟨(twP r d0 d1 p).pits, (twP r d0 d1 p).stores, 0, 0⟩ [] = (mv r p.player 100 (p.player * r.pits + move) ⟨p.pits, p.stores, 0, 0⟩ []).map fun x => (twSw r d0 d1 x.1, x.2.map (opl r)) := by
      exact (mv_last (n := 99) ⟨(twP r d0 d1 p).pits, (twP r d0 d1 p).stores, 0, 0⟩ (twSw r d0 d1 ⟨p.pits, p.stores, 0, 0⟩) rfl rfl rfl).trans e
    rw [e2]
    cases hmv : mv r p.player 100 (p.player * r.pits + move) ⟨p.pits, p.stores, 0, 0⟩ [] with
    | none => exact ⟨rfl, fun h => by simp at h⟩
    | some x => exact ⟨rfl, fun _ => rfl⟩
  · rw [if_pos hz, if_pos hz]; exact ⟨rfl, fun h => absurd h hz⟩
theorem done_tw {r : Rul} {p : Pos} {d0 d1 : Int} (hok : okP r p = true) (hoq : okP r (twP r d0 d1 p) = true) (move : Int) :
    (done r (twP r d0 d1 p) move).2 = (done r p move).2 ∧ ((done r p move).2 = 0 → (done r (twP r d0 d1 p) move).1 = twSw r d0 d1 (done r p move).1) := by
  obtain ⟨b1, b2, b3, b4, b5, b6, b7⟩ := okP_bd hok
  obtain ⟨e1, e2⟩ := sowMove_tw hok hoq move
  by_cases hz : (sowMove r p move).1 = 0
  · obtain ⟨_, _, _, hG, l0, l1, _⟩ := sowMove_ok hz
    have c1 : ∀ x, (sowMove r x move).1 = 0 → done r x move = if (decide (r.slam = 1) && slams r (sowMove r x move).2.1 x.player) || (mustFeed r x && decide (side r (take r (sowMove r x move).2.1 x.player).pits (1 - x.player) = 0)) then (Sw.zero, 9) else (take r (sowMove r x move).2.1 x.player, 0) := fun x hx => by unfold done; rw [if_neg (by simpa using hx)]
    rw [c1 _ hz, c1 _ (e1.trans hz), e2 hz]
    have f1 : slams r (twSw r d0 d1 (sowMove r p move).2.1) (twP r d0 d1 p).player = slams r (sowMove r p move).2.1 p.player := slams_tw b1 b7 hG l0 l1
    have f2 : take r (twSw r d0 d1 (sowMove r p move).2.1) (twP r d0 d1 p).player = twSw r d0 d1 (take r (sowMove r p move).2.1 p.player) := take_tw b1 b7 hG l0 l1
    have f3 : mustFeed r (twP r d0 d1 p) = mustFeed r p := by
      unfold mustFeed
      have : side r (twP r d0 d1 p).pits (1 - (twP r d0 d1 p).player) = side r p.pits (1 - p.player) := side_tw (pl := 1 - p.player) b1 (by omega) b3
      rw [this]
    have f4 : side r (twSw r d0 d1 (take r (sowMove r p move).2.1 p.player)).pits (1 - (twP r d0 d1 p).player) = side r (take r (sowMove r p move).2.1 p.player).pits (1 - p.player) := side_tw (pl := 1 - p.player) b1 (by omega) (take_keeps b7 hG l1).1.lp
    rw [f1, f2, f3, f4]
    split
    · exact ⟨rfl, fun h => by simp at h⟩
    · exact ⟨rfl, fun _ => rfl⟩
  · have c2 : ∀ x, (sowMove r x move).1 ≠ 0 → done r x move = (Sw.zero, (sowMove r x move).1) := fun x hx => by unfold done; rw [if_pos hx]
    rw [c2 _ hz, c2 _ (by rw [e1]; exact hz), e1]
    exact ⟨rfl, fun h => absurd h hz⟩
theorem make_tw {r : Rul} {p : Pos} {d0 d1 : Int} (hok : okP r p = true) (hoq : okP r (twP r d0 d1 p) = true) (move : Int) :
    (make r (twP r d0 d1 p) move).2 = (make r p move).2 ∧ ((make r p move).2 = 0 → (make r (twP r d0 d1 p) move).1 = twR r d0 d1 (make r p move).1) := by
  obtain ⟨b1, b2, b3, b4, b5, b6, b7⟩ := okP_bd hok
  obtain ⟨e1, e2⟩ := done_tw hok hoq move
  rw [make_code, make_code]
  refine ⟨e1, fun hz => ?_⟩
  obtain ⟨h1, h2⟩ := done_ok hz
  obtain ⟨_, _, _, hG, l0, l1, _⟩ := sowMove_ok h1
  have ht := (take_keeps b7 hG l1).1
  rw [← h2] at ht
  have hl : -1 ≤ (done r p move).1.last := by rw [h2]; exact l0
  rw [make_yes hz, make_yes (by rw [e1]; exact hz), e2 hz]
  have a1 : decide ((twSw r d0 d1 (done r p move).1).last = -1) = decide ((done r p move).1.last = -1) := by
    have : opl r (done r p move).1.last = -1 ↔ (done r p move).1.last = -1 := by rcases opl_cases r (done r p move).1.last with a | a | a <;> omega
    show decide (opl r (done r p move).1.last = -1) = _
    rw [decide_eq_decide]; exact this
  have g1 : getI (twSw r d0 d1 (done r p move).1).stores (twP r d0 d1 p).player - getI (twP r d0 d1 p).stores (twP r d0 d1 p).player = getI (done r p move).1.stores p.player - getI p.stores p.player := by
    show getI (twS d0 d1 _) (1 - p.player) - getI (twS d0 d1 _) (1 - p.player) = _
    rw [twS_get b7, twS_get b7]; omega
  unfold resOf
  simp only
  rw [a1, g1]
  unfold twR
  simp only
  congr 1
  unfold twP
  simp only
  congr 1
  split <;> omega
theorem rot_rot {r : Rul} {l : List Int} (hl : (l.length : Int) = 2 * r.pits) : rot r (rot r l) = l := by
  unfold rot
  rw [List.drop_append_of_le_length (by simp; omega), List.take_append_of_le_length (by simp; omega), @List.drop_eq_nil_of_le _ (List.drop r.pits.toNat l) _ (by simp; omega), List.nil_append, List.take_of_length_le (l := List.drop _ l) (by simp; omega), List.take_append_drop]
theorem turnP_tw {r : Rul} (p : Pos) : turnP r p = twP r 0 0 p := by
  unfold turnP twP twS rot
  simp
theorem isum_rot (r : Rul) (l : List Int) : isum (rot r l) = isum l := by
  unfold rot
  conv => rhs; rw [← List.take_append_drop r.pits.toNat l]
  rw [isum_append, isum_append]; omega
theorem allOk_rot {r : Rul} {l : List Int} (h : allOk l = true) : allOk (rot r l) = true := by
  unfold rot allOk at *
  rw [List.all_eq_true] at *
  intro x hx
  rcases List.mem_append.1 hx with hx | hx
  · exact h x (List.mem_of_mem_drop hx)
  · exact h x (List.mem_of_mem_take hx)
theorem okP_mk {r : Rul} {p q : Pos} (h : okP r p = true) (h1 : q.pits.length = p.pits.length) (h2 : q.stores.length = 2) (h3 : q.player = 0 ∨ q.player = 1) (h4 : allOk q.pits = true) (h5 : allOk q.stores = true) (h6 : isum q.pits + isum q.stores ≤ isum p.pits + isum p.stores) : okP r q = true := by
  have hs := okP_sum h
  have hr := okP_okR h
  obtain ⟨b1, b2, b3, b4, b5, b6, b7⟩ := okP_bd h
  unfold okP
  simp only [Bool.and_eq_true, decide_eq_true_eq, Bool.or_eq_true]
  exact ⟨⟨⟨⟨⟨⟨hr, by rw [h1]; exact b3⟩, h2⟩, h3⟩, h4⟩, h5⟩, by omega⟩
theorem okP_turn {r : Rul} {p : Pos} (h : okP r p = true) : okP r (turnP r p) = true := by
  obtain ⟨b1, b2, b3, b4, b5, b6, b7⟩ := okP_bd h
  have e := two_list b4
  have h1 := allOk_nth b6 0
  have h2 := allOk_nth b6 1
  have e2 : isum p.stores = nth p.stores 0 + nth p.stores 1 := by
    conv => lhs; rw [e]
    simp [nth]
  refine okP_mk h (rot_len r p.pits) rfl (by show 1 - p.player = 0 ∨ 1 - p.player = 1; omega) (allOk_rot b5) ?_ ?_
  · show allOk [nth p.stores 1, nth p.stores 0] = true
    unfold allOk
    simp only [List.all_cons, List.all_nil, Bool.and_true, Bool.and_eq_true]
    exact ⟨betw_iff.2 h2, betw_iff.2 h1⟩
  · show isum (rot r p.pits) + isum [nth p.stores 1, nth p.stores 0] ≤ _
    rw [isum_rot, e2]; simp; omega
def bare (p : Pos) : Pos := ⟨p.pits, [0, 0], p.player⟩
theorem okP_bare {r : Rul} {p : Pos} (h : okP r p = true) : okP r (bare p) = true := by
  obtain ⟨b1, b2, b3, b4, b5, b6, b7⟩ := okP_bd h
  have := (isum_bd b6).1
  exact okP_mk h rfl rfl b7 b5 (by show allOk [0, 0] = true; decide) (by show isum p.pits + isum [0, 0] ≤ _; simp; omega)
theorem bare_tw {r : Rul} {p : Pos} (h : okP r p = true) : bare p = twP r (-nth (turnP r p).stores 0) (-nth (turnP r p).stores 1) (turnP r p) := by
  obtain ⟨b1, b2, b3, b4, b5, b6, b7⟩ := okP_bd h
  unfold bare twP
  have e1 : rot r (turnP r p).pits = p.pits := rot_rot b3
  rw [e1]
  congr 1
  · unfold twS; simp [Int.add_right_neg]
  · show p.player = 1 - (1 - p.player); omega
theorem make_bare {r : Rul} {p : Pos} (h : okP r p = true) (m : Int) : (make r (bare p) m).2 = (make r p m).2 := by
  have ht := okP_turn h
  have hb := okP_bare h
  have e1 := (make_tw (d0 := 0) (d1 := 0) h (by rw [← turnP_tw]; exact ht) m).1
  rw [← turnP_tw] at e1
  rw [bare_tw h] at hb ⊢
  rw [(make_tw ht hb m).1, e1]
end Go.Proofs.YtcmfnlleikcpnaaGreat.M

namespace Go.Proofs.YtcmfnlleikcpnaaGreat.M
end Go.Proofs.YtcmfnlleikcpnaaGreat.M

namespace Go.Proofs.YtcmfnlleikcpnaaGreat.M
theorem runs_snoc (r : Rul) (m : Int) : ∀ (a : List Int) (p : Pos), (runs r p a).length = a.length → (make r (lastPos p (runs r p a)) m).2 = 0 → runs r p (a ++ [m]) = runs r p a ++ [(make r (lastPos p (runs r p a)) m).1]
  | [], p, _, h => by
    have h' : (make r p m).2 = 0 := h
    show (if (make r p m).2 = 0 then _ else _) = _
    rw [if_pos h']
    rfl
  | x :: xs, p, hl, h => by
    by_cases hz : (make r p x).2 = 0
    · have e : runs r p (x :: xs) = (make r p x).1 :: runs r (make r p x).1.next xs := by rw [runs, if_pos hz]
      rw [e] at hl h ⊢
      have := runs_snoc r m xs (make r p x).1.next (by simpa using hl) h
      rw [List.cons_append, runs, if_pos hz, this]
      rfl
    · rw [runs, if_neg hz] at hl; simp at hl
structure Played (g : Gam) (move : Int) : Prop where
  ok : okG (play g move).1 = true
  code : (make g.rules g.now move).2 = 0
  now : (play g move).1.now = (make g.rules g.now move).1.next
  back : undo (play g move).1 = (g, 0)
theorem played {g : Gam} {move : Int} (h : okG g = true) (hz : (play g move).2 = 0) : Played g move := by
  obtain ⟨k1, k2, k3, k4, k5, k6, k7, k8, k9⟩ := okG_parts h
  by_cases h1 : 0 ≤ g.resigned
  · rw [play_6 h1] at hz; simp at hz
  by_cases h2 : g.moves.length = 120
  · rw [play_5 h1 h2] at hz; simp at hz
  have h3 : (make g.rules g.now move).2 = 0 := Decidable.byContradiction fun h3 => by rw [play_c h1 h2 h3] at hz; exact h3 hz
  have hp := play_0 h1 h2 h3
  have hs := runs_snoc g.rules move g.moves g.start k8 (by rw [← k9]; exact h3)
  rw [← k9] at hs
  have hr : g.resigned = -1 := by omega
  have hok : okG (play g move).1 = true := by
    rw [hp]
    simp only [okG, Bool.and_eq_true, decide_eq_true_eq, hs]
    refine ⟨⟨⟨⟨k1, ?_⟩, betw_iff.2 ⟨k3, k4⟩⟩, ?_⟩, lastPos_snoc _ _ _⟩
    · simp; omega
    · simp [k8]
  refine ⟨hok, h3, by rw [hp], ?_⟩
  have hl : (play g move).1.moves.length = g.moves.length + 1 := by rw [hp]; simp
  have hrr : (play g move).1.resigned = -1 := by rw [hp]; exact hr
  rw [undo_0 hok (by omega), hl]
  have e : (((g.moves.length + 1 : Nat) : Int) - 1).toNat = g.moves.length := by omega
  rw [e]
  obtain ⟨j1, j2, j3, j4, j5, j6, j7, j8, j9⟩ := okG_parts hok
  have hn : (cutG (play g move).1 g.moves.length).now = g.now := by
    refine cutG_now ?_
    rw [j6, hp]
    show (hist g.start (runs g.rules g.start (g.moves ++ [move])))[g.moves.length]? = _
    rw [hs]
    have e2 : hist g.start (runs g.rules g.start g.moves ++ [(make g.rules g.now move).1]) = hist g.start (runs g.rules g.start g.moves) ++ [(make g.rules g.now move).1.next] := by simp [hist]
    rw [e2, List.getElem?_append_left (by simp [k8]), ← k8, hist_last, ← k9]
  refine Prod.ext (gam_ext ?_ ?_ ?_ hn ?_) rfl
  · rw [hp]; rfl
  · rw [hp]; rfl
  · rw [hp]; simp [cutG]
  · rw [hr]; rfl
end Go.Proofs.YtcmfnlleikcpnaaGreat.M

namespace Go.Proofs.YtcmfnlleikcpnaaGreat.M
def freshG (r : Rul) (p : Pos) : Gam := ⟨r, p, [], p, -1⟩
def fromG (r : Rul) (p : Pos) : Gam × Int := if okP r p = true then (freshG r p, 0) else (Gam.zero, 1)
theorem fromG_1 {r : Rul} {p : Pos} (h : okP r p = false) : fromG r p = (Gam.zero, 1) := by unfold fromG; rw [if_neg (by simp [h])]
theorem fromG_0 {r : Rul} {p : Pos} (h : okP r p = true) : fromG r p = (freshG r p, 0) := by unfold fromG; rw [if_pos h]
theorem fresh_ok {r : Rul} {p : Pos} (h : okP r p = true) : okG (freshG r p) = true := by
  unfold okG freshG
  simp [h, runs, lastPos, betw]
theorem fromG_small (r : Rul) (p : Pos) : Small (fromG r p).1 := by
  cases hp : okP r p
  · rw [fromG_1 hp]; exact Small.zero
  · rw [fromG_0 hp]; exact Small.ok (fresh_ok hp)
structure Resigned (g : Gam) (player : Int) : Prop where
  ok : okG (resign g player).1 = true
  play : playR (resign g player).1 0 = (Gam.zero, 6)
  endc : endC (resign g player).1 = 0
  win : winner (resign g player).1 = 1 - player
theorem resigned {g : Gam} {player : Int} (h : (resign g player).2 = 0) : Resigned g player := by
  cases hg : okG g
  · rw [resign_1 hg] at h; simp at h
  cases hp : isPl player
  · rw [resign_2 hg hp] at h; simp at h
  by_cases hr : 0 ≤ g.resigned
  · rw [resign_6 hg hp hr] at h; simp at h
  have e := resign_0 hg hp hr
  have hpl : player = 0 ∨ player = 1 := by simpa [isPl] using hp
  have hok : okG ⟨g.rules, g.start, g.moves, g.now, player⟩ = true := by
    unfold okG at hg ⊢
    simp only [Bool.and_eq_true] at hg ⊢
    obtain ⟨⟨⟨⟨a, b⟩, _⟩, d⟩, f⟩ := hg
    exact ⟨⟨⟨⟨a, b⟩, betw_iff.2 (by omega)⟩, d⟩, f⟩
  have h0 : 0 ≤ (⟨g.rules, g.start, g.moves, g.now, player⟩ : Gam).resigned := by show 0 ≤ player; omega
  have hc : endC ⟨g.rules, g.start, g.moves, g.now, player⟩ = 0 := endC_0 hok (by rw [endOf_1 h0]; decide)
  refine ⟨?_, ?_, ?_, ?_⟩ <;> rw [e]
  · exact hok
  · rw [playR_yes hok, play_6 h0]
  · exact hc
  · exact winner_r hc h0
end Go.Proofs.YtcmfnlleikcpnaaGreat.M

namespace Go.Proofs.YtcmfnlleikcpnaaGreat.M
structure BE (n : Nat) (es : List Ent) : Prop where
  len : es.length ≤ n
  sz : ∀ x ∈ es, 1 ≤ x.pits.length ∧ x.pits.length ≤ 16 ∧ 1 ≤ x.choices.length ∧ x.choices.length ≤ n
  eb : EB (2000000 * (n + 1)) es
theorem BE.nil (n : Nat) : BE n [] := ⟨by simp, fun x h => by simp at h, fun x h => by simp at h⟩
theorem BE.mono {m n : Nat} {es : List Ent} (h : BE m es) (hm : m ≤ n) : BE n es :=
  ⟨by have := h.len; omega, fun x hx => by have := h.sz x hx; omega, h.eb.mono (by omega)⟩
theorem addC_pos (cs : List Cho) (c : Cho) : 1 ≤ (addC cs c).length := by
  unfold addC; split
  · rename_i h; rw [List.length_set]; omega
  · simp only [List.append_assoc, List.length_append, List.length_cons, List.length_nil]; omega
theorem BE.step {n : Nat} {es : List Ent} {pits : List Int} {c : Cho} (h : BE n es) (p1 : 1 ≤ pits.length) (p2 : pits.length ≤ 16) (h0 : 0 ≤ c.games) (h1 : c.games ≤ 2000000) (h2 : 0 ≤ c.score) (h3 : c.score ≤ 2000000) : BE (n + 1) (addE es pits c) := by
  refine ⟨?_, fun x hx => ?_, ?_⟩
  · have := addE_len es pits c; have := h.len; omega
  · rcases addE_mem hx with hx | rfl | ⟨z, hz, rfl⟩
    · have := h.sz x hx; omega
    · exact ⟨p1, p2, by simp, by simp⟩
    · have a := h.sz z hz
      have b := addC_len z.choices c
      have d := addC_pos z.choices c
      exact ⟨p1, p2, d, by simp only; omega⟩
  · have := EB.add (pits := pits) h.eb h0 h1 h2 h3 (by omega)
    refine this.mono ?_
    push_cast
    omega
theorem BE.req {n : Nat} {es : List Ent} (h : BE n es) (hn : n ≤ 2000) : es.length ≤ 4194303 ∧ SzE 4194304 es ∧ EB 1000000000000000 es :=
  ⟨by have := h.len; omega, fun x hx => by have := h.sz x hx; omega, h.eb.mono (by omega)⟩
theorem totE_bound {n : Nat} : ∀ es : List Ent, (∀ x ∈ es, x.pits.length + x.choices.length ≤ n) → totE es ≤ es.length * n
  | [], _ => by simp [totE]
  | e :: es, h => by
    have h1 := totE_bound es (fun x hx => h x (by simp [hx]))
    have h2 := h e (by simp)
    rw [totE, List.length_cons, Nat.succ_mul]; omega
theorem BE.tot {n : Nat} {es : List Ent} (h : BE n es) (hn : n ≤ 500) : es.length + totE es ≤ 300000 := by
  have h1 := totE_bound (n := 516) es (fun x hx => by have := h.sz x hx; omega)
  have h2 := h.len
  have h3 : es.length * 516 ≤ 500 * 516 := Nat.mul_le_mul_right 516 (by omega)
  omega
theorem BE.snoc {n : Nat} {es : List Ent} {x : Ent} (h : BE n es) (p1 : 1 ≤ x.pits.length) (p2 : x.pits.length ≤ 16) (p3 : 1 ≤ x.choices.length) (p4 : x.choices.length ≤ 1) (p5 : ∀ y ∈ x.choices, 0 ≤ y.games ∧ y.games ≤ 2000000 ∧ 0 ≤ y.score ∧ y.score ≤ 2000000) : BE (n + 1) (es ++ [x]) := by
  refine ⟨by simp; exact h.len, fun y hy => ?_, fun y hy z hz => ?_⟩
  · rcases List.mem_append.1 hy with hy | hy
    · have := h.sz y hy; omega
    · rw [List.mem_singleton.1 hy]; omega
  · rcases List.mem_append.1 hy with hy | hy
    · have := h.eb y hy z hz
      push_cast
      omega
    · rw [List.mem_singleton.1 hy] at hz
      have := p5 z hz
      push_cast
      omega
theorem turnP_len (r : Rul) (p : Pos) : (turnP r p).pits.length = p.pits.length := by simp [turnP]; omega
theorem std3 {x : List UInt8} (h : x ∈ ([[109, 105, 110, 105], [114, 101, 108, 97, 121], [107, 97, 108, 97, 104]] : List (List UInt8))) : x ∈ stdNames := by
  simp only [List.mem_cons, List.not_mem_nil, or_false] at h
  unfold stdNames
  rcases h with rfl | rfl | rfl <;> simp
theorem totE_set : ∀ (es : List Ent) (k : Nat) (x : Ent), totE (es.set k x) ≤ totE es + x.pits.length + x.choices.length
  | [], _, _ => by simp [totE]
  | e :: es, 0, x => by simp [totE]; omega
  | e :: es, k + 1, x => by have := totE_set es k x; rw [List.set_cons_succ, totE, totE]; omega
theorem bent_set {es : List Ent} {k : Nat} {x : Ent} (h : es.length + totE es ≤ 300000) (hx : x.pits.length + x.choices.length ≤ 4000) : (es.set k x).length + totE (es.set k x) ≤ 400000 := by
  have := totE_set es k x
  rw [List.length_set]; omega
theorem bent_drop {es : List Ent} (h : es.length + totE es ≤ 300000) (k : Nat) : (es.drop k).length + totE (es.drop k) ≤ 400000 := by
  have h1 : totE es = totE (es.take k) + totE (es.drop k) := by rw [← totE_app, List.take_append_drop]
  rw [List.length_drop]; omega
theorem bent_app {es : List Ent} {x : Ent} (h : es.length + totE es ≤ 300000) (hx : x.pits.length + x.choices.length ≤ 4000) : (es ++ [x]).length + totE (es ++ [x]) ≤ 400000 := by
  rw [totE_app, List.length_append, totE, totE, List.length_singleton]; omega
def Gro (a b : List Ent) (k : Int) : Prop := ∀ n : Nat, BE n a → BE (n + k.toNat) b
theorem Gro.refl (a : List Ent) : Gro a a 0 := fun n h => h
theorem Gro.refl' (a : List Ent) {k : Int} (hk : 0 ≤ k) : Gro a a k := fun n h => h.mono (by omega)
theorem Gro.step {a b : List Ent} {pits : List Int} {c : Cho} {k : Int} (h : Gro a b k) (hk : 0 ≤ k) (p1 : 1 ≤ pits.length) (p2 : pits.length ≤ 16) (h0 : 0 ≤ c.games) (h1 : c.games ≤ 2000000) (h2 : 0 ≤ c.score) (h3 : c.score ≤ 2000000) : Gro a (addE b pits c) (k + 1) := fun n hn => by
  have := (h n hn).step p1 p2 h0 h1 h2 h3
  rw [show n + (k + 1).toNat = n + k.toNat + 1 by omega]; exact this
theorem Gro.mono {a b : List Ent} {k j : Int} (h : Gro a b k) (hj : k ≤ j) : Gro a b j := fun n hn => (h n hn).mono (by omega)
theorem Gro.trans {a b c : List Ent} {k j : Int} (h : Gro a b k) (g : Gro b c j) (hk : 0 ≤ k) (hj : 0 ≤ j) : Gro a c (k + j) := fun n hn => by
  have := g _ (h n hn)
  rw [show n + (k + j).toNat = n + k.toNat + j.toNat by omega]; exact this
structure GI (r : Rul) (g : Gam) : Prop where
  ru : g.rules = r
  sp : g.start.pits.length ≤ 16
  ss : g.start.stores.length ≤ 2
  m : g.moves.length ≤ 120
  np : (g.now.pits.length : Int) = 2 * r.pits
  ns : g.now.stores.length = 2
theorem GI.play {r : Rul} {g : Gam} {move : Int} (h : GI r g) (hz : (play g move).2 = 0) : GI r (play g move).1 := by
  have hm := h.m
  by_cases h1 : 0 ≤ g.resigned
  · rw [play_6 h1] at hz; simp at hz
  by_cases h2 : g.moves.length = 120
  · rw [play_5 h1 h2] at hz; simp at hz
  have h3 : (make g.rules g.now move).2 = 0 := Decidable.byContradiction fun h3 => by rw [play_c h1 h2 h3] at hz; exact h3 hz
  rw [play_0 h1 h2 h3]
  have ho := okP_bd (make_ok h3).2.2.2.1
  exact ⟨h.ru, h.sp, h.ss, by simp; omega, by rw [← h.ru]; exact ho.2.2.1, ho.2.2.2.1⟩
theorem newB_len (r : Rul) : (newB r).1.entries.length = 0 := by
  cases h : okR r
  · rw [newB_1 h]; rfl
  · rw [newB_0 h]; rfl
theorem newB_sz (r : Rul) : ∀ x ∈ (newB r).1.entries, x.pits.length ≤ 4194304 ∧ x.choices.length ≤ 4194304 := fun x hx => by
  rw [List.eq_nil_of_length_eq_zero (newB_len r)] at hx; simp at hx
theorem view_bare {r : Rul} {p : Pos} (h : okP r p = true) : posE (viewP r p).pits = bare (if p.player = 0 then p else turnP r p) := by
  obtain ⟨b1, b2, b3, b4, b5, b6, b7⟩ := okP_bd h
  unfold viewP bare posE
  by_cases hp : p.player = 0
  · rw [if_pos hp, hp]
  · rw [if_neg hp]
    congr 1
    show (0 : Int) = 1 - p.player
    omega
theorem make_view {r : Rul} {p : Pos} (h : okP r p = true) (m : Int) : (make r (posE (viewP r p).pits) m).2 = (make r p m).2 := by
  rw [view_bare h]
  by_cases hp : p.player = 0
  · rw [if_pos hp]; exact make_bare h m
  · rw [if_neg hp, make_bare (okP_turn h)]
    have ht := okP_turn h
    rw [turnP_tw] at ht ⊢
    exact (make_tw h ht m).1
theorem cbF_mem : ∀ (l : List Cho) (b : Cho), cbF b l = b ∨ cbF b l ∈ l
  | [], b => .inl rfl
  | c :: l, b => by
    rw [cbF]
    rcases cbF_mem l (if better c b = true then c else b) with h | h
    · rw [h]; split
      · exact .inr (by simp)
      · exact .inl rfl
    · exact .inr (by simp [h])
theorem cbest_mem {l : List Cho} (h : 0 < l.length) : cbest l ∈ l := by
  unfold cbest
  rcases cbF_mem l (cho l 0) with e | e
  · rw [e]; exact cho_mem h
  · exact e
def leC (a b : Cho) : Prop := a.score * b.games ≤ b.score * a.games
theorem leC_refl (a : Cho) : leC a a := Int.le_refl _
theorem leC_trans {a b c : Cho} (hb : 0 < b.games) (ha : 0 ≤ a.games) (hc : 0 ≤ c.games) (h1 : leC a b) (h2 : leC b c) : leC a c := by
  unfold leC at *
  have h3 := Int.mul_le_mul_of_nonneg_right h1 hc
  have h4 := Int.mul_le_mul_of_nonneg_right h2 ha
  refine Int.le_of_mul_le_mul_right (a := b.games) ?_ hb
  have e1 : a.score * c.games * b.games = a.score * b.games * c.games := by rw [Int.mul_assoc, Int.mul_assoc, Int.mul_comm c.games]
  have e2 : b.score * a.games * c.games = b.score * c.games * a.games := by rw [Int.mul_assoc, Int.mul_assoc, Int.mul_comm a.games]
  have e3 : c.score * a.games * b.games = c.score * b.games * a.games := by rw [Int.mul_assoc, Int.mul_assoc, Int.mul_comm a.games]
  rw [e1, e3]
  rw [e2] at h3
  exact Int.le_trans h3 h4
theorem leC_better {c b : Cho} (h : better c b = false) : leC c b := by
  unfold better at h; unfold leC
  simp only [Bool.or_eq_false_iff, decide_eq_false_iff_not] at h
  omega
theorem leC_better2 {c b : Cho} (h : better c b = true) : leC b c := by
  unfold better at h; unfold leC
  simp only [Bool.or_eq_true, Bool.and_eq_true, decide_eq_true_eq] at h
  rcases h with h | h
  · omega
  · omega
theorem cbF_le : ∀ (l : List Cho) (b : Cho), (∀ x ∈ l, 1 ≤ x.games) → 1 ≤ b.games → leC b (cbF b l) ∧ ∀ x ∈ l, leC x (cbF b l)
  | [], b, _, _ => ⟨leC_refl b, fun x h => by simp at h⟩
  | c :: l, b, h, hb => by
    have hc := h c (by simp)
    have hl : ∀ x ∈ l, 1 ≤ x.games := fun x hx => h x (by simp [hx])
    rw [cbF]
    by_cases hq : better c b = true
    · rw [if_pos hq]
      obtain ⟨h1, h2⟩ := cbF_le l c hl hc
      have hm : 1 ≤ (cbF c l).games := by
        rcases cbF_mem l c with e | e
        · rw [e]; exact hc
        · exact hl _ e
      refine ⟨leC_trans (b := c) (by omega) (by omega) (by omega) (leC_better2 hq) h1, fun x hx => ?_⟩
      rcases List.mem_cons.1 hx with rfl | hx
      · exact h1
      · exact h2 x hx
    · rw [if_neg hq]
      obtain ⟨h1, h2⟩ := cbF_le l b hl hb
      have hm : 1 ≤ (cbF b l).games := by
        rcases cbF_mem l b with e | e
        · rw [e]; exact hb
        · exact hl _ e
      refine ⟨h1, fun x hx => ?_⟩
      rcases List.mem_cons.1 hx with rfl | hx
      · exact leC_trans (b := b) (by omega) (by omega) (by omega) (leC_better (by simpa using hq)) h1
      · exact h2 x hx
theorem cbest_le {l : List Cho} (h : ∀ x ∈ l, 1 ≤ x.games) (h0 : 0 < l.length) : ∀ x ∈ l, leC x (cbest l) :=
  (cbF_le l _ h (h _ (cho_mem h0))).2
def RiseC (l : List Cho) : Prop := ∀ i j, i < j → j < l.length → (cho l i).move < (cho l j).move
theorem riseC_of {r : Rul} {p : Pos} {cs : List Cho} (h : okCs r p cs = true) : RiseC cs := by
  intro i j hij hj
  induction j with
  | zero => omega
  | succ j ih =>
    have h1 : (cho cs j).move < (cho cs (j + 1)).move := by
      have := all_at h hj
      unfold chAt at this
      simp only [Bool.and_eq_true, Bool.or_eq_true, decide_eq_true_eq] at this
      rcases this.1.1.1 with h0 | h0
      · omega
      · exact h0
    by_cases e : i = j
    · rw [e]; exact h1
    · have := ih (by omega) (by omega); omega
theorem riseC_inj {l : List Cho} (h : RiseC l) {i j : Nat} (hi : i < l.length) (hj : j < l.length) (e : (cho l i).move = (cho l j).move) : i = j := by
  rcases Nat.lt_trichotomy i j with h1 | h1 | h1
  · have := h i j h1 hj; omega
  · exact h1
  · have := h j i h1 hi; omega
def lastC (l : List Cho) (m : Int) : Nat → Cho
  | 0 => Cho.zero
  | k + 1 => if (cho l k).move = m then cho l k else lastC l m k
theorem lastC_at {l : List Cho} (h : RiseC l) {j : Nat} (hj : j < l.length) : ∀ k, k ≤ l.length → j < k → lastC l (cho l j).move k = cho l j
  | 0, _, h0 => by omega
  | k + 1, hk, h0 => by
    rw [lastC]
    by_cases e : j = k
    · subst e; rw [if_pos rfl]
    · rw [if_neg (fun h1 => e (riseC_inj h hj (by omega) h1.symm))]
      exact lastC_at h hj k (by omega) (by omega)
theorem look_facts {b : Boo} {p : Pos} (h : lookC b p = 0) : ∃ l, lookR b p = l ∧ 0 < l.length ∧ RiseC l ∧ ChoB l ∧ chooseR b p = (cbest l).move ∧ lastC l (cbest l).move l.length = cbest l ∧ ∀ x ∈ l, leC x (cbest l) := by
  obtain ⟨h1, h2⟩ := lookC_ok h
  have hb := lookE_b h1.1 (viewP b.rules p).pits
  refine ⟨lookE b.entries (viewP b.rules p).pits, lookR_yes h1, by omega, ?_, hb, chooseR_0 h, ?_, cbest_le (fun x hx => (hb x hx).1) (by omega)⟩
  · rcases lookE_ok (pits := (viewP b.rules p).pits) (okB_all h1.1) with e | ⟨x, hx, _, e⟩
    · rw [e]; intro i j _ hj; simp at hj
    · rw [e]; exact riseC_of (okE_parts (okB_all h1.1 x hx)).2.2
  · have hr : RiseC (lookE b.entries (viewP b.rules p).pits) := by
      rcases lookE_ok (pits := (viewP b.rules p).pits) (okB_all h1.1) with e | ⟨x, hx, _, e⟩
      · rw [e]; intro i j _ hj; simp at hj
      · rw [e]; exact riseC_of (okE_parts (okB_all h1.1 x hx)).2.2
    obtain ⟨j, hj, e⟩ := List.getElem_of_mem (cbest_mem (l := lookE b.entries (viewP b.rules p).pits) (by omega))
    have e2 : cho (lookE b.entries (viewP b.rules p).pits) j = cbest (lookE b.entries (viewP b.rules p).pits) := by rw [← e]; simp [cho, List.getD, hj]
    rw [← e2]
    exact lastC_at hr hj _ (Nat.le_refl _) hj
theorem book_legal {b : Boo} {q : Pos} (hb : okB b = true) (hq : okP b.rules q = true) (h0 : ¬ (lkB b q).length = 0) : (make b.rules q (cbest (lkB b q)).move).2 = 0 := by
  rw [← make_view hq]
  have hm := cbest_mem (l := lkB b q) (by omega)
  rcases lookE_ok (pits := (viewP b.rules q).pits) (okB_all hb) with e | ⟨x, hx, e1, e2⟩
  · exact absurd (by show (lookE b.entries (viewP b.rules q).pits).length = 0; rw [e]; rfl) h0
  · have hcs := (okE_parts (okB_all hb x hx)).2.2
    have hm2 : cbest (lkB b q) ∈ x.choices := by rw [← e2]; exact hm
    obtain ⟨i, hi⟩ := List.mem_iff_getElem?.1 hm2
    have hil := (List.getElem?_eq_some_iff.1 hi).1
    have := all_at hcs hil
    unfold chAt at this
    simp only [Bool.and_eq_true, decide_eq_true_eq] at this
    rw [show cho x.choices i = cbest (lkB b q) by simp [cho, List.getD, hi], e1] at this
    exact this.1.1.2
theorem bookL_legal {b : Boo} (hb : okB b = true) : ∀ (n : Nat) (q : Pos), okP b.rules q = true → (runs b.rules q (bookL b n q)).length = (bookL b n q).length
  | 0, q, _ => rfl
  | n + 1, q, hq => by
    rw [bookL]
    by_cases h0 : (lkB b q).length = 0
    · rw [if_pos h0]; rfl
    · rw [if_neg h0]
      have hz := book_legal hb hq h0
      rw [runs, if_pos hz, List.length_cons, List.length_cons, bookL_legal hb n _ (make_ok hz).2.2.2.1]
theorem plays_all : ∀ (ms : List Int) (g : Gam), g.resigned = -1 → g.moves.length + ms.length ≤ 120 → (runs g.rules g.now ms).length = ms.length → (plays g ms).2 = ms.length
  | [], g, _, _, _ => rfl
  | m :: ms, g, hr, hl, h => by
    rw [List.length_cons] at hl
    by_cases hz : (make g.rules g.now m).2 = 0
    · rw [runs, if_pos hz, List.length_cons, List.length_cons] at h
      have hp := play_0 (g := g) (move := m) (by omega) (by omega) hz
      have h2 : (play g m).2 = 0 := by rw [hp]
      rw [plays, if_pos h2, List.length_cons]
      have := plays_all ms (play g m).1 (by rw [hp]; exact hr) (by rw [hp]; simp; omega) (by rw [hp]; simp only; omega)
      rw [this]
    · rw [runs, if_neg hz, List.length_cons, List.length_nil] at h; omega
theorem line_plays {b : Boo} {q : Pos} {n : Int} (h : blC b q n = 0) : (fromG b.rules q).2 = 0 ∧ (playsR (fromG b.rules q).1 (blR b q n)).2.2 = 0 ∧ (playsR (fromG b.rules q).1 (blR b q n)).2.1 = (blR b q n).length ∧ ((blR b q n).length : Int) ≤ n := by
  by_cases h1 : okB b = true ∧ okP b.rules q = true
  · cases h2 : betw n 0 20
    · rw [(bl_2 h1 h2).2] at h; omega
    · have hn := betw_iff.1 h2
      have hl := bookL_len b n.toNat q
      rw [(bl_0 h1 h2).1, fromG_0 h1.2, playsR_yes (fresh_ok h1.2)]
      refine ⟨rfl, rfl, plays_all _ (freshG b.rules q) rfl (by show 0 + _ ≤ 120; omega) (bookL_legal h1.1 _ _ h1.2), by omega⟩
  · rw [(bl_no h1).2] at h; omega
end Go.Proofs.YtcmfnlleikcpnaaGreat.M


/- Plain mathematics of what the laws of games say. -/
import Derived.Test.YtejnmechnhgmfaaZpM8
set_option linter.unusedSimpArgs false
set_option linter.unusedVariables false
namespace Go.Proofs.Ytejnmechnhgmfaa.M
def sameG (a b : Gam) : Bool := decide (a = b)
theorem sameG_refl (a : Gam) : sameG a a = true := by simp [sameG]
theorem sameP_of {a b : Pos} (h : a = b) : sameP a b = true := sameP_true.2 h
theorem sameG_eq (a b : Gam) : sameG a b = (decide (a.rules = b.rules) && sameP a.start b.start && decide (a.moves = b.moves) && sameP a.now b.now && decide (a.resigned = b.resigned)) := by
  obtain ⟨a1, a2, a3, a4, a5⟩ := a
  obtain ⟨b1, b2, b3, b4, b5⟩ := b
  simp only [sameG, sameP_eq, Gam.mk.injEq]
  rw [Bool.eq_iff_iff]
  simp [and_assoc]
theorem runs_snoc (r : Rul) (m : Int) : ∀ (a : List Int) (p : Pos), (runs r p a).length = a.length → (make r (lastPos p (runs r p a)) m).2 = 0 → runs r p (a ++ [m]) = runs r p a ++ [(make r (lastPos p (runs r p a)) m).1]
  | [], p, _, h => by
    have h' : (make r p m).2 = 0 := h
    show (if (make r p m).2 = 0 then _ else _) = _
    rw [if_pos h']
    rfl
  | x :: xs, p, hl, h => by
    by_cases hz : (make r p x).2 = 0
    · have e : runs r p (x :: xs) = (make r p x).1 :: runs r (make r p x).1.next xs := by rw [runs, if_pos hz]
      rw [e] at hl h ⊢
      have := runs_snoc r m xs (make r p x).1.next (by simpa using hl) h
      rw [List.cons_append, runs, if_pos hz, this]
      rfl
    · rw [runs, if_neg hz] at hl; simp at hl
structure Played (g : Gam) (move : Int) : Prop where
  ok : okG (play g move).1 = true
  code : (make g.rules g.now move).2 = 0
  now : (play g move).1.now = (make g.rules g.now move).1.next
  back : undo (play g move).1 = (g, 0)
theorem played {g : Gam} {move : Int} (h : okG g = true) (hz : (play g move).2 = 0) : Played g move := by
  obtain ⟨k1, k2, k3, k4, k5, k6, k7, k8, k9⟩ := okG_parts h
  by_cases h1 : 0 ≤ g.resigned
  · rw [play_6 h1] at hz; simp at hz
  by_cases h2 : g.moves.length = 120
  · rw [play_5 h1 h2] at hz; simp at hz
  have h3 : (make g.rules g.now move).2 = 0 := Decidable.byContradiction fun h3 => by rw [play_c h1 h2 h3] at hz; exact h3 hz
  have hp := play_0 h1 h2 h3
  have hs := runs_snoc g.rules move g.moves g.start k8 (by rw [← k9]; exact h3)
  rw [← k9] at hs
  have hr : g.resigned = -1 := by omega
  have hok : okG (play g move).1 = true := by
    rw [hp]
    simp only [okG, Bool.and_eq_true, decide_eq_true_eq, hs]
    refine ⟨⟨⟨⟨k1, ?_⟩, betw_iff.2 ⟨k3, k4⟩⟩, ?_⟩, lastPos_snoc _ _ _⟩
    · simp; omega
    · simp [k8]
  refine ⟨hok, h3, by rw [hp], ?_⟩
  have hl : (play g move).1.moves.length = g.moves.length + 1 := by rw [hp]; simp
  have hrr : (play g move).1.resigned = -1 := by rw [hp]; exact hr
  rw [undo_0 hok (by omega), hl]
  have e : (((g.moves.length + 1 : Nat) : Int) - 1).toNat = g.moves.length := by omega
  rw [e]
  obtain ⟨j1, j2, j3, j4, j5, j6, j7, j8, j9⟩ := okG_parts hok
  have hn : (cutG (play g move).1 g.moves.length).now = g.now := by
    refine cutG_now ?_
    rw [j6, hp]
    show (hist g.start (runs g.rules g.start (g.moves ++ [move])))[g.moves.length]? = _
    rw [hs]
    have e2 : hist g.start (runs g.rules g.start g.moves ++ [(make g.rules g.now move).1]) = hist g.start (runs g.rules g.start g.moves) ++ [(make g.rules g.now move).1.next] := by simp [hist]
    rw [e2, List.getElem?_append_left (by simp [k8]), ← k8, hist_last, ← k9]
  refine Prod.ext (gam_ext ?_ ?_ ?_ hn ?_) rfl
  · rw [hp]; rfl
  · rw [hp]; rfl
  · rw [hp]; simp [cutG]
  · rw [hr]; rfl
theorem playedOf {g : Gam} {move : Int} (hz : (playR g move).2 = 0) : okG g = true ∧ playR g move = play g move ∧ (play g move).2 = 0 ∧ Played g move := by
  cases h : okG g
  · rw [playR_no h] at hz; simp at hz
  · have e := playR_yes (move := move) h
    rw [e] at hz
    exact ⟨rfl, e, hz, played h hz⟩
theorem undone {g : Gam} (hz : (undo g).2 = 0) : okG g = true ∧ 1 ≤ g.moves.length ∧ playR (undo g).1 (nth g.moves (g.moves.length - 1)) = (g, 0) := by
  cases h : okG g
  · rw [undo_1 h] at hz; simp at hz
  by_cases h2 : g.moves.length = 0 ∨ 0 ≤ g.resigned
  · rw [undo_6 h h2] at hz; simp at hz
  obtain ⟨k1, k2, k3, k4, k5, k6, k7, k8, k9⟩ := okG_parts h
  have hl : 1 ≤ g.moves.length := by omega
  refine ⟨rfl, hl, ?_⟩
  rw [undo_0 h h2]
  have e : ((g.moves.length : Int) - 1).toNat = g.moves.length - 1 := by omega
  rw [e, playR_yes (cut_ok h (by omega)), cut_play h (by omega)]
  have e3 : g.moves.length - 1 + 1 = g.moves.length := by omega
  rw [e3]
  refine Prod.ext ?_ rfl
  have hr : g.resigned = -1 := by omega
  have ha := cut_all h
  rw [hr] at ha
  exact ha
end Go.Proofs.Ytejnmechnhgmfaa.M

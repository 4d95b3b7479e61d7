/- Plain mathematics of the ends of games. -/
import Derived.Test.YtejnmechnhgmfaaZpM4
set_option linter.unusedSimpArgs false
set_option linter.unusedVariables false
namespace Go.Proofs.Ytejnmechnhgmfaa.M
def all (p : Pos) : Int := isum p.pits + isum p.stores
def majority (p : Pos) : Int := if all p < 2 * getI p.stores 0 then 0 else if all p < 2 * getI p.stores 1 then 1 else -1
def setT (r : Rul) (p : Pos) : Nat → List Int
  | 0 => p.stores
  | k + 1 => setI (setT r p k) k (getI (setT r p k) k + side r p.pits k)
@[simp] theorem setT_length (r : Rul) (p : Pos) : ∀ k, (setT r p k).length = p.stores.length
  | 0 => rfl
  | k + 1 => by rw [setT, setI_length]; exact setT_length r p k
def endOf (g : Gam) : Int :=
  if 0 ≤ g.resigned then 1 else if 0 ≤ majority g.now then 2 else if (results g.rules g.now).length = 0 then 3 else if 3 ≤ count g.now (playedP g) then 4 else if g.moves.length = 120 then 5 else 0
def okC (g : Gam) : Int := if okG g = true then 0 else 1
theorem okC_yes {g : Gam} (h : okG g = true) : okC g = 0 := by unfold okC; rw [if_pos h]
theorem okC_no {g : Gam} (h : okG g = false) : okC g = 1 := by unfold okC; rw [if_neg (by simp [h])]
theorem play_6 {g : Gam} {move : Int} (h : 0 ≤ g.resigned) : play g move = (Gam.zero, 6) := by unfold play; rw [if_pos h]
theorem play_5 {g : Gam} {move : Int} (h : ¬ 0 ≤ g.resigned) (h2 : g.moves.length = 120) : play g move = (Gam.zero, 5) := by unfold play; rw [if_neg h, if_pos h2]
theorem play_c {g : Gam} {move : Int} (h : ¬ 0 ≤ g.resigned) (h2 : g.moves.length ≠ 120) (h3 : (make g.rules g.now move).2 ≠ 0) : play g move = (Gam.zero, (make g.rules g.now move).2) := by unfold play; rw [if_neg h, if_neg h2, if_pos h3]
theorem play_0 {g : Gam} {move : Int} (h : ¬ 0 ≤ g.resigned) (h2 : g.moves.length ≠ 120) (h3 : (make g.rules g.now move).2 = 0) : play g move = (⟨g.rules, g.start, g.moves ++ [move], (make g.rules g.now move).1.next, g.resigned⟩, 0) := by unfold play; rw [if_neg h, if_neg h2, if_neg (by simp [h3])]
def playR (g : Gam) (move : Int) : Gam × Int := if okG g = true then play g move else (Gam.zero, 1)
theorem playR_yes {g : Gam} {move : Int} (h : okG g = true) : playR g move = play g move := by unfold playR; rw [if_pos h]
theorem playR_no {g : Gam} {move : Int} (h : okG g = false) : playR g move = (Gam.zero, 1) := by unfold playR; rw [if_neg (by simp [h])]
def plays : Gam → List Int → Gam × Nat
  | g, [] => (g, 0)
  | g, m :: ms => if (play g m).2 = 0 then ((plays (play g m).1 ms).1, (plays (play g m).1 ms).2 + 1) else (g, 0)
def Plays (g : Gam) (moves : List Int) (k : Nat) (gk : Gam) : Prop := plays g moves = ((plays gk (moves.drop k)).1, (plays gk (moves.drop k)).2 + k)
theorem Plays.zero (g : Gam) (moves : List Int) : Plays g moves 0 g := by simp [Plays]
theorem Plays.step {g gk : Gam} {moves : List Int} {k : Nat} (h : Plays g moves k gk) (hk : k < moves.length) (hz : (play gk (nth moves k)).2 = 0) : Plays g moves (k + 1) (play gk (nth moves k)).1 := by
  unfold Plays at *
  rw [drop_nth hk, plays, if_pos hz] at h
  rw [h]
  simp; omega
structure Small (g : Gam) : Prop where
  sp : g.start.pits.length ≤ 4194304
  ss : g.start.stores.length ≤ 4194304
  m : g.moves.length ≤ 120
  np : g.now.pits.length ≤ 4194304
  ns : g.now.stores.length ≤ 4194304
theorem Small.ok {g : Gam} (h : okG g = true) : Small g := by
  obtain ⟨a, b, _⟩ := okG_parts h
  have c := okP_len a
  have d := okP_len (okG_now h)
  exact ⟨c.1, c.2, b, d.1, d.2⟩
theorem Small.play {g : Gam} {move : Int} (h : Small g) (hz : (play g move).2 = 0) : Small (play g move).1 := by
  have q1 : ¬ 0 ≤ g.resigned := fun e => by rw [play_6 e] at hz; simp at hz
  have q2 : g.moves.length ≠ 120 := fun e => by rw [play_5 q1 e] at hz; simp at hz
  have q3 : (make g.rules g.now move).2 = 0 := by
    apply Classical.byContradiction
    intro e
    rw [play_c q1 q2 e] at hz
    exact e hz
  rw [play_0 q1 q2 q3]
  have l := okP_len (make_ok q3).2.2.2.1
  have := h.m
  exact ⟨h.sp, h.ss, by simp; omega, l.1, l.2⟩
def held (a : List Int) (k : Int) : Int := if a = up k a.length then k + a.length else -1
theorem Small.zero : Small Gam.zero := ⟨by decide, by decide, by decide, by decide, by decide⟩
theorem playR_small (g : Gam) (move : Int) : Small (playR g move).1 := by
  unfold playR
  split
  · rename_i h
    by_cases hz : (play g move).2 = 0
    · exact (Small.ok h).play hz
    · have : (play g move).1 = Gam.zero := by
        unfold play at hz ⊢
        split at hz
        · rename_i q; rw [if_pos q]
        · rename_i q; rw [if_neg q]
          split at hz
          · rename_i q2; rw [if_pos q2]
          · rename_i q2; rw [if_neg q2]
            split at hz
            · rename_i q3; rw [if_pos q3]
            · exact absurd rfl hz
      rw [this]; exact Small.zero
  · exact Small.zero
end Go.Proofs.Ytejnmechnhgmfaa.M

/- Plain mathematics of the ends of games. -/
import Derived.Test.YtejnmechnhgmfaaZaM4
set_option linter.unusedSimpArgs false
set_option linter.unusedVariables false
namespace Go.Proofs.Ytejnmechnhgmfaa.M

def all (p : Pos) : Int := isum p.pits + isum p.stores
theorem all_V {r : Rul} {p : Pos} (h : okP r p = true) : sumV p.pits + sumV p.stores = all p := by
  obtain ⟨_, _, _, _, a, b, _⟩ := okP_bd h
  rw [sumV_ok a, sumV_ok b]; rfl
theorem sum4_V {r : Rul} {p : Pos} (h : okP r p = true) : sum4 p.pits = isum p.pits ∧ sum4 p.stores = isum p.stores := by
  obtain ⟨_, _, _, _, a, b, _⟩ := okP_bd h
  have c := okP_sum h
  have d := isum_bd a
  have e := isum_bd b
  exact ⟨sum4_ok a (by omega), sum4_ok b (by omega)⟩
def majority (p : Pos) : Int := if all p < 2 * getI p.stores 0 then 0 else if all p < 2 * getI p.stores 1 then 1 else -1
/-- no player before number k has more than half of all -/
def noMaj (p : Pos) (k : Int) : Prop := ∀ j : Int, 0 ≤ j → j < k → ¬ all p < 2 * getI p.stores j
theorem noMaj_zero (p : Pos) : noMaj p 0 := fun j h0 h1 => by omega
theorem noMaj_step {p : Pos} {k : Int} (h : noMaj p k) (hk : ¬ all p < 2 * getI p.stores k) : noMaj p (k + 1) := fun j h0 h1 => by
  by_cases e : j = k
  · rw [e]; exact hk
  · exact h j h0 (by omega)
theorem majority_at {p : Pos} {k : Int} (h : noMaj p k) (h0 : 0 ≤ k) (h1 : k < 2) (hk : all p < 2 * getI p.stores k) : majority p = k := by
  unfold majority
  by_cases e : k = 0
  · subst e; rw [if_pos hk]
  · have e1 : k = 1 := by omega
    subst e1
    rw [if_neg (h 0 (by omega) (by omega)), if_pos hk]
theorem majority_no {p : Pos} {k : Int} (h : noMaj p k) (h1 : 2 ≤ k) : majority p = -1 := by
  unfold majority
  rw [if_neg (h 0 (by omega) (by omega)), if_neg (h 1 (by omega) (by omega))]
/-- the stores, where the players before number k have taken their seeds -/
def setT (r : Rul) (p : Pos) : Nat → List Int
  | 0 => p.stores
  | k + 1 => setI (setT r p k) k (getI (setT r p k) k + side r p.pits k)
@[simp] theorem setT_length (r : Rul) (p : Pos) : ∀ k, (setT r p k).length = p.stores.length
  | 0 => rfl
  | k + 1 => by rw [setT, setI_length]; exact setT_length r p k
def endOf (g : Gam) : Int :=
  if 0 ≤ g.resigned then 1 else if 0 ≤ majority g.now then 2 else if (results g.rules g.now).length = 0 then 3 else if 3 ≤ count g.now (playedP g) then 4 else if g.moves.length = 120 then 5 else 0
theorem endOf_1 {g : Gam} (h : 0 ≤ g.resigned) : endOf g = 1 := by unfold endOf; rw [if_pos h]
theorem endOf_2 {g : Gam} (h : ¬ 0 ≤ g.resigned) (h2 : 0 ≤ majority g.now) : endOf g = 2 := by unfold endOf; rw [if_neg h, if_pos h2]
theorem endOf_3 {g : Gam} (h : ¬ 0 ≤ g.resigned) (h2 : ¬ 0 ≤ majority g.now) (h3 : (results g.rules g.now).length = 0) : endOf g = 3 := by unfold endOf; rw [if_neg h, if_neg h2, if_pos h3]
theorem endOf_4 {g : Gam} (h : ¬ 0 ≤ g.resigned) (h2 : ¬ 0 ≤ majority g.now) (h3 : (results g.rules g.now).length ≠ 0) (h4 : 3 ≤ count g.now (playedP g)) : endOf g = 4 := by unfold endOf; rw [if_neg h, if_neg h2, if_neg h3, if_pos h4]
theorem endOf_5 {g : Gam} (h : ¬ 0 ≤ g.resigned) (h2 : ¬ 0 ≤ majority g.now) (h3 : (results g.rules g.now).length ≠ 0) (h4 : ¬ 3 ≤ count g.now (playedP g)) (h5 : g.moves.length = 120) : endOf g = 5 := by unfold endOf; rw [if_neg h, if_neg h2, if_neg h3, if_neg h4, if_pos h5]
theorem endOf_0 {g : Gam} (h : ¬ 0 ≤ g.resigned) (h2 : ¬ 0 ≤ majority g.now) (h3 : (results g.rules g.now).length ≠ 0) (h4 : ¬ 3 ≤ count g.now (playedP g)) (h5 : g.moves.length ≠ 120) : endOf g = 0 := by unfold endOf; rw [if_neg h, if_neg h2, if_neg h3, if_neg h4, if_neg h5]
def okC (g : Gam) : Int := if okG g = true then 0 else 1
theorem okC_yes {g : Gam} (h : okG g = true) : okC g = 0 := by unfold okC; rw [if_pos h]
theorem okC_no {g : Gam} (h : okG g = false) : okC g = 1 := by unfold okC; rw [if_neg (by simp [h])]
/-! ### what is told of games -/
theorem play_6 {g : Gam} {move : Int} (h : 0 ≤ g.resigned) : play g move = (Gam.zero, 6) := by unfold play; rw [if_pos h]
theorem play_5 {g : Gam} {move : Int} (h : ¬ 0 ≤ g.resigned) (h2 : g.moves.length = 120) : play g move = (Gam.zero, 5) := by unfold play; rw [if_neg h, if_pos h2]
theorem play_c {g : Gam} {move : Int} (h : ¬ 0 ≤ g.resigned) (h2 : g.moves.length ≠ 120) (h3 : (make g.rules g.now move).2 ≠ 0) : play g move = (Gam.zero, (make g.rules g.now move).2) := by unfold play; rw [if_neg h, if_neg h2, if_pos h3]
theorem play_0 {g : Gam} {move : Int} (h : ¬ 0 ≤ g.resigned) (h2 : g.moves.length ≠ 120) (h3 : (make g.rules g.now move).2 = 0) : play g move = (⟨g.rules, g.start, g.moves ++ [move], (make g.rules g.now move).1.next, g.resigned⟩, 0) := by unfold play; rw [if_neg h, if_neg h2, if_neg (by simp [h3])]
/-- some moves are played, as far as they can be: the game, how many -/
def plays : Gam → List Int → Gam × Nat
  | g, [] => (g, 0)
  | g, m :: ms => if (play g m).2 = 0 then ((plays (play g m).1 ms).1, (plays (play g m).1 ms).2 + 1) else (g, 0)
def playsR (g : Gam) (moves : List Int) : Gam × Nat × Int := if okG g = true then ((plays g moves).1, (plays g moves).2, 0) else (Gam.zero, 0, 1)
theorem playsR_no {g : Gam} {moves : List Int} (h : okG g = false) : playsR g moves = (Gam.zero, 0, 1) := by unfold playsR; rw [if_neg (by simp [h])]
theorem playsR_yes {g : Gam} {moves : List Int} (h : okG g = true) : playsR g moves = ((plays g moves).1, (plays g moves).2, 0) := by unfold playsR; rw [if_pos h]
/-- number k has come up, and the game is gk -/
def Plays (g : Gam) (moves : List Int) (k : Nat) (gk : Gam) : Prop := plays g moves = ((plays gk (moves.drop k)).1, (plays gk (moves.drop k)).2 + k)
theorem Plays.zero (g : Gam) (moves : List Int) : Plays g moves 0 g := by simp [Plays]
theorem Plays.step {g gk : Gam} {moves : List Int} {k : Nat} (h : Plays g moves k gk) (hk : k < moves.length) (hz : (play gk (nth moves k)).2 = 0) : Plays g moves (k + 1) (play gk (nth moves k)).1 := by
  unfold Plays at *
  rw [drop_nth hk, plays, if_pos hz] at h
  rw [h]
  simp; omega
theorem Plays.stop {g gk : Gam} {moves : List Int} {k : Nat} (h : Plays g moves k gk) (hk : k < moves.length) (hz : (play gk (nth moves k)).2 ≠ 0) : plays g moves = (gk, k) := by
  unfold Plays at h
  rw [drop_nth hk, plays, if_neg hz] at h
  rw [h]; simp
theorem Plays.end_ {g gk : Gam} {moves : List Int} {k : Nat} (h : Plays g moves k gk) (hk : moves.length ≤ k) : plays g moves = (gk, k) := by
  unfold Plays at h
  rw [List.drop_eq_nil_of_le hk, plays] at h
  rw [h]; simp
/-- a game whose lists are short -/
structure Small (g : Gam) : Prop where
  sp : g.start.pits.length ≤ 4194304
  ss : g.start.stores.length ≤ 4194304
  m : g.moves.length ≤ 120
  np : g.now.pits.length ≤ 4194304
  ns : g.now.stores.length ≤ 4194304
theorem Small.ok {g : Gam} (h : okG g = true) : Small g := by
  obtain ⟨a, b, _⟩ := okG_parts h
  have c := okP_len a
  have d := okP_len (okG_now h)
  exact ⟨c.1, c.2, b, d.1, d.2⟩
theorem Small.play {g : Gam} {move : Int} (h : Small g) (hz : (play g move).2 = 0) : Small (play g move).1 := by
  have q1 : ¬ 0 ≤ g.resigned := fun e => by rw [play_6 e] at hz; simp at hz
  have q2 : g.moves.length ≠ 120 := fun e => by rw [play_5 q1 e] at hz; simp at hz
  have q3 : (make g.rules g.now move).2 = 0 := by
    apply Classical.byContradiction
    intro e
    rw [play_c q1 q2 e] at hz
    exact e hz
  rw [play_0 q1 q2 q3]
  have l := okP_len (make_ok q3).2.2.2.1
  have := h.m
  exact ⟨h.sp, h.ss, by simp; omega, l.1, l.2⟩
/-! ### marks -/
theorem up_succ (k : Int) (n : Nat) : up k (n + 1) = up k n ++ [k + (n : Int)] := by simp [up, List.range_succ]
def mkd (a : List Int) (k : Int) (i : Nat) : List Int := up k i ++ a.drop i
theorem mkd_zero (a : List Int) (k : Int) : a = mkd a k 0 := by simp [mkd, up]
theorem mkd_step {a : List Int} {k : Int} {i : Nat} (h : i < a.length) : (mkd a k i).set i (k + (i : Int)) = mkd a k (i + 1) := by
  unfold mkd
  rw [List.set_append_right _ _ (by simp)]
  rw [drop_nth h, up_succ]
  simp
theorem mkd_end {a : List Int} {k : Int} {i : Nat} (h : i = a.length) : mkd a k i = up k a.length := by subst h; simp [mkd]
def held (a : List Int) (k : Int) : Int := if a = up k a.length then k + a.length else -1
theorem held_up (k : Int) (n : Nat) : held (up k n) k = k + n := by unfold held; rw [if_pos (by simp)]; simp
theorem held_no {a : List Int} {k : Int} {i : Nat} (h : i < a.length) (hn : nth a i ≠ k + (i : Int)) : held a k = -1 := by
  unfold held
  rw [if_neg]
  intro e
  rw [e, nth_up h] at hn
  exact hn rfl
theorem held_yes {a : List Int} {k : Int} {i : Nat} (h : i = a.length) (hu : a.take i = up k i) : held a k = k + (i : Int) := by
  subst h
  unfold held
  rw [List.take_length] at hu
  rw [if_pos hu]
theorem held_step {a : List Int} {k : Int} {i : Nat} (h : i < a.length) (hu : a.take i = up k i) (he : nth a i = k + (i : Int)) : a.take (i + 1) = up k (i + 1) := by rw [take_nth h, hu, he, up_succ]
def szp (p : Pos) : Int := p.pits.length + p.stores.length
def markP (p : Pos) (k : Int) : Pos := ⟨up k p.pits.length, up (k + p.pits.length) p.stores.length, p.player⟩
def szg (g : Gam) : Int := szp g.start + g.moves.length + szp g.now
def markG (g : Gam) (k : Int) : Gam := ⟨g.rules, markP g.start k, up (k + szp g.start) g.moves.length, markP g.now (k + szp g.start + g.moves.length), g.resigned⟩
def heldP (p : Pos) (k : Int) : Int := if held p.pits k < 0 then -1 else if held p.stores (held p.pits k) < 0 then -1 else held p.stores (held p.pits k)
theorem heldP_mark (p : Pos) {k : Int} (h : 0 ≤ k) : heldP (markP p k) k = k + szp p := by
  unfold heldP markP szp
  dsimp only
  rw [held_up, held_up, if_neg (by omega), if_neg (by omega)]; omega
def heldG (g : Gam) (k : Int) : Int :=
  if heldP g.start k < 0 then -1 else if held g.moves (heldP g.start k) < 0 then -1 else if heldP g.now (held g.moves (heldP g.start k)) < 0 then -1 else heldP g.now (held g.moves (heldP g.start k))
theorem szp_nn (p : Pos) : 0 ≤ szp p := by unfold szp; omega
theorem heldG_mark (g : Gam) {k : Int} (h : 0 ≤ k) : heldG (markG g k) k = k + szg g := by
  have a := szp_nn g.start
  have b := szp_nn g.now
  unfold heldG markG szg
  dsimp only
  rw [heldP_mark _ h, held_up, heldP_mark _ (by omega), if_neg (by omega), if_neg (by omega), if_neg (by omega)]; omega
theorem heldP_1 {p : Pos} {k : Int} (h : held p.pits k < 0) : heldP p k = -1 := by unfold heldP; rw [if_pos h]
theorem heldP_2 {p : Pos} {k : Int} (h : ¬ held p.pits k < 0) (h2 : held p.stores (held p.pits k) < 0) : heldP p k = -1 := by unfold heldP; rw [if_neg h, if_pos h2]
theorem heldP_3 {p : Pos} {k : Int} (h : ¬ held p.pits k < 0) (h2 : ¬ held p.stores (held p.pits k) < 0) : heldP p k = held p.stores (held p.pits k) := by unfold heldP; rw [if_neg h, if_neg h2]
theorem heldG_1 {g : Gam} {k : Int} (h : heldP g.start k < 0) : heldG g k = -1 := by unfold heldG; rw [if_pos h]
theorem heldG_2 {g : Gam} {k : Int} (h : ¬ heldP g.start k < 0) (h2 : held g.moves (heldP g.start k) < 0) : heldG g k = -1 := by unfold heldG; rw [if_neg h, if_pos h2]
theorem heldG_3 {g : Gam} {k : Int} (h : ¬ heldP g.start k < 0) (h2 : ¬ held g.moves (heldP g.start k) < 0) (h3 : heldP g.now (held g.moves (heldP g.start k)) < 0) : heldG g k = -1 := by unfold heldG; rw [if_neg h, if_neg h2, if_pos h3]
theorem heldG_4 {g : Gam} {k : Int} (h : ¬ heldP g.start k < 0) (h2 : ¬ held g.moves (heldP g.start k) < 0) (h3 : ¬ heldP g.now (held g.moves (heldP g.start k)) < 0) : heldG g k = heldP g.now (held g.moves (heldP g.start k)) := by unfold heldG; rw [if_neg h, if_neg h2, if_neg h3]
theorem held_bd (a : List Int) {k : Int} (h : 0 ≤ k) : -1 ≤ held a k ∧ held a k ≤ k + a.length := by unfold held; split <;> omega
theorem heldP_bd (p : Pos) {k : Int} (h : 0 ≤ k) : -1 ≤ heldP p k ∧ heldP p k ≤ k + szp p := by
  have a := held_bd p.pits h
  unfold heldP szp
  split
  · omega
  · have b := held_bd p.stores (k := held p.pits k) (by omega)
    split <;> omega
theorem szg_nn (g : Gam) : 0 ≤ szg g := by
  have a := szp_nn g.start
  have b := szp_nn g.now
  unfold szg; omega
theorem Small.zero : Small Gam.zero := ⟨by decide, by decide, by decide, by decide, by decide⟩
end Go.Proofs.Ytejnmechnhgmfaa.M

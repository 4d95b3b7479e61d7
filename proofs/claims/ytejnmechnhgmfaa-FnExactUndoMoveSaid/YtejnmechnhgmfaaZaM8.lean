/- Plain mathematics of games that are cut. -/
import Derived.Test.YtejnmechnhgmfaaZaM7
set_option linter.unusedSimpArgs false
set_option linter.unusedVariables false
namespace Go.Proofs.Ytejnmechnhgmfaa.M

theorem runs_take (r : Rul) : ∀ (a : List Int) (p : Pos) (k : Nat), (runs r p a).length = a.length → runs r p (a.take k) = (runs r p a).take k
  | [], p, k, _ => by simp [runs]
  | m :: ms, p, 0, _ => by simp [runs]
  | m :: ms, p, k + 1, h => by
    rw [List.take_succ_cons]
    by_cases hz : (make r p m).2 = 0
    · rw [runs, if_pos hz] at h ⊢
      rw [runs, if_pos hz, List.take_succ_cons, runs_take r ms _ k (by simpa using h)]
    · rw [runs, if_neg hz] at h
      simp at h
theorem hist_take (p : Pos) (l : List Res) (k : Nat) : hist p (l.take k) = (hist p l).take (k + 1) := by
  simp [hist, List.map_take]
def cutG (g : Gam) (n : Nat) : Gam := ⟨g.rules, g.start, g.moves.take n, (playedP g).getD n Pos.zero, -1⟩
theorem cutG_now {g : Gam} {n : Nat} {y : Pos} (h : (playedP g)[n]? = some y) : (cutG g n).now = y := by simp [cutG, List.getD, h]
theorem cut_len {g : Gam} {n : Nat} (hn : n ≤ g.moves.length) : (cutG g n).moves.length = n := by simp [cutG]; omega
theorem cut_played {g : Gam} (h : okG g = true) {n : Nat} (hn : n ≤ g.moves.length) : playedOk (cutG g n) = true ∧ playedP (cutG g n) = (playedP g).take (n + 1) ∧ runs g.rules g.start (g.moves.take n) = (runs g.rules g.start g.moves).take n := by
  obtain ⟨k1, k2, k3, k4, k5, k6, k7, k8, k9⟩ := okG_parts h
  have e := runs_take g.rules g.moves g.start n k8
  have ho : playedOk (cutG g n) = true := by
    unfold playedOk
    show decide ((runs g.rules g.start (g.moves.take n)).length = (g.moves.take n).length) = true
    rw [e, List.length_take, List.length_take, k8]; simp
  refine ⟨ho, ?_, e⟩
  unfold playedP
  rw [if_pos ho]
  have ho2 : playedOk g = true := k5
  rw [if_pos ho2]
  show hist g.start (runs g.rules g.start (g.moves.take n)) = _
  rw [e, hist_take]
theorem cut_get {g : Gam} (h : okG g = true) {n : Nat} (hn : n ≤ g.moves.length) : (playedP g)[n]? = some (cutG g n).now := by
  obtain ⟨k1, k2, k3, k4, k5, k6, k7, k8, k9⟩ := okG_parts h
  have hl : (playedP g).length = g.moves.length + 1 := by rw [k6, hist_length, k8]
  rw [List.getElem?_eq_getElem (by omega), cutG_now (List.getElem?_eq_getElem (by omega))]
theorem cut_ok {g : Gam} (h : okG g = true) {n : Nat} (hn : n ≤ g.moves.length) : okG (cutG g n) = true := by
  obtain ⟨k1, k2, k3, k4, k5, k6, k7, k8, k9⟩ := okG_parts h
  obtain ⟨a, b, c⟩ := cut_played h hn
  have hg := cut_get h hn
  have hl := cut_len hn
  refine (okG_yes (g := cutG g n) (q := (cutG g n).now) (k := n) k1 (by rw [hl]; omega) (show betw (-1) (-1) 1 = true by decide) a ?_ (by rw [hl])).trans ?_
  · rw [b, List.getElem?_take, if_pos (by omega)]; exact hg
  · exact sameP_true.2 rfl
/-- the game before its last move -/
def undo (g : Gam) : Gam × Int := if okG g = true then (if g.moves.length = 0 ∨ 0 ≤ g.resigned then (Gam.zero, 6) else (cutG g ((g.moves.length : Int) - 1).toNat, 0)) else (Gam.zero, 1)
theorem undo_1 {g : Gam} (h : okG g = false) : undo g = (Gam.zero, 1) := by unfold undo; rw [if_neg (by simp [h])]
theorem undo_6 {g : Gam} (h : okG g = true) (h2 : g.moves.length = 0 ∨ 0 ≤ g.resigned) : undo g = (Gam.zero, 6) := by unfold undo; rw [if_pos h, if_pos h2]
theorem undo_0 {g : Gam} (h : okG g = true) (h2 : ¬ (g.moves.length = 0 ∨ 0 ≤ g.resigned)) : undo g = (cutG g ((g.moves.length : Int) - 1).toNat, 0) := by unfold undo; rw [if_pos h, if_neg h2]
theorem undo_small (g : Gam) : Small (undo g).1 := by
  cases h : okG g
  · rw [undo_1 h]; exact Small.zero
  · by_cases h2 : g.moves.length = 0 ∨ 0 ≤ g.resigned
    · rw [undo_6 h h2]; exact Small.zero
    · rw [undo_0 h h2]; exact Small.ok (cut_ok h (by omega))
/-- where the reference looks for the position -/
theorem undo_get {g : Gam} (h : okG g = true) {n : Nat} {y : Pos} (hn : n ≤ g.moves.length) (hy : (hist g.start (runs g.rules g.start (g.moves.take n)))[n]? = some y) : (cutG g n).now = y := by
  obtain ⟨k1, k2, k3, k4, k5, k6, k7, k8, k9⟩ := okG_parts h
  obtain ⟨a, b, c⟩ := cut_played h hn
  rw [c, hist_take, ← k6, List.getElem?_take, if_pos (by omega)] at hy
  exact cutG_now hy

/-! ### a game up to its first end -/
theorem cut_play {g : Gam} (h : okG g = true) {n : Nat} (hn : n < g.moves.length) : play (cutG g n) (nth g.moves n) = (cutG g (n + 1), 0) := by
  obtain ⟨k1, k2, k3, k4, k5, k6, k7, k8, k9⟩ := okG_parts h
  have e := runs_take g.rules g.moves g.start
  have hg := cut_get h (Nat.le_of_lt hn)
  have hg1 := cut_get h (n := n + 1) hn
  have key : ∀ (a : List Int) (p : Pos) (n : Nat), (runs g.rules p a).length = a.length → n < a.length → ∀ q, (hist p (runs g.rules p a))[n]? = some q → (make g.rules q (nth a n)).2 = 0 ∧ (hist p (runs g.rules p a))[n + 1]? = some (make g.rules q (nth a n)).1.next := by
    intro a
    induction a with
    | nil => intro p n _ h; simp at h
    | cons m ms ih =>
      intro p n hl hn q hq
      by_cases hz : (make g.rules p m).2 = 0
      · rw [runs, if_pos hz] at hl hq ⊢
        cases n with
        | zero => simp [hist] at hq; subst hq; simp [nth, hist, hz]
        | succ n =>
          have h1 := ih (make g.rules p m).1.next n (by simpa using hl) (by simpa using hn) q (by simpa [hist] using hq)
          refine ⟨by simpa [nth] using h1.1, ?_⟩
          simpa [hist, nth] using h1.2
      · rw [runs, if_neg hz] at hl; simp at hl
  obtain ⟨m1, m2⟩ := key g.moves g.start n k8 hn _ (by rw [← k6]; exact hg)
  rw [← k6, hg1] at m2
  have hnx := Option.some.inj m2
  have hl := cut_len (Nat.le_of_lt hn)
  rw [play_0 (g := cutG g n) (by show ¬ (0 : Int) ≤ -1; decide) (by omega) m1]
  refine Prod.ext (gam_ext rfl rfl ?_ hnx.symm rfl) rfl
  show g.moves.take n ++ [nth g.moves n] = g.moves.take (n + 1)
  rw [take_nth hn]
theorem cut_zero {g : Gam} (h : okG g = true) : cutG g 0 = ⟨g.rules, g.start, [], g.start, -1⟩ := by
  obtain ⟨k1, k2, k3, k4, k5, k6, k7, k8, k9⟩ := okG_parts h
  refine gam_ext rfl rfl (by simp [cutG]) (cutG_now (by rw [k6]; rfl)) rfl
theorem cut_all {g : Gam} (h : okG g = true) : (⟨g.rules, g.start, g.moves.take g.moves.length, (cutG g g.moves.length).now, g.resigned⟩ : Gam) = g := by
  obtain ⟨k1, k2, k3, k4, k5, k6, k7, k8, k9⟩ := okG_parts h
  refine gam_ext rfl rfl (by simp) ?_ rfl
  have h1 := (playedP_len k5).2
  rw [cutG_now h1]; exact k9.symm
def Cut (g : Gam) (k : Nat) : Prop := ∀ j, j < k → endOf (cutG g j) = 0
theorem Cut.zero (g : Gam) : Cut g 0 := fun j h => by omega
theorem Cut.step {g : Gam} {k : Nat} (h : Cut g k) (h2 : endOf (cutG g k) = 0) : Cut g (k + 1) := fun j hj => by
  by_cases e : j = k
  · subst e; exact h2
  · exact h j (by omega)
def cutE (g : Gam) : Gam := match (List.range (g.moves.length + 1)).find? (fun n => !decide (endOf (cutG g n) = 0)) with
  | some n => cutG g n
  | none => g
theorem cutE_at {g : Gam} {k : Nat} (h : Cut g k) (hk : k ≤ g.moves.length) (h2 : endOf (cutG g k) ≠ 0) : cutE g = cutG g k := by
  have : (List.range (g.moves.length + 1)).find? (fun n => !decide (endOf (cutG g n) = 0)) = some k := by
    rw [List.find?_range_eq_some]
    refine ⟨by simpa using h2, by simp; omega, fun j hj => ?_⟩
    have := h j hj
    simp [this]
  unfold cutE; rw [this]
theorem cutE_no {g : Gam} (h : Cut g (g.moves.length + 1)) : cutE g = g := by
  have : (List.range (g.moves.length + 1)).find? (fun n => !decide (endOf (cutG g n) = 0)) = none := by
    rw [List.find?_eq_none]
    intro j hj
    have := h j (by simpa using hj)
    simp [this]
  unfold cutE; rw [this]
def cutR (g : Gam) : Gam × Int := if okG g = true then (cutE g, 0) else (Gam.zero, 1)
theorem cutR_1 {g : Gam} (h : okG g = false) : cutR g = (Gam.zero, 1) := by unfold cutR; rw [if_neg (by simp [h])]
theorem cutR_0 {g : Gam} (h : okG g = true) : cutR g = (cutE g, 0) := by unfold cutR; rw [if_pos h]
theorem cutR_small (g : Gam) : Small (cutR g).1 := by
  cases h : okG g
  · rw [cutR_1 h]; exact Small.zero
  · rw [cutR_0 h]
    show Small (cutE g)
    unfold cutE
    split
    · rename_i n hn
      have := List.mem_of_find?_eq_some hn
      exact Small.ok (cut_ok h (by simp at this; omega))
    · exact Small.ok h
theorem play_120 {g : Gam} {move : Int} (h : g.moves.length ≤ 120) (hz : (play g move).2 = 0) : (play g move).1.moves.length ≤ 120 := by
  by_cases h1 : 0 ≤ g.resigned
  · rw [play_6 h1] at hz; simp at hz
  by_cases h2 : g.moves.length = 120
  · rw [play_5 h1 h2] at hz; simp at hz
  by_cases h3 : (make g.rules g.now move).2 = 0
  · rw [play_0 h1 h2 h3]; simp; omega
  · rw [play_c h1 h2 h3] at hz; exact absurd hz h3
theorem plays_small : ∀ (moves : List Int) (g : Gam), Small g → Small (plays g moves).1
  | [], g, h => h
  | m :: ms, g, h => by
    rw [plays]; split
    · rename_i hz
      exact plays_small ms _ (h.play hz)
    · exact h
theorem playsR_small (g : Gam) (moves : List Int) : Small (playsR g moves).1 := by
  cases h : okG g
  · rw [playsR_no h]; exact Small.zero
  · rw [playsR_yes h]; exact plays_small moves g (Small.ok h)
end Go.Proofs.Ytejnmechnhgmfaa.M

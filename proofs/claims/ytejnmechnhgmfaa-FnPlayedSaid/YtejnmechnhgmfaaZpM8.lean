/- Plain mathematics of games that are cut. -/
import Derived.Test.YtejnmechnhgmfaaZpM7
set_option linter.unusedSimpArgs false
set_option linter.unusedVariables false
namespace Go.Proofs.Ytejnmechnhgmfaa.M
theorem runs_take (r : Rul) : ∀ (a : List Int) (p : Pos) (k : Nat), (runs r p a).length = a.length → runs r p (a.take k) = (runs r p a).take k
  | [], p, k, _ => by simp [runs]
  | m :: ms, p, 0, _ => by simp [runs]
  | m :: ms, p, k + 1, h => by
    rw [List.take_succ_cons]
    by_cases hz : (make r p m).2 = 0
    · rw [runs, if_pos hz] at h ⊢
      rw [runs, if_pos hz, List.take_succ_cons, runs_take r ms _ k (by simpa using h)]
    · rw [runs, if_neg hz] at h
      simp at h
theorem hist_take (p : Pos) (l : List Res) (k : Nat) : hist p (l.take k) = (hist p l).take (k + 1) := by
  simp [hist, List.map_take]
def cutG (g : Gam) (n : Nat) : Gam := ⟨g.rules, g.start, g.moves.take n, (playedP g).getD n Pos.zero, -1⟩
theorem cutG_now {g : Gam} {n : Nat} {y : Pos} (h : (playedP g)[n]? = some y) : (cutG g n).now = y := by simp [cutG, List.getD, h]
theorem cut_len {g : Gam} {n : Nat} (hn : n ≤ g.moves.length) : (cutG g n).moves.length = n := by simp [cutG]; omega
theorem cut_played {g : Gam} (h : okG g = true) {n : Nat} (hn : n ≤ g.moves.length) : playedOk (cutG g n) = true ∧ playedP (cutG g n) = (playedP g).take (n + 1) ∧ runs g.rules g.start (g.moves.take n) = (runs g.rules g.start g.moves).take n := by
  obtain ⟨k1, k2, k3, k4, k5, k6, k7, k8, k9⟩ := okG_parts h
  have e := runs_take g.rules g.moves g.start n k8
  have ho : playedOk (cutG g n) = true := by
    unfold playedOk
    show decide ((runs g.rules g.start (g.moves.take n)).length = (g.moves.take n).length) = true
    rw [e, List.length_take, List.length_take, k8]; simp
  refine ⟨ho, ?_, e⟩
  unfold playedP
  rw [if_pos ho]
  have ho2 : playedOk g = true := k5
  rw [if_pos ho2]
  show hist g.start (runs g.rules g.start (g.moves.take n)) = _
  rw [e, hist_take]
theorem cut_get {g : Gam} (h : okG g = true) {n : Nat} (hn : n ≤ g.moves.length) : (playedP g)[n]? = some (cutG g n).now := by
  obtain ⟨k1, k2, k3, k4, k5, k6, k7, k8, k9⟩ := okG_parts h
  have hl : (playedP g).length = g.moves.length + 1 := by rw [k6, hist_length, k8]
  rw [List.getElem?_eq_getElem (by omega), cutG_now (List.getElem?_eq_getElem (by omega))]
theorem cut_ok {g : Gam} (h : okG g = true) {n : Nat} (hn : n ≤ g.moves.length) : okG (cutG g n) = true := by
  obtain ⟨k1, k2, k3, k4, k5, k6, k7, k8, k9⟩ := okG_parts h
  obtain ⟨a, b, c⟩ := cut_played h hn
  have hg := cut_get h hn
  have hl := cut_len hn
  refine (okG_yes (g := cutG g n) (q := (cutG g n).now) (k := n) k1 (by rw [hl]; omega) (show betw (-1) (-1) 1 = true by decide) a ?_ (by rw [hl])).trans ?_
  · rw [b, List.getElem?_take, if_pos (by omega)]; exact hg
  · exact sameP_true.2 rfl
def undo (g : Gam) : Gam × Int := if okG g = true then (if g.moves.length = 0 ∨ 0 ≤ g.resigned then (Gam.zero, 6) else (cutG g ((g.moves.length : Int) - 1).toNat, 0)) else (Gam.zero, 1)
theorem undo_1 {g : Gam} (h : okG g = false) : undo g = (Gam.zero, 1) := by unfold undo; rw [if_neg (by simp [h])]
theorem undo_6 {g : Gam} (h : okG g = true) (h2 : g.moves.length = 0 ∨ 0 ≤ g.resigned) : undo g = (Gam.zero, 6) := by unfold undo; rw [if_pos h, if_pos h2]
theorem undo_0 {g : Gam} (h : okG g = true) (h2 : ¬ (g.moves.length = 0 ∨ 0 ≤ g.resigned)) : undo g = (cutG g ((g.moves.length : Int) - 1).toNat, 0) := by unfold undo; rw [if_pos h, if_neg h2]
theorem undo_small (g : Gam) : Small (undo g).1 := by
  cases h : okG g
  · rw [undo_1 h]; exact Small.zero
  · by_cases h2 : g.moves.length = 0 ∨ 0 ≤ g.resigned
    · rw [undo_6 h h2]; exact Small.zero
    · rw [undo_0 h h2]; exact Small.ok (cut_ok h (by omega))
theorem undo_get {g : Gam} (h : okG g = true) {n : Nat} {y : Pos} (hn : n ≤ g.moves.length) (hy : (hist g.start (runs g.rules g.start (g.moves.take n)))[n]? = some y) : (cutG g n).now = y := by
  obtain ⟨k1, k2, k3, k4, k5, k6, k7, k8, k9⟩ := okG_parts h
  obtain ⟨a, b, c⟩ := cut_played h hn
  rw [c, hist_take, ← k6, List.getElem?_take, if_pos (by omega)] at hy
  exact cutG_now hy
theorem cut_play {g : Gam} (h : okG g = true) {n : Nat} (hn : n < g.moves.length) : play (cutG g n) (nth g.moves n) = (cutG g (n + 1), 0) := by
  obtain ⟨k1, k2, k3, k4, k5, k6, k7, k8, k9⟩ := okG_parts h
  have e := runs_take g.rules g.moves g.start
  have hg := cut_get h (Nat.le_of_lt hn)
  have hg1 := cut_get h (n := n + 1) hn
  have key : ∀ (a : List Int) (p : Pos) (n : Nat), (runs g.rules p a).length = a.length → n < a.length → ∀ q, (hist p (runs g.rules p a))[n]? = some q → (make g.rules q (nth a n)).2 = 0 ∧ (hist p (runs g.rules p a))[n + 1]? = some (make g.rules q (nth a n)).1.next := by
    intro a
    induction a with
    | nil => intro p n _ h; simp at h
    | cons m ms ih =>
      intro p n hl hn q hq
      by_cases hz : (make g.rules p m).2 = 0
      · rw [runs, if_pos hz] at hl hq ⊢
        cases n with
        | zero => simp [hist] at hq; subst hq; simp [nth, hist, hz]
        | succ n =>
          have h1 := ih (make g.rules p m).1.next n (by simpa using hl) (by simpa using hn) q (by simpa [hist] using hq)
          refine ⟨by simpa [nth] using h1.1, ?_⟩
          simpa [hist, nth] using h1.2
      · rw [runs, if_neg hz] at hl; simp at hl
  obtain ⟨m1, m2⟩ := key g.moves g.start n k8 hn _ (by rw [← k6]; exact hg)
  rw [← k6, hg1] at m2
  have hnx := Option.some.inj m2
  have hl := cut_len (Nat.le_of_lt hn)
  rw [play_0 (g := cutG g n) (by show ¬ (0 : Int) ≤ -1; decide) (by omega) m1]
  refine Prod.ext (gam_ext rfl rfl ?_ hnx.symm rfl) rfl
  show g.moves.take n ++ [nth g.moves n] = g.moves.take (n + 1)
  rw [take_nth hn]
theorem cut_all {g : Gam} (h : okG g = true) : (⟨g.rules, g.start, g.moves.take g.moves.length, (cutG g g.moves.length).now, g.resigned⟩ : Gam) = g := by
  obtain ⟨k1, k2, k3, k4, k5, k6, k7, k8, k9⟩ := okG_parts h
  refine gam_ext rfl rfl (by simp) ?_ rfl
  have h1 := (playedP_len k5).2
  rw [cutG_now h1]; exact k9.symm
def Cut (g : Gam) (k : Nat) : Prop := ∀ j, j < k → endOf (cutG g j) = 0
theorem Cut.zero (g : Gam) : Cut g 0 := fun j h => by omega
theorem Cut.step {g : Gam} {k : Nat} (h : Cut g k) (h2 : endOf (cutG g k) = 0) : Cut g (k + 1) := fun j hj => by
  by_cases e : j = k
  · subst e; exact h2
  · exact h j (by omega)
theorem play_120 {g : Gam} {move : Int} (h : g.moves.length ≤ 120) (hz : (play g move).2 = 0) : (play g move).1.moves.length ≤ 120 := by
  by_cases h1 : 0 ≤ g.resigned
  · rw [play_6 h1] at hz; simp at hz
  by_cases h2 : g.moves.length = 120
  · rw [play_5 h1 h2] at hz; simp at hz
  by_cases h3 : (make g.rules g.now move).2 = 0
  · rw [play_0 h1 h2 h3]; simp; omega
  · rw [play_c h1 h2 h3] at hz; exact absurd hz h3
theorem play_len {g : Gam} {move : Int} (hz : (play g move).2 = 0) : (play g move).1.moves.length = g.moves.length + 1 := by
  by_cases h1 : 0 ≤ g.resigned
  · rw [play_6 h1] at hz; simp at hz
  by_cases h2 : g.moves.length = 120
  · rw [play_5 h1 h2] at hz; simp at hz
  by_cases h3 : (make g.rules g.now move).2 = 0
  · rw [play_0 h1 h2 h3]; simp
  · rw [play_c h1 h2 h3] at hz; exact absurd hz h3
def startP (r : Rul) : Pos := ⟨List.replicate (2 * r.pits).toNat r.seeds, [0, 0], 0⟩
theorem mul01 {a n : Int} (h0 : 0 ≤ a) (h1 : a = 0 ∨ a < 2) (n0 : 0 ≤ n) (n8 : n ≤ 8) : 0 ≤ a * n ∧ a * n ≤ n ∧ (a + 1) * n = a * n + n := by
  have h : a = 0 ∨ a = 1 := by omega
  rcases h with rfl | rfl <;> simp <;> omega
def legal (r : Rul) (p : Pos) : List Int := if okP r p = true then (results r p).map (·.move) else []
theorem legal_yes {r : Rul} {p : Pos} (h : okP r p = true) : legal r p = (results r p).map (·.move) := by unfold legal; rw [if_pos h]
theorem legal_no {r : Rul} {p : Pos} (h : okP r p = false) : legal r p = [] := by unfold legal; rw [if_neg (by simp [h])]
theorem legal_len (r : Rul) (p : Pos) : (legal r p).length ≤ 8 := by
  cases h : okP r p
  · rw [legal_no h]; simp
  · rw [legal_yes h, List.length_map]; exact results_8 h
theorem moves_step {l : List Res} {k : Nat} {y : Res} (h : l[k]? = some y) : (l.map (·.move)).take (k + 1) = (l.map (·.move)).take k ++ [y.move] := by
  rw [List.take_add_one, List.getElem?_map, h]; rfl
theorem play_stores {g : Gam} {move : Int} (h : g.now.stores.length = 2) (hz : (play g move).2 = 0) : (play g move).1.now.stores.length = 2 := by
  by_cases h1 : 0 ≤ g.resigned
  · rw [play_6 h1] at hz; simp at hz
  by_cases h2 : g.moves.length = 120
  · rw [play_5 h1 h2] at hz; simp at hz
  by_cases h3 : (make g.rules g.now move).2 = 0
  · rw [play_0 h1 h2 h3]; exact (okP_bd (make_ok h3).2.2.2.1).2.2.2.1
  · rw [play_c h1 h2 h3] at hz; exact absurd hz h3
end Go.Proofs.Ytejnmechnhgmfaa.M

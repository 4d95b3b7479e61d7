/- More plain mathematics of the game: what the code goes through. -/
import Derived.Test.YtejnmechnhgmfaaZpM2
set_option linter.unusedSimpArgs false
set_option linter.unusedVariables false
namespace Go.Proofs.Ytejnmechnhgmfaa.M
def mvT (r : Rul) (player : Int) : Nat → Int → Sw → List Int → Bool × Sw × List Int
  | 0, _, s, path => (false, s, path)
  | n + 1, frm, s, path =>
    if more r (lap r player frm s path).1 = true then mvT r player n (lap r player frm s path).1.last (lap r player frm s path).1 (lap r player frm s path).2
    else (true, lap r player frm s path)
theorem mvT_yes {r : Rul} {player frm : Int} {n : Nat} {s : Sw} {path : List Int} (h : more r (lap r player frm s path).1 = true) :
    mvT r player (n + 1) frm s path = mvT r player n (lap r player frm s path).1.last (lap r player frm s path).1 (lap r player frm s path).2 := by rw [mvT, if_pos h]
theorem mvT_no {r : Rul} {player frm : Int} {n : Nat} {s : Sw} {path : List Int} (h : more r (lap r player frm s path).1 = false) :
    mvT r player (n + 1) frm s path = (true, lap r player frm s path) := by rw [mvT, if_neg (by simp [h])]
theorem mv_T (r : Rul) (player : Int) : ∀ (n : Nat) (frm : Int) (s : Sw) (path : List Int), mv r player n frm s path = if (mvT r player n frm s path).1 = true then some (mvT r player n frm s path).2 else none
  | 0, _, _, _ => rfl
  | n + 1, frm, s, path => by
    rw [mv]
    split
    · rename_i h; rw [mvT_yes h]; exact mv_T r player n _ _ _
    · rename_i h; rw [mvT_no (by simpa using h)]; rfl
theorem more_get {r : Rul} {s : Sw} (h : more r s = true) : 0 ≤ s.last ∧ 1 < getI s.pits s.last := by
  simp [more] at h; exact ⟨h.1.2, h.2⟩
theorem sowMove_code {r : Rul} {p : Pos} {move : Int} (h : sowCode r p move ≠ 0) : sowMove r p move = (sowCode r p move, Sw.zero, []) := by unfold sowMove; rw [if_pos h]
theorem sowMove_end {r : Rul} {p : Pos} {move : Int} (h : sowCode r p move = 0) (hm : (mvT r p.player 100 (p.player * r.pits + move) ⟨p.pits, p.stores, 0, 0⟩ []).1 = false) : sowMove r p move = (10, Sw.zero, []) := by
  unfold sowMove; rw [if_neg (by simp [h]), mv_T, if_neg (by simp [hm])]
theorem sowMove_yes {r : Rul} {p : Pos} {move : Int} (h : sowCode r p move = 0) (hm : (mvT r p.player 100 (p.player * r.pits + move) ⟨p.pits, p.stores, 0, 0⟩ []).1 = true) :
    sowMove r p move = (0, (mvT r p.player 100 (p.player * r.pits + move) ⟨p.pits, p.stores, 0, 0⟩ []).2.1, (mvT r p.player 100 (p.player * r.pits + move) ⟨p.pits, p.stores, 0, 0⟩ []).2.2) := by
  unfold sowMove; rw [if_neg (by simp [h]), mv_T, if_pos hm]
theorem sowCode_ok {r : Rul} {p : Pos} {move : Int} (hc : sowCode r p move = 0) : okP r p = true ∧ 0 ≤ move ∧ move < r.pits ∧ 0 < getI p.pits (p.player * r.pits + move) := by
  have ho : okP r p = true := by
    cases h : okP r p
    · simp [sowCode, h] at hc
    · rfl
  have hm : betw move 0 (r.pits - 1) = true := by
    cases h : betw move 0 (r.pits - 1)
    · simp [sowCode, h, ho] at hc
    · rfl
  have hn : getI p.pits (p.player * r.pits + move) ≠ 0 := fun h => by simp [sowCode, ho, hm, h] at hc
  obtain ⟨m0, m1⟩ := betw_iff.1 hm
  have hg := (Good.of_ok ho).pit (p.player * r.pits + move)
  exact ⟨ho, m0, by omega, by omega⟩
theorem done_good {r : Rul} {p : Pos} {move : Int} (h : (done r p move).2 = 0) : okP r p = true ∧ 0 ≤ move ∧ move < r.pits ∧ Good r (done r p move).1.pits (done r p move).1.stores 0 := by
  obtain ⟨h1, h2⟩ := done_ok h
  obtain ⟨a, b, c, d, e, f, g⟩ := sowMove_ok h1
  obtain ⟨_, _, _, _, _, _, q⟩ := okP_bd a
  rw [h2]
  exact ⟨a, b, c, (take_keeps q d f).1⟩
theorem make_yes {r : Rul} {p : Pos} {move : Int} (h : (done r p move).2 = 0) : make r p move = (resOf r p move (done r p move).1, 0) := by unfold make; rw [if_neg (by simp [h])]
theorem make_no {r : Rul} {p : Pos} {move : Int} (h : (done r p move).2 ≠ 0) : make r p move = (Res.zero, (done r p move).2) := by unfold make; rw [if_pos h]
theorem make_zero {r : Rul} {p : Pos} {move : Int} (h : (make r p move).2 ≠ 0) : (make r p move).1 = Res.zero := by
  by_cases hd : (done r p move).2 = 0
  · rw [make_yes hd] at h; exact absurd rfl h
  · rw [make_no hd]
theorem make_code {r : Rul} {p : Pos} {move : Int} : (make r p move).2 = (done r p move).2 := by
  by_cases hd : (done r p move).2 = 0
  · rw [make_yes hd, hd]
  · rw [make_no hd]
theorem resultsTo_yes {r : Rul} {p : Pos} {k : Nat} (h : (done r p k).2 = 0) : resultsTo r p (k + 1) = resultsTo r p k ++ [resOf r p k (done r p k).1] := by
  rw [resultsTo, make_yes h]; simp
theorem resultsTo_no {r : Rul} {p : Pos} {k : Nat} (h : (done r p k).2 ≠ 0) : resultsTo r p (k + 1) = resultsTo r p k := by
  rw [resultsTo, if_neg (by rw [make_code]; exact h)]; simp
theorem resultsTo_mem {r : Rul} {p : Pos} {x : Res} : ∀ {n : Nat}, x ∈ resultsTo r p n ↔ ∃ m : Nat, m < n ∧ (make r p m).2 = 0 ∧ x = (make r p m).1
  | 0 => by simp [resultsTo]
  | n + 1 => by
    rw [resultsTo, List.mem_append, resultsTo_mem]
    constructor
    · rintro (⟨m, h1, h2, h3⟩ | h)
      · exact ⟨m, by omega, h2, h3⟩
      · split at h
        · rename_i hz
          exact ⟨n, by omega, hz, by simpa using h⟩
        · simp at h
    · rintro ⟨m, h1, h2, h3⟩
      by_cases e : m = n
      · subst e; right; rw [if_pos h2]; simp [h3]
      · exact .inl ⟨m, by omega, h2, h3⟩
theorem resultsTo_len {r : Rul} {p : Pos} : ∀ n : Nat, (resultsTo r p n).length ≤ n
  | 0 => by simp [resultsTo]
  | n + 1 => by
    have := resultsTo_len (r := r) (p := p) n
    rw [resultsTo, List.length_append]
    split <;> simp <;> omega
theorem results_get {r : Rul} {p : Pos} {k : Nat} {y : Res} {move : Int} (h : (results r p)[k]? = some y) (hm : y.move = move) : y = (make r p move).1 := by
  obtain ⟨m, _, h2, h3⟩ := resultsTo_mem.1 (List.mem_of_getElem? h)
  have h4 := (make_ok h2).2.2.2.2.1
  rw [← h3, hm] at h4
  rw [h4]; exact h3
theorem results_has {r : Rul} {p : Pos} {move : Int} (h : (make r p move).2 = 0) : ∃ j, j < (results r p).length ∧ (results r p)[j]? = some (make r p move).1 ∧ (make r p move).1.move = move := by
  obtain ⟨_, m0, m1, _, hm, _⟩ := make_ok h
  have e : ((move.toNat : Nat) : Int) = move := Int.toNat_of_nonneg m0
  have hmem : (make r p move).1 ∈ results r p := resultsTo_mem.2 ⟨move.toNat, by omega, by rw [e]; exact h, by rw [e]⟩
  obtain ⟨j, hj, hx⟩ := List.getElem_of_mem hmem
  exact ⟨j, hj, by rw [List.getElem?_eq_getElem hj, hx], hm⟩
end Go.Proofs.Ytejnmechnhgmfaa.M

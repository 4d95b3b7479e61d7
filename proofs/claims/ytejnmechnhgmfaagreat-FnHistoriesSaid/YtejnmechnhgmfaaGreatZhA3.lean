/- Plain mathematics: what a game gains, moves in two parts, seeds of a game. -/
import Derived.Test.YtejnmechnhgmfaaGreatZhA2
set_option linter.unusedSimpArgs false
set_option linter.unusedVariables false
namespace Go.Proofs.YtejnmechnhgmfaaGreat.M
theorem sow_oth (r : Rul) {player frm : Int} (hp : 0 ≤ player) {j : Int} (h0 : 0 ≤ j) (hj : j ≠ player) : ∀ (n : Nat) (place : Int) (ps ss path : List Int), getI (sow r player frm n place ps ss path).2.2.1 j = getI ss j
  | 0, _, _, _, _ => rfl
  | n + 1, place, ps, ss, path => by
    rw [sow_succ rfl]
    split
    · rw [sow_oth r hp h0 hj n, getI_setI_other hp h0 (fun e => hj e.symm)]
    · rw [sow_oth r hp h0 hj n]
theorem mv_oth (r : Rul) {player : Int} (hp : 0 ≤ player) {j : Int} (h0 : 0 ≤ j) (hj : j ≠ player) : ∀ (n : Nat) (frm : Int) (s : Sw) (path : List Int) (x : Sw × List Int), mv r player n frm s path = some x → getI x.1.stores j = getI s.stores j
  | 0, _, _, _, _, h => by simp [mv] at h
  | n + 1, frm, s, path, x, h => by
    have hl : getI (lap r player frm s path).1.stores j = getI s.stores j := sow_oth r hp h0 hj _ _ _ _ _
    rw [mv] at h
    split at h
    · rw [mv_oth r hp h0 hj n _ _ _ _ h, hl]
    · injection h with h
      rw [← h, hl]
theorem make_oth {r : Rul} {p : Pos} {move j : Int} (h : (make r p move).2 = 0) (h0 : 0 ≤ j) (hj : j ≠ p.player) : getI (make r p move).1.next.stores j = getI p.stores j := by
  have hd : (done r p move).2 = 0 := make_code ▸ h
  obtain ⟨hs, e⟩ := done_ok hd
  obtain ⟨ho, m0, m1, _⟩ := sowMove_ok hs
  have hp : 0 ≤ p.player := by have := (okP_bd ho).2.2.2.2.2.2; omega
  rw [make_yes hd]
  show getI (done r p move).1.stores j = _
  rw [e]
  show getI (setI _ p.player _) j = _
  rw [getI_setI_other hp h0 (fun e => hj e.symm)]
  have hc : sowCode r p move = 0 := by
    apply Classical.byContradiction
    intro hc
    rw [sowMove_code hc] at hs
    exact hc hs
  unfold sowMove at hs ⊢
  rw [if_neg (by simpa using hc)] at hs ⊢
  cases hmv : mv r p.player 100 (p.player * r.pits + move) ⟨p.pits, p.stores, 0, 0⟩ [] with
  | none => rw [hmv] at hs; simp at hs
  | some x => exact mv_oth r hp h0 hj _ _ _ _ _ hmv
theorem isum_two : ∀ {l : List Int}, l.length = 2 → isum l = getI l 0 + getI l 1
  | [a, b], _ => by simp [isum, getI, nth]
theorem make_gn {r : Rul} {p : Pos} {move : Int} (h : (make r p move).2 = 0) :
    (make r p move).1.gain = isum (make r p move).1.next.stores - isum p.stores ∧ -96 ≤ (make r p move).1.gain ∧ (make r p move).1.gain ≤ 96 := by
  obtain ⟨ho, m0, m1, hn, _, _⟩ := make_ok h
  obtain ⟨_, _, _, s2, _, a2, pl⟩ := okP_bd ho
  obtain ⟨_, _, _, t2, _, b2, _⟩ := okP_bd hn
  have hg : (make r p move).1.gain = getI (make r p move).1.next.stores p.player - getI p.stores p.player := by
    have hd : (done r p move).2 = 0 := make_code ▸ h
    rw [make_yes hd]; rfl
  have v1 := allOk_getI a2 p.player
  have v2 := allOk_getI b2 p.player
  refine ⟨?_, by omega, by omega⟩
  rw [hg, isum_two s2, isum_two t2]
  rcases pl with e | e
  · have := make_oth h (j := 1) (by omega) (by omega); rw [e]; omega
  · have := make_oth h (j := 0) (by omega) (by omega); rw [e]; omega
theorem gains_sum (r : Rul) : ∀ (a : List Int) (p : Pos), isum (gains (runs r p a)) = isum (lastPos p (runs r p a)).stores - isum p.stores
  | [], p => by simp [runs, gains, isum, lastPos]
  | m :: ms, p => by
    rw [runs]
    split
    · rename_i h
      have ih := gains_sum r ms (make r p m).1.next
      have hg := (make_gn h).1
      show (make r p m).1.gain + isum (gains (runs r (make r p m).1.next ms)) = isum (lastPos (make r p m).1.next _).stores - _
      rw [ih, hg]; omega
    · simp [gains, isum, lastPos]
theorem gains_bd (r : Rul) : ∀ (a : List Int) (p : Pos), ∀ x ∈ gains (runs r p a), -96 ≤ x ∧ x ≤ 96
  | [], p, x, hx => by simp [runs, gains] at hx
  | m :: ms, p, x, hx => by
    rw [runs] at hx
    split at hx
    · rename_i h
      rcases List.mem_cons.1 hx with rfl | hx
      · exact (make_gn h).2
      · exact gains_bd r ms _ x hx
    · simp [gains] at hx
theorem isum_take {l : List Int} {k : Nat} (h : k < l.length) : isum (l.take (k + 1)) = isum (l.take k) + nth l k := by
  rw [take_nth h]
  generalize l.take k = a
  generalize nth l k = v
  induction a with
  | nil => simp [isum]
  | cons x a ih => simp only [List.cons_append, isum, ih]; omega
structure Hist (g : Gam) : Prop where
  ok : okG g = true
  len : (histR g).length = g.moves.length + 1
  first : (histR g)[0]? = some g.start
  last : (histR g)[g.moves.length]? = some g.now
  sum : isum (gainsR g) = isum g.now.stores - isum g.start.stores
  bd : ∀ x ∈ gainsR g, -96 ≤ x ∧ x ≤ 96
  cnt : 1 ≤ count g.now (playedP g)
theorem hist_of {g : Gam} (h : okG g = true) : Hist g := by
  obtain ⟨k1, k2, k3, k4, k5, k6, k7, k8, k9⟩ := okG_parts h
  have hl := hist_last g.start (runs g.rules g.start g.moves)
  rw [k8, ← k9] at hl
  refine ⟨h, ?_, ?_, ?_, ?_, ?_, ?_⟩
  · rw [histR_yes h, k6, hist_length, k8]
  · rw [histR_yes h, k6]; rfl
  · rw [histR_yes h, k6]; exact hl
  · rw [gainsR_yes h, k7, gains_sum, ← k9]
  · rw [gainsR_yes h, k7]; exact gains_bd _ _ _
  · rw [k6]
    have hm : g.now ∈ (hist g.start (runs g.rules g.start g.moves)).filter (fun q => sameP q g.now) := List.mem_filter.2 ⟨List.mem_of_getElem? hl, sameP_of rfl⟩
    have := List.length_pos_of_mem hm
    unfold count; omega
theorem play_okG {g : Gam} {move : Int} (h : okG g = true) (hz : (play g move).2 = 0) : okG (play g move).1 = true := (played h hz).ok
theorem plays_le : ∀ (ms : List Int) (g : Gam), (plays g ms).2 ≤ ms.length
  | [], g => by simp [plays]
  | m :: ms, g => by
    rw [plays]; split
    · have := plays_le ms (play g m).1; simp; omega
    · simp
theorem plays_ok : ∀ (ms : List Int) (g : Gam), okG g = true → okG (plays g ms).1 = true
  | [], g, h => h
  | m :: ms, g, h => by
    rw [plays]; split
    · rename_i hz; exact plays_ok ms _ (play_okG h hz)
    · exact h
theorem plays_split : ∀ (ms : List Int) (g : Gam) (k : Nat), k ≤ (plays g ms).2 → (plays g (ms.take k)).2 = k ∧ plays (plays g (ms.take k)).1 (ms.drop k) = ((plays g ms).1, (plays g ms).2 - k)
  | ms, g, 0, _ => by simp [plays]
  | [], g, k + 1, h => by simp [plays] at h
  | m :: ms, g, k + 1, h => by
    rw [plays] at h
    by_cases hz : (play g m).2 = 0
    · rw [if_pos hz] at h
      have ih := plays_split ms (play g m).1 k (by simpa using h)
      rw [List.take_succ_cons, List.drop_succ_cons, plays, if_pos hz, plays, if_pos hz]
      refine ⟨by simp [ih.1], ?_⟩
      simp only
      rw [ih.2]
      simp
    · rw [if_neg hz] at h; simp at h
structure Split (g : Gam) (ms : List Int) (k : Nat) : Prop where
  a1 : playsR g (ms.take k) = ((plays g (ms.take k)).1, k, 0)
  b1 : playsR (plays g (ms.take k)).1 (ms.drop k) = ((playsR g ms).1, (playsR g ms).2.1 - k, 0)
theorem split_of {g : Gam} {ms : List Int} {k : Nat} (h : okG g = true) (hk : k ≤ (playsR g ms).2.1) : Split g ms k := by
  rw [playsR_yes h] at hk
  obtain ⟨e1, e2⟩ := plays_split ms g k hk
  refine ⟨?_, ?_⟩
  · rw [playsR_yes h, e1]
  · rw [playsR_yes (plays_ok _ _ h), e2, playsR_yes h]
theorem playsR_ok {g : Gam} {ms : List Int} (h : (playsR g ms).2.2 = 0) : okG g = true := by
  cases hg : okG g
  · rw [playsR_no hg] at h; simp at h
  · rfl
theorem playsR_le (g : Gam) (ms : List Int) : (playsR g ms).2.1 ≤ ms.length := by
  cases hg : okG g
  · rw [playsR_no hg]; simp
  · rw [playsR_yes hg]; exact plays_le _ _
end Go.Proofs.YtejnmechnhgmfaaGreat.M


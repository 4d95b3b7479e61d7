/- Plain mathematics: games that begin, and games that are resigned. -/
import Derived.Test.YtejnmechnhgmfaaGreatZpA2
set_option linter.unusedSimpArgs false
set_option linter.unusedVariables false
namespace Go.Proofs.YtejnmechnhgmfaaGreat.M
def freshG (r : Rul) (p : Pos) : Gam := ⟨r, p, [], p, -1⟩
def fromG (r : Rul) (p : Pos) : Gam × Int := if okP r p = true then (freshG r p, 0) else (Gam.zero, 1)
theorem fromG_1 {r : Rul} {p : Pos} (h : okP r p = false) : fromG r p = (Gam.zero, 1) := by unfold fromG; rw [if_neg (by simp [h])]
theorem fromG_0 {r : Rul} {p : Pos} (h : okP r p = true) : fromG r p = (freshG r p, 0) := by unfold fromG; rw [if_pos h]
theorem isum_rep (s : Int) : ∀ n : Nat, isum (List.replicate n s) = n * s
  | 0 => by simp [isum]
  | n + 1 => by rw [List.replicate_succ]; simp only [isum]; rw [isum_rep s n, Int.natCast_succ, Int.add_mul]; omega
theorem allOk_rep {s : Int} (h0 : 0 ≤ s) (h1 : s ≤ 96) (n : Nat) : allOk (List.replicate n s) = true := by
  unfold allOk; rw [List.all_eq_true]; intro x hx; rw [(List.mem_replicate.1 hx).2]; exact betw_iff.2 ⟨h0, h1⟩
theorem startP_ok {r : Rul} (h : okR r = true) : okP r (startP r) = true := by
  obtain ⟨a, b, c, d⟩ := okR_bd h
  have hm : ((2 * r.pits).toNat : Int) * r.seeds ≤ 96 := by
    have e : ((2 * r.pits).toNat : Int) = 2 * r.pits := by omega
    rw [e]
    have h1 : 2 * r.pits * r.seeds ≤ 16 * r.seeds := Int.mul_le_mul_of_nonneg_right (by omega) (by omega)
    omega
  unfold okP startP
  simp only [h, Bool.true_and, Bool.and_eq_true, decide_eq_true_eq, Bool.or_eq_true, List.length_replicate, isum_rep]
  refine ⟨⟨⟨⟨⟨by omega, by simp⟩, by simp⟩, allOk_rep (by omega) (by omega) _⟩, by decide⟩, ?_⟩
  show _ + isum [0, 0] ≤ 96
  rw [show isum [0, 0] = 0 from rfl]; omega
def newG (r : Rul) : Gam × Int := if okR r = true then (freshG r (startP r), 0) else (Gam.zero, 1)
theorem newG_1 {r : Rul} (h : okR r = false) : newG r = (Gam.zero, 1) := by unfold newG; rw [if_neg (by simp [h])]
theorem newG_0 {r : Rul} (h : okR r = true) : newG r = (freshG r (startP r), 0) := by unfold newG; rw [if_pos h]
theorem newG_from {r : Rul} (h : okR r = true) : newG r = fromG r (startP r) := by rw [newG_0 h, fromG_0 (startP_ok h)]
theorem fresh_ok {r : Rul} {p : Pos} (h : okP r p = true) : okG (freshG r p) = true := by
  unfold okG freshG
  simp [h, runs, lastPos, betw]
theorem fromG_ok {r : Rul} {p : Pos} (h : (fromG r p).2 = 0) : okP r p = true ∧ (fromG r p).1 = freshG r p ∧ okG (fromG r p).1 = true := by
  cases hp : okP r p
  · rw [fromG_1 hp] at h; simp at h
  · rw [fromG_0 hp]; exact ⟨rfl, rfl, fresh_ok hp⟩
theorem fromG_small (r : Rul) (p : Pos) : Small (fromG r p).1 := by
  cases hp : okP r p
  · rw [fromG_1 hp]; exact Small.zero
  · rw [fromG_0 hp]; exact Small.ok (fresh_ok hp)
theorem newG_small (r : Rul) : Small (newG r).1 := by
  cases hr : okR r
  · rw [newG_1 hr]; exact Small.zero
  · rw [newG_from hr]; exact fromG_small _ _
theorem begun (r : Rul) (p : Pos) : (decide ((fromG r p).2 = 0) && (!sameP (fromG r p).1.now p || !okG (fromG r p).1)) = false := by
  by_cases h : (fromG r p).2 = 0
  · obtain ⟨_, h2, h3⟩ := fromG_ok h
    rw [h3, h2]
    simp [freshG, sameP_of]
  · simp [h]
theorem resign_pl {g : Gam} {player : Int} (h : (resign g player).2 = 0) : player = 0 ∨ player = 1 := by
  cases hg : okG g
  · rw [resign_1 hg] at h; simp at h
  cases hp : isPl player
  · rw [resign_2 hg hp] at h; simp at h
  simpa [isPl] using hp
structure Resigned (g : Gam) (player : Int) : Prop where
  ok : okG (resign g player).1 = true
  play : playR (resign g player).1 0 = (Gam.zero, 6)
  endc : endC (resign g player).1 = 0
  win : winner (resign g player).1 = 1 - player
theorem resigned {g : Gam} {player : Int} (h : (resign g player).2 = 0) : Resigned g player := by
  cases hg : okG g
  · rw [resign_1 hg] at h; simp at h
  cases hp : isPl player
  · rw [resign_2 hg hp] at h; simp at h
  by_cases hr : 0 ≤ g.resigned
  · rw [resign_6 hg hp hr] at h; simp at h
  have e := resign_0 hg hp hr
  have hpl : player = 0 ∨ player = 1 := by simpa [isPl] using hp
  have hok : okG ⟨g.rules, g.start, g.moves, g.now, player⟩ = true := by
    unfold okG at hg ⊢
    simp only [Bool.and_eq_true] at hg ⊢
    obtain ⟨⟨⟨⟨a, b⟩, _⟩, d⟩, f⟩ := hg
    exact ⟨⟨⟨⟨a, b⟩, betw_iff.2 (by omega)⟩, d⟩, f⟩
  have h0 : 0 ≤ (⟨g.rules, g.start, g.moves, g.now, player⟩ : Gam).resigned := by show 0 ≤ player; omega
  have hc : endC ⟨g.rules, g.start, g.moves, g.now, player⟩ = 0 := endC_0 hok (by rw [endOf_1 h0]; decide)
  refine ⟨?_, ?_, ?_, ?_⟩ <;> rw [e]
  · exact hok
  · rw [playR_yes hok, play_6 h0]
  · exact hc
  · exact winner_r hc h0
end Go.Proofs.YtejnmechnhgmfaaGreat.M


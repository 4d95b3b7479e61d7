/- What moves keep: plain mathematics. -/
import Derived.Test.YtejnmechnhgmfaaZpM
set_option linter.unusedSimpArgs false
set_option linter.unusedVariables false
namespace Go.Proofs.Ytejnmechnhgmfaa.M
theorem nth_getI (l : List Int) (k : Nat) : getI l (k : Int) = nth l k := by simp [getI]
theorem Good.ok {r : Rul} {ps ss : List Int} {n : Int} (h : Good r ps ss n) : allOk ps = true ∧ allOk ss = true := by
  unfold allOk
  rw [List.all_eq_true, List.all_eq_true]
  refine ⟨fun x hx => ?_, fun x hx => ?_⟩
  · obtain ⟨k, hk, rfl⟩ := List.getElem_of_mem hx
    have := h.pit (k : Int)
    rw [nth_getI] at this
    simp [nth, List.getD, hk] at this
    exact betw_iff.2 this
  · obtain ⟨k, hk, rfl⟩ := List.getElem_of_mem hx
    have := h.store (k : Int)
    rw [nth_getI] at this
    simp [nth, List.getD, hk] at this
    exact betw_iff.2 this
theorem takeL_keeps {r : Rul} {player : Int} (p0 : 0 ≤ player) (p1 : player < 2) : ∀ (l ps ss : List Int), Good r ps ss 0 → (∀ x ∈ l, 0 ≤ x ∧ x < 2 * r.pits) →
    Good r (takeL player l ps ss).1 (takeL player l ps ss).2 0 ∧ isum (takeL player l ps ss).1 + isum (takeL player l ps ss).2 = isum ps + isum ss
  | [], ps, ss, h, _ => ⟨h, rfl⟩
  | x :: l, ps, ss, h, hl => by
    obtain ⟨x0, x1⟩ := hl x (by simp)
    have g := h.takeStep x0 x1 p0 p1
    obtain ⟨a, b⟩ := takeL_keeps p0 p1 l _ _ g (fun y hy => hl y (by simp [hy]))
    have lp := h.lp
    have ls := h.ls
    refine ⟨a, ?_⟩
    rw [takeL, b, isum_setI x0 (by omega), isum_setI p0 (by omega)]
    omega
theorem take_keeps {r : Rul} {s : Sw} {player : Int} (hp : player = 0 ∨ player = 1) (hG : Good r s.pits s.stores 0) (h1 : s.last < 2 * r.pits) :
    Good r (take r s player).pits (take r s player).stores 0 ∧ isum (take r s player).pits + isum (take r s player).stores = isum s.pits + isum s.stores := by
  have e := take_eq (r := r) (s := s) (player := player) h1 (by omega) (by have := hG.ls; omega)
  have k := takeL_keeps (r := r) (player := player) (by omega) (by omega) (captured r s player) s.pits s.stores hG (fun x hx => captured_mem h1 hx)
  rw [e] at k
  exact k
theorem sowMove_ok {r : Rul} {p : Pos} {move : Int} (h : (sowMove r p move).1 = 0) :
    okP r p = true ∧ 0 ≤ move ∧ move < r.pits ∧ Good r (sowMove r p move).2.1.pits (sowMove r p move).2.1.stores 0 ∧ -1 ≤ (sowMove r p move).2.1.last ∧ (sowMove r p move).2.1.last < 2 * r.pits ∧
      isum (sowMove r p move).2.1.pits + isum (sowMove r p move).2.1.stores = isum p.pits + isum p.stores := by
  unfold sowMove at *
  by_cases hc : sowCode r p move = 0
  case neg => rw [if_pos hc] at h; exact absurd h hc
  rw [if_neg (by simpa using hc)] at h ⊢
  have ho : okP r p = true := by
    cases h : okP r p
    · simp [sowCode, h] at hc
    · rfl
  have hm : betw move 0 (r.pits - 1) = true := by
    cases h : betw move 0 (r.pits - 1)
    · simp [sowCode, h, ho] at hc
    · rfl
  obtain ⟨m0, m1⟩ := betw_iff.1 hm
  obtain ⟨r1, r2, g1, g2, g3, g4, g5⟩ := okP_bd ho
  have q : 0 ≤ p.player * r.pits ∧ p.player * r.pits ≤ r.pits := by
    rcases g5 with e | e <;> rw [e] <;> omega
  cases hmv : mv r p.player 100 (p.player * r.pits + move) ⟨p.pits, p.stores, 0, 0⟩ [] with
  | none => rw [hmv] at h; simp at h
  | some x =>
    obtain ⟨a, b, c, d, f⟩ := mv_keeps r r2 r1 g5 100 _ _ _ x (by omega) (by omega) (Good.of_ok ho) hmv
    exact ⟨ho, m0, by omega, a, b, c, f⟩
theorem done_ok {r : Rul} {p : Pos} {move : Int} (h : (done r p move).2 = 0) :
    (sowMove r p move).1 = 0 ∧ (done r p move).1 = take r (sowMove r p move).2.1 p.player := by
  unfold done at *
  by_cases hc : (sowMove r p move).1 = 0
  case neg => rw [if_pos hc] at h; exact absurd h hc
  refine ⟨hc, ?_⟩
  rw [if_neg (by simpa using hc)] at h ⊢
  split at h
  · simp at h
  · rename_i hh; rw [if_neg hh]
theorem okP_of {r : Rul} {p : Pos} (h : okR r = true) (hp : p.player = 0 ∨ p.player = 1) (hG : Good r p.pits p.stores 0) : okP r p = true := by
  obtain ⟨a, b⟩ := hG.ok
  have c := hG.all
  unfold okP
  simp only [Bool.and_eq_true, decide_eq_true_eq, Bool.or_eq_true]
  exact ⟨⟨⟨⟨⟨⟨h, hG.lp⟩, by have := hG.ls; omega⟩, hp⟩, a⟩, b⟩, by omega⟩
theorem make_ok {r : Rul} {p : Pos} {move : Int} (h : (make r p move).2 = 0) :
    okP r p = true ∧ 0 ≤ move ∧ move < r.pits ∧ okP r (make r p move).1.next = true ∧ (make r p move).1.move = move ∧
      isum (make r p move).1.next.pits + isum (make r p move).1.next.stores = isum p.pits + isum p.stores := by
  unfold make at *
  by_cases hc : (done r p move).2 = 0
  case neg => rw [if_pos hc] at h; exact absurd h hc
  rw [if_neg (by simpa using hc)]
  obtain ⟨hs, e⟩ := done_ok hc
  obtain ⟨ho, m0, m1, hG, l0, l1, hi⟩ := sowMove_ok hs
  obtain ⟨r1, r2, g1, g2, g3, g4, g5⟩ := okP_bd ho
  obtain ⟨k, hk⟩ := take_keeps g5 hG l1
  rw [← e] at k hk
  refine ⟨ho, m0, m1, okP_of (okP_okR ho) ?_ k, rfl, by show isum (done r p move).1.pits + isum (done r p move).1.stores = _; rw [hk, hi]⟩
  simp only [resOf]
  split <;> omega
end Go.Proofs.Ytejnmechnhgmfaa.M

/- Plain mathematics of games: what is replayed, what is counted; the reference's ways. -/
import Derived.Test.YtejnmechnhgmfaaZpM3
set_option linter.unusedSimpArgs false
set_option linter.unusedVariables false
namespace Go.Proofs.Ytejnmechnhgmfaa.M
theorem runs_append (r : Rul) : ∀ (a b : List Int) (p : Pos), (runs r p a).length = a.length → runs r p (a ++ b) = runs r p a ++ runs r (lastPos p (runs r p a)) b
  | [], b, p, _ => by simp [runs, lastPos]
  | m :: a, b, p, h => by
    simp only [List.cons_append, runs] at h ⊢
    by_cases hm : (make r p m).2 = 0
    · rw [if_pos hm] at h ⊢
      rw [if_pos hm, runs_append r a b _ (by simpa using h)]
      simp [lastPos]
    · rw [if_neg hm] at h; simp at h
theorem runs_len (r : Rul) : ∀ (a : List Int) (p : Pos), (runs r p a).length ≤ a.length
  | [], p => by simp [runs]
  | m :: a, p => by
    simp only [runs]
    split
    · have := runs_len r a (make r p m).1.next; simp; omega
    · simp
theorem lastPos_snoc (p : Pos) : ∀ (l : List Res) (x : Res), lastPos p (l ++ [x]) = x.next
  | [], x => rfl
  | y :: l, x => by simp only [List.cons_append, lastPos]; exact lastPos_snoc y.next l x
theorem hist_snoc (p : Pos) (l : List Res) (x : Res) : hist p (l ++ [x]) = hist p l ++ [x.next] := by simp [hist]
@[simp] theorem hist_length (p : Pos) (l : List Res) : (hist p l).length = l.length + 1 := by simp [hist]
theorem hist_last (p : Pos) : ∀ (l : List Res), (hist p l)[l.length]? = some (lastPos p l)
  | [] => rfl
  | x :: l => by have := hist_last x.next l; simp only [hist, List.map_cons, List.length_cons, List.getElem?_cons_succ] at this ⊢; exact this
structure Run (r : Rul) (p : Pos) (moves : List Int) (k : Nat) (now : Pos) (made : List Res) : Prop where
  eq : runs r p (moves.take k) = made
  len : made.length = k
  le : k ≤ moves.length
  now_ : now = lastPos p made
theorem Run.zero (r : Rul) (p : Pos) (moves : List Int) : Run r p moves 0 p [] := ⟨rfl, rfl, Nat.zero_le _, rfl⟩
theorem Run.step {r : Rul} {p now : Pos} {moves : List Int} {k : Nat} {made : List Res} (h : Run r p moves k now made) (hk : k < moves.length) (hm : (make r now (nth moves k)).2 = 0) :
    Run r p moves (k + 1) (make r now (nth moves k)).1.next (made ++ [(make r now (nth moves k)).1]) := by
  obtain ⟨e, l, _, n⟩ := h
  refine ⟨?_, by simp [l], hk, (lastPos_snoc _ _ _).symm⟩
  rw [take_nth hk, runs_append r _ _ _ (by rw [e, l, List.length_take]; omega), e, ← n, runs, if_pos hm]
  rfl
theorem Run.fail {r : Rul} {p now : Pos} {moves : List Int} {k : Nat} {made : List Res} (h : Run r p moves k now made) (hk : k < moves.length) (hm : (make r now (nth moves k)).2 ≠ 0) :
    runs r p moves = made ∧ (runs r p moves).length ≠ moves.length := by
  obtain ⟨e, l, _, n⟩ := h
  have : runs r p moves = made := by
    conv => lhs; rw [← List.take_append_drop k moves]
    rw [runs_append r _ _ _ (by rw [e, l, List.length_take]; omega), e, ← n, drop_nth hk, runs, if_neg hm, List.append_nil]
  exact ⟨this, by rw [this, l]; omega⟩
theorem Run.done {r : Rul} {p now : Pos} {moves : List Int} {k : Nat} {made : List Res} (h : Run r p moves k now made) (hk : moves.length ≤ k) : runs r p moves = made ∧ made.length = moves.length ∧ now = lastPos p made := by
  obtain ⟨e, l, l2, n⟩ := h
  rw [List.take_of_length_le hk] at e
  exact ⟨e, by omega, n⟩
def playedOk (g : Gam) : Bool := decide ((runs g.rules g.start g.moves).length = g.moves.length)
def playedP (g : Gam) : List Pos := if playedOk g = true then hist g.start (runs g.rules g.start g.moves) else []
def playedR (g : Gam) : List Res := if playedOk g = true then runs g.rules g.start g.moves else []
theorem Run.played {g : Gam} {now : Pos} {k : Nat} {made : List Res} (h : Run g.rules g.start g.moves k now made) (hk : g.moves.length ≤ k) : playedOk g = true ∧ playedP g = hist g.start made ∧ playedR g = made := by
  obtain ⟨a, b, _⟩ := h.done hk
  have : playedOk g = true := by simp [playedOk, a, b]
  exact ⟨this, by unfold playedP; rw [if_pos this, a], by unfold playedR; rw [if_pos this, a]⟩
theorem Run.broken {g : Gam} {now : Pos} {k : Nat} {made : List Res} (h : Run g.rules g.start g.moves k now made) (hk : k < g.moves.length) (hm : (make g.rules now (nth g.moves k)).2 ≠ 0) : playedOk g = false ∧ playedP g = [] ∧ playedR g = [] := by
  obtain ⟨_, b⟩ := h.fail hk hm
  have : playedOk g = false := by simp [playedOk, b]
  exact ⟨this, by unfold playedP; rw [if_neg (by simp [this])], by unfold playedR; rw [if_neg (by simp [this])]⟩
theorem okG_parts {g : Gam} (h : okG g = true) : okP g.rules g.start = true ∧ g.moves.length ≤ 120 ∧ -1 ≤ g.resigned ∧ g.resigned ≤ 1 ∧ playedOk g = true ∧ playedP g = hist g.start (runs g.rules g.start g.moves) ∧ playedR g = runs g.rules g.start g.moves ∧
    (runs g.rules g.start g.moves).length = g.moves.length ∧ g.now = lastPos g.start (runs g.rules g.start g.moves) := by
  simp only [okG, Bool.and_eq_true, decide_eq_true_eq] at h
  obtain ⟨⟨⟨⟨a, b⟩, c⟩, d⟩, e⟩ := h
  obtain ⟨c0, c1⟩ := betw_iff.1 c
  have ho : playedOk g = true := by simp [playedOk, d]
  exact ⟨a, b, c0, c1, ho, by unfold playedP; rw [if_pos ho], by unfold playedR; rw [if_pos ho], d, e.symm⟩
theorem runs_ok {r : Rul} : ∀ (a : List Int) (p : Pos), okP r p = true → ∀ x ∈ runs r p a, okP r x.next = true
  | [], p, _, x, hx => by simp [runs] at hx
  | m :: a, p, h, x, hx => by
    simp only [runs] at hx
    split at hx
    · rename_i hm
      have hn := (make_ok hm).2.2.2.1
      rcases List.mem_cons.1 hx with rfl | hx
      · exact hn
      · exact runs_ok a _ hn x hx
    · simp at hx
theorem lastPos_ok {r : Rul} : ∀ (l : List Res) (p : Pos), okP r p = true → (∀ x ∈ l, okP r x.next = true) → okP r (lastPos p l) = true
  | [], p, h, _ => h
  | x :: l, p, h, hx => lastPos_ok l x.next (hx x (by simp)) (fun y hy => hx y (by simp [hy]))
theorem okG_now {g : Gam} (h : okG g = true) : okP g.rules g.now = true := by
  obtain ⟨a, _, _, _, _, _, _, _, e⟩ := okG_parts h
  rw [e]
  exact lastPos_ok _ _ a (runs_ok _ _ a)
theorem hist_mem {p q : Pos} {l : List Res} (h : q ∈ hist p l) : q = p ∨ ∃ x ∈ l, q = x.next := by
  simp only [hist, List.mem_cons, List.mem_map] at h
  rcases h with h | ⟨x, hx, rfl⟩
  · exact .inl h
  · exact .inr ⟨x, hx, rfl⟩
theorem hist_okG {g : Gam} (h : okG g = true) {k : Nat} {q : Pos} (hk : (playedP g)[k]? = some q) : okP g.rules q = true := by
  obtain ⟨a, _, _, _, _, e, _, _, _⟩ := okG_parts h
  rw [e] at hk
  rcases hist_mem (List.mem_of_getElem? hk) with rfl | ⟨x, hx, rfl⟩
  · exact a
  · exact runs_ok _ _ a x hx
theorem okP_len {r : Rul} {p : Pos} (h : okP r p = true) : p.pits.length ≤ 4194304 ∧ p.stores.length ≤ 4194304 := by
  obtain ⟨_, b, c, d, _⟩ := okP_bd h
  omega
theorem playedP_len {g : Gam} (h : playedOk g = true) : (playedP g).length = g.moves.length + 1 ∧ (playedP g)[g.moves.length]? = some (lastPos g.start (runs g.rules g.start g.moves)) := by
  have e : (runs g.rules g.start g.moves).length = g.moves.length := by simpa [playedOk] using h
  unfold playedP
  rw [if_pos h]
  refine ⟨by simp [e], ?_⟩
  rw [← e]
  exact hist_last _ _
theorem last_len {l : List Pos} {q y : Pos} {n i : Nat} (h2 : l[n]? = some q) (hy : l[i]? = some y) (hi : i = n) (hq : q.pits.length ≤ 4194304 ∧ q.stores.length ≤ 4194304) : y.pits.length ≤ 4194304 ∧ y.stores.length ≤ 4194304 := by
  subst hi
  rw [h2] at hy
  injection hy with hy
  rw [← hy]; exact hq
theorem okG_eq (g : Gam) : okG g = (okP g.rules g.start && decide (g.moves.length ≤ 120) && betw g.resigned (-1) 1 && playedOk g && sameP (lastPos g.start (runs g.rules g.start g.moves)) g.now) := by
  rw [sameP_eq]; rfl
theorem okG_no {g : Gam} (h : okP g.rules g.start = false ∨ (120 : Int) < g.moves.length ∨ betw g.resigned (-1) 1 = false) : okG g = false := by
  rw [okG_eq]
  rcases h with h | h | h
  · simp [h]
  · simp [show ¬ g.moves.length ≤ 120 by omega]
  · simp [h]
theorem okG_yes {g : Gam} {q : Pos} {k : Nat} (h1 : okP g.rules g.start = true) (h2 : (g.moves.length : Int) ≤ 120) (h3 : betw g.resigned (-1) 1 = true) (hp : playedOk g = true) (hq : (playedP g)[k]? = some q) (hk : k = g.moves.length) : okG g = sameP q g.now := by
  subst hk
  rw [(playedP_len hp).2] at hq
  injection hq with hq
  rw [okG_eq, h1, h3, hp, hq]
  simp [show g.moves.length ≤ 120 by omega]
theorem okG_broken {g : Gam} (hp : playedOk g = false) : okG g = false := by rw [okG_eq, hp]; simp
def count (p : Pos) (l : List Pos) : Int := (l.filter (fun q => sameP q p)).length
theorem sameP_true {a b : Pos} : sameP a b = true ↔ a = b := by rw [sameP_eq]; simp
def gains (l : List Res) : List Int := l.map fun x => x.gain
@[simp] theorem gains_length (l : List Res) : (gains l).length = l.length := by simp [gains]
theorem okG_spec {g : Gam} {q : Pos} {k : Nat} (h1 : okP g.rules g.start = true) (h2 : (g.moves.length : Int) ≤ 120) (h3 : betw g.resigned (-1) 1 = true) (hq : (hist g.start (runs g.rules g.start g.moves))[k]? = some q) (hk : k = (runs g.rules g.start g.moves).length) :
    okG g = (decide (((runs g.rules g.start g.moves).length : Int) = (g.moves.length : Int)) && sameP q g.now) := by
  subst hk
  rw [hist_last] at hq
  injection hq with hq
  rw [okG_eq, h1, h3, hq]
  have e : decide (((runs g.rules g.start g.moves).length : Int) = (g.moves.length : Int)) = playedOk g := by
    unfold playedOk; rw [Bool.eq_iff_iff]; simp; omega
  rw [e]
  simp [show g.moves.length ≤ 120 by omega]
theorem betw01 {n : Int} : betw n 0 1 = isPl n := by
  rw [Bool.eq_iff_iff, betw_iff]; simp [isPl]; omega
theorem okP_no {r : Rul} {p : Pos} (h : okR r = false ∨ (p.pits.length : Int) ≠ 2 * r.pits ∨ (p.stores.length : Int) ≠ 2 ∨ betw p.player 0 1 = false) : okP r p = false := by
  rw [Bool.eq_false_iff]
  intro hx
  obtain ⟨g1, g2, g3, g4, -, -, g7⟩ := okP_bd hx
  have g8 := okP_okR hx
  rw [betw01] at h
  rcases h with h | h | h | h
  · rw [g8] at h; cases h
  · exact h g3
  · omega
  · simp [isPl] at h; omega
theorem okP_yes4 {r : Rul} {p : Pos} (h1 : okR r = true) (h2 : (p.pits.length : Int) = 2 * r.pits) (h3 : (p.stores.length : Int) = 2) (h4 : betw p.player 0 1 = true) :
    okP r p = (decide (0 ≤ sum4 p.pits) && decide (0 ≤ sum4 p.stores) && decide (sum4 p.pits + sum4 p.stores ≤ 96)) := okP_sum4 h1 h2 (by omega) (by obtain ⟨a, b⟩ := betw_iff.1 h4; omega)
theorem sum4_no {l : List Int} (h : allOk l = false) : sum4 l = -1 := by simp [sum4, h]
theorem sum4_big {l : List Int} (h : 96 < isum l) : sum4 l = -1 := by unfold sum4; rw [if_neg (by omega)]
theorem sum4_ok {l : List Int} (h : allOk l = true) (h2 : isum l ≤ 96) : sum4 l = isum l := by unfold sum4; rw [if_pos ⟨h, h2⟩]
def part (ps : List Int) (a b : Int) : Int := isum ((ps.drop a.toNat).take (b - a).toNat)
theorem part_step {ps : List Int} {a b : Int} (h0 : 0 ≤ a) (h1 : a < b) (h2 : b ≤ ps.length) : part ps a b = getI ps a + part ps (a + 1) b := by
  unfold part
  rw [drop_nth (by omega), show (b - a).toNat = (b - (a + 1)).toNat + 1 by omega, List.take_succ_cons, isum_cons, show (a + 1).toNat = a.toNat + 1 by omega]
  rfl
theorem part_end {ps : List Int} {a b : Int} (h : b ≤ a) : part ps a b = 0 := by
  unfold part
  rw [show (b - a).toNat = 0 by omega]; rfl
theorem side_part {r : Rul} {ps : List Int} {player : Int} (h : (player + 1) * r.pits = player * r.pits + r.pits) : side r ps player = part ps (player * r.pits) ((player + 1) * r.pits) := by
  unfold side part
  rw [show ((player + 1) * r.pits - player * r.pits).toNat = r.pits.toNat by omega]
theorem after_m1 {r : Rul} {player place : Int} (h : place = -1) (h0 : 0 ≤ (player + 1) * r.pits - 1) : after r player place = ((player + 1) * r.pits - 1 + 1) % (2 * r.pits) := by
  unfold after
  rw [if_neg (by omega), if_pos h]
  congr 1; omega
theorem after_end {r : Rul} {player place : Int} (h : r.stores = true ∧ place = (player + 1) * r.pits - 1) : after r player place = -1 := by unfold after; rw [if_pos ⟨h.2, h.1⟩]
theorem after_else {r : Rul} {player place : Int} (h : r.stores = true → ¬ place = (player + 1) * r.pits - 1) (h0 : place ≠ -1) : after r player place = (place + 1) % (2 * r.pits) := by
  unfold after
  rw [if_neg (fun e => h e.2 e.1), if_neg h0]
theorem sow_skip {r : Rul} {player frm place : Int} {n : Nat} {ps ss path : List Int} (hb : r.pits ≤ 8) (hc : 2 ≤ r.pits) (f0 : 0 ≤ frm) (f1 : frm < 2 * r.pits) (h : r.skip = true ∧ after r player place = frm) (hn : 0 < n) :
    sow r player frm n place ps ss path = sow r player frm n frm ps ss path := by
  obtain ⟨m, rfl⟩ : ∃ m, n = m + 1 := ⟨n - 1, by omega⟩
  have h1 := nxt_yes h
  have h2 := nxt_no (r := r) (player := player) (frm := frm) (place := frm) (fun e => after_ne r hb hc f0 f1 e.2)
  rw [sow_succ h1, sow_succ h2]
def ms (k place frm : Int) : Nat := 2 * k.toNat + (if place = frm then 0 else 1)
theorem ms_lt {k a b frm : Int} (h : 0 < k) : ms (k - 1) a frm < ms k b frm := by unfold ms; split <;> split <;> omega
theorem ms_skip {r : Rul} {player frm place k : Int} (hb : r.pits ≤ 8) (hc : 2 ≤ r.pits) (f0 : 0 ≤ frm) (f1 : frm < 2 * r.pits) (h : after r player place = frm) : ms k (after r player place) frm < ms k place frm := by
  have : place ≠ frm := fun e => after_ne r hb hc f0 f1 (player := player) (by rw [e] at h; exact h)
  unfold ms
  rw [if_pos h, if_neg this]; omega
def sowT (r : Rul) (p : Pos) (frm : Int) : Sw × List Int × Bool :=
  if (mvT r p.player 100 frm ⟨p.pits, p.stores, 0, 0⟩ []).1 = true then ((mvT r p.player 100 frm ⟨p.pits, p.stores, 0, 0⟩ []).2.1, (mvT r p.player 100 frm ⟨p.pits, p.stores, 0, 0⟩ []).2.2, true) else (Sw.zero, [], false)
theorem sowT_yes {r : Rul} {p : Pos} {frm : Int} (h : (mvT r p.player 100 frm ⟨p.pits, p.stores, 0, 0⟩ []).1 = true) : sowT r p frm = ((mvT r p.player 100 frm ⟨p.pits, p.stores, 0, 0⟩ []).2.1, (mvT r p.player 100 frm ⟨p.pits, p.stores, 0, 0⟩ []).2.2, true) := by unfold sowT; rw [if_pos h]
theorem sowT_no {r : Rul} {p : Pos} {frm : Int} (h : (mvT r p.player 100 frm ⟨p.pits, p.stores, 0, 0⟩ []).1 = false) : sowT r p frm = (Sw.zero, [], false) := by unfold sowT; rw [if_neg (by simp [h])]
theorem sowMove_T {r : Rul} {p : Pos} {move : Int} (h : sowCode r p move = 0) :
    sowMove r p move = (if (sowT r p (p.player * r.pits + move)).2.2 = true then 0 else 10, (sowT r p (p.player * r.pits + move)).1, (sowT r p (p.player * r.pits + move)).2.1) := by
  cases hm : (mvT r p.player 100 (p.player * r.pits + move) ⟨p.pits, p.stores, 0, 0⟩ []).1
  · rw [sowMove_end h hm, sowT_no hm]; rfl
  · rw [sowMove_yes h hm, sowT_yes hm]; rfl
def moreT (r : Rul) (player : Int) (s : Sw) (path : List Int) : Bool × Sw × List Int := if more r s = true then mvT r player (100 - s.laps).toNat s.last s path else (true, s, path)
theorem mvT_moreT {r : Rul} {player frm : Int} {s : Sw} {path : List Int} (h0 : 0 ≤ s.laps) (h1 : s.laps ≤ 99) : mvT r player (100 - s.laps).toNat frm s path = moreT r player (lap r player frm s path).1 (lap r player frm s path).2 := by
  have hl : (lap r player frm s path).1.laps = s.laps + 1 := rfl
  rw [show (100 - s.laps).toNat = (99 - s.laps).toNat + 1 by omega]
  unfold moreT
  rw [hl, show (100 - (s.laps + 1)).toNat = (99 - s.laps).toNat by omega]
  cases hm : more r (lap r player frm s path).1
  · rw [mvT_no hm, if_neg (by simp)]
  · rw [mvT_yes hm, if_pos rfl]
theorem none_step {l : List Res} {k : Nat} {y : Res} {move : Int} (hn : ∀ (j : Nat) (x : Res), j < k → l[j]? = some x → x.move ≠ move) (hy : l[k]? = some y) (h : y.move ≠ move) : ∀ (j : Nat) (x : Res), j < k + 1 → l[j]? = some x → x.move ≠ move := fun j x hj hx => by
  by_cases e : j = k
  · subst e; rw [hx] at hy; injection hy with hy; rw [hy]; exact h
  · exact hn j x (by omega) hx
theorem moreT_yes {r : Rul} {player : Int} {s : Sw} {path : List Int} (h : more r s = true) : moreT r player s path = mvT r player (100 - s.laps).toNat s.last s path := by unfold moreT; rw [if_pos h]
theorem moreT_no {r : Rul} {player : Int} {s : Sw} {path : List Int} (h : more r s = false) : moreT r player s path = (true, s, path) := by unfold moreT; rw [if_neg (by simp [h])]
theorem sowT_done {r : Rul} {p : Pos} {frm : Int} {s : Sw} {path : List Int} (h : mvT r p.player 100 frm ⟨p.pits, p.stores, 0, 0⟩ [] = (true, s, path)) : sowT r p frm = (s, path, true) := by rw [sowT_yes (by rw [h]), h]
theorem sowMove_fail {r : Rul} {p : Pos} {move : Int} (h : sowCode r p move = 0) (h2 : (sowT r p (p.player * r.pits + move)).2.2 = false) : sowMove r p move = (10, Sw.zero, []) := by
  refine sowMove_end h ?_
  cases hm : (mvT r p.player 100 (p.player * r.pits + move) ⟨p.pits, p.stores, 0, 0⟩ []).1
  · rfl
  · rw [sowT_yes hm] at h2; cases h2
theorem sowMove_T2 {r : Rul} {p : Pos} {move : Int} (h : sowCode r p move = 0) (h2 : (sowT r p (p.player * r.pits + move)).2.2 = true) : sowMove r p move = (0, (sowT r p (p.player * r.pits + move)).1, (sowT r p (p.player * r.pits + move)).2.1) := by
  rw [sowMove_T h, if_pos h2]
theorem zeros_step {l : List Int} {k : Nat} (h : k < l.length) (ps : List Int) : zeros (l.take (k + 1)) ps = setI (zeros (l.take k) ps) (nth l k) 0 := by
  rw [take_nth h]; simp [zeros]
theorem cap_sum {r : Rul} {s : Sw} {player : Int} (hG : Good r s.pits s.stores 0) (h1 : s.last < 2 * r.pits) : 0 ≤ isum ((captured r s player).map (getI s.pits)) ∧ isum ((captured r s player).map (getI s.pits)) ≤ 96 * (captured r s player).length := by
  have : ∀ l : List Int, 0 ≤ isum (l.map (getI s.pits)) ∧ isum (l.map (getI s.pits)) ≤ 96 * l.length := by
    intro l
    induction l with
    | nil => simp
    | cons x l ih => have := hG.pit x; simp only [List.map_cons, isum_cons, List.length_cons]; omega
  exact this _
theorem make_sow {r : Rul} {p : Pos} {move : Int} (h : (sowMove r p move).1 ≠ 0) : make r p move = (Res.zero, (sowMove r p move).1) := by
  have hd : done r p move = (Sw.zero, (sowMove r p move).1) := by unfold done; rw [if_pos h]
  rw [make_no (by rw [hd]; exact h), hd]
theorem make_slam {r : Rul} {p : Pos} {move : Int} (h : (sowMove r p move).1 = 0) (h2 : r.slam = 1 ∧ slams r (sowMove r p move).2.1 p.player = true) : make r p move = (Res.zero, 9) := by
  have hd : done r p move = (Sw.zero, 9) := by unfold done; rw [if_neg (by simpa using h), if_pos (by simp [h2])]
  rw [make_no (by rw [hd]; decide), hd]
theorem make_feed {r : Rul} {p : Pos} {move : Int} (h : (sowMove r p move).1 = 0) (h2 : ¬ (r.slam = 1 ∧ slams r (sowMove r p move).2.1 p.player = true)) (h3 : mustFeed r p = true ∧ side r (take r (sowMove r p move).2.1 p.player).pits (1 - p.player) = 0) : make r p move = (Res.zero, 9) := by
  have hd : done r p move = (Sw.zero, 9) := by unfold done; rw [if_neg (by simpa using h), if_pos (by simp [h3])]
  rw [make_no (by rw [hd]; decide), hd]
theorem make_go {r : Rul} {p : Pos} {move : Int} (h : (sowMove r p move).1 = 0) (h2 : ¬ (r.slam = 1 ∧ slams r (sowMove r p move).2.1 p.player = true)) (h3 : mustFeed r p = true → ¬ side r (take r (sowMove r p move).2.1 p.player).pits (1 - p.player) = 0) : make r p move = (resOf r p move (take r (sowMove r p move).2.1 p.player), 0) := by
  have hd : done r p move = (take r (sowMove r p move).2.1 p.player, 0) := by
    unfold done
    rw [if_neg (by simpa using h), if_neg]
    simp only [Bool.or_eq_true, Bool.and_eq_true, decide_eq_true_eq, not_or]
    exact ⟨h2, fun e => h3 e.1 e.2⟩
  rw [make_yes (by rw [hd]), hd]
theorem gam_ext {a b : Gam} (h1 : a.rules = b.rules) (h2 : a.start = b.start) (h3 : a.moves = b.moves) (h4 : a.now = b.now) (h5 : a.resigned = b.resigned) : a = b := by cases a; cases b; simp_all
theorem resultsTo_yes2 {r : Rul} {p : Pos} {k : Nat} (h : (make r p k).2 = 0) : resultsTo r p (k + 1) = resultsTo r p k ++ [(make r p k).1] := by rw [resultsTo, if_pos h]
theorem resultsTo_no2 {r : Rul} {p : Pos} {k : Nat} (h : (make r p k).2 ≠ 0) : resultsTo r p (k + 1) = resultsTo r p k := by rw [resultsTo, if_neg h, List.append_nil]
def up (k : Int) (n : Nat) : List Int := (List.range n).map fun (i : Nat) => k + (i : Int)
@[simp] theorem up_length (k : Int) (n : Nat) : (up k n).length = n := by simp [up]
end Go.Proofs.Ytejnmechnhgmfaa.M

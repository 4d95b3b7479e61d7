/- Plain mathematics of games that are cut. -/
import Derived.Test.YtejnmechnhgmfaaGreatZeA2
set_option linter.unusedSimpArgs false
set_option linter.unusedVariables false
namespace Go.Proofs.YtejnmechnhgmfaaGreat.M
def stdNames : List (List UInt8) := [[107, 97, 108, 97, 104], [109, 105, 110, 105], [111, 119, 97, 114, 101], [114, 101, 108, 97, 121]]
theorem runs_take (r : Rul) : ∀ (a : List Int) (p : Pos) (k : Nat), (runs r p a).length = a.length → runs r p (a.take k) = (runs r p a).take k
  | [], p, k, _ => by simp [runs]
  | m :: ms, p, 0, _ => by simp [runs]
  | m :: ms, p, k + 1, h => by
    rw [List.take_succ_cons]
    by_cases hz : (make r p m).2 = 0
    · rw [runs, if_pos hz] at h ⊢
      rw [runs, if_pos hz, List.take_succ_cons, runs_take r ms _ k (by simpa using h)]
    · rw [runs, if_neg hz] at h
      simp at h
theorem hist_take (p : Pos) (l : List Res) (k : Nat) : hist p (l.take k) = (hist p l).take (k + 1) := by
  simp [hist, List.map_take]
def cutG (g : Gam) (n : Nat) : Gam := ⟨g.rules, g.start, g.moves.take n, (playedP g).getD n Pos.zero, -1⟩
theorem cutG_now {g : Gam} {n : Nat} {y : Pos} (h : (playedP g)[n]? = some y) : (cutG g n).now = y := by simp [cutG, List.getD, h]
theorem cut_len {g : Gam} {n : Nat} (hn : n ≤ g.moves.length) : (cutG g n).moves.length = n := by simp [cutG]; omega
theorem cut_played {g : Gam} (h : okG g = true) {n : Nat} (hn : n ≤ g.moves.length) : playedOk (cutG g n) = true ∧ playedP (cutG g n) = (playedP g).take (n + 1) ∧ runs g.rules g.start (g.moves.take n) = (runs g.rules g.start g.moves).take n := by
  obtain ⟨k1, k2, k3, k4, k5, k6, k7, k8, k9⟩ := okG_parts h
  have e := runs_take g.rules g.moves g.start n k8
  have ho : playedOk (cutG g n) = true := by
    unfold playedOk
    show decide ((runs g.rules g.start (g.moves.take n)).length = (g.moves.take n).length) = true
    rw [e, List.length_take, List.length_take, k8]; simp
  refine ⟨ho, ?_, e⟩
  unfold playedP
  rw [if_pos ho]
  have ho2 : playedOk g = true := k5
  rw [if_pos ho2]
  show hist g.start (runs g.rules g.start (g.moves.take n)) = _
  rw [e, hist_take]
theorem cut_get {g : Gam} (h : okG g = true) {n : Nat} (hn : n ≤ g.moves.length) : (playedP g)[n]? = some (cutG g n).now := by
  obtain ⟨k1, k2, k3, k4, k5, k6, k7, k8, k9⟩ := okG_parts h
  have hl : (playedP g).length = g.moves.length + 1 := by rw [k6, hist_length, k8]
  rw [List.getElem?_eq_getElem (by omega), cutG_now (List.getElem?_eq_getElem (by omega))]
theorem cut_ok {g : Gam} (h : okG g = true) {n : Nat} (hn : n ≤ g.moves.length) : okG (cutG g n) = true := by
  obtain ⟨k1, k2, k3, k4, k5, k6, k7, k8, k9⟩ := okG_parts h
  obtain ⟨a, b, c⟩ := cut_played h hn
  have hg := cut_get h hn
  have hl := cut_len hn
  refine (okG_yes (g := cutG g n) (q := (cutG g n).now) (k := n) k1 (by rw [hl]; omega) (show betw (-1) (-1) 1 = true by decide) a ?_ (by rw [hl])).trans ?_
  · rw [b, List.getElem?_take, if_pos (by omega)]; exact hg
  · exact sameP_true.2 rfl
def undo (g : Gam) : Gam × Int := if okG g = true then (if g.moves.length = 0 ∨ 0 ≤ g.resigned then (Gam.zero, 6) else (cutG g ((g.moves.length : Int) - 1).toNat, 0)) else (Gam.zero, 1)
theorem undo_0 {g : Gam} (h : okG g = true) (h2 : ¬ (g.moves.length = 0 ∨ 0 ≤ g.resigned)) : undo g = (cutG g ((g.moves.length : Int) - 1).toNat, 0) := by unfold undo; rw [if_pos h, if_neg h2]
theorem cut_play {g : Gam} (h : okG g = true) {n : Nat} (hn : n < g.moves.length) : play (cutG g n) (nth g.moves n) = (cutG g (n + 1), 0) := by
  obtain ⟨k1, k2, k3, k4, k5, k6, k7, k8, k9⟩ := okG_parts h
  have e := runs_take g.rules g.moves g.start
  have hg := cut_get h (Nat.le_of_lt hn)
  have hg1 := cut_get h (n := n + 1) hn
  have key : ∀ (a : List Int) (p : Pos) (n : Nat), (runs g.rules p a).length = a.length → n < a.length → ∀ q, (hist p (runs g.rules p a))[n]? = some q → (make g.rules q (nth a n)).2 = 0 ∧ (hist p (runs g.rules p a))[n + 1]? = some (make g.rules q (nth a n)).1.next := by
    intro a
    induction a with
    | nil => intro p n _ h; simp at h
    | cons m ms ih =>
      intro p n hl hn q hq
      by_cases hz : (make g.rules p m).2 = 0
      · rw [runs, if_pos hz] at hl hq ⊢
        cases n with
        | zero => simp [hist] at hq; subst hq; simp [nth, hist, hz]
        | succ n =>
          have h1 := ih (make g.rules p m).1.next n (by simpa using hl) (by simpa using hn) q (by simpa [hist] using hq)
          refine ⟨by simpa [nth] using h1.1, ?_⟩
          simpa [hist, nth] using h1.2
      · rw [runs, if_neg hz] at hl; simp at hl
  obtain ⟨m1, m2⟩ := key g.moves g.start n k8 hn _ (by rw [← k6]; exact hg)
  rw [← k6, hg1] at m2
  have hnx := Option.some.inj m2
  have hl := cut_len (Nat.le_of_lt hn)
  rw [play_0 (g := cutG g n) (by show ¬ (0 : Int) ≤ -1; decide) (by omega) m1]
  refine Prod.ext (gam_ext rfl rfl ?_ hnx.symm rfl) rfl
  show g.moves.take n ++ [nth g.moves n] = g.moves.take (n + 1)
  rw [take_nth hn]
theorem cut_zero {g : Gam} (h : okG g = true) : cutG g 0 = ⟨g.rules, g.start, [], g.start, -1⟩ := by
  obtain ⟨k1, k2, k3, k4, k5, k6, k7, k8, k9⟩ := okG_parts h
  refine gam_ext rfl rfl (by simp [cutG]) (cutG_now (by rw [k6]; rfl)) rfl
theorem cut_all {g : Gam} (h : okG g = true) : (⟨g.rules, g.start, g.moves.take g.moves.length, (cutG g g.moves.length).now, g.resigned⟩ : Gam) = g := by
  obtain ⟨k1, k2, k3, k4, k5, k6, k7, k8, k9⟩ := okG_parts h
  refine gam_ext rfl rfl (by simp) ?_ rfl
  have h1 := (playedP_len k5).2
  rw [cutG_now h1]; exact k9.symm
def Cut (g : Gam) (k : Nat) : Prop := ∀ j, j < k → endOf (cutG g j) = 0
theorem Cut.zero (g : Gam) : Cut g 0 := fun j h => by omega
theorem Cut.step {g : Gam} {k : Nat} (h : Cut g k) (h2 : endOf (cutG g k) = 0) : Cut g (k + 1) := fun j hj => by
  by_cases e : j = k
  · subst e; exact h2
  · exact h j (by omega)
def cutE (g : Gam) : Gam := match (List.range (g.moves.length + 1)).find? (fun n => !decide (endOf (cutG g n) = 0)) with
  | some n => cutG g n
  | none => g
theorem cutE_at {g : Gam} {k : Nat} (h : Cut g k) (hk : k ≤ g.moves.length) (h2 : endOf (cutG g k) ≠ 0) : cutE g = cutG g k := by
  have : (List.range (g.moves.length + 1)).find? (fun n => !decide (endOf (cutG g n) = 0)) = some k := by
    rw [List.find?_range_eq_some]
    refine ⟨by simpa using h2, by simp; omega, fun j hj => ?_⟩
    have := h j hj
    simp [this]
  unfold cutE; rw [this]
theorem cutE_no {g : Gam} (h : Cut g (g.moves.length + 1)) : cutE g = g := by
  have : (List.range (g.moves.length + 1)).find? (fun n => !decide (endOf (cutG g n) = 0)) = none := by
    rw [List.find?_eq_none]
    intro j hj
    have := h j (by simpa using hj)
    simp [this]
  unfold cutE; rw [this]
def cutR (g : Gam) : Gam × Int := if okG g = true then (cutE g, 0) else (Gam.zero, 1)
theorem cutR_1 {g : Gam} (h : okG g = false) : cutR g = (Gam.zero, 1) := by unfold cutR; rw [if_neg (by simp [h])]
theorem cutR_0 {g : Gam} (h : okG g = true) : cutR g = (cutE g, 0) := by unfold cutR; rw [if_pos h]
theorem cutR_small (g : Gam) : Small (cutR g).1 := by
  cases h : okG g
  · rw [cutR_1 h]; exact Small.zero
  · rw [cutR_0 h]
    show Small (cutE g)
    unfold cutE
    split
    · rename_i n hn
      have := List.mem_of_find?_eq_some hn
      exact Small.ok (cut_ok h (by simp at this; omega))
    · exact Small.ok h
theorem play_120 {g : Gam} {move : Int} (h : g.moves.length ≤ 120) (hz : (play g move).2 = 0) : (play g move).1.moves.length ≤ 120 := by
  by_cases h1 : 0 ≤ g.resigned
  · rw [play_6 h1] at hz; simp at hz
  by_cases h2 : g.moves.length = 120
  · rw [play_5 h1 h2] at hz; simp at hz
  by_cases h3 : (make g.rules g.now move).2 = 0
  · rw [play_0 h1 h2 h3]; simp; omega
  · rw [play_c h1 h2 h3] at hz; exact absurd hz h3
theorem play_len {g : Gam} {move : Int} (hz : (play g move).2 = 0) : (play g move).1.moves.length = g.moves.length + 1 := by
  by_cases h1 : 0 ≤ g.resigned
  · rw [play_6 h1] at hz; simp at hz
  by_cases h2 : g.moves.length = 120
  · rw [play_5 h1 h2] at hz; simp at hz
  by_cases h3 : (make g.rules g.now move).2 = 0
  · rw [play_0 h1 h2 h3]; simp
  · rw [play_c h1 h2 h3] at hz; exact absurd hz h3
def startP (r : Rul) : Pos := ⟨List.replicate (2 * r.pits).toNat r.seeds, [0, 0], 0⟩
theorem mul01 {a n : Int} (h0 : 0 ≤ a) (h1 : a = 0 ∨ a < 2) (n0 : 0 ≤ n) (n8 : n ≤ 8) : 0 ≤ a * n ∧ a * n ≤ n ∧ (a + 1) * n = a * n + n := by
  have h : a = 0 ∨ a = 1 := by omega
  rcases h with rfl | rfl <;> simp <;> omega
def legal (r : Rul) (p : Pos) : List Int := if okP r p = true then (results r p).map (·.move) else []
theorem legal_yes {r : Rul} {p : Pos} (h : okP r p = true) : legal r p = (results r p).map (·.move) := by unfold legal; rw [if_pos h]
theorem legal_no {r : Rul} {p : Pos} (h : okP r p = false) : legal r p = [] := by unfold legal; rw [if_neg (by simp [h])]
theorem legal_len (r : Rul) (p : Pos) : (legal r p).length ≤ 8 := by
  cases h : okP r p
  · rw [legal_no h]; simp
  · rw [legal_yes h, List.length_map]; exact results_8 h
theorem moves_step {l : List Res} {k : Nat} {y : Res} (h : l[k]? = some y) : (l.map (·.move)).take (k + 1) = (l.map (·.move)).take k ++ [y.move] := by
  rw [List.take_add_one, List.getElem?_map, h]; rfl
theorem play_pits {g : Gam} {move : Int} (h : 1 ≤ g.now.pits.length) (hz : (play g move).2 = 0) : 1 ≤ (play g move).1.now.pits.length := by
  by_cases h1 : 0 ≤ g.resigned
  · rw [play_6 h1] at hz; simp at hz
  by_cases h2 : g.moves.length = 120
  · rw [play_5 h1 h2] at hz; simp at hz
  by_cases h3 : (make g.rules g.now move).2 = 0
  · rw [play_0 h1 h2 h3]; have := okP_bd (make_ok h3).2.2.2.1; show 1 ≤ (make g.rules g.now move).1.next.pits.length; omega
  · rw [play_c h1 h2 h3] at hz; exact absurd hz h3
theorem play_stores {g : Gam} {move : Int} (h : g.now.stores.length = 2) (hz : (play g move).2 = 0) : (play g move).1.now.stores.length = 2 := by
  by_cases h1 : 0 ≤ g.resigned
  · rw [play_6 h1] at hz; simp at hz
  by_cases h2 : g.moves.length = 120
  · rw [play_5 h1 h2] at hz; simp at hz
  by_cases h3 : (make g.rules g.now move).2 = 0
  · rw [play_0 h1 h2 h3]; exact (okP_bd (make_ok h3).2.2.2.1).2.2.2.1
  · rw [play_c h1 h2 h3] at hz; exact absurd hz h3
end Go.Proofs.YtejnmechnhgmfaaGreat.M

namespace Go.Proofs.YtejnmechnhgmfaaGreat.M
def sameG (a b : Gam) : Bool := decide (a = b)
theorem sameG_refl (a : Gam) : sameG a a = true := by simp [sameG]
theorem sameP_of {a b : Pos} (h : a = b) : sameP a b = true := sameP_true.2 h
theorem sameG_eq (a b : Gam) : sameG a b = (decide (a.rules = b.rules) && sameP a.start b.start && decide (a.moves = b.moves) && sameP a.now b.now && decide (a.resigned = b.resigned)) := by
  obtain ⟨a1, a2, a3, a4, a5⟩ := a
  obtain ⟨b1, b2, b3, b4, b5⟩ := b
  simp only [sameG, sameP_eq, Gam.mk.injEq]
  rw [Bool.eq_iff_iff]
  simp [and_assoc]
theorem runs_snoc (r : Rul) (m : Int) : ∀ (a : List Int) (p : Pos), (runs r p a).length = a.length → (make r (lastPos p (runs r p a)) m).2 = 0 → runs r p (a ++ [m]) = runs r p a ++ [(make r (lastPos p (runs r p a)) m).1]
  | [], p, _, h => by
    have h' : (make r p m).2 = 0 := h
    show (if (make r p m).2 = 0 then _ else _) = _
    rw [if_pos h']
    rfl
  | x :: xs, p, hl, h => by
    by_cases hz : (make r p x).2 = 0
    · have e : runs r p (x :: xs) = (make r p x).1 :: runs r (make r p x).1.next xs := by rw [runs, if_pos hz]
      rw [e] at hl h ⊢
      have := runs_snoc r m xs (make r p x).1.next (by simpa using hl) h
      rw [List.cons_append, runs, if_pos hz, this]
      rfl
    · rw [runs, if_neg hz] at hl; simp at hl
structure Played (g : Gam) (move : Int) : Prop where
  ok : okG (play g move).1 = true
  code : (make g.rules g.now move).2 = 0
  now : (play g move).1.now = (make g.rules g.now move).1.next
  back : undo (play g move).1 = (g, 0)
theorem played {g : Gam} {move : Int} (h : okG g = true) (hz : (play g move).2 = 0) : Played g move := by
  obtain ⟨k1, k2, k3, k4, k5, k6, k7, k8, k9⟩ := okG_parts h
  by_cases h1 : 0 ≤ g.resigned
  · rw [play_6 h1] at hz; simp at hz
  by_cases h2 : g.moves.length = 120
  · rw [play_5 h1 h2] at hz; simp at hz
  have h3 : (make g.rules g.now move).2 = 0 := Decidable.byContradiction fun h3 => by rw [play_c h1 h2 h3] at hz; exact h3 hz
  have hp := play_0 h1 h2 h3
  have hs := runs_snoc g.rules move g.moves g.start k8 (by rw [← k9]; exact h3)
  rw [← k9] at hs
  have hr : g.resigned = -1 := by omega
  have hok : okG (play g move).1 = true := by
    rw [hp]
    simp only [okG, Bool.and_eq_true, decide_eq_true_eq, hs]
    refine ⟨⟨⟨⟨k1, ?_⟩, betw_iff.2 ⟨k3, k4⟩⟩, ?_⟩, lastPos_snoc _ _ _⟩
    · simp; omega
    · simp [k8]
  refine ⟨hok, h3, by rw [hp], ?_⟩
  have hl : (play g move).1.moves.length = g.moves.length + 1 := by rw [hp]; simp
  have hrr : (play g move).1.resigned = -1 := by rw [hp]; exact hr
  rw [undo_0 hok (by omega), hl]
  have e : (((g.moves.length + 1 : Nat) : Int) - 1).toNat = g.moves.length := by omega
  rw [e]
  obtain ⟨j1, j2, j3, j4, j5, j6, j7, j8, j9⟩ := okG_parts hok
  have hn : (cutG (play g move).1 g.moves.length).now = g.now := by
    refine cutG_now ?_
    rw [j6, hp]
    show (hist g.start (runs g.rules g.start (g.moves ++ [move])))[g.moves.length]? = _
    rw [hs]
    have e2 : hist g.start (runs g.rules g.start g.moves ++ [(make g.rules g.now move).1]) = hist g.start (runs g.rules g.start g.moves) ++ [(make g.rules g.now move).1.next] := by simp [hist]
    rw [e2, List.getElem?_append_left (by simp [k8]), ← k8, hist_last, ← k9]
  refine Prod.ext (gam_ext ?_ ?_ ?_ hn ?_) rfl
  · rw [hp]; rfl
  · rw [hp]; rfl
  · rw [hp]; simp [cutG]
  · rw [hr]; rfl
end Go.Proofs.YtejnmechnhgmfaaGreat.M

namespace Go.Proofs.YtejnmechnhgmfaaGreat.M
structure Resigned (g : Gam) (player : Int) : Prop where
  ok : okG (resign g player).1 = true
  play : playR (resign g player).1 0 = (Gam.zero, 6)
  endc : endC (resign g player).1 = 0
  win : winner (resign g player).1 = 1 - player
theorem resigned {g : Gam} {player : Int} (h : (resign g player).2 = 0) : Resigned g player := by
  cases hg : okG g
  · rw [resign_1 hg] at h; simp at h
  cases hp : isPl player
  · rw [resign_2 hg hp] at h; simp at h
  by_cases hr : 0 ≤ g.resigned
  · rw [resign_6 hg hp hr] at h; simp at h
  have e := resign_0 hg hp hr
  have hpl : player = 0 ∨ player = 1 := by simpa [isPl] using hp
  have hok : okG ⟨g.rules, g.start, g.moves, g.now, player⟩ = true := by
    unfold okG at hg ⊢
    simp only [Bool.and_eq_true] at hg ⊢
    obtain ⟨⟨⟨⟨a, b⟩, _⟩, d⟩, f⟩ := hg
    exact ⟨⟨⟨⟨a, b⟩, betw_iff.2 (by omega)⟩, d⟩, f⟩
  have h0 : 0 ≤ (⟨g.rules, g.start, g.moves, g.now, player⟩ : Gam).resigned := by show 0 ≤ player; omega
  have hc : endC ⟨g.rules, g.start, g.moves, g.now, player⟩ = 0 := endC_0 hok (by rw [endOf_1 h0]; decide)
  refine ⟨?_, ?_, ?_, ?_⟩ <;> rw [e]
  · exact hok
  · rw [playR_yes hok, play_6 h0]
  · exact hc
  · exact winner_r hc h0
end Go.Proofs.YtejnmechnhgmfaaGreat.M

namespace Go.Proofs.YtejnmechnhgmfaaGreat.M
theorem isum_two : ∀ {l : List Int}, l.length = 2 → isum l = getI l 0 + getI l 1
  | [a, b], _ => by simp [isum, getI, nth]
theorem isum_take {l : List Int} {k : Nat} (h : k < l.length) : isum (l.take (k + 1)) = isum (l.take k) + nth l k := by
  rw [take_nth h]
  generalize l.take k = a
  generalize nth l k = v
  induction a with
  | nil => simp [isum]
  | cons x a ih => simp only [List.cons_append, isum, ih]; omega
theorem runs_all (r : Rul) : ∀ (a : List Int) (p : Pos), isum (lastPos p (runs r p a)).pits + isum (lastPos p (runs r p a)).stores = isum p.pits + isum p.stores
  | [], p => rfl
  | m :: ms, p => by
    rw [runs]
    split
    · rename_i h
      have ih := runs_all r ms (make r p m).1.next
      have hk := (make_ok h).2.2.2.2.2
      show isum (lastPos (make r p m).1.next _).pits + isum (lastPos (make r p m).1.next _).stores = _
      rw [ih, hk]
    · rfl
theorem now_all {g : Gam} (h : okG g = true) : isum g.now.pits + isum g.now.stores = isum g.start.pits + isum g.start.stores := by
  obtain ⟨k1, k2, k3, k4, k5, k6, k7, k8, k9⟩ := okG_parts h
  rw [k9]; exact runs_all _ _ _
theorem settle_all {r : Rul} {p : Pos} (h : okP r p = true) : getI (settle r p).stores 0 + getI (settle r p).stores 1 = isum p.pits + isum p.stores := by
  obtain ⟨r1, r2, g1, g2, g3, g4, g5⟩ := okP_bd h
  have hs := side_all (r := r) (ps := p.pits) (by omega) g1
  have e : (settle r p).stores = setI (setI p.stores 0 (getI p.stores 0 + side r p.pits 0)) 1 (getI (setI p.stores 0 (getI p.stores 0 + side r p.pits 0)) 1 + side r p.pits 1) := rfl
  rw [e, getI_setI_other (by omega) (by omega) (by omega), getI_setI_same (by omega) (by omega), getI_setI_same (by omega) (by simp; omega), getI_setI_other (by omega) (by omega) (by omega), isum_two g2]
  omega
theorem give_all {r : Rul} {p : Pos} {player : Int} (h : okP r p = true) (hp : player = 0 ∨ player = 1) : getI (give p player).stores 0 + getI (give p player).stores 1 = isum p.pits + isum p.stores := by
  obtain ⟨r1, r2, g1, g2, g3, g4, g5⟩ := okP_bd h
  have e : (give p player).stores = setI p.stores player (getI p.stores player + isum p.pits) := rfl
  rw [e, isum_two g2]
  rcases hp with rfl | rfl
  · rw [getI_setI_same (by omega) (by omega), getI_setI_other (by omega) (by omega) (by omega)]; omega
  · rw [getI_setI_same (by omega) (by omega), getI_setI_other (by omega) (by omega) (by omega)]; omega
theorem scores_all {g : Gam} (h : endC g = 0) : getI (scoresR g) 0 + getI (scoresR g) 1 = isum g.start.pits + isum g.start.stores ∧ (scoresR g).length = 2 := by
  have hok := endC_ok h
  have hn := okG_now hok
  obtain ⟨r1, r2, g1, g2, g3, g4, g5⟩ := okP_bd hn
  rw [scoresR_yes h, final_stores, ← now_all hok]
  refine ⟨?_, g2⟩
  by_cases hr : 0 ≤ g.resigned
  · rw [final_yes hr]
    have := (okG_parts hok).2.2.2.1
    exact give_all hn (by omega)
  · rw [final_no hr]; exact settle_all hn
theorem scores_bd {g : Gam} (h : endC g = 0) (j : Int) : -10000 ≤ getI (scoresR g) j ∧ getI (scoresR g) j ≤ 10000 := by
  have hok := endC_ok h
  have hn := okG_now hok
  obtain ⟨r1, r2, g1, g2, g3, g4, g5⟩ := okP_bd hn
  rw [scoresR_yes h]
  by_cases hr : 0 ≤ g.resigned
  · rw [final_yes hr]
    have hp := (okG_parts hok).2.2.2.1
    have hs := okP_sum hn
    have b1 := isum_bd g3
    have b2 := isum_bd g4
    show -10000 ≤ getI (setI g.now.stores (1 - g.resigned) _) j ∧ getI (setI g.now.stores (1 - g.resigned) _) j ≤ 10000
    have v1 := allOk_getI g4 (1 - g.resigned)
    have v2 := allOk_getI g4 j
    by_cases e : j.toNat = (1 - g.resigned).toNat
    · have e2 : getI (setI g.now.stores (1 - g.resigned) (getI g.now.stores (1 - g.resigned) + isum g.now.pits)) j = getI g.now.stores (1 - g.resigned) + isum g.now.pits := by
        unfold getI setI; rw [e]; exact nth_set_same (by omega) _
      rw [e2]; omega
    · have e2 : getI (setI g.now.stores (1 - g.resigned) (getI g.now.stores (1 - g.resigned) + isum g.now.pits)) j = getI g.now.stores j := by
        unfold getI setI nth; rw [List.getD_eq_getElem?_getD, List.getElem?_set_ne (fun e' => e e'.symm), ← List.getD_eq_getElem?_getD]
      rw [e2]; omega
  · rw [final_no hr]
    have := setT_bd hn 2 j
    show -10000 ≤ getI (setT g.rules g.now 2) j ∧ getI (setT g.rules g.now 2) j ≤ 10000
    omega
structure CutOf (g : Gam) : Prop where
  ok : okG (cutR g).1 = true
  le : (cutR g).1.moves.length ≤ g.moves.length
  pre : ∀ i, i < (cutR g).1.moves.length → nth (cutR g).1.moves i = nth g.moves i
  ends : (cutR g).1.moves.length < g.moves.length → endOf (cutR g).1 ≠ 0
theorem cut_of {g : Gam} (h : okG g = true) : CutOf g := by
  have hc : (cutR g).1 = cutE g := by rw [cutR_0 h]
  cases hf : (List.range (g.moves.length + 1)).find? (fun n => !decide (endOf (cutG g n) = 0)) with
  | none =>
    have e : cutE g = g := by unfold cutE; rw [hf]
    refine ⟨?_, ?_, ?_, ?_⟩ <;> rw [hc, e]
    · exact h
    · exact Nat.le_refl _
    · exact fun _ _ => rfl
    · exact fun hl => absurd hl (Nat.lt_irrefl _)
  | some n =>
    have e : cutE g = cutG g n := by unfold cutE; rw [hf]
    have hm := List.mem_of_find?_eq_some hf
    have hn : n ≤ g.moves.length := by have := List.mem_range.1 hm; omega
    have hp := List.find?_some hf
    refine ⟨?_, ?_, ?_, ?_⟩ <;> rw [hc, e]
    · exact cut_ok h hn
    · rw [cut_len hn]; exact hn
    · intro i hi
      rw [cut_len hn] at hi
      show nth (g.moves.take n) i = nth g.moves i
      unfold nth; rw [List.getD_eq_getElem?_getD, List.getD_eq_getElem?_getD, List.getElem?_take_of_lt hi]
    · intro _; simpa using hp
theorem end_six {g : Gam} (h : okG g = true) : (decide (endOfR g = 0) == decide (endC g = 6)) = true := by
  rw [endOfR_yes h]
  by_cases he : endOf g = 0
  · rw [endC_6 h he, he]; rfl
  · rw [endC_0 h he]; simp [he]
def endNames : List (List UInt8) := [[110, 111, 110, 101], [114, 101, 115, 105, 103, 110], [109, 97, 106, 111, 114, 105, 116, 121], [98, 108, 111, 99, 107, 101, 100], [114, 101, 112, 101, 97, 116], [108, 101, 110, 103, 116, 104]]
def endName (k : Int) : List UInt8 := if betw k 0 5 = true then endNames.getD k.toNat [] else []
theorem endName_no {k : Int} (h : betw k 0 5 = false) : endName k = [] := by unfold endName; rw [if_neg (by simp [h])]
theorem endName_yes {k : Int} {y : List UInt8} (h : betw k 0 5 = true) (hy : endNames[k.toNat]? = some y) : endName k = y := by unfold endName; rw [if_pos h]; simp [List.getD, hy]
end Go.Proofs.YtejnmechnhgmfaaGreat.M


/- Plain mathematics of the ends of games. -/
import Derived.Test.YtejnmechnhgmfaaM4
namespace Go.Proofs.Ytejnmechnhgmfaa.M

def all (p : Pos) : Int := isum p.pits + isum p.stores
theorem all_V {r : Rul} {p : Pos} (h : okP r p = true) : sumV p.pits + sumV p.stores = all p := by
  obtain ⟨_, _, _, _, a, b, _⟩ := okP_bd h
  rw [sumV_ok a, sumV_ok b]; rfl
theorem sum4_V {r : Rul} {p : Pos} (h : okP r p = true) : sum4 p.pits = isum p.pits ∧ sum4 p.stores = isum p.stores := by
  obtain ⟨_, _, _, _, a, b, _⟩ := okP_bd h
  have c := okP_sum h
  have d := isum_bd a
  have e := isum_bd b
  exact ⟨sum4_ok a (by omega), sum4_ok b (by omega)⟩
def majority (p : Pos) : Int := if all p < 2 * getI p.stores 0 then 0 else if all p < 2 * getI p.stores 1 then 1 else -1
/-- no player before number k has more than half of all -/
def noMaj (p : Pos) (k : Int) : Prop := ∀ j : Int, 0 ≤ j → j < k → ¬ all p < 2 * getI p.stores j
theorem noMaj_zero (p : Pos) : noMaj p 0 := fun j h0 h1 => by omega
theorem noMaj_step {p : Pos} {k : Int} (h : noMaj p k) (hk : ¬ all p < 2 * getI p.stores k) : noMaj p (k + 1) := fun j h0 h1 => by
  by_cases e : j = k
  · rw [e]; exact hk
  · exact h j h0 (by omega)
theorem majority_at {p : Pos} {k : Int} (h : noMaj p k) (h0 : 0 ≤ k) (h1 : k < 2) (hk : all p < 2 * getI p.stores k) : majority p = k := by
  unfold majority
  by_cases e : k = 0
  · subst e; rw [if_pos hk]
  · have e1 : k = 1 := by omega
    subst e1
    rw [if_neg (h 0 (by omega) (by omega)), if_pos hk]
theorem majority_no {p : Pos} {k : Int} (h : noMaj p k) (h1 : 2 ≤ k) : majority p = -1 := by
  unfold majority
  rw [if_neg (h 0 (by omega) (by omega)), if_neg (h 1 (by omega) (by omega))]
theorem majority_bd (p : Pos) : -1 ≤ majority p ∧ majority p ≤ 1 := by unfold majority; split; omega; split <;> omega
/-- the stores, where the players before number k have taken their seeds -/
def setT (r : Rul) (p : Pos) : Nat → List Int
  | 0 => p.stores
  | k + 1 => setI (setT r p k) k (getI (setT r p k) k + side r p.pits k)
@[simp] theorem setT_length (r : Rul) (p : Pos) : ∀ k, (setT r p k).length = p.stores.length
  | 0 => rfl
  | k + 1 => by rw [setT, setI_length]; exact setT_length r p k
def settle (r : Rul) (p : Pos) : Pos := ⟨List.replicate p.pits.length 0, setT r p 2, p.player⟩
theorem side_all {r : Rul} {ps : List Int} (h0 : 0 ≤ r.pits) (hl : (ps.length : Int) = 2 * r.pits) : side r ps 0 + side r ps 1 = isum ps := by
  unfold side
  have e : isum ps = isum (ps.take r.pits.toNat) + isum (ps.drop r.pits.toNat) := by rw [← isum_append, List.take_append_drop]
  rw [e]
  have e1 : (0 * r.pits).toNat = 0 := by simp
  have e2 : (1 * r.pits).toNat = r.pits.toNat := by simp
  rw [e1, e2, List.drop_zero, List.take_of_length_le (l := ps.drop r.pits.toNat) (by rw [List.length_drop]; omega)]
def give (p : Pos) (player : Int) : Pos := ⟨List.replicate p.pits.length 0, setI p.stores player (getI p.stores player + isum p.pits), p.player⟩
theorem side_bd {r : Rul} {ps : List Int} (h : allOk ps = true) (hp : r.pits ≤ 8) (player : Int) : 0 ≤ side r ps player ∧ side r ps player ≤ 768 := by
  unfold side
  have h1 := isum_bd (allOk_take r.pits.toNat (allOk_drop (player * r.pits).toNat h))
  have h2 : ((ps.drop (player * r.pits).toNat).take r.pits.toNat).length ≤ 8 := by rw [List.length_take]; omega
  omega
/-- what stands in the stores while they are settled -/
theorem setT_bd {r : Rul} {p : Pos} (h : okP r p = true) : ∀ (k : Nat) (j : Int), 0 ≤ getI (setT r p k) j ∧ getI (setT r p k) j ≤ 96 + 768 * k
  | 0, j => by
    obtain ⟨_, _, _, _, _, b, _⟩ := okP_bd h
    have := allOk_getI b j
    simp only [setT]; omega
  | k + 1, j => by
    obtain ⟨_, a, _, d, b, _, _⟩ := okP_bd h
    have h1 := setT_bd h k j
    have h2 := setT_bd h k k
    have h3 := side_bd (r := r) b a (k : Int)
    simp only [setT]
    by_cases e : (j.toNat) = k
    · by_cases hl : k < (setT r p k).length
      · have : getI (setI (setT r p k) k (getI (setT r p k) k + side r p.pits k)) j = getI (setT r p k) k + side r p.pits k := by
          unfold getI setI
          rw [e]
          simpa using nth_set_same hl _
        rw [this]; omega
      · have : setI (setT r p k) k (getI (setT r p k) k + side r p.pits k) = setT r p k := by
          unfold setI; rw [List.set_eq_of_length_le (by simpa using Nat.le_of_not_lt hl)]
        rw [this]; omega
    · have : getI (setI (setT r p k) k (getI (setT r p k) k + side r p.pits k)) j = getI (setT r p k) j := by
        unfold getI setI nth
        rw [List.getD_eq_getElem?_getD, List.getElem?_set_ne (by simpa using fun e' => e e'.symm), ← List.getD_eq_getElem?_getD]
      rw [this]; omega
def endOf (g : Gam) : Int :=
  if 0 ≤ g.resigned then 1 else if 0 ≤ majority g.now then 2 else if (results g.rules g.now).length = 0 then 3 else if 3 ≤ count g.now (playedP g) then 4 else if g.moves.length = 120 then 5 else 0
theorem endOf_1 {g : Gam} (h : 0 ≤ g.resigned) : endOf g = 1 := by unfold endOf; rw [if_pos h]
theorem endOf_2 {g : Gam} (h : ¬ 0 ≤ g.resigned) (h2 : 0 ≤ majority g.now) : endOf g = 2 := by unfold endOf; rw [if_neg h, if_pos h2]
theorem endOf_3 {g : Gam} (h : ¬ 0 ≤ g.resigned) (h2 : ¬ 0 ≤ majority g.now) (h3 : (results g.rules g.now).length = 0) : endOf g = 3 := by unfold endOf; rw [if_neg h, if_neg h2, if_pos h3]
theorem endOf_4 {g : Gam} (h : ¬ 0 ≤ g.resigned) (h2 : ¬ 0 ≤ majority g.now) (h3 : (results g.rules g.now).length ≠ 0) (h4 : 3 ≤ count g.now (playedP g)) : endOf g = 4 := by unfold endOf; rw [if_neg h, if_neg h2, if_neg h3, if_pos h4]
theorem endOf_5 {g : Gam} (h : ¬ 0 ≤ g.resigned) (h2 : ¬ 0 ≤ majority g.now) (h3 : (results g.rules g.now).length ≠ 0) (h4 : ¬ 3 ≤ count g.now (playedP g)) (h5 : g.moves.length = 120) : endOf g = 5 := by unfold endOf; rw [if_neg h, if_neg h2, if_neg h3, if_neg h4, if_pos h5]
theorem endOf_0 {g : Gam} (h : ¬ 0 ≤ g.resigned) (h2 : ¬ 0 ≤ majority g.now) (h3 : (results g.rules g.now).length ≠ 0) (h4 : ¬ 3 ≤ count g.now (playedP g)) (h5 : g.moves.length ≠ 120) : endOf g = 0 := by unfold endOf; rw [if_neg h, if_neg h2, if_neg h3, if_neg h4, if_neg h5]
def okC (g : Gam) : Int := if okG g = true then 0 else 1
theorem okC_yes {g : Gam} (h : okG g = true) : okC g = 0 := by unfold okC; rw [if_pos h]
theorem okC_no {g : Gam} (h : okG g = false) : okC g = 1 := by unfold okC; rw [if_neg (by simp [h])]
def final (g : Gam) : Pos := if 0 ≤ g.resigned then give g.now (1 - g.resigned) else settle g.rules g.now
theorem final_yes {g : Gam} (h : 0 ≤ g.resigned) : final g = give g.now (1 - g.resigned) := by unfold final; rw [if_pos h]
theorem final_no {g : Gam} (h : ¬ 0 ≤ g.resigned) : final g = settle g.rules g.now := by unfold final; rw [if_neg h]
def endC (g : Gam) : Int := if okG g = true then (if endOf g = 0 then 6 else 0) else 1
theorem endC_no {g : Gam} (h : okG g = false) : endC g = 1 := by unfold endC; rw [if_neg (by simp [h])]
theorem endC_6 {g : Gam} (h : okG g = true) (h2 : endOf g = 0) : endC g = 6 := by unfold endC; rw [if_pos h, if_pos h2]
theorem endC_0 {g : Gam} (h : okG g = true) (h2 : endOf g ≠ 0) : endC g = 0 := by unfold endC; rw [if_pos h, if_neg h2]
theorem endC_ok {g : Gam} (h : endC g = 0) : okG g = true := by
  cases ho : okG g
  · rw [endC_no ho] at h; omega
  · rfl
def winner (g : Gam) : Int :=
  if endC g ≠ 0 then 0 else if 0 ≤ g.resigned then 1 - g.resigned else if getI (final g).stores 1 < getI (final g).stores 0 then 0 else if getI (final g).stores 0 < getI (final g).stores 1 then 1 else -1
theorem winner_no {g : Gam} (h : endC g ≠ 0) : winner g = 0 := by unfold winner; rw [if_pos h]
theorem winner_r {g : Gam} (h : endC g = 0) (h1 : 0 ≤ g.resigned) : winner g = 1 - g.resigned := by unfold winner; rw [if_neg (by simp [h]), if_pos h1]
theorem winner_0 {g : Gam} (h : endC g = 0) (h1 : ¬ 0 ≤ g.resigned) (h2 : getI (final g).stores 1 < getI (final g).stores 0) : winner g = 0 := by unfold winner; rw [if_neg (by simp [h]), if_neg h1, if_pos h2]
theorem winner_1 {g : Gam} (h : endC g = 0) (h1 : ¬ 0 ≤ g.resigned) (h2 : ¬ getI (final g).stores 1 < getI (final g).stores 0) (h3 : getI (final g).stores 0 < getI (final g).stores 1) : winner g = 1 := by unfold winner; rw [if_neg (by simp [h]), if_neg h1, if_neg h2, if_pos h3]
theorem winner_n {g : Gam} (h : endC g = 0) (h1 : ¬ 0 ≤ g.resigned) (h2 : ¬ getI (final g).stores 1 < getI (final g).stores 0) (h3 : ¬ getI (final g).stores 0 < getI (final g).stores 1) : winner g = -1 := by unfold winner; rw [if_neg (by simp [h]), if_neg h1, if_neg h2, if_neg h3]
theorem final_stores (g : Gam) : (final g).stores.length = g.now.stores.length := by
  unfold final; split <;> simp [give, settle]
theorem final_pits (g : Gam) : (final g).pits.length = g.now.pits.length := by
  unfold final; split <;> simp [give, settle]
end Go.Proofs.Ytejnmechnhgmfaa.M

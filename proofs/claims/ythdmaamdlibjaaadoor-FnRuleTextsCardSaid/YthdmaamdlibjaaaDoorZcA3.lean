/- Plain mathematics of texts of rules that are checked. -/
import Derived.Test.YthdmaamdlibjaaaDoorZcA2
import Derived.MapKept
import Derived.Test.YthdmaamdlibjaaaDoorProg
import Derived.ProofKit
import Derived.SizedLaws
import Derived.Test.YthdmaamdlibjaaaDoorZcA1
import Derived.Laws.IdiomStrings
import Derived.Laws.IdiomCopy
import Derived.Laws.Slices
import Derived.Laws.Strings2
set_option linter.unusedSimpArgs false
set_option linter.unusedVariables false
namespace Go.Proofs.YthdmaamdlibjaaaDoor.M
def idx : List (List UInt8) → List UInt8 → Int
  | [], _ => -1
  | x :: l, s => if x = s then 0 else if idx l s = -1 then -1 else idx l s + 1
theorem idx_bd : ∀ (l : List (List UInt8)) (s : List UInt8), idx l s = -1 ∨ 0 ≤ idx l s ∧ idx l s < l.length
  | [], _ => .inl rfl
  | x :: l, s => by
    have := idx_bd l s
    rw [idx, List.length_cons]
    split
    · exact .inr ⟨by omega, by omega⟩
    · split
      · exact .inl rfl
      · refine .inr ⟨?_, ?_⟩ <;> omega
def Nix (l : List (List UInt8)) (s : List UInt8) (k : Nat) : Prop := ∀ i : Nat, i < k → l[i]? ≠ some s
theorem Nix.zero (l : List (List UInt8)) (s : List UInt8) : Nix l s 0 := fun i h => absurd h (by omega)
theorem Nix.step {l : List (List UInt8)} {s y : List UInt8} {k : Nat} (h : Nix l s k) (hy : l[k]? = some y) (hs : ¬ y = s) : Nix l s (k + 1) := fun i hi => by
  rcases Nat.lt_succ_iff_lt_or_eq.1 hi with h9 | h9
  · exact h i h9
  · subst h9; rw [hy]; intro h8; exact hs (Option.some.inj h8)
theorem Nix.hit : ∀ {l : List (List UInt8)} {s y : List UInt8} {k : Nat}, Nix l s k → l[k]? = some y → y = s → idx l s = (k : Int)
  | [], _, _, _, _, hy, _ => by simp at hy
  | x :: l, s, y, 0, _, hy, hs => by
    simp at hy; rw [idx, if_pos (by rw [hy]; exact hs)]; rfl
  | x :: l, s, y, k + 1, h, hy, hs => by
    have h0 : x ≠ s := fun e => h 0 (by omega) (by simp [e])
    have h1 : idx l s = (k : Int) := Nix.hit (l := l) (fun i hi => by have := h (i + 1) (by omega); simpa using this) (by simpa using hy) hs
    rw [idx, if_neg h0, if_neg (by omega), h1]; omega
theorem Nix.miss : ∀ {l : List (List UInt8)} {s : List UInt8} {k : Nat}, Nix l s k → l.length ≤ k → idx l s = -1
  | [], _, _, _, _ => rfl
  | x :: l, s, 0, _, hk => by simp at hk
  | x :: l, s, k + 1, h, hk => by
    have h0 : x ≠ s := fun e => h 0 (by omega) (by simp [e])
    rw [idx, if_neg h0, if_pos (Nix.miss (l := l) (k := k) (fun i hi => by have := h (i + 1) (by omega); simpa using this) (by simp at hk; omega))]
def wds (s : List UInt8) : List (List UInt8) := (split 32 s).filter (fun w => decide (w ≠ []))
def plsW : Int → List (List UInt8) → List Int
  | _, [] => []
  | a, w :: ws => if w = [] then plsW (a + 1) ws else a :: plsW (a + (w.length : Int) + 1) ws
def pls (s : List UInt8) : List Int := plsW 0 (split 32 s)
theorem plsW_len : ∀ (ws : List (List UInt8)) (a : Int), (plsW a ws).length = (ws.filter (fun w => decide (w ≠ []))).length
  | [], _ => rfl
  | w :: ws, a => by
    rw [plsW]
    by_cases h : w = []
    · rw [if_pos h, plsW_len ws, List.filter_cons_of_neg (by simp [h])]
    · rw [if_neg h, List.length_cons, plsW_len ws, List.filter_cons_of_pos (by simp [h]), List.length_cons]
theorem pls_len (s : List UInt8) : (pls s).length = (wds s).length := plsW_len _ _
theorem wds_len (s : List UInt8) : (wds s).length ≤ s.length + 1 := Nat.le_trans (List.length_filter_le _ _) (split_len 32 s)
theorem plsW_bd : ∀ (ws : List (List UInt8)) (a : Int) (m : Int), 0 ≤ a → a + ((joinW 32 ws).length : Int) ≤ m → ∀ x ∈ plsW a ws, 0 ≤ x ∧ x ≤ m
  | [], _, _, _, _, x, hx => by simp [plsW] at hx
  | [w], a, m, h0, h, x, hx => by
    rw [plsW] at hx
    split at hx
    · simp [plsW] at hx
    · simp [plsW] at hx; subst hx; exact ⟨h0, by omega⟩
  | w :: v :: ws, a, m, h0, h, x, hx => by
    have e : ((joinW 32 (w :: v :: ws)).length : Int) = (w.length : Int) + 1 + ((joinW 32 (v :: ws)).length : Int) := by
      rw [joinW]; simp only [List.length_append, List.length_cons, List.length_nil]; omega
    rw [e] at h
    rw [plsW] at hx
    split at hx
    · rename_i hw; subst hw; exact plsW_bd (v :: ws) (a + 1) m (by omega) (by simp at h; omega) x hx
    · rcases List.mem_cons.1 hx with rfl | hx
      · exact ⟨h0, by omega⟩
      · exact plsW_bd (v :: ws) _ m (by omega) (by omega) x hx
theorem pls_bd (s : List UInt8) : ∀ x ∈ pls s, 0 ≤ x ∧ x ≤ (s.length : Int) := plsW_bd _ 0 _ (by omega) (by rw [joinW_split]; omega)
structure PrtI (s : List UInt8) (i : Nat) (ws : List (List UInt8)) (ps : List Int) : Prop where
  w : ws ++ wds (s.drop i) = wds s
  p : ps ++ plsW (i : Int) (split 32 (s.drop i)) = pls s
theorem PrtI.zero (s : List UInt8) : PrtI s 0 [] [] := ⟨rfl, rfl⟩
theorem PrtI.len {s : List UInt8} {i : Nat} {ws : List (List UInt8)} {ps : List Int} (h : PrtI s i ws ps) : ws.length ≤ s.length + 1 ∧ ps.length ≤ s.length + 1 := by
  have h1 := congrArg List.length h.w; have h2 := congrArg List.length h.p
  rw [List.length_append] at h1 h2
  have := wds_len s; have := pls_len s
  constructor <;> omega
theorem bat_32 {s : List UInt8} {k : Nat} (hk : k < s.length) : bat s k = 32 ↔ s[k] = 32 := by
  rw [bat_get hk]
  constructor
  · intro h; exact u8_of h
  · intro h; rw [h]; rfl
theorem PrtI.blank {s : List UInt8} {i : Nat} {ws : List (List UInt8)} {ps : List Int} (h : PrtI s i ws ps) (hi : i < s.length) (hb : bat s i = 32) : PrtI s (i + 1) ws ps := by
  have e : s.drop i = 32 :: s.drop (i + 1) := by rw [List.drop_eq_getElem_cons hi, (bat_32 hi).1 hb]
  have e2 : split 32 (s.drop i) = [] :: split 32 (s.drop (i + 1)) := by rw [e, split, if_pos rfl]
  constructor
  · rw [← h.w]; unfold wds; rw [e2, List.filter_cons_of_neg (by simp)]
  · rw [← h.p, e2, plsW, if_pos rfl]; rfl
structure WrdI (s : List UInt8) (i k : Nat) : Prop where
  n : (32 : UInt8) ∉ (s.drop i).take (k - i)
  l : i ≤ k
  u : k ≤ s.length
theorem WrdI.zero {s : List UInt8} {i : Nat} (h : i ≤ s.length) : WrdI s i i := ⟨by simp, Nat.le_refl _, h⟩
theorem WrdI.step {s : List UInt8} {i k : Nat} (h : WrdI s i k) (hk : k < s.length) (hb : ¬ bat s k = 32) : WrdI s i (k + 1) := by
  refine ⟨fun hm => ?_, by have := h.l; omega, hk⟩
  have hl := h.l
  have e : (s.drop i).take (k + 1 - i) = (s.drop i).take (k - i) ++ [s[k]] := by
    rw [show k + 1 - i = (k - i) + 1 by omega, List.take_add_one, List.getElem?_drop, show i + (k - i) = k by omega, List.getElem?_eq_getElem hk]; rfl
  rw [e] at hm
  rcases List.mem_append.1 hm with hm | hm
  · exact h.n hm
  · simp only [List.mem_singleton] at hm
    exact hb ((bat_32 hk).2 hm.symm)
theorem split_take {s : List UInt8} {i k : Nat} (h : WrdI s i k) (hk : k = s.length ∨ k < s.length ∧ bat s k = 32) (hik : i < k) :
    wds (s.drop i) = (s.drop i).take (k - i) :: wds (s.drop k) ∧ plsW (i : Int) (split 32 (s.drop i)) = (i : Int) :: plsW (k : Int) (split 32 (s.drop k)) := by
  have hl := h.l; have hu := h.u
  have hlen : ((s.drop i).take (k - i)).length = k - i := by rw [List.length_take, List.length_drop]; omega
  have hne : (s.drop i).take (k - i) ≠ [] := fun e => by rw [e] at hlen; simp at hlen; omega
  rcases hk with hk | ⟨hk, hb⟩
  · have e : (s.drop i).take (k - i) = s.drop i := List.take_of_length_le (by rw [List.length_drop]; omega)
    have hn := h.n
    rw [e] at hn hne
    have e2 : split 32 (s.drop i) = [s.drop i] := split_last 32 _ hn
    have e3 : s.drop k = [] := List.drop_eq_nil_of_le (by omega)
    rw [e]
    constructor
    · unfold wds; rw [e2, e3, List.filter_cons_of_pos (by simpa using hne)]; rfl
    · rw [e2, e3, plsW, if_neg hne]; rfl
  · have e := drop_cut hk hl
    rw [(bat_32 hk).1 hb] at e
    have e2 : split 32 (s.drop i) = (s.drop i).take (k - i) :: split 32 (s.drop (k + 1)) := by
      conv => lhs; rw [e]
      exact split_app 32 _ _ h.n
    have e3 : split 32 (s.drop k) = [] :: split 32 (s.drop (k + 1)) := by rw [List.drop_eq_getElem_cons hk, (bat_32 hk).1 hb, split, if_pos rfl]
    constructor
    · unfold wds; rw [e2, e3, List.filter_cons_of_pos (by simpa using hne), List.filter_cons_of_neg (by simp)]
    · rw [e2, e3, plsW, if_neg hne, plsW, if_pos rfl, hlen, show (i : Int) + ((k - i : Nat) : Int) + 1 = (k : Int) + 1 by omega]
theorem PrtI.word {s : List UInt8} {i k : Nat} {ws : List (List UInt8)} {ps : List Int} (h : PrtI s i ws ps) (hw : WrdI s i k) (hik : i < k) (hk : k = s.length ∨ k < s.length ∧ bat s k = 32) : PrtI s k (ws ++ [(s.drop i).take (k - i)]) (ps ++ [(i : Int)]) := by
  obtain ⟨a, b⟩ := split_take hw hk hik
  exact ⟨by rw [← h.w, a, List.append_assoc]; rfl, by rw [← h.p, b, List.append_assoc]; rfl⟩
theorem PrtI.done {s : List UInt8} {i : Nat} {ws : List (List UInt8)} {ps : List Int} (h : PrtI s i ws ps) (hi : s.length ≤ i) : ws = wds s ∧ ps = pls s := by
  have e : s.drop i = [] := List.drop_eq_nil_of_le hi
  have h1 := h.w; have h2 := h.p
  rw [e] at h1 h2
  exact ⟨by rw [← h1, show wds [] = [] from rfl, List.append_nil], by rw [← h2, show plsW (i : Int) (split 32 []) = [] from rfl, List.append_nil]⟩
def wrd (w : List UInt8) : Int × Int × Int :=
  if idx fieldNames (cutS w [61]).1 < 0 ∨ (cutS w [61]).2.2 = betw (idx fieldNames (cutS w [61]).1) 2 6 then (0, 0, 1) else
  if idx fieldNames (cutS w [61]).1 = 0 ∨ idx fieldNames (cutS w [61]).1 = 1 then
    if (num (cutS w [61]).2.1).2 = false then (idx fieldNames (cutS w [61]).1, 0, 3) else
    if idx fieldNames (cutS w [61]).1 = 0 ∧ betw (num (cutS w [61]).2.1).1 2 8 = false ∨ idx fieldNames (cutS w [61]).1 = 1 ∧ betw (num (cutS w [61]).2.1).1 1 6 = false then (idx fieldNames (cutS w [61]).1, 0, 4) else
    (idx fieldNames (cutS w [61]).1, (num (cutS w [61]).2.1).1, 0)
  else if idx fieldNames (cutS w [61]).1 = 7 ∨ idx fieldNames (cutS w [61]).1 = 8 then
    if idx (if idx fieldNames (cutS w [61]).1 = 8 then slamNames else capNames) (cutS w [61]).2.1 < 0 then (idx fieldNames (cutS w [61]).1, 0, 4) else
    (idx fieldNames (cutS w [61]).1, idx (if idx fieldNames (cutS w [61]).1 = 8 then slamNames else capNames) (cutS w [61]).2.1, 0)
  else (idx fieldNames (cutS w [61]).1, 1, 0)
theorem wrd_bd (w : List UInt8) : 0 ≤ (wrd w).1 ∧ (wrd w).1 ≤ 8 ∧ -999999999999999999 ≤ (wrd w).2.1 ∧ (wrd w).2.1 ≤ 999999999999999999 ∧ 0 ≤ (wrd w).2.2 ∧ (wrd w).2.2 ≤ 4 := by
  have h1 := idx_bd fieldNames (cutS w [61]).1
  have h2 := num_bd (cutS w [61]).2.1
  have h3 := idx_bd slamNames (cutS w [61]).2.1
  have h4 := idx_bd capNames (cutS w [61]).2.1
  rw [show (fieldNames.length : Int) = 9 from rfl] at h1
  rw [show (slamNames.length : Int) = 3 from rfl] at h3
  rw [show (capNames.length : Int) = 4 from rfl] at h4
  unfold wrd
  split
  · exact ⟨by decide, by decide, by decide, by decide, by decide, by decide⟩
  · split
    · split
      · dsimp only; omega
      · split
        · dsimp only; omega
        · dsimp only; omega
    · split
      · by_cases h8 : idx fieldNames (cutS w [61]).1 = 8
        · simp only [if_pos h8]; split
          · dsimp only; omega
          · dsimp only; omega
        · simp only [if_neg h8]; split
          · dsimp only; omega
          · dsimp only; omega
      · dsimp only; omega
structure Chk where
  v : List Int
  seen : List Bool
  again : Int
  out : List Prb
def Chk.zero : Chk := ⟨List.replicate 9 0, List.replicate 9 false, 0, []⟩
def chkK (c : Chk) (w : List UInt8) : Int := if (wrd w).2.2 ≠ 1 ∧ blt c.seen (wrd w).1.toNat = true then 2 else (wrd w).2.2
def chkS (c : Chk) (w : List UInt8) (a : Int) : Chk :=
  if chkK c w = 1 ∨ chkK c w = 2 then ⟨c.v, c.seen, c.again, c.out ++ [⟨chkK c w, a, w⟩]⟩ else
  ⟨setI c.v (wrd w).1 (wrd w).2.1, c.seen.set (wrd w).1.toNat true, if (wrd w).1 = 6 then a else c.again, if chkK c w = 0 then c.out else c.out ++ [⟨chkK c w, a, w⟩]⟩
def wdn (l : List (List UInt8)) (k : Nat) : List UInt8 := l.getD k []
def chkN (s : List UInt8) : Nat → Chk
  | 0 => Chk.zero
  | k + 1 => chkS (chkN s k) (wdn (wds s) k) (nth (pls s) k)
def chkA (s : List UInt8) : Chk := chkN s (wds s).length
def chkM (s : List UInt8) : Nat → List Prb
  | 0 => (chkA s).out
  | k + 1 => chkM s k ++ (if blt (chkA s).seen k = true then [] else [⟨5, (s.length : Int), wdn fieldNames k⟩])
def chkO (s : List UInt8) : List Prb := chkM s 2 ++ (if nth (chkA s).v 6 = 1 ∧ nth (chkA s).v 2 = 0 then [⟨6, (chkA s).again, [97, 103, 97, 105, 110]⟩] else [])
def rulV (v : List Int) : Rul := ⟨nth v 0, nth v 1, decide (nth v 2 = 1), decide (nth v 3 = 1), decide (nth v 4 = 1), decide (nth v 5 = 1), decide (nth v 6 = 1), nth v 7, nth v 8⟩
def chkR (s : List UInt8) : Rul := rulV (chkA s).v
theorem chkS_len {c : Chk} {w : List UInt8} {a : Int} : (chkS c w a).v.length = c.v.length ∧ (chkS c w a).seen.length = c.seen.length ∧ (chkS c w a).out.length ≤ c.out.length + 1 := by
  unfold chkS
  split
  · simp
  · refine ⟨by rw [setI_length], by simp, ?_⟩
    dsimp only
    split <;> simp
theorem chkN_len (s : List UInt8) : ∀ k : Nat, (chkN s k).v.length = 9 ∧ (chkN s k).seen.length = 9 ∧ (chkN s k).out.length ≤ k
  | 0 => ⟨rfl, rfl, Nat.le_refl _⟩
  | k + 1 => by
    obtain ⟨a, b, d⟩ := chkN_len s k
    obtain ⟨e, f, g⟩ := @chkS_len (chkN s k) (wdn (wds s) k) (nth (pls s) k)
    rw [chkN]
    exact ⟨by omega, by omega, by omega⟩
theorem wrd_ne2 (w : List UInt8) : (wrd w).2.2 ≠ 2 := by
  unfold wrd
  split
  · decide
  · split
    · split
      · show (3 : Int) ≠ 2; decide
      · split
        · show (4 : Int) ≠ 2; decide
        · show (0 : Int) ≠ 2; decide
    · split
      · by_cases h8 : idx fieldNames (cutS w [61]).1 = 8
        · simp only [if_pos h8]; split
          · show (4 : Int) ≠ 2; decide
          · show (0 : Int) ≠ 2; decide
        · simp only [if_neg h8]; split
          · show (4 : Int) ≠ 2; decide
          · show (0 : Int) ≠ 2; decide
      · show (0 : Int) ≠ 2; decide
theorem wrd_1 {w : List UInt8} (h : idx fieldNames (cutS w [61]).1 < 0 ∨ (cutS w [61]).2.2 = betw (idx fieldNames (cutS w [61]).1) 2 6) : wrd w = (0, 0, 1) := by unfold wrd; rw [if_pos h]
theorem wrd_3 {w : List UInt8} (h : ¬ (idx fieldNames (cutS w [61]).1 < 0 ∨ (cutS w [61]).2.2 = betw (idx fieldNames (cutS w [61]).1) 2 6)) (hk : idx fieldNames (cutS w [61]).1 = 0 ∨ idx fieldNames (cutS w [61]).1 = 1) (hn : (num (cutS w [61]).2.1).2 = false) : wrd w = (idx fieldNames (cutS w [61]).1, 0, 3) := by unfold wrd; rw [if_neg h, if_pos hk, if_pos hn]
theorem wrd_4 {w : List UInt8} (h : ¬ (idx fieldNames (cutS w [61]).1 < 0 ∨ (cutS w [61]).2.2 = betw (idx fieldNames (cutS w [61]).1) 2 6)) (hk : idx fieldNames (cutS w [61]).1 = 0 ∨ idx fieldNames (cutS w [61]).1 = 1) (hn : (num (cutS w [61]).2.1).2 = true)
    (hr : idx fieldNames (cutS w [61]).1 = 0 ∧ betw (num (cutS w [61]).2.1).1 2 8 = false ∨ idx fieldNames (cutS w [61]).1 = 1 ∧ betw (num (cutS w [61]).2.1).1 1 6 = false) : wrd w = (idx fieldNames (cutS w [61]).1, 0, 4) := by unfold wrd; rw [if_neg h, if_pos hk, if_neg (by simp [hn]), if_pos hr]
theorem wrd_0 {w : List UInt8} (h : ¬ (idx fieldNames (cutS w [61]).1 < 0 ∨ (cutS w [61]).2.2 = betw (idx fieldNames (cutS w [61]).1) 2 6)) (hk : idx fieldNames (cutS w [61]).1 = 0 ∨ idx fieldNames (cutS w [61]).1 = 1) (hn : (num (cutS w [61]).2.1).2 = true)
    (hr : ¬ (idx fieldNames (cutS w [61]).1 = 0 ∧ betw (num (cutS w [61]).2.1).1 2 8 = false ∨ idx fieldNames (cutS w [61]).1 = 1 ∧ betw (num (cutS w [61]).2.1).1 1 6 = false)) : wrd w = (idx fieldNames (cutS w [61]).1, (num (cutS w [61]).2.1).1, 0) := by unfold wrd; rw [if_neg h, if_pos hk, if_neg (by simp [hn]), if_neg hr]
theorem wrd_5 {w : List UInt8} {l : List (List UInt8)} (h : ¬ (idx fieldNames (cutS w [61]).1 < 0 ∨ (cutS w [61]).2.2 = betw (idx fieldNames (cutS w [61]).1) 2 6)) (hk : ¬ (idx fieldNames (cutS w [61]).1 = 0 ∨ idx fieldNames (cutS w [61]).1 = 1)) (hk2 : idx fieldNames (cutS w [61]).1 = 7 ∨ idx fieldNames (cutS w [61]).1 = 8)
    (hl : (if idx fieldNames (cutS w [61]).1 = 8 then slamNames else capNames) = l) (hn : idx l (cutS w [61]).2.1 < 0) : wrd w = (idx fieldNames (cutS w [61]).1, 0, 4) := by unfold wrd; rw [if_neg h, if_neg hk, if_pos hk2, hl, if_pos hn]
theorem wrd_6 {w : List UInt8} {l : List (List UInt8)} (h : ¬ (idx fieldNames (cutS w [61]).1 < 0 ∨ (cutS w [61]).2.2 = betw (idx fieldNames (cutS w [61]).1) 2 6)) (hk : ¬ (idx fieldNames (cutS w [61]).1 = 0 ∨ idx fieldNames (cutS w [61]).1 = 1)) (hk2 : idx fieldNames (cutS w [61]).1 = 7 ∨ idx fieldNames (cutS w [61]).1 = 8)
    (hl : (if idx fieldNames (cutS w [61]).1 = 8 then slamNames else capNames) = l) (hn : ¬ idx l (cutS w [61]).2.1 < 0) : wrd w = (idx fieldNames (cutS w [61]).1, idx l (cutS w [61]).2.1, 0) := by unfold wrd; rw [if_neg h, if_neg hk, if_pos hk2, hl, if_neg hn]
theorem wrd_7 {w : List UInt8} (h : ¬ (idx fieldNames (cutS w [61]).1 < 0 ∨ (cutS w [61]).2.2 = betw (idx fieldNames (cutS w [61]).1) 2 6)) (hk : ¬ (idx fieldNames (cutS w [61]).1 = 0 ∨ idx fieldNames (cutS w [61]).1 = 1)) (hk2 : ¬ (idx fieldNames (cutS w [61]).1 = 7 ∨ idx fieldNames (cutS w [61]).1 = 8)) : wrd w = (idx fieldNames (cutS w [61]).1, 1, 0) := by unfold wrd; rw [if_neg h, if_neg hk, if_neg hk2]
theorem wds_mem {s w : List UInt8} {k : Nat} (h : (wds s)[k]? = some w) : w.length ≤ s.length := split_mem 32 s w (List.mem_filter.1 (List.mem_of_getElem? h)).1
theorem wdn_get {l : List (List UInt8)} {y : List UInt8} {k : Nat} (h : l[k]? = some y) : wdn l k = y := by simp [wdn, List.getD, h]
section
variable {s y : List UInt8} {k : Nat} {v : List Int} {seen : List Bool} {again : Int} {out : List Prb}
theorem chk_t (hC : chkN s k = ⟨v, seen, again, out⟩) (hY : (wds s)[k]? = some y) (h1 : ¬ (wrd y).2.2 = 1) (h2 : blt seen (wrd y).1.toNat = true) : chkN s (k + 1) = ⟨v, seen, again, out ++ [⟨2, nth (pls s) k, y⟩]⟩ := by
  have hK : chkK ⟨v, seen, again, out⟩ y = 2 := by unfold chkK; rw [if_pos ⟨h1, h2⟩]
  rw [chkN, hC, wdn_get hY, chkS, hK, if_pos (.inr rfl)]
theorem chk_u (hC : chkN s k = ⟨v, seen, again, out⟩) (hY : (wds s)[k]? = some y) (h1 : (wrd y).2.2 = 1) : chkN s (k + 1) = ⟨v, seen, again, out ++ [⟨(wrd y).2.2, nth (pls s) k, y⟩]⟩ := by
  have hK : chkK ⟨v, seen, again, out⟩ y = (wrd y).2.2 := by unfold chkK; rw [if_neg (by simp [h1])]
  rw [chkN, hC, wdn_get hY, chkS, hK, if_pos (.inl h1)]
theorem chk_o (hC : chkN s k = ⟨v, seen, again, out⟩) (hY : (wds s)[k]? = some y) (h1 : ¬ (wrd y).2.2 = 1) (h2 : ¬ blt seen (wrd y).1.toNat = true) (h0 : ¬ (wrd y).2.2 = 0) :
    chkN s (k + 1) = ⟨setI v (wrd y).1 (wrd y).2.1, seen.set (wrd y).1.toNat true, if (wrd y).1 = 6 then nth (pls s) k else again, out ++ [⟨(wrd y).2.2, nth (pls s) k, y⟩]⟩ := by
  have hK : chkK ⟨v, seen, again, out⟩ y = (wrd y).2.2 := by unfold chkK; rw [if_neg (by simp [h2])]
  rw [chkN, hC, wdn_get hY, chkS, hK, if_neg (by rintro (h | h); exact h1 h; exact wrd_ne2 y h), if_neg h0]
theorem chk_z (hC : chkN s k = ⟨v, seen, again, out⟩) (hY : (wds s)[k]? = some y) (h2 : ¬ blt seen (wrd y).1.toNat = true) (h0 : (wrd y).2.2 = 0) :
    chkN s (k + 1) = ⟨setI v (wrd y).1 (wrd y).2.1, seen.set (wrd y).1.toNat true, if (wrd y).1 = 6 then nth (pls s) k else again, out⟩ := by
  have hK : chkK ⟨v, seen, again, out⟩ y = (wrd y).2.2 := by unfold chkK; rw [if_neg (by simp [h2])]
  rw [chkN, hC, wdn_get hY, chkS, hK, if_neg (by omega), if_pos h0]
theorem chk_e (hC : chkN s k = ⟨v, seen, again, out⟩) (h1 : (wds s).length ≤ k) (h2 : k ≤ (wds s).length) : chkA s = ⟨v, seen, again, out⟩ := by rw [chkA, ← Nat.le_antisymm h2 h1, hC]
theorem chkM_t (hA : chkA s = ⟨v, seen, again, out⟩) {o2 : List Prb} (hM : o2 = chkM s k) (hb : blt seen k = true) : o2 = chkM s (k + 1) := by rw [chkM, hA, if_pos hb, List.append_nil, hM]
theorem chkM_f (hA : chkA s = ⟨v, seen, again, out⟩) {o2 : List Prb} (hM : o2 = chkM s k) (hb : ¬ blt seen k = true) (hY : fieldNames[k]? = some y) : o2 ++ [⟨5, (s.length : Int), y⟩] = chkM s (k + 1) := by rw [chkM, hA, if_neg hb, wdn_get hY, hM]
theorem chkO_t (hA : chkA s = ⟨v, seen, again, out⟩) {o2 : List Prb} (hM : o2 = chkM s k) (hk : k = 2) (h1 : nth v 6 = 1) (h2 : nth v 2 = 0) : o2 ++ [⟨6, again, [97, 103, 97, 105, 110]⟩] = chkO s := by subst hk; rw [chkO, hA, if_pos ⟨h1, h2⟩, hM]
theorem chkO_f (hA : chkA s = ⟨v, seen, again, out⟩) {o2 : List Prb} (hM : o2 = chkM s k) (hk : k = 2) (h : ¬ (nth v 6 = 1 ∧ nth v 2 = 0)) : o2 = chkO s := by subst hk; rw [chkO, hA, if_neg h, List.append_nil, hM]
theorem chkR_e (hA : chkA s = ⟨v, seen, again, out⟩) : rulV v = chkR s := by rw [chkR, hA]
theorem chkM_len (s : List UInt8) (k : Nat) : (chkM s k).length ≤ (wds s).length + k := by
  induction k with
  | zero => exact (chkN_len s _).2.2
  | succ k ih =>
    rw [chkM, List.length_append]
    split <;> simp only [List.length_cons, List.length_nil] <;> omega
theorem chkO_len (s : List UInt8) : (chkO s).length ≤ s.length + 4 := by
  have h1 := chkM_len s 2; have h2 := wds_len s
  rw [chkO, List.length_append]
  split <;> simp only [List.length_cons, List.length_nil] <;> omega
end
theorem take1 {s : List UInt8} {k : Nat} (h : k + 1 ≤ s.length) (hb : bat s k = 61) : (s.drop k).take ([61] : List UInt8).length = [61] := by
  have hk : k < s.length := by omega
  rw [bat_get hk] at hb
  rw [List.drop_eq_getElem_cons hk, show s[k] = 61 from u8_of hb]; rfl
theorem take1n {s : List UInt8} {k : Nat} (h : k + 1 ≤ s.length) (hb : ¬ bat s k = 61) : (s.drop k).take ([61] : List UInt8).length ≠ [61] := by
  have hk : k < s.length := by omega
  intro h9
  rw [List.drop_eq_getElem_cons hk] at h9
  apply hb
  rw [bat_get hk]
  have h8 : s[k] = 61 := (List.cons.inj h9).1
  rw [h8]; rfl
def namedBy (l : List (List UInt8)) (y : List UInt8) : Int × Int := if idx l y < 0 then (0, 3) else (idx l y, 0)
theorem named_y {l : List (List UInt8)} {y : List UInt8} (h : ¬ idx l y < 0) : namedBy l y = (idx l y, 0) := if_neg h
theorem named_n {l : List (List UInt8)} {y : List UInt8} (h : idx l y < 0) : namedBy l y = (0, 3) := if_pos h
theorem named_hit {l : List (List UInt8)} {y z : List UInt8} {k : Nat} (h : Nix l y k) (hz : l[k]? = some z) (e : z = y) : namedBy l y = ((k : Int), 0) := by
  have := h.hit hz e
  rw [named_y (by omega), this]
theorem named_miss {l : List (List UInt8)} {y : List UInt8} {k : Nat} (h : Nix l y k) (hk : l.length ≤ k) : namedBy l y = (0, 3) := named_n (by rw [h.miss hk]; decide)
theorem slam_at {k : Nat} (h : k < 3) : slamNames[k]? = some (slamName (k : Int)) := by
  have : k = 0 ∨ k = 1 ∨ k = 2 := by omega
  rcases this with rfl | rfl | rfl <;> rfl
theorem cap_at {k : Nat} (h : k < 4) : capNames[k]? = some (capName (k : Int)) := by
  have : k = 0 ∨ k = 1 ∨ k = 2 ∨ k = 3 := by omega
  rcases this with rfl | rfl | rfl | rfl <;> rfl
def nNames : List (List UInt8) := [[112, 105, 116, 115], [115, 101, 101, 100, 115], [99, 97, 112, 116, 117, 114, 101], [115, 108, 97, 109]]
def isNum (y : List UInt8) : Bool := decide (y ∈ nNames)
def isFlg (y : List UInt8) : Bool := decide (y ∈ fNames)
def numIx (y : List UInt8) : Nat := if y = [112, 105, 116, 115] then 0 else if y = [115, 101, 101, 100, 115] then 1 else if y = [99, 97, 112, 116, 117, 114, 101] then 7 else 8
theorem isNum_iff {y : List UInt8} (h : isNum y = true) : y = [112, 105, 116, 115] ∨ y = [115, 101, 101, 100, 115] ∨ y = [99, 97, 112, 116, 117, 114, 101] ∨ y = [115, 108, 97, 109] := by
  have h9 := of_decide_eq_true h
  simpa [nNames] using h9
theorem isFlg_iff {y : List UInt8} (h : isFlg y = true) : y ∈ fNames := of_decide_eq_true h
theorem isNum_no {y : List UInt8} (h : isNum y = false) : y ≠ [112, 105, 116, 115] ∧ y ≠ [115, 101, 101, 100, 115] ∧ y ≠ [99, 97, 112, 116, 117, 114, 101] ∧ y ≠ [115, 108, 97, 109] := by
  have h9 := of_decide_eq_false h
  simpa [nNames] using h9
theorem isFlg_no {y : List UInt8} (h : isFlg y = false) : y ≠ [115, 116, 111, 114, 101, 115] ∧ y ≠ [115, 107, 105, 112] ∧ y ≠ [114, 101, 108, 97, 121] ∧ y ≠ [102, 101, 101, 100] ∧ y ≠ [97, 103, 97, 105, 110] := by
  have h9 := of_decide_eq_false h
  simpa [fNames] using h9
def prbNames : List (List UInt8) := [[117, 110, 107, 110, 111, 119, 110, 32, 119, 111, 114, 100], [103, 105, 118, 101, 110, 32, 116, 119, 105, 99, 101], [110, 111, 116, 32, 97, 32, 110, 117, 109, 98, 101, 114], [110, 111, 116, 32, 97, 108, 108, 111, 119, 101, 100], [109, 105, 115, 115, 105, 110, 103], [110, 101, 101, 100, 115, 32, 115, 116, 111, 114, 101, 115]]
def prbT (p : Prb) : List UInt8 := if betw p.kind 1 6 = true then ((dec p.at1 ++ [58, 32]) ++ p.word ++ [58, 32]) ++ prbNames.getD (p.kind - 1).toNat [] else []
theorem prbT_n {p : Prb} (h : betw p.kind 1 6 = false) : prbT p = [] := if_neg (by simp [h])
theorem prbT_y {p : Prb} {y : List UInt8} (h : betw p.kind 1 6 = true) (hy : prbNames[(p.kind - 1).toNat]? = some y) : prbT p = ((dec p.at1 ++ [58, 32]) ++ p.word ++ [58, 32]) ++ y := by unfold prbT; rw [if_pos h, List.getD, hy]; rfl
theorem prbName_len {y : List UInt8} {k : Nat} (h : prbNames[k]? = some y) : y.length ≤ 12 := by
  have := List.mem_of_getElem? h
  simp only [prbNames, List.mem_cons, List.not_mem_nil, or_false] at this
  rcases this with rfl | rfl | rfl | rfl | rfl | rfl <;> decide
theorem okR_mk {a b c d : Int} {st sk re fe ag : Bool} (h1 : 2 ≤ a ∧ a ≤ 8) (h2 : 1 ≤ b ∧ b ≤ 6) (h3 : 0 ≤ c ∧ c ≤ 3) (h4 : 0 ≤ d ∧ d ≤ 2) (h5 : (st || !ag) = true) : okR ⟨a, b, st, sk, re, fe, ag, c, d⟩ = true := by
  simp only [okR, Bool.and_eq_true]
  exact ⟨⟨⟨⟨betw_iff.2 h1, betw_iff.2 h2⟩, betw_iff.2 h3⟩, betw_iff.2 h4⟩, h5⟩
def PrbOk (m : Int) (p : Prb) : Prop := 0 ≤ p.at1 ∧ p.at1 ≤ m ∧ (p.word.length : Int) ≤ m + 5
theorem wdn_len (s : List UInt8) (k : Nat) : (wdn (wds s) k).length ≤ s.length := by
  rcases Nat.lt_or_ge k (wds s).length with h | h
  · have := wds_mem (s := s) (List.getElem?_eq_getElem h)
    rw [wdn_get (List.getElem?_eq_getElem h)]; exact this
  · unfold wdn; rw [List.getD, List.getElem?_eq_none h]; simp
theorem pls_nth (s : List UInt8) (k : Nat) : 0 ≤ nth (pls s) k ∧ nth (pls s) k ≤ (s.length : Int) := by
  rcases Nat.lt_or_ge k (pls s).length with h | h
  · exact pls_bd s _ (nth_mem h)
  · unfold nth; rw [List.getD, List.getElem?_eq_none h]; simp
theorem chkS_ok {m : Int} {c : Chk} {w : List UInt8} {a : Int} (ha : 0 ≤ a ∧ a ≤ m) (hw : (w.length : Int) ≤ m) (hc : 0 ≤ c.again ∧ c.again ≤ m) (ho : ∀ p ∈ c.out, PrbOk m p) : (0 ≤ (chkS c w a).again ∧ (chkS c w a).again ≤ m) ∧ ∀ p ∈ (chkS c w a).out, PrbOk m p := by
  have hp : PrbOk m ⟨chkK c w, a, w⟩ := ⟨ha.1, ha.2, by show (w.length : Int) ≤ m + 5; omega⟩
  have hs : ∀ p ∈ c.out ++ [⟨chkK c w, a, w⟩], PrbOk m p := fun p h => by
    rcases List.mem_append.1 h with h | h
    · exact ho p h
    · rw [List.mem_singleton.1 h]; exact hp
  unfold chkS
  split
  · exact ⟨hc, hs⟩
  · refine ⟨?_, ?_⟩
    · dsimp only; split
      · exact ha
      · exact hc
    · dsimp only; split
      · exact ho
      · exact hs
theorem chkN_ok (s : List UInt8) : ∀ k : Nat, (0 ≤ (chkN s k).again ∧ (chkN s k).again ≤ (s.length : Int)) ∧ ∀ p ∈ (chkN s k).out, PrbOk s.length p
  | 0 => ⟨⟨Int.le_refl _, by show (0 : Int) ≤ _; omega⟩, fun p h => by simp [chkN, Chk.zero] at h⟩
  | k + 1 => by
    obtain ⟨a, b⟩ := chkN_ok s k
    rw [chkN]
    exact chkS_ok (pls_nth s k) (by have := wdn_len s k; omega) a b
theorem chkM_ok (s : List UInt8) : ∀ k : Nat, k ≤ 2 → ∀ p ∈ chkM s k, PrbOk s.length p
  | 0, _ => (chkN_ok s _).2
  | k + 1, hk => by
    have ih := chkM_ok s k (by omega)
    rw [chkM]
    split
    · rw [List.append_nil]; exact ih
    · intro p h
      rcases List.mem_append.1 h with h | h
      · exact ih p h
      · rw [List.mem_singleton.1 h]
        have : k = 0 ∨ k = 1 := by omega
        refine ⟨by show (0 : Int) ≤ s.length; omega, Int.le_refl _, ?_⟩
        rcases this with rfl | rfl
        · show ((wdn fieldNames 0).length : Int) ≤ _; rw [show (wdn fieldNames 0).length = 4 from rfl]; omega
        · show ((wdn fieldNames 1).length : Int) ≤ _; rw [show (wdn fieldNames 1).length = 5 from rfl]; omega
theorem chkO_ok (s : List UInt8) : ∀ p ∈ chkO s, PrbOk s.length p := by
  intro p h
  rw [chkO] at h
  rcases List.mem_append.1 h with h | h
  · exact chkM_ok s 2 (Nat.le_refl _) p h
  · split at h
    · rw [List.mem_singleton.1 h]
      obtain ⟨a, _⟩ := chkN_ok s (wds s).length
      exact ⟨a.1, a.2, by show ((5 : Nat) : Int) ≤ _; omega⟩
    · simp at h
theorem chkO_el {s : List UInt8} {k : Nat} {p : Prb} (h : (chkO s)[k]? = some p) : p.word.length ≤ s.length + 5 ∧ 0 ≤ p.at1 ∧ p.at1 ≤ (s.length : Int) := by
  obtain ⟨a, b, c⟩ := chkO_ok s p (List.mem_of_getElem? h)
  exact ⟨by omega, a, b⟩
def mget {α : Type} [DecidableEq α] : List (α × Int) → α → Option Int
  | [], _ => none
  | p :: r, k => if p.1 = k then some p.2 else mget r k
def mput {α : Type} [DecidableEq α] : List (α × Int) → α → Int → List (α × Int)
  | [], k, v => [(k, v)]
  | p :: r, k, v => if p.1 = k then (k, v) :: r else p :: mput r k v
def mhas {α : Type} [DecidableEq α] (g : List (α × Int)) (k : α) : Bool := (mget g k).isSome
def mval {α : Type} [DecidableEq α] (g : List (α × Int)) (k : α) : Int := (mget g k).getD 0
theorem mget_put {α : Type} [DecidableEq α] (k : α) (v : Int) (j : α) : ∀ g : List (α × Int), mget (mput g k v) j = if k = j then some v else mget g j
  | [] => by simp [mput, mget]
  | p :: r => by
    rw [mput]
    by_cases h : p.1 = k
    · rw [if_pos h, mget, mget]
      by_cases h2 : k = j
      · rw [if_pos h2, if_pos h2]
      · rw [if_neg h2, if_neg h2, if_neg (by rw [h]; exact h2)]
    · rw [if_neg h, mget, mget_put k v j r, mget]
      by_cases h2 : k = j
      · rw [if_pos h2, if_pos h2, if_neg (by rw [← h2]; exact h)]
      · rw [if_neg h2, if_neg h2]
theorem mhas_put {α : Type} [DecidableEq α] (g : List (α × Int)) (k : α) (v : Int) (j : α) : mhas (mput g k v) j = (decide (k = j) || mhas g j) := by
  unfold mhas
  rw [mget_put]
  by_cases h : k = j <;> simp [h]
theorem idx_get : ∀ {l : List (List UInt8)} {s : List UInt8}, 0 ≤ idx l s → l[(idx l s).toNat]? = some s
  | [], _, h => by simp [idx] at h
  | x :: l, s, h => by
    rw [idx] at h ⊢
    by_cases h0 : x = s
    · rw [if_pos h0]; simp [h0]
    · rw [if_neg h0] at h ⊢
      have hb := idx_bd l s
      by_cases h1 : idx l s = -1
      · rw [if_pos h1] at h; exact absurd h (by decide)
      · rw [if_neg h1] at h ⊢
        rw [show (idx l s + 1).toNat = (idx l s).toNat + 1 by omega, List.getElem?_cons_succ]
        exact idx_get (by omega)
theorem idx_inj {l : List (List UInt8)} {s t : List UInt8} (h : 0 ≤ idx l s) (e : (idx l s).toNat = (idx l t).toNat) (h2 : 0 ≤ idx l t) : s = t := by
  have a := idx_get h
  rw [e, idx_get h2] at a
  exact (Option.some.inj a).symm
def setNum (r : Rul) (y : List UInt8) (n : Int) : Rul :=
  if y = [112, 105, 116, 115] then ⟨n, r.seeds, r.stores, r.skip, r.relay, r.feed, r.again, r.capture, r.slam⟩ else
  if y = [115, 101, 101, 100, 115] then ⟨r.pits, n, r.stores, r.skip, r.relay, r.feed, r.again, r.capture, r.slam⟩ else
  if y = [99, 97, 112, 116, 117, 114, 101] then ⟨r.pits, r.seeds, r.stores, r.skip, r.relay, r.feed, r.again, n, r.slam⟩ else
  ⟨r.pits, r.seeds, r.stores, r.skip, r.relay, r.feed, r.again, r.capture, n⟩
def setFlg (r : Rul) (y : List UInt8) : Rul :=
  if y = [115, 116, 111, 114, 101, 115] then ⟨r.pits, r.seeds, true, r.skip, r.relay, r.feed, r.again, r.capture, r.slam⟩ else
  if y = [115, 107, 105, 112] then ⟨r.pits, r.seeds, r.stores, true, r.relay, r.feed, r.again, r.capture, r.slam⟩ else
  if y = [114, 101, 108, 97, 121] then ⟨r.pits, r.seeds, r.stores, r.skip, true, r.feed, r.again, r.capture, r.slam⟩ else
  if y = [102, 101, 101, 100] then ⟨r.pits, r.seeds, r.stores, r.skip, r.relay, true, r.again, r.capture, r.slam⟩ else
  ⟨r.pits, r.seeds, r.stores, r.skip, r.relay, r.feed, true, r.capture, r.slam⟩
def pitsT : List UInt8 := [112, 105, 116, 115]
def seedsT : List UInt8 := [115, 101, 101, 100, 115]
def captT : List UInt8 := [99, 97, 112, 116, 117, 114, 101]
def slamT : List UInt8 := [115, 108, 97, 109]
def storT : List UInt8 := [115, 116, 111, 114, 101, 115]
def agaiT : List UInt8 := [97, 103, 97, 105, 110]
def valP (y t : List UInt8) : Int × Int :=
  if y = captT then (if idx capNames t < 0 then (0, 4) else (idx capNames t, 0)) else
  if y = slamT then (if idx slamNames t < 0 then (0, 4) else (idx slamNames t, 0)) else
  if (num t).2 = false then (0, 3) else
  if y = pitsT ∧ betw (num t).1 2 8 = false ∨ y = seedsT ∧ betw (num t).1 1 6 = false then (0, 4) else ((num t).1, 0)
def valR (r : Rul) (y t : List UInt8) : Rul := if (valP y t).2 = 0 then setNum r y (valP y t).1 else r
theorem valP_z {y t : List UInt8} (h : (valP y t).2 ≠ 0) : (valP y t).1 = 0 := by
  unfold valP at h ⊢
  split
  · split
    · rfl
    · rename_i a b; rw [if_pos a, if_neg b] at h; exact absurd rfl h
  · split
    · split
      · rfl
      · rename_i c a b; rw [if_neg c, if_pos a, if_neg b] at h; exact absurd rfl h
    · split
      · rfl
      · split
        · rfl
        · rename_i a b c d; rw [if_neg a, if_neg b, if_neg c, if_neg d] at h; exact absurd rfl h
theorem p34 {a : Int} : ((a, (0 : Int)) : Int × Int).2 ≠ 1 ∧ ((a, (0 : Int)) : Int × Int).2 ≠ 2 := ⟨fun h => absurd (show (0 : Int) = 1 from h) (show ¬ (0 : Int) = 1 by decide), fun h => absurd (show (0 : Int) = 2 from h) (show ¬ (0 : Int) = 2 by decide)⟩
theorem valP_ne (y t : List UInt8) : (valP y t).2 ≠ 1 ∧ (valP y t).2 ≠ 2 := by
  unfold valP
  split
  · split
    · exact ⟨by decide, by decide⟩
    · exact p34
  · split
    · split
      · exact ⟨by decide, by decide⟩
      · exact p34
    · split
      · exact ⟨by decide, by decide⟩
      · split
        · exact ⟨by decide, by decide⟩
        · exact p34
theorem valP_pits (t : List UInt8) : valP pitsT t = if (num t).2 = false then (0, 3) else if betw (num t).1 2 8 = false then (0, 4) else ((num t).1, 0) := by
  unfold valP
  rw [if_neg (show ¬ pitsT = captT by decide), if_neg (show ¬ pitsT = slamT by decide)]
  have h1 : ¬ pitsT = seedsT := by decide
  simp [h1]
theorem valP_seeds (t : List UInt8) : valP seedsT t = if (num t).2 = false then (0, 3) else if betw (num t).1 1 6 = false then (0, 4) else ((num t).1, 0) := by
  unfold valP
  rw [if_neg (show ¬ seedsT = captT by decide), if_neg (show ¬ seedsT = slamT by decide)]
  have h1 : ¬ seedsT = pitsT := by decide
  simp [h1]
theorem valP_capt (t : List UInt8) : valP captT t = if idx capNames t < 0 then (0, 4) else (idx capNames t, 0) := by
  unfold valP; rw [if_pos rfl]
theorem valP_slam (t : List UInt8) : valP slamT t = if idx slamNames t < 0 then (0, 4) else (idx slamNames t, 0) := by
  unfold valP; rw [if_neg (show ¬ slamT = captT by decide), if_pos rfl]
structure Rdr where
  rules : Rul
  problems : List Prb
  given : List (List UInt8 × Int)
def rdU (x : Rdr) (a : Int) (w : List UInt8) (y t : List UInt8) (e : Bool) : Rdr :=
  if e = true ∧ isNum y = false ∨ e = false ∧ isFlg y = false then ⟨x.rules, x.problems ++ [⟨1, a, w⟩], x.given⟩ else
  if mhas x.given y = true then ⟨x.rules, x.problems ++ [⟨2, a, w⟩], x.given⟩ else
  if e = true then ⟨valR x.rules y t, if (valP y t).2 = 0 then x.problems else x.problems ++ [⟨(valP y t).2, a, w⟩], mput x.given y a⟩ else
  ⟨setFlg x.rules y, x.problems, mput x.given y a⟩
def rdW (x : Rdr) (a : Int) (w : List UInt8) : Rdr := rdU x a w (cutS w [61]).1 (cutS w [61]).2.1 (cutS w [61]).2.2
def wrdP (y t : List UInt8) (e : Bool) : Int × Int × Int :=
  if idx fieldNames y < 0 ∨ e = betw (idx fieldNames y) 2 6 then (0, 0, 1) else
  if idx fieldNames y = 0 ∨ idx fieldNames y = 1 then
    if (num t).2 = false then (idx fieldNames y, 0, 3) else
    if idx fieldNames y = 0 ∧ betw (num t).1 2 8 = false ∨ idx fieldNames y = 1 ∧ betw (num t).1 1 6 = false then (idx fieldNames y, 0, 4) else
    (idx fieldNames y, (num t).1, 0)
  else if idx fieldNames y = 7 ∨ idx fieldNames y = 8 then
    if idx (if idx fieldNames y = 8 then slamNames else capNames) t < 0 then (idx fieldNames y, 0, 4) else
    (idx fieldNames y, idx (if idx fieldNames y = 8 then slamNames else capNames) t, 0)
  else (idx fieldNames y, 1, 0)
theorem wrd_P (w : List UInt8) : wrd w = wrdP (cutS w [61]).1 (cutS w [61]).2.1 (cutS w [61]).2.2 := rfl
theorem wrdP_num {y t : List UInt8} (h : isNum y = true) : wrdP y t true = ((numIx y : Int), (valP y t).1, (valP y t).2) ∧ idx fieldNames y = (numIx y : Int) ∧ wrdP y t false = (0, 0, 1) ∧ isFlg y = false := by
  rcases isNum_iff h with rfl | rfl | rfl | rfl
  · refine ⟨?_, rfl, rfl, rfl⟩
    show (if (num t).2 = false then ((0 : Int), (0 : Int), (3 : Int)) else if (0 : Int) = 0 ∧ betw (num t).1 2 8 = false ∨ (0 : Int) = 1 ∧ betw (num t).1 1 6 = false then (0, 0, 4) else (0, (num t).1, 0)) = ((0 : Int), (valP pitsT t).1, (valP pitsT t).2)
    rw [valP_pits]
    by_cases h1 : (num t).2 = false
    · rw [if_pos h1, if_pos h1]
    · rw [if_neg h1, if_neg h1]
      by_cases h2 : betw (num t).1 2 8 = false
      · rw [if_pos (.inl ⟨rfl, h2⟩), if_pos h2]
      · rw [if_neg (fun h => h.elim (fun b => h2 b.2) (fun b => absurd b.1 (by decide))), if_neg h2]
  · refine ⟨?_, rfl, rfl, rfl⟩
    show (if (num t).2 = false then ((1 : Int), (0 : Int), (3 : Int)) else if (1 : Int) = 0 ∧ betw (num t).1 2 8 = false ∨ (1 : Int) = 1 ∧ betw (num t).1 1 6 = false then (1, 0, 4) else (1, (num t).1, 0)) = ((1 : Int), (valP seedsT t).1, (valP seedsT t).2)
    rw [valP_seeds]
    by_cases h1 : (num t).2 = false
    · rw [if_pos h1, if_pos h1]
    · rw [if_neg h1, if_neg h1]
      by_cases h2 : betw (num t).1 1 6 = false
      · rw [if_pos (.inr ⟨rfl, h2⟩), if_pos h2]
      · rw [if_neg (fun h => h.elim (fun b => absurd b.1 (by decide)) (fun b => h2 b.2)), if_neg h2]
  · refine ⟨?_, rfl, rfl, rfl⟩
    show (if idx capNames t < 0 then ((7 : Int), (0 : Int), (4 : Int)) else (7, idx capNames t, 0)) = ((7 : Int), (valP captT t).1, (valP captT t).2)
    rw [valP_capt]
    by_cases h1 : idx capNames t < 0
    · rw [if_pos h1, if_pos h1]
    · rw [if_neg h1, if_neg h1]
  · refine ⟨?_, rfl, rfl, rfl⟩
    show (if idx slamNames t < 0 then ((8 : Int), (0 : Int), (4 : Int)) else (8, idx slamNames t, 0)) = ((8 : Int), (valP slamT t).1, (valP slamT t).2)
    rw [valP_slam]
    by_cases h1 : idx slamNames t < 0
    · rw [if_pos h1, if_pos h1]
    · rw [if_neg h1, if_neg h1]
theorem isFlg_iff5 {y : List UInt8} (h : isFlg y = true) : y = [115, 116, 111, 114, 101, 115] ∨ y = [115, 107, 105, 112] ∨ y = [114, 101, 108, 97, 121] ∨ y = [102, 101, 101, 100] ∨ y = [97, 103, 97, 105, 110] := by
  have h9 := isFlg_iff h
  simpa [fNames] using h9
theorem wrdP_flg {y t : List UInt8} (h : isFlg y = true) : wrdP y t false = ((flagIx y : Int), 1, 0) ∧ idx fieldNames y = (flagIx y : Int) ∧ wrdP y t true = (0, 0, 1) ∧ isNum y = false := by
  rcases isFlg_iff5 h with rfl | rfl | rfl | rfl | rfl <;> exact ⟨rfl, rfl, rfl, rfl⟩
theorem wrdP_no {y t : List UInt8} {e : Bool} (h : isNum y = false) (h2 : isFlg y = false) : wrdP y t e = (0, 0, 1) := by
  obtain ⟨a1, a2, a3, a4⟩ := isNum_no h
  obtain ⟨b1, b2, b3, b4, b5⟩ := isFlg_no h2
  have : idx fieldNames y < 0 := by
    have : Nix fieldNames y 9 := fun i _ e => by
      have := List.mem_of_getElem? e
      simp only [fieldNames, List.mem_cons, List.not_mem_nil, or_false] at this
      rcases this with rfl | rfl | rfl | rfl | rfl | rfl | rfl | rfl | rfl <;> contradiction
    rw [this.miss (Nat.le_refl _)]; decide
  unfold wrdP; rw [if_pos (.inl this)]
theorem rulV_num {v : List Int} (hv : v.length = 9) {y : List UInt8} (h : isNum y = true) (n : Int) : rulV (setI v (numIx y : Int) n) = setNum (rulV v) y n := by
  match v, hv with
  | [a0, a1, a2, a3, a4, a5, a6, a7, a8], _ => rcases isNum_iff h with rfl | rfl | rfl | rfl <;> rfl
theorem rulV_flg {v : List Int} (hv : v.length = 9) {y : List UInt8} (h : isFlg y = true) : rulV (setI v (flagIx y : Int) 1) = setFlg (rulV v) y := by
  match v, hv with
  | [a0, a1, a2, a3, a4, a5, a6, a7, a8], _ => rcases isFlg_iff5 h with rfl | rfl | rfl | rfl | rfl <;> rfl
theorem blt_set {l : List Bool} {k j : Nat} (hk : k < l.length) : blt (l.set k true) j = (decide (j = k) || blt l j) := by
  unfold blt
  by_cases h : j = k
  · subst h; simp [List.getD, hk]
  · simp [List.getD, List.getElem?_set, h, show ¬ k = j from fun e => h e.symm]
theorem nth_setI {l : List Int} {k : Int} {n : Int} {j : Nat} (h : ¬ (j : Int) = k) (h0 : 0 ≤ k) : nth (setI l k n) j = nth l j := by
  unfold nth setI
  have : ¬ k.toNat = j := by omega
  simp [List.getD, List.getElem?_set, this]
theorem setI_same {l : List Int} {k : Int} (h : nth l k.toNat = 0) : setI l k 0 = l := by
  unfold setI
  apply List.ext_getElem?
  intro i
  rw [List.getElem?_set]
  split
  · rename_i e
    subst e
    split
    · rename_i hlt
      rw [nth_eq hlt] at h
      rw [List.getElem?_eq_getElem hlt, h]
    · rename_i hlt
      rw [List.getElem?_eq_none (by omega)]
  · rfl
theorem nth_setI_eq {l : List Int} {k : Int} {n : Int} (h : k.toNat < l.length) : nth (setI l k n) k.toNat = n := by
  unfold nth setI; simp [List.getD, h]
structure RelC (x : Rdr) (c : Chk) : Prop where
  r : x.rules = rulV c.v
  p : x.problems = c.out
  g : ∀ y, mhas x.given y = (decide (0 ≤ idx fieldNames y) && blt c.seen (idx fieldNames y).toNat)
  lv : c.v.length = 9
  ls : c.seen.length = 9
  a : blt c.seen 6 = true → mget x.given agaiT = some c.again
  z : ∀ k, blt c.seen k = false → nth c.v k = 0
  f6 : blt c.seen 6 = true → nth c.v 6 = 1
  f2 : blt c.seen 2 = true → nth c.v 2 = 1
theorem rep_b (n k : Nat) : (List.replicate n false).getD k false = false := by
  rw [List.getD_eq_getElem?_getD, List.getElem?_replicate]; split <;> rfl
theorem rep_i (n k : Nat) : (List.replicate n (0 : Int)).getD k 0 = 0 := by
  rw [List.getD_eq_getElem?_getD, List.getElem?_replicate]; split <;> rfl
theorem RelC.zero : RelC ⟨⟨0, 0, false, false, false, false, false, 0, 0⟩, [], []⟩ Chk.zero := by
  refine ⟨rfl, rfl, fun y => ?_, rfl, rfl, fun h => absurd h (by decide), fun k _ => rep_i 9 k, fun h => absurd h (by decide), fun h => absurd h (by decide)⟩
  have : blt Chk.zero.seen (idx fieldNames y).toNat = false := rep_b 9 _
  rw [this]; simp [mhas, mget]
theorem RelC.put {x : Rdr} {c : Chk} (h : RelC x c) {y : List UInt8} {k : Nat} (a : Int) (hi : idx fieldNames y = (k : Int)) (hk : k < 9) (y' : List UInt8) :
    mhas (mput x.given y a) y' = (decide (0 ≤ idx fieldNames y') && blt (c.seen.set k true) (idx fieldNames y').toNat) := by
  rw [mhas_put, h.g, blt_set (by have := h.ls; omega)]
  by_cases e : y = y'
  · subst e; rw [hi]; simp
  · by_cases h0 : 0 ≤ idx fieldNames y'
    · have : ¬ (idx fieldNames y').toNat = k := fun e2 => e (idx_inj (l := fieldNames) (by rw [hi]; omega) (by rw [hi, e2]; simp) h0)
      simp [e, h0, this]
    · simp [e, h0]
theorem agai_idx : idx fieldNames agaiT = 6 := by decide
theorem stor_idx : idx fieldNames storT = 2 := by decide
section
variable {c : Chk} {w : List UInt8} {a i n q : Int}
theorem chkS_u (e : wrd w = (i, n, q)) (h : q = 1) : chkS c w a = ⟨c.v, c.seen, c.again, c.out ++ [⟨1, a, w⟩]⟩ := by
  have hK : chkK c w = 1 := by unfold chkK; rw [if_neg (by rw [e]; simp [h]), e]; exact h
  unfold chkS; rw [hK, if_pos (.inl rfl)]
theorem chkS_t (e : wrd w = (i, n, q)) (h : q ≠ 1) (hb : blt c.seen i.toNat = true) : chkS c w a = ⟨c.v, c.seen, c.again, c.out ++ [⟨2, a, w⟩]⟩ := by
  have hK : chkK c w = 2 := by unfold chkK; rw [if_pos (by rw [e]; exact ⟨h, hb⟩)]
  unfold chkS; rw [hK, if_pos (.inr rfl)]
theorem chkS_n (e : wrd w = (i, n, q)) (h : q ≠ 1) (h2 : q ≠ 2) (hb : blt c.seen i.toNat = false) : chkS c w a = ⟨setI c.v i n, c.seen.set i.toNat true, if i = 6 then a else c.again, if q = 0 then c.out else c.out ++ [⟨q, a, w⟩]⟩ := by
  have hK : chkK c w = q := by unfold chkK; rw [if_neg (by rw [e]; simp [hb]), e]
  unfold chkS; rw [hK, if_neg (by rintro (h9 | h9); exact h h9; exact h2 h9), e]
end
theorem RelC.step {x : Rdr} {c : Chk} (h : RelC x c) (a : Int) (w : List UInt8) : RelC (rdW x a w) (chkS c w a) := by
  have hw := wrd_P w
  unfold rdW
  generalize (cutS w [61]).1 = y at hw ⊢
  generalize (cutS w [61]).2.1 = t at hw ⊢
  generalize (cutS w [61]).2.2 = e at hw ⊢
  have unk : wrd w = (0, 0, 1) → RelC ⟨x.rules, x.problems ++ [⟨1, a, w⟩], x.given⟩ (chkS c w a) := fun e1 => by
    rw [chkS_u e1 rfl]
    exact ⟨h.r, by show x.problems ++ _ = c.out ++ _; rw [h.p], h.g, h.lv, h.ls, h.a, h.z, h.f6, h.f2⟩
  have twi : ∀ {k : Nat} {n q : Int}, wrd w = ((k : Int), n, q) → q ≠ 1 → blt c.seen k = true → RelC ⟨x.rules, x.problems ++ [⟨2, a, w⟩], x.given⟩ (chkS c w a) := fun {k n q} e1 hq hb => by
    rw [chkS_t e1 hq (by simpa using hb)]
    exact ⟨h.r, by show x.problems ++ _ = c.out ++ _; rw [h.p], h.g, h.lv, h.ls, h.a, h.z, h.f6, h.f2⟩
  have has : ∀ {k : Nat}, idx fieldNames y = (k : Int) → mhas x.given y = blt c.seen k := fun {k} hi => by rw [h.g, hi]; simp
  unfold rdU
  cases hn : isNum y with
  | true =>
    obtain ⟨q1, q2, q3, q4⟩ := wrdP_num (t := t) hn
    cases e with
    | false => rw [if_pos (.inr ⟨rfl, q4⟩)]; exact unk (hw.trans q3)
    | true =>
      rw [if_neg (by simp)]
      have hw' := hw.trans q1
      obtain ⟨v1, v2⟩ := valP_ne y t
      have hk9 : numIx y < 9 ∧ numIx y ≠ 6 ∧ numIx y ≠ 2 := by
        rcases isNum_iff hn with rfl | rfl | rfl | rfl <;> decide
      rw [has q2]
      cases hb : blt c.seen (numIx y) with
      | true => rw [if_pos rfl]; exact twi hw' v1 hb
      | false =>
        rw [if_neg (by decide), if_pos rfl]
        rw [chkS_n hw' v1 v2 (by rw [Int.toNat_natCast]; exact hb), Int.toNat_natCast]
        refine ⟨?_, ?_, h.put a q2 hk9.1, by rw [setI_length]; exact h.lv, by rw [List.length_set]; exact h.ls, fun hs => ?_, fun k hs => ?_, fun hs => ?_, fun hs => ?_⟩
        · dsimp only
          unfold valR
          by_cases h0 : (valP y t).2 = 0
          · rw [if_pos h0, rulV_num h.lv hn, h.r]
          · rw [if_neg h0, valP_z h0, setI_same (by rw [Int.toNat_natCast]; exact h.z _ hb), h.r]
        · dsimp only; rw [h.p]
        · have hs' : blt c.seen 6 = true := by
            have := hs
            dsimp only at this
            rw [blt_set (by have := h.ls; omega)] at this
            simpa [hk9.2.1.symm] using this
          dsimp only
          rw [if_neg (by have := hk9.2.1; omega), mget_put, if_neg (by intro e2; subst e2; exact absurd hn (by decide))]
          exact h.a hs'
        · dsimp only at hs ⊢
          rw [blt_set (by have := h.ls; omega)] at hs
          simp only [Bool.or_eq_false_iff, decide_eq_false_iff_not] at hs
          rw [nth_setI (by have := hs.1; omega) (by omega)]
          exact h.z k hs.2
        · dsimp only at hs ⊢
          rw [blt_set (by have := h.ls; omega)] at hs
          have hs' : blt c.seen 6 = true := by simpa [hk9.2.1.symm] using hs
          rw [nth_setI (by have := hk9.2.1; omega) (by omega)]
          exact h.f6 hs'
        · dsimp only at hs ⊢
          rw [blt_set (by have := h.ls; omega)] at hs
          have hs' : blt c.seen 2 = true := by simpa [hk9.2.2.symm] using hs
          rw [nth_setI (by have := hk9.2.2; omega) (by omega)]
          exact h.f2 hs'
  | false =>
    cases hf : isFlg y with
    | false => rw [if_pos (by cases e; exact .inr ⟨rfl, rfl⟩; exact .inl ⟨rfl, rfl⟩)]; exact unk (hw.trans (wrdP_no hn hf))
    | true =>
      obtain ⟨q1, q2, q3, q4⟩ := wrdP_flg (t := t) hf
      cases e with
      | true => rw [if_pos (.inl ⟨rfl, rfl⟩)]; exact unk (hw.trans q3)
      | false =>
        rw [if_neg (by simp)]
        have hw' := hw.trans q1
        have hk9 : flagIx y < 9 ∧ (flagIx y = 6 → y = agaiT) ∧ (flagIx y ≠ 6 → y ≠ agaiT) := by
          rcases isFlg_iff5 hf with rfl | rfl | rfl | rfl | rfl <;> decide
        rw [has q2]
        cases hb : blt c.seen (flagIx y) with
        | true => rw [if_pos rfl]; exact twi hw' (by decide) hb
        | false =>
          rw [if_neg (by decide), if_neg (by decide)]
          rw [chkS_n hw' (by decide) (by decide) (by rw [Int.toNat_natCast]; exact hb), Int.toNat_natCast, if_pos rfl]
          refine ⟨?_, h.p, h.put a q2 hk9.1, by rw [setI_length]; exact h.lv, by rw [List.length_set]; exact h.ls, fun hs => ?_, fun k hs => ?_, fun hs => ?_, fun hs => ?_⟩
          · dsimp only; rw [rulV_flg h.lv hf, h.r]
          · dsimp only at hs ⊢
            rw [blt_set (by have := h.ls; omega)] at hs
            by_cases h6 : flagIx y = 6
            · rw [if_pos (by omega), mget_put, if_pos (hk9.2.1 h6)]
            · rw [if_neg (by omega), mget_put, if_neg (hk9.2.2 h6)]
              exact h.a (by simpa [show ¬ 6 = flagIx y from fun e2 => h6 e2.symm] using hs)
          · dsimp only at hs ⊢
            rw [blt_set (by have := h.ls; omega)] at hs
            simp only [Bool.or_eq_false_iff, decide_eq_false_iff_not] at hs
            rw [nth_setI (by have := hs.1; omega) (by omega)]
            exact h.z k hs.2
          · dsimp only at hs ⊢
            rw [blt_set (by have := h.ls; omega)] at hs
            by_cases h6 : 6 = flagIx y
            · have := nth_setI_eq (l := c.v) (k := (flagIx y : Int)) (n := 1) (by have := h.lv; omega)
              rw [Int.toNat_natCast, ← h6] at this; rw [← h6]; exact this
            · rw [nth_setI (by omega) (by omega)]
              exact h.f6 (by simpa [h6] using hs)
          · dsimp only at hs ⊢
            rw [blt_set (by have := h.ls; omega)] at hs
            by_cases h6 : 2 = flagIx y
            · have := nth_setI_eq (l := c.v) (k := (flagIx y : Int)) (n := 1) (by have := h.lv; omega)
              rw [Int.toNat_natCast, ← h6] at this; rw [← h6]; exact this
            · rw [nth_setI (by omega) (by omega)]
              exact h.f2 (by simpa [h6] using hs)
def pNames : List (List UInt8) := [pitsT, seedsT]
def misN (g : List (List UInt8 × Int)) (m : Int) : Nat → List Prb
  | 0 => []
  | k + 1 => misN g m k ++ (if mhas g (wdn pNames k) = true then [] else [⟨5, m, wdn pNames k⟩])
def misE (g : List (List UInt8 × Int)) : List Prb := if mhas g agaiT = true ∧ mhas g storT = false then [⟨6, mval g agaiT, agaiT⟩] else []
def mis (g : List (List UInt8 × Int)) (m : Int) : List Prb := misN g m 2 ++ misE g
theorem misN_len (g : List (List UInt8 × Int)) (m : Int) : ∀ k, (misN g m k).length ≤ k
  | 0 => Nat.le_refl _
  | k + 1 => by
    have := misN_len g m k
    rw [misN, List.length_append]
    split <;> simp only [List.length_cons, List.length_nil] <;> omega
theorem RelC.missing {x : Rdr} {s : List UInt8} (h : RelC x (chkA s)) : x.problems ++ mis x.given (s.length : Int) = chkO s := by
  have hp : ∀ k : Nat, k ≤ 2 → x.problems ++ misN x.given (s.length : Int) k = chkM s k := by
    intro k hk
    induction k with
    | zero => rw [misN, List.append_nil]; exact h.p
    | succ k ih =>
      have hk' : k = 0 ∨ k = 1 := by omega
      have e : mhas x.given (wdn pNames k) = blt (chkA s).seen k ∧ wdn pNames k = wdn fieldNames k := by
        rcases hk' with rfl | rfl
        · exact ⟨by rw [show wdn pNames 0 = pitsT from rfl, h.g, show idx fieldNames pitsT = 0 from by decide]; simp, rfl⟩
        · exact ⟨by rw [show wdn pNames 1 = seedsT from rfl, h.g, show idx fieldNames seedsT = 1 from by decide]; simp, rfl⟩
      rw [misN, ← List.append_assoc, ih (by omega), chkM, e.1, e.2]
  unfold mis chkO
  rw [← List.append_assoc, hp 2 (Nat.le_refl _)]
  congr 1
  unfold misE
  have h6 : mhas x.given agaiT = blt (chkA s).seen 6 := by rw [h.g, agai_idx]; simp
  have h2 : mhas x.given storT = blt (chkA s).seen 2 := by rw [h.g, stor_idx]; simp
  by_cases a : blt (chkA s).seen 6 = true
  · by_cases b : blt (chkA s).seen 2 = true
    · rw [if_neg (by rw [h2, b]; simp), if_neg (by rw [h.f2 b]; simp)]
    · have b' : blt (chkA s).seen 2 = false := by simpa using b
      rw [if_pos ⟨by rw [h6]; exact a, by rw [h2]; exact b'⟩, if_pos ⟨h.f6 a, h.z 2 b'⟩]
      have : mval x.given agaiT = (chkA s).again := by unfold mval; rw [h.a a]; rfl
      rw [this]; rfl
  · have a' : blt (chkA s).seen 6 = false := by simpa using a
    rw [if_neg (by rw [h6, a']; simp), if_neg (by rw [h.z 6 a']; simp)]
structure PtI (s : List UInt8) (j : Nat) (a : Int) (k : Nat) : Prop where
  w : (wds s).drop k = ((split 32 s).drop j).filter (fun w => decide (w ≠ []))
  p : (pls s).drop k = plsW a ((split 32 s).drop j)
  a0 : 0 ≤ a ∧ a ≤ (s.length : Int) + 1
  l : (split 32 s).drop j ≠ [] → a + ((joinW 32 ((split 32 s).drop j)).length : Int) = (s.length : Int)
theorem PtI.zero (s : List UInt8) : PtI s 0 0 0 := ⟨rfl, rfl, by omega, fun _ => by rw [List.drop_zero, joinW_split]; omega⟩
theorem PtI.next {s y : List UInt8} {j : Nat} {a : Int} {k : Nat} (h : PtI s j a k) (hy : (split 32 s)[j]? = some y) : (0 ≤ a + (y.length : Int) + 1 ∧ a + (y.length : Int) + 1 ≤ (s.length : Int) + 1) ∧ ((split 32 s).drop (j + 1) ≠ [] → a + (y.length : Int) + 1 + ((joinW 32 ((split 32 s).drop (j + 1))).length : Int) = (s.length : Int)) := by
  obtain ⟨hj, hy'⟩ := List.getElem?_eq_some_iff.1 hy
  have e : (split 32 s).drop j = y :: (split 32 s).drop (j + 1) := by rw [List.drop_eq_getElem_cons hj, hy']
  have hl := h.l (by rw [e]; simp)
  have h0 := h.a0
  rw [e] at hl
  cases hr : (split 32 s).drop (j + 1) with
  | nil =>
    rw [hr] at hl
    have : joinW 32 [y] = y := rfl
    rw [this] at hl
    exact ⟨by omega, fun h => absurd rfl h⟩
  | cons v ws =>
    rw [hr] at hl
    rw [joinW_cons 32 y (by simp), List.length_append, List.length_cons] at hl
    refine ⟨by omega, fun _ => by omega⟩
theorem PtI.blank {s : List UInt8} {j : Nat} {a : Int} {k : Nat} (h : PtI s j a k) (hy : (split 32 s)[j]? = some []) : PtI s (j + 1) (a + (([] : List UInt8).length : Int) + 1) k := by
  obtain ⟨h1, h2⟩ := h.next hy
  obtain ⟨hj, hy'⟩ := List.getElem?_eq_some_iff.1 hy
  have e : (split 32 s).drop j = [] :: (split 32 s).drop (j + 1) := by rw [List.drop_eq_getElem_cons hj, hy']
  refine ⟨?_, ?_, h1, h2⟩
  · rw [h.w, e, List.filter_cons_of_neg (by simp)]
  · rw [h.p, e, plsW, if_pos rfl]; simp
theorem PtI.word {s y : List UInt8} {j : Nat} {a : Int} {k : Nat} (h : PtI s j a k) (hy : (split 32 s)[j]? = some y) (hne : y ≠ []) : PtI s (j + 1) (a + (y.length : Int) + 1) (k + 1) ∧ (wds s)[k]? = some y ∧ nth (pls s) k = a := by
  obtain ⟨h1, h2⟩ := h.next hy
  obtain ⟨hj, hy'⟩ := List.getElem?_eq_some_iff.1 hy
  have e : (split 32 s).drop j = y :: (split 32 s).drop (j + 1) := by rw [List.drop_eq_getElem_cons hj, hy']
  have hw : (wds s).drop k = y :: ((split 32 s).drop (j + 1)).filter (fun w => decide (w ≠ [])) := by rw [h.w, e, List.filter_cons_of_pos (by simpa using hne)]
  have hp : (pls s).drop k = a :: plsW (a + (y.length : Int) + 1) ((split 32 s).drop (j + 1)) := by rw [h.p, e, plsW, if_neg hne]
  have hd : ∀ {α : Type} {l : List α} {x : α} {r : List α} {k : Nat}, l.drop k = x :: r → l[k]? = some x ∧ l.drop (k + 1) = r := fun {α l x r k} he => by
    constructor
    · have := congrArg (·[0]?) he; simpa using this
    · rw [← List.drop_drop, he]; rfl
  refine ⟨⟨(hd hw).2, (hd hp).2, h1, h2⟩, (hd hw).1, ?_⟩
  have := (hd hp).1
  unfold nth; simp [List.getD, this]
theorem PtI.done {s : List UInt8} {j : Nat} {a : Int} {k : Nat} (h : PtI s j a k) (hj : (split 32 s).length ≤ j) (hk : k ≤ (wds s).length) : k = (wds s).length := by
  have := h.w
  rw [List.drop_eq_nil_of_le hj] at this
  have h2 : (wds s).drop k = [] := this
  rw [List.drop_eq_nil_iff] at h2
  omega
theorem rel_word {s y : List UInt8} {x : Rdr} {k : Nat} {a : Int} (h : RelC x (chkN s k)) (hy : (wds s)[k]? = some y) (ha : nth (pls s) k = a) : RelC (rdW x a y) (chkN s (k + 1)) := by
  rw [chkN, wdn_get hy, ha]; exact h.step a y
def chkT (s : List UInt8) : Rul × List Prb × Int :=
  if 200 < s.length then (Rul.zero, [], 5) else if chkO s = [] then (chkR s, [], 0) else (Rul.zero, chkO s, 0)
end Go.Proofs.YthdmaamdlibjaaaDoor.M
namespace Go.Proofs.YthdmaamdlibjaaaDoor
open Go.RowKit
open Go.MapKept (IsKey sameNow_of_keys heap_set)
class KeyV (α : Type) [DecidableEq α] where
  kv : α → Value
  kd : TypeDesc
  is : ∀ a, IsKey kd (kv a)
  inj : ∀ a b, kv a = kv b → a = b
instance keyS : KeyV (List UInt8) := ⟨fun k => .string (sB k), .string, fun _ => trivial, fun a b h => by
  have h1 : sB a = sB b := by injection h
  have h2 := congrArg (fun x : ByteArray => x.data.toList) h1
  simpa [sB] using h2⟩
instance keyI : KeyV Int := ⟨fun k => .int .i64 k, .int .i64, fun _ => rfl, fun a b h => by injection h⟩
def zvOf (P : Program) (t : TypeId) : Option Value := match P.info? t with
  | some i => i.zero
  | none => none
structure MapF (P : Program) (t kt et : TypeId) (d : TypeDesc) : Prop where
  a : P.underlying t = some (.map kt et)
  b : P.underlying kt = some d
  z : zvOf P et = some (.int .i64 0)
def ents {α : Type} [DecidableEq α] [KeyV α] (g : List (α × Int)) : List (Value × Value) := g.map fun p => (KeyV.kv p.1, .int .i64 p.2)
def mapO {α : Type} [DecidableEq α] [KeyV α] (b : Nat) (g : List (α × Int)) : Own :=
  ⟨[b], fun w => ∃ es clock, w.heap[b]? = some (.map es clock) ∧ es.toList.map (fun e => (e.key, e.val)) = ents g, fun h k => by rw [h b (by simp)]; exact k⟩
@[reducible] def mapS (b : Nat) (g : List (List UInt8 × Int)) : Own := mapO b g
section
variable {α : Type} [DecidableEq α] [KeyV α]
theorem find_map (k : α) : ∀ (es : List MapEntry) (g : List (α × Int)) (i : Nat), es.map (fun e => (e.key, e.val)) = ents g →
    M.mget g k = none ∧ Instr.findNow (KeyV.kd α) (KeyV.kv k) es i = some none ∨ ∃ v j, M.mget g k = some v ∧ Instr.findNow (KeyV.kd α) (KeyV.kv k) es i = some (some (j, .int .i64 v))
  | [], [], _, _ => .inl ⟨rfl, rfl⟩
  | [], p :: g, _, h => by simp [ents] at h
  | e :: es, [], _, h => by simp [ents] at h
  | e :: es, p :: g, i, h => by
    simp only [ents, List.map_cons, List.cons.injEq, Prod.mk.injEq] at h
    obtain ⟨⟨h1, h2⟩, h3⟩ := h
    obtain ⟨r, hr, hiff⟩ := sameNow_of_keys (KeyV.is k) (by rw [h1]; exact KeyV.is p.1 : IsKey (KeyV.kd α) e.key)
    cases r with
    | true =>
      have e1 : p.1 = k := (KeyV.inj _ _ ((hiff.1 rfl).trans h1)).symm
      exact .inr ⟨p.2, i, by rw [M.mget, if_pos e1], by simp [Instr.findNow, hr, h2]⟩
    | false =>
      have e1 : ¬ p.1 = k := fun q => by have := hiff.2 (by rw [h1, q]); cases this
      rw [M.mget, if_neg e1]
      have e2 : Instr.findNow (KeyV.kd α) (KeyV.kv k) (e :: es) i = Instr.findNow (KeyV.kd α) (KeyV.kv k) es (i + 1) := by simp [Instr.findNow, hr]
      rw [e2]
      exact find_map k es g (i + 1) h3
omit [KeyV α] in
theorem mput_new {k : α} {v : Int} : ∀ {g : List (α × Int)}, M.mget g k = none → M.mput g k v = g ++ [(k, v)]
  | [], _ => rfl
  | p :: r, h => by
    rw [M.mget] at h
    by_cases e : p.1 = k
    · rw [if_pos e] at h; cases h
    · rw [if_neg e] at h
      rw [M.mput, if_neg e, mput_new h]; rfl
variable {P : Program} {n lo : Nat} {B : List Nat} {l : Fr} {os : List Own} {u : World} {dst : Option Tmp} {ty : TypeId} {pos : String} {af : Array Edge} {gd : Option (Nat × Bool)}
theorem run_zeroV {t : TypeId} {z : Value} (w : World) (h : zvOf P t = some z) : (zeroValue t).run P w = .ok z w := by
  unfold zvOf at h
  split at h
  · rename_i i hi
    simp [zeroValue, typeInfo, hi, h]
  · cases h
theorem run_look {t kt et : TypeId} {w : World} {b : Nat} {g : List (α × Int)} {k : α} (ht : MapF P t kt et (KeyV.kd α)) (h : (mapO b g).pr w) (ok : Bool) :
    (Instr.lookup t (.map (some b)) (KeyV.kv k) ok).run P w = .ok (if ok then .tuple #[.int .i64 (M.mval g k), .bool (M.mhas g k)] else .int .i64 (M.mval g k)) w := by
  obtain ⟨es, clock, hb, he⟩ := h
  have hc := Go.MapKept.run_checkKey (P := P) (w := w) ht.b (KeyV.is k) es.isEmpty 9999
  rcases find_map k es.toList g 0 he with ⟨h1, h2⟩ | ⟨v, j, h1, h2⟩
  · have hf := Go.MapKept.run_findKey (P := P) (w := w) ht.b h2
    unfold M.mval M.mhas
    rw [h1]
    simp [Instr.lookup, run_underlying ht.a, Go.MapKept.run_getObj_map hb, hc, hf, run_zeroV w ht.z, Result.andThen]
  · have hf := Go.MapKept.run_findKey (P := P) (w := w) ht.b h2
    unfold M.mval M.mhas
    rw [h1]
    simp [Instr.lookup, run_underlying ht.a, Go.MapKept.run_getObj_map hb, hc, hf, Result.andThen]
theorem q_look_ {x y : Operand} {t kt et : TypeId} {i b : Nat} {g : List (α × Int)} {k : α} {ok : Bool} (ht : MapF P t kt et (KeyV.kd α)) (hx : opd l x = some (.map (some b))) (hy : opd l y = some (KeyV.kv k)) (hi : os[i]? = some (mapO b g)) :
    OpQ P n lo B l os u ⟨dst, .lookup t x y ok, ty, pos, af, gd⟩ (if ok then .tuple #[.int .i64 (M.mval g k), .bool (M.mhas g k)] else .int .i64 (M.mval g k)) := fun a w ha hw => by
  have := run_look (k := k) ht (hw.prs _ (List.mem_of_getElem? hi)) ok
  simp [execOp, ha.eval hx, ha.eval hy, this]
theorem e_mapNew_ {t : TypeId} : OpE P n lo B l os u ⟨dst, .makeMap t none, ty, pos, af, gd⟩ true (fun v os' u' => ∃ b, v = .map (some b) ∧ os' = (mapO b ([] : List (α × Int))) :: os ∧ u = u') := fun a w ha hw K Q hk => by
  have hr : (execOp a.eval ⟨dst, .makeMap t none, ty, pos, af, gd⟩).run P w = .ok (.value (.map (some w.heap.size))) (w.alloc (.map #[] 0)) := by
    simp [execOp, Instr.makeMap]
  unfold Oper.wp
  rw [hr]
  refine hk _ _ u _ ⟨w.heap.size, rfl, rfl, rfl⟩ (Up.refl lo u) ?_ (fun _ => (Ext.refl w).alloc _)
  refine hw.new ((Ext.refl w).alloc _) (o := mapO w.heap.size ([] : List (α × Int))) (fun k hk => ?_) (by simp [mapO]) ⟨#[], 0, heap_alloc_new w _, rfl⟩
  simp only [mapO, List.mem_singleton] at hk
  subst hk
  simp
theorem e_mapUpd_ {x y z : Operand} {t kt et : TypeId} {i b : Nat} {g : List (α × Int)} {k : α} {v : Int} (ht : MapF P t kt et (KeyV.kd α)) (hx : opd l x = some (.map (some b))) (hy : opd l y = some (KeyV.kv k)) (hz : opd l z = some (.int .i64 v)) (hi : os[i]? = some (mapO b g)) (hn : M.mget g k = none) :
    OpE P n lo B l os u ⟨dst, .mapUpdate t x y z, ty, pos, af, gd⟩ false (fun _ os' u' => os' = os.set i (mapO b (M.mput g k v)) ∧ u = u') := fun a w ha hw K Q hk => by
  obtain ⟨es, clock, hb, he⟩ := hw.prs _ (List.mem_of_getElem? hi)
  have hc := Go.MapKept.run_checkKey (P := P) (w := w) ht.b (KeyV.is k) false 9999
  have hf : (Instr.findKey kt (KeyV.kv k) es.toList).run P w = .ok none w := by
    rcases find_map k es.toList g 0 he with ⟨h1, h2⟩ | ⟨v, j, h1, h2⟩
    · exact Go.MapKept.run_findKey ht.b h2
    · rw [hn] at h1; cases h1
  have hr : (execOp a.eval ⟨dst, .mapUpdate t x y z, ty, pos, af, gd⟩).run P w = .ok .skip { w with heap := w.heap.setIfInBounds b (.map (es.push { key := KeyV.kv k, val := .int .i64 v, born := clock }) (clock + 1)) } := by
    simp [execOp, ha.eval hx, ha.eval hy, ha.eval hz, Instr.mapUpdate, run_underlying ht.a, Go.MapKept.run_getObj_map hb, hc, hf, Go.MapKept.run_setObj_map _ hb, Result.andThen]
  unfold Oper.wp
  rw [hr]
  refine hk _ _ u _ ⟨rfl, rfl⟩ (Up.refl lo u) (hw.upd hi rfl rfl rfl (by simp) (fun k' _ hk' => (heap_set hb).2 k' (by simpa [mapO] using hk')) (fun k' hk' => .inl (by simpa [mapO] using hk')) (by simp [mapO]) ?_ (fun k' hk' _ => by simpa [mapO] using hk')) (fun h => by cases h)
  refine ⟨_, _, (heap_set hb).1, ?_⟩
  rw [mput_new hn, Array.toList_push, List.map_append, he]
  simp [ents]
end
section
variable {P : Program} {n lo : Nat} {B : List Nat} {l : Fr} {os : List Own} {u : World} {dst : Option Tmp} {ty : TypeId} {pos : String} {af : Array Edge} {gd : Option (Nat × Bool)}
theorem q_lookS {x y : Operand} {t kt et : TypeId} {i b : Nat} {g : List (List UInt8 × Int)} {k : List UInt8} (ht : MapF P t kt et .string) (hx : opd l x = some (.map (some b))) (hy : opd l y = some (.string (sB k))) (hi : os[i]? = some (mapS b g)) :
    OpQ P n lo B l os u ⟨dst, .lookup t x y true, ty, pos, af, gd⟩ (.tuple #[.int .i64 (M.mval g k), .bool (M.mhas g k)]) := q_look_ (k := k) (ok := true) ht hx hy hi
theorem e_mapNewS {t : TypeId} : OpE P n lo B l os u ⟨dst, .makeMap t none, ty, pos, af, gd⟩ true (fun v os' u' => ∃ b, v = .map (some b) ∧ os' = mapS b [] :: os ∧ u = u') := e_mapNew_
theorem e_mapUpdS {x y z : Operand} {t kt et : TypeId} {i b : Nat} {g : List (List UInt8 × Int)} {k : List UInt8} {v : Int} (ht : MapF P t kt et .string) (hx : opd l x = some (.map (some b))) (hy : opd l y = some (.string (sB k))) (hz : opd l z = some (.int .i64 v)) (hi : os[i]? = some (mapS b g)) (hn : M.mhas g k = false) :
    OpE P n lo B l os u ⟨dst, .mapUpdate t x y z, ty, pos, af, gd⟩ false (fun _ os' u' => os' = os.set i (mapS b (M.mput g k v)) ∧ u = u') := e_mapUpd_ (k := k) ht hx hy hz hi (by unfold M.mhas at hn; simpa using hn)
end
theorem num_set {r : M.Rul} {y : List UInt8} {v : Int} {rest : List Value} (h : M.isNum y = true) :
    setL (Value.int .i64 r.pits :: .int .i64 r.seeds :: .bool r.stores :: .bool r.skip :: .bool r.relay :: .bool r.feed :: .bool r.again :: .int .i64 r.capture :: .int .i64 r.slam :: rest) (0 + M.numIx y) [.int .i64 v]
      = Value.int .i64 (M.setNum r y v).pits :: .int .i64 (M.setNum r y v).seeds :: .bool (M.setNum r y v).stores :: .bool (M.setNum r y v).skip :: .bool (M.setNum r y v).relay :: .bool (M.setNum r y v).feed :: .bool (M.setNum r y v).again :: .int .i64 (M.setNum r y v).capture :: .int .i64 (M.setNum r y v).slam :: rest := by
  rcases M.isNum_iff h with rfl | rfl | rfl | rfl <;> rfl
theorem flg_set {r : M.Rul} {y : List UInt8} {rest : List Value} (h : M.isFlg y = true) :
    setL (Value.int .i64 r.pits :: .int .i64 r.seeds :: .bool r.stores :: .bool r.skip :: .bool r.relay :: .bool r.feed :: .bool r.again :: .int .i64 r.capture :: .int .i64 r.slam :: rest) (0 + M.flagIx y) [.bool true]
      = Value.int .i64 (M.setFlg r y).pits :: .int .i64 (M.setFlg r y).seeds :: .bool (M.setFlg r y).stores :: .bool (M.setFlg r y).skip :: .bool (M.setFlg r y).relay :: .bool (M.setFlg r y).feed :: .bool (M.setFlg r y).again :: .int .i64 (M.setFlg r y).capture :: .int .i64 (M.setFlg r y).slam :: rest := by
  rcases M.isFlg_iff5 h with rfl | rfl | rfl | rfl | rfl <;> rfl
theorem e_storeB {P : Program} {n lo : Nat} {B : List Nat} {l : Fr} {os : List Own} {u : World} {dst : Option Tmp} {ty : TypeId} {pos : String} {af : Array Edge} {gd : Option (Nat × Bool)} {x y : Operand} {t T : TypeId} {i b o : Nat} {c c' : List Value} {v : Value} (ht : tyOf P t = some (false, 1)) (hx : opd l x = some (.pointer (some ⟨b, o, none⟩))) (hi : os[i]? = some (boxO b c T)) (hy : opd l y = some v)
    (hv : cellsL v = [v]) (h1 : v.oneCell' = true) (hl : o + 1 ≤ c.length) (hc : setL c o [v] = c') :
    OpE P n lo B l os u ⟨dst, .store t x y, ty, pos, af, gd⟩ false (fun _ os' u' => os' = os.set i (boxO b c' T) ∧ u = u') :=
  e_store (vs := [v]) ht hx hi hy hv rfl (by simp [h1]) (by simpa [Nat.ble_eq] using hl) hc
theorem numIx_le (y : List UInt8) : M.numIx y ≤ 8 := by
  unfold M.numIx
  repeat' split
  all_goals decide
theorem flagIx_le {y : List UInt8} (h : M.isFlg y = true) : M.flagIx y ≤ 8 := by rcases M.isFlg_iff5 h with rfl | rfl | rfl | rfl | rfl <;> decide
theorem cellsOk_cons {w : World} {T : Ty} {Ts : List Ty} : ∀ {vs : List Value}, cellsOk w (T :: Ts) vs → ∃ x r, vs = x :: r ∧ T.ok w x ∧ cellsOk w Ts r
  | x :: r, h => ⟨x, r, rfl, h.1, h.2⟩
theorem cellsOk_nil {w : World} : ∀ {vs : List Value}, cellsOk w [] vs → vs = []
  | [], _ => rfl
theorem cellsOwn_cons {w : World} {T : Ty} {Ts : List Ty} {fp : List Nat} : ∀ {vs : List Value}, cellsOwn w (T :: Ts) vs fp → ∃ x r f1 f2, vs = x :: r ∧ fp = f1 ++ f2 ∧ T.own w x f1 ∧ cellsOwn w Ts r f2
  | x :: r, ⟨f1, f2, e, a, b⟩ => ⟨x, r, f1, f2, rfl, e, a, b⟩
theorem cellsOwn_nil {w : World} {fp : List Nat} : ∀ {vs : List Value}, cellsOwn w [] vs fp → vs = [] ∧ fp = []
  | [], h => ⟨rfl, h⟩
theorem drop_flat {α β : Type} (f : α → List β) (k : Nat) (hf : ∀ a, (f a).length = k) : ∀ (l : List α) (i : Nat) (a : α), l[i]? = some a → ((l.flatMap f).drop (i * k)).take k = f a
  | x :: l, 0, a, h => by
    simp at h; subst h
    simp [List.flatMap_cons, hf, List.take_append]
  | x :: l, i + 1, a, h => by
    simp at h
    rw [List.flatMap_cons, Nat.succ_mul, Nat.add_comm, ← List.drop_drop, List.drop_left' (hf x)]
    exact drop_flat f k hf l i a h
  | [], _, _, h => by simp at h
theorem flat_len {α β : Type} (f : α → List β) (k : Nat) (hf : ∀ a, (f a).length = k) : ∀ (l : List α), (l.flatMap f).length = l.length * k
  | [] => by simp
  | x :: l => by rw [List.flatMap_cons, List.length_append, hf, flat_len f k hf l, List.length_cons, Nat.succ_mul, Nat.add_comm]
instance ty_2 : TyI Tryd.prog 2 false 1 := ⟨by kernel_rfl⟩
instance ty_3 : TyI Tryd.prog 3 false 1 := ⟨by kernel_rfl⟩
instance ty_4 : TyI Tryd.prog 4 false 1 := ⟨by kernel_rfl⟩
instance ty_5 : TyI Tryd.prog 5 false 1 := ⟨by kernel_rfl⟩
instance ty_9 : TyI Tryd.prog 9 false 1 := ⟨by kernel_rfl⟩
instance ty_22 : TyI Tryd.prog 22 false 1 := ⟨by kernel_rfl⟩
instance ty_30 : TyI Tryd.prog 30 true 9 := ⟨by kernel_rfl⟩
instance ty_35 : TyI Tryd.prog 35 true 3 := ⟨by kernel_rfl⟩
instance ty_41 : TyI Tryd.prog 41 false 1 := ⟨by kernel_rfl⟩
instance ty_72 : TyI Tryd.prog 72 true 6 := ⟨by kernel_rfl⟩
instance ty_74 : TyI Tryd.prog 74 false 1 := ⟨by kernel_rfl⟩
instance ty_76 : TyI Tryd.prog 76 true 11 := ⟨by kernel_rfl⟩
instance ty_85 : TyI Tryd.prog 85 false 1 := ⟨by kernel_rfl⟩
instance ty_87 : TyI Tryd.prog 87 true 3 := ⟨by kernel_rfl⟩
instance fld_30_0 : FldI Tryd.prog 30 0 0 2 false 1 := ⟨by kernel_rfl⟩
instance fld_30_1 : FldI Tryd.prog 30 1 1 2 false 1 := ⟨by kernel_rfl⟩
instance fld_30_2 : FldI Tryd.prog 30 2 2 4 false 1 := ⟨by kernel_rfl⟩
instance fld_30_3 : FldI Tryd.prog 30 3 3 4 false 1 := ⟨by kernel_rfl⟩
instance fld_30_4 : FldI Tryd.prog 30 4 4 4 false 1 := ⟨by kernel_rfl⟩
instance fld_30_5 : FldI Tryd.prog 30 5 5 4 false 1 := ⟨by kernel_rfl⟩
instance fld_30_6 : FldI Tryd.prog 30 6 6 4 false 1 := ⟨by kernel_rfl⟩
instance fld_30_7 : FldI Tryd.prog 30 7 7 2 false 1 := ⟨by kernel_rfl⟩
instance fld_30_8 : FldI Tryd.prog 30 8 8 2 false 1 := ⟨by kernel_rfl⟩
instance fld_35_0 : FldI Tryd.prog 35 0 0 2 false 1 := ⟨by kernel_rfl⟩
instance fld_35_1 : FldI Tryd.prog 35 1 1 2 false 1 := ⟨by kernel_rfl⟩
instance fld_35_2 : FldI Tryd.prog 35 2 2 9 false 1 := ⟨by kernel_rfl⟩
instance fld_76_0 : FldI Tryd.prog 76 0 0 30 true 9 := ⟨by kernel_rfl⟩
instance fld_76_1 : FldI Tryd.prog 76 1 9 41 false 1 := ⟨by kernel_rfl⟩
instance fld_76_2 : FldI Tryd.prog 76 2 10 74 false 1 := ⟨by kernel_rfl⟩
instance fld_87_0 : FldI Tryd.prog 87 0 0 22 false 1 := ⟨by kernel_rfl⟩
instance fld_87_1 : FldI Tryd.prog 87 1 1 3 false 1 := ⟨by kernel_rfl⟩
instance fld_87_2 : FldI Tryd.prog 87 2 2 85 false 1 := ⟨by kernel_rfl⟩
instance eI_22 : ElI Tryd.prog 22 5 1 1 [.int .u8 0] := ⟨by kernel_rfl⟩
theorem el_22 : elOf Tryd.prog 22 = some (5, 1, 1, [.int .u8 0]) := ElI.h
instance eI_38 : ElI Tryd.prog 38 9 1 16 [.string ByteArray.empty] := ⟨by kernel_rfl⟩
theorem el_38 : elOf Tryd.prog 38 = some (9, 1, 16, [.string ByteArray.empty]) := ElI.h
instance eI_41 : ElI Tryd.prog 41 35 3 32 [.int .i64 0, .int .i64 0, .string ByteArray.empty] := ⟨by kernel_rfl⟩
theorem el_41 : elOf Tryd.prog 41 = some (35, 3, 32, [.int .i64 0, .int .i64 0, .string ByteArray.empty]) := ElI.h
instance eI_65 : ElI Tryd.prog 65 2 1 8 [.int .i64 0] := ⟨by kernel_rfl⟩
theorem el_65 : elOf Tryd.prog 65 = some (2, 1, 8, [.int .i64 0]) := ElI.h
instance eI_95 : ElI Tryd.prog 95 4 1 1 [.bool false] := ⟨by kernel_rfl⟩
theorem el_95 : elOf Tryd.prog 95 = some (4, 1, 1, [.bool false]) := ElI.h
instance zero_30 : ZeroI Tryd.prog 30 [.int .i64 0, .int .i64 0, .bool false, .bool false, .bool false, .bool false, .bool false, .int .i64 0, .int .i64 0] := ⟨by kernel_rfl⟩
instance zero_35 : ZeroI Tryd.prog 35 [.int .i64 0, .int .i64 0, .string ByteArray.empty] := ⟨by kernel_rfl⟩
instance zero_72 : ZeroI Tryd.prog 72 [.string ByteArray.empty, .string ByteArray.empty, .string ByteArray.empty, .string ByteArray.empty, .string ByteArray.empty, .string ByteArray.empty] := ⟨by kernel_rfl⟩
instance zero_76 : ZeroI Tryd.prog 76 [.int .i64 0, .int .i64 0, .bool false, .bool false, .bool false, .bool false, .bool false, .int .i64 0, .int .i64 0, .slice none 0 0, .map none] := ⟨by kernel_rfl⟩
instance zero_87 : ZeroI Tryd.prog 87 [.slice none 0 0, .int .i64 0, .int .u64 0] := ⟨by kernel_rfl⟩
instance flds_30 : FldsI Tryd.prog 30 [(0, 1), (1, 1), (2, 1), (3, 1), (4, 1), (5, 1), (6, 1), (7, 1), (8, 1)] := ⟨by kernel_rfl⟩
instance flds_35 : FldsI Tryd.prog 35 [(0, 1), (1, 1), (2, 1)] := ⟨by kernel_rfl⟩
instance flds_76 : FldsI Tryd.prog 76 [(0, 9), (9, 1), (10, 1)] := ⟨by kernel_rfl⟩
instance flds_87 : FldsI Tryd.prog 87 [(0, 1), (1, 1), (2, 1)] := ⟨by kernel_rfl⟩
instance arr_72 : ArrI Tryd.prog 72 6 1 := ⟨by kernel_rfl⟩
instance fn_6 : FnI Tryd.prog 6 := ⟨by kernel_rfl⟩
instance fn_8 : FnI Tryd.prog 8 := ⟨by kernel_rfl⟩
instance fn_9 : FnI Tryd.prog 9 := ⟨by kernel_rfl⟩
instance fn_19 : FnI Tryd.prog 19 := ⟨by kernel_rfl⟩
instance fn_20 : FnI Tryd.prog 20 := ⟨by kernel_rfl⟩
instance fn_21 : FnI Tryd.prog 21 := ⟨by kernel_rfl⟩
instance fn_22 : FnI Tryd.prog 22 := ⟨by kernel_rfl⟩
instance fn_23 : FnI Tryd.prog 23 := ⟨by kernel_rfl⟩
instance fn_28 : FnI Tryd.prog 28 := ⟨by kernel_rfl⟩
instance fn_29 : FnI Tryd.prog 29 := ⟨by kernel_rfl⟩
instance fn_30 : FnI Tryd.prog 30 := ⟨by kernel_rfl⟩
instance fn_31 : FnI Tryd.prog 31 := ⟨by kernel_rfl⟩
instance fn_32 : FnI Tryd.prog 32 := ⟨by kernel_rfl⟩
instance fn_33 : FnI Tryd.prog 33 := ⟨by kernel_rfl⟩
instance fn_34 : FnI Tryd.prog 34 := ⟨by kernel_rfl⟩
instance fn_35 : FnI Tryd.prog 35 := ⟨by kernel_rfl⟩
instance fn_36 : FnI Tryd.prog 36 := ⟨by kernel_rfl⟩
instance fn_37 : FnI Tryd.prog 37 := ⟨by kernel_rfl⟩
instance fn_38 : FnI Tryd.prog 38 := ⟨by kernel_rfl⟩
instance fn_39 : FnI Tryd.prog 39 := ⟨by kernel_rfl⟩
instance fn_40 : FnI Tryd.prog 40 := ⟨by kernel_rfl⟩
instance fn_41 : FnI Tryd.prog 41 := ⟨by kernel_rfl⟩
instance fn_42 : FnI Tryd.prog 42 := ⟨by kernel_rfl⟩
instance fn_43 : FnI Tryd.prog 43 := ⟨by kernel_rfl⟩
instance fn_45 : FnI Tryd.prog 45 := ⟨by kernel_rfl⟩
instance fn_46 : FnI Tryd.prog 46 := ⟨by kernel_rfl⟩
instance fn_47 : FnI Tryd.prog 47 := ⟨by kernel_rfl⟩
instance fn_48 : FnI Tryd.prog 48 := ⟨by kernel_rfl⟩
instance fn_49 : FnI Tryd.prog 49 := ⟨by kernel_rfl⟩
instance fn_50 : FnI Tryd.prog 50 := ⟨by kernel_rfl⟩
instance fn_51 : FnI Tryd.prog 51 := ⟨by kernel_rfl⟩
instance fn_52 : FnI Tryd.prog 52 := ⟨by kernel_rfl⟩
instance fn_53 : FnI Tryd.prog 53 := ⟨by kernel_rfl⟩
instance fn_54 : FnI Tryd.prog 54 := ⟨by kernel_rfl⟩
instance fn_55 : FnI Tryd.prog 55 := ⟨by kernel_rfl⟩
instance fn_56 : FnI Tryd.prog 56 := ⟨by kernel_rfl⟩
instance fn_59 : FnI Tryd.prog 59 := ⟨by kernel_rfl⟩
instance fn_60 : FnI Tryd.prog 60 := ⟨by kernel_rfl⟩
instance fn_61 : FnI Tryd.prog 61 := ⟨by kernel_rfl⟩
instance fn_62 : FnI Tryd.prog 62 := ⟨by kernel_rfl⟩
instance fn_63 : FnI Tryd.prog 63 := ⟨by kernel_rfl⟩
instance fn_64 : FnI Tryd.prog 64 := ⟨by kernel_rfl⟩
instance fn_65 : FnI Tryd.prog 65 := ⟨by kernel_rfl⟩
instance fn_66 : FnI Tryd.prog 66 := ⟨by kernel_rfl⟩
instance fn_67 : FnI Tryd.prog 67 := ⟨by kernel_rfl⟩
instance fn_68 : FnI Tryd.prog 68 := ⟨by kernel_rfl⟩
instance fn_69 : FnI Tryd.prog 69 := ⟨by kernel_rfl⟩
instance fn_70 : FnI Tryd.prog 70 := ⟨by kernel_rfl⟩
instance fn_71 : FnI Tryd.prog 71 := ⟨by kernel_rfl⟩
instance fn_72 : FnI Tryd.prog 72 := ⟨by kernel_rfl⟩
instance fn_73 : FnI Tryd.prog 73 := ⟨by kernel_rfl⟩
instance fn_74 : FnI Tryd.prog 74 := ⟨by kernel_rfl⟩
instance fn_75 : FnI Tryd.prog 75 := ⟨by kernel_rfl⟩
instance fn_76 : FnI Tryd.prog 76 := ⟨by kernel_rfl⟩
instance fn_77 : FnI Tryd.prog 77 := ⟨by kernel_rfl⟩
instance fn_78 : FnI Tryd.prog 78 := ⟨by kernel_rfl⟩
instance fn_79 : FnI Tryd.prog 79 := ⟨by kernel_rfl⟩
instance fn_81 : FnI Tryd.prog 81 := ⟨by kernel_rfl⟩
instance fn_82 : FnI Tryd.prog 82 := ⟨by kernel_rfl⟩
instance fn_83 : FnI Tryd.prog 83 := ⟨by kernel_rfl⟩
instance fn_88 : FnI Tryd.prog 88 := ⟨by kernel_rfl⟩
instance uI_4 : UndI Tryd.prog 4 (.bool) := ⟨@Tryd.underlying4⟩
theorem und_4 : Tryd.prog.underlying 4 = some (.bool) := UndI.h
instance uI_9 : UndI Tryd.prog 9 (.string) := ⟨@Tryd.underlying9⟩
theorem und_9 : Tryd.prog.underlying 9 = some (.string) := UndI.h
instance uI_10 : UndI Tryd.prog 10 (.string) := ⟨@Tryd.underlying10⟩
instance uI_11 : UndI Tryd.prog 11 (.string) := ⟨@Tryd.underlying11⟩
instance uI_22 : UndI Tryd.prog 22 (.slice 5) := ⟨@Tryd.underlying22⟩
theorem und_22 : Tryd.prog.underlying 22 = some (.slice 5) := UndI.h
instance uI_38 : UndI Tryd.prog 38 (.slice 9) := ⟨@Tryd.underlying38⟩
theorem und_38 : Tryd.prog.underlying 38 = some (.slice 9) := UndI.h
instance uI_41 : UndI Tryd.prog 41 (.slice 35) := ⟨@Tryd.underlying41⟩
theorem und_41 : Tryd.prog.underlying 41 = some (.slice 35) := UndI.h
instance uI_65 : UndI Tryd.prog 65 (.slice 2) := ⟨@Tryd.underlying65⟩
theorem und_65 : Tryd.prog.underlying 65 = some (.slice 2) := UndI.h
instance uI_95 : UndI Tryd.prog 95 (.slice 4) := ⟨@Tryd.underlying95⟩
theorem map_74 : MapF Tryd.prog 74 9 2 (.string) := ⟨@Tryd.underlying74, @Tryd.underlying9, by kernel_rfl⟩
instance mixI : MixI Tryd.prog := ⟨by kernel_rfl⟩
@[reducible] def cRules (x : M.Rul) : List Ty := [Ty.int x.pits, Ty.int x.seeds, Ty.bool x.stores, Ty.bool x.skip, Ty.bool x.relay, Ty.bool x.feed, Ty.bool x.again, Ty.int x.capture, Ty.int x.slam]
def lRules (xs : List M.Rul) : List Ty := xs.flatMap cRules
theorem lRules_length (xs : List M.Rul) : (lRules xs).length = xs.length * 9 := flat_len cRules 9 (fun _ => rfl) xs
instance : LenL lRules 9 := ⟨lRules_length⟩
set_option maxRecDepth 100000 in
theorem eqs_Rules (a b : M.Rul) (w : World) : (Op.equalIn 10000 30 (.agg #[.int .i64 a.pits, .int .i64 a.seeds, .bool a.stores, .bool a.skip, .bool a.relay, .bool a.feed, .bool a.again, .int .i64 a.capture, .int .i64 a.slam]) (.agg #[.int .i64 b.pits, .int .i64 b.seeds, .bool b.stores, .bool b.skip, .bool b.relay, .bool b.feed, .bool b.again, .int .i64 b.capture, .int .i64 b.slam])).run Tryd.prog w = .ok (decide (a = b)) w := by
  have u2 := Tryd.underlying2
  have u4 := Tryd.underlying4
  have i2 := run_equalIn_int (P := Tryd.prog) (d := 9998) (t := 2) (k := .i64) (k' := .i64) (h := u2)
  have i4 := run_equalIn_bool (P := Tryd.prog) 9998 (t := 4) u4
  rw [show (10000 : Nat) = 9999 + 1 from rfl, run_equalIn_agg w 9999 30 _ _ (by kernel_rfl) (by kernel_rfl)]
  simp only [Program.fieldsOf, Tryd.underlying30]
  go_simp
  by_cases h : a = b
  · subst h; simp
  rw [decide_eq_false h]
  by_cases h0 : a.pits = b.pits
  case neg => rw [if_neg h0]
  rw [if_pos h0]
  by_cases h1 : a.seeds = b.seeds
  case neg => rw [if_neg h1]
  rw [if_pos h1]
  by_cases h2 : a.stores = b.stores
  case neg => rw [if_neg h2]
  rw [if_pos h2]
  by_cases h3 : a.skip = b.skip
  case neg => rw [if_neg h3]
  rw [if_pos h3]
  by_cases h4 : a.relay = b.relay
  case neg => rw [if_neg h4]
  rw [if_pos h4]
  by_cases h5 : a.feed = b.feed
  case neg => rw [if_neg h5]
  rw [if_pos h5]
  by_cases h6 : a.again = b.again
  case neg => rw [if_neg h6]
  rw [if_pos h6]
  by_cases h7 : a.capture = b.capture
  case neg => rw [if_neg h7]
  rw [if_pos h7]
  by_cases h8 : a.slam = b.slam
  case neg => rw [if_neg h8]
  rw [if_pos h8]
  exact absurd (by cases a; cases b; simp_all) h
@[reducible] def cProblem (x : M.Prb) : List Ty := [Ty.int x.kind, Ty.int x.at1, Ty.str x.word]
def lProblem (xs : List M.Prb) : List Ty := xs.flatMap cProblem
theorem lProblem_length (xs : List M.Prb) : (lProblem xs).length = xs.length * 3 := flat_len cProblem 3 (fun _ => rfl) xs
instance : LenL lProblem 3 := ⟨lProblem_length⟩
theorem elem_Problem {u : World} {e c i : Nat} {A : Option Addr} {xs : List M.Prb} {x : M.Prb} (h : (Ty.sl e 3 xs.length (lProblem xs)).ok u (.slice A xs.length c)) (hi : xs[i]? = some x) : ∃ b o, elemA 3 (.slice A xs.length c) i = some ⟨b, o, none⟩ ∧ RowAt u b o [.int .i64 x.kind, .int .i64 x.at1, .string (sB x.word)] := by
  obtain ⟨b, o, vs, he, h, hr⟩ := sl_elem h (List.getElem?_eq_some_iff.1 hi).1 rfl
  have e := drop_flat cProblem 3 (fun _ => rfl) xs i x hi
  unfold lProblem at h
  rw [e] at h
  obtain ⟨x0, r, rfl, h0, h⟩ := cellsOk_cons h
  obtain ⟨x1, r, rfl, h1, h⟩ := cellsOk_cons h
  obtain ⟨x2, r, rfl, h2, h⟩ := cellsOk_cons h
  obtain rfl := cellsOk_nil h
  obtain rfl : x0 = .int .i64 x.kind := h0
  obtain rfl : x1 = .int .i64 x.at1 := h1
  obtain rfl : x2 = .string (sB x.word) := h2
  exact ⟨b, o, he, hr⟩
set_option maxRecDepth 100000 in
theorem eqs_Problem (a b : M.Prb) (w : World) : (Op.equalIn 10000 35 (.agg #[.int .i64 a.kind, .int .i64 a.at1, .string (sB a.word)]) (.agg #[.int .i64 b.kind, .int .i64 b.at1, .string (sB b.word)])).run Tryd.prog w = .ok (decide (a = b)) w := by
  have u2 := Tryd.underlying2
  have u9 := Tryd.underlying9
  have i2 := run_equalIn_int (P := Tryd.prog) (d := 9998) (t := 2) (k := .i64) (k' := .i64) (h := u2)
  have i9 := run_eqStr (P := Tryd.prog) 9998 (t := 9) u9
  rw [show (10000 : Nat) = 9999 + 1 from rfl, run_equalIn_agg w 9999 35 _ _ (by kernel_rfl) (by kernel_rfl)]
  simp only [Program.fieldsOf, Tryd.underlying35]
  go_simp
  by_cases h : a = b
  · subst h; simp
  rw [decide_eq_false h]
  by_cases h0 : a.kind = b.kind
  case neg => rw [if_neg h0]
  rw [if_pos h0]
  by_cases h1 : a.at1 = b.at1
  case neg => rw [if_neg h1]
  rw [if_pos h1]
  by_cases h2 : a.word = b.word
  case neg => rw [if_neg h2]
  rw [if_pos h2]
  exact absurd (by cases a; cases b; simp_all) h
@[reducible] def vcProblem (x : M.Prb) : List Value := [.int .i64 x.kind, .int .i64 x.at1, .string (sB x.word)]
instance flt_Problem : FltL lProblem vcProblem 3 := flt_mk cProblem vcProblem 3 (fun w x => ⟨[], [], rfl, ⟨rfl, rfl⟩, ⟨[], [], rfl, ⟨rfl, rfl⟩, ⟨[], [], rfl, ⟨rfl, rfl⟩, rfl⟩⟩⟩) (fun w x vs f h => by
    obtain ⟨x0, r0, g0, q0, rfl, rfl, ⟨rfl, rfl⟩, h0⟩ := cellsOwn_cons h
    obtain ⟨x1, r1, g1, q1, rfl, rfl, ⟨rfl, rfl⟩, h1⟩ := cellsOwn_cons h0
    obtain ⟨x2, r2, g2, q2, rfl, rfl, ⟨rfl, rfl⟩, h2⟩ := cellsOwn_cons h1
    obtain ⟨rfl, rfl⟩ := cellsOwn_nil h2
    exact ⟨rfl, rfl⟩) (fun w x vs h => by
    obtain ⟨x0, r, rfl, h0, h⟩ := cellsOk_cons h
    obtain ⟨x1, r, rfl, h1, h⟩ := cellsOk_cons h
    obtain ⟨x2, r, rfl, h2, h⟩ := cellsOk_cons h
    obtain rfl := cellsOk_nil h
    obtain rfl : x0 = .int .i64 x.kind := h0
    obtain rfl : x1 = .int .i64 x.at1 := h1
    obtain rfl : x2 = .string (sB x.word) := h2
    rfl) (fun _ => rfl) (fun _ => rfl) (fun _ => rfl) (by decide)
@[reducible] def cbool (x : Bool) : List Ty := [Ty.bool x]
def lbool (xs : List Bool) : List Ty := xs.flatMap cbool
theorem lbool_length (xs : List Bool) : (lbool xs).length = xs.length * 1 := flat_len cbool 1 (fun _ => rfl) xs
instance : LenL lbool 1 := ⟨lbool_length⟩
@[reducible] def vcbool (x : Bool) : List Value := [.bool x]
instance flt_bool : FltL lbool vcbool 1 := flt_mk cbool vcbool 1 (fun w x => ⟨[], [], rfl, ⟨rfl, rfl⟩, rfl⟩) (fun w x vs f h => by
    obtain ⟨x0, r0, g0, q0, rfl, rfl, ⟨rfl, rfl⟩, h0⟩ := cellsOwn_cons h
    obtain ⟨rfl, rfl⟩ := cellsOwn_nil h0
    exact ⟨rfl, rfl⟩) (fun w x vs h => by
    obtain ⟨x0, r, rfl, h0, h⟩ := cellsOk_cons h
    obtain rfl := cellsOk_nil h
    obtain rfl : x0 = .bool x := h0
    rfl) (fun _ => rfl) (fun _ => rfl) (fun _ => rfl) (by decide)
open Go.RowKit Go.ChangeShapes Go.WideShapes Go.ChangeAt
theorem cell_of {w : World} {b o : Nat} {x : Value} (h : w.cell? ⟨b, o, none⟩ = some x) : Cell w b o x := by
  unfold World.cell? at h
  split at h
  · rename_i c t f hb
    exact ⟨c, t, f, hb, by simpa using h⟩
  all_goals simp at h
section
variable {H : Type} {enc : TypeId × Value → H} {w : World} {spare : Nat → Bool} {held : Bool} {fuel : Nat} {x : DataW H × List MemPlace} {cs : List Value}
end
section
variable {H : Type} {enc : TypeId × Value → H} {w : World} {spare : Nat → Bool} {held : Bool} {fuel : Nat} {x : DataW H × List MemPlace} {cs : List Value}
theorem byte_wf {n : Int} (h : (Lit.int .u8 n).wf = true) : 0 ≤ n ∧ n ≤ 255 := by
  simp only [Lit.wf, Bool.and_eq_true, decide_eq_true_eq] at h
  first | exact h | (obtain ⟨a, b⟩ := h; constructor <;> simp_all [IntKind.min, IntKind.max] <;> omega)
theorem bytes_ok (w : World) : ∀ (l : List Int), (∀ n ∈ l, 0 ≤ n ∧ n ≤ 255) → cellsOk w (List.replicate l.length Ty.byte) (l.map (fun n => .int .u8 n))
  | [], _ => trivial
  | n :: l, h => ⟨⟨n, rfl, h n (by simp)⟩, bytes_ok w l (fun m hm => h m (by simp [hm]))⟩
theorem rd_bytes {P : Program} {t e : TypeId} (ht : P.underlying t = some (.slice e)) (he : P.underlying e = some (.int .u8)) (hc : P.cellsOf e = 1) (h : DataW.trod enc P w 0 spare held fuel t cs = some x) : ∃ n : Nat, cellsOk w [Ty.bytes e n] cs := by
  rcases open_ints ht he hc h with ⟨rfl, _⟩ | ⟨a, len, cap, zs, rfl, _, hl, hm, hz, _, hcell, hwf⟩
  · exact ⟨0, nil_ok, trivial⟩
  · have hlz : len ≤ zs.length := by rw [hz]; split <;> omega
    have hlen : (zs.take len).length = len := by simp; omega
    refine ⟨len, ⟨by simp, some a, cap, (zs.take len).map (fun n => .int .u8 n), rfl, hl, hm, ?_, fun hp => ?_⟩, trivial⟩
    · have := bytes_ok w (zs.take len) (fun n hn => byte_wf (hwf n (List.mem_of_mem_take hn)))
      rwa [hlen] at this
    have hp : 0 < len := by simpa using hp
    obtain ⟨b, off, spot⟩ := a
    have hspot : spot = none := by simpa [Addr.add] using World.cell?_spot (hcell 0 (by omega))
    subst hspot
    refine ⟨b, off, rfl, fun j v hj => ?_⟩
    simp only [List.getElem?_map, Option.map_eq_some_iff] at hj
    obtain ⟨n, hn, rfl⟩ := hj
    rw [List.getElem?_take] at hn
    split at hn
    · rename_i hjl
      have := hcell j (by omega)
      rw [addr_add] at this
      have e : zs.getD j 0 = n := by simp [List.getD, hn]
      rw [e] at this
      exact cell_of this
    · simp at hn
end
section
variable {H : Type} {enc : TypeId × Value → H} {w : World} {spare : Nat → Bool} {held : Bool} {fuel : Nat} {x : DataW H × List MemPlace} {cs : List Value}
end
section
variable {P : Program} {n lo : Nat} {B : List Nat} {l : Fr} {os : List Own} {u : World} {dst : Option Tmp} {ty : TypeId} {pos : String} {af : Array Edge} {gd : Option (Nat × Bool)}
theorem Mem.rx {i b o c m j : Nat} {e : TypeId} {vs : List Value} {x : Value} (hi : os[i]? = some (rxO e (.slice (some ⟨b, o, none⟩) m c) m vs)) (hx : vs[0 + j * 1]? = some x) : Mem lo B u os fun w => Cell w b (o + j * 1) x := fun w hw => by
  have h : RxRow w e (.slice (some ⟨b, o, none⟩) m c) m vs := hw.prs _ (List.mem_of_getElem? hi)
  rcases h.2 with ⟨h2, h3⟩ | ⟨g, o', cap, cur, h2, hg, h4, h5, h7⟩
  · cases h2
  · cases h2
    refine ⟨cur, e, (0, 0), hg, ?_⟩
    rw [← h7, List.getElem?_take] at hx
    split at hx
    · rw [List.getElem?_drop] at hx
      simpa using hx
    · simp at hx
end
inductive RowX : List Own → TypeId → Value → List Int → Prop
  | a {e : TypeId} {v : Value} {m : Nat} {xs : List Int} {r : List Own} : RowX (rxO e v m (ints_ xs) :: r) e v xs
  | s {e : TypeId} {v : Value} {xs : List Int} {q : Own} {r : List Own} (h : RowX r e v xs) : RowX (q :: r) e v xs
theorem RowX.get {os : List Own} {e : TypeId} {v : Value} {xs : List Int} (h : RowX os e v xs) {w : World} : (∀ o ∈ os, o.pr w) → (Ty.ints e xs).ok w v := by
  induction h with
  | a => intro hp; exact ints_rxok (hp _ List.mem_cons_self)
  | s _ ih => intro hp; exact ih fun q hq => hp q (by simp [hq])
end Go.Proofs.YthdmaamdlibjaaaDoor
namespace Go.Proofs.YthdmaamdlibjaaaDoor.M
end Go.Proofs.YthdmaamdlibjaaaDoor.M
namespace Go.Proofs.YthdmaamdlibjaaaDoor
open Go.RowKit
def addO : Value → Nat → Value
  | .pointer (some ⟨b, o, none⟩), k => .pointer (some ⟨b, o + k, none⟩)
  | v, _ => v
theorem flag_get {r : M.Rul} {y : List UInt8} (h : y ∈ M.fNames) :
    [Value.int .i64 r.pits, .int .i64 r.seeds, .bool r.stores, .bool r.skip, .bool r.relay, .bool r.feed, .bool r.again, .int .i64 r.capture, .int .i64 r.slam][0 + M.flagIx y]? = some (.bool (M.flagB r y)) := by
  simp only [M.fNames, List.mem_cons, List.not_mem_nil, or_false] at h
  rcases h with rfl | rfl | rfl | rfl | rfl <;> rfl
instance {n : Int} : LenB (M.capName n) 9 := ⟨M.capName_len n⟩
instance {n : Int} : LenB (M.slamName n) 7 := ⟨M.slamName_len n⟩
instance {r : M.Rul} : LenB (M.rulesT r) 155 := ⟨M.rulesT_len r⟩
instance {a b c : Int} : LenB (M.recLine a b c) 66 := ⟨M.recLine_len a b c⟩
theorem strs_cellsok {w : World} : ∀ l : List (List UInt8), cellsOk w (l.map Ty.str) (txs_ l)
  | [] => trivial
  | x :: l => ⟨rfl, strs_cellsok l⟩
theorem strs_rowok {w : World} {e : TypeId} {n : Nat} {v : Value} {xs : List (List UInt8)} {g : List Nat} (h : (rowO e 1 v n (txs_ xs) g).pr w) : (Ty.strs e xs).ok w v := by
  have hl : n = xs.length := by have := h.1; rw [List.length_map] at this; omega
  subst hl
  exact row_ok h (strs_cellsok xs)
def ownsRowS (w : World) (e : TypeId) (v : Value) (n : Nat) (xs : List Value) : Prop :=
  xs.length = n ∧ ∃ g cap cur fz, v = .slice (some ⟨g, 0, none⟩) n cap ∧ w.heap[g]? = some (.cells cur e fz) ∧ (fz.2 = 0 ∨ cap ≤ fz.1) ∧ n ≤ cap ∧ cap ≤ maxLen ∧ cur.size = cap ∧ cur.toList.take n = xs
theorem ownsRowS.cell {w : World} {e : TypeId} {g n cap : Nat} {xs : List Value} (h : ownsRowS w e (.slice (some ⟨g, 0, none⟩) n cap) n xs) (j : Nat) (u : Value) (hu : xs[j]? = some u) : w.cell? ⟨g, j, none⟩ = some u := by
  obtain ⟨_, g', cap', cur, fz, hv, hg, _, _, _, _, ht⟩ := h
  injection hv with hv _ _
  injection hv with hv
  injection hv with hv _ _
  subst hv
  rw [← ht, List.getElem?_take] at hu
  split at hu
  · simp [World.cell?, hg]; simpa using hu
  · cases hu
section
variable {P : Program}
variable {n lo : Nat} {B : List Nat} {l : Fr} {os : List Own} {u : World} {dst : Option Tmp} {ty : TypeId} {pos : String} {af : Array Edge} {gd : Option (Nat × Bool)}
end
section
variable {P : Program} {n lo : Nat} {B : List Nat} {l : Fr} {os : List Own} {u : World} {dst : Option Tmp} {ty : TypeId} {pos : String} {af : Array Edge} {gd : Option (Nat × Bool)} {x y z : Operand} {t : TypeId} {a : List UInt8} {i j : Nat} {k k' : IntKind}
theorem sB_size (a : List UInt8) : (sB a).size = a.length := by simp [sB, ByteArray.size]
theorem sB_extract (a : List UInt8) (i j : Nat) : (sB a).extract i j = sB ((a.drop i).take (j - i)) := ByteArray.extract_mk a i j
theorem p_takeS (hu : P.underlying t = some .string) (hx : opd l x = some (.string (sB a))) (hy : opd l y = some (.int k i)) (h : i ≤ a.length) : OpP P n l ⟨dst, .slice t x none (some y) none, ty, pos, af, gd⟩ (.string (sB (a.take i))) := fun c w ha => by
  have := run_slice_string_h (P := P) w t (sB a) hu k i (by omega) (by rw [sB_size]; omega)
  rw [sB_extract] at this
  simp only [Int.toNat_natCast, Nat.sub_zero, List.drop_zero] at this
  simp only [execOp, Option.map_none, Option.map_some, ha.eval hx, ha.eval hy, Sem.run_bind, run_sliceAt_string _ t _ _ _ _ hu, this, Result.andThen_ok, Sem.run_pure]
theorem p_dropS (hu : P.underlying t = some .string) (hx : opd l x = some (.string (sB a))) (hy : opd l y = some (.int k i)) (h : i ≤ a.length) : OpP P n l ⟨dst, .slice t x (some y) none none, ty, pos, af, gd⟩ (.string (sB (a.drop i))) := fun c w ha => by
  have := run_slice_string_l (P := P) w t (sB a) hu k i (by omega) (by rw [sB_size]; omega)
  rw [sB_extract, sB_size] at this
  simp only [Int.toNat_natCast] at this
  rw [List.take_of_length_le (by simp)] at this
  simp only [execOp, Option.map_none, Option.map_some, ha.eval hx, ha.eval hy, Sem.run_bind, run_sliceAt_string _ t _ _ _ _ hu, this, Result.andThen_ok, Sem.run_pure]
theorem p_midS (hu : P.underlying t = some .string) (hx : opd l x = some (.string (sB a))) (hy : opd l y = some (.int k i)) (hz : opd l z = some (.int k' j)) (h1 : i ≤ j) (h2 : j ≤ a.length) : OpP P n l ⟨dst, .slice t x (some y) (some z) none, ty, pos, af, gd⟩ (.string (sB ((a.drop i).take (j - i)))) := fun c w ha => by
  have := run_slice_string (P := P) w t (sB a) k k' i j hu (by omega) (by omega) (by rw [sB_size]; omega)
  rw [sB_extract] at this
  simp only [Int.toNat_natCast] at this
  simp only [execOp, Option.map_none, Option.map_some, ha.eval hx, ha.eval hy, ha.eval hz, Sem.run_bind, run_sliceAt_string _ t _ _ _ _ hu, this, Result.andThen_ok, Sem.run_pure]
theorem p_byteS (hu : P.underlying t = some .string) (hx : opd l x = some (.string (sB a))) (hy : opd l y = some (.int k i)) (h : i < a.length) : OpP P n l ⟨dst, .index t x y, ty, pos, af, gd⟩ (.int .u8 (M.bat a i)) := fun c w ha => by
  have := run_index_string (P := P) w t (sB a) k i hu
  rw [dif_pos ⟨by omega, by rw [sB_size]; omega⟩] at this
  have e : ((sB a)[(i : Int).toNat]'(by rw [sB_size]; omega)) = a[i] := rfl
  have e2 : M.bat a i = (a[i].toNat : Int) := by simp [M.bat, List.getD, h]
  simp only [execOp, ha.eval hx, ha.eval hy, Sem.run_bind, this, Result.andThen_ok, Sem.run_pure]
  rw [e2]; rfl
end
instance {a : List UInt8} {k i : Nat} [h : LenB a k] : LenB (a.take i) k := ⟨by rw [List.length_take]; have := h.h; omega⟩
instance {a : List UInt8} {k i : Nat} [h : LenB a k] : LenB (a.drop i) k := ⟨by rw [List.length_drop]; have := h.h; omega⟩
end Go.Proofs.YthdmaamdlibjaaaDoor
namespace Go.Proofs.YthdmaamdlibjaaaDoor.M
def w3 (s : List UInt8) (i : Nat) : List UInt8 := (split 32 s).getD i []
def x2 (s : List UInt8) (i : Nat) : List UInt8 := (split 47 (w3 s 1)).getD i []
def w5 (s : List UInt8) : List UInt8 := w3 s 0 ++ [32] ++ w3 s 1 ++ [32] ++ w3 s 2
def d2 (n : Nat) : List UInt8 := if n < 10 then [UInt8.ofNat (48 + n)] else [UInt8.ofNat (48 + n / 10), UInt8.ofNat (48 + n % 10)]
end Go.Proofs.YthdmaamdlibjaaaDoor.M
namespace Go.Proofs.YthdmaamdlibjaaaDoor
open Go.RowKit
def RX (w : World) (R : Value → Prop) (e : Ending) (w' : World) : Prop := ∃ v, e = .returned v ∧ R v ∧ Ext w w'
section
variable {P : Program} {n lo : Nat} {B : List Nat} {Q : Exit → Act → World → Prop} {cs : List Code} {K : Act → World → Prop} {ops : Array Oper} {rest : List Oper} {l : Fr} {os os' os1 : List Own} {u : World} {ty : TypeId} {pos : String} {af : Array Edge} {gd : Option (Nat × Bool)} {dst : Option Tmp} {v : Value} {d : Nat}
end
theorem txs_get' {xs : List (List UInt8)} {k : Nat} {y : List UInt8} (h : xs[k]? = some y) : (txs_ xs)[0 + k * 1]? = some (.string (sB y)) := by rw [Nat.zero_add, Nat.mul_one]; simp [txs_, h]
section
variable {P : Program} {n : Nat} {l : Fr} {dst : Option Tmp} {ty : TypeId} {pos : String} {af : Array Edge} {gd : Option (Nat × Bool)}
theorem run_equalIn_pn (d : Nat) {t e : TypeId} (hu : P.underlying t = some (.pointer e)) (p : Option Addr) (w : World) : (Op.equalIn (d + 1) t (.pointer p) (.pointer none)).run P w = .ok p.isNone w := by
  cases p <;> simp [Op.equalIn, run_underlying hu]
theorem p_eqlP {x y : Operand} {t t' e : TypeId} {p : Option Addr} (hu : P.underlying t = some (.pointer e)) (h1 : opd l x = some (.pointer p)) (h2 : opd l y = some (.pointer none)) : OpP P n l ⟨dst, .binOp .eql t x y t', ty, pos, af, gd⟩ (.bool p.isNone) := fun a w ha => by
  simp [execOp, eqGuard, binOp, ha.eval h1, ha.eval h2, Op.equal, Op.maxDepth, run_equalIn_pn 9999 hu]
theorem p_eqlP0 {x y : Operand} {t t' e : TypeId} (hu : P.underlying t = some (.pointer e)) (h1 : opd l x = some (.pointer none)) (h2 : opd l y = some (.pointer none)) : OpP P n l ⟨dst, .binOp .eql t x y t', ty, pos, af, gd⟩ (.bool true) := p_eqlP hu h1 h2
theorem p_eqlP1 {x y : Operand} {t t' e : TypeId} {p : Addr} (hu : P.underlying t = some (.pointer e)) (h1 : opd l x = some (.pointer (some p))) (h2 : opd l y = some (.pointer none)) : OpP P n l ⟨dst, .binOp .eql t x y t', ty, pos, af, gd⟩ (.bool false) := p_eqlP hu h1 h2
end
end Go.Proofs.YthdmaamdlibjaaaDoor
namespace Go.Proofs.YthdmaamdlibjaaaDoor.M
theorem named_0 {l : List (List UInt8)} {t : List UInt8} (h : (namedBy l t).2 = 0) : ¬ idx l t < 0 ∧ (namedBy l t).1 = idx l t := by
  unfold namedBy at h ⊢
  by_cases h1 : idx l t < 0
  · rw [if_pos h1] at h; exact absurd (show (3 : Int) = 0 from h) (by decide)
  · rw [if_neg h1]; exact ⟨h1, rfl⟩
theorem named_3 {l : List (List UInt8)} {t : List UInt8} (h : ¬ (namedBy l t).2 = 0) : idx l t < 0 := by
  unfold namedBy at h
  by_cases h1 : idx l t < 0
  · exact h1
  · rw [if_neg h1] at h; exact absurd rfl h
theorem valP_c0 {y t : List UInt8} (hy : y = captT) (h : (namedBy capNames t).2 = 0) : valP y t = ((namedBy capNames t).1, 0) := by
  subst hy; obtain ⟨a, b⟩ := named_0 h; rw [valP_capt, if_neg a, b]
theorem valP_c3 {y t : List UInt8} (hy : y = captT) (h : ¬ (namedBy capNames t).2 = 0) : valP y t = (0, 4) := by
  subst hy; rw [valP_capt, if_pos (named_3 h)]
theorem valP_s0 {y t : List UInt8} (hy : y = slamT) (h : (namedBy slamNames t).2 = 0) : valP y t = ((namedBy slamNames t).1, 0) := by
  subst hy; obtain ⟨a, b⟩ := named_0 h; rw [valP_slam, if_neg a, b]
theorem valP_s3 {y t : List UInt8} (hy : y = slamT) (h : ¬ (namedBy slamNames t).2 = 0) : valP y t = (0, 4) := by
  subst hy; rw [valP_slam, if_pos (named_3 h)]
theorem valP_n3 {y t : List UInt8} (h1 : ¬ y = captT) (h2 : ¬ y = slamT) (h3 : (num t).2 = false) : valP y t = (0, 3) := by
  unfold valP; rw [if_neg h1, if_neg h2, if_pos h3]
theorem valP_n4 {y t : List UInt8} (h1 : ¬ y = captT) (h2 : ¬ y = slamT) (h3 : (num t).2 = true) (h4 : y = pitsT ∧ betw (num t).1 2 8 = false ∨ y = seedsT ∧ betw (num t).1 1 6 = false) : valP y t = (0, 4) := by
  unfold valP; rw [if_neg h1, if_neg h2, if_neg (by rw [h3]; decide), if_pos h4]
theorem valP_n0 {y t : List UInt8} (h1 : ¬ y = captT) (h2 : ¬ y = slamT) (h3 : (num t).2 = true) (h4 : ¬ (y = pitsT ∧ betw (num t).1 2 8 = false ∨ y = seedsT ∧ betw (num t).1 1 6 = false)) : valP y t = ((num t).1, 0) := by
  unfold valP; rw [if_neg h1, if_neg h2, if_neg (by rw [h3]; decide), if_neg h4]
theorem valR_y {r : Rul} {y t : List UInt8} {n : Int} (h : valP y t = (n, 0)) : valR r y t = setNum r y n := by unfold valR; rw [h, if_pos rfl]
theorem valR_n {r : Rul} {y t : List UInt8} {n k : Int} (h : valP y t = (n, k)) (hk : k ≠ 0) : valR r y t = r := by unfold valR; rw [h, if_neg hk]
section
variable {x : Rdr} {a : Int} {w : List UInt8}
theorem rdW_1 (h : (cutS w [61]).2.2 = true ∧ isNum (cutS w [61]).1 = false ∨ (cutS w [61]).2.2 = false ∧ isFlg (cutS w [61]).1 = false) : rdW x a w = ⟨x.rules, x.problems ++ [⟨1, a, w⟩], x.given⟩ := by
  unfold rdW rdU; rw [if_pos h]
theorem rdW_2 (h1 : ¬ ((cutS w [61]).2.2 = true ∧ isNum (cutS w [61]).1 = false)) (h2 : ¬ ((cutS w [61]).2.2 = false ∧ isFlg (cutS w [61]).1 = false)) (hm : mhas x.given (cutS w [61]).1 = true) : rdW x a w = ⟨x.rules, x.problems ++ [⟨2, a, w⟩], x.given⟩ := by
  unfold rdW rdU; rw [if_neg (fun h => h.elim h1 h2), if_pos hm]
theorem rdW_n {k : Int} (he : (cutS w [61]).2.2 = true) (hn : isNum (cutS w [61]).1 = true) (hm : mhas x.given (cutS w [61]).1 = false) (hk : (valP (cutS w [61]).1 (cutS w [61]).2.1).2 = k) (h0 : ¬ k = 0) : rdW x a w = ⟨valR x.rules (cutS w [61]).1 (cutS w [61]).2.1, x.problems ++ [⟨k, a, w⟩], mput x.given (cutS w [61]).1 a⟩ := by
  subst hk; unfold rdW rdU; rw [if_neg (by rw [he, hn]; simp), if_neg (by rw [hm]; decide), if_pos he, if_neg h0]
theorem rdW_z (he : (cutS w [61]).2.2 = true) (hn : isNum (cutS w [61]).1 = true) (hm : mhas x.given (cutS w [61]).1 = false) (h0 : (valP (cutS w [61]).1 (cutS w [61]).2.1).2 = 0) : rdW x a w = ⟨valR x.rules (cutS w [61]).1 (cutS w [61]).2.1, x.problems, mput x.given (cutS w [61]).1 a⟩ := by
  unfold rdW rdU; rw [if_neg (by rw [he, hn]; simp), if_neg (by rw [hm]; decide), if_pos he, if_pos h0]
theorem rdW_f (he : (cutS w [61]).2.2 = false) (hf : isFlg (cutS w [61]).1 = true) (hm : mhas x.given (cutS w [61]).1 = false) : rdW x a w = ⟨setFlg x.rules (cutS w [61]).1, x.problems, mput x.given (cutS w [61]).1 a⟩ := by
  unfold rdW rdU; rw [if_neg (by rw [he, hf]; simp), if_neg (by rw [hm]; decide), if_neg (by rw [he]; decide)]
end
theorem misN_t {g : List (List UInt8 × Int)} {m : Int} {k : Nat} {y : List UInt8} {ps qs : List Prb} (h : qs = ps ++ misN g m k) (hY : pNames[k]? = some y) (hb : mhas g y = true) : qs = ps ++ misN g m (k + 1) := by
  rw [misN, wdn_get hY, if_pos hb, List.append_nil]; exact h
theorem misN_f {g : List (List UInt8 × Int)} {m : Int} {k : Nat} {y : List UInt8} {ps qs : List Prb} (h : qs = ps ++ misN g m k) (hY : pNames[k]? = some y) (hb : mhas g y = false) : qs ++ [⟨5, m, y⟩] = ps ++ misN g m (k + 1) := by
  rw [misN, wdn_get hY, if_neg (by rw [hb]; decide), h, List.append_assoc]
theorem mis_t {g : List (List UInt8 × Int)} {m : Int} {k : Nat} {ps qs : List Prb} (h : qs = ps ++ misN g m k) (hk : k = 2) (h1 : mhas g agaiT = true) (h2 : mhas g storT = false) : ps ++ mis g m = qs ++ [⟨6, mval g agaiT, agaiT⟩] := by
  subst hk; unfold mis misE; rw [if_pos ⟨h1, h2⟩, h, List.append_assoc]
theorem mis_f {g : List (List UInt8 × Int)} {m : Int} {k : Nat} {ps qs : List Prb} (h : qs = ps ++ misN g m k) (hk : k = 2) (h1 : ¬ (mhas g agaiT = true ∧ mhas g storT = false)) : ps ++ mis g m = qs := by
  subst hk; unfold mis misE; rw [if_neg h1, List.append_nil, h]
theorem mis_len (g : List (List UInt8 × Int)) (m : Int) : (mis g m).length ≤ 3 := by
  have := misN_len g m 2
  unfold mis misE
  rw [List.length_append]
  split <;> simp only [List.length_cons, List.length_nil] <;> omega
theorem PtI.word' {s y : List UInt8} {j : Nat} {a : Int} {k : Nat} (h : PtI s j a k) (hy : (split 32 s)[j]? = some y) (hne : y ≠ []) : PtI s (j + 1) (a + ((y.length : Int) + 1)) (k + 1) ∧ (wds s)[k]? = some y ∧ nth (pls s) k = a := by
  rw [← Int.add_assoc]; exact h.word hy hne
theorem PtI.blank' {s y : List UInt8} {j : Nat} {a : Int} {k : Nat} (h : PtI s j a k) (hy : (split 32 s)[j]? = some y) (he : y = []) : PtI s (j + 1) (a + ((y.length : Int) + 1)) k := by
  subst he; rw [← Int.add_assoc]; exact h.blank hy
theorem rel_done {s : List UInt8} {x : Rdr} {j k : Nat} {a : Int} (h : RelC x (chkN s k)) (hP : PtI s j a k) (hj : (split 32 s).length ≤ j) (hk : k ≤ (wds s).length) : RelC x (chkA s) := by
  have := hP.done hj hk; subst this; exact h
theorem chkT_5 {s : List UInt8} (h : 200 < s.length) : chkT s = (Rul.zero, [], 5) := by unfold chkT; rw [if_pos h]
theorem chkT_p {s : List UInt8} {x : Rdr} (h : ¬ 200 < s.length) (hR : RelC x (chkA s)) (hp : 0 < (x.problems ++ mis x.given (s.length : Int)).length) : chkT s = (Rul.zero, x.problems ++ mis x.given (s.length : Int), 0) := by
  rw [hR.missing] at hp ⊢
  unfold chkT; rw [if_neg h, if_neg (by intro e; rw [e] at hp; simp at hp)]
theorem chkT_n {s : List UInt8} {x : Rdr} (h : ¬ 200 < s.length) (hR : RelC x (chkA s)) (hp : ¬ 0 < (x.problems ++ mis x.given (s.length : Int)).length) : chkT s = (x.rules, x.problems ++ mis x.given (s.length : Int), 0) := by
  rw [hR.missing] at hp ⊢
  have e : chkO s = [] := List.length_eq_zero_iff.1 (by omega)
  unfold chkT; rw [if_neg h, if_pos e, e, hR.r]; rfl
theorem chkT_O {s : List UInt8} (h : ¬ 200 < s.length) (hp : 0 < (chkO s).length) : chkT s = (Rul.zero, chkO s, 0) := by
  unfold chkT; rw [if_neg h, if_neg (by intro e; rw [e] at hp; simp at hp)]
theorem chkT_R {s : List UInt8} (h : ¬ 200 < s.length) (hp : ¬ 0 < (chkO s).length) : chkT s = (chkR s, [], 0) := by
  unfold chkT; rw [if_neg h, if_pos (List.length_eq_zero_iff.1 (by omega))]
theorem chkT_len (s : List UInt8) : (chkT s).2.1.length ≤ s.length + 4 := by
  have := chkO_len s
  unfold chkT
  split
  · show ([] : List Prb).length ≤ _; simp
  · split
    · show ([] : List Prb).length ≤ _; simp
    · exact this
theorem RelC.plen {x : Rdr} {s : List UInt8} {k : Nat} (h : RelC x (chkN s k)) : x.problems.length ≤ k := by rw [h.p]; exact (chkN_len s k).2.2
end Go.Proofs.YthdmaamdlibjaaaDoor.M
namespace Go.Proofs.YthdmaamdlibjaaaDoor
open Go.RowKit
section
variable {P : Program} {n lo : Nat} {B : List Nat} {Q : Exit → Act → World → Prop} {cs : List Code} {l : Fr} {os os' : List Own} {u : World}
theorem giveL (ks : List Nat) {w w₀ : World} {bs : List Own} {fr : List Own} {m : Nat} (hb : Bw w₀ bs) (x : Up w₀.heap.size (offW w₀ (bs.flatMap (·.fp))) u) (hp : PP os ks os') (hf : NL (os'.take m) fr)
    (hw : St w₀.heap.size (bs.flatMap (·.fp)) u w os) : St w₀.heap.size (bs.flatMap (·.fp)) u w (fr ++ [anyO ((os'.drop m).flatMap (·.fp))]) := by
  have hpm := hp.perm
  have e : os' = fr ++ os'.drop m := by rw [← hf.eq, List.take_append_drop]
  exact hw.conv (fun o ho => by
    rcases List.mem_append.1 ho with ho | ho
    · exact hw.prs o (hpm.mem_iff.2 (by rw [e]; exact List.mem_append_left _ ho))
    · simp at ho; subst ho; trivial) (by
    have := hpm.symm.flatMap_right (fun o : Own => o.fp)
    rw [e, List.flatMap_append] at this
    rw [List.flatMap_append]
    simpa [anyO] using this)
theorem zrbE (ks : List Nat) {fn : Func} {R : Value → List Own → Prop} {w₀ : World} {bs : List Own} {fr : List Own} {m : Nat} (hb : Bw w₀ bs) (x : Up w₀.heap.size (offW w₀ (bs.flatMap (·.fp))) u) (h : R (.tuple #[]) fr)
    (hr : fn.results = #[] := by rfl) (hm : ks.length = m := by rfl) (hp : PP os ks os' := by exact pp_) (hf : NL (os'.take m) fr := by exact nl) :
    Js P n w₀.heap.size (bs.flatMap (·.fp)) (bodyPost P fn (RB w₀ bs R)) [] l os u := Js.end_ fun a w ha hw =>
  ⟨ha.dfr, .tuple #[], by unfold results; rw [hr]; simp, _, fr, _, rfl, h, (giveL ks hb x hp hf hw).giveBack hb x⟩
end
end Go.Proofs.YthdmaamdlibjaaaDoor

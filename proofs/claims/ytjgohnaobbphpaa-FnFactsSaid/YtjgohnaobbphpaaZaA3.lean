/- Plain mathematics of texts that are read: numbers. -/
import Derived.Test.YtjgohnaobbphpaaZaA2
import Derived.MapKept
import Derived.Test.YtjgohnaobbphpaaProg
import Derived.ProofKit
import Derived.SizedLaws
import Derived.Test.YtjgohnaobbphpaaZaA1
set_option linter.unusedSimpArgs false
set_option linter.unusedVariables false
namespace Go.Proofs.Ytjgohnaobbphpaa.M
def isDig (c : Int) : Bool := decide (48 ≤ c) && decide (c ≤ 57)
def numT (s : List UInt8) : List UInt8 := if s ≠ [] ∧ bat s 0 = 45 then s.drop 1 else s
def numN (t : List UInt8) : Nat → Int
  | 0 => 0
  | k + 1 => 10 * numN t k + (bat t k - 48)
def Digs (t : List UInt8) (k : Nat) : Prop := ∀ i : Nat, i < k → isDig (bat t i) = true
theorem Digs.zero (t : List UInt8) : Digs t 0 := fun i h => absurd h (by omega)
theorem Digs.step {t : List UInt8} {k : Nat} (h : Digs t k) (hk : isDig (bat t k) = true) : Digs t (k + 1) := fun i hi => by
  by_cases e : i = k
  · rw [e]; exact hk
  · exact h i (by omega)
def numS (s : List UInt8) : Int := if (numT s).length < s.length then -numN (numT s) (numT s).length else numN (numT s) (numT s).length
def digs (t : List UInt8) : Bool := (List.range t.length).all fun i => isDig (bat t i)
def num (s : List UInt8) : Int × Bool :=
  if (numT s).length < 1 ∨ 18 < (numT s).length then (0, false) else if digs (numT s) = false then (0, false) else if dec (numS s) = s then (numS s, true) else (0, false)
theorem num_yes {s : List UInt8} (h1 : ¬ ((numT s).length < 1 ∨ 18 < (numT s).length)) (h2 : digs (numT s) = true) (h : dec (numS s) = s) : num s = (numS s, true) := by
  unfold num; rw [if_neg h1, if_neg (by simp [h2]), if_pos h]
def hit (s sep : List UInt8) (k : Nat) : Bool := decide (k + sep.length ≤ s.length) && decide ((s.drop k).take sep.length = sep)
def cutS (s sep : List UInt8) : List UInt8 × List UInt8 × Bool :=
  match (List.range (s.length + 1)).find? (hit s sep) with
  | some k => (s.take k, s.drop (k + sep.length), true)
  | none => (s, [], false)
theorem hit_one {s : List UInt8} {b : UInt8} {k : Nat} : hit s [b] k = true ↔ s[k]? = some b := by
  unfold hit
  simp only [List.length_cons, List.length_nil, Nat.zero_add, Bool.and_eq_true, decide_eq_true_eq]
  constructor
  · rintro ⟨h1, h2⟩
    have : k < s.length := by omega
    rw [List.drop_eq_getElem_cons this] at h2
    simp only [List.take_succ_cons, List.take_zero, List.cons.injEq, and_true] at h2
    rw [List.getElem?_eq_getElem this, h2]
  · intro h
    obtain ⟨hk, h⟩ := List.getElem?_eq_some_iff.1 h
    refine ⟨by omega, ?_⟩
    rw [List.drop_eq_getElem_cons hk]
    simp [h]
theorem cutS_one (b : UInt8) (s : List UInt8) : ((cutS s [b]).2.2 = true ∧ split b s = (cutS s [b]).1 :: split b (cutS s [b]).2.1 ∧ (cutS s [b]).2.1.length < s.length) ∨ ((cutS s [b]).2.2 = false ∧ split b s = [(cutS s [b]).1]) := by
  unfold cutS
  cases hf : (List.range (s.length + 1)).find? (hit s [b]) with
  | some k =>
    left
    rw [List.find?_range_eq_some] at hf
    obtain ⟨h1, _, h3⟩ := hf
    rw [hit_one] at h1
    obtain ⟨hk, h⟩ := List.getElem?_eq_some_iff.1 h1
    refine ⟨rfl, ?_, by simp; omega⟩
    have e : s = s.take k ++ b :: s.drop (k + 1) := by
      rw [← h, ← List.drop_eq_getElem_cons hk, List.take_append_drop]
    have hm : b ∉ s.take k := fun hm => by
      obtain ⟨i, hi, he⟩ := List.mem_iff_getElem.1 hm
      have hik : i < k := by rw [List.length_take] at hi; omega
      have := h3 i hik
      rw [Bool.not_eq_true', ← Bool.not_eq_true, hit_one] at this
      apply this
      rw [List.getElem_take] at he
      rw [List.getElem?_eq_getElem (by omega), he]
    show split b s = s.take k :: split b (s.drop (k + 1))
    conv => lhs; rw [e]
    exact split_app b _ _ hm
  | none =>
    right
    rw [List.find?_eq_none] at hf
    refine ⟨rfl, split_last b s fun hm => ?_⟩
    obtain ⟨i, hi, he⟩ := List.mem_iff_getElem.1 hm
    have := hf i (by simp; omega)
    apply this
    rw [hit_one, List.getElem?_eq_getElem hi, he]
def numsOk (l : List (List UInt8)) : Bool := l.all fun w => (num w).2
def numsV (l : List (List UInt8)) : List Int := l.map fun w => (num w).1
def nums (s : List UInt8) : List Int × Bool := if numsOk (split 44 s) = true then (numsV (split 44 s), true) else ([], false)
theorem nums_yes {s : List UInt8} (h : numsOk (split 44 s) = true) : nums s = (numsV (split 44 s), true) := by unfold nums; rw [if_pos h]
structure NumsI (s cur : List UInt8) (out : List Int) : Prop where
  ok : numsOk (split 44 cur) = numsOk (split 44 s)
  v : out ++ numsV (split 44 cur) = numsV (split 44 s)
theorem NumsI.zero (s : List UInt8) : NumsI s s [] := ⟨rfl, rfl⟩
theorem NumsI.more {s cur : List UInt8} {out : List Int} (h : NumsI s cur out) (hn : (num (cutS cur [44]).1).2 = true) (hc : (cutS cur [44]).2.2 = true) : NumsI s (cutS cur [44]).2.1 (out ++ [(num (cutS cur [44]).1).1]) ∧ (cutS cur [44]).2.1.length < cur.length := by
  rcases cutS_one 44 cur with ⟨_, h2, h3⟩ | ⟨h2, _⟩
  · refine ⟨⟨?_, ?_⟩, h3⟩
    · rw [← h.ok, h2]; simp [numsOk, hn]
    · rw [← h.v, h2]; simp [numsV]
  · rw [hc] at h2; simp at h2
theorem NumsI.last {s cur : List UInt8} {out : List Int} (h : NumsI s cur out) (hn : (num (cutS cur [44]).1).2 = true) (hc : (cutS cur [44]).2.2 = false) : nums s = (out ++ [(num (cutS cur [44]).1).1], true) := by
  rcases cutS_one 44 cur with ⟨h2, _, _⟩ | ⟨_, h2⟩
  · rw [hc] at h2; simp at h2
  · rw [nums_yes (by rw [← h.ok, h2]; simp [numsOk, hn]), ← h.v, h2]; simp [numsV]
theorem NumsI.len {s cur : List UInt8} {out : List Int} (h : NumsI s cur out) : out.length ≤ s.length + 1 := by
  have a := split_len 44 s
  have := congrArg List.length h.v
  rw [List.length_append] at this
  simp only [numsV, List.length_map] at this; omega
def decB (b : UInt8) : Prop := b = 45 ∨ (48 ≤ b.toNat ∧ b.toNat ≤ 57)
theorem decB_dig (d : Nat) (h : d < 10) : decB (UInt8.ofNat (48 + d)) := by
  right
  rw [UInt8.toNat_ofNat', Nat.mod_eq_of_lt (by omega)]
  omega
theorem decDigits_B : ∀ (u : Nat) (b : UInt8), b ∈ Lib.decDigits u → decB b := by
  intro u
  induction u using Nat.strongRecOn with
  | ind u ih =>
    intro b hb
    rw [Lib.decDigits] at hb
    by_cases hs : u < 10
    · rw [dif_pos hs] at hb
      simp only [List.mem_singleton] at hb
      rw [hb]; exact decB_dig u hs
    · rw [dif_neg hs] at hb
      rcases List.mem_append.1 hb with hb | hb
      · exact ih (u / 10) (by omega) b hb
      · simp only [List.mem_singleton] at hb
        rw [hb]; exact decB_dig _ (by omega)
theorem dec_B {n : Int} {b : UInt8} (h : b ∈ dec n) : decB b := by
  unfold dec at h
  split at h
  · unfold Lib.itoa at h
    split at h
    · rcases List.mem_cons.1 h with rfl | h
      · exact .inl rfl
      · exact decDigits_B _ _ h
    · exact decDigits_B _ _ h
  · simp at h
theorem decB_no {b c : UInt8} (h : decB b) (hc : c = 32 ∨ c = 44 ∨ c = 47) : b ≠ c := by
  rintro rfl
  rcases hc with rfl | rfl | rfl <;> (rcases h with h | ⟨h1, h2⟩ <;> first | exact absurd h (by decide) | exact absurd h1 (by decide))
def joinW (b : UInt8) : List (List UInt8) → List UInt8
  | [] => []
  | [w] => w
  | w :: v :: ws => w ++ b :: joinW b (v :: ws)
theorem joinW_cons (b : UInt8) (w : List UInt8) {ws : List (List UInt8)} (h : ws ≠ []) : joinW b (w :: ws) = w ++ b :: joinW b ws := by
  cases ws with
  | nil => exact absurd rfl h
  | cons v ws => rfl
theorem joinW_split (b : UInt8) : ∀ s : List UInt8, joinW b (split b s) = s
  | [] => rfl
  | x :: s => by
    have ih := joinW_split b s
    rw [split]
    split
    · rename_i e
      rw [joinW_cons b _ (split_ne b s), ih, e]; rfl
    · split
      · rename_i e; exact absurd e (split_ne b s)
      · rename_i w ws e
        rw [e] at ih
        cases ws with
        | nil => show x :: w = x :: s; rw [show w = s from ih]
        | cons v ws =>
          show x :: (w ++ b :: joinW b (v :: ws)) = x :: s
          rw [show w ++ b :: joinW b (v :: ws) = s from ih]
theorem dec_no {n : Int} {c : UInt8} (hc : c = 32 ∨ c = 44 ∨ c = 47) : c ∉ dec n := fun h => decB_no (dec_B h) hc rfl
def idx : List (List UInt8) → List UInt8 → Int
  | [], _ => -1
  | x :: l, s => if x = s then 0 else if idx l s = -1 then -1 else idx l s + 1
theorem idx_bd : ∀ (l : List (List UInt8)) (s : List UInt8), idx l s = -1 ∨ 0 ≤ idx l s ∧ idx l s < l.length
  | [], _ => .inl rfl
  | x :: l, s => by
    have := idx_bd l s
    rw [idx, List.length_cons]
    split
    · exact .inr ⟨by omega, by omega⟩
    · split
      · exact .inl rfl
      · refine .inr ⟨?_, ?_⟩ <;> omega
def Nix (l : List (List UInt8)) (s : List UInt8) (k : Nat) : Prop := ∀ i : Nat, i < k → l[i]? ≠ some s
theorem Nix.zero (l : List (List UInt8)) (s : List UInt8) : Nix l s 0 := fun i h => absurd h (by omega)
theorem Nix.step {l : List (List UInt8)} {s y : List UInt8} {k : Nat} (h : Nix l s k) (hy : l[k]? = some y) (hs : ¬ y = s) : Nix l s (k + 1) := fun i hi => by
  rcases Nat.lt_succ_iff_lt_or_eq.1 hi with h9 | h9
  · exact h i h9
  · subst h9; rw [hy]; intro h8; exact hs (Option.some.inj h8)
theorem Nix.hit : ∀ {l : List (List UInt8)} {s y : List UInt8} {k : Nat}, Nix l s k → l[k]? = some y → y = s → idx l s = (k : Int)
  | [], _, _, _, _, hy, _ => by simp at hy
  | x :: l, s, y, 0, _, hy, hs => by
    simp at hy; rw [idx, if_pos (by rw [hy]; exact hs)]; rfl
  | x :: l, s, y, k + 1, h, hy, hs => by
    have h0 : x ≠ s := fun e => h 0 (by omega) (by simp [e])
    have h1 : idx l s = (k : Int) := Nix.hit (l := l) (fun i hi => by have := h (i + 1) (by omega); simpa using this) (by simpa using hy) hs
    rw [idx, if_neg h0, if_neg (by omega), h1]; omega
theorem Nix.miss : ∀ {l : List (List UInt8)} {s : List UInt8} {k : Nat}, Nix l s k → l.length ≤ k → idx l s = -1
  | [], _, _, _, _ => rfl
  | x :: l, s, 0, _, hk => by simp at hk
  | x :: l, s, k + 1, h, hk => by
    have h0 : x ≠ s := fun e => h 0 (by omega) (by simp [e])
    rw [idx, if_neg h0, if_pos (Nix.miss (l := l) (k := k) (fun i hi => by have := h (i + 1) (by omega); simpa using this) (by simp at hk; omega))]
def wds (s : List UInt8) : List (List UInt8) := (split 32 s).filter (fun w => decide (w ≠ []))
def plsW : Int → List (List UInt8) → List Int
  | _, [] => []
  | a, w :: ws => if w = [] then plsW (a + 1) ws else a :: plsW (a + (w.length : Int) + 1) ws
def pls (s : List UInt8) : List Int := plsW 0 (split 32 s)
theorem plsW_len : ∀ (ws : List (List UInt8)) (a : Int), (plsW a ws).length = (ws.filter (fun w => decide (w ≠ []))).length
  | [], _ => rfl
  | w :: ws, a => by
    rw [plsW]
    by_cases h : w = []
    · rw [if_pos h, plsW_len ws, List.filter_cons_of_neg (by simp [h])]
    · rw [if_neg h, List.length_cons, plsW_len ws, List.filter_cons_of_pos (by simp [h]), List.length_cons]
theorem pls_len (s : List UInt8) : (pls s).length = (wds s).length := plsW_len _ _
theorem wds_len (s : List UInt8) : (wds s).length ≤ s.length + 1 := Nat.le_trans (List.length_filter_le _ _) (split_len 32 s)
structure PrtI (s : List UInt8) (i : Nat) (ws : List (List UInt8)) (ps : List Int) : Prop where
  w : ws ++ wds (s.drop i) = wds s
  p : ps ++ plsW (i : Int) (split 32 (s.drop i)) = pls s
theorem PrtI.zero (s : List UInt8) : PrtI s 0 [] [] := ⟨rfl, rfl⟩
theorem PrtI.len {s : List UInt8} {i : Nat} {ws : List (List UInt8)} {ps : List Int} (h : PrtI s i ws ps) : ws.length ≤ s.length + 1 ∧ ps.length ≤ s.length + 1 := by
  have h1 := congrArg List.length h.w; have h2 := congrArg List.length h.p
  rw [List.length_append] at h1 h2
  have := wds_len s; have := pls_len s
  constructor <;> omega
theorem bat_32 {s : List UInt8} {k : Nat} (hk : k < s.length) : bat s k = 32 ↔ s[k] = 32 := by
  rw [bat_get hk]
  constructor
  · intro h; exact u8_of h
  · intro h; rw [h]; rfl
structure WrdI (s : List UInt8) (i k : Nat) : Prop where
  n : (32 : UInt8) ∉ (s.drop i).take (k - i)
  l : i ≤ k
  u : k ≤ s.length
theorem WrdI.zero {s : List UInt8} {i : Nat} (h : i ≤ s.length) : WrdI s i i := ⟨by simp, Nat.le_refl _, h⟩
theorem WrdI.step {s : List UInt8} {i k : Nat} (h : WrdI s i k) (hk : k < s.length) (hb : ¬ bat s k = 32) : WrdI s i (k + 1) := by
  refine ⟨fun hm => ?_, by have := h.l; omega, hk⟩
  have hl := h.l
  have e : (s.drop i).take (k + 1 - i) = (s.drop i).take (k - i) ++ [s[k]] := by
    rw [show k + 1 - i = (k - i) + 1 by omega, List.take_add_one, List.getElem?_drop, show i + (k - i) = k by omega, List.getElem?_eq_getElem hk]; rfl
  rw [e] at hm
  rcases List.mem_append.1 hm with hm | hm
  · exact h.n hm
  · simp only [List.mem_singleton] at hm
    exact hb ((bat_32 hk).2 hm.symm)
theorem split_take {s : List UInt8} {i k : Nat} (h : WrdI s i k) (hk : k = s.length ∨ k < s.length ∧ bat s k = 32) (hik : i < k) :
    wds (s.drop i) = (s.drop i).take (k - i) :: wds (s.drop k) ∧ plsW (i : Int) (split 32 (s.drop i)) = (i : Int) :: plsW (k : Int) (split 32 (s.drop k)) := by
  have hl := h.l; have hu := h.u
  have hlen : ((s.drop i).take (k - i)).length = k - i := by rw [List.length_take, List.length_drop]; omega
  have hne : (s.drop i).take (k - i) ≠ [] := fun e => by rw [e] at hlen; simp at hlen; omega
  rcases hk with hk | ⟨hk, hb⟩
  · have e : (s.drop i).take (k - i) = s.drop i := List.take_of_length_le (by rw [List.length_drop]; omega)
    have hn := h.n
    rw [e] at hn hne
    have e2 : split 32 (s.drop i) = [s.drop i] := split_last 32 _ hn
    have e3 : s.drop k = [] := List.drop_eq_nil_of_le (by omega)
    rw [e]
    constructor
    · unfold wds; rw [e2, e3, List.filter_cons_of_pos (by simpa using hne)]; rfl
    · rw [e2, e3, plsW, if_neg hne]; rfl
  · have e := drop_cut hk hl
    rw [(bat_32 hk).1 hb] at e
    have e2 : split 32 (s.drop i) = (s.drop i).take (k - i) :: split 32 (s.drop (k + 1)) := by
      conv => lhs; rw [e]
      exact split_app 32 _ _ h.n
    have e3 : split 32 (s.drop k) = [] :: split 32 (s.drop (k + 1)) := by rw [List.drop_eq_getElem_cons hk, (bat_32 hk).1 hb, split, if_pos rfl]
    constructor
    · unfold wds; rw [e2, e3, List.filter_cons_of_pos (by simpa using hne), List.filter_cons_of_neg (by simp)]
    · rw [e2, e3, plsW, if_neg hne, plsW, if_pos rfl, hlen, show (i : Int) + ((k - i : Nat) : Int) + 1 = (k : Int) + 1 by omega]
theorem PrtI.word {s : List UInt8} {i k : Nat} {ws : List (List UInt8)} {ps : List Int} (h : PrtI s i ws ps) (hw : WrdI s i k) (hik : i < k) (hk : k = s.length ∨ k < s.length ∧ bat s k = 32) : PrtI s k (ws ++ [(s.drop i).take (k - i)]) (ps ++ [(i : Int)]) := by
  obtain ⟨a, b⟩ := split_take hw hk hik
  exact ⟨by rw [← h.w, a, List.append_assoc]; rfl, by rw [← h.p, b, List.append_assoc]; rfl⟩
theorem PrtI.done {s : List UInt8} {i : Nat} {ws : List (List UInt8)} {ps : List Int} (h : PrtI s i ws ps) (hi : s.length ≤ i) : ws = wds s ∧ ps = pls s := by
  have e : s.drop i = [] := List.drop_eq_nil_of_le hi
  have h1 := h.w; have h2 := h.p
  rw [e] at h1 h2
  exact ⟨by rw [← h1, show wds [] = [] from rfl, List.append_nil], by rw [← h2, show plsW (i : Int) (split 32 []) = [] from rfl, List.append_nil]⟩
def wrd (w : List UInt8) : Int × Int × Int :=
  if idx fieldNames (cutS w [61]).1 < 0 ∨ (cutS w [61]).2.2 = betw (idx fieldNames (cutS w [61]).1) 2 6 then (0, 0, 1) else
  if idx fieldNames (cutS w [61]).1 = 0 ∨ idx fieldNames (cutS w [61]).1 = 1 then
    if (num (cutS w [61]).2.1).2 = false then (idx fieldNames (cutS w [61]).1, 0, 3) else
    if idx fieldNames (cutS w [61]).1 = 0 ∧ betw (num (cutS w [61]).2.1).1 2 8 = false ∨ idx fieldNames (cutS w [61]).1 = 1 ∧ betw (num (cutS w [61]).2.1).1 1 6 = false then (idx fieldNames (cutS w [61]).1, 0, 4) else
    (idx fieldNames (cutS w [61]).1, (num (cutS w [61]).2.1).1, 0)
  else if idx fieldNames (cutS w [61]).1 = 7 ∨ idx fieldNames (cutS w [61]).1 = 8 then
    if idx (if idx fieldNames (cutS w [61]).1 = 8 then slamNames else capNames) (cutS w [61]).2.1 < 0 then (idx fieldNames (cutS w [61]).1, 0, 4) else
    (idx fieldNames (cutS w [61]).1, idx (if idx fieldNames (cutS w [61]).1 = 8 then slamNames else capNames) (cutS w [61]).2.1, 0)
  else (idx fieldNames (cutS w [61]).1, 1, 0)
structure Chk where
  v : List Int
  seen : List Bool
  again : Int
  out : List Prb
def Chk.zero : Chk := ⟨List.replicate 9 0, List.replicate 9 false, 0, []⟩
def chkK (c : Chk) (w : List UInt8) : Int := if (wrd w).2.2 ≠ 1 ∧ blt c.seen (wrd w).1.toNat = true then 2 else (wrd w).2.2
def chkS (c : Chk) (w : List UInt8) (a : Int) : Chk :=
  if chkK c w = 1 ∨ chkK c w = 2 then ⟨c.v, c.seen, c.again, c.out ++ [⟨chkK c w, a, w⟩]⟩ else
  ⟨setI c.v (wrd w).1 (wrd w).2.1, c.seen.set (wrd w).1.toNat true, if (wrd w).1 = 6 then a else c.again, if chkK c w = 0 then c.out else c.out ++ [⟨chkK c w, a, w⟩]⟩
def rulV (v : List Int) : Rul := ⟨nth v 0, nth v 1, decide (nth v 2 = 1), decide (nth v 3 = 1), decide (nth v 4 = 1), decide (nth v 5 = 1), decide (nth v 6 = 1), nth v 7, nth v 8⟩
section
variable {s y : List UInt8} {k : Nat} {v : List Int} {seen : List Bool} {again : Int} {out : List Prb}
end
def nNames : List (List UInt8) := [[112, 105, 116, 115], [115, 101, 101, 100, 115], [99, 97, 112, 116, 117, 114, 101], [115, 108, 97, 109]]
def isNum (y : List UInt8) : Bool := decide (y ∈ nNames)
def isFlg (y : List UInt8) : Bool := decide (y ∈ fNames)
def numIx (y : List UInt8) : Nat := if y = [112, 105, 116, 115] then 0 else if y = [115, 101, 101, 100, 115] then 1 else if y = [99, 97, 112, 116, 117, 114, 101] then 7 else 8
theorem isNum_iff {y : List UInt8} (h : isNum y = true) : y = [112, 105, 116, 115] ∨ y = [115, 101, 101, 100, 115] ∨ y = [99, 97, 112, 116, 117, 114, 101] ∨ y = [115, 108, 97, 109] := by
  have h9 := of_decide_eq_true h
  simpa [nNames] using h9
theorem isFlg_iff {y : List UInt8} (h : isFlg y = true) : y ∈ fNames := of_decide_eq_true h
theorem isNum_no {y : List UInt8} (h : isNum y = false) : y ≠ [112, 105, 116, 115] ∧ y ≠ [115, 101, 101, 100, 115] ∧ y ≠ [99, 97, 112, 116, 117, 114, 101] ∧ y ≠ [115, 108, 97, 109] := by
  have h9 := of_decide_eq_false h
  simpa [nNames] using h9
theorem isFlg_no {y : List UInt8} (h : isFlg y = false) : y ≠ [115, 116, 111, 114, 101, 115] ∧ y ≠ [115, 107, 105, 112] ∧ y ≠ [114, 101, 108, 97, 121] ∧ y ≠ [102, 101, 101, 100] ∧ y ≠ [97, 103, 97, 105, 110] := by
  have h9 := of_decide_eq_false h
  simpa [fNames] using h9
def mget {α : Type} [DecidableEq α] : List (α × Int) → α → Option Int
  | [], _ => none
  | p :: r, k => if p.1 = k then some p.2 else mget r k
def mput {α : Type} [DecidableEq α] : List (α × Int) → α → Int → List (α × Int)
  | [], k, v => [(k, v)]
  | p :: r, k, v => if p.1 = k then (k, v) :: r else p :: mput r k v
def mhas {α : Type} [DecidableEq α] (g : List (α × Int)) (k : α) : Bool := (mget g k).isSome
def mval {α : Type} [DecidableEq α] (g : List (α × Int)) (k : α) : Int := (mget g k).getD 0
theorem mget_put {α : Type} [DecidableEq α] (k : α) (v : Int) (j : α) : ∀ g : List (α × Int), mget (mput g k v) j = if k = j then some v else mget g j
  | [] => by simp [mput, mget]
  | p :: r => by
    rw [mput]
    by_cases h : p.1 = k
    · rw [if_pos h, mget, mget]
      by_cases h2 : k = j
      · rw [if_pos h2, if_pos h2]
      · rw [if_neg h2, if_neg h2, if_neg (by rw [h]; exact h2)]
    · rw [if_neg h, mget, mget_put k v j r, mget]
      by_cases h2 : k = j
      · rw [if_pos h2, if_pos h2, if_neg (by rw [← h2]; exact h)]
      · rw [if_neg h2, if_neg h2]
theorem mhas_put {α : Type} [DecidableEq α] (g : List (α × Int)) (k : α) (v : Int) (j : α) : mhas (mput g k v) j = (decide (k = j) || mhas g j) := by
  unfold mhas
  rw [mget_put]
  by_cases h : k = j <;> simp [h]
theorem idx_get : ∀ {l : List (List UInt8)} {s : List UInt8}, 0 ≤ idx l s → l[(idx l s).toNat]? = some s
  | [], _, h => by simp [idx] at h
  | x :: l, s, h => by
    rw [idx] at h ⊢
    by_cases h0 : x = s
    · rw [if_pos h0]; simp [h0]
    · rw [if_neg h0] at h ⊢
      have hb := idx_bd l s
      by_cases h1 : idx l s = -1
      · rw [if_pos h1] at h; exact absurd h (by decide)
      · rw [if_neg h1] at h ⊢
        rw [show (idx l s + 1).toNat = (idx l s).toNat + 1 by omega, List.getElem?_cons_succ]
        exact idx_get (by omega)
theorem idx_inj {l : List (List UInt8)} {s t : List UInt8} (h : 0 ≤ idx l s) (e : (idx l s).toNat = (idx l t).toNat) (h2 : 0 ≤ idx l t) : s = t := by
  have a := idx_get h
  rw [e, idx_get h2] at a
  exact (Option.some.inj a).symm
def setNum (r : Rul) (y : List UInt8) (n : Int) : Rul :=
  if y = [112, 105, 116, 115] then ⟨n, r.seeds, r.stores, r.skip, r.relay, r.feed, r.again, r.capture, r.slam⟩ else
  if y = [115, 101, 101, 100, 115] then ⟨r.pits, n, r.stores, r.skip, r.relay, r.feed, r.again, r.capture, r.slam⟩ else
  if y = [99, 97, 112, 116, 117, 114, 101] then ⟨r.pits, r.seeds, r.stores, r.skip, r.relay, r.feed, r.again, n, r.slam⟩ else
  ⟨r.pits, r.seeds, r.stores, r.skip, r.relay, r.feed, r.again, r.capture, n⟩
def setFlg (r : Rul) (y : List UInt8) : Rul :=
  if y = [115, 116, 111, 114, 101, 115] then ⟨r.pits, r.seeds, true, r.skip, r.relay, r.feed, r.again, r.capture, r.slam⟩ else
  if y = [115, 107, 105, 112] then ⟨r.pits, r.seeds, r.stores, true, r.relay, r.feed, r.again, r.capture, r.slam⟩ else
  if y = [114, 101, 108, 97, 121] then ⟨r.pits, r.seeds, r.stores, r.skip, true, r.feed, r.again, r.capture, r.slam⟩ else
  if y = [102, 101, 101, 100] then ⟨r.pits, r.seeds, r.stores, r.skip, r.relay, true, r.again, r.capture, r.slam⟩ else
  ⟨r.pits, r.seeds, r.stores, r.skip, r.relay, r.feed, true, r.capture, r.slam⟩
def pitsT : List UInt8 := [112, 105, 116, 115]
def seedsT : List UInt8 := [115, 101, 101, 100, 115]
def captT : List UInt8 := [99, 97, 112, 116, 117, 114, 101]
def slamT : List UInt8 := [115, 108, 97, 109]
def agaiT : List UInt8 := [97, 103, 97, 105, 110]
def valP (y t : List UInt8) : Int × Int :=
  if y = captT then (if idx capNames t < 0 then (0, 4) else (idx capNames t, 0)) else
  if y = slamT then (if idx slamNames t < 0 then (0, 4) else (idx slamNames t, 0)) else
  if (num t).2 = false then (0, 3) else
  if y = pitsT ∧ betw (num t).1 2 8 = false ∨ y = seedsT ∧ betw (num t).1 1 6 = false then (0, 4) else ((num t).1, 0)
def valR (r : Rul) (y t : List UInt8) : Rul := if (valP y t).2 = 0 then setNum r y (valP y t).1 else r
theorem valP_z {y t : List UInt8} (h : (valP y t).2 ≠ 0) : (valP y t).1 = 0 := by
  unfold valP at h ⊢
  split
  · split
    · rfl
    · rename_i a b; rw [if_pos a, if_neg b] at h; exact absurd rfl h
  · split
    · split
      · rfl
      · rename_i c a b; rw [if_neg c, if_pos a, if_neg b] at h; exact absurd rfl h
    · split
      · rfl
      · split
        · rfl
        · rename_i a b c d; rw [if_neg a, if_neg b, if_neg c, if_neg d] at h; exact absurd rfl h
theorem p34 {a : Int} : ((a, (0 : Int)) : Int × Int).2 ≠ 1 ∧ ((a, (0 : Int)) : Int × Int).2 ≠ 2 := ⟨fun h => absurd (show (0 : Int) = 1 from h) (show ¬ (0 : Int) = 1 by decide), fun h => absurd (show (0 : Int) = 2 from h) (show ¬ (0 : Int) = 2 by decide)⟩
theorem valP_ne (y t : List UInt8) : (valP y t).2 ≠ 1 ∧ (valP y t).2 ≠ 2 := by
  unfold valP
  split
  · split
    · exact ⟨by decide, by decide⟩
    · exact p34
  · split
    · split
      · exact ⟨by decide, by decide⟩
      · exact p34
    · split
      · exact ⟨by decide, by decide⟩
      · split
        · exact ⟨by decide, by decide⟩
        · exact p34
theorem valP_pits (t : List UInt8) : valP pitsT t = if (num t).2 = false then (0, 3) else if betw (num t).1 2 8 = false then (0, 4) else ((num t).1, 0) := by
  unfold valP
  rw [if_neg (show ¬ pitsT = captT by decide), if_neg (show ¬ pitsT = slamT by decide)]
  have h1 : ¬ pitsT = seedsT := by decide
  simp [h1]
theorem valP_seeds (t : List UInt8) : valP seedsT t = if (num t).2 = false then (0, 3) else if betw (num t).1 1 6 = false then (0, 4) else ((num t).1, 0) := by
  unfold valP
  rw [if_neg (show ¬ seedsT = captT by decide), if_neg (show ¬ seedsT = slamT by decide)]
  have h1 : ¬ seedsT = pitsT := by decide
  simp [h1]
theorem valP_capt (t : List UInt8) : valP captT t = if idx capNames t < 0 then (0, 4) else (idx capNames t, 0) := by
  unfold valP; rw [if_pos rfl]
theorem valP_slam (t : List UInt8) : valP slamT t = if idx slamNames t < 0 then (0, 4) else (idx slamNames t, 0) := by
  unfold valP; rw [if_neg (show ¬ slamT = captT by decide), if_pos rfl]
structure Rdr where
  rules : Rul
  problems : List Prb
  given : List (List UInt8 × Int)
def rdU (x : Rdr) (a : Int) (w : List UInt8) (y t : List UInt8) (e : Bool) : Rdr :=
  if e = true ∧ isNum y = false ∨ e = false ∧ isFlg y = false then ⟨x.rules, x.problems ++ [⟨1, a, w⟩], x.given⟩ else
  if mhas x.given y = true then ⟨x.rules, x.problems ++ [⟨2, a, w⟩], x.given⟩ else
  if e = true then ⟨valR x.rules y t, if (valP y t).2 = 0 then x.problems else x.problems ++ [⟨(valP y t).2, a, w⟩], mput x.given y a⟩ else
  ⟨setFlg x.rules y, x.problems, mput x.given y a⟩
def rdW (x : Rdr) (a : Int) (w : List UInt8) : Rdr := rdU x a w (cutS w [61]).1 (cutS w [61]).2.1 (cutS w [61]).2.2
def wrdP (y t : List UInt8) (e : Bool) : Int × Int × Int :=
  if idx fieldNames y < 0 ∨ e = betw (idx fieldNames y) 2 6 then (0, 0, 1) else
  if idx fieldNames y = 0 ∨ idx fieldNames y = 1 then
    if (num t).2 = false then (idx fieldNames y, 0, 3) else
    if idx fieldNames y = 0 ∧ betw (num t).1 2 8 = false ∨ idx fieldNames y = 1 ∧ betw (num t).1 1 6 = false then (idx fieldNames y, 0, 4) else
    (idx fieldNames y, (num t).1, 0)
  else if idx fieldNames y = 7 ∨ idx fieldNames y = 8 then
    if idx (if idx fieldNames y = 8 then slamNames else capNames) t < 0 then (idx fieldNames y, 0, 4) else
    (idx fieldNames y, idx (if idx fieldNames y = 8 then slamNames else capNames) t, 0)
  else (idx fieldNames y, 1, 0)
theorem wrd_P (w : List UInt8) : wrd w = wrdP (cutS w [61]).1 (cutS w [61]).2.1 (cutS w [61]).2.2 := rfl
theorem wrdP_num {y t : List UInt8} (h : isNum y = true) : wrdP y t true = ((numIx y : Int), (valP y t).1, (valP y t).2) ∧ idx fieldNames y = (numIx y : Int) ∧ wrdP y t false = (0, 0, 1) ∧ isFlg y = false := by
  rcases isNum_iff h with rfl | rfl | rfl | rfl
  · refine ⟨?_, rfl, rfl, rfl⟩
    show (if (num t).2 = false then ((0 : Int), (0 : Int), (3 : Int)) else if (0 : Int) = 0 ∧ betw (num t).1 2 8 = false ∨ (0 : Int) = 1 ∧ betw (num t).1 1 6 = false then (0, 0, 4) else (0, (num t).1, 0)) = ((0 : Int), (valP pitsT t).1, (valP pitsT t).2)
    rw [valP_pits]
    by_cases h1 : (num t).2 = false
    · rw [if_pos h1, if_pos h1]
    · rw [if_neg h1, if_neg h1]
      by_cases h2 : betw (num t).1 2 8 = false
      · rw [if_pos (.inl ⟨rfl, h2⟩), if_pos h2]
      · rw [if_neg (fun h => h.elim (fun b => h2 b.2) (fun b => absurd b.1 (by decide))), if_neg h2]
  · refine ⟨?_, rfl, rfl, rfl⟩
    show (if (num t).2 = false then ((1 : Int), (0 : Int), (3 : Int)) else if (1 : Int) = 0 ∧ betw (num t).1 2 8 = false ∨ (1 : Int) = 1 ∧ betw (num t).1 1 6 = false then (1, 0, 4) else (1, (num t).1, 0)) = ((1 : Int), (valP seedsT t).1, (valP seedsT t).2)
    rw [valP_seeds]
    by_cases h1 : (num t).2 = false
    · rw [if_pos h1, if_pos h1]
    · rw [if_neg h1, if_neg h1]
      by_cases h2 : betw (num t).1 1 6 = false
      · rw [if_pos (.inr ⟨rfl, h2⟩), if_pos h2]
      · rw [if_neg (fun h => h.elim (fun b => absurd b.1 (by decide)) (fun b => h2 b.2)), if_neg h2]
  · refine ⟨?_, rfl, rfl, rfl⟩
    show (if idx capNames t < 0 then ((7 : Int), (0 : Int), (4 : Int)) else (7, idx capNames t, 0)) = ((7 : Int), (valP captT t).1, (valP captT t).2)
    rw [valP_capt]
    by_cases h1 : idx capNames t < 0
    · rw [if_pos h1, if_pos h1]
    · rw [if_neg h1, if_neg h1]
  · refine ⟨?_, rfl, rfl, rfl⟩
    show (if idx slamNames t < 0 then ((8 : Int), (0 : Int), (4 : Int)) else (8, idx slamNames t, 0)) = ((8 : Int), (valP slamT t).1, (valP slamT t).2)
    rw [valP_slam]
    by_cases h1 : idx slamNames t < 0
    · rw [if_pos h1, if_pos h1]
    · rw [if_neg h1, if_neg h1]
theorem isFlg_iff5 {y : List UInt8} (h : isFlg y = true) : y = [115, 116, 111, 114, 101, 115] ∨ y = [115, 107, 105, 112] ∨ y = [114, 101, 108, 97, 121] ∨ y = [102, 101, 101, 100] ∨ y = [97, 103, 97, 105, 110] := by
  have h9 := isFlg_iff h
  simpa [fNames] using h9
theorem wrdP_flg {y t : List UInt8} (h : isFlg y = true) : wrdP y t false = ((flagIx y : Int), 1, 0) ∧ idx fieldNames y = (flagIx y : Int) ∧ wrdP y t true = (0, 0, 1) ∧ isNum y = false := by
  rcases isFlg_iff5 h with rfl | rfl | rfl | rfl | rfl <;> exact ⟨rfl, rfl, rfl, rfl⟩
theorem wrdP_no {y t : List UInt8} {e : Bool} (h : isNum y = false) (h2 : isFlg y = false) : wrdP y t e = (0, 0, 1) := by
  obtain ⟨a1, a2, a3, a4⟩ := isNum_no h
  obtain ⟨b1, b2, b3, b4, b5⟩ := isFlg_no h2
  have : idx fieldNames y < 0 := by
    have : Nix fieldNames y 9 := fun i _ e => by
      have := List.mem_of_getElem? e
      simp only [fieldNames, List.mem_cons, List.not_mem_nil, or_false] at this
      rcases this with rfl | rfl | rfl | rfl | rfl | rfl | rfl | rfl | rfl <;> contradiction
    rw [this.miss (Nat.le_refl _)]; decide
  unfold wrdP; rw [if_pos (.inl this)]
theorem rulV_num {v : List Int} (hv : v.length = 9) {y : List UInt8} (h : isNum y = true) (n : Int) : rulV (setI v (numIx y : Int) n) = setNum (rulV v) y n := by
  match v, hv with
  | [a0, a1, a2, a3, a4, a5, a6, a7, a8], _ => rcases isNum_iff h with rfl | rfl | rfl | rfl <;> rfl
theorem rulV_flg {v : List Int} (hv : v.length = 9) {y : List UInt8} (h : isFlg y = true) : rulV (setI v (flagIx y : Int) 1) = setFlg (rulV v) y := by
  match v, hv with
  | [a0, a1, a2, a3, a4, a5, a6, a7, a8], _ => rcases isFlg_iff5 h with rfl | rfl | rfl | rfl | rfl <;> rfl
theorem blt_set {l : List Bool} {k j : Nat} (hk : k < l.length) : blt (l.set k true) j = (decide (j = k) || blt l j) := by
  unfold blt
  by_cases h : j = k
  · subst h; simp [List.getD, hk]
  · simp [List.getD, List.getElem?_set, h, show ¬ k = j from fun e => h e.symm]
theorem nth_setI {l : List Int} {k : Int} {n : Int} {j : Nat} (h : ¬ (j : Int) = k) (h0 : 0 ≤ k) : nth (setI l k n) j = nth l j := by
  unfold nth setI
  have : ¬ k.toNat = j := by omega
  simp [List.getD, List.getElem?_set, this]
theorem setI_same {l : List Int} {k : Int} (h : nth l k.toNat = 0) : setI l k 0 = l := by
  unfold setI
  apply List.ext_getElem?
  intro i
  rw [List.getElem?_set]
  split
  · rename_i e
    subst e
    split
    · rename_i hlt
      rw [nth_eq hlt] at h
      rw [List.getElem?_eq_getElem hlt, h]
    · rename_i hlt
      rw [List.getElem?_eq_none (by omega)]
  · rfl
theorem nth_setI_eq {l : List Int} {k : Int} {n : Int} (h : k.toNat < l.length) : nth (setI l k n) k.toNat = n := by
  unfold nth setI; simp [List.getD, h]
structure RelC (x : Rdr) (c : Chk) : Prop where
  r : x.rules = rulV c.v
  p : x.problems = c.out
  g : ∀ y, mhas x.given y = (decide (0 ≤ idx fieldNames y) && blt c.seen (idx fieldNames y).toNat)
  lv : c.v.length = 9
  ls : c.seen.length = 9
  a : blt c.seen 6 = true → mget x.given agaiT = some c.again
  z : ∀ k, blt c.seen k = false → nth c.v k = 0
  f6 : blt c.seen 6 = true → nth c.v 6 = 1
  f2 : blt c.seen 2 = true → nth c.v 2 = 1
theorem rep_b (n k : Nat) : (List.replicate n false).getD k false = false := by
  rw [List.getD_eq_getElem?_getD, List.getElem?_replicate]; split <;> rfl
theorem rep_i (n k : Nat) : (List.replicate n (0 : Int)).getD k 0 = 0 := by
  rw [List.getD_eq_getElem?_getD, List.getElem?_replicate]; split <;> rfl
theorem RelC.zero : RelC ⟨⟨0, 0, false, false, false, false, false, 0, 0⟩, [], []⟩ Chk.zero := by
  refine ⟨rfl, rfl, fun y => ?_, rfl, rfl, fun h => absurd h (by decide), fun k _ => rep_i 9 k, fun h => absurd h (by decide), fun h => absurd h (by decide)⟩
  have : blt Chk.zero.seen (idx fieldNames y).toNat = false := rep_b 9 _
  rw [this]; simp [mhas, mget]
theorem RelC.put {x : Rdr} {c : Chk} (h : RelC x c) {y : List UInt8} {k : Nat} (a : Int) (hi : idx fieldNames y = (k : Int)) (hk : k < 9) (y' : List UInt8) :
    mhas (mput x.given y a) y' = (decide (0 ≤ idx fieldNames y') && blt (c.seen.set k true) (idx fieldNames y').toNat) := by
  rw [mhas_put, h.g, blt_set (by have := h.ls; omega)]
  by_cases e : y = y'
  · subst e; rw [hi]; simp
  · by_cases h0 : 0 ≤ idx fieldNames y'
    · have : ¬ (idx fieldNames y').toNat = k := fun e2 => e (idx_inj (l := fieldNames) (by rw [hi]; omega) (by rw [hi, e2]; simp) h0)
      simp [e, h0, this]
    · simp [e, h0]
section
variable {c : Chk} {w : List UInt8} {a i n q : Int}
theorem chkS_u (e : wrd w = (i, n, q)) (h : q = 1) : chkS c w a = ⟨c.v, c.seen, c.again, c.out ++ [⟨1, a, w⟩]⟩ := by
  have hK : chkK c w = 1 := by unfold chkK; rw [if_neg (by rw [e]; simp [h]), e]; exact h
  unfold chkS; rw [hK, if_pos (.inl rfl)]
theorem chkS_t (e : wrd w = (i, n, q)) (h : q ≠ 1) (hb : blt c.seen i.toNat = true) : chkS c w a = ⟨c.v, c.seen, c.again, c.out ++ [⟨2, a, w⟩]⟩ := by
  have hK : chkK c w = 2 := by unfold chkK; rw [if_pos (by rw [e]; exact ⟨h, hb⟩)]
  unfold chkS; rw [hK, if_pos (.inr rfl)]
theorem chkS_n (e : wrd w = (i, n, q)) (h : q ≠ 1) (h2 : q ≠ 2) (hb : blt c.seen i.toNat = false) : chkS c w a = ⟨setI c.v i n, c.seen.set i.toNat true, if i = 6 then a else c.again, if q = 0 then c.out else c.out ++ [⟨q, a, w⟩]⟩ := by
  have hK : chkK c w = q := by unfold chkK; rw [if_neg (by rw [e]; simp [hb]), e]
  unfold chkS; rw [hK, if_neg (by rintro (h9 | h9); exact h h9; exact h2 h9), e]
end
theorem RelC.step {x : Rdr} {c : Chk} (h : RelC x c) (a : Int) (w : List UInt8) : RelC (rdW x a w) (chkS c w a) := by
  have hw := wrd_P w
  unfold rdW
  generalize (cutS w [61]).1 = y at hw ⊢
  generalize (cutS w [61]).2.1 = t at hw ⊢
  generalize (cutS w [61]).2.2 = e at hw ⊢
  have unk : wrd w = (0, 0, 1) → RelC ⟨x.rules, x.problems ++ [⟨1, a, w⟩], x.given⟩ (chkS c w a) := fun e1 => by
    rw [chkS_u e1 rfl]
    exact ⟨h.r, by show x.problems ++ _ = c.out ++ _; rw [h.p], h.g, h.lv, h.ls, h.a, h.z, h.f6, h.f2⟩
  have twi : ∀ {k : Nat} {n q : Int}, wrd w = ((k : Int), n, q) → q ≠ 1 → blt c.seen k = true → RelC ⟨x.rules, x.problems ++ [⟨2, a, w⟩], x.given⟩ (chkS c w a) := fun {k n q} e1 hq hb => by
    rw [chkS_t e1 hq (by simpa using hb)]
    exact ⟨h.r, by show x.problems ++ _ = c.out ++ _; rw [h.p], h.g, h.lv, h.ls, h.a, h.z, h.f6, h.f2⟩
  have has : ∀ {k : Nat}, idx fieldNames y = (k : Int) → mhas x.given y = blt c.seen k := fun {k} hi => by rw [h.g, hi]; simp
  unfold rdU
  cases hn : isNum y with
  | true =>
    obtain ⟨q1, q2, q3, q4⟩ := wrdP_num (t := t) hn
    cases e with
    | false => rw [if_pos (.inr ⟨rfl, q4⟩)]; exact unk (hw.trans q3)
    | true =>
      rw [if_neg (by simp)]
      have hw' := hw.trans q1
      obtain ⟨v1, v2⟩ := valP_ne y t
      have hk9 : numIx y < 9 ∧ numIx y ≠ 6 ∧ numIx y ≠ 2 := by
        rcases isNum_iff hn with rfl | rfl | rfl | rfl <;> decide
      rw [has q2]
      cases hb : blt c.seen (numIx y) with
      | true => rw [if_pos rfl]; exact twi hw' v1 hb
      | false =>
        rw [if_neg (by decide), if_pos rfl]
        rw [chkS_n hw' v1 v2 (by rw [Int.toNat_natCast]; exact hb), Int.toNat_natCast]
        refine ⟨?_, ?_, h.put a q2 hk9.1, by rw [setI_length]; exact h.lv, by rw [List.length_set]; exact h.ls, fun hs => ?_, fun k hs => ?_, fun hs => ?_, fun hs => ?_⟩
        · dsimp only
          unfold valR
          by_cases h0 : (valP y t).2 = 0
          · rw [if_pos h0, rulV_num h.lv hn, h.r]
          · rw [if_neg h0, valP_z h0, setI_same (by rw [Int.toNat_natCast]; exact h.z _ hb), h.r]
        · dsimp only; rw [h.p]
        · have hs' : blt c.seen 6 = true := by
            have := hs
            dsimp only at this
            rw [blt_set (by have := h.ls; omega)] at this
            simpa [hk9.2.1.symm] using this
          dsimp only
          rw [if_neg (by have := hk9.2.1; omega), mget_put, if_neg (by intro e2; subst e2; exact absurd hn (by decide))]
          exact h.a hs'
        · dsimp only at hs ⊢
          rw [blt_set (by have := h.ls; omega)] at hs
          simp only [Bool.or_eq_false_iff, decide_eq_false_iff_not] at hs
          rw [nth_setI (by have := hs.1; omega) (by omega)]
          exact h.z k hs.2
        · dsimp only at hs ⊢
          rw [blt_set (by have := h.ls; omega)] at hs
          have hs' : blt c.seen 6 = true := by simpa [hk9.2.1.symm] using hs
          rw [nth_setI (by have := hk9.2.1; omega) (by omega)]
          exact h.f6 hs'
        · dsimp only at hs ⊢
          rw [blt_set (by have := h.ls; omega)] at hs
          have hs' : blt c.seen 2 = true := by simpa [hk9.2.2.symm] using hs
          rw [nth_setI (by have := hk9.2.2; omega) (by omega)]
          exact h.f2 hs'
  | false =>
    cases hf : isFlg y with
    | false => rw [if_pos (by cases e; exact .inr ⟨rfl, rfl⟩; exact .inl ⟨rfl, rfl⟩)]; exact unk (hw.trans (wrdP_no hn hf))
    | true =>
      obtain ⟨q1, q2, q3, q4⟩ := wrdP_flg (t := t) hf
      cases e with
      | true => rw [if_pos (.inl ⟨rfl, rfl⟩)]; exact unk (hw.trans q3)
      | false =>
        rw [if_neg (by simp)]
        have hw' := hw.trans q1
        have hk9 : flagIx y < 9 ∧ (flagIx y = 6 → y = agaiT) ∧ (flagIx y ≠ 6 → y ≠ agaiT) := by
          rcases isFlg_iff5 hf with rfl | rfl | rfl | rfl | rfl <;> decide
        rw [has q2]
        cases hb : blt c.seen (flagIx y) with
        | true => rw [if_pos rfl]; exact twi hw' (by decide) hb
        | false =>
          rw [if_neg (by decide), if_neg (by decide)]
          rw [chkS_n hw' (by decide) (by decide) (by rw [Int.toNat_natCast]; exact hb), Int.toNat_natCast, if_pos rfl]
          refine ⟨?_, h.p, h.put a q2 hk9.1, by rw [setI_length]; exact h.lv, by rw [List.length_set]; exact h.ls, fun hs => ?_, fun k hs => ?_, fun hs => ?_, fun hs => ?_⟩
          · dsimp only; rw [rulV_flg h.lv hf, h.r]
          · dsimp only at hs ⊢
            rw [blt_set (by have := h.ls; omega)] at hs
            by_cases h6 : flagIx y = 6
            · rw [if_pos (by omega), mget_put, if_pos (hk9.2.1 h6)]
            · rw [if_neg (by omega), mget_put, if_neg (hk9.2.2 h6)]
              exact h.a (by simpa [show ¬ 6 = flagIx y from fun e2 => h6 e2.symm] using hs)
          · dsimp only at hs ⊢
            rw [blt_set (by have := h.ls; omega)] at hs
            simp only [Bool.or_eq_false_iff, decide_eq_false_iff_not] at hs
            rw [nth_setI (by have := hs.1; omega) (by omega)]
            exact h.z k hs.2
          · dsimp only at hs ⊢
            rw [blt_set (by have := h.ls; omega)] at hs
            by_cases h6 : 6 = flagIx y
            · have := nth_setI_eq (l := c.v) (k := (flagIx y : Int)) (n := 1) (by have := h.lv; omega)
              rw [Int.toNat_natCast, ← h6] at this; rw [← h6]; exact this
            · rw [nth_setI (by omega) (by omega)]
              exact h.f6 (by simpa [h6] using hs)
          · dsimp only at hs ⊢
            rw [blt_set (by have := h.ls; omega)] at hs
            by_cases h6 : 2 = flagIx y
            · have := nth_setI_eq (l := c.v) (k := (flagIx y : Int)) (n := 1) (by have := h.lv; omega)
              rw [Int.toNat_natCast, ← h6] at this; rw [← h6]; exact this
            · rw [nth_setI (by omega) (by omega)]
              exact h.f2 (by simpa [h6] using hs)
structure PtI (s : List UInt8) (j : Nat) (a : Int) (k : Nat) : Prop where
  w : (wds s).drop k = ((split 32 s).drop j).filter (fun w => decide (w ≠ []))
  p : (pls s).drop k = plsW a ((split 32 s).drop j)
  a0 : 0 ≤ a ∧ a ≤ (s.length : Int) + 1
  l : (split 32 s).drop j ≠ [] → a + ((joinW 32 ((split 32 s).drop j)).length : Int) = (s.length : Int)
theorem PtI.zero (s : List UInt8) : PtI s 0 0 0 := ⟨rfl, rfl, by omega, fun _ => by rw [List.drop_zero, joinW_split]; omega⟩
theorem PtI.next {s y : List UInt8} {j : Nat} {a : Int} {k : Nat} (h : PtI s j a k) (hy : (split 32 s)[j]? = some y) : (0 ≤ a + (y.length : Int) + 1 ∧ a + (y.length : Int) + 1 ≤ (s.length : Int) + 1) ∧ ((split 32 s).drop (j + 1) ≠ [] → a + (y.length : Int) + 1 + ((joinW 32 ((split 32 s).drop (j + 1))).length : Int) = (s.length : Int)) := by
  obtain ⟨hj, hy'⟩ := List.getElem?_eq_some_iff.1 hy
  have e : (split 32 s).drop j = y :: (split 32 s).drop (j + 1) := by rw [List.drop_eq_getElem_cons hj, hy']
  have hl := h.l (by rw [e]; simp)
  have h0 := h.a0
  rw [e] at hl
  cases hr : (split 32 s).drop (j + 1) with
  | nil =>
    rw [hr] at hl
    have : joinW 32 [y] = y := rfl
    rw [this] at hl
    exact ⟨by omega, fun h => absurd rfl h⟩
  | cons v ws =>
    rw [hr] at hl
    rw [joinW_cons 32 y (by simp), List.length_append, List.length_cons] at hl
    refine ⟨by omega, fun _ => by omega⟩
theorem PtI.word {s y : List UInt8} {j : Nat} {a : Int} {k : Nat} (h : PtI s j a k) (hy : (split 32 s)[j]? = some y) (hne : y ≠ []) : PtI s (j + 1) (a + (y.length : Int) + 1) (k + 1) ∧ (wds s)[k]? = some y ∧ nth (pls s) k = a := by
  obtain ⟨h1, h2⟩ := h.next hy
  obtain ⟨hj, hy'⟩ := List.getElem?_eq_some_iff.1 hy
  have e : (split 32 s).drop j = y :: (split 32 s).drop (j + 1) := by rw [List.drop_eq_getElem_cons hj, hy']
  have hw : (wds s).drop k = y :: ((split 32 s).drop (j + 1)).filter (fun w => decide (w ≠ [])) := by rw [h.w, e, List.filter_cons_of_pos (by simpa using hne)]
  have hp : (pls s).drop k = a :: plsW (a + (y.length : Int) + 1) ((split 32 s).drop (j + 1)) := by rw [h.p, e, plsW, if_neg hne]
  have hd : ∀ {α : Type} {l : List α} {x : α} {r : List α} {k : Nat}, l.drop k = x :: r → l[k]? = some x ∧ l.drop (k + 1) = r := fun {α l x r k} he => by
    constructor
    · have := congrArg (·[0]?) he; simpa using this
    · rw [← List.drop_drop, he]; rfl
  refine ⟨⟨(hd hw).2, (hd hp).2, h1, h2⟩, (hd hw).1, ?_⟩
  have := (hd hp).1
  unfold nth; simp [List.getD, this]
theorem PtI.done {s : List UInt8} {j : Nat} {a : Int} {k : Nat} (h : PtI s j a k) (hj : (split 32 s).length ≤ j) (hk : k ≤ (wds s).length) : k = (wds s).length := by
  have := h.w
  rw [List.drop_eq_nil_of_le hj] at this
  have h2 : (wds s).drop k = [] := this
  rw [List.drop_eq_nil_iff] at h2
  omega
end Go.Proofs.Ytjgohnaobbphpaa.M
namespace Go.Proofs.Ytjgohnaobbphpaa
open Go.RowKit
open Go.MapKept (IsKey sameNow_of_keys heap_set)
class KeyV (α : Type) [DecidableEq α] where
  kv : α → Value
  kd : TypeDesc
  is : ∀ a, IsKey kd (kv a)
  inj : ∀ a b, kv a = kv b → a = b
instance keyS : KeyV (List UInt8) := ⟨fun k => .string (sB k), .string, fun _ => trivial, fun a b h => by
  have h1 : sB a = sB b := by injection h
  have h2 := congrArg (fun x : ByteArray => x.data.toList) h1
  simpa [sB] using h2⟩
instance keyI : KeyV Int := ⟨fun k => .int .i64 k, .int .i64, fun _ => rfl, fun a b h => by injection h⟩
def zvOf (P : Program) (t : TypeId) : Option Value := match P.info? t with
  | some i => i.zero
  | none => none
structure MapF (P : Program) (t kt et : TypeId) (d : TypeDesc) : Prop where
  a : P.underlying t = some (.map kt et)
  b : P.underlying kt = some d
  z : zvOf P et = some (.int .i64 0)
def ents {α : Type} [DecidableEq α] [KeyV α] (g : List (α × Int)) : List (Value × Value) := g.map fun p => (KeyV.kv p.1, .int .i64 p.2)
def mapO {α : Type} [DecidableEq α] [KeyV α] (b : Nat) (g : List (α × Int)) : Own :=
  ⟨[b], fun w => ∃ es clock, w.heap[b]? = some (.map es clock) ∧ es.toList.map (fun e => (e.key, e.val)) = ents g, fun h k => by rw [h b (by simp)]; exact k⟩
@[reducible] def mapI (b : Nat) (g : List (Int × Int)) : Own := mapO b g
section
variable {α : Type} [DecidableEq α] [KeyV α]
theorem find_map (k : α) : ∀ (es : List MapEntry) (g : List (α × Int)) (i : Nat), es.map (fun e => (e.key, e.val)) = ents g →
    M.mget g k = none ∧ Instr.findNow (KeyV.kd α) (KeyV.kv k) es i = some none ∨ ∃ v j, M.mget g k = some v ∧ Instr.findNow (KeyV.kd α) (KeyV.kv k) es i = some (some (j, .int .i64 v))
  | [], [], _, _ => .inl ⟨rfl, rfl⟩
  | [], p :: g, _, h => by simp [ents] at h
  | e :: es, [], _, h => by simp [ents] at h
  | e :: es, p :: g, i, h => by
    simp only [ents, List.map_cons, List.cons.injEq, Prod.mk.injEq] at h
    obtain ⟨⟨h1, h2⟩, h3⟩ := h
    obtain ⟨r, hr, hiff⟩ := sameNow_of_keys (KeyV.is k) (by rw [h1]; exact KeyV.is p.1 : IsKey (KeyV.kd α) e.key)
    cases r with
    | true =>
      have e1 : p.1 = k := (KeyV.inj _ _ ((hiff.1 rfl).trans h1)).symm
      exact .inr ⟨p.2, i, by rw [M.mget, if_pos e1], by simp [Instr.findNow, hr, h2]⟩
    | false =>
      have e1 : ¬ p.1 = k := fun q => by have := hiff.2 (by rw [h1, q]); cases this
      rw [M.mget, if_neg e1]
      have e2 : Instr.findNow (KeyV.kd α) (KeyV.kv k) (e :: es) i = Instr.findNow (KeyV.kd α) (KeyV.kv k) es (i + 1) := by simp [Instr.findNow, hr]
      rw [e2]
      exact find_map k es g (i + 1) h3
omit [KeyV α] in
theorem mput_new {k : α} {v : Int} : ∀ {g : List (α × Int)}, M.mget g k = none → M.mput g k v = g ++ [(k, v)]
  | [], _ => rfl
  | p :: r, h => by
    rw [M.mget] at h
    by_cases e : p.1 = k
    · rw [if_pos e] at h; cases h
    · rw [if_neg e] at h
      rw [M.mput, if_neg e, mput_new h]; rfl
variable {P : Program} {n lo : Nat} {B : List Nat} {l : Fr} {os : List Own} {u : World} {dst : Option Tmp} {ty : TypeId} {pos : String} {af : Array Edge} {gd : Option (Nat × Bool)}
theorem run_zeroV {t : TypeId} {z : Value} (w : World) (h : zvOf P t = some z) : (zeroValue t).run P w = .ok z w := by
  unfold zvOf at h
  split at h
  · rename_i i hi
    simp [zeroValue, typeInfo, hi, h]
  · cases h
theorem run_look {t kt et : TypeId} {w : World} {b : Nat} {g : List (α × Int)} {k : α} (ht : MapF P t kt et (KeyV.kd α)) (h : (mapO b g).pr w) (ok : Bool) :
    (Instr.lookup t (.map (some b)) (KeyV.kv k) ok).run P w = .ok (if ok then .tuple #[.int .i64 (M.mval g k), .bool (M.mhas g k)] else .int .i64 (M.mval g k)) w := by
  obtain ⟨es, clock, hb, he⟩ := h
  have hc := Go.MapKept.run_checkKey (P := P) (w := w) ht.b (KeyV.is k) es.isEmpty 9999
  rcases find_map k es.toList g 0 he with ⟨h1, h2⟩ | ⟨v, j, h1, h2⟩
  · have hf := Go.MapKept.run_findKey (P := P) (w := w) ht.b h2
    unfold M.mval M.mhas
    rw [h1]
    simp [Instr.lookup, run_underlying ht.a, Go.MapKept.run_getObj_map hb, hc, hf, run_zeroV w ht.z, Result.andThen]
  · have hf := Go.MapKept.run_findKey (P := P) (w := w) ht.b h2
    unfold M.mval M.mhas
    rw [h1]
    simp [Instr.lookup, run_underlying ht.a, Go.MapKept.run_getObj_map hb, hc, hf, Result.andThen]
theorem q_look_ {x y : Operand} {t kt et : TypeId} {i b : Nat} {g : List (α × Int)} {k : α} {ok : Bool} (ht : MapF P t kt et (KeyV.kd α)) (hx : opd l x = some (.map (some b))) (hy : opd l y = some (KeyV.kv k)) (hi : os[i]? = some (mapO b g)) :
    OpQ P n lo B l os u ⟨dst, .lookup t x y ok, ty, pos, af, gd⟩ (if ok then .tuple #[.int .i64 (M.mval g k), .bool (M.mhas g k)] else .int .i64 (M.mval g k)) := fun a w ha hw => by
  have := run_look (k := k) ht (hw.prs _ (List.mem_of_getElem? hi)) ok
  simp [execOp, ha.eval hx, ha.eval hy, this]
theorem e_mapNew_ {t : TypeId} : OpE P n lo B l os u ⟨dst, .makeMap t none, ty, pos, af, gd⟩ true (fun v os' u' => ∃ b, v = .map (some b) ∧ os' = (mapO b ([] : List (α × Int))) :: os ∧ u = u') := fun a w ha hw K Q hk => by
  have hr : (execOp a.eval ⟨dst, .makeMap t none, ty, pos, af, gd⟩).run P w = .ok (.value (.map (some w.heap.size))) (w.alloc (.map #[] 0)) := by
    simp [execOp, Instr.makeMap]
  unfold Oper.wp
  rw [hr]
  refine hk _ _ u _ ⟨w.heap.size, rfl, rfl, rfl⟩ (Up.refl lo u) ?_ (fun _ => (Ext.refl w).alloc _)
  refine hw.new ((Ext.refl w).alloc _) (o := mapO w.heap.size ([] : List (α × Int))) (fun k hk => ?_) (by simp [mapO]) ⟨#[], 0, heap_alloc_new w _, rfl⟩
  simp only [mapO, List.mem_singleton] at hk
  subst hk
  simp
theorem e_mapUpd_ {x y z : Operand} {t kt et : TypeId} {i b : Nat} {g : List (α × Int)} {k : α} {v : Int} (ht : MapF P t kt et (KeyV.kd α)) (hx : opd l x = some (.map (some b))) (hy : opd l y = some (KeyV.kv k)) (hz : opd l z = some (.int .i64 v)) (hi : os[i]? = some (mapO b g)) (hn : M.mget g k = none) :
    OpE P n lo B l os u ⟨dst, .mapUpdate t x y z, ty, pos, af, gd⟩ false (fun _ os' u' => os' = os.set i (mapO b (M.mput g k v)) ∧ u = u') := fun a w ha hw K Q hk => by
  obtain ⟨es, clock, hb, he⟩ := hw.prs _ (List.mem_of_getElem? hi)
  have hc := Go.MapKept.run_checkKey (P := P) (w := w) ht.b (KeyV.is k) false 9999
  have hf : (Instr.findKey kt (KeyV.kv k) es.toList).run P w = .ok none w := by
    rcases find_map k es.toList g 0 he with ⟨h1, h2⟩ | ⟨v, j, h1, h2⟩
    · exact Go.MapKept.run_findKey ht.b h2
    · rw [hn] at h1; cases h1
  have hr : (execOp a.eval ⟨dst, .mapUpdate t x y z, ty, pos, af, gd⟩).run P w = .ok .skip { w with heap := w.heap.setIfInBounds b (.map (es.push { key := KeyV.kv k, val := .int .i64 v, born := clock }) (clock + 1)) } := by
    simp [execOp, ha.eval hx, ha.eval hy, ha.eval hz, Instr.mapUpdate, run_underlying ht.a, Go.MapKept.run_getObj_map hb, hc, hf, Go.MapKept.run_setObj_map _ hb, Result.andThen]
  unfold Oper.wp
  rw [hr]
  refine hk _ _ u _ ⟨rfl, rfl⟩ (Up.refl lo u) (hw.upd hi rfl rfl rfl (by simp) (fun k' _ hk' => (heap_set hb).2 k' (by simpa [mapO] using hk')) (fun k' hk' => .inl (by simpa [mapO] using hk')) (by simp [mapO]) ?_ (fun k' hk' _ => by simpa [mapO] using hk')) (fun h => by cases h)
  refine ⟨_, _, (heap_set hb).1, ?_⟩
  rw [mput_new hn, Array.toList_push, List.map_append, he]
  simp [ents]
end
section
variable {P : Program} {n lo : Nat} {B : List Nat} {l : Fr} {os : List Own} {u : World} {dst : Option Tmp} {ty : TypeId} {pos : String} {af : Array Edge} {gd : Option (Nat × Bool)}
theorem q_lookI {x y : Operand} {t kt et : TypeId} {i b : Nat} {g : List (Int × Int)} {k : Int} (ht : MapF P t kt et (.int .i64)) (hx : opd l x = some (.map (some b))) (hy : opd l y = some (.int .i64 k)) (hi : os[i]? = some (mapI b g)) :
    OpQ P n lo B l os u ⟨dst, .lookup t x y true, ty, pos, af, gd⟩ (.tuple #[.int .i64 (M.mval g k), .bool (M.mhas g k)]) := q_look_ (k := k) (ok := true) ht hx hy hi
theorem e_mapNewI {t : TypeId} : OpE P n lo B l os u ⟨dst, .makeMap t none, ty, pos, af, gd⟩ true (fun v os' u' => ∃ b, v = .map (some b) ∧ os' = mapI b [] :: os ∧ u = u') := e_mapNew_
theorem e_mapUpdI {x y z : Operand} {t kt et : TypeId} {i b : Nat} {g : List (Int × Int)} {k v : Int} (ht : MapF P t kt et (.int .i64)) (hx : opd l x = some (.map (some b))) (hy : opd l y = some (.int .i64 k)) (hz : opd l z = some (.int .i64 v)) (hi : os[i]? = some (mapI b g)) (hn : M.mhas g k = false) :
    OpE P n lo B l os u ⟨dst, .mapUpdate t x y z, ty, pos, af, gd⟩ false (fun _ os' u' => os' = os.set i (mapI b (M.mput g k v)) ∧ u = u') := e_mapUpd_ (k := k) ht hx hy hz hi (by unfold M.mhas at hn; simpa using hn)
end
theorem cellsOk_cons {w : World} {T : Ty} {Ts : List Ty} : ∀ {vs : List Value}, cellsOk w (T :: Ts) vs → ∃ x r, vs = x :: r ∧ T.ok w x ∧ cellsOk w Ts r
  | x :: r, h => ⟨x, r, rfl, h.1, h.2⟩
theorem cellsOk_nil {w : World} : ∀ {vs : List Value}, cellsOk w [] vs → vs = []
  | [], _ => rfl
theorem cellsOwn_cons {w : World} {T : Ty} {Ts : List Ty} {fp : List Nat} : ∀ {vs : List Value}, cellsOwn w (T :: Ts) vs fp → ∃ x r f1 f2, vs = x :: r ∧ fp = f1 ++ f2 ∧ T.own w x f1 ∧ cellsOwn w Ts r f2
  | x :: r, ⟨f1, f2, e, a, b⟩ => ⟨x, r, f1, f2, rfl, e, a, b⟩
theorem cellsOwn_nil {w : World} {fp : List Nat} : ∀ {vs : List Value}, cellsOwn w [] vs fp → vs = [] ∧ fp = []
  | [], h => ⟨rfl, h⟩
theorem drop_flat {α β : Type} (f : α → List β) (k : Nat) (hf : ∀ a, (f a).length = k) : ∀ (l : List α) (i : Nat) (a : α), l[i]? = some a → ((l.flatMap f).drop (i * k)).take k = f a
  | x :: l, 0, a, h => by
    simp at h; subst h
    simp [List.flatMap_cons, hf, List.take_append]
  | x :: l, i + 1, a, h => by
    simp at h
    rw [List.flatMap_cons, Nat.succ_mul, Nat.add_comm, ← List.drop_drop, List.drop_left' (hf x)]
    exact drop_flat f k hf l i a h
  | [], _, _, h => by simp at h
theorem flat_len {α β : Type} (f : α → List β) (k : Nat) (hf : ∀ a, (f a).length = k) : ∀ (l : List α), (l.flatMap f).length = l.length * k
  | [] => by simp
  | x :: l => by rw [List.flatMap_cons, List.length_append, hf, flat_len f k hf l, List.length_cons, Nat.succ_mul, Nat.add_comm]
instance ty_2 : TyI Try.prog 2 false 1 := ⟨by kernel_rfl⟩
instance ty_3 : TyI Try.prog 3 false 1 := ⟨by kernel_rfl⟩
instance ty_4 : TyI Try.prog 4 false 1 := ⟨by kernel_rfl⟩
instance ty_5 : TyI Try.prog 5 false 1 := ⟨by kernel_rfl⟩
instance ty_9 : TyI Try.prog 9 false 1 := ⟨by kernel_rfl⟩
instance ty_22 : TyI Try.prog 22 false 1 := ⟨by kernel_rfl⟩
instance ty_25 : TyI Try.prog 25 true 9 := ⟨by kernel_rfl⟩
instance ty_26 : TyI Try.prog 26 false 1 := ⟨by kernel_rfl⟩
instance ty_28 : TyI Try.prog 28 true 3 := ⟨by kernel_rfl⟩
instance ty_31 : TyI Try.prog 31 false 1 := ⟨by kernel_rfl⟩
instance ty_46 : TyI Try.prog 46 true 3 := ⟨by kernel_rfl⟩
instance ty_58 : TyI Try.prog 58 true 4 := ⟨by kernel_rfl⟩
instance ty_60 : TyI Try.prog 60 true 15 := ⟨by kernel_rfl⟩
instance ty_64 : TyI Try.prog 64 true 6 := ⟨by kernel_rfl⟩
instance ty_85 : TyI Try.prog 85 true 10 := ⟨by kernel_rfl⟩
instance ty_103 : TyI Try.prog 103 false 1 := ⟨by kernel_rfl⟩
instance ty_105 : TyI Try.prog 105 true 3 := ⟨by kernel_rfl⟩
instance fld_25_0 : FldI Try.prog 25 0 0 2 false 1 := ⟨by kernel_rfl⟩
instance fld_25_1 : FldI Try.prog 25 1 1 2 false 1 := ⟨by kernel_rfl⟩
instance fld_25_2 : FldI Try.prog 25 2 2 4 false 1 := ⟨by kernel_rfl⟩
instance fld_25_3 : FldI Try.prog 25 3 3 4 false 1 := ⟨by kernel_rfl⟩
instance fld_25_4 : FldI Try.prog 25 4 4 4 false 1 := ⟨by kernel_rfl⟩
instance fld_25_5 : FldI Try.prog 25 5 5 4 false 1 := ⟨by kernel_rfl⟩
instance fld_25_6 : FldI Try.prog 25 6 6 4 false 1 := ⟨by kernel_rfl⟩
instance fld_25_7 : FldI Try.prog 25 7 7 2 false 1 := ⟨by kernel_rfl⟩
instance fld_25_8 : FldI Try.prog 25 8 8 2 false 1 := ⟨by kernel_rfl⟩
instance fld_28_0 : FldI Try.prog 28 0 0 26 false 1 := ⟨by kernel_rfl⟩
instance fld_28_1 : FldI Try.prog 28 1 1 26 false 1 := ⟨by kernel_rfl⟩
instance fld_28_2 : FldI Try.prog 28 2 2 2 false 1 := ⟨by kernel_rfl⟩
instance fld_46_0 : FldI Try.prog 46 0 0 2 false 1 := ⟨by kernel_rfl⟩
instance fld_46_1 : FldI Try.prog 46 1 1 2 false 1 := ⟨by kernel_rfl⟩
instance fld_46_2 : FldI Try.prog 46 2 2 2 false 1 := ⟨by kernel_rfl⟩
instance fld_58_0 : FldI Try.prog 58 0 0 26 false 1 := ⟨by kernel_rfl⟩
instance fld_58_1 : FldI Try.prog 58 1 1 26 false 1 := ⟨by kernel_rfl⟩
instance fld_58_2 : FldI Try.prog 58 2 2 2 false 1 := ⟨by kernel_rfl⟩
instance fld_58_3 : FldI Try.prog 58 3 3 2 false 1 := ⟨by kernel_rfl⟩
instance fld_60_0 : FldI Try.prog 60 0 0 25 true 9 := ⟨by kernel_rfl⟩
instance fld_60_1 : FldI Try.prog 60 1 9 2 false 1 := ⟨by kernel_rfl⟩
instance fld_60_2 : FldI Try.prog 60 2 10 58 true 4 := ⟨by kernel_rfl⟩
instance fld_60_3 : FldI Try.prog 60 3 14 26 false 1 := ⟨by kernel_rfl⟩
instance fld_64_0 : FldI Try.prog 64 0 0 2 false 1 := ⟨by kernel_rfl⟩
instance fld_64_1 : FldI Try.prog 64 1 1 2 false 1 := ⟨by kernel_rfl⟩
instance fld_64_2 : FldI Try.prog 64 2 2 4 false 1 := ⟨by kernel_rfl⟩
instance fld_64_3 : FldI Try.prog 64 3 3 28 true 3 := ⟨by kernel_rfl⟩
instance fld_85_1 : FldI Try.prog 85 1 9 31 false 1 := ⟨by kernel_rfl⟩
instance fld_105_0 : FldI Try.prog 105 0 0 22 false 1 := ⟨by kernel_rfl⟩
instance fld_105_1 : FldI Try.prog 105 1 1 3 false 1 := ⟨by kernel_rfl⟩
instance fld_105_2 : FldI Try.prog 105 2 2 103 false 1 := ⟨by kernel_rfl⟩
instance eI_22 : ElI Try.prog 22 5 1 1 [.int .u8 0] := ⟨by kernel_rfl⟩
theorem el_22 : elOf Try.prog 22 = some (5, 1, 1, [.int .u8 0]) := ElI.h
instance eI_26 : ElI Try.prog 26 2 1 8 [.int .i64 0] := ⟨by kernel_rfl⟩
theorem el_26 : elOf Try.prog 26 = some (2, 1, 8, [.int .i64 0]) := ElI.h
instance eI_31 : ElI Try.prog 31 46 3 24 [.int .i64 0, .int .i64 0, .int .i64 0] := ⟨by kernel_rfl⟩
theorem el_31 : elOf Try.prog 31 = some (46, 3, 24, [.int .i64 0, .int .i64 0, .int .i64 0]) := ElI.h
instance eI_98 : ElI Try.prog 98 64 6 80 [.int .i64 0, .int .i64 0, .bool false, .slice none 0 0, .slice none 0 0, .int .i64 0] := ⟨by kernel_rfl⟩
theorem el_98 : elOf Try.prog 98 = some (64, 6, 80, [.int .i64 0, .int .i64 0, .bool false, .slice none 0 0, .slice none 0 0, .int .i64 0]) := ElI.h
instance eI_135 : ElI Try.prog 135 9 1 16 [.string ByteArray.empty] := ⟨by kernel_rfl⟩
theorem el_135 : elOf Try.prog 135 = some (9, 1, 16, [.string ByteArray.empty]) := ElI.h
instance zero_2 : ZeroI Try.prog 2 [.int .i64 0] := ⟨by kernel_rfl⟩
instance zero_25 : ZeroI Try.prog 25 [.int .i64 0, .int .i64 0, .bool false, .bool false, .bool false, .bool false, .bool false, .int .i64 0, .int .i64 0] := ⟨by kernel_rfl⟩
instance zero_28 : ZeroI Try.prog 28 [.slice none 0 0, .slice none 0 0, .int .i64 0] := ⟨by kernel_rfl⟩
instance zero_46 : ZeroI Try.prog 46 [.int .i64 0, .int .i64 0, .int .i64 0] := ⟨by kernel_rfl⟩
instance zero_58 : ZeroI Try.prog 58 [.slice none 0 0, .slice none 0 0, .int .i64 0, .int .i64 0] := ⟨by kernel_rfl⟩
instance zero_60 : ZeroI Try.prog 60 [.int .i64 0, .int .i64 0, .bool false, .bool false, .bool false, .bool false, .bool false, .int .i64 0, .int .i64 0, .int .i64 0, .slice none 0 0, .slice none 0 0, .int .i64 0, .int .i64 0, .slice none 0 0] := ⟨by kernel_rfl⟩
instance zero_64 : ZeroI Try.prog 64 [.int .i64 0, .int .i64 0, .bool false, .slice none 0 0, .slice none 0 0, .int .i64 0] := ⟨by kernel_rfl⟩
instance zero_85 : ZeroI Try.prog 85 [.int .i64 0, .int .i64 0, .bool false, .bool false, .bool false, .bool false, .bool false, .int .i64 0, .int .i64 0, .slice none 0 0] := ⟨by kernel_rfl⟩
instance zero_105 : ZeroI Try.prog 105 [.slice none 0 0, .int .i64 0, .int .u64 0] := ⟨by kernel_rfl⟩
instance flds_25 : FldsI Try.prog 25 [(0, 1), (1, 1), (2, 1), (3, 1), (4, 1), (5, 1), (6, 1), (7, 1), (8, 1)] := ⟨by kernel_rfl⟩
instance flds_28 : FldsI Try.prog 28 [(0, 1), (1, 1), (2, 1)] := ⟨by kernel_rfl⟩
instance flds_46 : FldsI Try.prog 46 [(0, 1), (1, 1), (2, 1)] := ⟨by kernel_rfl⟩
instance flds_58 : FldsI Try.prog 58 [(0, 1), (1, 1), (2, 1), (3, 1)] := ⟨by kernel_rfl⟩
instance flds_60 : FldsI Try.prog 60 [(0, 9), (9, 1), (10, 4), (14, 1)] := ⟨by kernel_rfl⟩
instance flds_64 : FldsI Try.prog 64 [(0, 1), (1, 1), (2, 1), (3, 3)] := ⟨by kernel_rfl⟩
instance flds_85 : FldsI Try.prog 85 [(0, 9), (9, 1)] := ⟨by kernel_rfl⟩
instance flds_105 : FldsI Try.prog 105 [(0, 1), (1, 1), (2, 1)] := ⟨by kernel_rfl⟩
instance fn_4 : FnI Try.prog 4 := ⟨by kernel_rfl⟩
instance fn_5 : FnI Try.prog 5 := ⟨by kernel_rfl⟩
instance fn_6 : FnI Try.prog 6 := ⟨by kernel_rfl⟩
instance fn_7 : FnI Try.prog 7 := ⟨by kernel_rfl⟩
instance fn_8 : FnI Try.prog 8 := ⟨by kernel_rfl⟩
instance fn_9 : FnI Try.prog 9 := ⟨by kernel_rfl⟩
instance fn_10 : FnI Try.prog 10 := ⟨by kernel_rfl⟩
instance fn_11 : FnI Try.prog 11 := ⟨by kernel_rfl⟩
instance fn_12 : FnI Try.prog 12 := ⟨by kernel_rfl⟩
instance fn_13 : FnI Try.prog 13 := ⟨by kernel_rfl⟩
instance fn_14 : FnI Try.prog 14 := ⟨by kernel_rfl⟩
instance fn_15 : FnI Try.prog 15 := ⟨by kernel_rfl⟩
instance fn_16 : FnI Try.prog 16 := ⟨by kernel_rfl⟩
instance fn_17 : FnI Try.prog 17 := ⟨by kernel_rfl⟩
instance fn_18 : FnI Try.prog 18 := ⟨by kernel_rfl⟩
instance fn_19 : FnI Try.prog 19 := ⟨by kernel_rfl⟩
instance fn_20 : FnI Try.prog 20 := ⟨by kernel_rfl⟩
instance fn_21 : FnI Try.prog 21 := ⟨by kernel_rfl⟩
instance fn_22 : FnI Try.prog 22 := ⟨by kernel_rfl⟩
instance fn_23 : FnI Try.prog 23 := ⟨by kernel_rfl⟩
instance fn_24 : FnI Try.prog 24 := ⟨by kernel_rfl⟩
instance fn_25 : FnI Try.prog 25 := ⟨by kernel_rfl⟩
instance fn_26 : FnI Try.prog 26 := ⟨by kernel_rfl⟩
instance fn_27 : FnI Try.prog 27 := ⟨by kernel_rfl⟩
instance fn_28 : FnI Try.prog 28 := ⟨by kernel_rfl⟩
instance fn_29 : FnI Try.prog 29 := ⟨by kernel_rfl⟩
instance fn_30 : FnI Try.prog 30 := ⟨by kernel_rfl⟩
instance fn_31 : FnI Try.prog 31 := ⟨by kernel_rfl⟩
instance fn_32 : FnI Try.prog 32 := ⟨by kernel_rfl⟩
instance fn_33 : FnI Try.prog 33 := ⟨by kernel_rfl⟩
instance fn_34 : FnI Try.prog 34 := ⟨by kernel_rfl⟩
instance fn_35 : FnI Try.prog 35 := ⟨by kernel_rfl⟩
instance fn_36 : FnI Try.prog 36 := ⟨by kernel_rfl⟩
instance fn_37 : FnI Try.prog 37 := ⟨by kernel_rfl⟩
instance fn_38 : FnI Try.prog 38 := ⟨by kernel_rfl⟩
instance fn_39 : FnI Try.prog 39 := ⟨by kernel_rfl⟩
instance fn_40 : FnI Try.prog 40 := ⟨by kernel_rfl⟩
instance fn_41 : FnI Try.prog 41 := ⟨by kernel_rfl⟩
instance fn_42 : FnI Try.prog 42 := ⟨by kernel_rfl⟩
instance fn_43 : FnI Try.prog 43 := ⟨by kernel_rfl⟩
instance fn_44 : FnI Try.prog 44 := ⟨by kernel_rfl⟩
instance fn_45 : FnI Try.prog 45 := ⟨by kernel_rfl⟩
instance fn_46 : FnI Try.prog 46 := ⟨by kernel_rfl⟩
instance fn_47 : FnI Try.prog 47 := ⟨by kernel_rfl⟩
instance fn_48 : FnI Try.prog 48 := ⟨by kernel_rfl⟩
instance fn_49 : FnI Try.prog 49 := ⟨by kernel_rfl⟩
instance fn_50 : FnI Try.prog 50 := ⟨by kernel_rfl⟩
instance fn_51 : FnI Try.prog 51 := ⟨by kernel_rfl⟩
instance fn_52 : FnI Try.prog 52 := ⟨by kernel_rfl⟩
instance fn_53 : FnI Try.prog 53 := ⟨by kernel_rfl⟩
instance fn_54 : FnI Try.prog 54 := ⟨by kernel_rfl⟩
instance fn_55 : FnI Try.prog 55 := ⟨by kernel_rfl⟩
instance fn_56 : FnI Try.prog 56 := ⟨by kernel_rfl⟩
instance fn_57 : FnI Try.prog 57 := ⟨by kernel_rfl⟩
instance fn_58 : FnI Try.prog 58 := ⟨by kernel_rfl⟩
instance fn_59 : FnI Try.prog 59 := ⟨by kernel_rfl⟩
instance fn_60 : FnI Try.prog 60 := ⟨by kernel_rfl⟩
instance fn_61 : FnI Try.prog 61 := ⟨by kernel_rfl⟩
instance fn_62 : FnI Try.prog 62 := ⟨by kernel_rfl⟩
instance fn_63 : FnI Try.prog 63 := ⟨by kernel_rfl⟩
instance fn_64 : FnI Try.prog 64 := ⟨by kernel_rfl⟩
instance fn_65 : FnI Try.prog 65 := ⟨by kernel_rfl⟩
instance fn_66 : FnI Try.prog 66 := ⟨by kernel_rfl⟩
instance fn_67 : FnI Try.prog 67 := ⟨by kernel_rfl⟩
instance fn_68 : FnI Try.prog 68 := ⟨by kernel_rfl⟩
instance fn_69 : FnI Try.prog 69 := ⟨by kernel_rfl⟩
instance fn_70 : FnI Try.prog 70 := ⟨by kernel_rfl⟩
instance fn_71 : FnI Try.prog 71 := ⟨by kernel_rfl⟩
instance fn_72 : FnI Try.prog 72 := ⟨by kernel_rfl⟩
instance fn_73 : FnI Try.prog 73 := ⟨by kernel_rfl⟩
instance fn_74 : FnI Try.prog 74 := ⟨by kernel_rfl⟩
instance fn_75 : FnI Try.prog 75 := ⟨by kernel_rfl⟩
instance fn_76 : FnI Try.prog 76 := ⟨by kernel_rfl⟩
instance fn_77 : FnI Try.prog 77 := ⟨by kernel_rfl⟩
instance fn_78 : FnI Try.prog 78 := ⟨by kernel_rfl⟩
instance fn_79 : FnI Try.prog 79 := ⟨by kernel_rfl⟩
instance fn_80 : FnI Try.prog 80 := ⟨by kernel_rfl⟩
instance fn_81 : FnI Try.prog 81 := ⟨by kernel_rfl⟩
instance fn_82 : FnI Try.prog 82 := ⟨by kernel_rfl⟩
instance fn_83 : FnI Try.prog 83 := ⟨by kernel_rfl⟩
instance fn_84 : FnI Try.prog 84 := ⟨by kernel_rfl⟩
instance fn_85 : FnI Try.prog 85 := ⟨by kernel_rfl⟩
instance fn_86 : FnI Try.prog 86 := ⟨by kernel_rfl⟩
instance fn_87 : FnI Try.prog 87 := ⟨by kernel_rfl⟩
instance fn_88 : FnI Try.prog 88 := ⟨by kernel_rfl⟩
instance fn_89 : FnI Try.prog 89 := ⟨by kernel_rfl⟩
instance fn_90 : FnI Try.prog 90 := ⟨by kernel_rfl⟩
instance fn_91 : FnI Try.prog 91 := ⟨by kernel_rfl⟩
instance fn_92 : FnI Try.prog 92 := ⟨by kernel_rfl⟩
instance fn_93 : FnI Try.prog 93 := ⟨by kernel_rfl⟩
instance fn_94 : FnI Try.prog 94 := ⟨by kernel_rfl⟩
instance fn_95 : FnI Try.prog 95 := ⟨by kernel_rfl⟩
instance fn_96 : FnI Try.prog 96 := ⟨by kernel_rfl⟩
instance fn_97 : FnI Try.prog 97 := ⟨by kernel_rfl⟩
instance fn_98 : FnI Try.prog 98 := ⟨by kernel_rfl⟩
instance fn_99 : FnI Try.prog 99 := ⟨by kernel_rfl⟩
instance fn_100 : FnI Try.prog 100 := ⟨by kernel_rfl⟩
instance fn_101 : FnI Try.prog 101 := ⟨by kernel_rfl⟩
instance uI_4 : UndI Try.prog 4 (.bool) := ⟨@Try.underlying4⟩
instance uI_9 : UndI Try.prog 9 (.string) := ⟨@Try.underlying9⟩
theorem und_9 : Try.prog.underlying 9 = some (.string) := UndI.h
instance uI_10 : UndI Try.prog 10 (.string) := ⟨@Try.underlying10⟩
instance uI_11 : UndI Try.prog 11 (.string) := ⟨@Try.underlying11⟩
instance uI_22 : UndI Try.prog 22 (.slice 5) := ⟨@Try.underlying22⟩
instance uI_26 : UndI Try.prog 26 (.slice 2) := ⟨@Try.underlying26⟩
theorem und_26 : Try.prog.underlying 26 = some (.slice 2) := UndI.h
instance uI_31 : UndI Try.prog 31 (.slice 46) := ⟨@Try.underlying31⟩
theorem und_31 : Try.prog.underlying 31 = some (.slice 46) := UndI.h
instance uI_98 : UndI Try.prog 98 (.slice 64) := ⟨@Try.underlying98⟩
theorem und_98 : Try.prog.underlying 98 = some (.slice 64) := UndI.h
instance uI_135 : UndI Try.prog 135 (.slice 9) := ⟨@Try.underlying135⟩
theorem map_118 : MapF Try.prog 118 2 3 (.int .i64) := ⟨@Try.underlying118, @Try.underlying2, by kernel_rfl⟩
instance mixI : MixI Try.prog := ⟨by kernel_rfl⟩
@[reducible] def cRules (x : M.Rul) : List Ty := [Ty.int x.pits, Ty.int x.seeds, Ty.bool x.stores, Ty.bool x.skip, Ty.bool x.relay, Ty.bool x.feed, Ty.bool x.again, Ty.int x.capture, Ty.int x.slam]
def lRules (xs : List M.Rul) : List Ty := xs.flatMap cRules
theorem lRules_length (xs : List M.Rul) : (lRules xs).length = xs.length * 9 := flat_len cRules 9 (fun _ => rfl) xs
instance : LenL lRules 9 := ⟨lRules_length⟩
@[reducible] def cPosition (x : M.Pos) : List Ty := [Ty.ints 2 x.pits, Ty.ints 2 x.stores, Ty.int x.player]
def lPosition (xs : List M.Pos) : List Ty := xs.flatMap cPosition
theorem lPosition_length (xs : List M.Pos) : (lPosition xs).length = xs.length * 3 := flat_len cPosition 3 (fun _ => rfl) xs
instance : LenL lPosition 3 := ⟨lPosition_length⟩
@[reducible] def cSown (x : M.Sw) : List Ty := [Ty.ints 2 x.pits, Ty.ints 2 x.stores, Ty.int x.last, Ty.int x.laps]
def lSown (xs : List M.Sw) : List Ty := xs.flatMap cSown
theorem lSown_length (xs : List M.Sw) : (lSown xs).length = xs.length * 4 := flat_len cSown 4 (fun _ => rfl) xs
instance : LenL lSown 4 := ⟨lSown_length⟩
@[reducible] def csowing (x : M.Sow) : List Ty := [Ty.int x.rules.pits, Ty.int x.rules.seeds, Ty.bool x.rules.stores, Ty.bool x.rules.skip, Ty.bool x.rules.relay, Ty.bool x.rules.feed, Ty.bool x.rules.again, Ty.int x.rules.capture, Ty.int x.rules.slam, Ty.int x.player, Ty.ints 2 x.sown.pits, Ty.ints 2 x.sown.stores, Ty.int x.sown.last, Ty.int x.sown.laps, Ty.ints 2 x.path]
theorem ref_sowing {u : World} {v : Value} {x : M.Sow} (h : (Ty.ref (csowing x)).ok u v) : ∃ b o A10 c10 A11 c11 A14 c14, v = .pointer (some ⟨b, o, none⟩) ∧ RowAt u b o [.int .i64 x.rules.pits, .int .i64 x.rules.seeds, .bool x.rules.stores, .bool x.rules.skip, .bool x.rules.relay, .bool x.rules.feed, .bool x.rules.again, .int .i64 x.rules.capture, .int .i64 x.rules.slam, .int .i64 x.player, .slice A10 x.sown.pits.length c10, .slice A11 x.sown.stores.length c11, .int .i64 x.sown.last, .int .i64 x.sown.laps, .slice A14 x.path.length c14] ∧ (Ty.ints 2 x.sown.pits).ok u (.slice A10 x.sown.pits.length c10) ∧ (Ty.ints 2 x.sown.stores).ok u (.slice A11 x.sown.stores.length c11) ∧ (Ty.ints 2 x.path).ok u (.slice A14 x.path.length c14) ∧ x.sown.pits.length ≤ c10 ∧ c10 ≤ 9223372036854775807 ∧ x.sown.stores.length ≤ c11 ∧ c11 ≤ 9223372036854775807 ∧ x.path.length ≤ c14 ∧ c14 ≤ 9223372036854775807 := by
  obtain ⟨b, o, vs, rfl, h, hr⟩ := h
  obtain ⟨x0, r, rfl, h0, h⟩ := cellsOk_cons h
  obtain ⟨x1, r, rfl, h1, h⟩ := cellsOk_cons h
  obtain ⟨x2, r, rfl, h2, h⟩ := cellsOk_cons h
  obtain ⟨x3, r, rfl, h3, h⟩ := cellsOk_cons h
  obtain ⟨x4, r, rfl, h4, h⟩ := cellsOk_cons h
  obtain ⟨x5, r, rfl, h5, h⟩ := cellsOk_cons h
  obtain ⟨x6, r, rfl, h6, h⟩ := cellsOk_cons h
  obtain ⟨x7, r, rfl, h7, h⟩ := cellsOk_cons h
  obtain ⟨x8, r, rfl, h8, h⟩ := cellsOk_cons h
  obtain ⟨x9, r, rfl, h9, h⟩ := cellsOk_cons h
  obtain ⟨x10, r, rfl, h10, h⟩ := cellsOk_cons h
  obtain ⟨x11, r, rfl, h11, h⟩ := cellsOk_cons h
  obtain ⟨x12, r, rfl, h12, h⟩ := cellsOk_cons h
  obtain ⟨x13, r, rfl, h13, h⟩ := cellsOk_cons h
  obtain ⟨x14, r, rfl, h14, h⟩ := cellsOk_cons h
  obtain rfl := cellsOk_nil h
  obtain rfl : x0 = .int .i64 x.rules.pits := h0
  obtain rfl : x1 = .int .i64 x.rules.seeds := h1
  obtain rfl : x2 = .bool x.rules.stores := h2
  obtain rfl : x3 = .bool x.rules.skip := h3
  obtain rfl : x4 = .bool x.rules.relay := h4
  obtain rfl : x5 = .bool x.rules.feed := h5
  obtain rfl : x6 = .bool x.rules.again := h6
  obtain rfl : x7 = .int .i64 x.rules.capture := h7
  obtain rfl : x8 = .int .i64 x.rules.slam := h8
  obtain rfl : x9 = .int .i64 x.player := h9
  obtain ⟨A10, c10, rfl, b10, d10⟩ := sl_form h10
  obtain ⟨A11, c11, rfl, b11, d11⟩ := sl_form h11
  obtain rfl : x12 = .int .i64 x.sown.last := h12
  obtain rfl : x13 = .int .i64 x.sown.laps := h13
  obtain ⟨A14, c14, rfl, b14, d14⟩ := sl_form h14
  exact ⟨b, o, A10, c10, A11, c11, A14, c14, rfl, hr, h10, h11, h14, b10, d10, b11, d11, b14, d14⟩
def lsowing (xs : List M.Sow) : List Ty := xs.flatMap csowing
theorem lsowing_length (xs : List M.Sow) : (lsowing xs).length = xs.length * 15 := flat_len csowing 15 (fun _ => rfl) xs
instance : LenL lsowing 15 := ⟨lsowing_length⟩
@[reducible] def cResult (x : M.Res) : List Ty := [Ty.int x.move, Ty.int x.gain, Ty.bool x.again, Ty.ints 2 x.next.pits, Ty.ints 2 x.next.stores, Ty.int x.next.player]
def lResult (xs : List M.Res) : List Ty := xs.flatMap cResult
theorem lResult_length (xs : List M.Res) : (lResult xs).length = xs.length * 6 := flat_len cResult 6 (fun _ => rfl) xs
instance : LenL lResult 6 := ⟨lResult_length⟩
theorem elemv_Result {w : World} {i : Nat} {xs : List M.Res} {x : M.Res} {vs : List Value} (h : cellsOk w (lResult xs) vs) (hi : xs[i]? = some x) : ∃ A3 c3 A4 c4, (vs.drop (0 + i * 6)).take 6 = [.int .i64 x.move, .int .i64 x.gain, .bool x.again, .slice A3 x.next.pits.length c3, .slice A4 x.next.stores.length c4, .int .i64 x.next.player] ∧ x.next.pits.length ≤ c3 ∧ c3 ≤ 9223372036854775807 ∧ x.next.stores.length ≤ c4 ∧ c4 ≤ 9223372036854775807 := by
  rw [Nat.zero_add]
  have h := cellsOk.take 6 (cellsOk.drop (i * 6) h)
  rw [lResult, drop_flat cResult 6 (fun _ => rfl) xs i x hi] at h
  generalize (vs.drop (i * 6)).take 6 = vs at h ⊢
  obtain ⟨x0, r, rfl, h0, h⟩ := cellsOk_cons h
  obtain ⟨x1, r, rfl, h1, h⟩ := cellsOk_cons h
  obtain ⟨x2, r, rfl, h2, h⟩ := cellsOk_cons h
  obtain ⟨x3, r, rfl, h3, h⟩ := cellsOk_cons h
  obtain ⟨x4, r, rfl, h4, h⟩ := cellsOk_cons h
  obtain ⟨x5, r, rfl, h5, h⟩ := cellsOk_cons h
  obtain rfl := cellsOk_nil h
  obtain rfl : x0 = .int .i64 x.move := h0
  obtain rfl : x1 = .int .i64 x.gain := h1
  obtain rfl : x2 = .bool x.again := h2
  obtain ⟨A3, c3, rfl, b3, d3⟩ := sl_form h3
  obtain ⟨A4, c4, rfl, b4, d4⟩ := sl_form h4
  obtain rfl : x5 = .int .i64 x.next.player := h5
  exact ⟨A3, c3, A4, c4, rfl, b3, d3, b4, d4⟩
theorem lResult_snoc (xs : List M.Res) (x : M.Res) : lResult xs ++ cResult x = lResult (xs ++ [x]) := by simp [lResult]
theorem pack_Result {w : World} {x : M.Res} {v1 v2 : Value} {f1 f2 : List Nat} (h1 : (Ty.ints 2 x.next.pits).own w v1 f1) (h2 : (Ty.ints 2 x.next.stores).own w v2 f2) : cellsOwn w (cResult x) [.int .i64 x.move, .int .i64 x.gain, .bool x.again, v1, v2, .int .i64 x.next.player] (f1 ++ f2) :=
  ⟨[], f1 ++ f2, rfl, ⟨rfl, rfl⟩, ⟨[], f1 ++ f2, rfl, ⟨rfl, rfl⟩, ⟨[], f1 ++ f2, rfl, ⟨rfl, rfl⟩, ⟨f1, f2, rfl, h1, ⟨f2, [], (List.append_nil _).symm, h2, ⟨[], [], rfl, ⟨rfl, rfl⟩, rfl⟩⟩⟩⟩⟩⟩
@[reducible] def cResultL (x : M.Res) : List Ty := [Ty.int x.move, Ty.int x.gain, Ty.bool x.again, Ty.any, Ty.any, Ty.any]
def lResultL (xs : List M.Res) : List Ty := xs.flatMap cResultL
theorem lResultL_length (xs : List M.Res) : (lResultL xs).length = xs.length * 6 := flat_len cResultL 6 (fun _ => rfl) xs
instance : LenL lResultL 6 := ⟨lResultL_length⟩
@[reducible] def cFact (x : M.Fct) : List Ty := [Ty.int x.kind, Ty.int x.place, Ty.int x.count]
def lFact (xs : List M.Fct) : List Ty := xs.flatMap cFact
theorem lFact_length (xs : List M.Fct) : (lFact xs).length = xs.length * 3 := flat_len cFact 3 (fun _ => rfl) xs
instance : LenL lFact 3 := ⟨lFact_length⟩
theorem elem_Fact {u : World} {e c i : Nat} {A : Option Addr} {xs : List M.Fct} {x : M.Fct} (h : (Ty.sl e 3 xs.length (lFact xs)).ok u (.slice A xs.length c)) (hi : xs[i]? = some x) : ∃ b o, elemA 3 (.slice A xs.length c) i = some ⟨b, o, none⟩ ∧ RowAt u b o [.int .i64 x.kind, .int .i64 x.place, .int .i64 x.count] := by
  obtain ⟨b, o, vs, he, h, hr⟩ := sl_elem h (List.getElem?_eq_some_iff.1 hi).1 rfl
  have e := drop_flat cFact 3 (fun _ => rfl) xs i x hi
  unfold lFact at h
  rw [e] at h
  obtain ⟨x0, r, rfl, h0, h⟩ := cellsOk_cons h
  obtain ⟨x1, r, rfl, h1, h⟩ := cellsOk_cons h
  obtain ⟨x2, r, rfl, h2, h⟩ := cellsOk_cons h
  obtain rfl := cellsOk_nil h
  obtain rfl : x0 = .int .i64 x.kind := h0
  obtain rfl : x1 = .int .i64 x.place := h1
  obtain rfl : x2 = .int .i64 x.count := h2
  exact ⟨b, o, he, hr⟩
set_option maxRecDepth 100000 in
theorem eqs_Fact (a b : M.Fct) (w : World) : (Op.equalIn 10000 46 (.agg #[.int .i64 a.kind, .int .i64 a.place, .int .i64 a.count]) (.agg #[.int .i64 b.kind, .int .i64 b.place, .int .i64 b.count])).run Try.prog w = .ok (decide (a = b)) w := by
  have u2 := Try.underlying2
  have i2 := run_equalIn_int (P := Try.prog) (d := 9998) (t := 2) (k := .i64) (k' := .i64) (h := u2)
  rw [show (10000 : Nat) = 9999 + 1 from rfl, run_equalIn_agg w 9999 46 _ _ (by kernel_rfl) (by kernel_rfl)]
  simp only [Program.fieldsOf, Try.underlying46]
  go_simp
  by_cases h : a = b
  · subst h; simp
  rw [decide_eq_false h]
  by_cases h0 : a.kind = b.kind
  case neg => rw [if_neg h0]
  rw [if_pos h0]
  by_cases h1 : a.place = b.place
  case neg => rw [if_neg h1]
  rw [if_pos h1]
  by_cases h2 : a.count = b.count
  case neg => rw [if_neg h2]
  rw [if_pos h2]
  exact absurd (by cases a; cases b; simp_all) h
@[reducible] def vcFact (x : M.Fct) : List Value := [.int .i64 x.kind, .int .i64 x.place, .int .i64 x.count]
instance flt_Fact : FltL lFact vcFact 3 := flt_mk cFact vcFact 3 (fun w x => ⟨[], [], rfl, ⟨rfl, rfl⟩, ⟨[], [], rfl, ⟨rfl, rfl⟩, ⟨[], [], rfl, ⟨rfl, rfl⟩, rfl⟩⟩⟩) (fun w x vs f h => by
    obtain ⟨x0, r0, g0, q0, rfl, rfl, ⟨rfl, rfl⟩, h0⟩ := cellsOwn_cons h
    obtain ⟨x1, r1, g1, q1, rfl, rfl, ⟨rfl, rfl⟩, h1⟩ := cellsOwn_cons h0
    obtain ⟨x2, r2, g2, q2, rfl, rfl, ⟨rfl, rfl⟩, h2⟩ := cellsOwn_cons h1
    obtain ⟨rfl, rfl⟩ := cellsOwn_nil h2
    exact ⟨rfl, rfl⟩) (fun w x vs h => by
    obtain ⟨x0, r, rfl, h0, h⟩ := cellsOk_cons h
    obtain ⟨x1, r, rfl, h1, h⟩ := cellsOk_cons h
    obtain ⟨x2, r, rfl, h2, h⟩ := cellsOk_cons h
    obtain rfl := cellsOk_nil h
    obtain rfl : x0 = .int .i64 x.kind := h0
    obtain rfl : x1 = .int .i64 x.place := h1
    obtain rfl : x2 = .int .i64 x.count := h2
    rfl) (fun _ => rfl) (fun _ => rfl) (fun _ => rfl) (by decide)
@[reducible] def cPositionL (x : M.Pos) : List Ty := [Ty.rx 2 x.pits, Ty.ints 2 x.stores, Ty.int x.player]
def lPositionL (xs : List M.Pos) : List Ty := xs.flatMap cPositionL
theorem lPositionL_length (xs : List M.Pos) : (lPositionL xs).length = xs.length * 3 := flat_len cPositionL 3 (fun _ => rfl) xs
instance : LenL lPositionL 3 := ⟨lPositionL_length⟩
open Go.RowKit Go.ChangeShapes Go.WideShapes Go.ChangeAt
theorem cell_of {w : World} {b o : Nat} {x : Value} (h : w.cell? ⟨b, o, none⟩ = some x) : Cell w b o x := by
  unfold World.cell? at h
  split at h
  · rename_i c t f hb
    exact ⟨c, t, f, hb, by simpa using h⟩
  all_goals simp at h
section
variable {H : Type} {enc : TypeId × Value → H} {w : World} {spare : Nat → Bool} {held : Bool} {fuel : Nat} {x : DataW H × List MemPlace} {cs : List Value}
end
section
variable {H : Type} {enc : TypeId × Value → H} {w : World} {spare : Nat → Bool} {held : Bool} {fuel : Nat} {x : DataW H × List MemPlace} {cs : List Value}
theorem byte_wf {n : Int} (h : (Lit.int .u8 n).wf = true) : 0 ≤ n ∧ n ≤ 255 := by
  simp only [Lit.wf, Bool.and_eq_true, decide_eq_true_eq] at h
  first | exact h | (obtain ⟨a, b⟩ := h; constructor <;> simp_all [IntKind.min, IntKind.max] <;> omega)
theorem bytes_ok (w : World) : ∀ (l : List Int), (∀ n ∈ l, 0 ≤ n ∧ n ≤ 255) → cellsOk w (List.replicate l.length Ty.byte) (l.map (fun n => .int .u8 n))
  | [], _ => trivial
  | n :: l, h => ⟨⟨n, rfl, h n (by simp)⟩, bytes_ok w l (fun m hm => h m (by simp [hm]))⟩
theorem rd_bytes {P : Program} {t e : TypeId} (ht : P.underlying t = some (.slice e)) (he : P.underlying e = some (.int .u8)) (hc : P.cellsOf e = 1) (h : DataW.trod enc P w 0 spare held fuel t cs = some x) : ∃ n : Nat, cellsOk w [Ty.bytes e n] cs := by
  rcases open_ints ht he hc h with ⟨rfl, _⟩ | ⟨a, len, cap, zs, rfl, _, hl, hm, hz, _, hcell, hwf⟩
  · exact ⟨0, nil_ok, trivial⟩
  · have hlz : len ≤ zs.length := by rw [hz]; split <;> omega
    have hlen : (zs.take len).length = len := by simp; omega
    refine ⟨len, ⟨by simp, some a, cap, (zs.take len).map (fun n => .int .u8 n), rfl, hl, hm, ?_, fun hp => ?_⟩, trivial⟩
    · have := bytes_ok w (zs.take len) (fun n hn => byte_wf (hwf n (List.mem_of_mem_take hn)))
      rwa [hlen] at this
    have hp : 0 < len := by simpa using hp
    obtain ⟨b, off, spot⟩ := a
    have hspot : spot = none := by simpa [Addr.add] using World.cell?_spot (hcell 0 (by omega))
    subst hspot
    refine ⟨b, off, rfl, fun j v hj => ?_⟩
    simp only [List.getElem?_map, Option.map_eq_some_iff] at hj
    obtain ⟨n, hn, rfl⟩ := hj
    rw [List.getElem?_take] at hn
    split at hn
    · rename_i hjl
      have := hcell j (by omega)
      rw [addr_add] at this
      have e : zs.getD j 0 = n := by simp [List.getD, hn]
      rw [e] at this
      exact cell_of this
    · simp at hn
end
section
variable {H : Type} {enc : TypeId × Value → H} {w : World} {spare : Nat → Bool} {held : Bool} {fuel : Nat} {x : DataW H × List MemPlace} {cs : List Value}
theorem RowAt.app {b o : Nat} {vs us : List Value} (h : RowAt w b o vs) (k : RowAt w b (o + vs.length) us) : RowAt w b o (vs ++ us) := fun j v hj => by
  rw [List.getElem?_append] at hj
  split at hj
  · exact h j v hj
  · rename_i hlt
    have := k (j - vs.length) v hj
    rwa [show o + vs.length + (j - vs.length) = o + j by omega] at this
end
theorem setL_drop {xs : List Value} {o j : Nat} {v : Value} (h : o ≤ xs.length) : (setL xs (o + j) [v]).drop o = setL (xs.drop o) j [v] := by
  simp only [setL, List.length_singleton, List.append_assoc]
  rw [List.drop_append_of_le_length (by simp; omega), List.drop_take, List.drop_drop]
  rw [show o + j - o = j from by omega, show o + (j + 1) = o + j + 1 from rfl]
section
variable {P : Program} {n lo : Nat} {B : List Nat} {l : Fr} {os : List Own} {u : World} {dst : Option Tmp} {ty : TypeId} {pos : String} {af : Array Edge} {gd : Option (Nat × Bool)}
theorem rx_some {i m c : Nat} {e : TypeId} {A : Option Addr} {vs : List Value} (hi : os[i]? = some (rxO e (.slice A m c) m vs)) (hm : 0 < m) : ∀ w, St lo B u w os → ∃ b o, A = some ⟨b, o, none⟩ := fun w hw => by
  have h : RxRow w e (.slice A m c) m vs := hw.prs _ (List.mem_of_getElem? hi)
  rcases h.2 with ⟨h2, h3⟩ | ⟨g, o, cap, cur, h2, _⟩
  · omega
  · cases h2; exact ⟨g, o, rfl⟩
theorem Mem.rx {i b o c m j : Nat} {e : TypeId} {vs : List Value} {x : Value} (hi : os[i]? = some (rxO e (.slice (some ⟨b, o, none⟩) m c) m vs)) (hx : vs[0 + j * 1]? = some x) : Mem lo B u os fun w => Cell w b (o + j * 1) x := fun w hw => by
  have h : RxRow w e (.slice (some ⟨b, o, none⟩) m c) m vs := hw.prs _ (List.mem_of_getElem? hi)
  rcases h.2 with ⟨h2, h3⟩ | ⟨g, o', cap, cur, h2, hg, h4, h5, h7⟩
  · cases h2
  · cases h2
    refine ⟨cur, e, (0, 0), hg, ?_⟩
    rw [← h7, List.getElem?_take] at hx
    split at hx
    · rw [List.getElem?_drop] at hx
      simpa using hx
    · simp at hx
theorem e_storeRx {x y : Operand} {t e : TypeId} {gg : Bool} {i b o c m j : Nat} {xs xs' : List Value} {v : Value} (ht : tyOf P t = some (gg, 1)) (hx : opd l x = some (.pointer (some ⟨b, o + j * 1, none⟩))) (hi : os[i]? = some (rxO e (.slice (some ⟨b, o, none⟩) m c) m xs)) (hy : opd l y = some v)
    (hv : cellsL v = [v]) (h1 : v.oneCell' = true) (hl : (0 + j * 1) + 1 ≤ xs.length) (hc : setL xs (0 + j * 1) [v] = xs') :
    OpE P n lo B l os u ⟨dst, .store t x y, ty, pos, af, gd⟩ false (fun _ os' u' => os' = os.set i (rxO e (.slice (some ⟨b, o, none⟩) m c) m xs') ∧ u = u') := fun a w ha hw K Q hk => by
  subst hc
  simp only [Nat.zero_add, Nat.mul_one] at hx hl ⊢
  have h0 : RxRow w e (.slice (some ⟨b, o, none⟩) m c) m xs := hw.prs _ (List.mem_of_getElem? hi)
  obtain ⟨hown1, hown2⟩ := h0
  rcases hown2 with ⟨h2, _⟩ | ⟨g', o', cap, cur, h2, hg, h4, h5, h7⟩
  · cases h2
  cases h2
  have hle : xs.length ≤ (cur.toList.drop o).length := by rw [← h7, List.length_take]; omega
  have hle2 : o + xs.length ≤ cur.toList.length := by rw [List.length_drop] at hle; omega
  obtain ⟨w', r1, r2, r3, r4, r5, r6, r7⟩ := run_storeCells_box P b e [v] 0 (o + j) cur.toList w (by simpa using hg) (by simp at hle2 ⊢; omega) (by simpa using h1)
  have hsz := (run_isAgg (P := P) w ht).2
  have hr : (execOp a.eval ⟨dst, .store t x y, ty, pos, af, gd⟩).run P w = .ok .skip w' := by
    simp [execOp, ha.eval hx, ha.eval hy, Instr.storeAt, Instr.sureAddr, storeVar, hsz, cellsL_eq, hv, r1]
  unfold Oper.wp
  rw [hr]
  refine hk _ _ u _ ⟨rfl, rfl⟩ (Up.refl lo u) (hw.upd hi r5 r6 r7 (by omega) (fun k _ hk => r3 k (fun e => hk (by simp [rxO, Value.ownBlock, e]))) (fun k hk => .inl hk) ?_ ?_ (fun k hk _ => hk)) (fun h => by cases h)
  · have h9 := nodup_mem hw.dis (List.mem_of_getElem? hi)
    exact h9
  · refine ⟨by simp only [setL, List.length_append, List.length_take, List.length_drop, List.length_singleton]; omega, .inr ⟨b, o, c, (setL cur.toList (o + j) [v]).toArray, rfl, by simpa using r2, h4, h5, ?_⟩⟩
    rw [List.toList_toArray, setL_drop (by omega)]
    simpa only [Nat.zero_add, Nat.mul_one] using setL_prefix (vs := [v]) h7 hown1.symm hl hle
end
theorem St.releaseB {lo : Nat} {B : List Nat} {u w : World} {os : List Own} (h : St lo B u w os) {i : Nat} {o : Own} (hi : os[i]? = some o) (hB : ∀ k ∈ B, k ∈ (os.eraseIdx i).flatMap (·.fp)) :
    ∃ u', Up lo u u' ∧ St lo B u' w (os.eraseIdx i) ∧ (∀ k ∈ o.fp, u'.heap[k]? = w.heap[k]?) := by
  have hlt : i < os.length := (List.getElem?_eq_some_iff.1 hi).1
  have hpart : ∃ pre post, os = pre ++ o :: post ∧ os.eraseIdx i = pre ++ post := by
    refine ⟨os.take i, os.drop (i + 1), ?_, List.eraseIdx_eq_take_drop_succ ..⟩
    have := (List.getElem?_eq_some_iff.1 hi).2
    rw [← this, ← List.drop_eq_getElem_cons hlt, List.take_append_drop]
  obtain ⟨pre, post, e1, e2⟩ := hpart
  rw [e2] at hB
  have hd := h.dis
  rw [e1] at hd
  simp only [List.flatMap_append, List.flatMap_cons] at hd
  rw [List.nodup_append] at hd
  obtain ⟨d1, d2, d3⟩ := hd
  rw [List.nodup_append] at d2
  obtain ⟨d4, d5, d6⟩ := d2
  have hs : (offW w ((pre ++ post).flatMap (·.fp))).heap.size = w.heap.size := by simp [offW]
  have hsz := h.size
  have hlo := h.lo_
  have mem : ∀ x, x ∈ pre ++ post → x ∈ os := fun x hx => by rw [e1]; simp only [List.mem_append, List.mem_cons] at hx ⊢; rcases hx with hx | hx <;> simp [hx]
  have mem' : ∀ x, x ∈ os → x = o ∨ x ∈ pre ++ post := fun x hx => by
    rw [e1] at hx
    simp only [List.mem_append, List.mem_cons] at hx ⊢
    rcases hx with hx | hx | hx
    · exact .inr (.inl hx)
    · exact .inl hx
    · exact .inr (.inr hx)
  have apart : ∀ k ∈ o.fp, k ∉ (pre ++ post).flatMap (·.fp) := fun k hk hm => by
    rw [List.flatMap_append, List.mem_append] at hm
    rcases hm with hm | hm
    · exact d3 k hm k (List.mem_append_left _ hk) rfl
    · exact d6 k hk k hm rfl
  rw [e2]
  refine ⟨offW w ((pre ++ post).flatMap (·.fp)), ⟨⟨by omega, fun k c t f hk => ?_⟩, fun k hk => ?_, h.os_, h.tape, h.output⟩, ⟨rfl, rfl, rfl, by omega, by omega, fun k hk hn => ?_, fun x hx k hk => ⟨(h.hid x (mem x hx) k hk).1, (h.hid x (mem x hx) k hk).2.1, fun hlt' => ?_⟩, fun x hx => h.prs x (mem x hx), ?_, hB⟩, fun k hk => ?_⟩
  · rw [offW_get, if_neg]
    · exact h.vis.vis k c t f hk
    · intro hm
      obtain ⟨x, hx, hm⟩ := List.mem_flatMap.1 hm
      have := (h.hid x (mem x hx) k hm).2.2 (Array.getElem?_eq_some_iff.1 hk).1
      rw [this] at hk
      simp [hidO] at hk
  · by_cases hm : k ∈ (pre ++ post).flatMap (·.fp)
    · rw [offW_get, if_pos hm, if_pos (by omega)]
      obtain ⟨x, hx, hm⟩ := List.mem_flatMap.1 hm
      exact ((h.hid x (mem x hx) k hm).2.2 (by omega)).symm
    · have nh : ∀ x ∈ os, k ∉ x.fp := fun x hx hk' => by
        rcases mem' x hx with rfl | hx'
        · rcases (h.hid x hx k hk').2.1 with h9 | h9
          · omega
          · exact hm (hB k h9)
        · exact hm (List.mem_flatMap.2 ⟨x, hx', hk'⟩)
      rw [offW_get, if_neg hm]
      exact h.pub k (by omega) nh
  · rw [offW_get, if_neg]
    intro hm
    obtain ⟨x, hx, hm⟩ := List.mem_flatMap.1 hm
    exact hn x hx hm
  · rw [offW_get, if_pos (List.mem_flatMap.2 ⟨x, hx, hk⟩), if_pos (by have := (h.hid x (mem x hx) k hk).1; omega)]
  · rw [List.flatMap_append, List.nodup_append]
    exact ⟨d1, d5, fun a ha b hb e => d3 a ha b (List.mem_append_right _ hb) e⟩
  · rw [offW_get, if_neg (apart k hk)]
theorem Js.pubBox {P : Program} {n lo : Nat} {B : List Nat} {Q : Exit → Act → World → Prop} {cs : List Code} {l : Fr} {os : List Own} {u : World} {i j b bs : Nat} {c c2 : List Value} {T T2 : TypeId} (hi : os[i]? = some (boxO b c T)) (hj : (os.eraseIdx i)[j]? = some (boxO bs c2 T2))
    (k : ∀ u', Up lo u u' → RowAt u' b 0 c → Js P n lo B Q cs l (os.eraseIdx i) u') (hB : B = [bs] := by rfl) : Js P n lo B Q cs l os u := fun a w ha hw => by
  obtain ⟨u', h1, h2, h3⟩ := hw.releaseB hi (fun k hk => by
    rw [hB, List.mem_singleton] at hk
    subst hk
    exact List.mem_flatMap.2 ⟨_, List.mem_of_getElem? hj, by simp [boxO]⟩)
  have hp : w.heap[b]? = some (.cells c.toArray T (0, 0)) := hw.prs _ (List.mem_of_getElem? hi)
  refine k u' h1 (fun m x hm => ⟨c.toArray, T, (0, 0), by rw [h3 b (by simp [boxO])]; exact hp, ?_⟩) a w ha h2
  simpa using hm
inductive RowX : List Own → TypeId → Value → List Int → Prop
  | a {e : TypeId} {v : Value} {m : Nat} {xs : List Int} {r : List Own} : RowX (rxO e v m (ints_ xs) :: r) e v xs
  | s {e : TypeId} {v : Value} {xs : List Int} {q : Own} {r : List Own} (h : RowX r e v xs) : RowX (q :: r) e v xs
theorem RowX.get {os : List Own} {e : TypeId} {v : Value} {xs : List Int} (h : RowX os e v xs) {w : World} : (∀ o ∈ os, o.pr w) → (Ty.ints e xs).ok w v := by
  induction h with
  | a => intro hp; exact ints_rxok (hp _ List.mem_cons_self)
  | s _ ih => intro hp; exact ih fun q hq => hp q (by simp [hq])
theorem okx_ {lo : Nat} {B : List Nat} {os : List Own} {u w : World} {T : Ty} {v : Value} (hw : St lo B u w os) (h : St lo B u w os → T.ok w v := by
    intro hw
    repeat' (first
    | exact ok_i | exact ok_b | with_reducible apply ok_c | with_reducible exact ok_n | with_reducible apply ok_agg | exact ok_s | exact Ty.mono _ (by assumption) vis_ | exact nil_ok | (refine RowX.get ?_ (St.prs hw); (repeat (first | with_reducible exact RowX.a | with_reducible apply RowX.s)); done) | (refine Row1.get ?_ (St.prs hw); (repeat (first | with_reducible exact Row1.a | with_reducible exact Row1.b | with_reducible apply Row1.s)); done) | (refine Own1.get ?_ (St.prs hw); (repeat (first | ((with_reducible apply Own1.a); (repeat (first | with_reducible exact Cel.z | with_reducible apply Cel.s)); done) | with_reducible apply Own1.s)); done) | (refine ok_ofro (Own1.get ?_ (St.prs hw)); (repeat (first | ((with_reducible apply Own1.a); (repeat (first | with_reducible exact Cel.z | with_reducible apply Cel.s)); done) | with_reducible apply Own1.s)); done) | apply ok_ro
    | ((with_reducible apply ok_refB (hw := hw)); (repeat (first | with_reducible exact LdB.z | with_reducible apply LdB.s))) | (apply ok_refP; assumption; exact vis_; rfl; exact off_; exact nl) | exact rfl | assumption | fail)) : T.ok w v := h hw
end Go.Proofs.Ytjgohnaobbphpaa
namespace Go.Proofs.Ytjgohnaobbphpaa.M
theorem place_bd {r : Rul} {p : Pos} {m : Int} (h : okP r p = true) (h0 : 0 ≤ m) (h1 : m ≤ r.pits - 1) : 0 ≤ p.player * r.pits ∧ p.player * r.pits ≤ 8 ∧ 0 ≤ p.player * r.pits + m ∧ p.player * r.pits + m < (p.pits.length : Int) := by
  obtain ⟨g1, g2, g3, g4, g5, g6, g7⟩ := okP_bd h
  rw [g3]
  rcases g7 with e | e <;> rw [e] <;> omega
def addF : List Fct → Int → List Fct
  | [], x => [⟨2, x, 1⟩]
  | f :: r, x => if f.place = x then ⟨f.kind, f.place, f.count + 1⟩ :: r else f :: addF r x
def addFs (l : List Fct) (q : List Int) : List Fct := q.foldl addF l
theorem addFs_snoc (l : List Fct) (q : List Int) (x : Int) : addFs l (q ++ [x]) = addF (addFs l q) x := by unfold addFs; rw [List.foldl_append]; rfl
def idxF : List Fct → Int → Option Nat
  | [], _ => none
  | f :: r, x => if f.place = x then some 0 else (idxF r x).map (· + 1)
theorem idxF_some : ∀ {l : List Fct} {x : Int} {i : Nat}, idxF l x = some i → ∃ f, l[i]? = some f ∧ f.place = x ∧ addF l x = l.set i ⟨f.kind, f.place, f.count + 1⟩
  | [], _, _, h => by simp [idxF] at h
  | f :: r, x, i, h => by
    rw [idxF] at h
    by_cases e : f.place = x
    · rw [if_pos e] at h
      injection h with h
      subst h
      exact ⟨f, rfl, e, by rw [addF, if_pos e]; rfl⟩
    · rw [if_neg e] at h
      cases hr : idxF r x with
      | none => rw [hr] at h; simp at h
      | some j =>
        rw [hr] at h
        simp at h
        subst h
        obtain ⟨g, h1, h2, h3⟩ := idxF_some hr
        exact ⟨g, by simpa using h1, h2, by rw [addF, if_neg e, h3]; rfl⟩
theorem idxF_none : ∀ {l : List Fct} {x : Int}, idxF l x = none → addF l x = l ++ [⟨2, x, 1⟩]
  | [], _, _ => rfl
  | f :: r, x, h => by
    rw [idxF] at h
    by_cases e : f.place = x
    · rw [if_pos e] at h; cases h
    · rw [if_neg e] at h
      cases hr : idxF r x with
      | none => rw [addF, if_neg e, idxF_none hr]; rfl
      | some j => rw [hr] at h; simp at h
theorem idxF_add : ∀ (l : List Fct) (x y : Int), idxF (addF l x) y = match idxF l y with
    | some i => some i
    | none => if x = y then some l.length else none
  | [], x, y => by
    simp only [addF, idxF]
    split <;> rfl
  | f :: r, x, y => by
    rw [addF]
    by_cases e : f.place = x
    · rw [if_pos e, idxF, idxF]
      by_cases e2 : f.place = y
      · simp [e2]
      · have : ¬ x = y := fun e3 => e2 (e.trans e3)
        cases hr : idxF r y <;> simp [e2, this]
    · rw [if_neg e, idxF, idxF, idxF_add r x y]
      by_cases e2 : f.place = y
      · simp [e2]
      · cases hr : idxF r y with
        | some j => simp [e2]
        | none => by_cases e3 : x = y <;> simp [e2, e3]
theorem addF_len (l : List Fct) (x : Int) : (addF l x).length ≤ l.length + 1 := by
  induction l with
  | nil => simp [addF]
  | cons f r ih =>
    rw [addF]; split
    · simp
    · simp only [List.length_cons]; omega
def MapF_ (g : List (Int × Int)) (off : Int) (l : List Fct) : Prop := ∀ x, mget g x = (idxF l x).map fun i => off + (i : Int)
theorem MapF_.zero (off : Int) : MapF_ [] off [] := fun x => rfl
theorem MapF_.hit {g : List (Int × Int)} {off : Int} {l : List Fct} (h : MapF_ g off l) {x : Int} (hx : mhas g x = true) : ∃ (i : Nat) (f : Fct), mval g x = off + (i : Int) ∧ l[i]? = some f ∧ addF l x = l.set i ⟨f.kind, f.place, f.count + 1⟩ ∧ MapF_ g off (addF l x) := by
  unfold mhas at hx
  rw [h x] at hx
  cases hi : idxF l x with
  | none => rw [hi] at hx; simp at hx
  | some i =>
    obtain ⟨f, h1, h2, h3⟩ := idxF_some hi
    refine ⟨i, f, by unfold mval; rw [h x, hi]; rfl, h1, h3, fun y => ?_⟩
    rw [h y, idxF_add]
    cases hy : idxF l y with
    | some j => rfl
    | none =>
      have : ¬ x = y := fun e => by rw [← e, hi] at hy; cases hy
      simp [this]
theorem MapF_.miss {g : List (Int × Int)} {off : Int} {l : List Fct} (h : MapF_ g off l) {x : Int} (hx : mhas g x = false) : addF l x = l ++ [⟨2, x, 1⟩] ∧ MapF_ (mput g x (off + (l.length : Int))) off (addF l x) := by
  unfold mhas at hx
  rw [h x] at hx
  cases hi : idxF l x with
  | some i => rw [hi] at hx; simp at hx
  | none =>
    refine ⟨idxF_none hi, fun y => ?_⟩
    rw [mget_put, idxF_add, h y]
    by_cases e : x = y
    · subst e; rw [if_pos rfl, hi]; simp
    · rw [if_neg e]
      cases hy : idxF l y <;> simp [e]
structure Lps where
  pits : List Int
  frm : Int
  left : Int
  done : List Fct
  cur : List Fct
def incP (ps : List Int) (x : Int) : List Int := if 0 ≤ x then setI ps x (getI ps x + 1) else ps
def lstep (s : Lps) (x : Int) : Lps :=
  if s.left = 0 then ⟨incP (setI s.pits s.frm 0) x, x, getI s.pits s.frm - 1, (s.done ++ s.cur) ++ [⟨1, s.frm, getI s.pits s.frm⟩], addF [] x⟩
  else ⟨incP s.pits x, x, s.left - 1, s.done, addF s.cur x⟩
def lsteps (s : Lps) (q : List Int) : Lps := q.foldl lstep s
theorem lsteps_app (s : Lps) (a b : List Int) : lsteps s (a ++ b) = lsteps (lsteps s a) b := by unfold lsteps; rw [List.foldl_append]
theorem lsteps_snoc (s : Lps) (a : List Int) (x : Int) : lsteps s (a ++ [x]) = lstep (lsteps s a) x := by rw [lsteps_app]; rfl
theorem sow_steps (r : Rul) (pl frm : Int) : ∀ (n : Nat) (place : Int) (ps ss path : List Int), ∃ q, (sow r pl frm n place ps ss path).2.2.2 = path ++ q ∧ q.length = n ∧
    ∀ (d c : List Fct), lsteps ⟨ps, place, (n : Int), d, c⟩ q = ⟨(sow r pl frm n place ps ss path).2.1, (sow r pl frm n place ps ss path).1, 0, d, addFs c q⟩
  | 0, place, ps, ss, path => ⟨[], by simp [sow], rfl, fun d c => rfl⟩
  | n + 1, place, ps, ss, path => by
    rw [sow]
    split
    · rename_i hx
      obtain ⟨q, h1, h2, h3⟩ := sow_steps r pl frm n (nxt r pl frm place) ps (setI ss pl (getI ss pl + 1)) (path ++ [nxt r pl frm place])
      refine ⟨nxt r pl frm place :: q, by rw [h1]; simp, by simp [h2], fun d c => ?_⟩
      have e : lstep ⟨ps, place, ((n + 1 : Nat) : Int), d, c⟩ (nxt r pl frm place) = ⟨ps, nxt r pl frm place, (n : Int), d, addF c (nxt r pl frm place)⟩ := by
        unfold lstep
        rw [if_neg (by show ¬ ((n + 1 : Nat) : Int) = 0; omega)]
        dsimp only
        unfold incP
        rw [if_neg (by omega), show ((n + 1 : Nat) : Int) - 1 = (n : Int) by omega]
      show lsteps (lstep _ _) q = _
      rw [e, h3]; rfl
    · rename_i hx
      obtain ⟨q, h1, h2, h3⟩ := sow_steps r pl frm n (nxt r pl frm place) (setI ps (nxt r pl frm place) (getI ps (nxt r pl frm place) + 1)) ss (path ++ [nxt r pl frm place])
      refine ⟨nxt r pl frm place :: q, by rw [h1]; simp, by simp [h2], fun d c => ?_⟩
      have e : lstep ⟨ps, place, ((n + 1 : Nat) : Int), d, c⟩ (nxt r pl frm place) = ⟨setI ps (nxt r pl frm place) (getI ps (nxt r pl frm place) + 1), nxt r pl frm place, (n : Int), d, addF c (nxt r pl frm place)⟩ := by
        unfold lstep
        rw [if_neg (by show ¬ ((n + 1 : Nat) : Int) = 0; omega)]
        dsimp only
        unfold incP
        rw [if_pos (by omega), show ((n + 1 : Nat) : Int) - 1 = (n : Int) by omega]
      show lsteps (lstep _ _) q = _
      rw [e, h3]; rfl
theorem lap_steps (r : Rul) (pl frm : Int) (s : Sw) (path : List Int) (hp : 0 < getI s.pits frm) : ∃ q, (lap r pl frm s path).2 = path ++ q ∧ (q.length : Int) = getI s.pits frm ∧
    ∀ (d c : List Fct), lsteps ⟨s.pits, frm, 0, d, c⟩ q = ⟨(lap r pl frm s path).1.pits, (lap r pl frm s path).1.last, 0, (d ++ c) ++ [⟨1, frm, getI s.pits frm⟩], addFs [] q⟩ := by
  obtain ⟨q, h1, h2, h3⟩ := sow_steps r pl frm (getI s.pits frm).toNat frm (setI s.pits frm 0) s.stores path
  refine ⟨q, h1, by omega, fun d c => ?_⟩
  have h4 := h3 ((d ++ c) ++ [⟨1, frm, getI s.pits frm⟩]) []
  cases q with
  | nil => simp at h2; omega
  | cons x q =>
    have e : lstep ⟨s.pits, frm, 0, d, c⟩ x = lstep ⟨setI s.pits frm 0, frm, ((getI s.pits frm).toNat : Int), (d ++ c) ++ [⟨1, frm, getI s.pits frm⟩], []⟩ x := by
      unfold lstep
      rw [if_pos rfl, if_neg (by show ¬ (((getI s.pits frm).toNat : Nat) : Int) = 0; omega)]
      dsimp only
      rw [show (((getI s.pits frm).toNat : Nat) : Int) - 1 = getI s.pits frm - 1 by omega]
    show lsteps (lstep _ _) q = _
    rw [e]
    exact h4
def lap0 (p : Pos) (frm : Int) : Lps := ⟨p.pits, frm, 0, [], []⟩
def lapsF (r : Rul) (p : Pos) (move : Int) : List Fct :=
  (lsteps (lap0 p (p.player * r.pits + move)) (sowMove r p move).2.2).done ++ (lsteps (lap0 p (p.player * r.pits + move)) (sowMove r p move).2.2).cur
def capF (r : Rul) (p : Pos) (s : Sw) : List Fct := (captured r s p.player).map fun k => ⟨3, k, getI s.pits k⟩
def spaF (r : Rul) (p : Pos) (s : Sw) : List Fct := if captured r s p.player = [] ∧ taken r s p.player ≠ [] then [⟨4, s.last, isum ((taken r s p.player).map (getI s.pits))⟩] else []
def endF (b : Bool) : Fct := ⟨if b = true then 5 else 6, 0, 0⟩
def factsF (r : Rul) (p : Pos) (move : Int) : List Fct :=
  ((lapsF r p move ++ capF r p (sowMove r p move).2.1) ++ spaF r p (sowMove r p move).2.1) ++ [endF (make r p move).1.again]
structure FacI (r : Rul) (p : Pos) (frm0 frm : Int) (sw : Sw) (path : List Int) (out : List Fct) : Prop where
  st : ∃ d c, lsteps (lap0 p frm0) path = ⟨sw.pits, frm, 0, d, c⟩ ∧ out = d ++ c
theorem FacI.zero (r : Rul) (p : Pos) (frm : Int) : FacI r p frm frm ⟨p.pits, p.stores, 0, 0⟩ [] [] := ⟨⟨[], [], rfl, rfl⟩⟩
theorem FacI.lap {r : Rul} {p : Pos} {frm0 frm : Int} {sw : Sw} {path : List Int} {out : List Fct} (h : FacI r p frm0 frm sw path out) (hp : 0 < getI sw.pits frm) :
    FacI r p frm0 (M.lap r p.player frm sw path).1.last (M.lap r p.player frm sw path).1 (M.lap r p.player frm sw path).2 ((out ++ [⟨1, frm, getI sw.pits frm⟩]) ++ addFs [] ((M.lap r p.player frm sw path).2.drop path.length)) := by
  obtain ⟨d, c, h1, h2⟩ := h.st
  obtain ⟨q, h3, h4, h5⟩ := lap_steps r p.player frm sw path hp
  refine ⟨⟨(d ++ c) ++ [⟨1, frm, getI sw.pits frm⟩], addFs [] q, ?_, ?_⟩⟩
  · rw [h3, lsteps_app, h1]; exact h5 d c
  · rw [h3, List.drop_left, h2]
theorem FacI.out {r : Rul} {p : Pos} {move : Int} {frm : Int} {sw : Sw} {path : List Int} {out : List Fct} (h : FacI r p (p.player * r.pits + move) frm sw path out) (hp : path = (sowMove r p move).2.2) : out = lapsF r p move := by
  obtain ⟨d, c, h1, h2⟩ := h.st
  unfold lapsF
  rw [← hp, h1, h2]
def CntB (l : List Fct) (k : Int) : Prop := ∀ f ∈ l, 1 ≤ f.count ∧ f.count ≤ k
theorem CntB.add {x : Int} : ∀ {l : List Fct} {k : Int}, 0 ≤ k → CntB l k → CntB (addF l x) (k + 1)
  | [], k, hk, _ => fun f hf => by rw [addF, List.mem_singleton] at hf; subst hf; exact ⟨by show (1 : Int) ≤ 1; decide, by show (1 : Int) ≤ k + 1; omega⟩
  | g :: l, k, hk, h => by
    have hl : CntB l k := fun f hf => h f (by simp [hf])
    have hg := h g (by simp)
    rw [addF]
    split
    · intro f hf
      rcases List.mem_cons.1 hf with rfl | hf
      · exact ⟨by show 1 ≤ g.count + 1; omega, by show g.count + 1 ≤ k + 1; omega⟩
      · have := hl f hf; omega
    · intro f hf
      rcases List.mem_cons.1 hf with rfl | hf
      · omega
      · exact CntB.add hk hl f hf
theorem tel_hit {base cur F : List Fct} {g : List (Int × Int)} {x k : Int} (hF : F = base ++ cur) (h : MapF_ g (base.length : Int) cur) (hc : CntB cur k) (hx : mhas g x = true) :
    0 ≤ mval g x ∧ mval g x < (F.length : Int) ∧ (1 ≤ (fct F (mval g x).toNat).count ∧ (fct F (mval g x).toNat).count ≤ k) ∧ F.set (mval g x).toNat ⟨(fct F (mval g x).toNat).kind, (fct F (mval g x).toNat).place, (fct F (mval g x).toNat).count + 1⟩ = base ++ addF cur x ∧ MapF_ g (base.length : Int) (addF cur x) := by
  obtain ⟨i, f, h1, h2, h3, h4⟩ := h.hit hx
  obtain ⟨hi, hf⟩ := List.getElem?_eq_some_iff.1 h2
  have hn : (mval g x).toNat = base.length + i := by omega
  have hg : fct F (mval g x).toNat = f := by
    rw [hn, hF]; unfold fct
    rw [List.getD_eq_getElem?_getD, List.getElem?_append_right (by omega), Nat.add_sub_cancel_left, h2]; rfl
  subst hF
  refine ⟨by omega, by rw [List.length_append]; omega, ?_, ?_, h4⟩
  · rw [hg]; exact hc f (List.mem_of_getElem? h2)
  · rw [hg, hn, List.set_append_right _ _ (by omega), Nat.add_sub_cancel_left, h3]
theorem tel_miss {base cur F : List Fct} {g : List (Int × Int)} {x : Int} (hF : F = base ++ cur) (h : MapF_ g (base.length : Int) cur) (hx : mhas g x = false) :
    fct (F ++ [(⟨2, x, 0⟩ : Fct)]) F.length = ⟨2, x, 0⟩ ∧ (F ++ [(⟨2, x, 0⟩ : Fct)]).set F.length ⟨2, x, 0 + 1⟩ = base ++ addF cur x ∧ MapF_ (mput g x (F.length : Int)) (base.length : Int) (addF cur x) := by
  obtain ⟨h1, h2⟩ := h.miss hx
  subst hF
  refine ⟨?_, ?_, ?_⟩
  · unfold fct; rw [List.getD_eq_getElem?_getD, List.getElem?_append_right (Nat.le_refl _)]; simp
  · rw [List.set_append_right _ _ (Nat.le_refl _), Nat.sub_self, h1, List.append_assoc]; rfl
  · rw [List.length_append]
    have : ((base.length + cur.length : Nat) : Int) = (base.length : Int) + (cur.length : Int) := by omega
    rw [this]; exact h2
structure RunI (r : Rul) (p : Pos) (frm0 frm : Int) (sw : Sw) (path : List Int) (more : Bool) : Prop where
  go : more = true → mvT r p.player (100 - sw.laps).toNat frm sw path = mvT r p.player 100 frm0 ⟨p.pits, p.stores, 0, 0⟩ [] ∧ 0 ≤ frm ∧ frm < 2 * r.pits ∧ 0 < getI sw.pits frm ∧ sw.laps ≤ 99
  fin : more = false → mvT r p.player 100 frm0 ⟨p.pits, p.stores, 0, 0⟩ [] = (true, sw, path)
  g : Good r sw.pits sw.stores 0
  l0 : 0 ≤ sw.laps ∧ sw.laps ≤ 100
  pl : (path.length : Int) ≤ 96 * sw.laps
theorem RunI.zero {r : Rul} {p : Pos} {frm : Int} (h0 : 0 ≤ frm) (h1 : frm < 2 * r.pits) (h2 : 0 < getI p.pits frm) (hG : Good r p.pits p.stores 0) : RunI r p frm frm ⟨p.pits, p.stores, 0, 0⟩ [] true :=
  { go := fun _ => ⟨rfl, h0, h1, h2, by show (0 : Int) ≤ 99; decide⟩, fin := fun h => absurd h (by decide), g := hG, l0 := (by show (0 : Int) ≤ 0 ∧ (0 : Int) ≤ 100; decide), pl := (by show ((0 : Nat) : Int) ≤ 96 * 0; decide) }
theorem RunI.lap {r : Rul} {p : Pos} {frm0 frm : Int} {sw : Sw} {path : List Int} (h : RunI r p frm0 frm sw path true) (r1 : r.pits ≤ 8) (r0 : 2 ≤ r.pits) (r2 : p.player = 0 ∨ p.player = 1) (hT : (mvT r p.player 100 frm0 ⟨p.pits, p.stores, 0, 0⟩ []).1 = true) :
    RunI r p frm0 (M.lap r p.player frm sw path).1.last (M.lap r p.player frm sw path).1 (M.lap r p.player frm sw path).2 (M.more r (M.lap r p.player frm sw path).1) := by
  obtain ⟨g1, g2, g3, g4, g5⟩ := h.go rfl
  obtain ⟨k1, k2⟩ := h.l0
  obtain ⟨ha, hb1, hc, hd, he, hf⟩ := M.lap_keeps r path r1 r0 r2 g2 g3 h.g
  have hpl := h.pl
  have hn : (100 - sw.laps).toNat = (99 - sw.laps).toNat + 1 := by omega
  refine ⟨fun hm => ?_, fun hm => ?_, ha, by omega, by omega⟩
  · rw [hn, mvT_yes hm] at g1
    have hm2 := more_get hm
    have hl : sw.laps ≤ 98 := by
      by_cases e : sw.laps ≤ 98
      · exact e
      · exfalso
        have e2 : (99 - sw.laps).toNat = 0 := by omega
        rw [e2, mvT] at g1
        rw [← g1] at hT
        exact absurd (show false = true from hT) (by decide)
    refine ⟨?_, hm2.1, hc, by omega, by omega⟩
    rw [← g1, hf, show (100 - (sw.laps + 1)).toNat = (99 - sw.laps).toNat by omega]
  · rw [hn, mvT_no hm] at g1
    exact g1.symm
theorem RunI.mv {r : Rul} {p : Pos} {move frm : Int} {sw : Sw} {path : List Int} (h : RunI r p (p.player * r.pits + move) frm sw path false) (hs : (sowMove r p move).1 = 0) : (sowMove r p move).2.1 = sw ∧ (sowMove r p move).2.2 = path := by
  have h1 := h.fin rfl
  by_cases hc : sowCode r p move = 0
  · have := sowMove_yes hc (by rw [h1])
    rw [this, h1]; exact ⟨rfl, rfl⟩
  · rw [sowMove_code hc] at hs; exact absurd hs hc
def factsR (r : Rul) (p : Pos) (move : Int) : List Fct × Int := if (make r p move).2 = 0 then (factsF r p move, 0) else ([], (make r p move).2)
theorem factsR_n {r : Rul} {p : Pos} {move : Int} (h : ¬ (make r p move).2 = 0) : factsR r p move = ([], (make r p move).2) := if_neg h
theorem factsR_y {r : Rul} {p : Pos} {move : Int} (h : (make r p move).2 = 0) : factsR r p move = (factsF r p move, 0) := if_pos h
theorem cap_step {l : List Int} {ps : List Int} {k : Nat} {y : Int} {base out : List Fct} (h : out = base ++ (l.take k).map fun x => ⟨3, x, getI ps x⟩) (hy : l[k]? = some y) : out ++ [⟨3, y, getI ps y⟩] = base ++ (l.take (k + 1)).map fun x => (⟨3, x, getI ps x⟩ : Fct) := by
  rw [List.take_add_one, hy, h, List.map_append, ← List.append_assoc]; rfl
theorem mvT_true {r : Rul} {p : Pos} {move : Int} (hs : (sowMove r p move).1 = 0) : (mvT r p.player 100 (p.player * r.pits + move) ⟨p.pits, p.stores, 0, 0⟩ []).1 = true := by
  by_cases hc : sowCode r p move = 0
  · cases hm : (mvT r p.player 100 (p.player * r.pits + move) ⟨p.pits, p.stores, 0, 0⟩ []).1 with
    | true => rfl
    | false => rw [sowMove_end hc hm] at hs; exact absurd hs (by decide)
  · rw [sowMove_code hc] at hs; exact absurd hs hc
structure PI (r : Rul) (S : Lps) : Prop where
  g : ∃ ss, Good r S.pits ss S.left
  f : -1 ≤ S.frm ∧ S.frm < 2 * r.pits
  z : S.left = 0 → 0 ≤ S.frm ∧ 0 < getI S.pits S.frm
theorem sow_pre (r : Rul) (pl frm : Int) (hb : r.pits ≤ 8) (hc : 2 ≤ r.pits) (hp : pl = 0 ∨ pl = 1) (f0 : 0 ≤ frm) : ∀ (n : Nat) (place : Int) (ps ss path q : List Int), Good r ps ss (n : Int) → -1 ≤ place → place < 2 * r.pits →
    (sow r pl frm n place ps ss path).2.2.2 = path ++ q → ∀ (d c : List Fct) (j : Nat), j < n → PI r (lsteps ⟨ps, place, (n : Int), d, c⟩ (q.take j))
  | 0, _, _, _, _, _, _, _, _, _, _, _, j, hj => by omega
  | n + 1, place, ps, ss, path, q, hG, p0, p1, hq, d, c, 0, _ => ⟨⟨ss, hG⟩, ⟨p0, p1⟩, fun h => by exfalso; have h : ((n + 1 : Nat) : Int) = 0 := h; omega⟩
  | n + 1, place, ps, ss, path, q, hG, p0, p1, hq, d, c, j + 1, hj => by
    have hbd := nxt_bd r (frm := frm) hb hc hp p0 f0
    rw [sow] at hq
    have hs0 := hG.store pl
    split at hq
    · rename_i hx
      obtain ⟨q', h1, h2, h3⟩ := sow_steps r pl frm n (nxt r pl frm place) ps (setI ss pl (getI ss pl + 1)) (path ++ [nxt r pl frm place])
      rw [h1] at hq
      have hqq : q = nxt r pl frm place :: q' := by
        rw [List.append_assoc] at hq; exact (List.append_cancel_left hq).symm
      have e : lstep ⟨ps, place, ((n + 1 : Nat) : Int), d, c⟩ (nxt r pl frm place) = ⟨ps, nxt r pl frm place, (n : Int), d, addF c (nxt r pl frm place)⟩ := by
        unfold lstep
        rw [if_neg (by show ¬ ((n + 1 : Nat) : Int) = 0; omega)]
        dsimp only
        unfold incP
        rw [if_neg (by omega), show ((n + 1 : Nat) : Int) - 1 = (n : Int) by omega]
      rw [hqq, List.take_succ_cons]
      show PI r (lsteps (lstep _ _) _)
      rw [e]
      have hG2 := hG.putStore (k := pl) (by omega) (by omega) (by omega)
      rw [show ((n + 1 : Nat) : Int) - 1 = (n : Int) by omega] at hG2
      exact sow_pre r pl frm hb hc hp f0 n _ ps _ _ q' hG2 hbd.1 hbd.2 h1 d _ j (by omega)
    · rename_i hx
      obtain ⟨q', h1, h2, h3⟩ := sow_steps r pl frm n (nxt r pl frm place) (setI ps (nxt r pl frm place) (getI ps (nxt r pl frm place) + 1)) ss (path ++ [nxt r pl frm place])
      rw [h1] at hq
      have hqq : q = nxt r pl frm place :: q' := by
        rw [List.append_assoc] at hq; exact (List.append_cancel_left hq).symm
      have e : lstep ⟨ps, place, ((n + 1 : Nat) : Int), d, c⟩ (nxt r pl frm place) = ⟨setI ps (nxt r pl frm place) (getI ps (nxt r pl frm place) + 1), nxt r pl frm place, (n : Int), d, addF c (nxt r pl frm place)⟩ := by
        unfold lstep
        rw [if_neg (by show ¬ ((n + 1 : Nat) : Int) = 0; omega)]
        dsimp only
        unfold incP
        rw [if_pos (by omega), show ((n + 1 : Nat) : Int) - 1 = (n : Int) by omega]
      rw [hqq, List.take_succ_cons]
      show PI r (lsteps (lstep _ _) _)
      rw [e]
      have hG2 := hG.putPit (k := nxt r pl frm place) (by omega) (by omega) hbd.2
      rw [show ((n + 1 : Nat) : Int) - 1 = (n : Int) by omega] at hG2
      exact sow_pre r pl frm hb hc hp f0 n _ _ ss _ q' hG2 hbd.1 hbd.2 h1 d _ j (by omega)
theorem lap_pre {r : Rul} {pl frm : Int} (hb : r.pits ≤ 8) (hc : 2 ≤ r.pits) (hp : pl = 0 ∨ pl = 1) (f0 : 0 ≤ frm) (f1 : frm < 2 * r.pits) {s : Sw} {path q : List Int} (hG : Good r s.pits s.stores 0) (h0 : 0 < getI s.pits frm) (hq : (lap r pl frm s path).2 = path ++ q) (d c : List Fct) (j : Nat) (hj : (j : Int) < getI s.pits frm) :
    PI r (lsteps ⟨s.pits, frm, 0, d, c⟩ (q.take j)) := by
  cases j with
  | zero => exact ⟨⟨s.stores, hG⟩, ⟨by show -1 ≤ frm; omega, f1⟩, fun _ => ⟨f0, h0⟩⟩
  | succ j =>
    have hG2 := hG.takeUp f0 f1
    have hn : (((getI s.pits frm).toNat : Nat) : Int) = getI s.pits frm := by omega
    have := sow_pre r pl frm hb hc hp f0 (getI s.pits frm).toNat frm (setI s.pits frm 0) s.stores path q (by rw [hn]; exact hG2) (by omega) f1 hq ((d ++ c) ++ [⟨1, frm, getI s.pits frm⟩]) [] (j + 1) (by omega)
    cases q with
    | nil =>
      obtain ⟨q2, h1, h2, _⟩ := lap_steps r pl frm s path h0
      rw [h1] at hq
      have := List.append_cancel_left hq
      rw [this] at h2; simp at h2; omega
    | cons x q =>
      have e : lstep ⟨s.pits, frm, 0, d, c⟩ x = lstep ⟨setI s.pits frm 0, frm, ((getI s.pits frm).toNat : Int), (d ++ c) ++ [⟨1, frm, getI s.pits frm⟩], []⟩ x := by
        unfold lstep
        rw [if_pos rfl, if_neg (by show ¬ (((getI s.pits frm).toNat : Nat) : Int) = 0; omega)]
        dsimp only
        rw [hn]
      rw [List.take_succ_cons] at this ⊢
      show PI r (lsteps (lstep _ _) _)
      rw [e]
      exact this
theorem mvT_pre {r : Rul} {pl : Int} (hb : r.pits ≤ 8) (hc : 2 ≤ r.pits) (hp : pl = 0 ∨ pl = 1) : ∀ (n : Nat) (frm : Int) (s : Sw) (path : List Int), 0 ≤ frm → frm < 2 * r.pits → Good r s.pits s.stores 0 → 0 < getI s.pits frm → (mvT r pl n frm s path).1 = true →
    ∃ q, (mvT r pl n frm s path).2.2 = path ++ q ∧ ∀ (d c : List Fct) (j : Nat), j < q.length → PI r (lsteps ⟨s.pits, frm, 0, d, c⟩ (q.take j))
  | 0, frm, s, path, _, _, _, _, h => by simp [mvT] at h
  | n + 1, frm, s, path, f0, f1, hG, h0, h => by
    obtain ⟨q1, h1, h2, h3⟩ := lap_steps r pl frm s path h0
    obtain ⟨ha, hb1, hc1, hd, he, hf⟩ := lap_keeps r path hb hc hp f0 f1 hG
    cases hm : more r (lap r pl frm s path).1 with
    | false =>
      rw [mvT_no hm]
      exact ⟨q1, h1, fun d c j hj => lap_pre hb hc hp f0 f1 hG h0 h1 d c j (by omega)⟩
    | true =>
      rw [mvT_yes hm] at h ⊢
      have hm2 := more_get hm
      obtain ⟨q2, h4, h5⟩ := mvT_pre hb hc hp n _ _ _ hm2.1 hc1 ha (by omega) h
      refine ⟨q1 ++ q2, by rw [h4, h1, List.append_assoc], fun d c j hj => ?_⟩
      rw [List.length_append] at hj
      by_cases hj1 : j < q1.length
      · rw [List.take_append_of_le_length (by omega)]
        exact lap_pre hb hc hp f0 f1 hG h0 h1 d c j (by omega)
      · rw [List.take_append, List.take_of_length_le (by omega), lsteps_app, h3 d c]
        exact h5 _ _ (j - q1.length) (by omega)
theorem move_pre {r : Rul} {p : Pos} {move : Int} (hs : (sowMove r p move).1 = 0) : ∀ j : Nat, j < (sowMove r p move).2.2.length → PI r (lsteps (lap0 p (p.player * r.pits + move)) ((sowMove r p move).2.2.take j)) := by
  have hc : sowCode r p move = 0 := by
    by_cases e : sowCode r p move = 0
    · exact e
    · rw [sowMove_code e] at hs; exact hs
  obtain ⟨hok, m0, m1, hg⟩ := sowCode_ok hc
  obtain ⟨g1, g2, g3, g4, g5, g6, g7⟩ := okP_bd hok
  have hq := mul_bd g7 g1 g2
  have hG := Good.of_ok hok
  have hT := mvT_true hs
  obtain ⟨q, h1, h2⟩ := mvT_pre g2 g1 g7 100 (p.player * r.pits + move) ⟨p.pits, p.stores, 0, 0⟩ [] (by omega) (by omega) hG hg hT
  have e := (sowMove_yes hc hT)
  rw [e]
  dsimp only
  rw [h1, List.nil_append]
  exact h2 [] []
def sowL (l : List Fct) (b : Nat) (x : Int) : List Fct := l.take b ++ addF (l.drop b) x
def NoF (l : List Fct) (b i : Nat) (x : Int) : Prop := ∀ j, b ≤ j → j < i → (fct l j).place ≠ x
theorem NoF.zero (l : List Fct) (b : Nat) (x : Int) : NoF l b b x := fun j h1 h2 => absurd h1 (by omega)
theorem NoF.step {l : List Fct} {b i : Nat} {x : Int} (h : NoF l b i x) (hx : (fct l i).place ≠ x) : NoF l b (i + 1) x := fun j h1 h2 => by
  by_cases e : j = i
  · rw [e]; exact hx
  · exact h j h1 (by omega)
theorem addF_hit : ∀ {l : List Fct} {x : Int} {n : Nat}, (∀ j, j < n → (fct l j).place ≠ x) → n < l.length → (fct l n).place = x → addF l x = l.set n ⟨(fct l n).kind, (fct l n).place, (fct l n).count + 1⟩
  | [], _, _, _, h, _ => by simp at h
  | f :: l, x, 0, _, _, hx => by
    have hx : f.place = x := hx
    rw [addF, if_pos hx]; rfl
  | f :: l, x, n + 1, h, hl, hx => by
    have h0 : f.place ≠ x := h 0 (by omega)
    have := addF_hit (l := l) (x := x) (n := n) (fun j hj => h (j + 1) (by omega)) (by simpa using hl) hx
    rw [addF, if_neg h0, this]; rfl
theorem addF_miss : ∀ {l : List Fct} {x : Int}, (∀ j, j < l.length → (fct l j).place ≠ x) → addF l x = l ++ [⟨2, x, 1⟩]
  | [], _, _ => rfl
  | f :: l, x, h => by
    have h0 : f.place ≠ x := h 0 (by simp)
    have := addF_miss (l := l) (x := x) (fun j hj => h (j + 1) (by simpa using hj))
    rw [addF, if_neg h0, this]; rfl
theorem fct_drop (l : List Fct) (b j : Nat) : fct (l.drop b) j = fct l (b + j) := by
  unfold fct; rw [List.getD_eq_getElem?_getD, List.getD_eq_getElem?_getD, List.getElem?_drop]
theorem sowL_hit {l : List Fct} {b i : Nat} {x : Int} (h : NoF l b i x) (hb : b ≤ i) (hi : i < l.length) (hx : (fct l i).place = x) : l.set i ⟨(fct l i).kind, (fct l i).place, (fct l i).count + 1⟩ = sowL l b x := by
  have e : b + (i - b) = i := by omega
  have := addF_hit (l := l.drop b) (x := x) (n := i - b) (fun j hj => by rw [fct_drop]; exact h (b + j) (by omega) (by omega)) (by rw [List.length_drop]; omega) (by rw [fct_drop, e]; exact hx)
  unfold sowL
  rw [this, fct_drop, e]
  have e3 : ∀ v : Fct, l.set i v = l.take b ++ (l.drop b).set (i - b) v := fun v => by
    conv => lhs; rw [← List.take_append_drop b l]
    rw [List.set_append_right _ _ (by rw [List.length_take]; omega), List.length_take, Nat.min_eq_left (by omega)]
  exact e3 _
theorem sowL_miss {l : List Fct} {b i : Nat} {x : Int} (h : NoF l b i x) (hb : b ≤ l.length) (hi : l.length ≤ i) : l ++ [⟨2, x, 1⟩] = sowL l b x := by
  have := addF_miss (l := l.drop b) (x := x) (fun j hj => by rw [List.length_drop] at hj; rw [fct_drop]; exact h (b + j) (by omega) (by omega))
  unfold sowL
  rw [this, ← List.append_assoc, List.take_append_drop]
theorem sowL_at (d c : List Fct) (x : Int) : sowL (d ++ c) d.length x = d ++ addF c x := by
  unfold sowL; rw [List.take_left, List.drop_left]
def CB (l : List Fct) (n : Int) : Prop := ∀ f ∈ l, 0 ≤ f.count ∧ f.count ≤ n
theorem CB.nil (n : Int) : CB [] n := fun f h => by simp at h
theorem CB.mono {l : List Fct} {n m : Int} (h : CB l n) (hm : n ≤ m) : CB l m := fun f hf => ⟨(h f hf).1, Int.le_trans (h f hf).2 hm⟩
theorem CB.app {l : List Fct} {n : Int} {f : Fct} (h : CB l n) (h0 : 0 ≤ f.count) (hf : f.count ≤ n) : CB (l ++ [f]) n := fun g hg => by
  rcases List.mem_append.1 hg with hg | hg
  · exact h g hg
  · rw [List.mem_singleton.1 hg]; exact ⟨h0, hf⟩
theorem CB.add {x : Int} : ∀ {l : List Fct} {n : Int}, 0 ≤ n → CB l n → CB (addF l x) (n + 1)
  | [], n, hn, _ => fun f hf => by rw [addF, List.mem_singleton] at hf; subst hf; exact ⟨by show (0 : Int) ≤ 1; decide, by show (1 : Int) ≤ n + 1; omega⟩
  | g :: l, n, hn, h => by
    have hl : CB l n := fun f hf => h f (by simp [hf])
    have hg := h g (by simp)
    rw [addF]
    split
    · intro f hf
      rcases List.mem_cons.1 hf with rfl | hf
      · exact ⟨by show 0 ≤ g.count + 1; omega, by show g.count + 1 ≤ n + 1; omega⟩
      · have := hl f hf; omega
    · intro f hf
      rcases List.mem_cons.1 hf with rfl | hf
      · omega
      · exact CB.add hn hl f hf
theorem CB.sow {l : List Fct} {n : Int} (h : CB l n) (hn : 0 ≤ n) (b : Nat) (x : Int) : CB (sowL l b x) (n + 1) := fun f hf => by
  unfold sowL at hf
  rcases List.mem_append.1 hf with hf | hf
  · have := h f (List.mem_of_mem_take hf); omega
  · exact CB.add (l := l.drop b) hn (fun g hg => h g (List.mem_of_mem_drop hg)) f hf
theorem CB.fct {l : List Fct} {n : Int} (h : CB l n) {i : Nat} (hi : i < l.length) : 0 ≤ (fct l i).count ∧ (fct l i).count ≤ n := h _ (List.mem_of_getElem? (fct_get hi))
theorem sowL_len (l : List Fct) (b : Nat) (x : Int) : (sowL l b x).length ≤ l.length + 1 := by
  have := addF_len (l.drop b) x
  unfold sowL
  rw [List.length_append, List.length_take]; rw [List.length_drop] at this; omega
section
variable {S0 : Lps} {path : List Int} {i : Nat} {ps : List Int} {frm left : Int} {d c : List Fct}
theorem lst_get (h : lsteps S0 (path.take i) = ⟨ps, frm, left, d, c⟩) (hi : i < path.length) : lsteps S0 (path.take (i + 1)) = lstep ⟨ps, frm, left, d, c⟩ (nth path i) := by
  rw [take_nth hi, lsteps_snoc, h]
theorem lst_zp (h : lsteps S0 (path.take i) = ⟨ps, frm, left, d, c⟩) (hi : i < path.length) (hl : left = 0) (hx : 0 ≤ nth path i) :
    lsteps S0 (path.take (i + 1)) = ⟨setI (setI ps frm 0) (nth path i) (getI (setI ps frm 0) (nth path i) + 1), nth path i, getI ps frm - 1, (d ++ c) ++ [⟨1, frm, getI ps frm⟩], addF [] (nth path i)⟩ := by
  rw [lst_get h hi]; unfold lstep incP; rw [if_pos hl]; dsimp only; rw [if_pos hx]
theorem lst_zn (h : lsteps S0 (path.take i) = ⟨ps, frm, left, d, c⟩) (hi : i < path.length) (hl : left = 0) (hx : ¬ 0 ≤ nth path i) :
    lsteps S0 (path.take (i + 1)) = ⟨setI ps frm 0, nth path i, getI ps frm - 1, (d ++ c) ++ [⟨1, frm, getI ps frm⟩], addF [] (nth path i)⟩ := by
  rw [lst_get h hi]; unfold lstep incP; rw [if_pos hl]; dsimp only; rw [if_neg hx]
theorem lst_np (h : lsteps S0 (path.take i) = ⟨ps, frm, left, d, c⟩) (hi : i < path.length) (hl : ¬ left = 0) (hx : 0 ≤ nth path i) :
    lsteps S0 (path.take (i + 1)) = ⟨setI ps (nth path i) (getI ps (nth path i) + 1), nth path i, left - 1, d, addF c (nth path i)⟩ := by
  rw [lst_get h hi]; unfold lstep incP; rw [if_neg hl]; dsimp only; rw [if_pos hx]
theorem lst_nn (h : lsteps S0 (path.take i) = ⟨ps, frm, left, d, c⟩) (hi : i < path.length) (hl : ¬ left = 0) (hx : ¬ 0 ≤ nth path i) :
    lsteps S0 (path.take (i + 1)) = ⟨ps, nth path i, left - 1, d, addF c (nth path i)⟩ := by
  rw [lst_get h hi]; unfold lstep incP; rw [if_neg hl]; dsimp only; rw [if_neg hx]
end
theorem lsteps_last {S0 : Lps} {path : List Int} {i : Nat} (hi : i < path.length) : (lsteps S0 (path.take (i + 1))).frm = nth path i := by
  rw [take_nth hi, lsteps_snoc]; unfold lstep; split <;> rfl
theorem mvT_last {r : Rul} {pl : Int} : ∀ (n : Nat) (frm : Int) (s : Sw) (path : List Int), 0 ≤ frm → 0 < getI s.pits frm → (∀ s', more r s' = true → 0 ≤ s'.last ∧ 1 < getI s'.pits s'.last) → (mvT r pl n frm s path).1 = true → ∃ q, q ≠ [] ∧ (mvT r pl n frm s path).2.2 = path ++ q ∧ ∀ d c, (lsteps ⟨s.pits, frm, 0, d, c⟩ q).frm = (mvT r pl n frm s path).2.1.last
  | 0, frm, s, path, _, _, _, h => by simp [mvT] at h
  | n + 1, frm, s, path, f0, h0, hm0, h => by
    obtain ⟨q1, h1, h2, h3⟩ := lap_steps r pl frm s path h0
    have hq1 : q1 ≠ [] := fun e => by rw [e] at h2; simp at h2; omega
    cases hm : more r (lap r pl frm s path).1 with
    | false =>
      rw [mvT_no hm]
      exact ⟨q1, hq1, h1, fun d c => by rw [h3 d c]⟩
    | true =>
      rw [mvT_yes hm] at h ⊢
      have hm2 := hm0 _ hm
      obtain ⟨q2, _, h4, h5⟩ := mvT_last n _ _ _ hm2.1 (by omega) hm0 h
      exact ⟨q1 ++ q2, by simp [hq1], by rw [h4, h1, List.append_assoc], fun d c => by rw [lsteps_app, h3 d c]; exact h5 _ _⟩
theorem path_bd {r : Rul} {p : Pos} {move : Int} (hs : (sowMove r p move).1 = 0) {i : Nat} (hi : i < (sowMove r p move).2.2.length) : -1 ≤ nth (sowMove r p move).2.2 i ∧ nth (sowMove r p move).2.2 i < 2 * r.pits := by
  by_cases h1 : i + 1 < (sowMove r p move).2.2.length
  · have := (move_pre hs (i + 1) h1).f
    rwa [lsteps_last hi] at this
  · obtain ⟨hok, m0, m1, hG, q0, q1, hsum⟩ := sowMove_ok hs
    have hc : sowCode r p move = 0 := by
      by_cases e : sowCode r p move = 0
      · exact e
      · rw [sowMove_code e] at hs; exact hs
    obtain ⟨_, _, _, hg⟩ := sowCode_ok hc
    obtain ⟨g1, g2, g3, g4, g5, g6, g7⟩ := okP_bd hok
    have hq := mul_bd g7 g1 g2
    have hT := mvT_true hs
    obtain ⟨q, _, h4, h5⟩ := mvT_last 100 (p.player * r.pits + move) ⟨p.pits, p.stores, 0, 0⟩ [] (by omega) hg (fun s' h => more_get h) hT
    have e := sowMove_yes hc hT
    have h6 := h5 [] []
    have h7 : (sowMove r p move).2.2 = q := by rw [e]; dsimp only; rw [h4, List.nil_append]
    have h8 : (sowMove r p move).2.1.last = nth (sowMove r p move).2.2 i := by
      have h9 := lsteps_last (S0 := lap0 p (p.player * r.pits + move)) hi
      rw [List.take_of_length_le (by omega), h7] at h9
      exact (congrArg (fun z : Int × Sw × List Int => z.2.1.last) e).trans (h6.symm.trans (h9.trans (by rw [h7])))
    rw [← h8]; exact ⟨q0, q1⟩
theorem lapsF_of {r : Rul} {p : Pos} {move : Int} {ps : List Int} {frm left : Int} {d c out : List Fct} {i : Nat} (h : lsteps (lap0 p (p.player * r.pits + move)) ((sowMove r p move).2.2.take i) = ⟨ps, frm, left, d, c⟩) (ho : out = d ++ c) (hi : (sowMove r p move).2.2.length ≤ i) : lapsF r p move = out := by
  rw [List.take_of_length_le hi] at h
  unfold lapsF; rw [h, ho]
theorem path_len {r : Rul} {p : Pos} {move : Int} (hs : (sowMove r p move).1 = 0) : (sowMove r p move).2.2.length ≤ 9600 := by
  have hc : sowCode r p move = 0 := by
    by_cases e : sowCode r p move = 0
    · exact e
    · rw [sowMove_code e] at hs; exact hs
  obtain ⟨hok, m0, m1, hg⟩ := sowCode_ok hc
  obtain ⟨g1, g2, g3, g4, g5, g6, g7⟩ := okP_bd hok
  have hq := mul_bd g7 g1 g2
  have hT := mvT_true hs
  have : ∀ (n : Nat) (frm : Int) (s : Sw) (path : List Int), 0 ≤ frm → frm < 2 * r.pits → Good r s.pits s.stores 0 → 0 < getI s.pits frm → (mvT r p.player n frm s path).2.2.length ≤ path.length + 96 * n := by
    intro n
    induction n with
    | zero => intro frm s path _ _ _ _; simp [mvT]
    | succ n ih =>
      intro frm s path f0 f1 hG h0
      obtain ⟨ha, hb1, hc1, hd, he, hf⟩ := lap_keeps r path g2 g1 g7 f0 f1 hG
      cases hm : more r (lap r p.player frm s path).1 with
      | false => rw [mvT_no hm]; dsimp only; omega
      | true =>
        rw [mvT_yes hm]
        have hm2 := more_get hm
        have := ih _ _ (lap r p.player frm s path).2 hm2.1 hc1 ha (by omega)
        omega
  have := this 100 (p.player * r.pits + move) ⟨p.pits, p.stores, 0, 0⟩ [] (by omega) (by omega) (Good.of_ok hok) hg
  rw [sowMove_yes hc hT]
  simpa using this
theorem make_sow0 {r : Rul} {p : Pos} {move : Int} (h : (make r p move).2 = 0) : (sowMove r p move).1 = 0 := by
  rw [make_code] at h; exact (done_ok h).1
theorem capF_all {r : Rul} {p : Pos} {sw : Sw} {base out : List Fct} {k : Nat} (h : out = base ++ ((captured r sw p.player).take k).map fun x => (⟨3, x, getI sw.pits x⟩ : Fct)) (hk : (captured r sw p.player).length ≤ k) : out = base ++ capF r p sw := by
  rw [h, List.take_of_length_le hk]; rfl
theorem spaF_y {r : Rul} {p : Pos} {s : Sw} (h1 : captured r s p.player = []) (h2 : taken r s p.player ≠ []) : spaF r p s = [⟨4, s.last, isum ((taken r s p.player).map (getI s.pits))⟩] := if_pos ⟨h1, h2⟩
theorem spaF_n {r : Rul} {p : Pos} {s : Sw} (h : ¬ (captured r s p.player = [] ∧ taken r s p.player ≠ [])) : spaF r p s = [] := if_neg h
theorem lapsF_len {r : Rul} {p : Pos} {move : Int} : (lapsF r p move).length ≤ 2 * (sowMove r p move).2.2.length := by
  have : ∀ (q : List Int) (S : Lps), ((lsteps S q).done ++ (lsteps S q).cur).length ≤ (S.done ++ S.cur).length + 2 * q.length := by
    intro q
    induction q with
    | nil => intro S; exact Nat.le_refl _
    | cons x q ih =>
      intro S
      have h1 := ih (lstep S x)
      have h2 : ((lstep S x).done ++ (lstep S x).cur).length ≤ (S.done ++ S.cur).length + 2 := by
        unfold lstep
        split
        · have := addF_len [] x
          simp only [List.length_append, List.length_cons, List.length_nil] at this ⊢; omega
        · have := addF_len S.cur x
          simp only [List.length_append] at this ⊢; omega
      show ((lsteps (lstep S x) q).done ++ (lsteps (lstep S x) q).cur).length ≤ _
      rw [List.length_cons]; omega
  have h := this (sowMove r p move).2.2 (lap0 p (p.player * r.pits + move))
  unfold lapsF
  simpa [lap0] using h
def canW (f : Fct) : Bool :=
  if f.kind = 5 ∨ f.kind = 6 then decide (f.place = 0) && decide (f.count = 0) else
  if 1 ≤ f.kind ∧ f.kind ≤ 4 then betw f.count 1 96 && (betw f.place 0 15 || (decide (f.place = -1) && decide (f.kind = 2))) else false
def placeT (k : Int) : List UInt8 := if k < 0 then [115, 116, 111, 114, 101] else dec k
def factT0 (f : Fct) : List UInt8 :=
  if f.kind = 1 then ([116, 97, 107, 101, 32] ++ dec f.count) ++ [32, 102, 114, 111, 109, 32] ++ placeT f.place else
  if f.kind = 2 then ([115, 111, 119, 32] ++ dec f.count) ++ [32, 105, 110, 116, 111, 32] ++ placeT f.place else
  if f.kind = 3 then ([99, 97, 112, 116, 117, 114, 101, 32] ++ dec f.count) ++ [32, 102, 114, 111, 109, 32] ++ placeT f.place else
  if f.kind = 4 then ([115, 112, 97, 114, 101, 32] ++ dec f.count) ++ [32, 102, 114, 111, 109, 32] ++ placeT f.place else
  if f.kind = 5 then [97, 103, 97, 105, 110] else [116, 117, 114, 110]
theorem canW_k {f : Fct} (h : canW f = true) : 1 ≤ f.kind ∧ f.kind ≤ 6 := by
  unfold canW at h
  split at h
  · omega
  · split at h
    · omega
    · cases h
def FW (f : Fct) : Prop := (f.kind = 1 ∨ f.kind = 2) ∧ -1 ≤ f.place ∧ f.place ≤ 15 ∧ (f.place = -1 → f.kind = 2) ∧ 1 ≤ f.count ∧ f.count ≤ 96
theorem FW.can {f : Fct} (h : FW f) : canW f = true := by
  obtain ⟨h1, h2, h3, h4, h5, h6⟩ := h
  unfold canW
  rw [if_neg (by omega), if_pos (by omega), betw_iff.2 ⟨h5, h6⟩]
  by_cases e : f.place = -1
  · simp [e, h4 e]
  · rw [betw_iff.2 ⟨by omega, h3⟩]; rfl
def csum : List Fct → Int
  | [] => 0
  | f :: l => f.count + csum l
theorem csum_add : ∀ (l : List Fct) (x : Int), csum (addF l x) = csum l + 1
  | [], x => rfl
  | f :: l, x => by
    rw [addF]; split
    · show f.count + 1 + csum l = f.count + csum l + 1; omega
    · show f.count + csum (addF l x) = f.count + csum l + 1; rw [csum_add l x]; omega
def SowOk (l : List Fct) : Prop := ∀ f ∈ l, f.kind = 2 ∧ -1 ≤ f.place ∧ f.place ≤ 15 ∧ 1 ≤ f.count
theorem SowOk.add {x : Int} (h0 : -1 ≤ x) (h1 : x ≤ 15) : ∀ {l : List Fct}, SowOk l → SowOk (addF l x)
  | [], _ => fun f hf => by rw [addF, List.mem_singleton] at hf; subst hf; exact ⟨rfl, h0, h1, by show (1 : Int) ≤ 1; decide⟩
  | g :: l, h => by
    have hl : SowOk l := fun f hf => h f (by simp [hf])
    have hg := h g (by simp)
    rw [addF]; split
    · intro f hf
      rcases List.mem_cons.1 hf with rfl | hf
      · exact ⟨hg.1, hg.2.1, hg.2.2.1, by show 1 ≤ g.count + 1; omega⟩
      · exact hl f hf
    · intro f hf
      rcases List.mem_cons.1 hf with rfl | hf
      · exact hg
      · exact SowOk.add h0 h1 hl f hf
theorem SowOk.sum : ∀ {l : List Fct}, SowOk l → 0 ≤ csum l ∧ ∀ f ∈ l, f.count ≤ csum l
  | [], _ => ⟨Int.le_refl _, fun f h => by simp at h⟩
  | g :: l, h => by
    have hl : SowOk l := fun f hf => h f (by simp [hf])
    have hg := h g (by simp)
    obtain ⟨h1, h2⟩ := SowOk.sum hl
    refine ⟨by show 0 ≤ g.count + csum l; omega, fun f hf => ?_⟩
    show f.count ≤ g.count + csum l
    rcases List.mem_cons.1 hf with rfl | hf
    · omega
    · have := h2 f hf; omega
theorem SowOk.fw {l : List Fct} (h : SowOk l) (hs : csum l ≤ 96) : ∀ f ∈ l, FW f := fun f hf => by
  have h1 := (SowOk.sum h).2 f hf
  obtain ⟨a, b, c, d⟩ := h f hf
  exact ⟨.inr a, b, c, fun _ => a, d, by omega⟩
structure LW (S : Lps) : Prop where
  d : ∀ f ∈ S.done, FW f
  c : SowOk S.cur
  s : csum S.cur + S.left ≤ 96
theorem LW.step {r : Rul} {S : Lps} (h : LW S) (hP : PI r S) (hr : r.pits ≤ 8) {x : Int} (h0 : -1 ≤ x) (h1 : x < 2 * r.pits) : LW (lstep S x) := by
  obtain ⟨ss, hG⟩ := hP.g
  have hn := hG.n0
  unfold lstep
  split
  · rename_i hz
    obtain ⟨z1, z2⟩ := hP.z hz
    have hp := hG.pit S.frm
    have hf := hP.f
    have hs := h.s
    have hfw : FW ⟨1, S.frm, getI S.pits S.frm⟩ := ⟨.inl rfl, by show -1 ≤ S.frm; omega, by show S.frm ≤ 15; omega, fun e => by have e : S.frm = -1 := e; omega, by show 1 ≤ getI S.pits S.frm; omega, hp.2⟩
    refine ⟨fun f hf => ?_, SowOk.add h0 (by omega) (fun f hf => by simp at hf), ?_⟩
    · dsimp only at hf
      rcases List.mem_append.1 hf with hf | hf
      · rcases List.mem_append.1 hf with hf | hf
        · exact h.d f hf
        · exact SowOk.fw h.c (by omega) f hf
      · rw [List.mem_singleton.1 hf]; exact hfw
    · show csum (addF [] x) + (getI S.pits S.frm - 1) ≤ 96
      rw [csum_add]; show (0 : Int) + 1 + (getI S.pits S.frm - 1) ≤ 96; omega
  · have hs := h.s
    refine ⟨h.d, SowOk.add h0 (by omega) h.c, ?_⟩
    show csum (addF S.cur x) + (S.left - 1) ≤ 96
    rw [csum_add]; omega
theorem laps_fw {r : Rul} {p : Pos} {move : Int} (hs : (sowMove r p move).1 = 0) : ∀ f ∈ lapsF r p move, FW f := by
  obtain ⟨hok, m0, m1, hG, q0, q1, hsum⟩ := sowMove_ok hs
  obtain ⟨g1, g2, g3, g4, g5, g6, g7⟩ := okP_bd hok
  have : ∀ i : Nat, i ≤ (sowMove r p move).2.2.length → LW (lsteps (lap0 p (p.player * r.pits + move)) ((sowMove r p move).2.2.take i)) ∧ 0 ≤ (lsteps (lap0 p (p.player * r.pits + move)) ((sowMove r p move).2.2.take i)).left := by
    intro i
    induction i with
    | zero => intro _; exact ⟨⟨fun f h => by simp [lsteps, lap0] at h, fun f h => by simp [lsteps, lap0] at h, by show (0 : Int) + 0 ≤ 96; decide⟩, by show (0 : Int) ≤ 0; decide⟩
    | succ i ih =>
      intro hi
      have hP := move_pre hs i (by omega)
      obtain ⟨b0, b1⟩ := path_bd hs (i := i) (by omega)
      obtain ⟨ih1, ih2⟩ := ih (by omega)
      rw [take_nth (by omega), lsteps_snoc]
      refine ⟨ih1.step hP g2 b0 b1, ?_⟩
      generalize lsteps (lap0 p (p.player * r.pits + move)) ((sowMove r p move).2.2.take i) = S at hP ih2 ⊢
      unfold lstep
      split
      · rename_i hz
        have := (hP.z hz).2
        show 0 ≤ getI S.pits S.frm - 1; omega
      · rename_i hz
        show 0 ≤ S.left - 1; omega
  obtain ⟨h1, h2⟩ := this _ (Nat.le_refl _)
  rw [List.take_length] at h1 h2
  intro f hf
  unfold lapsF at hf
  rcases List.mem_append.1 hf with hf | hf
  · exact h1.d f hf
  · exact SowOk.fw h1.c (by have := h1.s; omega) f hf
end Go.Proofs.Ytjgohnaobbphpaa.M

/- Plain mathematics: rules are read back from their texts; problems are told where they are. -/
import Derived.Test.YthdmaamdlibjaaaDoorZcA3
set_option linter.unusedSimpArgs false
set_option linter.unusedVariables false
set_option maxHeartbeats 2000000
namespace Go.Proofs.YthdmaamdlibjaaaDoor.M
theorem split_join : ∀ {ws : List (List UInt8)}, ws ≠ [] → (∀ w ∈ ws, (32 : UInt8) ∉ w) → split 32 (joinW 32 ws) = ws
  | [], h, _ => absurd rfl h
  | [w], _, h => split_last 32 w (h w (by simp))
  | w :: v :: ws, _, h => by
    show split 32 (w ++ 32 :: joinW 32 (v :: ws)) = _
    rw [split_app 32 _ _ (h w (by simp)), split_join (by simp) (fun x hx => h x (by simp [hx]))]
def pW (a : Int) : List UInt8 := [112, 105, 116, 115, 61] ++ dec a
def sW (a : Int) : List UInt8 := [115, 101, 101, 100, 115, 61] ++ dec a
def cW (a : Int) : List UInt8 := [99, 97, 112, 116, 117, 114, 101, 61] ++ capName a
def lW (a : Int) : List UInt8 := [115, 108, 97, 109, 61] ++ slamName a
structure Wok (w : List UInt8) (i : Nat) (n : Int) : Prop where
  v : wrd w = ((i : Int), n, 0)
  b : (32 : UInt8) ∉ w
  e : w ≠ []
  l : w.length ≤ 17
theorem pW_ok {a : Int} (h0 : 2 ≤ a) (h1 : a ≤ 8) : Wok (pW a) 0 a := by
  have : a = 2 ∨ a = 3 ∨ a = 4 ∨ a = 5 ∨ a = 6 ∨ a = 7 ∨ a = 8 := by omega
  rcases this with rfl | rfl | rfl | rfl | rfl | rfl | rfl <;> exact ⟨by decide +kernel, by decide +kernel, by decide +kernel, by decide +kernel⟩
theorem sW_ok {a : Int} (h0 : 1 ≤ a) (h1 : a ≤ 6) : Wok (sW a) 1 a := by
  have : a = 1 ∨ a = 2 ∨ a = 3 ∨ a = 4 ∨ a = 5 ∨ a = 6 := by omega
  rcases this with rfl | rfl | rfl | rfl | rfl | rfl <;> exact ⟨by decide +kernel, by decide +kernel, by decide +kernel, by decide +kernel⟩
theorem cW_ok {a : Int} (h0 : 0 ≤ a) (h1 : a ≤ 3) : Wok (cW a) 7 a := by
  have : a = 0 ∨ a = 1 ∨ a = 2 ∨ a = 3 := by omega
  rcases this with rfl | rfl | rfl | rfl <;> exact ⟨by decide +kernel, by decide +kernel, by decide +kernel, by decide +kernel⟩
theorem lW_ok {a : Int} (h0 : 0 ≤ a) (h1 : a ≤ 2) : Wok (lW a) 8 a := by
  have : a = 0 ∨ a = 1 ∨ a = 2 := by omega
  rcases this with rfl | rfl | rfl <;> exact ⟨by decide +kernel, by decide +kernel, by decide +kernel, by decide +kernel⟩
theorem fW_ok {y : List UInt8} (h : y ∈ fNames) : Wok y (flagIx y) 1 := by
  simp only [fNames, List.mem_cons, List.not_mem_nil, or_false] at h
  rcases h with rfl | rfl | rfl | rfl | rfl <;> exact ⟨by decide +kernel, by decide +kernel, by decide +kernel, by decide +kernel⟩
def runL : List (Nat × Int) → List Int → List Bool → Option (List Int × List Bool)
  | [], v, s => some (v, s)
  | p :: r, v, s => if blt s p.1 = true then none else runL r (setI v (p.1 : Int) p.2) (s.set p.1 true)
theorem run_end {s : List UInt8} {L : List (Nat × Int)} (hL : (wds s).map wrd = L.map fun p => ((p.1 : Int), p.2, 0)) {v' : List Int} {b' : List Bool} : ∀ (m k : Nat) (v : List Int) (b : List Bool) (ag : Int), m = (wds s).length - k → k ≤ (wds s).length → chkN s k = ⟨v, b, ag, []⟩ → runL (L.drop k) v b = some (v', b') →
    ∃ ag', chkA s = ⟨v', b', ag', []⟩
  | 0, k, v, b, ag, hm, hk, hC, hR => by
    have hk2 : k = (wds s).length := by omega
    have hl : L.length = (wds s).length := by have := congrArg List.length hL; simpa using this.symm
    rw [List.drop_eq_nil_of_le (by omega), runL] at hR
    injection hR with hR
    injection hR with h1 h2
    subst h1; subst h2
    exact ⟨ag, by rw [chkA, ← hk2, hC]⟩
  | m + 1, k, v, b, ag, hm, hk, hC, hR => by
    have hk2 : k < (wds s).length := by omega
    have hl : L.length = (wds s).length := by have := congrArg List.length hL; simpa using this.symm
    have hkL : k < L.length := by omega
    have hw : wrd ((wds s)[k]) = ((L[k].1 : Int), L[k].2, 0) := by
      have h9 := congrArg (fun l : List (Int × Int × Int) => l[k]?) hL
      simp only [List.getElem?_map, List.getElem?_eq_getElem hk2, List.getElem?_eq_getElem hkL, Option.map_some] at h9
      exact Option.some.inj h9
    rw [List.drop_eq_getElem_cons hkL, runL] at hR
    split at hR
    · cases hR
    · rename_i hb
      have h1 := chk_z hC (List.getElem?_eq_getElem hk2) (by rw [hw]; simpa using hb) (by rw [hw])
      rw [hw] at h1
      dsimp only at h1
      rw [Int.toNat_natCast] at h1
      exact run_end hL m (k + 1) _ _ _ (by omega) hk2 h1 hR
theorem chk_words {s : List UInt8} {L : List (Nat × Int)} {v : List Int} {b : List Bool} (hL : (wds s).map wrd = L.map fun p => ((p.1 : Int), p.2, 0)) (hR : runL L (List.replicate 9 0) (List.replicate 9 false) = some (v, b)) (h0 : blt b 0 = true) (h1 : blt b 1 = true) (h6 : ¬ (nth v 6 = 1 ∧ nth v 2 = 0)) :
    chkO s = [] ∧ chkR s = rulV v := by
  obtain ⟨ag, hA⟩ := run_end hL _ 0 _ _ 0 rfl (Nat.zero_le _) rfl hR
  refine ⟨?_, by rw [chkR, hA]⟩
  unfold chkO
  rw [hA, if_neg h6, List.append_nil, chkM, chkM, chkM, hA]
  dsimp only
  rw [if_pos h0, if_pos h1]; rfl
def fW (r : Rul) : List (List UInt8) := fNames.filter fun y => flagB r y
def rW (r : Rul) : List (List UInt8) := [pW r.pits, sW r.seeds, cW r.capture, lW r.slam] ++ fW r
def fL (r : Rul) : List (Nat × Int) := (fW r).map fun y => (flagIx y, 1)
def rL (r : Rul) : List (Nat × Int) := [(0, r.pits), (1, r.seeds), (7, r.capture), (8, r.slam)] ++ fL r
theorem rulesT_join (r : Rul) : rulesT r = joinW 32 (rW r) := by
  obtain ⟨a, b, st, sk, re, fe, ag, c, d⟩ := r
  cases st <;> cases sk <;> cases re <;> cases fe <;> cases ag <;>
    simp [rulesT, rulesN, rW, fW, fNames, flagB, joinW, pW, sW, cW, lW]
theorem rW_ok {r : Rul} (h : okR r = true) : ∀ w ∈ rW r, ∃ i n, Wok w i n := by
  obtain ⟨a1, a2, a3, a4, a5, a6, a7, a8⟩ := okR_all h
  intro w hw
  unfold rW fW at hw
  simp only [List.cons_append, List.nil_append, List.mem_cons, List.mem_filter] at hw
  rcases hw with rfl | rfl | rfl | rfl | hw
  · exact ⟨_, _, pW_ok a1 a2⟩
  · exact ⟨_, _, sW_ok a3 a4⟩
  · exact ⟨_, _, cW_ok a5 a6⟩
  · exact ⟨_, _, lW_ok a7 a8⟩
  · exact ⟨_, _, fW_ok hw.1⟩
theorem rW_map {r : Rul} (h : okR r = true) : (rW r).map wrd = (rL r).map fun p => ((p.1 : Int), p.2, 0) := by
  obtain ⟨a1, a2, a3, a4, a5, a6, a7, a8⟩ := okR_all h
  unfold rW rL fL
  rw [List.map_append, List.map_append, List.map_map]
  congr 1
  · simp only [List.map_cons, List.map_nil, (pW_ok a1 a2).v, (sW_ok a3 a4).v, (cW_ok a5 a6).v, (lW_ok a7 a8).v]
  · apply List.map_congr_left
    intro y hy
    exact (fW_ok (List.mem_filter.1 hy).1).v
theorem rW_len (r : Rul) : (rW r).length ≤ 9 := by
  unfold rW fW
  rw [List.length_append]
  have := List.length_filter_le (fun y => flagB r y) fNames
  have h5 : fNames.length = 5 := rfl
  simp only [List.length_cons, List.length_nil]; omega
theorem wds_of {ws : List (List UInt8)} (h : ∀ w ∈ ws, ∃ i n, Wok w i n) (hne : ws ≠ []) : wds (joinW 32 ws) = ws := by
  unfold wds
  rw [split_join hne (fun w hw => by obtain ⟨_, _, k⟩ := h w hw; exact k.b)]
  apply List.filter_eq_self.2
  intro w hw
  obtain ⟨_, _, k⟩ := h w hw
  simpa using k.e
theorem wds_rules {r : Rul} (h : okR r = true) : wds (rulesT r) = rW r := by
  rw [rulesT_join]; exact wds_of (rW_ok h) (by simp [rW])
theorem ok_stag {r : Rul} (h : okR r = true) : (r.stores || !r.again) = true := by
  simp only [okR, Bool.and_eq_true] at h; exact h.2
theorem run_rules (r : Rul) (h : (r.stores || !r.again) = true) : ∃ v b, runL (rL r) (List.replicate 9 0) (List.replicate 9 false) = some (v, b) ∧ blt b 0 = true ∧ blt b 1 = true ∧ ¬ (nth v 6 = 1 ∧ nth v 2 = 0) ∧ rulV v = r := by
  obtain ⟨a, b, st, sk, re, fe, ag, c, d⟩ := r
  cases st <;> cases sk <;> cases re <;> cases fe <;> cases ag <;> first | (exact absurd (show false = true from h) (by decide)) | exact ⟨_, _, rfl, rfl, rfl, fun h => absurd (show (0 : Int) = 1 from h.1) (by decide), rfl⟩ | exact ⟨_, _, rfl, rfl, rfl, fun h => absurd (show (1 : Int) = 0 from h.2) (by decide), rfl⟩
theorem run_turned (r : Rul) (h : (r.stores || !r.again) = true) : ∃ v b, runL (rL r).reverse (List.replicate 9 0) (List.replicate 9 false) = some (v, b) ∧ blt b 0 = true ∧ blt b 1 = true ∧ ¬ (nth v 6 = 1 ∧ nth v 2 = 0) ∧ rulV v = r := by
  obtain ⟨a, b, st, sk, re, fe, ag, c, d⟩ := r
  cases st <;> cases sk <;> cases re <;> cases fe <;> cases ag <;> first | (exact absurd (show false = true from h) (by decide)) | exact ⟨_, _, rfl, rfl, rfl, fun h => absurd (show (0 : Int) = 1 from h.1) (by decide), rfl⟩ | exact ⟨_, _, rfl, rfl, rfl, fun h => absurd (show (1 : Int) = 0 from h.2) (by decide), rfl⟩
theorem chk_rules {r : Rul} (h : okR r = true) : chkO (rulesT r) = [] ∧ chkR (rulesT r) = r := by
  obtain ⟨v, b, h1, h2, h3, h4, h5⟩ := run_rules r (ok_stag h)
  have := chk_words (by rw [wds_rules h]; exact rW_map h) h1 h2 h3 h4
  rw [h5] at this; exact this
def turnN (ws : List (List UInt8)) : Nat → List UInt8
  | 0 => []
  | k + 1 => (wdn ws k ++ [32, 32]) ++ turnN ws k
theorem wds_cons {w rest : List UInt8} (hb : (32 : UInt8) ∉ w) (he : w ≠ []) : wds ((w ++ [32, 32]) ++ rest) = w :: wds rest := by
  have e : (w ++ [32, 32]) ++ rest = w ++ 32 :: (32 :: rest) := by simp
  unfold wds
  rw [e, split_app 32 _ _ hb, List.filter_cons_of_pos (by simpa using he)]
  have : split 32 (32 :: rest) = [] :: split 32 rest := by rw [split, if_pos rfl]
  rw [this, List.filter_cons_of_neg (by simp)]
theorem wds_turn {ws : List (List UInt8)} (h : ∀ w ∈ ws, ∃ i n, Wok w i n) : ∀ k : Nat, k ≤ ws.length → wds (turnN ws k) = (ws.take k).reverse
  | 0, _ => rfl
  | k + 1, hk => by
    have hw : ws[k]? = some ws[k] := List.getElem?_eq_getElem (by omega)
    obtain ⟨_, _, q⟩ := h _ (List.mem_of_getElem? hw)
    rw [turnN, wdn_get hw, wds_cons q.b q.e, wds_turn h k (by omega), List.take_add_one, hw, List.reverse_append]; rfl
theorem turn_len {ws : List (List UInt8)} (h : ∀ w ∈ ws, ∃ i n, Wok w i n) : ∀ k : Nat, k ≤ ws.length → (turnN ws k).length ≤ 19 * k
  | 0, _ => by simp [turnN]
  | k + 1, hk => by
    have hw : ws[k]? = some ws[k] := List.getElem?_eq_getElem (by omega)
    obtain ⟨_, _, q⟩ := h _ (List.mem_of_getElem? hw)
    have h1 := turn_len h k (by omega)
    have h2 := q.l
    rw [turnN, wdn_get hw]; simp only [List.length_append, List.length_cons, List.length_nil]; omega
theorem chk_turned {r : Rul} (h : okR r = true) : chkT (turnN (rW r) (rW r).length) = (r, [], 0) := by
  have hl := turn_len (rW_ok h) _ (Nat.le_refl _)
  have hn := rW_len r
  have hw : wds (turnN (rW r) (rW r).length) = (rW r).reverse := by rw [wds_turn (rW_ok h) _ (Nat.le_refl _), List.take_length]
  obtain ⟨v, b, h1, h2, h3, h4, h5⟩ := run_turned r (ok_stag h)
  obtain ⟨a1, a2⟩ := chk_words (L := (rL r).reverse) (by rw [hw, List.map_reverse, List.map_reverse, rW_map h]) h1 h2 h3 h4
  unfold chkT
  rw [if_neg (by omega), if_pos a1, a2, h5]
theorem chkT_rules {r : Rul} (h : okR r = true) : chkT (rulesT r) = (r, [], 0) := by
  have hl := rulesT_len r
  obtain ⟨a1, a2⟩ := chk_rules h
  unfold chkT
  rw [if_neg (by omega), if_pos a1, a2]
theorem rel_at (s : List UInt8) : ∀ k : Nat, ∃ x, RelC x (chkN s k)
  | 0 => ⟨_, RelC.zero⟩
  | k + 1 => by obtain ⟨x, h⟩ := rel_at s k; exact ⟨_, h.step (nth (pls s) k) (wdn (wds s) k)⟩
theorem betw_nf {n a b : Int} (h : ¬ betw n a b = false) : a ≤ n ∧ n ≤ b := betw_iff.1 (by cases hb : betw n a b; exact absurd hb h; rfl)
theorem valP_rng {y t : List UInt8} {n : Int} (h : valP y t = (n, 0)) : (y = pitsT → 2 ≤ n ∧ n ≤ 8) ∧ (y = seedsT → 1 ≤ n ∧ n ≤ 6) ∧ (y = captT → 0 ≤ n ∧ n ≤ 3) ∧ (y = slamT → 0 ≤ n ∧ n ≤ 2) := by
  refine ⟨fun e => ?_, fun e => ?_, fun e => ?_, fun e => ?_⟩ <;> subst e
  · rw [valP_pits] at h
    split at h
    · injection h with _ h; exact absurd h (by decide)
    · split at h
      · injection h with _ h; exact absurd h (by decide)
      · rename_i hb; injection h with h _; rw [← h]; exact betw_nf hb
  · rw [valP_seeds] at h
    split at h
    · injection h with _ h; exact absurd h (by decide)
    · split at h
      · injection h with _ h; exact absurd h (by decide)
      · rename_i hb; injection h with h _; rw [← h]; exact betw_nf hb
  · rw [valP_capt] at h
    split at h
    · injection h with _ h; exact absurd h (by decide)
    · injection h with h _
      have := idx_bd capNames t
      rw [show (capNames.length : Int) = 4 from rfl] at this
      omega
  · rw [valP_slam] at h
    split at h
    · injection h with _ h; exact absurd h (by decide)
    · injection h with h _
      have := idx_bd slamNames t
      rw [show (slamNames.length : Int) = 3 from rfl] at this
      omega
theorem wrd_rng {w : List UInt8} {i n : Int} (h : wrd w = (i, n, 0)) : (i = 0 → 2 ≤ n ∧ n ≤ 8) ∧ (i = 1 → 1 ≤ n ∧ n ≤ 6) ∧ (i = 7 → 0 ≤ n ∧ n ≤ 3) ∧ (i = 8 → 0 ≤ n ∧ n ≤ 2) := by
  rw [wrd_P] at h
  generalize (cutS w [61]).1 = y at h
  generalize (cutS w [61]).2.1 = t at h
  generalize (cutS w [61]).2.2 = e at h
  cases hn : isNum y with
  | true =>
    obtain ⟨q1, q2, q3, q4⟩ := wrdP_num (t := t) hn
    cases e with
    | false => rw [q3] at h; injection h with _ h; injection h with _ h; exact absurd h (by decide)
    | true =>
      rw [q1] at h
      injection h with h1 h
      injection h with h2 h3
      have hr := valP_rng (y := y) (t := t) (n := n) (by rw [← h2, ← h3])
      rcases isNum_iff hn with rfl | rfl | rfl | rfl
      · have : i = 0 := h1.symm
        exact ⟨fun _ => hr.1 rfl, fun h => by omega, fun h => by omega, fun h => by omega⟩
      · have : i = 1 := h1.symm
        exact ⟨fun h => by omega, fun _ => hr.2.1 rfl, fun h => by omega, fun h => by omega⟩
      · have : i = 7 := h1.symm
        exact ⟨fun h => by omega, fun h => by omega, fun _ => hr.2.2.1 rfl, fun h => by omega⟩
      · have : i = 8 := h1.symm
        exact ⟨fun h => by omega, fun h => by omega, fun h => by omega, fun _ => hr.2.2.2 rfl⟩
  | false =>
    cases hf : isFlg y with
    | false => rw [wrdP_no hn hf] at h; injection h with _ h; injection h with _ h; exact absurd h (by decide)
    | true =>
      obtain ⟨q1, q2, q3, q4⟩ := wrdP_flg (t := t) hf
      cases e with
      | true => rw [q3] at h; injection h with _ h; injection h with _ h; exact absurd h (by decide)
      | false =>
        rw [q1] at h
        injection h with h1 _
        have : 2 ≤ flagIx y ∧ flagIx y ≤ 6 := by rcases isFlg_iff5 hf with rfl | rfl | rfl | rfl | rfl <;> decide
        exact ⟨fun h => by omega, fun h => by omega, fun h => by omega, fun h => by omega⟩
def RngV (v : List Int) (b : List Bool) : Prop := (blt b 0 = true → 2 ≤ nth v 0 ∧ nth v 0 ≤ 8) ∧ (blt b 1 = true → 1 ≤ nth v 1 ∧ nth v 1 ≤ 6) ∧ (0 ≤ nth v 7 ∧ nth v 7 ≤ 3) ∧ (0 ≤ nth v 8 ∧ nth v 8 ≤ 2)
theorem chkN_rng (s : List UInt8) : ∀ k : Nat, (chkN s k).out = [] → RngV (chkN s k).v (chkN s k).seen
  | 0, _ => (⟨fun h => absurd (show false = true from h) (by decide), fun h => absurd (show false = true from h) (by decide), by decide, by decide⟩ : RngV Chk.zero.v Chk.zero.seen)
  | k + 1, h => by
    obtain ⟨hl, hs, _⟩ := chkN_len s k
    have hb := wrd_bd (wdn (wds s) k)
    have ih := chkN_rng s k
    rw [chkN] at h ⊢
    generalize chkN s k = c at h hl hs ih ⊢
    have hr := @wrd_rng (wdn (wds s) k)
    generalize wdn (wds s) k = w at h hb hr ⊢
    unfold chkS at h ⊢
    split
    · rename_i h1; rw [if_pos h1] at h; simp at h
    · rename_i h1
      rw [if_neg h1] at h
      dsimp only at h ⊢
      have h0 : chkK c w = 0 := by
        by_cases h0 : chkK c w = 0
        · exact h0
        · rw [if_neg h0] at h; simp at h
      rw [if_pos h0] at h
      have hk : (wrd w).2.2 = 0 := by
        unfold chkK at h0
        split at h0
        · exact absurd h0 (by decide)
        · exact h0
      obtain ⟨r0, r1, r7, r8⟩ := hr (i := (wrd w).1) (n := (wrd w).2.1) (by rw [← hk])
      obtain ⟨i0, i1, i7, i8⟩ := ih h
      have hi : ∀ j : Nat, j < 9 → nth (setI c.v (wrd w).1 (wrd w).2.1) j = if (wrd w).1 = (j : Int) then (wrd w).2.1 else nth c.v j := fun j hj => by
        by_cases e : (wrd w).1 = (j : Int)
        · rw [if_pos e, e]
          have := nth_setI_eq (l := c.v) (k := (j : Int)) (n := (wrd w).2.1) (by rw [Int.toNat_natCast]; omega)
          rwa [Int.toNat_natCast] at this
        · rw [if_neg e, nth_setI (fun e2 => e e2.symm) hb.1]
      have hbs : ∀ j : Nat, j < 9 → blt (c.seen.set (wrd w).1.toNat true) j = true → (wrd w).1 = (j : Int) ∨ blt c.seen j = true := fun j hj h9 => by
        rw [blt_set (by omega)] at h9
        simp only [Bool.or_eq_true, decide_eq_true_eq] at h9
        rcases h9 with h9 | h9
        · left; omega
        · exact .inr h9
      refine ⟨fun h9 => ?_, fun h9 => ?_, ?_, ?_⟩
      · rw [hi 0 (by decide)]
        by_cases e : (wrd w).1 = ((0 : Nat) : Int)
        · rw [if_pos e]; exact r0 e
        · rw [if_neg e]; exact i0 ((hbs 0 (by decide) h9).resolve_left e)
      · rw [hi 1 (by decide)]
        by_cases e : (wrd w).1 = ((1 : Nat) : Int)
        · rw [if_pos e]; exact r1 e
        · rw [if_neg e]; exact i1 ((hbs 1 (by decide) h9).resolve_left e)
      · rw [hi 7 (by decide)]
        by_cases e : (wrd w).1 = ((7 : Nat) : Int)
        · rw [if_pos e]; exact r7 e
        · rw [if_neg e]; exact i7
      · rw [hi 8 (by decide)]
        by_cases e : (wrd w).1 = ((8 : Nat) : Int)
        · rw [if_pos e]; exact r8 e
        · rw [if_neg e]; exact i8
theorem chk_okR {s : List UInt8} (h : chkO s = []) : okR (chkR s) = true := by
  obtain ⟨x, hx⟩ := rel_at s (wds s).length
  have hr := chkN_rng s (wds s).length
  change RelC x (chkA s) at hx
  change (chkA s).out = [] → RngV (chkA s).v (chkA s).seen at hr
  unfold chkO at h
  obtain ⟨h1, h2⟩ := List.append_eq_nil_iff.1 h
  rw [chkM, chkM, chkM] at h1
  obtain ⟨h1, hb1⟩ := List.append_eq_nil_iff.1 h1
  obtain ⟨h1, hb0⟩ := List.append_eq_nil_iff.1 h1
  have b0 : blt (chkA s).seen 0 = true := by
    by_cases e : blt (chkA s).seen 0 = true
    · exact e
    · rw [if_neg e] at hb0; simp at hb0
  have b1 : blt (chkA s).seen 1 = true := by
    by_cases e : blt (chkA s).seen 1 = true
    · exact e
    · rw [if_neg e] at hb1; simp at hb1
  obtain ⟨r0, r1, r7, r8⟩ := hr h1
  have h6 : ¬ (nth (chkA s).v 6 = 1 ∧ nth (chkA s).v 2 = 0) := fun e => by rw [if_pos e] at h2; simp at h2
  refine okR_mk (r0 b0) (r1 b1) r7 r8 ?_
  by_cases e6 : nth (chkA s).v 6 = 1
  · have e2 : nth (chkA s).v 2 = 1 := by
      cases hb : blt (chkA s).seen 2 with
      | true => exact hx.f2 hb
      | false => exact absurd ⟨e6, hx.z 2 hb⟩ h6
    rw [decide_eq_true e2]; rfl
  · rw [decide_eq_false e6]; simp
theorem plc : ∀ (ws : List (List UInt8)) (a : Nat) (t : List UInt8), t.drop a = joinW 32 ws → a ≤ t.length → ∀ (k : Nat) (w : List UInt8) (p : Int), (ws.filter fun w => decide (w ≠ []))[k]? = some w → (plsW (a : Int) ws)[k]? = some p →
    (t.drop p.toNat).take w.length = w ∧ 0 ≤ p ∧ p + (w.length : Int) ≤ (t.length : Int)
  | [], _, _, _, _, k, w, p, h, _ => by simp at h
  | [u], a, t, ht, ha, k, w, p, h, hp => by
    have ht : t.drop a = u := ht
    have hl : u.length = t.length - a := by rw [← ht, List.length_drop]
    by_cases hu : u = []
    · subst hu; simp at h
    · rw [List.filter_cons_of_pos (by simpa using hu)] at h
      rw [plsW, if_neg hu] at hp
      cases k with
      | zero =>
        simp at h hp
        subst h; subst hp
        exact ⟨by rw [Int.toNat_natCast, ht, List.take_length], by omega, by omega⟩
      | succ k => simp at h
  | u :: v :: ws, a, t, ht, ha, k, w, p, h, hp => by
    have ht : t.drop a = u ++ 32 :: joinW 32 (v :: ws) := ht
    have hl := congrArg List.length ht
    rw [List.length_drop, List.length_append, List.length_cons] at hl
    have hd : t.drop (a + u.length + 1) = joinW 32 (v :: ws) := by
      rw [Nat.add_assoc, ← List.drop_drop, ht, show u.length + 1 = u.length + 1 from rfl, ← List.drop_drop, List.drop_left]; rfl
    by_cases hu : u = []
    · subst hu
      rw [List.filter_cons_of_neg (by simp)] at h
      rw [plsW, if_pos rfl] at hp
      exact plc (v :: ws) (a + 1) t hd (by simp at hl; omega) k w p h hp
    · rw [List.filter_cons_of_pos (by simpa using hu)] at h
      rw [plsW, if_neg hu] at hp
      cases k with
      | zero =>
        simp at h hp
        subst h; subst hp
        exact ⟨by rw [Int.toNat_natCast, ht, List.take_left], by omega, by omega⟩
      | succ k =>
        rw [List.getElem?_cons_succ] at h hp
        exact plc (v :: ws) (a + u.length + 1) t hd (by omega) k w p h (by rw [show ((a + u.length + 1 : Nat) : Int) = (a : Int) + (u.length : Int) + 1 by omega]; exact hp)
theorem place {s w : List UInt8} {k : Nat} (h : (wds s)[k]? = some w) : (s.drop (nth (pls s) k).toNat).take w.length = w ∧ 0 ≤ nth (pls s) k ∧ nth (pls s) k + (w.length : Int) ≤ (s.length : Int) := by
  have hk : k < (pls s).length := by rw [pls_len]; exact (List.getElem?_eq_some_iff.1 h).1
  exact plc (split 32 s) 0 s (by rw [joinW_split]; rfl) (Nat.zero_le _) k w _ h (by rw [nth_eq hk]; exact List.getElem?_eq_getElem hk)
structure Told (s : List UInt8) (p : Prb) : Prop where
  k : 1 ≤ p.kind ∧ p.kind ≤ 6
  t : p.kind ≠ 5 → (s.drop p.at1.toNat).take p.word.length = p.word ∧ 0 ≤ p.at1 ∧ p.at1 + (p.word.length : Int) ≤ (s.length : Int)
theorem cut_no {s sep : List UInt8} (h : (cutS s sep).2.2 = false) : (cutS s sep).1 = s := by
  unfold cutS at h ⊢
  split
  · rename_i k e; rw [e] at h; exact absurd h (by simp)
  · rfl
theorem wrd_ag {w : List UInt8} (h : (wrd w).1 = 6) (h2 : (wrd w).2.2 ≠ 1) : w = agaiT := by
  have hc := @cut_no w [61]
  rw [wrd_P] at h h2
  generalize (cutS w [61]).1 = y at h h2 hc
  generalize (cutS w [61]).2.1 = t at h h2
  generalize (cutS w [61]).2.2 = e at h h2 hc
  cases hn : isNum y with
  | true =>
    obtain ⟨q1, q2, q3, q4⟩ := wrdP_num (t := t) hn
    cases e with
    | false => rw [q3] at h2; exact absurd rfl h2
    | true =>
      rw [q1] at h
      have h : ((numIx y : Int)) = 6 := h
      rcases isNum_iff hn with rfl | rfl | rfl | rfl <;> exact absurd h (by decide)
  | false =>
    cases hf : isFlg y with
    | false => rw [wrdP_no hn hf] at h2; exact absurd rfl h2
    | true =>
      obtain ⟨q1, q2, q3, q4⟩ := wrdP_flg (t := t) hf
      cases e with
      | true => rw [q3] at h2; exact absurd rfl h2
      | false =>
        rw [q1] at h
        have h : ((flagIx y : Int)) = 6 := h
        rw [← hc rfl]
        rcases isFlg_iff5 hf with rfl | rfl | rfl | rfl | rfl <;> first | rfl | exact absurd h (by decide)
theorem told_N (s : List UInt8) : ∀ k : Nat, k ≤ (wds s).length → (∀ p ∈ (chkN s k).out, Told s p) ∧ (blt (chkN s k).seen 6 = true → Told s ⟨6, (chkN s k).again, agaiT⟩)
  | 0, _ => ⟨fun p h => by simp [chkN, Chk.zero] at h, fun h => absurd (show false = true from h) (by decide)⟩
  | k + 1, hk => by
    obtain ⟨ih1, ih2⟩ := told_N s k (by omega)
    obtain ⟨hl, hs, _⟩ := chkN_len s k
    have hw : (wds s)[k]? = some (wds s)[k] := List.getElem?_eq_getElem (by omega)
    have hp := place hw
    rw [chkN, wdn_get hw]
    generalize (wds s)[k] = w at hw hp ⊢
    generalize nth (pls s) k = a at hp ⊢
    generalize chkN s k = c at ih1 ih2 hl hs ⊢
    have hb := wrd_bd w
    have hkk : 0 ≤ chkK c w ∧ chkK c w ≤ 4 := by
      unfold chkK; split
      · decide
      · exact ⟨hb.2.2.2.2.1, hb.2.2.2.2.2⟩
    have new : chkK c w ≠ 0 → ∀ p ∈ c.out ++ [⟨chkK c w, a, w⟩], Told s p := fun h0 p h => by
      rcases List.mem_append.1 h with h | h
      · exact ih1 p h
      · rw [List.mem_singleton.1 h]
        exact ⟨⟨by dsimp only; omega, by dsimp only; omega⟩, fun _ => hp⟩
    unfold chkS
    split
    · rename_i h1; exact ⟨new (by omega), ih2⟩
    · rename_i h1
      dsimp only
      constructor
      · split
        · exact ih1
        · rename_i h0; exact new h0
      · intro h6
        rw [blt_set (by omega)] at h6
        by_cases e : (wrd w).1 = 6
        · rw [if_pos e]
          have hne : (wrd w).2.2 ≠ 1 := fun e2 => h1 (.inl (by unfold chkK; rw [if_neg (by simp [e2])]; exact e2))
          have := wrd_ag e hne
          subst this
          exact ⟨⟨show (1 : Int) ≤ 6 by decide, show (6 : Int) ≤ 6 by decide⟩, fun _ => hp⟩
        · rw [if_neg e]
          have : ¬ (6 = (wrd w).1.toNat) := fun e2 => e (by omega)
          exact ih2 (by simpa [this] using h6)
theorem told_O (s : List UInt8) : ∀ p ∈ chkO s, Told s p := by
  obtain ⟨h1, h2⟩ := told_N s _ (Nat.le_refl _)
  have hM : ∀ k : Nat, ∀ p ∈ chkM s k, Told s p := by
    intro k
    induction k with
    | zero => exact h1
    | succ k ih =>
      rw [chkM]
      intro p hp
      rcases List.mem_append.1 hp with hp | hp
      · exact ih p hp
      · split at hp
        · simp at hp
        · rw [List.mem_singleton.1 hp]; exact ⟨⟨show (1 : Int) ≤ 5 by decide, show (5 : Int) ≤ 6 by decide⟩, fun h => absurd rfl h⟩
  intro p hp
  unfold chkO at hp
  rcases List.mem_append.1 hp with hp | hp
  · exact hM 2 p hp
  · split at hp
    · rename_i h9
      rw [List.mem_singleton.1 hp]
      obtain ⟨x, hx⟩ := rel_at s (wds s).length
      refine h2 ?_
      cases hb : blt (chkN s (wds s).length).seen 6 with
      | true => rfl
      | false =>
        have := hx.z 6 hb
        have h8 : nth (chkN s (wds s).length).v 6 = 1 := h9.1
        omega
    · simp at hp
theorem chkT_told (s : List UInt8) : ∀ p ∈ (chkT s).2.1, Told s p := by
  unfold chkT
  split
  · intro p h; simp at h
  · split
    · intro p h; simp at h
    · exact told_O s
def readR (s : List UInt8) : Rul × Bool := if (chkT s).2.2 = 0 ∧ (chkT s).2.1 = [] ∧ rulesTR (chkT s).1 = s then ((chkT s).1, true) else (Rul.zero, false)
theorem readR_y {s : List UInt8} (h1 : (chkT s).2.2 = 0) (h2 : (chkT s).2.1 = []) (h3 : rulesTR (chkT s).1 = s) : readR s = ((chkT s).1, true) := if_pos ⟨h1, h2, h3⟩
theorem readR_n {s : List UInt8} (h : ¬ ((chkT s).2.2 = 0 ∧ (chkT s).2.1 = [] ∧ rulesTR (chkT s).1 = s)) : readR s = (Rul.zero, false) := if_neg h
theorem readR_5 {s : List UInt8} (h : 200 < s.length) : readR s = (Rul.zero, false) := readR_n (by rw [chkT_5 h]; rintro ⟨h, _⟩; exact absurd (show (5 : Int) = 0 from h) (by decide))
theorem readR_p {s : List UInt8} (h : ¬ 200 < s.length) (h2 : chkO s ≠ []) : readR s = (Rul.zero, false) := readR_n (by rw [chkT_O h (by cases e : chkO s; exact absurd e h2; simp)]; rintro ⟨_, h, _⟩; exact h2 h)
theorem readR_t {s : List UInt8} (h : ¬ 200 < s.length) (h2 : chkO s = []) (h3 : rulesT (chkR s) = s) : readR s = (chkR s, true) := by
  have e := chkT_R h (by rw [h2]; simp)
  have := readR_y (s := s) (by rw [e]) (by rw [e]) (by rw [e]; dsimp only; rw [rulesTR_yes (chk_okR h2)]; exact h3)
  rw [this, e]
theorem readR_f {s : List UInt8} (h : ¬ 200 < s.length) (h2 : chkO s = []) (h3 : ¬ rulesT (chkR s) = s) : readR s = (Rul.zero, false) := by
  have e := chkT_R h (by rw [h2]; simp)
  exact readR_n (by rw [e]; dsimp only; rw [rulesTR_yes (chk_okR h2)]; rintro ⟨_, _, h⟩; exact h3 h)
theorem readR_back (r : Rul) : (readR (rulesTR r)).2 = !decide (rulesTR r = []) ∧ ((readR (rulesTR r)).2 = true → (readR (rulesTR r)).1 = r ∧ okR r = true) := by
  cases h : okR r with
  | false =>
    rw [rulesTR_no h]
    have : readR [] = (Rul.zero, false) := readR_p (by decide) (by decide +kernel)
    rw [this]; exact ⟨rfl, fun h => absurd h (by decide)⟩
  | true =>
    rw [rulesTR_yes h]
    have e := chkT_rules h
    have := readR_y (s := rulesT r) (by rw [e]) (by rw [e]) (by rw [e]; exact rulesTR_yes h)
    rw [this, e]
    refine ⟨?_, fun _ => ⟨rfl, rfl⟩⟩
    have hne : ¬ rulesT r = [] := fun e2 => by
      have := congrArg List.length e2
      rw [rulesT_join, rW, List.cons_append, joinW_cons _ _ (by simp)] at this
      simp [pW] at this
    simp [hne]
theorem readR_one {s : List UInt8} (h : (readR s).2 = true) : (chkT s).2.2 = 0 ∧ (chkT s).2.1 = [] ∧ (chkT s).1 = (readR s).1 := by
  unfold readR at h ⊢
  split
  · rename_i h1; exact ⟨h1.1, h1.2.1, rfl⟩
  · rename_i h1; rw [if_neg h1] at h; exact absurd h (by decide)
theorem rulesTR_len (r : Rul) : (rulesTR r).length ≤ 155 := by
  unfold rulesTR; split
  · exact rulesT_len r
  · simp
theorem chkT_el {s : List UInt8} {k : Nat} {p : Prb} (h : (chkT s).2.1[k]? = some p) : p.word.length ≤ s.length + 5 ∧ 0 ≤ p.at1 ∧ p.at1 ≤ (s.length : Int) := by
  unfold chkT at h
  split at h
  · simp at h
  · split at h
    · simp at h
    · exact chkO_el h
theorem wds_t {s y : List UInt8} {ws : List (List UInt8)} {i : Nat} (h : ws ++ ((split 32 s).drop i).filter (fun w => decide (w ≠ [])) = wds s) (hY : (split 32 s)[i]? = some y) (hne : ¬ y = []) : (ws ++ [y]) ++ ((split 32 s).drop (i + 1)).filter (fun w => decide (w ≠ [])) = wds s := by
  obtain ⟨hi, hy⟩ := List.getElem?_eq_some_iff.1 hY
  rw [List.drop_eq_getElem_cons hi, hy, List.filter_cons_of_pos (by simpa using hne)] at h
  rw [← h]; simp
theorem wds_f {s y : List UInt8} {ws : List (List UInt8)} {i : Nat} (h : ws ++ ((split 32 s).drop i).filter (fun w => decide (w ≠ [])) = wds s) (hY : (split 32 s)[i]? = some y) (hne : y = []) : ws ++ ((split 32 s).drop (i + 1)).filter (fun w => decide (w ≠ [])) = wds s := by
  obtain ⟨hi, hy⟩ := List.getElem?_eq_some_iff.1 hY
  rw [List.drop_eq_getElem_cons hi, hy, List.filter_cons_of_neg (by simp [hne])] at h
  exact h
theorem wds_e {s : List UInt8} {ws : List (List UInt8)} {i : Nat} (h : ws ++ ((split 32 s).drop i).filter (fun w => decide (w ≠ [])) = wds s) (hi : (split 32 s).length ≤ i) : wds s = ws := by
  rw [List.drop_eq_nil_of_le hi] at h
  simpa using h.symm
theorem prbT_ne {p : Prb} (h : 1 ≤ p.kind ∧ p.kind ≤ 6) : prbT p ≠ [] := by
  unfold prbT; rw [if_pos (betw_iff.2 h)]; simp
end Go.Proofs.YthdmaamdlibjaaaDoor.M

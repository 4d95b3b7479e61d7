/- Walks: L3. -/
import Derived.Test.YtejnmechnhgmfaaZaTy
import Derived.Test.YtejnmechnhgmfaaZaL1
set_option linter.unusedSimpArgs false
set_option linter.unusedVariables false
namespace Go.Proofs.Ytejnmechnhgmfaa
open Go.RowKit

set_option maxRecDepth 100000 in
set_option maxHeartbeats 400000 in
theorem c_laws_markInt64S (a : List Int) (Aa_0 : Option Addr) (ca_0 : Nat) (ga_0 : List Nat) (k : Int) (w : World) (hb : Bw w [rowO 2 1 (.slice Aa_0 a.length ca_0) a.length (ints_ a) ga_0]) (bd0 : a.length ≤ ca_0) (bd1 : ca_0 ≤ 9223372036854775807) (r0 : a.length ≤ 4194304) (r1 : 0 ≤ k) (r2 : k ≤ 100000000) : RetB Try.prog 26 [.slice Aa_0 a.length ca_0, .int .i64 k] w [rowO 2 1 (.slice Aa_0 a.length ca_0) a.length (ints_ a) ga_0] (fun v bs' => v = .int .i64 (k + (a.length : Int)) ∧ bs' = [rowO 2 1 (.slice Aa_0 a.length ca_0) a.length (ints_ (M.up k a.length)) ga_0]) := by
  refine enterB hb @Try.func26 @Try.ntmps26 rfl rfl ?_
  refine Js.trashE ?_
  refine Js.seq ?_
  refine Js.region ?_
  refine JL.q (OpP.q (p_assign rfl)) ?_
  refine JL.nil ?_
  refine Js.seq ?_
  refine Js.seq ?_
  refine Js.region ?_
  refine JL.q (OpP.q (p_assign rfl)) ?_
  refine JL.nil ?_
  refine Js.block ?_
  refine Js.loop (fun l os u m => ∃ (i : Nat) (kk : Int) (xs : List Int) (G1_1 : List Nat), l = [(0, .slice Aa_0 a.length ca_0), (1, .int .i64 kk), (5, .int .i64 (i : Int))] ∧ os = [rowO 2 1 (.slice Aa_0 a.length ca_0) a.length (ints_ xs) ga_0, anyO G1_1] ∧ Up w.heap.size (offW w (([rowO 2 1 (.slice Aa_0 a.length ca_0) a.length (ints_ a) ga_0] : List Own).flatMap (·.fp))) u ∧ (xs = M.mkd a k i) ∧ (i ≤ a.length) ∧ (xs.length = a.length) ∧ (kk = k + (i : Int)) ∧ m = a.length - i) ⟨0, k, a, _, rfl, rfl, Up.refl _ _, by exact M.mkd_zero a k, by first | assumption | omega | rfl | (simp; done), by rfl, by simp, rfl⟩ ⟨rfl, rfl, rfl, trivial⟩ ?_
  · rintro _ _ u1 _ ⟨i, kk, xs, G1_1, rfl, rfl, x1, hX, hi, hl, hkk, rfl⟩
    refine Js.seq ?_
    refine Js.seq ?_
    refine Js.region ?_
    refine JL.q (OpP.q (p_move rfl)) ?_
    refine JL.q (OpP.q (p_move rfl)) ?_
    refine JL.q (OpP.q (p_len el_24 rfl)) ?_
    refine JL.q (OpP.q (p_lss rfl rfl)) ?_
    refine JL.nil ?_
    refine Js.cond rfl (fun h2 => ?_) (fun h2 => ?_)
    ·
      have h2' := h2
      try simp only [decide_eq_true_eq] at h2'
      refine Js.skip ?_
      refine Js.seq ?_
      refine Js.block ?_
      refine Js.seq ?_
      refine Js.region ?_
      refine JL.q (OpP.q (p_move rfl)) ?_
      refine JL.q (OpP.q (p_move rfl)) ?_
      refine JL.q (OpP.q (p_move rfl)) ?_
      refine JL.fact (row_some (i := 0) rfl (by omega)) (fun hf4 => ?_)
      obtain ⟨b4, rfl⟩ := hf4
      refine JL.q (OpP.q (p_indexAddr el_24 rfl rfl (by omega) (by omega) rfl)) ?_
      refine JL.s (e_storeRow (i := 0) (xs' := ints_ (xs.set i kk)) ty_2 rfl rfl rfl rfl rfl rfl (ints_lt (i := i) (by omega)) (ints_setL (i := i) (by omega))) ?_
      rintro _ _ _ ⟨rfl, rfl⟩ _
      refine JL.nil ?_
      refine Js.region ?_
      refine JL.q (OpP.q (p_move rfl)) ?_
      refine JL.q (OpP.q (p_add rfl rfl (IntWalk.i64_in _ (by omega)))) ?_
      refine JL.q (OpP.q (p_assign rfl)) ?_
      refine JL.nil ?_
      refine Js.blockEnd ?_
      refine Js.region ?_
      refine JL.q (OpP.q (p_move rfl)) ?_
      refine JL.q (OpP.q (p_add rfl rfl (IntWalk.i64_in _ (by omega)))) ?_
      refine JL.q (OpP.q (p_assign rfl)) ?_
      refine JL.nil ?_
      exact Js.again ⟨i + 1, kk + 1, xs.set i kk, _, rfl, rfl, x1, by rw [hX, hkk]; exact M.mkd_step (by omega), by first | assumption | omega | rfl | (simp; done), by rw [List.length_set]; exact hl, by first | assumption | omega | rfl | (simp; done), rfl⟩ (by omega) ⟨rfl, rfl, rfl, trivial⟩
    ·
      have h2' := h2
      try simp only [decide_eq_false_iff_not, Int.not_lt] at h2'
      have hi2 : i = a.length := by have := h2'; omega
      have hM : M.up k a.length = xs := by rw [hX]; exact (M.mkd_end hi2).symm
      refine Js.exit (fun _ _ => rfl) ?_
      refine Js.seq ?_
      refine Js.region ?_
      refine JL.q (OpP.q (p_move rfl)) ?_
      refine JL.q (OpP.q (p_assign rfl)) ?_
      refine JL.nil ?_
      refine Js.ret (R := RB w [rowO 2 1 (.slice Aa_0 a.length ca_0) a.length (ints_ a) ga_0] (fun v bs' => v = .int .i64 (k + (a.length : Int)) ∧ bs' = [rowO 2 1 (.slice Aa_0 a.length ca_0) a.length (ints_ (M.up k a.length)) ga_0])) @Try.results26 (fun _ _ => rfl) (ResOk.tmp rfl ResOk.nil) (fun w1 hw => ?_)
      have hE : (.int .i64 kk : Value) = .int .i64 (k + (a.length : Int)) := by first | exact hM | (refine congrArg (Value.int .i64) ?_; omega)
      have hE1 : M.up k a.length = xs := by first | exact hM | (refine congrArg (Value.int .i64) ?_; omega)
      refine ⟨_, [rowO 2 1 (.slice Aa_0 a.length ca_0) a.length (ints_ xs) ga_0], _, rfl, ⟨hE, ?_⟩, hw.giveBack hb (x1)⟩
      · rw [hE1]

set_option maxRecDepth 100000 in
set_option maxHeartbeats 400000 in
theorem c_laws_heldInt64S (a : List Int) (v_a : Value) (k : Int) (w : World) (h_a : (Ty.ints 2 a).ok w v_a) (r0 : a.length ≤ 4194304) (r1 : 0 ≤ k) (r2 : k ≤ 100000000) : RetV Try.prog 27 [v_a, .int .i64 k] w (.int .i64 (M.held a k)) := by
  obtain ⟨A1, c1, rfl, bl1, bh1⟩ := sl_form h_a
  refine enter @Try.func27 @Try.ntmps27 rfl rfl ?_
  refine Js.seq ?_
  refine Js.region ?_
  refine JL.q (OpP.q (p_assign rfl)) ?_
  refine JL.nil ?_
  refine Js.seq ?_
  refine Js.seq ?_
  refine Js.region ?_
  refine JL.q (OpP.q (p_assign rfl)) ?_
  refine JL.nil ?_
  refine Js.block ?_
  refine Js.loop (fun l os u m => ∃ (i : Nat) (kk : Int), l = [(0, .slice A1 a.length c1), (1, .int .i64 kk), (5, .int .i64 (i : Int))] ∧ os = [] ∧ Up w.heap.size w u ∧ (a.take i = M.up k i) ∧ (i ≤ a.length) ∧ (kk = k + (i : Int)) ∧ m = a.length - i) ⟨0, k, rfl, rfl, Up.refl _ _, by rfl, by first | assumption | omega | rfl | (simp; done), by simp, rfl⟩ ⟨rfl, rfl, rfl, trivial⟩ ?_
  · rintro _ _ u2 _ ⟨i, kk, rfl, rfl, x2, hU, hi, hkk, rfl⟩
    refine Js.seq ?_
    refine Js.seq ?_
    refine Js.region ?_
    refine JL.q (OpP.q (p_move rfl)) ?_
    refine JL.q (OpP.q (p_move rfl)) ?_
    refine JL.q (OpP.q (p_len el_24 rfl)) ?_
    refine JL.q (OpP.q (p_lss rfl rfl)) ?_
    refine JL.nil ?_
    refine Js.cond rfl (fun h3 => ?_) (fun h3 => ?_)
    ·
      have h3' := h3
      try simp only [decide_eq_true_eq] at h3'
      refine Js.skip ?_
      refine Js.seq ?_
      refine Js.block ?_
      refine Js.seq ?_
      refine Js.seq ?_
      refine Js.region ?_
      refine JL.q (OpP.q (p_move rfl)) ?_
      refine JL.q (OpP.q (p_move rfl)) ?_
      obtain ⟨b4, o4, he4, hc4⟩ := ints_elem (Ty.mono _ h_a x2.vis) (i := i) (by omega)
      refine JL.q (OpP.q (p_indexAddr el_24 rfl rfl (by omega) (by omega) he4)) ?_
      refine JL.q (q_load1 ty_2 rfl (Mem.pub hc4)) ?_
      refine JL.q (OpP.q (p_move rfl)) ?_
      refine JL.q (OpP.q (p_neq rfl rfl)) ?_
      refine JL.nil ?_
      refine Js.cond rfl (fun h5 => ?_) (fun h5 => ?_)
      ·
        have h5' := h5
        try simp only [Bool.not_eq_true', decide_eq_false_iff_not] at h5'
        have hE := M.held_no (a := a) (k := k) (i := i) (by omega) (by rw [← hkk]; simpa using h5)
        refine Js.seq ?_
        refine Js.region ?_
        refine JL.q (OpP.q (p_assign rfl)) ?_
        refine JL.nil ?_
        refine Js.ret (R := RV w (.int .i64 (M.held a k))) @Try.results27 (fun _ _ => rfl) (ResOk.tmp rfl ResOk.nil) (fun w1 hw => ?_)
        refine ⟨?_, hw.ext (x2)⟩
        first | (rw [hE]; rfl) | (rw [hE, hkk]; rfl)
      ·
        have h5' := h5
        try simp only [Bool.not_eq_false', decide_eq_true_eq] at h5'
        have he : M.nth a i = k + (i : Int) := by rw [← hkk]; simpa using h5
        refine Js.skip ?_
        refine Js.region ?_
        refine JL.q (OpP.q (p_move rfl)) ?_
        refine JL.q (OpP.q (p_add rfl rfl (IntWalk.i64_in _ (by omega)))) ?_
        refine JL.q (OpP.q (p_assign rfl)) ?_
        refine JL.nil ?_
        refine Js.blockEnd ?_
        refine Js.region ?_
        refine JL.q (OpP.q (p_move rfl)) ?_
        refine JL.q (OpP.q (p_add rfl rfl (IntWalk.i64_in _ (by omega)))) ?_
        refine JL.q (OpP.q (p_assign rfl)) ?_
        refine JL.nil ?_
        exact Js.again ⟨i + 1, kk + 1, rfl, rfl, x2, by exact M.held_step (by omega) hU he, by first | assumption | omega | rfl | (simp; done), by first | assumption | omega | rfl | (simp; done), rfl⟩ (by omega) ⟨rfl, rfl, rfl, trivial⟩
    ·
      have h3' := h3
      try simp only [decide_eq_false_iff_not, Int.not_lt] at h3'
      have hE := M.held_yes (a := a) (k := k) (i := i) (by have := h3'; omega) hU
      refine Js.exit (fun _ _ => rfl) ?_
      refine Js.seq ?_
      refine Js.region ?_
      refine JL.q (OpP.q (p_move rfl)) ?_
      refine JL.q (OpP.q (p_assign rfl)) ?_
      refine JL.nil ?_
      refine Js.ret (R := RV w (.int .i64 (M.held a k))) @Try.results27 (fun _ _ => rfl) (ResOk.tmp rfl ResOk.nil) (fun w1 hw => ?_)
      refine ⟨?_, hw.ext (x2)⟩
      first | (rw [hE]; rfl) | (rw [hE, hkk]; rfl)

set_option maxRecDepth 100000 in
set_option maxHeartbeats 400000 in
theorem c_laws_markPosition (a_pits : List Int) (a_stores : List Int) (a_player : Int) (Aa_0 : Option Addr) (ca_0 : Nat) (ga_0 : List Nat) (Aa_1 : Option Addr) (ca_1 : Nat) (ga_1 : List Nat) (k : Int) (w : World) (hb : Bw w [rowO 2 1 (.slice Aa_0 a_pits.length ca_0) a_pits.length (ints_ a_pits) ga_0, rowO 2 1 (.slice Aa_1 a_stores.length ca_1) a_stores.length (ints_ a_stores) ga_1]) (bd0 : a_pits.length ≤ ca_0) (bd1 : ca_0 ≤ 9223372036854775807) (bd2 : a_stores.length ≤ ca_1) (bd3 : ca_1 ≤ 9223372036854775807) (r0 : a_pits.length ≤ 4194304) (r1 : a_stores.length ≤ 4194304) (r2 : 0 ≤ k) (r3 : k ≤ 50000000) : RetB Try.prog 54 [.agg #[.slice Aa_0 a_pits.length ca_0, .slice Aa_1 a_stores.length ca_1, .int .i64 a_player], .int .i64 k] w [rowO 2 1 (.slice Aa_0 a_pits.length ca_0) a_pits.length (ints_ a_pits) ga_0, rowO 2 1 (.slice Aa_1 a_stores.length ca_1) a_stores.length (ints_ a_stores) ga_1] (fun v bs' => v = .int .i64 (k + (a_pits.length : Int) + (a_stores.length : Int)) ∧ bs' = [rowO 2 1 (.slice Aa_0 a_pits.length ca_0) a_pits.length (ints_ (M.up k a_pits.length)) ga_0, rowO 2 1 (.slice Aa_1 a_stores.length ca_1) a_stores.length (ints_ (M.up (k + (a_pits.length : Int)) a_stores.length)) ga_1]) := by
  refine enterB hb @Try.func54 @Try.ntmps54 rfl rfl ?_
  refine Js.trashE ?_
  refine Js.seq ?_
  refine Js.region ?_
  refine JL.e (e_box (c := [.slice Aa_0 a_pits.length ca_0, .slice Aa_1 a_stores.length ca_1, .int .i64 a_player]) rfl rfl) ?_
  rintro _ _ _ ⟨b1, rfl, rfl, rfl⟩ _
  refine JL.q (OpP.q (p_assign rfl)) ?_
  refine JL.nil ?_
  refine Js.seq ?_
  refine Js.region ?_
  refine JL.q (OpP.q (p_fieldAddr fld_33_0 rfl)) ?_
  refine JL.q (q_load1 ty_24 rfl (Mem.box (i := 0) rfl rfl)) ?_
  refine JL.q (OpP.q (p_move rfl)) ?_
  refine JL.conv (fun _ h => h.front (i := 1) rfl) ?_
  refine JL.e (e_callBB (bs := [rowO 2 1 (.slice Aa_0 a_pits.length ca_0) a_pits.length (ints_ a_pits) ga_0]) (rest := [boxO b1 [.slice Aa_0 a_pits.length ca_0, .slice Aa_1 a_stores.length ca_1, .int .i64 a_player] 33, rowO 2 1 (.slice Aa_1 a_stores.length ca_1) a_stores.length (ints_ a_stores) ga_1, anyO []]) fn_26 rfl (fun w hb ⟨_, hw⟩ => c_laws_markInt64S a_pits Aa_0 ca_0 ga_0 k w hb (by omega) (by omega) (by omega) (by omega) (by omega))) ?_
  rintro _ _ _ ⟨_, G2, ⟨rfl, rfl⟩, rfl, rfl⟩ _
  refine JL.q (OpP.q (p_assign rfl)) ?_
  refine JL.nil ?_
  refine Js.seq ?_
  refine Js.region ?_
  refine JL.q (OpP.q (p_fieldAddr fld_33_1 rfl)) ?_
  refine JL.q (q_load1 ty_24 rfl (Mem.box (i := 2) rfl rfl)) ?_
  refine JL.q (OpP.q (p_move rfl)) ?_
  refine JL.conv (fun _ h => h.front (i := 3) rfl) ?_
  refine JL.e (e_callBB (bs := [rowO 2 1 (.slice Aa_1 a_stores.length ca_1) a_stores.length (ints_ a_stores) ga_1]) (rest := [rowO 2 1 (.slice Aa_0 a_pits.length ca_0) a_pits.length (ints_ (M.up k a_pits.length)) ga_0, anyO G2, boxO b1 [.slice Aa_0 a_pits.length ca_0, .slice Aa_1 a_stores.length ca_1, .int .i64 a_player] 33, anyO []]) fn_26 rfl (fun w hb ⟨_, hw⟩ => c_laws_markInt64S a_stores Aa_1 ca_1 ga_1 (k + (a_pits.length : Int)) w hb (by omega) (by omega) (by omega) (by omega) (by omega))) ?_
  rintro _ _ _ ⟨_, G3, ⟨rfl, rfl⟩, rfl, rfl⟩ _
  refine JL.q (OpP.q (p_assign rfl)) ?_
  refine JL.nil ?_
  refine Js.seq ?_
  refine Js.region ?_
  refine JL.q (OpP.q (p_move rfl)) ?_
  refine JL.q (OpP.q (p_assign rfl)) ?_
  refine JL.nil ?_
  refine Js.eat (i := 1) (j := 5) rfl rfl rfl ?_
  refine Js.eat (i := 2) (j := 4) rfl rfl rfl ?_
  refine Js.eat (i := 2) (j := 3) rfl rfl rfl ?_
  refine Js.front (i := 2) rfl ?_
  refine Js.front (i := 1) rfl ?_
  refine Js.front (i := 2) rfl ?_
  refine Js.ret (R := RB w [rowO 2 1 (.slice Aa_0 a_pits.length ca_0) a_pits.length (ints_ a_pits) ga_0, rowO 2 1 (.slice Aa_1 a_stores.length ca_1) a_stores.length (ints_ a_stores) ga_1] (fun v bs' => v = .int .i64 (k + (a_pits.length : Int) + (a_stores.length : Int)) ∧ bs' = [rowO 2 1 (.slice Aa_0 a_pits.length ca_0) a_pits.length (ints_ (M.up k a_pits.length)) ga_0, rowO 2 1 (.slice Aa_1 a_stores.length ca_1) a_stores.length (ints_ (M.up (k + (a_pits.length : Int)) a_stores.length)) ga_1])) @Try.results54 (fun _ _ => rfl) (ResOk.tmp rfl ResOk.nil) (fun w1 hw => ?_)
  have hE : (.int .i64 ((k + (a_pits.length : Int)) + (a_stores.length : Int)) : Value) = .int .i64 (k + (a_pits.length : Int) + (a_stores.length : Int)) := by rfl
  refine ⟨_, [rowO 2 1 (.slice Aa_0 a_pits.length ca_0) a_pits.length (ints_ (M.up k a_pits.length)) ga_0, rowO 2 1 (.slice Aa_1 a_stores.length ca_1) a_stores.length (ints_ (M.up (k + (a_pits.length : Int)) a_stores.length)) ga_1], _, rfl, ⟨hE, ?_⟩, hw.giveBack hb (Up.refl _ _)⟩
  · rfl

set_option maxRecDepth 100000 in
set_option maxHeartbeats 400000 in
theorem c_laws_markGame (a_rules : M.Rul) (a_start : M.Pos) (a_moves : List Int) (a_now : M.Pos) (a_resigned : Int) (Aa_9 : Option Addr) (ca_9 : Nat) (ga_9 : List Nat) (Aa_10 : Option Addr) (ca_10 : Nat) (ga_10 : List Nat) (Aa_12 : Option Addr) (ca_12 : Nat) (ga_12 : List Nat) (Aa_13 : Option Addr) (ca_13 : Nat) (ga_13 : List Nat) (Aa_14 : Option Addr) (ca_14 : Nat) (ga_14 : List Nat) (k : Int) (w : World) (hb : Bw w [rowO 2 1 (.slice Aa_9 a_start.pits.length ca_9) a_start.pits.length (ints_ a_start.pits) ga_9, rowO 2 1 (.slice Aa_10 a_start.stores.length ca_10) a_start.stores.length (ints_ a_start.stores) ga_10, rowO 2 1 (.slice Aa_12 a_moves.length ca_12) a_moves.length (ints_ a_moves) ga_12, rowO 2 1 (.slice Aa_13 a_now.pits.length ca_13) a_now.pits.length (ints_ a_now.pits) ga_13, rowO 2 1 (.slice Aa_14 a_now.stores.length ca_14) a_now.stores.length (ints_ a_now.stores) ga_14]) (bd0 : a_start.pits.length ≤ ca_9) (bd1 : ca_9 ≤ 9223372036854775807) (bd2 : a_start.stores.length ≤ ca_10) (bd3 : ca_10 ≤ 9223372036854775807) (bd4 : a_moves.length ≤ ca_12) (bd5 : ca_12 ≤ 9223372036854775807) (bd6 : a_now.pits.length ≤ ca_13) (bd7 : ca_13 ≤ 9223372036854775807) (bd8 : a_now.stores.length ≤ ca_14) (bd9 : ca_14 ≤ 9223372036854775807) (r0 : a_start.pits.length ≤ 4194304) (r1 : a_start.stores.length ≤ 4194304) (r2 : a_moves.length ≤ 4194304) (r3 : a_now.pits.length ≤ 4194304) (r4 : a_now.stores.length ≤ 4194304) (r5 : 0 ≤ k) (r6 : k ≤ 10000000) : RetB Try.prog 25 [.agg #[.int .i64 a_rules.pits, .int .i64 a_rules.seeds, .bool a_rules.stores, .bool a_rules.skip, .bool a_rules.relay, .bool a_rules.feed, .bool a_rules.again, .int .i64 a_rules.capture, .int .i64 a_rules.slam, .slice Aa_9 a_start.pits.length ca_9, .slice Aa_10 a_start.stores.length ca_10, .int .i64 a_start.player, .slice Aa_12 a_moves.length ca_12, .slice Aa_13 a_now.pits.length ca_13, .slice Aa_14 a_now.stores.length ca_14, .int .i64 a_now.player, .int .i64 a_resigned], .int .i64 k] w [rowO 2 1 (.slice Aa_9 a_start.pits.length ca_9) a_start.pits.length (ints_ a_start.pits) ga_9, rowO 2 1 (.slice Aa_10 a_start.stores.length ca_10) a_start.stores.length (ints_ a_start.stores) ga_10, rowO 2 1 (.slice Aa_12 a_moves.length ca_12) a_moves.length (ints_ a_moves) ga_12, rowO 2 1 (.slice Aa_13 a_now.pits.length ca_13) a_now.pits.length (ints_ a_now.pits) ga_13, rowO 2 1 (.slice Aa_14 a_now.stores.length ca_14) a_now.stores.length (ints_ a_now.stores) ga_14] (fun v bs' => v = .int .i64 (k + M.szp a_start + (a_moves.length : Int) + M.szp a_now) ∧ bs' = [rowO 2 1 (.slice Aa_9 a_start.pits.length ca_9) a_start.pits.length (ints_ ((M.markP a_start k).pits)) ga_9, rowO 2 1 (.slice Aa_10 a_start.stores.length ca_10) a_start.stores.length (ints_ ((M.markP a_start k).stores)) ga_10, rowO 2 1 (.slice Aa_12 a_moves.length ca_12) a_moves.length (ints_ (M.up (k + M.szp a_start) a_moves.length)) ga_12, rowO 2 1 (.slice Aa_13 a_now.pits.length ca_13) a_now.pits.length (ints_ ((M.markP a_now (k + M.szp a_start + (a_moves.length : Int))).pits)) ga_13, rowO 2 1 (.slice Aa_14 a_now.stores.length ca_14) a_now.stores.length (ints_ ((M.markP a_now (k + M.szp a_start + (a_moves.length : Int))).stores)) ga_14]) := by
  refine enterB hb @Try.func25 @Try.ntmps25 rfl rfl ?_
  refine Js.trashE ?_
  refine Js.seq ?_
  refine Js.region ?_
  refine JL.e (e_box (c := [.int .i64 a_rules.pits, .int .i64 a_rules.seeds, .bool a_rules.stores, .bool a_rules.skip, .bool a_rules.relay, .bool a_rules.feed, .bool a_rules.again, .int .i64 a_rules.capture, .int .i64 a_rules.slam, .slice Aa_9 a_start.pits.length ca_9, .slice Aa_10 a_start.stores.length ca_10, .int .i64 a_start.player, .slice Aa_12 a_moves.length ca_12, .slice Aa_13 a_now.pits.length ca_13, .slice Aa_14 a_now.stores.length ca_14, .int .i64 a_now.player, .int .i64 a_resigned]) rfl rfl) ?_
  rintro _ _ _ ⟨b1, rfl, rfl, rfl⟩ _
  refine JL.q (OpP.q (p_assign rfl)) ?_
  refine JL.nil ?_
  refine Js.seq ?_
  refine Js.region ?_
  refine JL.q (OpP.q (p_fieldAddr fld_35_1 rfl)) ?_
  refine JL.q (q_loadN ty_33 rfl (Mem.boxR (i := 0) rfl 9 3) rfl rfl) ?_
  refine JL.q (OpP.q (p_move rfl)) ?_
  refine JL.conv (fun _ h => h.front (i := 2) rfl) ?_
  refine JL.conv (fun _ h => h.front (i := 2) rfl) ?_
  refine JL.e (e_callBB (bs := [rowO 2 1 (.slice Aa_9 a_start.pits.length ca_9) a_start.pits.length (ints_ a_start.pits) ga_9, rowO 2 1 (.slice Aa_10 a_start.stores.length ca_10) a_start.stores.length (ints_ a_start.stores) ga_10]) (rest := [boxO b1 [.int .i64 a_rules.pits, .int .i64 a_rules.seeds, .bool a_rules.stores, .bool a_rules.skip, .bool a_rules.relay, .bool a_rules.feed, .bool a_rules.again, .int .i64 a_rules.capture, .int .i64 a_rules.slam, .slice Aa_9 a_start.pits.length ca_9, .slice Aa_10 a_start.stores.length ca_10, .int .i64 a_start.player, .slice Aa_12 a_moves.length ca_12, .slice Aa_13 a_now.pits.length ca_13, .slice Aa_14 a_now.stores.length ca_14, .int .i64 a_now.player, .int .i64 a_resigned] 35, rowO 2 1 (.slice Aa_12 a_moves.length ca_12) a_moves.length (ints_ a_moves) ga_12, rowO 2 1 (.slice Aa_13 a_now.pits.length ca_13) a_now.pits.length (ints_ a_now.pits) ga_13, rowO 2 1 (.slice Aa_14 a_now.stores.length ca_14) a_now.stores.length (ints_ a_now.stores) ga_14, anyO []]) fn_54 rfl (fun w hb ⟨_, hw⟩ => c_laws_markPosition a_start.pits a_start.stores a_start.player Aa_9 ca_9 ga_9 Aa_10 ca_10 ga_10 k w hb (by omega) (by omega) (by omega) (by omega) (by omega) (by omega) (by omega) (by omega))) ?_
  rintro _ _ _ ⟨_, G2, ⟨rfl, rfl⟩, rfl, rfl⟩ _
  refine JL.q (OpP.q (p_assign rfl)) ?_
  refine JL.nil ?_
  refine Js.seq ?_
  refine Js.region ?_
  refine JL.q (OpP.q (p_fieldAddr fld_35_2 rfl)) ?_
  refine JL.q (q_load1 ty_24 rfl (Mem.box (i := 3) rfl rfl)) ?_
  refine JL.q (OpP.q (p_move rfl)) ?_
  refine JL.conv (fun _ h => h.front (i := 4) rfl) ?_
  refine JL.e (e_callBB (bs := [rowO 2 1 (.slice Aa_12 a_moves.length ca_12) a_moves.length (ints_ a_moves) ga_12]) (rest := [rowO 2 1 (.slice Aa_9 a_start.pits.length ca_9) a_start.pits.length (ints_ (M.up k a_start.pits.length)) ga_9, rowO 2 1 (.slice Aa_10 a_start.stores.length ca_10) a_start.stores.length (ints_ (M.up (k + (a_start.pits.length : Int)) a_start.stores.length)) ga_10, anyO G2, boxO b1 [.int .i64 a_rules.pits, .int .i64 a_rules.seeds, .bool a_rules.stores, .bool a_rules.skip, .bool a_rules.relay, .bool a_rules.feed, .bool a_rules.again, .int .i64 a_rules.capture, .int .i64 a_rules.slam, .slice Aa_9 a_start.pits.length ca_9, .slice Aa_10 a_start.stores.length ca_10, .int .i64 a_start.player, .slice Aa_12 a_moves.length ca_12, .slice Aa_13 a_now.pits.length ca_13, .slice Aa_14 a_now.stores.length ca_14, .int .i64 a_now.player, .int .i64 a_resigned] 35, rowO 2 1 (.slice Aa_13 a_now.pits.length ca_13) a_now.pits.length (ints_ a_now.pits) ga_13, rowO 2 1 (.slice Aa_14 a_now.stores.length ca_14) a_now.stores.length (ints_ a_now.stores) ga_14, anyO []]) fn_26 rfl (fun w hb ⟨_, hw⟩ => c_laws_markInt64S a_moves Aa_12 ca_12 ga_12 (k + (a_start.pits.length : Int) + (a_start.stores.length : Int)) w hb (by omega) (by omega) (by omega) (by omega) (by omega))) ?_
  rintro _ _ _ ⟨_, G3, ⟨rfl, rfl⟩, rfl, rfl⟩ _
  refine JL.q (OpP.q (p_assign rfl)) ?_
  refine JL.nil ?_
  refine Js.seq ?_
  refine Js.region ?_
  refine JL.q (OpP.q (p_fieldAddr fld_35_3 rfl)) ?_
  refine JL.q (q_loadN ty_33 rfl (Mem.boxR (i := 5) rfl 13 3) rfl rfl) ?_
  refine JL.q (OpP.q (p_move rfl)) ?_
  refine JL.conv (fun _ h => h.front (i := 7) rfl) ?_
  refine JL.conv (fun _ h => h.front (i := 7) rfl) ?_
  refine JL.e (e_callBB (bs := [rowO 2 1 (.slice Aa_13 a_now.pits.length ca_13) a_now.pits.length (ints_ a_now.pits) ga_13, rowO 2 1 (.slice Aa_14 a_now.stores.length ca_14) a_now.stores.length (ints_ a_now.stores) ga_14]) (rest := [rowO 2 1 (.slice Aa_12 a_moves.length ca_12) a_moves.length (ints_ (M.up (k + (a_start.pits.length : Int) + (a_start.stores.length : Int)) a_moves.length)) ga_12, anyO G3, rowO 2 1 (.slice Aa_9 a_start.pits.length ca_9) a_start.pits.length (ints_ (M.up k a_start.pits.length)) ga_9, rowO 2 1 (.slice Aa_10 a_start.stores.length ca_10) a_start.stores.length (ints_ (M.up (k + (a_start.pits.length : Int)) a_start.stores.length)) ga_10, anyO G2, boxO b1 [.int .i64 a_rules.pits, .int .i64 a_rules.seeds, .bool a_rules.stores, .bool a_rules.skip, .bool a_rules.relay, .bool a_rules.feed, .bool a_rules.again, .int .i64 a_rules.capture, .int .i64 a_rules.slam, .slice Aa_9 a_start.pits.length ca_9, .slice Aa_10 a_start.stores.length ca_10, .int .i64 a_start.player, .slice Aa_12 a_moves.length ca_12, .slice Aa_13 a_now.pits.length ca_13, .slice Aa_14 a_now.stores.length ca_14, .int .i64 a_now.player, .int .i64 a_resigned] 35, anyO []]) fn_54 rfl (fun w hb ⟨_, hw⟩ => c_laws_markPosition a_now.pits a_now.stores a_now.player Aa_13 ca_13 ga_13 Aa_14 ca_14 ga_14 ((k + (a_start.pits.length : Int) + (a_start.stores.length : Int)) + (a_moves.length : Int)) w hb (by omega) (by omega) (by omega) (by omega) (by omega) (by omega) (by omega) (by omega))) ?_
  rintro _ _ _ ⟨_, G4, ⟨rfl, rfl⟩, rfl, rfl⟩ _
  refine JL.q (OpP.q (p_assign rfl)) ?_
  refine JL.nil ?_
  refine Js.seq ?_
  refine Js.region ?_
  refine JL.q (OpP.q (p_move rfl)) ?_
  refine JL.q (OpP.q (p_assign rfl)) ?_
  refine JL.nil ?_
  refine Js.eat (i := 2) (j := 9) rfl rfl rfl ?_
  refine Js.eat (i := 3) (j := 8) rfl rfl rfl ?_
  refine Js.eat (i := 5) (j := 7) rfl rfl rfl ?_
  refine Js.eat (i := 5) (j := 6) rfl rfl rfl ?_
  refine Js.front (i := 5) rfl ?_
  refine Js.front (i := 2) rfl ?_
  refine Js.front (i := 2) rfl ?_
  refine Js.front (i := 3) rfl ?_
  refine Js.front (i := 5) rfl ?_
  refine Js.front (i := 5) rfl ?_
  refine Js.ret (R := RB w [rowO 2 1 (.slice Aa_9 a_start.pits.length ca_9) a_start.pits.length (ints_ a_start.pits) ga_9, rowO 2 1 (.slice Aa_10 a_start.stores.length ca_10) a_start.stores.length (ints_ a_start.stores) ga_10, rowO 2 1 (.slice Aa_12 a_moves.length ca_12) a_moves.length (ints_ a_moves) ga_12, rowO 2 1 (.slice Aa_13 a_now.pits.length ca_13) a_now.pits.length (ints_ a_now.pits) ga_13, rowO 2 1 (.slice Aa_14 a_now.stores.length ca_14) a_now.stores.length (ints_ a_now.stores) ga_14] (fun v bs' => v = .int .i64 (k + M.szp a_start + (a_moves.length : Int) + M.szp a_now) ∧ bs' = [rowO 2 1 (.slice Aa_9 a_start.pits.length ca_9) a_start.pits.length (ints_ ((M.markP a_start k).pits)) ga_9, rowO 2 1 (.slice Aa_10 a_start.stores.length ca_10) a_start.stores.length (ints_ ((M.markP a_start k).stores)) ga_10, rowO 2 1 (.slice Aa_12 a_moves.length ca_12) a_moves.length (ints_ (M.up (k + M.szp a_start) a_moves.length)) ga_12, rowO 2 1 (.slice Aa_13 a_now.pits.length ca_13) a_now.pits.length (ints_ ((M.markP a_now (k + M.szp a_start + (a_moves.length : Int))).pits)) ga_13, rowO 2 1 (.slice Aa_14 a_now.stores.length ca_14) a_now.stores.length (ints_ ((M.markP a_now (k + M.szp a_start + (a_moves.length : Int))).stores)) ga_14])) @Try.results25 (fun _ _ => rfl) (ResOk.tmp rfl ResOk.nil) (fun w1 hw => ?_)
  have hE : (.int .i64 (((k + (a_start.pits.length : Int) + (a_start.stores.length : Int)) + (a_moves.length : Int)) + (a_now.pits.length : Int) + (a_now.stores.length : Int)) : Value) = .int .i64 (k + M.szp a_start + (a_moves.length : Int) + M.szp a_now) := by first | rfl | (simp only [M.markP, M.szp, ← Int.add_assoc]; done) | (simp only [M.markP, M.szp, ← Int.add_assoc]; rfl)
  have hE1 : (M.markP a_start k).pits = M.up k a_start.pits.length := by first | rfl | (simp only [M.markP, M.szp, ← Int.add_assoc]; done) | (simp only [M.markP, M.szp, ← Int.add_assoc]; rfl)
  have hE2 : (M.markP a_start k).stores = M.up (k + (a_start.pits.length : Int)) a_start.stores.length := by first | rfl | (simp only [M.markP, M.szp, ← Int.add_assoc]; done) | (simp only [M.markP, M.szp, ← Int.add_assoc]; rfl)
  have hE3 : M.up (k + M.szp a_start) a_moves.length = M.up (k + (a_start.pits.length : Int) + (a_start.stores.length : Int)) a_moves.length := by first | rfl | (simp only [M.markP, M.szp, ← Int.add_assoc]; done) | (simp only [M.markP, M.szp, ← Int.add_assoc]; rfl)
  have hE4 : (M.markP a_now (k + M.szp a_start + (a_moves.length : Int))).pits = M.up ((k + (a_start.pits.length : Int) + (a_start.stores.length : Int)) + (a_moves.length : Int)) a_now.pits.length := by first | rfl | (simp only [M.markP, M.szp, ← Int.add_assoc]; done) | (simp only [M.markP, M.szp, ← Int.add_assoc]; rfl)
  have hE5 : (M.markP a_now (k + M.szp a_start + (a_moves.length : Int))).stores = M.up (((k + (a_start.pits.length : Int) + (a_start.stores.length : Int)) + (a_moves.length : Int)) + (a_now.pits.length : Int)) a_now.stores.length := by first | rfl | (simp only [M.markP, M.szp, ← Int.add_assoc]; done) | (simp only [M.markP, M.szp, ← Int.add_assoc]; rfl)
  refine ⟨_, [rowO 2 1 (.slice Aa_9 a_start.pits.length ca_9) a_start.pits.length (ints_ (M.up k a_start.pits.length)) ga_9, rowO 2 1 (.slice Aa_10 a_start.stores.length ca_10) a_start.stores.length (ints_ (M.up (k + (a_start.pits.length : Int)) a_start.stores.length)) ga_10, rowO 2 1 (.slice Aa_12 a_moves.length ca_12) a_moves.length (ints_ (M.up (k + (a_start.pits.length : Int) + (a_start.stores.length : Int)) a_moves.length)) ga_12, rowO 2 1 (.slice Aa_13 a_now.pits.length ca_13) a_now.pits.length (ints_ (M.up ((k + (a_start.pits.length : Int) + (a_start.stores.length : Int)) + (a_moves.length : Int)) a_now.pits.length)) ga_13, rowO 2 1 (.slice Aa_14 a_now.stores.length ca_14) a_now.stores.length (ints_ (M.up (((k + (a_start.pits.length : Int) + (a_start.stores.length : Int)) + (a_moves.length : Int)) + (a_now.pits.length : Int)) a_now.stores.length)) ga_14], _, rfl, ⟨hE, ?_⟩, hw.giveBack hb (Up.refl _ _)⟩
  · rw [hE1, hE2, hE3, hE4, hE5]

set_option maxRecDepth 100000 in
set_option maxHeartbeats 400000 in
theorem c_laws_heldPosition (a : M.Pos) (v_a : Value) (k : Int) (w : World) (h_a : (Ty.agg (cPosition a)).ok w v_a) (r0 : a.pits.length ≤ 4194304) (r1 : a.stores.length ≤ 4194304) (r2 : 0 ≤ k) (r3 : k ≤ 50000000) : RetV Try.prog 55 [v_a, .int .i64 k] w (.int .i64 (M.heldP a k)) := by
  have b1 := M.held_bd a.pits r2
  obtain ⟨A1_0, c1_0, A1_1, c1_1, rfl, h1_0, h1_1, bl1_0, bh1_0, bl1_1, bh1_1⟩ := open_Position h_a
  refine enter @Try.func55 @Try.ntmps55 rfl rfl ?_
  refine Js.seq ?_
  refine Js.region ?_
  refine JL.e (e_box (c := [.slice A1_0 a.pits.length c1_0, .slice A1_1 a.stores.length c1_1, .int .i64 a.player]) rfl rfl) ?_
  rintro _ _ _ ⟨b2, rfl, rfl, rfl⟩ _
  refine JL.q (OpP.q (p_assign rfl)) ?_
  refine JL.nil ?_
  refine Js.seq ?_
  refine Js.region ?_
  refine JL.q (OpP.q (p_fieldAddr fld_33_0 rfl)) ?_
  refine JL.q (q_load1 ty_24 rfl (Mem.box (i := 0) rfl rfl)) ?_
  refine JL.q (OpP.q (p_move rfl)) ?_
  refine JL.e (e_callV fn_27 rfl (fun w hw => c_laws_heldInt64S a.pits _ k w (Ty.mono _ h1_0 hw.vis) (by omega) (by omega) (by omega))) ?_
  rintro _ _ _ ⟨rfl, rfl, rfl⟩ _
  refine JL.q (OpP.q (p_assign rfl)) ?_
  refine JL.nil ?_
  refine Js.seq ?_
  refine Js.seq ?_
  refine Js.region ?_
  refine JL.q (OpP.q (p_move rfl)) ?_
  refine JL.q (OpP.q (p_lss rfl rfl)) ?_
  refine JL.nil ?_
  refine Js.cond rfl (fun h3 => ?_) (fun h3 => ?_)
  ·
    have h3' := h3
    try simp only [decide_eq_true_eq] at h3'
    have hE := M.heldP_1 (p := a) (k := k) (by simpa using h3)
    refine Js.seq ?_
    refine Js.region ?_
    refine JL.q (OpP.q (p_assign rfl)) ?_
    refine JL.nil ?_
    refine Js.ret (R := RV w (.int .i64 (M.heldP a k))) @Try.results55 (fun _ _ => rfl) (ResOk.tmp rfl ResOk.nil) (fun w1 hw => ?_)
    refine ⟨?_, hw.ext (Up.refl _ _)⟩
    rw [hE]; rfl
  ·
    have h3' := h3
    try simp only [decide_eq_false_iff_not, Int.not_lt] at h3'
    have q1 : ¬ M.held a.pits k < 0 := by simpa using h3
    refine Js.skip ?_
    refine Js.seq ?_
    refine Js.region ?_
    refine JL.q (OpP.q (p_fieldAddr fld_33_1 rfl)) ?_
    refine JL.q (q_load1 ty_24 rfl (Mem.box (i := 0) rfl rfl)) ?_
    refine JL.q (OpP.q (p_move rfl)) ?_
    refine JL.e (e_callV fn_27 rfl (fun w hw => c_laws_heldInt64S a.stores _ (M.held a.pits k) w (Ty.mono _ h1_1 hw.vis) (by omega) (by omega) (by omega))) ?_
    rintro _ _ _ ⟨rfl, rfl, rfl⟩ _
    refine JL.q (OpP.q (p_assign rfl)) ?_
    refine JL.nil ?_
    refine Js.seq ?_
    refine Js.seq ?_
    refine Js.region ?_
    refine JL.q (OpP.q (p_move rfl)) ?_
    refine JL.q (OpP.q (p_lss rfl rfl)) ?_
    refine JL.nil ?_
    refine Js.cond rfl (fun h4 => ?_) (fun h4 => ?_)
    ·
      have h4' := h4
      try simp only [decide_eq_true_eq] at h4'
      have hE := M.heldP_2 q1 (by simpa using h4)
      refine Js.seq ?_
      refine Js.region ?_
      refine JL.q (OpP.q (p_assign rfl)) ?_
      refine JL.nil ?_
      refine Js.ret (R := RV w (.int .i64 (M.heldP a k))) @Try.results55 (fun _ _ => rfl) (ResOk.tmp rfl ResOk.nil) (fun w1 hw => ?_)
      refine ⟨?_, hw.ext (Up.refl _ _)⟩
      rw [hE]; rfl
    ·
      have h4' := h4
      try simp only [decide_eq_false_iff_not, Int.not_lt] at h4'
      have hE := M.heldP_3 q1 (by simpa using h4)
      refine Js.skip ?_
      refine Js.seq ?_
      refine Js.region ?_
      refine JL.q (OpP.q (p_move rfl)) ?_
      refine JL.q (OpP.q (p_assign rfl)) ?_
      refine JL.nil ?_
      refine Js.ret (R := RV w (.int .i64 (M.heldP a k))) @Try.results55 (fun _ _ => rfl) (ResOk.tmp rfl ResOk.nil) (fun w1 hw => ?_)
      refine ⟨?_, hw.ext (Up.refl _ _)⟩
      rw [hE]; rfl

set_option maxRecDepth 100000 in
set_option maxHeartbeats 400000 in
theorem c_laws_heldGame (a : M.Gam) (v_a : Value) (k : Int) (w : World) (h_a : (Ty.agg (cGame a)).ok w v_a) (r0 : a.start.pits.length ≤ 4194304) (r1 : a.start.stores.length ≤ 4194304) (r2 : a.moves.length ≤ 4194304) (r3 : a.now.pits.length ≤ 4194304) (r4 : a.now.stores.length ≤ 4194304) (r5 : 0 ≤ k) (r6 : k ≤ 10000000) : RetV Try.prog 37 [v_a, .int .i64 k] w (.int .i64 (M.heldG a k)) := by
  have b1 := M.heldP_bd a.start r5
  have b3 : M.szp a.start = a.start.pits.length + a.start.stores.length := rfl
  obtain ⟨A1_9, c1_9, A1_10, c1_10, A1_12, c1_12, A1_13, c1_13, A1_14, c1_14, rfl, h1_9, h1_10, h1_12, h1_13, h1_14, bl1_9, bh1_9, bl1_10, bh1_10, bl1_12, bh1_12, bl1_13, bh1_13, bl1_14, bh1_14⟩ := open_Game h_a
  refine enter @Try.func37 @Try.ntmps37 rfl rfl ?_
  refine Js.seq ?_
  refine Js.region ?_
  refine JL.e (e_box (c := [.int .i64 a.rules.pits, .int .i64 a.rules.seeds, .bool a.rules.stores, .bool a.rules.skip, .bool a.rules.relay, .bool a.rules.feed, .bool a.rules.again, .int .i64 a.rules.capture, .int .i64 a.rules.slam, .slice A1_9 a.start.pits.length c1_9, .slice A1_10 a.start.stores.length c1_10, .int .i64 a.start.player, .slice A1_12 a.moves.length c1_12, .slice A1_13 a.now.pits.length c1_13, .slice A1_14 a.now.stores.length c1_14, .int .i64 a.now.player, .int .i64 a.resigned]) rfl rfl) ?_
  rintro _ _ _ ⟨b2, rfl, rfl, rfl⟩ _
  refine JL.q (OpP.q (p_assign rfl)) ?_
  refine JL.nil ?_
  refine Js.seq ?_
  refine Js.region ?_
  refine JL.q (OpP.q (p_fieldAddr fld_35_1 rfl)) ?_
  refine JL.q (q_loadN ty_33 rfl (Mem.boxR (i := 0) rfl 9 3) rfl rfl) ?_
  refine JL.q (OpP.q (p_move rfl)) ?_
  refine JL.e (e_callV fn_55 rfl (fun w hw => c_laws_heldPosition a.start _ k w ⟨_, rfl, ⟨(Ty.mono _ h1_9 hw.vis), (Ty.mono _ h1_10 hw.vis), rfl, trivial⟩⟩ (by omega) (by omega) (by omega) (by omega))) ?_
  rintro _ _ _ ⟨rfl, rfl, rfl⟩ _
  refine JL.q (OpP.q (p_assign rfl)) ?_
  refine JL.nil ?_
  refine Js.seq ?_
  refine Js.seq ?_
  refine Js.region ?_
  refine JL.q (OpP.q (p_move rfl)) ?_
  refine JL.q (OpP.q (p_lss rfl rfl)) ?_
  refine JL.nil ?_
  refine Js.cond rfl (fun h3 => ?_) (fun h3 => ?_)
  ·
    have h3' := h3
    try simp only [decide_eq_true_eq] at h3'
    have hE := M.heldG_1 (g := a) (k := k) (by simpa using h3)
    refine Js.seq ?_
    refine Js.region ?_
    refine JL.q (OpP.q (p_assign rfl)) ?_
    refine JL.nil ?_
    refine Js.ret (R := RV w (.int .i64 (M.heldG a k))) @Try.results37 (fun _ _ => rfl) (ResOk.tmp rfl ResOk.nil) (fun w1 hw => ?_)
    refine ⟨?_, hw.ext (Up.refl _ _)⟩
    rw [hE]; rfl
  ·
    have h3' := h3
    try simp only [decide_eq_false_iff_not, Int.not_lt] at h3'
    have q1 : ¬ M.heldP a.start k < 0 := by simpa using h3
    have b2 := M.held_bd a.moves (k := M.heldP a.start k) (by omega)
    refine Js.skip ?_
    refine Js.seq ?_
    refine Js.region ?_
    refine JL.q (OpP.q (p_fieldAddr fld_35_2 rfl)) ?_
    refine JL.q (q_load1 ty_24 rfl (Mem.box (i := 0) rfl rfl)) ?_
    refine JL.q (OpP.q (p_move rfl)) ?_
    refine JL.e (e_callV fn_27 rfl (fun w hw => c_laws_heldInt64S a.moves _ (M.heldP a.start k) w (Ty.mono _ h1_12 hw.vis) (by omega) (by omega) (by omega))) ?_
    rintro _ _ _ ⟨rfl, rfl, rfl⟩ _
    refine JL.q (OpP.q (p_assign rfl)) ?_
    refine JL.nil ?_
    refine Js.seq ?_
    refine Js.seq ?_
    refine Js.region ?_
    refine JL.q (OpP.q (p_move rfl)) ?_
    refine JL.q (OpP.q (p_lss rfl rfl)) ?_
    refine JL.nil ?_
    refine Js.cond rfl (fun h4 => ?_) (fun h4 => ?_)
    ·
      have h4' := h4
      try simp only [decide_eq_true_eq] at h4'
      have hE := M.heldG_2 q1 (by simpa using h4)
      refine Js.seq ?_
      refine Js.region ?_
      refine JL.q (OpP.q (p_assign rfl)) ?_
      refine JL.nil ?_
      refine Js.ret (R := RV w (.int .i64 (M.heldG a k))) @Try.results37 (fun _ _ => rfl) (ResOk.tmp rfl ResOk.nil) (fun w1 hw => ?_)
      refine ⟨?_, hw.ext (Up.refl _ _)⟩
      rw [hE]; rfl
    ·
      have h4' := h4
      try simp only [decide_eq_false_iff_not, Int.not_lt] at h4'
      have q2 : ¬ M.held a.moves (M.heldP a.start k) < 0 := by simpa using h4
      refine Js.skip ?_
      refine Js.seq ?_
      refine Js.region ?_
      refine JL.q (OpP.q (p_fieldAddr fld_35_3 rfl)) ?_
      refine JL.q (q_loadN ty_33 rfl (Mem.boxR (i := 0) rfl 13 3) rfl rfl) ?_
      refine JL.q (OpP.q (p_move rfl)) ?_
      refine JL.e (e_callV fn_55 rfl (fun w hw => c_laws_heldPosition a.now _ (M.held a.moves (M.heldP a.start k)) w ⟨_, rfl, ⟨(Ty.mono _ h1_13 hw.vis), (Ty.mono _ h1_14 hw.vis), rfl, trivial⟩⟩ (by omega) (by omega) (by omega) (by omega))) ?_
      rintro _ _ _ ⟨rfl, rfl, rfl⟩ _
      refine JL.q (OpP.q (p_assign rfl)) ?_
      refine JL.nil ?_
      refine Js.seq ?_
      refine Js.seq ?_
      refine Js.region ?_
      refine JL.q (OpP.q (p_move rfl)) ?_
      refine JL.q (OpP.q (p_lss rfl rfl)) ?_
      refine JL.nil ?_
      refine Js.cond rfl (fun h5 => ?_) (fun h5 => ?_)
      ·
        have h5' := h5
        try simp only [decide_eq_true_eq] at h5'
        have hE := M.heldG_3 q1 q2 (by simpa using h5)
        refine Js.seq ?_
        refine Js.region ?_
        refine JL.q (OpP.q (p_assign rfl)) ?_
        refine JL.nil ?_
        refine Js.ret (R := RV w (.int .i64 (M.heldG a k))) @Try.results37 (fun _ _ => rfl) (ResOk.tmp rfl ResOk.nil) (fun w1 hw => ?_)
        refine ⟨?_, hw.ext (Up.refl _ _)⟩
        rw [hE]; rfl
      ·
        have h5' := h5
        try simp only [decide_eq_false_iff_not, Int.not_lt] at h5'
        have hE := M.heldG_4 q1 q2 (by simpa using h5)
        refine Js.skip ?_
        refine Js.seq ?_
        refine Js.region ?_
        refine JL.q (OpP.q (p_move rfl)) ?_
        refine JL.q (OpP.q (p_assign rfl)) ?_
        refine JL.nil ?_
        refine Js.ret (R := RV w (.int .i64 (M.heldG a k))) @Try.results37 (fun _ _ => rfl) (ResOk.tmp rfl ResOk.nil) (fun w1 hw => ?_)
        refine ⟨?_, hw.ext (Up.refl _ _)⟩
        rw [hE]; rfl

end Go.Proofs.Ytejnmechnhgmfaa

/- Walks: L3. -/
import Derived.Test.YtinkeciedmjjmaaTy
import Derived.Test.YtinkeciedmjjmaaL1
set_option linter.unusedSimpArgs false
set_option linter.unusedVariables false
namespace Go.Proofs.Ytinkeciedmjjmaa
open Go.RowKit

set_option maxRecDepth 100000 in
set_option maxHeartbeats 400000 in
theorem c_laws_markInt64S (a : List Int) (Aa_0 : Option Addr) (ca_0 : Nat) (ga_0 : List Nat) (k : Int) (w : World) (hb : Bw w [rowO 2 1 (.slice Aa_0 a.length ca_0) a.length (ints_ a) ga_0]) (bd0 : a.length ≤ ca_0) (bd1 : ca_0 ≤ 9223372036854775807) (r0 : a.length ≤ 4194304) (r1 : 0 ≤ k) (r2 : k ≤ 100000000) : RetB Try.prog 23 [.slice Aa_0 a.length ca_0, .int .i64 k] w [rowO 2 1 (.slice Aa_0 a.length ca_0) a.length (ints_ a) ga_0] (fun v bs' => v = .int .i64 (k + (a.length : Int)) ∧ bs' = [rowO 2 1 (.slice Aa_0 a.length ca_0) a.length (ints_ (M.up k a.length)) ga_0]) := by
  refine enterB hb @Try.func23 @Try.ntmps23 rfl rfl ?_
  refine Js.trashE ?_
  refine Js.seq ?_
  refine Js.region ?_
  refine JL.q (OpP.q (p_assign rfl)) ?_
  refine JL.nil ?_
  refine Js.seq ?_
  refine Js.seq ?_
  refine Js.region ?_
  refine JL.q (OpP.q (p_assign rfl)) ?_
  refine JL.nil ?_
  refine Js.block ?_
  refine Js.loop (fun l os u m => ∃ (i : Nat) (kk : Int) (xs : List Int) (G1_1 : List Nat), l = [(0, .slice Aa_0 a.length ca_0), (1, .int .i64 kk), (5, .int .i64 (i : Int))] ∧ os = [rowO 2 1 (.slice Aa_0 a.length ca_0) a.length (ints_ xs) ga_0, anyO G1_1] ∧ Up w.heap.size (offW w (([rowO 2 1 (.slice Aa_0 a.length ca_0) a.length (ints_ a) ga_0] : List Own).flatMap (·.fp))) u ∧ (xs = M.mkd a k i) ∧ (i ≤ a.length) ∧ (xs.length = a.length) ∧ (kk = k + (i : Int)) ∧ m = a.length - i) ⟨0, k, a, _, rfl, rfl, Up.refl _ _, by exact M.mkd_zero a k, by first | assumption | omega | rfl | (simp; done), by rfl, by simp, rfl⟩ ⟨rfl, rfl, rfl, trivial⟩ ?_
  · rintro _ _ u1 _ ⟨i, kk, xs, G1_1, rfl, rfl, x1, hX, hi, hl, hkk, rfl⟩
    refine Js.seq ?_
    refine Js.seq ?_
    refine Js.region ?_
    refine JL.q (OpP.q (p_move rfl)) ?_
    refine JL.q (OpP.q (p_move rfl)) ?_
    refine JL.q (OpP.q (p_len el_24 rfl)) ?_
    refine JL.q (OpP.q (p_lss rfl rfl)) ?_
    refine JL.nil ?_
    refine Js.cond rfl (fun h2 => ?_) (fun h2 => ?_)
    ·
      have h2' := h2
      try simp only [decide_eq_true_eq] at h2'
      refine Js.skip ?_
      refine Js.seq ?_
      refine Js.block ?_
      refine Js.seq ?_
      refine Js.region ?_
      refine JL.q (OpP.q (p_move rfl)) ?_
      refine JL.q (OpP.q (p_move rfl)) ?_
      refine JL.q (OpP.q (p_move rfl)) ?_
      refine JL.fact (row_some (i := 0) rfl (by omega)) (fun hf4 => ?_)
      obtain ⟨b4, rfl⟩ := hf4
      refine JL.q (OpP.q (p_indexAddr el_24 rfl rfl (by omega) (by omega) rfl)) ?_
      refine JL.s (e_storeRow (i := 0) (xs' := ints_ (xs.set i kk)) ty_2 rfl rfl rfl rfl rfl rfl (ints_lt (i := i) (by omega)) (ints_setL (i := i) (by omega))) ?_
      rintro _ _ _ ⟨rfl, rfl⟩ _
      refine JL.nil ?_
      refine Js.region ?_
      refine JL.q (OpP.q (p_move rfl)) ?_
      refine JL.q (OpP.q (p_add rfl rfl (IntWalk.i64_in _ (by omega)))) ?_
      refine JL.q (OpP.q (p_assign rfl)) ?_
      refine JL.nil ?_
      refine Js.blockEnd ?_
      refine Js.region ?_
      refine JL.q (OpP.q (p_move rfl)) ?_
      refine JL.q (OpP.q (p_add rfl rfl (IntWalk.i64_in _ (by omega)))) ?_
      refine JL.q (OpP.q (p_assign rfl)) ?_
      refine JL.nil ?_
      exact Js.again ⟨i + 1, kk + 1, xs.set i kk, _, rfl, rfl, x1, by rw [hX, hkk]; exact M.mkd_step (by omega), by first | assumption | omega | rfl | (simp; done), by rw [List.length_set]; exact hl, by first | assumption | omega | rfl | (simp; done), rfl⟩ (by omega) ⟨rfl, rfl, rfl, trivial⟩
    ·
      have h2' := h2
      try simp only [decide_eq_false_iff_not, Int.not_lt] at h2'
      have hi2 : i = a.length := by have := h2'; omega
      have hM : M.up k a.length = xs := by rw [hX]; exact (M.mkd_end hi2).symm
      refine Js.exit (fun _ _ => rfl) ?_
      refine Js.seq ?_
      refine Js.region ?_
      refine JL.q (OpP.q (p_move rfl)) ?_
      refine JL.q (OpP.q (p_assign rfl)) ?_
      refine JL.nil ?_
      refine Js.ret (R := RB w [rowO 2 1 (.slice Aa_0 a.length ca_0) a.length (ints_ a) ga_0] (fun v bs' => v = .int .i64 (k + (a.length : Int)) ∧ bs' = [rowO 2 1 (.slice Aa_0 a.length ca_0) a.length (ints_ (M.up k a.length)) ga_0])) @Try.results23 (fun _ _ => rfl) (ResOk.tmp rfl ResOk.nil) (fun w1 hw => ?_)
      have hE : (.int .i64 kk : Value) = .int .i64 (k + (a.length : Int)) := by first | exact hM | (refine congrArg (Value.int .i64) ?_; omega)
      have hE1 : M.up k a.length = xs := by first | exact hM | (refine congrArg (Value.int .i64) ?_; omega)
      refine ⟨_, [rowO 2 1 (.slice Aa_0 a.length ca_0) a.length (ints_ xs) ga_0], _, rfl, ⟨hE, ?_⟩, hw.giveBack hb (x1)⟩
      · rw [hE1]

set_option maxRecDepth 100000 in
set_option maxHeartbeats 400000 in
theorem c_laws_heldInt64S (a : List Int) (v_a : Value) (k : Int) (w : World) (h_a : (Ty.ints 2 a).ok w v_a) (r0 : a.length ≤ 4194304) (r1 : 0 ≤ k) (r2 : k ≤ 100000000) : RetV Try.prog 24 [v_a, .int .i64 k] w (.int .i64 (M.held a k)) := by
  obtain ⟨A1, c1, rfl, bl1, bh1⟩ := sl_form h_a
  refine enter @Try.func24 @Try.ntmps24 rfl rfl ?_
  refine Js.seq ?_
  refine Js.region ?_
  refine JL.q (OpP.q (p_assign rfl)) ?_
  refine JL.nil ?_
  refine Js.seq ?_
  refine Js.seq ?_
  refine Js.region ?_
  refine JL.q (OpP.q (p_assign rfl)) ?_
  refine JL.nil ?_
  refine Js.block ?_
  refine Js.loop (fun l os u m => ∃ (i : Nat) (kk : Int), l = [(0, .slice A1 a.length c1), (1, .int .i64 kk), (5, .int .i64 (i : Int))] ∧ os = [] ∧ Up w.heap.size w u ∧ (a.take i = M.up k i) ∧ (i ≤ a.length) ∧ (kk = k + (i : Int)) ∧ m = a.length - i) ⟨0, k, rfl, rfl, Up.refl _ _, by rfl, by first | assumption | omega | rfl | (simp; done), by simp, rfl⟩ ⟨rfl, rfl, rfl, trivial⟩ ?_
  · rintro _ _ u2 _ ⟨i, kk, rfl, rfl, x2, hU, hi, hkk, rfl⟩
    refine Js.seq ?_
    refine Js.seq ?_
    refine Js.region ?_
    refine JL.q (OpP.q (p_move rfl)) ?_
    refine JL.q (OpP.q (p_move rfl)) ?_
    refine JL.q (OpP.q (p_len el_24 rfl)) ?_
    refine JL.q (OpP.q (p_lss rfl rfl)) ?_
    refine JL.nil ?_
    refine Js.cond rfl (fun h3 => ?_) (fun h3 => ?_)
    ·
      have h3' := h3
      try simp only [decide_eq_true_eq] at h3'
      refine Js.skip ?_
      refine Js.seq ?_
      refine Js.block ?_
      refine Js.seq ?_
      refine Js.seq ?_
      refine Js.region ?_
      refine JL.q (OpP.q (p_move rfl)) ?_
      refine JL.q (OpP.q (p_move rfl)) ?_
      obtain ⟨b4, o4, he4, hc4⟩ := ints_elem (Ty.mono _ h_a x2.vis) (i := i) (by omega)
      refine JL.q (OpP.q (p_indexAddr el_24 rfl rfl (by omega) (by omega) he4)) ?_
      refine JL.q (q_load1 ty_2 rfl (Mem.pub hc4)) ?_
      refine JL.q (OpP.q (p_move rfl)) ?_
      refine JL.q (OpP.q (p_neq rfl rfl)) ?_
      refine JL.nil ?_
      refine Js.cond rfl (fun h5 => ?_) (fun h5 => ?_)
      ·
        have h5' := h5
        try simp only [Bool.not_eq_true', decide_eq_false_iff_not] at h5'
        have hE := M.held_no (a := a) (k := k) (i := i) (by omega) (by rw [← hkk]; simpa using h5)
        refine Js.seq ?_
        refine Js.region ?_
        refine JL.q (OpP.q (p_assign rfl)) ?_
        refine JL.nil ?_
        refine Js.ret (R := RV w (.int .i64 (M.held a k))) @Try.results24 (fun _ _ => rfl) (ResOk.tmp rfl ResOk.nil) (fun w1 hw => ?_)
        refine ⟨?_, hw.ext (x2)⟩
        first | (rw [hE]; rfl) | (rw [hE, hkk]; rfl)
      ·
        have h5' := h5
        try simp only [Bool.not_eq_false', decide_eq_true_eq] at h5'
        have he : M.nth a i = k + (i : Int) := by rw [← hkk]; simpa using h5
        refine Js.skip ?_
        refine Js.region ?_
        refine JL.q (OpP.q (p_move rfl)) ?_
        refine JL.q (OpP.q (p_add rfl rfl (IntWalk.i64_in _ (by omega)))) ?_
        refine JL.q (OpP.q (p_assign rfl)) ?_
        refine JL.nil ?_
        refine Js.blockEnd ?_
        refine Js.region ?_
        refine JL.q (OpP.q (p_move rfl)) ?_
        refine JL.q (OpP.q (p_add rfl rfl (IntWalk.i64_in _ (by omega)))) ?_
        refine JL.q (OpP.q (p_assign rfl)) ?_
        refine JL.nil ?_
        exact Js.again ⟨i + 1, kk + 1, rfl, rfl, x2, by exact M.held_step (by omega) hU he, by first | assumption | omega | rfl | (simp; done), by first | assumption | omega | rfl | (simp; done), rfl⟩ (by omega) ⟨rfl, rfl, rfl, trivial⟩
    ·
      have h3' := h3
      try simp only [decide_eq_false_iff_not, Int.not_lt] at h3'
      have hE := M.held_yes (a := a) (k := k) (i := i) (by have := h3'; omega) hU
      refine Js.exit (fun _ _ => rfl) ?_
      refine Js.seq ?_
      refine Js.region ?_
      refine JL.q (OpP.q (p_move rfl)) ?_
      refine JL.q (OpP.q (p_assign rfl)) ?_
      refine JL.nil ?_
      refine Js.ret (R := RV w (.int .i64 (M.held a k))) @Try.results24 (fun _ _ => rfl) (ResOk.tmp rfl ResOk.nil) (fun w1 hw => ?_)
      refine ⟨?_, hw.ext (x2)⟩
      first | (rw [hE]; rfl) | (rw [hE, hkk]; rfl)

set_option maxRecDepth 100000 in
set_option maxHeartbeats 400000 in
theorem c_laws_markPosition (a_pits : List Int) (a_stores : List Int) (a_player : Int) (Aa_0 : Option Addr) (ca_0 : Nat) (ga_0 : List Nat) (Aa_1 : Option Addr) (ca_1 : Nat) (ga_1 : List Nat) (k : Int) (w : World) (hb : Bw w [rowO 2 1 (.slice Aa_0 a_pits.length ca_0) a_pits.length (ints_ a_pits) ga_0, rowO 2 1 (.slice Aa_1 a_stores.length ca_1) a_stores.length (ints_ a_stores) ga_1]) (bd0 : a_pits.length ≤ ca_0) (bd1 : ca_0 ≤ 9223372036854775807) (bd2 : a_stores.length ≤ ca_1) (bd3 : ca_1 ≤ 9223372036854775807) (r0 : a_pits.length ≤ 4194304) (r1 : a_stores.length ≤ 4194304) (r2 : 0 ≤ k) (r3 : k ≤ 50000000) : RetB Try.prog 17 [.agg #[.slice Aa_0 a_pits.length ca_0, .slice Aa_1 a_stores.length ca_1, .int .i64 a_player], .int .i64 k] w [rowO 2 1 (.slice Aa_0 a_pits.length ca_0) a_pits.length (ints_ a_pits) ga_0, rowO 2 1 (.slice Aa_1 a_stores.length ca_1) a_stores.length (ints_ a_stores) ga_1] (fun v bs' => v = .int .i64 (k + (a_pits.length : Int) + (a_stores.length : Int)) ∧ bs' = [rowO 2 1 (.slice Aa_0 a_pits.length ca_0) a_pits.length (ints_ (M.up k a_pits.length)) ga_0, rowO 2 1 (.slice Aa_1 a_stores.length ca_1) a_stores.length (ints_ (M.up (k + (a_pits.length : Int)) a_stores.length)) ga_1]) := by
  refine enterB hb @Try.func17 @Try.ntmps17 rfl rfl ?_
  refine Js.trashE ?_
  refine Js.seq ?_
  refine Js.region ?_
  refine JL.e (e_box (c := [.slice Aa_0 a_pits.length ca_0, .slice Aa_1 a_stores.length ca_1, .int .i64 a_player]) rfl rfl) ?_
  rintro _ _ _ ⟨b1, rfl, rfl, rfl⟩ _
  refine JL.q (OpP.q (p_assign rfl)) ?_
  refine JL.nil ?_
  refine Js.seq ?_
  refine Js.region ?_
  refine JL.q (OpP.q (p_fieldAddr fld_33_0 rfl)) ?_
  refine JL.q (q_load1 ty_24 rfl (Mem.box (i := 0) rfl rfl)) ?_
  refine JL.q (OpP.q (p_move rfl)) ?_
  refine JL.conv (fun _ h => h.front (i := 1) rfl) ?_
  refine JL.e (e_callBB (bs := [rowO 2 1 (.slice Aa_0 a_pits.length ca_0) a_pits.length (ints_ a_pits) ga_0]) (rest := [boxO b1 [.slice Aa_0 a_pits.length ca_0, .slice Aa_1 a_stores.length ca_1, .int .i64 a_player] 33, rowO 2 1 (.slice Aa_1 a_stores.length ca_1) a_stores.length (ints_ a_stores) ga_1, anyO []]) fn_23 rfl (fun w hb ⟨_, hw⟩ => c_laws_markInt64S a_pits Aa_0 ca_0 ga_0 k w hb (by omega) (by omega) (by omega) (by omega) (by omega))) ?_
  rintro _ _ _ ⟨_, G2, ⟨rfl, rfl⟩, rfl, rfl⟩ _
  refine JL.q (OpP.q (p_assign rfl)) ?_
  refine JL.nil ?_
  refine Js.seq ?_
  refine Js.region ?_
  refine JL.q (OpP.q (p_fieldAddr fld_33_1 rfl)) ?_
  refine JL.q (q_load1 ty_24 rfl (Mem.box (i := 2) rfl rfl)) ?_
  refine JL.q (OpP.q (p_move rfl)) ?_
  refine JL.conv (fun _ h => h.front (i := 3) rfl) ?_
  refine JL.e (e_callBB (bs := [rowO 2 1 (.slice Aa_1 a_stores.length ca_1) a_stores.length (ints_ a_stores) ga_1]) (rest := [rowO 2 1 (.slice Aa_0 a_pits.length ca_0) a_pits.length (ints_ (M.up k a_pits.length)) ga_0, anyO G2, boxO b1 [.slice Aa_0 a_pits.length ca_0, .slice Aa_1 a_stores.length ca_1, .int .i64 a_player] 33, anyO []]) fn_23 rfl (fun w hb ⟨_, hw⟩ => c_laws_markInt64S a_stores Aa_1 ca_1 ga_1 (k + (a_pits.length : Int)) w hb (by omega) (by omega) (by omega) (by omega) (by omega))) ?_
  rintro _ _ _ ⟨_, G3, ⟨rfl, rfl⟩, rfl, rfl⟩ _
  refine JL.q (OpP.q (p_assign rfl)) ?_
  refine JL.nil ?_
  refine Js.seq ?_
  refine Js.region ?_
  refine JL.q (OpP.q (p_move rfl)) ?_
  refine JL.q (OpP.q (p_assign rfl)) ?_
  refine JL.nil ?_
  refine Js.eat (i := 1) (j := 5) rfl rfl rfl ?_
  refine Js.eat (i := 2) (j := 4) rfl rfl rfl ?_
  refine Js.eat (i := 2) (j := 3) rfl rfl rfl ?_
  refine Js.front (i := 2) rfl ?_
  refine Js.front (i := 1) rfl ?_
  refine Js.front (i := 2) rfl ?_
  refine Js.ret (R := RB w [rowO 2 1 (.slice Aa_0 a_pits.length ca_0) a_pits.length (ints_ a_pits) ga_0, rowO 2 1 (.slice Aa_1 a_stores.length ca_1) a_stores.length (ints_ a_stores) ga_1] (fun v bs' => v = .int .i64 (k + (a_pits.length : Int) + (a_stores.length : Int)) ∧ bs' = [rowO 2 1 (.slice Aa_0 a_pits.length ca_0) a_pits.length (ints_ (M.up k a_pits.length)) ga_0, rowO 2 1 (.slice Aa_1 a_stores.length ca_1) a_stores.length (ints_ (M.up (k + (a_pits.length : Int)) a_stores.length)) ga_1])) @Try.results17 (fun _ _ => rfl) (ResOk.tmp rfl ResOk.nil) (fun w1 hw => ?_)
  have hE : (.int .i64 ((k + (a_pits.length : Int)) + (a_stores.length : Int)) : Value) = .int .i64 (k + (a_pits.length : Int) + (a_stores.length : Int)) := by rfl
  refine ⟨_, [rowO 2 1 (.slice Aa_0 a_pits.length ca_0) a_pits.length (ints_ (M.up k a_pits.length)) ga_0, rowO 2 1 (.slice Aa_1 a_stores.length ca_1) a_stores.length (ints_ (M.up (k + (a_pits.length : Int)) a_stores.length)) ga_1], _, rfl, ⟨hE, ?_⟩, hw.giveBack hb (Up.refl _ _)⟩
  · rfl

set_option maxRecDepth 100000 in
set_option maxHeartbeats 400000 in
theorem c_laws_heldPosition (a : M.Pos) (v_a : Value) (k : Int) (w : World) (h_a : (Ty.agg (cPosition a)).ok w v_a) (r0 : a.pits.length ≤ 4194304) (r1 : a.stores.length ≤ 4194304) (r2 : 0 ≤ k) (r3 : k ≤ 50000000) : RetV Try.prog 55 [v_a, .int .i64 k] w (.int .i64 (M.heldP a k)) := by
  have b1 := M.held_bd a.pits r2
  obtain ⟨A1_0, c1_0, A1_1, c1_1, rfl, h1_0, h1_1, bl1_0, bh1_0, bl1_1, bh1_1⟩ := open_Position h_a
  refine enter @Try.func55 @Try.ntmps55 rfl rfl ?_
  refine Js.seq ?_
  refine Js.region ?_
  refine JL.e (e_box (c := [.slice A1_0 a.pits.length c1_0, .slice A1_1 a.stores.length c1_1, .int .i64 a.player]) rfl rfl) ?_
  rintro _ _ _ ⟨b2, rfl, rfl, rfl⟩ _
  refine JL.q (OpP.q (p_assign rfl)) ?_
  refine JL.nil ?_
  refine Js.seq ?_
  refine Js.region ?_
  refine JL.q (OpP.q (p_fieldAddr fld_33_0 rfl)) ?_
  refine JL.q (q_load1 ty_24 rfl (Mem.box (i := 0) rfl rfl)) ?_
  refine JL.q (OpP.q (p_move rfl)) ?_
  refine JL.e (e_callV fn_24 rfl (fun w hw => c_laws_heldInt64S a.pits _ k w (Ty.mono _ h1_0 hw.vis) (by omega) (by omega) (by omega))) ?_
  rintro _ _ _ ⟨rfl, rfl, rfl⟩ _
  refine JL.q (OpP.q (p_assign rfl)) ?_
  refine JL.nil ?_
  refine Js.seq ?_
  refine Js.seq ?_
  refine Js.region ?_
  refine JL.q (OpP.q (p_move rfl)) ?_
  refine JL.q (OpP.q (p_lss rfl rfl)) ?_
  refine JL.nil ?_
  refine Js.cond rfl (fun h3 => ?_) (fun h3 => ?_)
  ·
    have h3' := h3
    try simp only [decide_eq_true_eq] at h3'
    have hE := M.heldP_1 (p := a) (k := k) (by simpa using h3)
    refine Js.seq ?_
    refine Js.region ?_
    refine JL.q (OpP.q (p_assign rfl)) ?_
    refine JL.nil ?_
    refine Js.ret (R := RV w (.int .i64 (M.heldP a k))) @Try.results55 (fun _ _ => rfl) (ResOk.tmp rfl ResOk.nil) (fun w1 hw => ?_)
    refine ⟨?_, hw.ext (Up.refl _ _)⟩
    rw [hE]; rfl
  ·
    have h3' := h3
    try simp only [decide_eq_false_iff_not, Int.not_lt] at h3'
    have q1 : ¬ M.held a.pits k < 0 := by simpa using h3
    refine Js.skip ?_
    refine Js.seq ?_
    refine Js.region ?_
    refine JL.q (OpP.q (p_fieldAddr fld_33_1 rfl)) ?_
    refine JL.q (q_load1 ty_24 rfl (Mem.box (i := 0) rfl rfl)) ?_
    refine JL.q (OpP.q (p_move rfl)) ?_
    refine JL.e (e_callV fn_24 rfl (fun w hw => c_laws_heldInt64S a.stores _ (M.held a.pits k) w (Ty.mono _ h1_1 hw.vis) (by omega) (by omega) (by omega))) ?_
    rintro _ _ _ ⟨rfl, rfl, rfl⟩ _
    refine JL.q (OpP.q (p_assign rfl)) ?_
    refine JL.nil ?_
    refine Js.seq ?_
    refine Js.seq ?_
    refine Js.region ?_
    refine JL.q (OpP.q (p_move rfl)) ?_
    refine JL.q (OpP.q (p_lss rfl rfl)) ?_
    refine JL.nil ?_
    refine Js.cond rfl (fun h4 => ?_) (fun h4 => ?_)
    ·
      have h4' := h4
      try simp only [decide_eq_true_eq] at h4'
      have hE := M.heldP_2 q1 (by simpa using h4)
      refine Js.seq ?_
      refine Js.region ?_
      refine JL.q (OpP.q (p_assign rfl)) ?_
      refine JL.nil ?_
      refine Js.ret (R := RV w (.int .i64 (M.heldP a k))) @Try.results55 (fun _ _ => rfl) (ResOk.tmp rfl ResOk.nil) (fun w1 hw => ?_)
      refine ⟨?_, hw.ext (Up.refl _ _)⟩
      rw [hE]; rfl
    ·
      have h4' := h4
      try simp only [decide_eq_false_iff_not, Int.not_lt] at h4'
      have hE := M.heldP_3 q1 (by simpa using h4)
      refine Js.skip ?_
      refine Js.seq ?_
      refine Js.region ?_
      refine JL.q (OpP.q (p_move rfl)) ?_
      refine JL.q (OpP.q (p_assign rfl)) ?_
      refine JL.nil ?_
      refine Js.ret (R := RV w (.int .i64 (M.heldP a k))) @Try.results55 (fun _ _ => rfl) (ResOk.tmp rfl ResOk.nil) (fun w1 hw => ?_)
      refine ⟨?_, hw.ext (Up.refl _ _)⟩
      rw [hE]; rfl

end Go.Proofs.Ytinkeciedmjjmaa

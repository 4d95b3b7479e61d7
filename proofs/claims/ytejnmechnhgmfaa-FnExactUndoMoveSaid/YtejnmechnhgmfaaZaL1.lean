/- Walks: L1. -/
import Derived.Test.YtejnmechnhgmfaaZaTy
import Derived.Test.YtejnmechnhgmfaaZaG1
set_option linter.unusedSimpArgs false
set_option linter.unusedVariables false
namespace Go.Proofs.Ytejnmechnhgmfaa
open Go.RowKit

set_option maxRecDepth 100000 in
set_option maxHeartbeats 400000 in
theorem c_laws_szInt64S (a : List Int) (v_a : Value) (left : Int) (w : World) (h_a : (Ty.ints 2 a).ok w v_a) (r0 : -1 ≤ left) (r1 : left ≤ 1048576) : RetV Try.prog 67 [v_a, .int .i64 left] w (.int .i64 (M.szL a.length left)) := by
  have q1 := M.szL_cases a.length left
  obtain ⟨A1, c1, rfl, bl1, bh1⟩ := sl_form h_a
  refine enter @Try.func67 @Try.ntmps67 rfl rfl ?_
  refine Js.seq ?_
  refine Js.region ?_
  refine JL.q (OpP.q (p_assign rfl)) ?_
  refine JL.nil ?_
  refine Js.seq ?_
  refine Js.region ?_
  refine JL.q (OpP.q (p_move rfl)) ?_
  refine JL.q (OpP.q (p_move rfl)) ?_
  refine JL.q (OpP.q (p_len el_24 rfl)) ?_
  refine JL.q (OpP.q (p_sub rfl rfl (IntWalk.i64_in _ (by omega)))) ?_
  refine JL.q (OpP.q (p_assign rfl)) ?_
  refine JL.nil ?_
  refine Js.seq ?_
  refine Js.seq ?_
  refine Js.region ?_
  refine JL.q (OpP.q (p_move rfl)) ?_
  refine JL.q (OpP.q (p_lss rfl rfl)) ?_
  refine JL.nil ?_
  refine Js.cond rfl (fun h2 => ?_) (fun h2 => ?_)
  ·
    have h2' := h2
    try simp only [decide_eq_true_eq] at h2'
    refine Js.seq ?_
    refine Js.region ?_
    refine JL.q (OpP.q (p_assign rfl)) ?_
    refine JL.nil ?_
    refine Js.ret (R := RV w (.int .i64 (M.szL a.length left))) @Try.results67 (fun _ _ => rfl) (ResOk.tmp rfl ResOk.nil) (fun w1 hw => ?_)
    refine ⟨?_, hw.ext (Up.refl _ _)⟩
    refine congrArg (fun n => Ending.returned (Value.int .i64 n)) ?_; omega
  ·
    have h2' := h2
    try simp only [decide_eq_false_iff_not, Int.not_lt] at h2'
    refine Js.skip ?_
    refine Js.seq ?_
    refine Js.region ?_
    refine JL.q (OpP.q (p_move rfl)) ?_
    refine JL.q (OpP.q (p_assign rfl)) ?_
    refine JL.nil ?_
    refine Js.ret (R := RV w (.int .i64 (M.szL a.length left))) @Try.results67 (fun _ _ => rfl) (ResOk.tmp rfl ResOk.nil) (fun w1 hw => ?_)
    refine ⟨?_, hw.ext (Up.refl _ _)⟩
    refine congrArg (fun n => Ending.returned (Value.int .i64 n)) ?_; omega

set_option maxRecDepth 100000 in
set_option maxHeartbeats 400000 in
theorem c_laws_szPosition (a : M.Pos) (v_a : Value) (left : Int) (w : World) (h_a : (Ty.agg (cPosition a)).ok w v_a) (r0 : -1 ≤ left) (r1 : left ≤ 1048576) : RetV Try.prog 66 [v_a, .int .i64 left] w (.int .i64 (M.szP a left)) := by
  have q1 := M.szL_cases a.pits.length left
  have q2 := M.szL_cases a.stores.length (M.szL a.pits.length left)
  have q3 := M.szL_cases (a.pits.length + a.stores.length) left
  obtain ⟨A1_0, c1_0, A1_1, c1_1, rfl, h1_0, h1_1, bl1_0, bh1_0, bl1_1, bh1_1⟩ := open_Position h_a
  refine enter @Try.func66 @Try.ntmps66 rfl rfl ?_
  refine Js.seq ?_
  refine Js.region ?_
  refine JL.e (e_box (c := [.slice A1_0 a.pits.length c1_0, .slice A1_1 a.stores.length c1_1, .int .i64 a.player]) rfl rfl) ?_
  rintro _ _ _ ⟨b2, rfl, rfl, rfl⟩ _
  refine JL.q (OpP.q (p_assign rfl)) ?_
  refine JL.nil ?_
  refine Js.seq ?_
  refine Js.region ?_
  refine JL.q (OpP.q (p_fieldAddr fld_26_0 rfl)) ?_
  refine JL.q (q_load1 ty_24 rfl (Mem.box (i := 0) rfl rfl)) ?_
  refine JL.q (OpP.q (p_move rfl)) ?_
  refine JL.e (e_callV fn_67 rfl (fun w hw => c_laws_szInt64S a.pits _ left w (Ty.mono _ h1_0 hw.vis) (by omega) (by omega))) ?_
  rintro _ _ _ ⟨rfl, rfl, rfl⟩ _
  refine JL.q (OpP.q (p_assign rfl)) ?_
  refine JL.nil ?_
  refine Js.seq ?_
  refine Js.seq ?_
  refine Js.region ?_
  refine JL.q (OpP.q (p_move rfl)) ?_
  refine JL.q (OpP.q (p_lss rfl rfl)) ?_
  refine JL.nil ?_
  refine Js.cond rfl (fun h3 => ?_) (fun h3 => ?_)
  ·
    have h3' := h3
    try simp only [decide_eq_true_eq] at h3'
    refine Js.seq ?_
    refine Js.region ?_
    refine JL.q (OpP.q (p_assign rfl)) ?_
    refine JL.nil ?_
    refine Js.ret (R := RV w (.int .i64 (M.szP a left))) @Try.results66 (fun _ _ => rfl) (ResOk.tmp rfl ResOk.nil) (fun w1 hw => ?_)
    refine ⟨?_, hw.ext (Up.refl _ _)⟩
    refine congrArg (fun n => Ending.returned (Value.int .i64 n)) ?_; unfold M.szP; omega
  ·
    have h3' := h3
    try simp only [decide_eq_false_iff_not, Int.not_lt] at h3'
    refine Js.skip ?_
    refine Js.seq ?_
    refine Js.region ?_
    refine JL.q (OpP.q (p_fieldAddr fld_26_1 rfl)) ?_
    refine JL.q (q_load1 ty_24 rfl (Mem.box (i := 0) rfl rfl)) ?_
    refine JL.q (OpP.q (p_move rfl)) ?_
    refine JL.e (e_callV fn_67 rfl (fun w hw => c_laws_szInt64S a.stores _ (M.szL a.pits.length left) w (Ty.mono _ h1_1 hw.vis) (by omega) (by omega))) ?_
    rintro _ _ _ ⟨rfl, rfl, rfl⟩ _
    refine JL.q (OpP.q (p_assign rfl)) ?_
    refine JL.nil ?_
    refine Js.seq ?_
    refine Js.seq ?_
    refine Js.region ?_
    refine JL.q (OpP.q (p_move rfl)) ?_
    refine JL.q (OpP.q (p_lss rfl rfl)) ?_
    refine JL.nil ?_
    refine Js.cond rfl (fun h4 => ?_) (fun h4 => ?_)
    ·
      have h4' := h4
      try simp only [decide_eq_true_eq] at h4'
      refine Js.seq ?_
      refine Js.region ?_
      refine JL.q (OpP.q (p_assign rfl)) ?_
      refine JL.nil ?_
      refine Js.ret (R := RV w (.int .i64 (M.szP a left))) @Try.results66 (fun _ _ => rfl) (ResOk.tmp rfl ResOk.nil) (fun w1 hw => ?_)
      refine ⟨?_, hw.ext (Up.refl _ _)⟩
      refine congrArg (fun n => Ending.returned (Value.int .i64 n)) ?_; unfold M.szP; omega
    ·
      have h4' := h4
      try simp only [decide_eq_false_iff_not, Int.not_lt] at h4'
      refine Js.skip ?_
      refine Js.seq ?_
      refine Js.region ?_
      refine JL.q (OpP.q (p_move rfl)) ?_
      refine JL.q (OpP.q (p_assign rfl)) ?_
      refine JL.nil ?_
      refine Js.ret (R := RV w (.int .i64 (M.szP a left))) @Try.results66 (fun _ _ => rfl) (ResOk.tmp rfl ResOk.nil) (fun w1 hw => ?_)
      refine ⟨?_, hw.ext (Up.refl _ _)⟩
      refine congrArg (fun n => Ending.returned (Value.int .i64 n)) ?_; unfold M.szP; omega

set_option maxRecDepth 100000 in
set_option maxHeartbeats 400000 in
theorem c_laws_szGame (a : M.Gam) (v_a : Value) (left : Int) (w : World) (h_a : (Ty.agg (cGame a)).ok w v_a) (r0 : -1 ≤ left) (r1 : left ≤ 1048576) : RetV Try.prog 17 [v_a, .int .i64 left] w (.int .i64 (M.szG a left)) := by
  have q1 := M.szL_cases (a.start.pits.length + a.start.stores.length) left
  have q2 := M.szL_cases a.moves.length (M.szP a.start left)
  have q3 := M.szL_cases (a.now.pits.length + a.now.stores.length) (M.szL a.moves.length (M.szP a.start left))
  have q4 := M.szL_cases (a.start.pits.length + a.start.stores.length + a.moves.length + a.now.pits.length + a.now.stores.length) left
  change (left < _ ∧ M.szP a.start left = -1) ∨ (_ ≤ left ∧ M.szP a.start left = left - _) at q1
  change (_ < _ ∧ M.szP a.now _ = -1) ∨ (_ ≤ _ ∧ M.szP a.now _ = _) at q3
  obtain ⟨A1_9, c1_9, A1_10, c1_10, A1_12, c1_12, A1_13, c1_13, A1_14, c1_14, rfl, h1_9, h1_10, h1_12, h1_13, h1_14, bl1_9, bh1_9, bl1_10, bh1_10, bl1_12, bh1_12, bl1_13, bh1_13, bl1_14, bh1_14⟩ := open_Game h_a
  refine enter @Try.func17 @Try.ntmps17 rfl rfl ?_
  refine Js.seq ?_
  refine Js.region ?_
  refine JL.e (e_box (c := [.int .i64 a.rules.pits, .int .i64 a.rules.seeds, .bool a.rules.stores, .bool a.rules.skip, .bool a.rules.relay, .bool a.rules.feed, .bool a.rules.again, .int .i64 a.rules.capture, .int .i64 a.rules.slam, .slice A1_9 a.start.pits.length c1_9, .slice A1_10 a.start.stores.length c1_10, .int .i64 a.start.player, .slice A1_12 a.moves.length c1_12, .slice A1_13 a.now.pits.length c1_13, .slice A1_14 a.now.stores.length c1_14, .int .i64 a.now.player, .int .i64 a.resigned]) rfl rfl) ?_
  rintro _ _ _ ⟨b2, rfl, rfl, rfl⟩ _
  refine JL.q (OpP.q (p_assign rfl)) ?_
  refine JL.nil ?_
  refine Js.seq ?_
  refine Js.region ?_
  refine JL.q (OpP.q (p_fieldAddr fld_28_1 rfl)) ?_
  refine JL.q (q_loadN ty_26 rfl (Mem.boxR (i := 0) rfl 9 3) rfl rfl) ?_
  refine JL.q (OpP.q (p_move rfl)) ?_
  refine JL.e (e_callV fn_66 rfl (fun w hw => c_laws_szPosition a.start _ left w ⟨_, rfl, ⟨(Ty.mono _ h1_9 hw.vis), (Ty.mono _ h1_10 hw.vis), rfl, trivial⟩⟩ (by omega) (by omega))) ?_
  rintro _ _ _ ⟨rfl, rfl, rfl⟩ _
  refine JL.q (OpP.q (p_assign rfl)) ?_
  refine JL.nil ?_
  refine Js.seq ?_
  refine Js.seq ?_
  refine Js.region ?_
  refine JL.q (OpP.q (p_move rfl)) ?_
  refine JL.q (OpP.q (p_lss rfl rfl)) ?_
  refine JL.nil ?_
  refine Js.cond rfl (fun h3 => ?_) (fun h3 => ?_)
  ·
    have h3' := h3
    try simp only [decide_eq_true_eq] at h3'
    refine Js.seq ?_
    refine Js.region ?_
    refine JL.q (OpP.q (p_assign rfl)) ?_
    refine JL.nil ?_
    refine Js.ret (R := RV w (.int .i64 (M.szG a left))) @Try.results17 (fun _ _ => rfl) (ResOk.tmp rfl ResOk.nil) (fun w1 hw => ?_)
    refine ⟨?_, hw.ext (Up.refl _ _)⟩
    refine congrArg (fun n => Ending.returned (Value.int .i64 n)) ?_; unfold M.szG; omega
  ·
    have h3' := h3
    try simp only [decide_eq_false_iff_not, Int.not_lt] at h3'
    refine Js.skip ?_
    refine Js.seq ?_
    refine Js.region ?_
    refine JL.q (OpP.q (p_fieldAddr fld_28_2 rfl)) ?_
    refine JL.q (q_load1 ty_24 rfl (Mem.box (i := 0) rfl rfl)) ?_
    refine JL.q (OpP.q (p_move rfl)) ?_
    refine JL.e (e_callV fn_67 rfl (fun w hw => c_laws_szInt64S a.moves _ (M.szP a.start left) w (Ty.mono _ h1_12 hw.vis) (by omega) (by omega))) ?_
    rintro _ _ _ ⟨rfl, rfl, rfl⟩ _
    refine JL.q (OpP.q (p_assign rfl)) ?_
    refine JL.nil ?_
    refine Js.seq ?_
    refine Js.seq ?_
    refine Js.region ?_
    refine JL.q (OpP.q (p_move rfl)) ?_
    refine JL.q (OpP.q (p_lss rfl rfl)) ?_
    refine JL.nil ?_
    refine Js.cond rfl (fun h4 => ?_) (fun h4 => ?_)
    ·
      have h4' := h4
      try simp only [decide_eq_true_eq] at h4'
      refine Js.seq ?_
      refine Js.region ?_
      refine JL.q (OpP.q (p_assign rfl)) ?_
      refine JL.nil ?_
      refine Js.ret (R := RV w (.int .i64 (M.szG a left))) @Try.results17 (fun _ _ => rfl) (ResOk.tmp rfl ResOk.nil) (fun w1 hw => ?_)
      refine ⟨?_, hw.ext (Up.refl _ _)⟩
      refine congrArg (fun n => Ending.returned (Value.int .i64 n)) ?_; unfold M.szG; omega
    ·
      have h4' := h4
      try simp only [decide_eq_false_iff_not, Int.not_lt] at h4'
      refine Js.skip ?_
      refine Js.seq ?_
      refine Js.region ?_
      refine JL.q (OpP.q (p_fieldAddr fld_28_3 rfl)) ?_
      refine JL.q (q_loadN ty_26 rfl (Mem.boxR (i := 0) rfl 13 3) rfl rfl) ?_
      refine JL.q (OpP.q (p_move rfl)) ?_
      refine JL.e (e_callV fn_66 rfl (fun w hw => c_laws_szPosition a.now _ (M.szL a.moves.length (M.szP a.start left)) w ⟨_, rfl, ⟨(Ty.mono _ h1_13 hw.vis), (Ty.mono _ h1_14 hw.vis), rfl, trivial⟩⟩ (by omega) (by omega))) ?_
      rintro _ _ _ ⟨rfl, rfl, rfl⟩ _
      refine JL.q (OpP.q (p_assign rfl)) ?_
      refine JL.nil ?_
      refine Js.seq ?_
      refine Js.seq ?_
      refine Js.region ?_
      refine JL.q (OpP.q (p_move rfl)) ?_
      refine JL.q (OpP.q (p_lss rfl rfl)) ?_
      refine JL.nil ?_
      refine Js.cond rfl (fun h5 => ?_) (fun h5 => ?_)
      ·
        have h5' := h5
        try simp only [decide_eq_true_eq] at h5'
        refine Js.seq ?_
        refine Js.region ?_
        refine JL.q (OpP.q (p_assign rfl)) ?_
        refine JL.nil ?_
        refine Js.ret (R := RV w (.int .i64 (M.szG a left))) @Try.results17 (fun _ _ => rfl) (ResOk.tmp rfl ResOk.nil) (fun w1 hw => ?_)
        refine ⟨?_, hw.ext (Up.refl _ _)⟩
        refine congrArg (fun n => Ending.returned (Value.int .i64 n)) ?_; unfold M.szG; omega
      ·
        have h5' := h5
        try simp only [decide_eq_false_iff_not, Int.not_lt] at h5'
        refine Js.skip ?_
        refine Js.seq ?_
        refine Js.region ?_
        refine JL.q (OpP.q (p_move rfl)) ?_
        refine JL.q (OpP.q (p_assign rfl)) ?_
        refine JL.nil ?_
        refine Js.ret (R := RV w (.int .i64 (M.szG a left))) @Try.results17 (fun _ _ => rfl) (ResOk.tmp rfl ResOk.nil) (fun w1 hw => ?_)
        refine ⟨?_, hw.ext (Up.refl _ _)⟩
        refine congrArg (fun n => Ending.returned (Value.int .i64 n)) ?_; unfold M.szG; omega

set_option maxRecDepth 100000 in
set_option maxHeartbeats 400000 in
theorem c_laws_toInt64S (a : List Int) (v_a : Value) (w : World) (h_a : (Ty.ints 2 a).ok w v_a) (r0 : a.length ≤ 4194304) : Ret Try.prog 45 [v_a] w (Ty.ints 2 a) := by
  obtain ⟨A1, c1, rfl, bl1, bh1⟩ := sl_form h_a
  refine enter @Try.func45 @Try.ntmps45 rfl rfl ?_
  refine Js.seq ?_
  refine Js.region ?_
  refine JL.q (OpP.q (p_assign rfl)) ?_
  refine JL.nil ?_
  refine Js.seq ?_
  refine Js.region ?_
  refine JL.q (OpP.q (p_move rfl)) ?_
  refine JL.q (OpP.q (p_len el_24 rfl)) ?_
  refine JL.e (e_makeI (m := a.length) el_24 rfl rfl rfl (by omega) (by omega)) ?_
  rintro _ _ _ ⟨b2, rfl, rfl, rfl⟩ _
  refine JL.q (OpP.q (p_assign rfl)) ?_
  refine JL.nil ?_
  refine Js.seq ?_
  refine Js.seq ?_
  refine Js.region ?_
  refine JL.q (OpP.q (p_assign rfl)) ?_
  refine JL.nil ?_
  refine Js.block ?_
  refine Js.loop (fun l os u m => ∃ (k : Nat) (xs : List Int), l = [(0, .slice A1 a.length c1), (3, .slice (some ⟨b2, 0, none⟩) a.length a.length), (4, .int .i64 (k : Int))] ∧ os = [rowO 2 1 (.slice (some ⟨b2, 0, none⟩) a.length a.length) a.length (ints_ xs) []] ∧ Up w.heap.size w u ∧ (xs = M.cp a k) ∧ (k ≤ a.length) ∧ (xs.length = a.length) ∧ m = a.length - k) ⟨0, List.replicate a.length 0, rfl, rfl, Up.refl _ _, by exact M.cp_zero a, by first | assumption | omega | rfl | (simp; done), by simp, rfl⟩ ⟨rfl, rfl, rfl, trivial⟩ ?_
  · rintro _ _ u3 _ ⟨k, xs, rfl, rfl, x3, hX, hk, hl, rfl⟩
    refine Js.seq ?_
    refine Js.seq ?_
    refine Js.region ?_
    refine JL.q (OpP.q (p_move rfl)) ?_
    refine JL.q (OpP.q (p_move rfl)) ?_
    refine JL.q (OpP.q (p_len el_24 rfl)) ?_
    refine JL.q (OpP.q (p_lss rfl rfl)) ?_
    refine JL.nil ?_
    refine Js.cond rfl (fun h4 => ?_) (fun h4 => ?_)
    ·
      have h4' := h4
      try simp only [decide_eq_true_eq] at h4'
      refine Js.skip ?_
      refine Js.seq ?_
      refine Js.block ?_
      refine Js.region ?_
      refine JL.q (OpP.q (p_move rfl)) ?_
      refine JL.q (OpP.q (p_move rfl)) ?_
      refine JL.q (OpP.q (p_move rfl)) ?_
      refine JL.q (OpP.q (p_move rfl)) ?_
      obtain ⟨b5, o5, he5, hc5⟩ := ints_elem (Ty.mono _ h_a x3.vis) (i := k) (by omega)
      refine JL.q (OpP.q (p_indexAddr el_24 rfl rfl (by omega) (by omega) he5)) ?_
      refine JL.q (q_load1 ty_2 rfl (Mem.pub hc5)) ?_
      refine JL.q (OpP.q (p_indexAddr el_24 rfl rfl (by omega) (by omega) rfl)) ?_
      refine JL.s (e_storeRow (i := 0) (xs' := ints_ (xs.set k (M.nth a k))) ty_2 rfl rfl rfl rfl rfl rfl (ints_lt (i := k) (by omega)) (ints_setL (i := k) (by omega))) ?_
      rintro _ _ _ ⟨rfl, rfl⟩ _
      refine JL.nil ?_
      refine Js.blockEnd ?_
      refine Js.region ?_
      refine JL.q (OpP.q (p_move rfl)) ?_
      refine JL.q (OpP.q (p_add rfl rfl (IntWalk.i64_in _ (by omega)))) ?_
      refine JL.q (OpP.q (p_assign rfl)) ?_
      refine JL.nil ?_
      exact Js.again ⟨k + 1, xs.set k (M.nth a k), rfl, rfl, x3, by rw [hX]; exact M.cp_step (by omega), by first | assumption | omega | rfl | (simp; done), by rw [List.length_set]; exact hl, rfl⟩ (by omega) ⟨rfl, rfl, rfl, trivial⟩
    ·
      have h4' := h4
      try simp only [decide_eq_false_iff_not, Int.not_lt] at h4'
      have hE : xs = a := by rw [hX]; exact M.cp_all a (by have := h4'; omega)
      refine Js.exit (fun _ _ => rfl) ?_
      refine Js.seq ?_
      refine Js.region ?_
      refine JL.q (OpP.q (p_move rfl)) ?_
      refine JL.q (OpP.q (p_assign rfl)) ?_
      refine JL.nil ?_
      refine Js.ret (R := RO w (Ty.ints 2 a)) @Try.results45 (fun _ _ => rfl) (ResOk.tmp rfl ResOk.nil) (fun w1 hw => ?_)
      have hx := hw.ext (x3)
      exact ret_own (ps := [(0, (Value.ownBlock (.slice (some ⟨b2, 0, none⟩) a.length a.length)).toList)]) hw hx (ints_row (xs := xs) (hw.pr (i := 0) rfl) (show xs = a by exact hE)) (Pick.cons (j := 0) rfl (List.sublist_append_left _ _) rfl Pick.nil) (by simp [List.flatten, outV])

set_option maxRecDepth 100000 in
set_option maxHeartbeats 400000 in
theorem c_laws_toPosition (a : M.Pos) (v_a : Value) (w : World) (h_a : (Ty.agg (cPosition a)).ok w v_a) (r0 : a.pits.length ≤ 4194304) (r1 : a.stores.length ≤ 4194304) : Ret Try.prog 71 [v_a] w (Ty.agg (cPosition a)) := by
  obtain ⟨A1_0, c1_0, A1_1, c1_1, rfl, h1_0, h1_1, bl1_0, bh1_0, bl1_1, bh1_1⟩ := open_Position h_a
  refine enter @Try.func71 @Try.ntmps71 rfl rfl ?_
  refine Js.seq ?_
  refine Js.region ?_
  refine JL.e (e_box (c := [.slice A1_0 a.pits.length c1_0, .slice A1_1 a.stores.length c1_1, .int .i64 a.player]) rfl rfl) ?_
  rintro _ _ _ ⟨b2, rfl, rfl, rfl⟩ _
  refine JL.e (e_alloc zero_33) ?_
  rintro _ _ _ ⟨b3, rfl, rfl, rfl⟩ _
  refine JL.nil ?_
  refine Js.seq ?_
  refine Js.region ?_
  refine JL.e (e_alloc zero_33) ?_
  rintro _ _ _ ⟨b4, rfl, rfl, rfl⟩ _
  refine JL.nil ?_
  refine Js.seq ?_
  refine Js.region ?_
  refine JL.q (OpP.q (p_fieldAddr fld_26_0 rfl)) ?_
  refine JL.q (q_load1 ty_24 rfl (Mem.box (i := 2) rfl rfl)) ?_
  refine JL.e (e_callO fn_45 rfl (Spl.ints _ _) (fun w hw => c_laws_toInt64S a.pits _ w (Ty.mono _ h1_0 hw.vis) (by omega))) ?_
  rintro v5 _ _ ⟨_, hR6, rfl, rfl⟩ _
  obtain ⟨A7, c7, rfl, rfl, bl7, bh7⟩ := hR6
  refine JL.q (OpP.q (p_fieldAddr fld_33_0 rfl)) ?_
  refine JL.s (e_store (i := 1) (c' := [.slice A7 a.pits.length c7, .slice none 0 0, .int .i64 0]) ty_24 rfl rfl rfl rfl rfl rfl rfl rfl) ?_
  rintro _ _ _ ⟨rfl, rfl⟩ _
  refine JL.nil ?_
  refine Js.seq ?_
  refine Js.region ?_
  refine JL.q (OpP.q (p_fieldAddr fld_26_1 rfl)) ?_
  refine JL.q (q_load1 ty_24 rfl (Mem.box (i := 3) rfl rfl)) ?_
  refine JL.e (e_callO fn_45 rfl (Spl.ints _ _) (fun w hw => c_laws_toInt64S a.stores _ w (Ty.mono _ h1_1 hw.vis) (by omega))) ?_
  rintro v8 _ _ ⟨_, hR9, rfl, rfl⟩ _
  obtain ⟨A10, c10, rfl, rfl, bl10, bh10⟩ := hR9
  refine JL.q (OpP.q (p_fieldAddr fld_33_1 rfl)) ?_
  refine JL.s (e_store (i := 2) (c' := [.slice A7 a.pits.length c7, .slice A10 a.stores.length c10, .int .i64 0]) ty_24 rfl rfl rfl rfl rfl rfl rfl rfl) ?_
  rintro _ _ _ ⟨rfl, rfl⟩ _
  refine JL.nil ?_
  refine Js.seq ?_
  refine Js.region ?_
  refine JL.q (OpP.q (p_fieldAddr fld_26_2 rfl)) ?_
  refine JL.q (q_load1 ty_2 rfl (Mem.box (i := 4) rfl rfl)) ?_
  refine JL.q (OpP.q (p_fieldAddr fld_33_2 rfl)) ?_
  refine JL.s (e_store (i := 2) (c' := [.slice A7 a.pits.length c7, .slice A10 a.stores.length c10, .int .i64 a.player]) ty_2 rfl rfl rfl rfl rfl rfl rfl rfl) ?_
  rintro _ _ _ ⟨rfl, rfl⟩ _
  refine JL.nil ?_
  refine Js.seq ?_
  refine Js.region ?_
  refine JL.q (q_loadN ty_33 rfl (Mem.boxR (i := 2) rfl 0 3) rfl rfl) ?_
  refine JL.s (e_store (i := 3) (c' := [.slice A7 a.pits.length c7, .slice A10 a.stores.length c10, .int .i64 a.player]) ty_33 rfl rfl rfl rfl rfl rfl rfl rfl) ?_
  rintro _ _ _ ⟨rfl, rfl⟩ _
  refine JL.nil ?_
  refine Js.ret (R := RO w (Ty.agg (cPosition a))) @Try.results71 (fun _ _ => rfl) (ResOk.cell (res_box (i := 3) ty_33 rfl rfl rfl rfl rfl) ResOk.nil) (fun w1 hw => ?_)
  have hx := hw.ext (Up.refl _ _)
  exact ret_own (ps := [(1, (Value.ownBlock (.slice A7 a.pits.length c7)).toList), (0, (Value.ownBlock (.slice A10 a.stores.length c10)).toList)]) hw hx ⟨_, rfl, ⟨_, _, rfl, (ints_row (xs := a.pits) (hw.pr (i := 1) rfl) rfl), ⟨_, _, rfl, (ints_row (xs := a.stores) (hw.pr (i := 0) rfl) rfl), ⟨_, _, rfl, ⟨rfl, rfl⟩, rfl⟩⟩⟩⟩ (Pick.cons (j := 1) rfl (List.sublist_append_left _ _) rfl (Pick.cons (j := 0) rfl (List.sublist_append_left _ _) rfl Pick.nil)) (by simp [List.flatten, outV])

set_option maxRecDepth 100000 in
set_option maxHeartbeats 8000000 in
theorem c_laws_toRules (a : M.Rul) (v_a : Value) (w : World) (h_a : (Ty.agg (cRules a)).ok w v_a) : Ret Try.prog 70 [v_a] w (Ty.agg (cRules a)) := by
  obtain rfl := open_Rules h_a
  refine enter @Try.func70 @Try.ntmps70 rfl rfl ?_
  refine Js.seq ?_
  refine Js.region ?_
  refine JL.e (e_box (c := [.int .i64 a.pits, .int .i64 a.seeds, .bool a.stores, .bool a.skip, .bool a.relay, .bool a.feed, .bool a.again, .int .i64 a.capture, .int .i64 a.slam]) rfl rfl) ?_
  rintro _ _ _ ⟨b2, rfl, rfl, rfl⟩ _
  refine JL.e (e_alloc zero_32) ?_
  rintro _ _ _ ⟨b3, rfl, rfl, rfl⟩ _
  refine JL.nil ?_
  refine Js.seq ?_
  refine Js.region ?_
  refine JL.e (e_alloc zero_32) ?_
  rintro _ _ _ ⟨b4, rfl, rfl, rfl⟩ _
  refine JL.nil ?_
  refine Js.seq ?_
  refine Js.region ?_
  refine JL.q (OpP.q (p_fieldAddr fld_23_0 rfl)) ?_
  refine JL.q (q_load1 ty_2 rfl (Mem.box (i := 2) rfl rfl)) ?_
  refine JL.q (OpP.q (p_fieldAddr fld_32_0 rfl)) ?_
  refine JL.s (e_store (i := 0) (c' := [.int .i64 a.pits, .int .i64 0, .bool false, .bool false, .bool false, .bool false, .bool false, .int .i64 0, .int .i64 0]) ty_2 rfl rfl rfl rfl rfl rfl rfl rfl) ?_
  rintro _ _ _ ⟨rfl, rfl⟩ _
  refine JL.nil ?_
  refine Js.seq ?_
  refine Js.region ?_
  refine JL.q (OpP.q (p_fieldAddr fld_23_1 rfl)) ?_
  refine JL.q (q_load1 ty_2 rfl (Mem.box (i := 2) rfl rfl)) ?_
  refine JL.q (OpP.q (p_fieldAddr fld_32_1 rfl)) ?_
  refine JL.s (e_store (i := 0) (c' := [.int .i64 a.pits, .int .i64 a.seeds, .bool false, .bool false, .bool false, .bool false, .bool false, .int .i64 0, .int .i64 0]) ty_2 rfl rfl rfl rfl rfl rfl rfl rfl) ?_
  rintro _ _ _ ⟨rfl, rfl⟩ _
  refine JL.nil ?_
  refine Js.seq ?_
  refine Js.region ?_
  refine JL.q (OpP.q (p_fieldAddr fld_23_2 rfl)) ?_
  refine JL.q (q_load1 ty_4 rfl (Mem.box (i := 2) rfl rfl)) ?_
  refine JL.q (OpP.q (p_fieldAddr fld_32_2 rfl)) ?_
  refine JL.s (e_store (i := 0) (c' := [.int .i64 a.pits, .int .i64 a.seeds, .bool a.stores, .bool false, .bool false, .bool false, .bool false, .int .i64 0, .int .i64 0]) ty_4 rfl rfl rfl rfl rfl rfl rfl rfl) ?_
  rintro _ _ _ ⟨rfl, rfl⟩ _
  refine JL.nil ?_
  refine Js.seq ?_
  refine Js.region ?_
  refine JL.q (OpP.q (p_fieldAddr fld_23_3 rfl)) ?_
  refine JL.q (q_load1 ty_4 rfl (Mem.box (i := 2) rfl rfl)) ?_
  refine JL.q (OpP.q (p_fieldAddr fld_32_3 rfl)) ?_
  refine JL.s (e_store (i := 0) (c' := [.int .i64 a.pits, .int .i64 a.seeds, .bool a.stores, .bool a.skip, .bool false, .bool false, .bool false, .int .i64 0, .int .i64 0]) ty_4 rfl rfl rfl rfl rfl rfl rfl rfl) ?_
  rintro _ _ _ ⟨rfl, rfl⟩ _
  refine JL.nil ?_
  refine Js.seq ?_
  refine Js.region ?_
  refine JL.q (OpP.q (p_fieldAddr fld_23_4 rfl)) ?_
  refine JL.q (q_load1 ty_4 rfl (Mem.box (i := 2) rfl rfl)) ?_
  refine JL.q (OpP.q (p_fieldAddr fld_32_4 rfl)) ?_
  refine JL.s (e_store (i := 0) (c' := [.int .i64 a.pits, .int .i64 a.seeds, .bool a.stores, .bool a.skip, .bool a.relay, .bool false, .bool false, .int .i64 0, .int .i64 0]) ty_4 rfl rfl rfl rfl rfl rfl rfl rfl) ?_
  rintro _ _ _ ⟨rfl, rfl⟩ _
  refine JL.nil ?_
  refine Js.seq ?_
  refine Js.region ?_
  refine JL.q (OpP.q (p_fieldAddr fld_23_5 rfl)) ?_
  refine JL.q (q_load1 ty_4 rfl (Mem.box (i := 2) rfl rfl)) ?_
  refine JL.q (OpP.q (p_fieldAddr fld_32_5 rfl)) ?_
  refine JL.s (e_store (i := 0) (c' := [.int .i64 a.pits, .int .i64 a.seeds, .bool a.stores, .bool a.skip, .bool a.relay, .bool a.feed, .bool false, .int .i64 0, .int .i64 0]) ty_4 rfl rfl rfl rfl rfl rfl rfl rfl) ?_
  rintro _ _ _ ⟨rfl, rfl⟩ _
  refine JL.nil ?_
  refine Js.seq ?_
  refine Js.region ?_
  refine JL.q (OpP.q (p_fieldAddr fld_23_6 rfl)) ?_
  refine JL.q (q_load1 ty_4 rfl (Mem.box (i := 2) rfl rfl)) ?_
  refine JL.q (OpP.q (p_fieldAddr fld_32_6 rfl)) ?_
  refine JL.s (e_store (i := 0) (c' := [.int .i64 a.pits, .int .i64 a.seeds, .bool a.stores, .bool a.skip, .bool a.relay, .bool a.feed, .bool a.again, .int .i64 0, .int .i64 0]) ty_4 rfl rfl rfl rfl rfl rfl rfl rfl) ?_
  rintro _ _ _ ⟨rfl, rfl⟩ _
  refine JL.nil ?_
  refine Js.seq ?_
  refine Js.region ?_
  refine JL.q (OpP.q (p_fieldAddr fld_23_7 rfl)) ?_
  refine JL.q (q_load1 ty_2 rfl (Mem.box (i := 2) rfl rfl)) ?_
  refine JL.q (OpP.q (p_fieldAddr fld_32_7 rfl)) ?_
  refine JL.s (e_store (i := 0) (c' := [.int .i64 a.pits, .int .i64 a.seeds, .bool a.stores, .bool a.skip, .bool a.relay, .bool a.feed, .bool a.again, .int .i64 a.capture, .int .i64 0]) ty_2 rfl rfl rfl rfl rfl rfl rfl rfl) ?_
  rintro _ _ _ ⟨rfl, rfl⟩ _
  refine JL.nil ?_
  refine Js.seq ?_
  refine Js.region ?_
  refine JL.q (OpP.q (p_fieldAddr fld_23_8 rfl)) ?_
  refine JL.q (q_load1 ty_2 rfl (Mem.box (i := 2) rfl rfl)) ?_
  refine JL.q (OpP.q (p_fieldAddr fld_32_8 rfl)) ?_
  refine JL.s (e_store (i := 0) (c' := [.int .i64 a.pits, .int .i64 a.seeds, .bool a.stores, .bool a.skip, .bool a.relay, .bool a.feed, .bool a.again, .int .i64 a.capture, .int .i64 a.slam]) ty_2 rfl rfl rfl rfl rfl rfl rfl rfl) ?_
  rintro _ _ _ ⟨rfl, rfl⟩ _
  refine JL.nil ?_
  refine Js.seq ?_
  refine Js.region ?_
  refine JL.q (q_loadN ty_32 rfl (Mem.boxR (i := 0) rfl 0 9) rfl rfl) ?_
  refine JL.s (e_store (i := 1) (c' := [.int .i64 a.pits, .int .i64 a.seeds, .bool a.stores, .bool a.skip, .bool a.relay, .bool a.feed, .bool a.again, .int .i64 a.capture, .int .i64 a.slam]) ty_32 rfl rfl rfl rfl rfl rfl rfl rfl) ?_
  rintro _ _ _ ⟨rfl, rfl⟩ _
  refine JL.nil ?_
  refine Js.ret (R := RO w (Ty.agg (cRules a))) @Try.results70 (fun _ _ => rfl) (ResOk.cell (res_box (i := 1) ty_32 rfl rfl rfl rfl rfl) ResOk.nil) (fun w1 hw => ?_)
  have hx := hw.ext (Up.refl _ _)
  exact ret_own (ps := []) hw hx ⟨_, rfl, ⟨_, _, rfl, ⟨rfl, rfl⟩, ⟨_, _, rfl, ⟨rfl, rfl⟩, ⟨_, _, rfl, ⟨rfl, rfl⟩, ⟨_, _, rfl, ⟨rfl, rfl⟩, ⟨_, _, rfl, ⟨rfl, rfl⟩, ⟨_, _, rfl, ⟨rfl, rfl⟩, ⟨_, _, rfl, ⟨rfl, rfl⟩, ⟨_, _, rfl, ⟨rfl, rfl⟩, ⟨_, _, rfl, ⟨rfl, rfl⟩, rfl⟩⟩⟩⟩⟩⟩⟩⟩⟩⟩ Pick.nil (by simp [List.flatten, outV])

set_option maxRecDepth 100000 in
set_option maxHeartbeats 400000 in
theorem c_laws_toGame (a : M.Gam) (v_a : Value) (w : World) (h_a : (Ty.agg (cGame a)).ok w v_a) (r0 : a.start.pits.length ≤ 4194304) (r1 : a.start.stores.length ≤ 4194304) (r2 : a.moves.length ≤ 4194304) (r3 : a.now.pits.length ≤ 4194304) (r4 : a.now.stores.length ≤ 4194304) : Ret Try.prog 19 [v_a] w (Ty.agg (cGame a)) := by
  obtain ⟨A1_9, c1_9, A1_10, c1_10, A1_12, c1_12, A1_13, c1_13, A1_14, c1_14, rfl, h1_9, h1_10, h1_12, h1_13, h1_14, bl1_9, bh1_9, bl1_10, bh1_10, bl1_12, bh1_12, bl1_13, bh1_13, bl1_14, bh1_14⟩ := open_Game h_a
  refine enter @Try.func19 @Try.ntmps19 rfl rfl ?_
  refine Js.seq ?_
  refine Js.region ?_
  refine JL.e (e_box (c := [.int .i64 a.rules.pits, .int .i64 a.rules.seeds, .bool a.rules.stores, .bool a.rules.skip, .bool a.rules.relay, .bool a.rules.feed, .bool a.rules.again, .int .i64 a.rules.capture, .int .i64 a.rules.slam, .slice A1_9 a.start.pits.length c1_9, .slice A1_10 a.start.stores.length c1_10, .int .i64 a.start.player, .slice A1_12 a.moves.length c1_12, .slice A1_13 a.now.pits.length c1_13, .slice A1_14 a.now.stores.length c1_14, .int .i64 a.now.player, .int .i64 a.resigned]) rfl rfl) ?_
  rintro _ _ _ ⟨b2, rfl, rfl, rfl⟩ _
  refine JL.e (e_alloc zero_35) ?_
  rintro _ _ _ ⟨b3, rfl, rfl, rfl⟩ _
  refine JL.nil ?_
  refine Js.seq ?_
  refine Js.region ?_
  refine JL.e (e_alloc zero_35) ?_
  rintro _ _ _ ⟨b4, rfl, rfl, rfl⟩ _
  refine JL.nil ?_
  refine Js.seq ?_
  refine Js.region ?_
  refine JL.q (OpP.q (p_fieldAddr fld_28_0 rfl)) ?_
  refine JL.q (q_loadN ty_23 rfl (Mem.boxR (i := 2) rfl 0 9) rfl rfl) ?_
  refine JL.e (e_callO fn_70 rfl (Spl.agg (Spls.cons (Spl.val _) (Spls.cons (Spl.val _) (Spls.cons (Spl.val _) (Spls.cons (Spl.val _) (Spls.cons (Spl.val _) (Spls.cons (Spl.val _) (Spls.cons (Spl.val _) (Spls.cons (Spl.val _) (Spls.cons (Spl.val _) Spls.nil)))))))))) (fun w hw => c_laws_toRules a.rules _ w ⟨_, rfl, ⟨rfl, rfl, rfl, rfl, rfl, rfl, rfl, rfl, rfl, trivial⟩⟩)) ?_
  rintro v5 _ _ ⟨_, hR6, rfl, rfl⟩ _
  obtain ⟨vs7, rfl, hr7⟩ := hR6
  obtain ⟨v7_0, vs7_0, o7_0, ow7_0, rfl, hR7_0, hs7_0, rfl⟩ := RL_cons hr7
  obtain ⟨v7_1, vs7_1, o7_1, ow7_1, rfl, hR7_1, hs7_1, rfl⟩ := RL_cons hs7_0
  obtain ⟨v7_2, vs7_2, o7_2, ow7_2, rfl, hR7_2, hs7_2, rfl⟩ := RL_cons hs7_1
  obtain ⟨v7_3, vs7_3, o7_3, ow7_3, rfl, hR7_3, hs7_3, rfl⟩ := RL_cons hs7_2
  obtain ⟨v7_4, vs7_4, o7_4, ow7_4, rfl, hR7_4, hs7_4, rfl⟩ := RL_cons hs7_3
  obtain ⟨v7_5, vs7_5, o7_5, ow7_5, rfl, hR7_5, hs7_5, rfl⟩ := RL_cons hs7_4
  obtain ⟨v7_6, vs7_6, o7_6, ow7_6, rfl, hR7_6, hs7_6, rfl⟩ := RL_cons hs7_5
  obtain ⟨v7_7, vs7_7, o7_7, ow7_7, rfl, hR7_7, hs7_7, rfl⟩ := RL_cons hs7_6
  obtain ⟨v7_8, vs7_8, o7_8, ow7_8, rfl, hR7_8, hs7_8, rfl⟩ := RL_cons hs7_7
  obtain ⟨rfl, rfl⟩ := RL_nil hs7_8
  obtain ⟨rfl, rfl⟩ : v7_0 = .int .i64 a.rules.pits ∧ _ := hR7_0
  obtain ⟨rfl, rfl⟩ : v7_1 = .int .i64 a.rules.seeds ∧ _ := hR7_1
  obtain ⟨rfl, rfl⟩ : v7_2 = .bool a.rules.stores ∧ _ := hR7_2
  obtain ⟨rfl, rfl⟩ : v7_3 = .bool a.rules.skip ∧ _ := hR7_3
  obtain ⟨rfl, rfl⟩ : v7_4 = .bool a.rules.relay ∧ _ := hR7_4
  obtain ⟨rfl, rfl⟩ : v7_5 = .bool a.rules.feed ∧ _ := hR7_5
  obtain ⟨rfl, rfl⟩ : v7_6 = .bool a.rules.again ∧ _ := hR7_6
  obtain ⟨rfl, rfl⟩ : v7_7 = .int .i64 a.rules.capture ∧ _ := hR7_7
  obtain ⟨rfl, rfl⟩ : v7_8 = .int .i64 a.rules.slam ∧ _ := hR7_8
  refine JL.q (OpP.q (p_fieldAddr fld_35_0 rfl)) ?_
  refine JL.s (e_store (i := 0) (c' := [.int .i64 a.rules.pits, .int .i64 a.rules.seeds, .bool a.rules.stores, .bool a.rules.skip, .bool a.rules.relay, .bool a.rules.feed, .bool a.rules.again, .int .i64 a.rules.capture, .int .i64 a.rules.slam, .slice none 0 0, .slice none 0 0, .int .i64 0, .slice none 0 0, .slice none 0 0, .slice none 0 0, .int .i64 0, .int .i64 0]) ty_32 rfl rfl rfl rfl rfl rfl rfl rfl) ?_
  rintro _ _ _ ⟨rfl, rfl⟩ _
  refine JL.nil ?_
  refine Js.seq ?_
  refine Js.region ?_
  refine JL.q (OpP.q (p_fieldAddr fld_28_1 rfl)) ?_
  refine JL.q (q_loadN ty_26 rfl (Mem.boxR (i := 2) rfl 9 3) rfl rfl) ?_
  refine JL.e (e_callO fn_71 rfl (Spl.agg (Spls.cons (Spl.ints _ _) (Spls.cons (Spl.ints _ _) (Spls.cons (Spl.val _) Spls.nil)))) (fun w hw => c_laws_toPosition a.start _ w ⟨_, rfl, ⟨(Ty.mono _ h1_9 hw.vis), (Ty.mono _ h1_10 hw.vis), rfl, trivial⟩⟩ (by omega) (by omega))) ?_
  rintro v8 _ _ ⟨_, hR9, rfl, rfl⟩ _
  obtain ⟨vs10, rfl, hr10⟩ := hR9
  obtain ⟨v10_0, vs10_0, o10_0, ow10_0, rfl, hR10_0, hs10_0, rfl⟩ := RL_cons hr10
  obtain ⟨v10_1, vs10_1, o10_1, ow10_1, rfl, hR10_1, hs10_1, rfl⟩ := RL_cons hs10_0
  obtain ⟨v10_2, vs10_2, o10_2, ow10_2, rfl, hR10_2, hs10_2, rfl⟩ := RL_cons hs10_1
  obtain ⟨rfl, rfl⟩ := RL_nil hs10_2
  obtain ⟨A11, c11, rfl, rfl, bl11, bh11⟩ := hR10_0
  obtain ⟨A12, c12, rfl, rfl, bl12, bh12⟩ := hR10_1
  obtain ⟨rfl, rfl⟩ : v10_2 = .int .i64 a.start.player ∧ _ := hR10_2
  refine JL.q (OpP.q (p_fieldAddr fld_35_1 rfl)) ?_
  refine JL.s (e_store (i := 2) (c' := [.int .i64 a.rules.pits, .int .i64 a.rules.seeds, .bool a.rules.stores, .bool a.rules.skip, .bool a.rules.relay, .bool a.rules.feed, .bool a.rules.again, .int .i64 a.rules.capture, .int .i64 a.rules.slam, .slice A11 a.start.pits.length c11, .slice A12 a.start.stores.length c12, .int .i64 a.start.player, .slice none 0 0, .slice none 0 0, .slice none 0 0, .int .i64 0, .int .i64 0]) ty_33 rfl rfl rfl rfl rfl rfl rfl rfl) ?_
  rintro _ _ _ ⟨rfl, rfl⟩ _
  refine JL.nil ?_
  refine Js.seq ?_
  refine Js.region ?_
  refine JL.q (OpP.q (p_fieldAddr fld_28_2 rfl)) ?_
  refine JL.q (q_load1 ty_24 rfl (Mem.box (i := 4) rfl rfl)) ?_
  refine JL.e (e_callO fn_45 rfl (Spl.ints _ _) (fun w hw => c_laws_toInt64S a.moves _ w (Ty.mono _ h1_12 hw.vis) (by omega))) ?_
  rintro v13 _ _ ⟨_, hR14, rfl, rfl⟩ _
  obtain ⟨A15, c15, rfl, rfl, bl15, bh15⟩ := hR14
  refine JL.q (OpP.q (p_fieldAddr fld_35_2 rfl)) ?_
  refine JL.s (e_store (i := 3) (c' := [.int .i64 a.rules.pits, .int .i64 a.rules.seeds, .bool a.rules.stores, .bool a.rules.skip, .bool a.rules.relay, .bool a.rules.feed, .bool a.rules.again, .int .i64 a.rules.capture, .int .i64 a.rules.slam, .slice A11 a.start.pits.length c11, .slice A12 a.start.stores.length c12, .int .i64 a.start.player, .slice A15 a.moves.length c15, .slice none 0 0, .slice none 0 0, .int .i64 0, .int .i64 0]) ty_24 rfl rfl rfl rfl rfl rfl rfl rfl) ?_
  rintro _ _ _ ⟨rfl, rfl⟩ _
  refine JL.nil ?_
  refine Js.seq ?_
  refine Js.region ?_
  refine JL.q (OpP.q (p_fieldAddr fld_28_3 rfl)) ?_
  refine JL.q (q_loadN ty_26 rfl (Mem.boxR (i := 5) rfl 13 3) rfl rfl) ?_
  refine JL.e (e_callO fn_71 rfl (Spl.agg (Spls.cons (Spl.ints _ _) (Spls.cons (Spl.ints _ _) (Spls.cons (Spl.val _) Spls.nil)))) (fun w hw => c_laws_toPosition a.now _ w ⟨_, rfl, ⟨(Ty.mono _ h1_13 hw.vis), (Ty.mono _ h1_14 hw.vis), rfl, trivial⟩⟩ (by omega) (by omega))) ?_
  rintro v16 _ _ ⟨_, hR17, rfl, rfl⟩ _
  obtain ⟨vs18, rfl, hr18⟩ := hR17
  obtain ⟨v18_0, vs18_0, o18_0, ow18_0, rfl, hR18_0, hs18_0, rfl⟩ := RL_cons hr18
  obtain ⟨v18_1, vs18_1, o18_1, ow18_1, rfl, hR18_1, hs18_1, rfl⟩ := RL_cons hs18_0
  obtain ⟨v18_2, vs18_2, o18_2, ow18_2, rfl, hR18_2, hs18_2, rfl⟩ := RL_cons hs18_1
  obtain ⟨rfl, rfl⟩ := RL_nil hs18_2
  obtain ⟨A19, c19, rfl, rfl, bl19, bh19⟩ := hR18_0
  obtain ⟨A20, c20, rfl, rfl, bl20, bh20⟩ := hR18_1
  obtain ⟨rfl, rfl⟩ : v18_2 = .int .i64 a.now.player ∧ _ := hR18_2
  refine JL.q (OpP.q (p_fieldAddr fld_35_3 rfl)) ?_
  refine JL.s (e_store (i := 5) (c' := [.int .i64 a.rules.pits, .int .i64 a.rules.seeds, .bool a.rules.stores, .bool a.rules.skip, .bool a.rules.relay, .bool a.rules.feed, .bool a.rules.again, .int .i64 a.rules.capture, .int .i64 a.rules.slam, .slice A11 a.start.pits.length c11, .slice A12 a.start.stores.length c12, .int .i64 a.start.player, .slice A15 a.moves.length c15, .slice A19 a.now.pits.length c19, .slice A20 a.now.stores.length c20, .int .i64 a.now.player, .int .i64 0]) ty_33 rfl rfl rfl rfl rfl rfl rfl rfl) ?_
  rintro _ _ _ ⟨rfl, rfl⟩ _
  refine JL.nil ?_
  refine Js.seq ?_
  refine Js.region ?_
  refine JL.q (OpP.q (p_fieldAddr fld_28_4 rfl)) ?_
  refine JL.q (q_load1 ty_2 rfl (Mem.box (i := 7) rfl rfl)) ?_
  refine JL.q (OpP.q (p_fieldAddr fld_35_4 rfl)) ?_
  refine JL.s (e_store (i := 5) (c' := [.int .i64 a.rules.pits, .int .i64 a.rules.seeds, .bool a.rules.stores, .bool a.rules.skip, .bool a.rules.relay, .bool a.rules.feed, .bool a.rules.again, .int .i64 a.rules.capture, .int .i64 a.rules.slam, .slice A11 a.start.pits.length c11, .slice A12 a.start.stores.length c12, .int .i64 a.start.player, .slice A15 a.moves.length c15, .slice A19 a.now.pits.length c19, .slice A20 a.now.stores.length c20, .int .i64 a.now.player, .int .i64 a.resigned]) ty_2 rfl rfl rfl rfl rfl rfl rfl rfl) ?_
  rintro _ _ _ ⟨rfl, rfl⟩ _
  refine JL.nil ?_
  refine Js.seq ?_
  refine Js.region ?_
  refine JL.q (q_loadN ty_35 rfl (Mem.boxR (i := 5) rfl 0 17) rfl rfl) ?_
  refine JL.s (e_store (i := 6) (c' := [.int .i64 a.rules.pits, .int .i64 a.rules.seeds, .bool a.rules.stores, .bool a.rules.skip, .bool a.rules.relay, .bool a.rules.feed, .bool a.rules.again, .int .i64 a.rules.capture, .int .i64 a.rules.slam, .slice A11 a.start.pits.length c11, .slice A12 a.start.stores.length c12, .int .i64 a.start.player, .slice A15 a.moves.length c15, .slice A19 a.now.pits.length c19, .slice A20 a.now.stores.length c20, .int .i64 a.now.player, .int .i64 a.resigned]) ty_35 rfl rfl rfl rfl rfl rfl rfl rfl) ?_
  rintro _ _ _ ⟨rfl, rfl⟩ _
  refine JL.nil ?_
  refine Js.ret (R := RO w (Ty.agg (cGame a))) @Try.results19 (fun _ _ => rfl) (ResOk.cell (res_box (i := 6) ty_35 rfl rfl rfl rfl rfl) ResOk.nil) (fun w1 hw => ?_)
  have hx := hw.ext (Up.refl _ _)
  exact ret_own (ps := [(3, (Value.ownBlock (.slice A11 a.start.pits.length c11)).toList), (4, (Value.ownBlock (.slice A12 a.start.stores.length c12)).toList), (2, (Value.ownBlock (.slice A15 a.moves.length c15)).toList), (0, (Value.ownBlock (.slice A19 a.now.pits.length c19)).toList), (1, (Value.ownBlock (.slice A20 a.now.stores.length c20)).toList)]) hw hx ⟨_, rfl, ⟨_, _, rfl, ⟨rfl, rfl⟩, ⟨_, _, rfl, ⟨rfl, rfl⟩, ⟨_, _, rfl, ⟨rfl, rfl⟩, ⟨_, _, rfl, ⟨rfl, rfl⟩, ⟨_, _, rfl, ⟨rfl, rfl⟩, ⟨_, _, rfl, ⟨rfl, rfl⟩, ⟨_, _, rfl, ⟨rfl, rfl⟩, ⟨_, _, rfl, ⟨rfl, rfl⟩, ⟨_, _, rfl, ⟨rfl, rfl⟩, ⟨_, _, rfl, (ints_row (xs := a.start.pits) (hw.pr (i := 3) rfl) rfl), ⟨_, _, rfl, (ints_row (xs := a.start.stores) (hw.pr (i := 4) rfl) rfl), ⟨_, _, rfl, ⟨rfl, rfl⟩, ⟨_, _, rfl, (ints_row (xs := a.moves) (hw.pr (i := 2) rfl) rfl), ⟨_, _, rfl, (ints_row (xs := a.now.pits) (hw.pr (i := 0) rfl) rfl), ⟨_, _, rfl, (ints_row (xs := a.now.stores) (hw.pr (i := 1) rfl) rfl), ⟨_, _, rfl, ⟨rfl, rfl⟩, ⟨_, _, rfl, ⟨rfl, rfl⟩, rfl⟩⟩⟩⟩⟩⟩⟩⟩⟩⟩⟩⟩⟩⟩⟩⟩⟩⟩ (Pick.cons (j := 3) rfl (List.sublist_append_left _ _) rfl (Pick.cons (j := 4) rfl (List.sublist_append_left _ _) rfl (Pick.cons (j := 2) rfl (List.sublist_append_left _ _) rfl (Pick.cons (j := 0) rfl (List.sublist_append_left _ _) rfl (Pick.cons (j := 1) rfl (List.sublist_append_left _ _) rfl Pick.nil))))) (by simp [List.flatten, outV])

set_option maxRecDepth 100000 in
set_option maxHeartbeats 400000 in
theorem c_laws_eqInt64S (a : List Int) (v_a : Value) (b : List Int) (v_b : Value) (w : World) (h_a : (Ty.ints 2 a).ok w v_a) (h_b : (Ty.ints 2 b).ok w v_b) (r0 : a.length ≤ 4194304) (r1 : b.length ≤ 4194304) : RetV Try.prog 24 [v_a, v_b] w (.bool (decide (a = b))) := by
  obtain ⟨A1, c1, rfl, bl1, bh1⟩ := sl_form h_a
  obtain ⟨A2, c2, rfl, bl2, bh2⟩ := sl_form h_b
  refine enter @Try.func24 @Try.ntmps24 rfl rfl ?_
  refine Js.seq ?_
  refine Js.region ?_
  refine JL.q (OpP.q (p_assign rfl)) ?_
  refine JL.nil ?_
  refine Js.seq ?_
  refine Js.seq ?_
  refine Js.region ?_
  refine JL.q (OpP.q (p_move rfl)) ?_
  refine JL.q (OpP.q (p_len el_24 rfl)) ?_
  refine JL.q (OpP.q (p_move rfl)) ?_
  refine JL.q (OpP.q (p_len el_24 rfl)) ?_
  refine JL.q (OpP.q (p_neq rfl rfl)) ?_
  refine JL.nil ?_
  refine Js.cond rfl (fun h3 => ?_) (fun h3 => ?_)
  ·
    have h3' := h3
    try simp only [Bool.not_eq_true', decide_eq_false_iff_not] at h3'
    have e1 : decide (a = b) = false := by simp; rintro rfl; simp at h3
    refine Js.seq ?_
    refine Js.region ?_
    refine JL.q (OpP.q (p_assign rfl)) ?_
    refine JL.nil ?_
    refine Js.ret (R := RV w (.bool (decide (a = b)))) @Try.results24 (fun _ _ => rfl) (ResOk.tmp rfl ResOk.nil) (fun w1 hw => ?_)
    refine ⟨?_, hw.ext (Up.refl _ _)⟩
    simp [outV, e1]
  ·
    have h3' := h3
    try simp only [Bool.not_eq_false', decide_eq_true_eq] at h3'
    have hlen : a.length = b.length := by have := h3'; omega
    refine Js.skip ?_
    refine Js.seq ?_
    refine Js.seq ?_
    refine Js.region ?_
    refine JL.q (OpP.q (p_assign rfl)) ?_
    refine JL.nil ?_
    refine Js.block ?_
    refine Js.loop (fun l os u m => ∃ (k : Nat), l = [(0, .slice A1 a.length c1), (1, .slice A2 b.length c2), (5, .int .i64 (k : Int))] ∧ os = [] ∧ Up w.heap.size w u ∧ (k ≤ a.length) ∧ (M.Upto a b k) ∧ m = a.length - k) ⟨0, rfl, rfl, Up.refl _ _, by first | assumption | omega | rfl | (simp; done), by exact M.Upto.zero _ _, rfl⟩ ⟨rfl, rfl, rfl, trivial⟩ ?_
    · rintro _ _ u4 _ ⟨k, rfl, rfl, x4, hk, hU, rfl⟩
      refine Js.seq ?_
      refine Js.seq ?_
      refine Js.region ?_
      refine JL.q (OpP.q (p_move rfl)) ?_
      refine JL.q (OpP.q (p_move rfl)) ?_
      refine JL.q (OpP.q (p_len el_24 rfl)) ?_
      refine JL.q (OpP.q (p_lss rfl rfl)) ?_
      refine JL.nil ?_
      refine Js.cond rfl (fun h5 => ?_) (fun h5 => ?_)
      ·
        have h5' := h5
        try simp only [decide_eq_true_eq] at h5'
        refine Js.skip ?_
        refine Js.seq ?_
        refine Js.block ?_
        refine Js.seq ?_
        refine Js.drawn _ [] mixed_ (fun _ h => h) ?_
        refine JH.p 0 rfl (p_move rfl) ?_
        refine JH.p 1 rfl (p_move rfl) ?_
        obtain ⟨b6, o6, he6, hc6⟩ := ints_elem (Ty.mono _ h_a x4.vis) (i := k) (by omega)
        refine JH.p 2 rfl (p_indexAddr el_24 rfl rfl (by omega) (by omega) he6) ?_
        refine JH.w 3 rfl (fun os' u' hv => q_load1 ty_2 rfl (Mem.pub (hc6.vis hv))) ?_
        refine JH.p 4 rfl (p_move rfl) ?_
        refine JH.p 5 rfl (p_move rfl) ?_
        obtain ⟨b7, o7, he7, hc7⟩ := ints_elem (Ty.mono _ h_b x4.vis) (i := k) (by omega)
        refine JH.p 6 rfl (p_indexAddr el_24 rfl rfl (by omega) (by omega) he7) ?_
        refine JH.w 7 rfl (fun os' u' hv => q_load1 ty_2 rfl (Mem.pub (hc7.vis hv))) ?_
        refine JH.p 8 rfl (p_neq rfl rfl) ?_
        refine JH.done (by kernel_rfl) ?_
        refine Js.cond rfl (fun h8 => ?_) (fun h8 => ?_)
        ·
          have h8' := h8
          try simp only [Bool.not_eq_true', decide_eq_false_iff_not] at h8'
          have e1 : decide (a = b) = false := by simpa using M.ne_of_nth (a := a) (b := b) (k := k) (by simpa using h8)
          refine Js.seq ?_
          refine Js.region ?_
          refine JL.q (OpP.q (p_assign rfl)) ?_
          refine JL.nil ?_
          refine Js.ret (R := RV w (.bool (decide (a = b)))) @Try.results24 (fun _ _ => rfl) (ResOk.tmp rfl ResOk.nil) (fun w1 hw => ?_)
          refine ⟨?_, hw.ext (x4)⟩
          simp [outV, e1]
        ·
          have h8' := h8
          try simp only [Bool.not_eq_false', decide_eq_true_eq] at h8'
          have hab : M.nth a k = M.nth b k := by simpa using h8
          refine Js.skip ?_
          refine Js.blockEnd ?_
          refine Js.region ?_
          refine JL.q (OpP.q (p_move rfl)) ?_
          refine JL.q (OpP.q (p_add rfl rfl (IntWalk.i64_in _ (by omega)))) ?_
          refine JL.q (OpP.q (p_assign rfl)) ?_
          refine JL.nil ?_
          exact Js.again ⟨k + 1, rfl, rfl, x4, by first | assumption | omega | rfl | (simp; done), by exact hU.step (by omega) (by omega) hab, rfl⟩ (by omega) ⟨rfl, rfl, rfl, trivial⟩
      ·
        have h5' := h5
        try simp only [decide_eq_false_iff_not, Int.not_lt] at h5'
        have e1 : a = b := hU.done (by omega) (by omega)
        refine Js.exit (fun _ _ => rfl) ?_
        refine Js.seq ?_
        refine Js.region ?_
        refine JL.q (OpP.q (p_assign rfl)) ?_
        refine JL.nil ?_
        refine Js.ret (R := RV w (.bool (decide (a = b)))) @Try.results24 (fun _ _ => rfl) (ResOk.tmp rfl ResOk.nil) (fun w1 hw => ?_)
        refine ⟨?_, hw.ext (x4)⟩
        simp [outV, e1]

set_option maxRecDepth 100000 in
set_option maxHeartbeats 400000 in
theorem c_laws_eqPosition (a : M.Pos) (v_a : Value) (b : M.Pos) (v_b : Value) (w : World) (h_a : (Ty.agg (cPosition a)).ok w v_a) (h_b : (Ty.agg (cPosition b)).ok w v_b) (r0 : a.pits.length ≤ 4194304) (r1 : a.stores.length ≤ 4194304) (r2 : b.pits.length ≤ 4194304) (r3 : b.stores.length ≤ 4194304) : RetV Try.prog 53 [v_a, v_b] w (.bool (decide (a = b))) := by
  obtain ⟨A1_0, c1_0, A1_1, c1_1, rfl, h1_0, h1_1, bl1_0, bh1_0, bl1_1, bh1_1⟩ := open_Position h_a
  obtain ⟨A2_0, c2_0, A2_1, c2_1, rfl, h2_0, h2_1, bl2_0, bh2_0, bl2_1, bh2_1⟩ := open_Position h_b
  refine enter @Try.func53 @Try.ntmps53 rfl rfl ?_
  refine Js.seq ?_
  refine Js.region ?_
  refine JL.e (e_box (c := [.slice A1_0 a.pits.length c1_0, .slice A1_1 a.stores.length c1_1, .int .i64 a.player]) rfl rfl) ?_
  rintro _ _ _ ⟨b3, rfl, rfl, rfl⟩ _
  refine JL.e (e_box (c := [.slice A2_0 b.pits.length c2_0, .slice A2_1 b.stores.length c2_1, .int .i64 b.player]) rfl rfl) ?_
  rintro _ _ _ ⟨b4, rfl, rfl, rfl⟩ _
  refine JL.q (OpP.q (p_assign rfl)) ?_
  refine JL.nil ?_
  refine Js.seq ?_
  refine Js.seq ?_
  refine Js.region ?_
  refine JL.q (OpP.q (p_fieldAddr fld_33_0 rfl)) ?_
  refine JL.q (q_load1 ty_24 rfl (Mem.box (i := 1) rfl rfl)) ?_
  refine JL.q (OpP.q (p_fieldAddr fld_33_0 rfl)) ?_
  refine JL.q (q_load1 ty_24 rfl (Mem.box (i := 0) rfl rfl)) ?_
  refine JL.e (e_callV fn_24 rfl (fun w hw => c_laws_eqInt64S a.pits _ b.pits _ w (Ty.mono _ h1_0 hw.vis) (Ty.mono _ h2_0 hw.vis) (by omega) (by omega))) ?_
  rintro _ _ _ ⟨rfl, rfl, rfl⟩ _
  refine JL.q (OpP.q (p_not rfl)) ?_
  refine JL.nil ?_
  refine Js.cond rfl (fun h5 => ?_) (fun h5 => ?_)
  ·
    have h5' := h5
    try simp only [Bool.not_eq_true', decide_eq_false_iff_not] at h5'
    have hne : a ≠ b := by rintro rfl; simp at h5
    refine Js.seq ?_
    refine Js.region ?_
    refine JL.q (OpP.q (p_assign rfl)) ?_
    refine JL.nil ?_
    refine Js.ret (R := RV w (.bool (decide (a = b)))) @Try.results53 (fun _ _ => rfl) (ResOk.tmp rfl ResOk.nil) (fun w1 hw => ?_)
    refine ⟨?_, hw.ext (Up.refl _ _)⟩
    first | (rw [decide_eq_false hne]; rfl) | (rw [decide_eq_true (M.pos_ext q0 q1 q2)]; rfl)
  ·
    have h5' := h5
    try simp only [Bool.not_eq_false', decide_eq_true_eq] at h5'
    have q0 : a.pits = b.pits := by simpa using h5
    refine Js.skip ?_
    refine Js.seq ?_
    refine Js.seq ?_
    refine Js.region ?_
    refine JL.q (OpP.q (p_fieldAddr fld_33_1 rfl)) ?_
    refine JL.q (q_load1 ty_24 rfl (Mem.box (i := 1) rfl rfl)) ?_
    refine JL.q (OpP.q (p_fieldAddr fld_33_1 rfl)) ?_
    refine JL.q (q_load1 ty_24 rfl (Mem.box (i := 0) rfl rfl)) ?_
    refine JL.e (e_callV fn_24 rfl (fun w hw => c_laws_eqInt64S a.stores _ b.stores _ w (Ty.mono _ h1_1 hw.vis) (Ty.mono _ h2_1 hw.vis) (by omega) (by omega))) ?_
    rintro _ _ _ ⟨rfl, rfl, rfl⟩ _
    refine JL.q (OpP.q (p_not rfl)) ?_
    refine JL.nil ?_
    refine Js.cond rfl (fun h6 => ?_) (fun h6 => ?_)
    ·
      have h6' := h6
      try simp only [Bool.not_eq_true', decide_eq_false_iff_not] at h6'
      have hne : a ≠ b := by rintro rfl; simp at h6
      refine Js.seq ?_
      refine Js.region ?_
      refine JL.q (OpP.q (p_assign rfl)) ?_
      refine JL.nil ?_
      refine Js.ret (R := RV w (.bool (decide (a = b)))) @Try.results53 (fun _ _ => rfl) (ResOk.tmp rfl ResOk.nil) (fun w1 hw => ?_)
      refine ⟨?_, hw.ext (Up.refl _ _)⟩
      first | (rw [decide_eq_false hne]; rfl) | (rw [decide_eq_true (M.pos_ext q0 q1 q2)]; rfl)
    ·
      have h6' := h6
      try simp only [Bool.not_eq_false', decide_eq_true_eq] at h6'
      have q1 : a.stores = b.stores := by simpa using h6
      refine Js.skip ?_
      refine Js.seq ?_
      refine Js.seq ?_
      refine Js.region ?_
      refine JL.q (OpP.q (p_fieldAddr fld_33_2 rfl)) ?_
      refine JL.q (q_load1 ty_2 rfl (Mem.box (i := 1) rfl rfl)) ?_
      refine JL.q (OpP.q (p_fieldAddr fld_33_2 rfl)) ?_
      refine JL.q (q_load1 ty_2 rfl (Mem.box (i := 0) rfl rfl)) ?_
      refine JL.q (OpP.q (p_neq rfl rfl)) ?_
      refine JL.nil ?_
      refine Js.cond rfl (fun h7 => ?_) (fun h7 => ?_)
      ·
        have h7' := h7
        try simp only [Bool.not_eq_true', decide_eq_false_iff_not] at h7'
        have hne : a ≠ b := by rintro rfl; simp at h7
        refine Js.seq ?_
        refine Js.region ?_
        refine JL.q (OpP.q (p_assign rfl)) ?_
        refine JL.nil ?_
        refine Js.ret (R := RV w (.bool (decide (a = b)))) @Try.results53 (fun _ _ => rfl) (ResOk.tmp rfl ResOk.nil) (fun w1 hw => ?_)
        refine ⟨?_, hw.ext (Up.refl _ _)⟩
        first | (rw [decide_eq_false hne]; rfl) | (rw [decide_eq_true (M.pos_ext q0 q1 q2)]; rfl)
      ·
        have h7' := h7
        try simp only [Bool.not_eq_false', decide_eq_true_eq] at h7'
        have q2 : a.player = b.player := by simpa using h7
        refine Js.skip ?_
        refine Js.seq ?_
        refine Js.region ?_
        refine JL.q (OpP.q (p_assign rfl)) ?_
        refine JL.nil ?_
        refine Js.ret (R := RV w (.bool (decide (a = b)))) @Try.results53 (fun _ _ => rfl) (ResOk.tmp rfl ResOk.nil) (fun w1 hw => ?_)
        refine ⟨?_, hw.ext (Up.refl _ _)⟩
        first | (rw [decide_eq_false hne]; rfl) | (rw [decide_eq_true (M.pos_ext q0 q1 q2)]; rfl)

set_option maxRecDepth 100000 in
set_option maxHeartbeats 400000 in
theorem c_laws_eqRules (a : M.Rul) (v_a : Value) (b : M.Rul) (v_b : Value) (w : World) (h_a : (Ty.agg (cRules a)).ok w v_a) (h_b : (Ty.agg (cRules b)).ok w v_b) : RetV Try.prog 74 [v_a, v_b] w (.bool (decide (a = b))) := by
  obtain rfl := open_Rules h_a
  obtain rfl := open_Rules h_b
  refine enter @Try.func74 @Try.ntmps74 rfl rfl ?_
  refine Js.seq ?_
  refine Js.region ?_
  refine JL.e (e_box (c := [.int .i64 a.pits, .int .i64 a.seeds, .bool a.stores, .bool a.skip, .bool a.relay, .bool a.feed, .bool a.again, .int .i64 a.capture, .int .i64 a.slam]) rfl rfl) ?_
  rintro _ _ _ ⟨b3, rfl, rfl, rfl⟩ _
  refine JL.e (e_box (c := [.int .i64 b.pits, .int .i64 b.seeds, .bool b.stores, .bool b.skip, .bool b.relay, .bool b.feed, .bool b.again, .int .i64 b.capture, .int .i64 b.slam]) rfl rfl) ?_
  rintro _ _ _ ⟨b4, rfl, rfl, rfl⟩ _
  refine JL.q (OpP.q (p_assign rfl)) ?_
  refine JL.nil ?_
  refine Js.seq ?_
  refine Js.seq ?_
  refine Js.region ?_
  refine JL.q (OpP.q (p_fieldAddr fld_32_0 rfl)) ?_
  refine JL.q (q_load1 ty_2 rfl (Mem.box (i := 1) rfl rfl)) ?_
  refine JL.q (OpP.q (p_fieldAddr fld_32_0 rfl)) ?_
  refine JL.q (q_load1 ty_2 rfl (Mem.box (i := 0) rfl rfl)) ?_
  refine JL.q (OpP.q (p_neq rfl rfl)) ?_
  refine JL.nil ?_
  refine Js.cond rfl (fun h5 => ?_) (fun h5 => ?_)
  ·
    have h5' := h5
    try simp only [Bool.not_eq_true', decide_eq_false_iff_not] at h5'
    have hne : a ≠ b := by rintro rfl; simp at h5
    refine Js.seq ?_
    refine Js.region ?_
    refine JL.q (OpP.q (p_assign rfl)) ?_
    refine JL.nil ?_
    refine Js.ret (R := RV w (.bool (decide (a = b)))) @Try.results74 (fun _ _ => rfl) (ResOk.tmp rfl ResOk.nil) (fun w1 hw => ?_)
    refine ⟨?_, hw.ext (Up.refl _ _)⟩
    first | (rw [decide_eq_false hne]; rfl) | (rw [decide_eq_true (M.rul_ext q0 q1 q2 q3 q4 q5 q6 q7 q8)]; rfl)
  ·
    have h5' := h5
    try simp only [Bool.not_eq_false', decide_eq_true_eq] at h5'
    have q0 : a.pits = b.pits := by simpa using h5
    refine Js.skip ?_
    refine Js.seq ?_
    refine Js.seq ?_
    refine Js.region ?_
    refine JL.q (OpP.q (p_fieldAddr fld_32_1 rfl)) ?_
    refine JL.q (q_load1 ty_2 rfl (Mem.box (i := 1) rfl rfl)) ?_
    refine JL.q (OpP.q (p_fieldAddr fld_32_1 rfl)) ?_
    refine JL.q (q_load1 ty_2 rfl (Mem.box (i := 0) rfl rfl)) ?_
    refine JL.q (OpP.q (p_neq rfl rfl)) ?_
    refine JL.nil ?_
    refine Js.cond rfl (fun h6 => ?_) (fun h6 => ?_)
    ·
      have h6' := h6
      try simp only [Bool.not_eq_true', decide_eq_false_iff_not] at h6'
      have hne : a ≠ b := by rintro rfl; simp at h6
      refine Js.seq ?_
      refine Js.region ?_
      refine JL.q (OpP.q (p_assign rfl)) ?_
      refine JL.nil ?_
      refine Js.ret (R := RV w (.bool (decide (a = b)))) @Try.results74 (fun _ _ => rfl) (ResOk.tmp rfl ResOk.nil) (fun w1 hw => ?_)
      refine ⟨?_, hw.ext (Up.refl _ _)⟩
      first | (rw [decide_eq_false hne]; rfl) | (rw [decide_eq_true (M.rul_ext q0 q1 q2 q3 q4 q5 q6 q7 q8)]; rfl)
    ·
      have h6' := h6
      try simp only [Bool.not_eq_false', decide_eq_true_eq] at h6'
      have q1 : a.seeds = b.seeds := by simpa using h6
      refine Js.skip ?_
      refine Js.seq ?_
      refine Js.seq ?_
      refine Js.region ?_
      refine JL.q (OpP.q (p_fieldAddr fld_32_2 rfl)) ?_
      refine JL.q (q_load1 ty_4 rfl (Mem.box (i := 1) rfl rfl)) ?_
      refine JL.q (OpP.q (p_fieldAddr fld_32_2 rfl)) ?_
      refine JL.q (q_load1 ty_4 rfl (Mem.box (i := 0) rfl rfl)) ?_
      refine JL.q (OpP.q (p_neqB und_4 rfl rfl)) ?_
      refine JL.nil ?_
      refine Js.cond rfl (fun h7 => ?_) (fun h7 => ?_)
      ·
        have h7' := h7
        try simp only [Bool.not_eq_true'] at h7'
        have hne : a ≠ b := by rintro rfl; simp at h7
        refine Js.seq ?_
        refine Js.region ?_
        refine JL.q (OpP.q (p_assign rfl)) ?_
        refine JL.nil ?_
        refine Js.ret (R := RV w (.bool (decide (a = b)))) @Try.results74 (fun _ _ => rfl) (ResOk.tmp rfl ResOk.nil) (fun w1 hw => ?_)
        refine ⟨?_, hw.ext (Up.refl _ _)⟩
        first | (rw [decide_eq_false hne]; rfl) | (rw [decide_eq_true (M.rul_ext q0 q1 q2 q3 q4 q5 q6 q7 q8)]; rfl)
      ·
        have h7' := h7
        try simp only [Bool.not_eq_false'] at h7'
        have q2 : a.stores = b.stores := by simpa using h7
        refine Js.skip ?_
        refine Js.seq ?_
        refine Js.seq ?_
        refine Js.region ?_
        refine JL.q (OpP.q (p_fieldAddr fld_32_3 rfl)) ?_
        refine JL.q (q_load1 ty_4 rfl (Mem.box (i := 1) rfl rfl)) ?_
        refine JL.q (OpP.q (p_fieldAddr fld_32_3 rfl)) ?_
        refine JL.q (q_load1 ty_4 rfl (Mem.box (i := 0) rfl rfl)) ?_
        refine JL.q (OpP.q (p_neqB und_4 rfl rfl)) ?_
        refine JL.nil ?_
        refine Js.cond rfl (fun h8 => ?_) (fun h8 => ?_)
        ·
          have h8' := h8
          try simp only [Bool.not_eq_true'] at h8'
          have hne : a ≠ b := by rintro rfl; simp at h8
          refine Js.seq ?_
          refine Js.region ?_
          refine JL.q (OpP.q (p_assign rfl)) ?_
          refine JL.nil ?_
          refine Js.ret (R := RV w (.bool (decide (a = b)))) @Try.results74 (fun _ _ => rfl) (ResOk.tmp rfl ResOk.nil) (fun w1 hw => ?_)
          refine ⟨?_, hw.ext (Up.refl _ _)⟩
          first | (rw [decide_eq_false hne]; rfl) | (rw [decide_eq_true (M.rul_ext q0 q1 q2 q3 q4 q5 q6 q7 q8)]; rfl)
        ·
          have h8' := h8
          try simp only [Bool.not_eq_false'] at h8'
          have q3 : a.skip = b.skip := by simpa using h8
          refine Js.skip ?_
          refine Js.seq ?_
          refine Js.seq ?_
          refine Js.region ?_
          refine JL.q (OpP.q (p_fieldAddr fld_32_4 rfl)) ?_
          refine JL.q (q_load1 ty_4 rfl (Mem.box (i := 1) rfl rfl)) ?_
          refine JL.q (OpP.q (p_fieldAddr fld_32_4 rfl)) ?_
          refine JL.q (q_load1 ty_4 rfl (Mem.box (i := 0) rfl rfl)) ?_
          refine JL.q (OpP.q (p_neqB und_4 rfl rfl)) ?_
          refine JL.nil ?_
          refine Js.cond rfl (fun h9 => ?_) (fun h9 => ?_)
          ·
            have h9' := h9
            try simp only [Bool.not_eq_true'] at h9'
            have hne : a ≠ b := by rintro rfl; simp at h9
            refine Js.seq ?_
            refine Js.region ?_
            refine JL.q (OpP.q (p_assign rfl)) ?_
            refine JL.nil ?_
            refine Js.ret (R := RV w (.bool (decide (a = b)))) @Try.results74 (fun _ _ => rfl) (ResOk.tmp rfl ResOk.nil) (fun w1 hw => ?_)
            refine ⟨?_, hw.ext (Up.refl _ _)⟩
            first | (rw [decide_eq_false hne]; rfl) | (rw [decide_eq_true (M.rul_ext q0 q1 q2 q3 q4 q5 q6 q7 q8)]; rfl)
          ·
            have h9' := h9
            try simp only [Bool.not_eq_false'] at h9'
            have q4 : a.relay = b.relay := by simpa using h9
            refine Js.skip ?_
            refine Js.seq ?_
            refine Js.seq ?_
            refine Js.region ?_
            refine JL.q (OpP.q (p_fieldAddr fld_32_5 rfl)) ?_
            refine JL.q (q_load1 ty_4 rfl (Mem.box (i := 1) rfl rfl)) ?_
            refine JL.q (OpP.q (p_fieldAddr fld_32_5 rfl)) ?_
            refine JL.q (q_load1 ty_4 rfl (Mem.box (i := 0) rfl rfl)) ?_
            refine JL.q (OpP.q (p_neqB und_4 rfl rfl)) ?_
            refine JL.nil ?_
            refine Js.cond rfl (fun h10 => ?_) (fun h10 => ?_)
            ·
              have h10' := h10
              try simp only [Bool.not_eq_true'] at h10'
              have hne : a ≠ b := by rintro rfl; simp at h10
              refine Js.seq ?_
              refine Js.region ?_
              refine JL.q (OpP.q (p_assign rfl)) ?_
              refine JL.nil ?_
              refine Js.ret (R := RV w (.bool (decide (a = b)))) @Try.results74 (fun _ _ => rfl) (ResOk.tmp rfl ResOk.nil) (fun w1 hw => ?_)
              refine ⟨?_, hw.ext (Up.refl _ _)⟩
              first | (rw [decide_eq_false hne]; rfl) | (rw [decide_eq_true (M.rul_ext q0 q1 q2 q3 q4 q5 q6 q7 q8)]; rfl)
            ·
              have h10' := h10
              try simp only [Bool.not_eq_false'] at h10'
              have q5 : a.feed = b.feed := by simpa using h10
              refine Js.skip ?_
              refine Js.seq ?_
              refine Js.seq ?_
              refine Js.region ?_
              refine JL.q (OpP.q (p_fieldAddr fld_32_6 rfl)) ?_
              refine JL.q (q_load1 ty_4 rfl (Mem.box (i := 1) rfl rfl)) ?_
              refine JL.q (OpP.q (p_fieldAddr fld_32_6 rfl)) ?_
              refine JL.q (q_load1 ty_4 rfl (Mem.box (i := 0) rfl rfl)) ?_
              refine JL.q (OpP.q (p_neqB und_4 rfl rfl)) ?_
              refine JL.nil ?_
              refine Js.cond rfl (fun h11 => ?_) (fun h11 => ?_)
              ·
                have h11' := h11
                try simp only [Bool.not_eq_true'] at h11'
                have hne : a ≠ b := by rintro rfl; simp at h11
                refine Js.seq ?_
                refine Js.region ?_
                refine JL.q (OpP.q (p_assign rfl)) ?_
                refine JL.nil ?_
                refine Js.ret (R := RV w (.bool (decide (a = b)))) @Try.results74 (fun _ _ => rfl) (ResOk.tmp rfl ResOk.nil) (fun w1 hw => ?_)
                refine ⟨?_, hw.ext (Up.refl _ _)⟩
                first | (rw [decide_eq_false hne]; rfl) | (rw [decide_eq_true (M.rul_ext q0 q1 q2 q3 q4 q5 q6 q7 q8)]; rfl)
              ·
                have h11' := h11
                try simp only [Bool.not_eq_false'] at h11'
                have q6 : a.again = b.again := by simpa using h11
                refine Js.skip ?_
                refine Js.seq ?_
                refine Js.seq ?_
                refine Js.region ?_
                refine JL.q (OpP.q (p_fieldAddr fld_32_7 rfl)) ?_
                refine JL.q (q_load1 ty_2 rfl (Mem.box (i := 1) rfl rfl)) ?_
                refine JL.q (OpP.q (p_fieldAddr fld_32_7 rfl)) ?_
                refine JL.q (q_load1 ty_2 rfl (Mem.box (i := 0) rfl rfl)) ?_
                refine JL.q (OpP.q (p_neq rfl rfl)) ?_
                refine JL.nil ?_
                refine Js.cond rfl (fun h12 => ?_) (fun h12 => ?_)
                ·
                  have h12' := h12
                  try simp only [Bool.not_eq_true', decide_eq_false_iff_not] at h12'
                  have hne : a ≠ b := by rintro rfl; simp at h12
                  refine Js.seq ?_
                  refine Js.region ?_
                  refine JL.q (OpP.q (p_assign rfl)) ?_
                  refine JL.nil ?_
                  refine Js.ret (R := RV w (.bool (decide (a = b)))) @Try.results74 (fun _ _ => rfl) (ResOk.tmp rfl ResOk.nil) (fun w1 hw => ?_)
                  refine ⟨?_, hw.ext (Up.refl _ _)⟩
                  first | (rw [decide_eq_false hne]; rfl) | (rw [decide_eq_true (M.rul_ext q0 q1 q2 q3 q4 q5 q6 q7 q8)]; rfl)
                ·
                  have h12' := h12
                  try simp only [Bool.not_eq_false', decide_eq_true_eq] at h12'
                  have q7 : a.capture = b.capture := by simpa using h12
                  refine Js.skip ?_
                  refine Js.seq ?_
                  refine Js.seq ?_
                  refine Js.region ?_
                  refine JL.q (OpP.q (p_fieldAddr fld_32_8 rfl)) ?_
                  refine JL.q (q_load1 ty_2 rfl (Mem.box (i := 1) rfl rfl)) ?_
                  refine JL.q (OpP.q (p_fieldAddr fld_32_8 rfl)) ?_
                  refine JL.q (q_load1 ty_2 rfl (Mem.box (i := 0) rfl rfl)) ?_
                  refine JL.q (OpP.q (p_neq rfl rfl)) ?_
                  refine JL.nil ?_
                  refine Js.cond rfl (fun h13 => ?_) (fun h13 => ?_)
                  ·
                    have h13' := h13
                    try simp only [Bool.not_eq_true', decide_eq_false_iff_not] at h13'
                    have hne : a ≠ b := by rintro rfl; simp at h13
                    refine Js.seq ?_
                    refine Js.region ?_
                    refine JL.q (OpP.q (p_assign rfl)) ?_
                    refine JL.nil ?_
                    refine Js.ret (R := RV w (.bool (decide (a = b)))) @Try.results74 (fun _ _ => rfl) (ResOk.tmp rfl ResOk.nil) (fun w1 hw => ?_)
                    refine ⟨?_, hw.ext (Up.refl _ _)⟩
                    first | (rw [decide_eq_false hne]; rfl) | (rw [decide_eq_true (M.rul_ext q0 q1 q2 q3 q4 q5 q6 q7 q8)]; rfl)
                  ·
                    have h13' := h13
                    try simp only [Bool.not_eq_false', decide_eq_true_eq] at h13'
                    have q8 : a.slam = b.slam := by simpa using h13
                    refine Js.skip ?_
                    refine Js.seq ?_
                    refine Js.region ?_
                    refine JL.q (OpP.q (p_assign rfl)) ?_
                    refine JL.nil ?_
                    refine Js.ret (R := RV w (.bool (decide (a = b)))) @Try.results74 (fun _ _ => rfl) (ResOk.tmp rfl ResOk.nil) (fun w1 hw => ?_)
                    refine ⟨?_, hw.ext (Up.refl _ _)⟩
                    first | (rw [decide_eq_false hne]; rfl) | (rw [decide_eq_true (M.rul_ext q0 q1 q2 q3 q4 q5 q6 q7 q8)]; rfl)

set_option maxRecDepth 100000 in
set_option maxHeartbeats 400000 in
theorem c_laws_eqGame (a : M.Gam) (v_a : Value) (b : M.Gam) (v_b : Value) (w : World) (h_a : (Ty.agg (cGame a)).ok w v_a) (h_b : (Ty.agg (cGame b)).ok w v_b) (r0 : a.start.pits.length ≤ 4194304) (r1 : a.start.stores.length ≤ 4194304) (r2 : a.moves.length ≤ 4194304) (r3 : a.now.pits.length ≤ 4194304) (r4 : a.now.stores.length ≤ 4194304) (r5 : b.start.pits.length ≤ 4194304) (r6 : b.start.stores.length ≤ 4194304) (r7 : b.moves.length ≤ 4194304) (r8 : b.now.pits.length ≤ 4194304) (r9 : b.now.stores.length ≤ 4194304) : RetV Try.prog 21 [v_a, v_b] w (.bool (decide (a = b))) := by
  obtain ⟨A1_9, c1_9, A1_10, c1_10, A1_12, c1_12, A1_13, c1_13, A1_14, c1_14, rfl, h1_9, h1_10, h1_12, h1_13, h1_14, bl1_9, bh1_9, bl1_10, bh1_10, bl1_12, bh1_12, bl1_13, bh1_13, bl1_14, bh1_14⟩ := open_Game h_a
  obtain ⟨A2_9, c2_9, A2_10, c2_10, A2_12, c2_12, A2_13, c2_13, A2_14, c2_14, rfl, h2_9, h2_10, h2_12, h2_13, h2_14, bl2_9, bh2_9, bl2_10, bh2_10, bl2_12, bh2_12, bl2_13, bh2_13, bl2_14, bh2_14⟩ := open_Game h_b
  refine enter @Try.func21 @Try.ntmps21 rfl rfl ?_
  refine Js.seq ?_
  refine Js.region ?_
  refine JL.e (e_box (c := [.int .i64 a.rules.pits, .int .i64 a.rules.seeds, .bool a.rules.stores, .bool a.rules.skip, .bool a.rules.relay, .bool a.rules.feed, .bool a.rules.again, .int .i64 a.rules.capture, .int .i64 a.rules.slam, .slice A1_9 a.start.pits.length c1_9, .slice A1_10 a.start.stores.length c1_10, .int .i64 a.start.player, .slice A1_12 a.moves.length c1_12, .slice A1_13 a.now.pits.length c1_13, .slice A1_14 a.now.stores.length c1_14, .int .i64 a.now.player, .int .i64 a.resigned]) rfl rfl) ?_
  rintro _ _ _ ⟨b3, rfl, rfl, rfl⟩ _
  refine JL.e (e_box (c := [.int .i64 b.rules.pits, .int .i64 b.rules.seeds, .bool b.rules.stores, .bool b.rules.skip, .bool b.rules.relay, .bool b.rules.feed, .bool b.rules.again, .int .i64 b.rules.capture, .int .i64 b.rules.slam, .slice A2_9 b.start.pits.length c2_9, .slice A2_10 b.start.stores.length c2_10, .int .i64 b.start.player, .slice A2_12 b.moves.length c2_12, .slice A2_13 b.now.pits.length c2_13, .slice A2_14 b.now.stores.length c2_14, .int .i64 b.now.player, .int .i64 b.resigned]) rfl rfl) ?_
  rintro _ _ _ ⟨b4, rfl, rfl, rfl⟩ _
  refine JL.q (OpP.q (p_assign rfl)) ?_
  refine JL.nil ?_
  refine Js.seq ?_
  refine Js.seq ?_
  refine Js.region ?_
  refine JL.q (OpP.q (p_fieldAddr fld_35_0 rfl)) ?_
  refine JL.q (q_loadN ty_32 rfl (Mem.boxR (i := 1) rfl 0 9) rfl rfl) ?_
  refine JL.q (OpP.q (p_fieldAddr fld_35_0 rfl)) ?_
  refine JL.q (q_loadN ty_32 rfl (Mem.boxR (i := 0) rfl 0 9) rfl rfl) ?_
  refine JL.e (e_callV fn_74 rfl (fun w hw => c_laws_eqRules a.rules _ b.rules _ w ⟨_, rfl, ⟨rfl, rfl, rfl, rfl, rfl, rfl, rfl, rfl, rfl, trivial⟩⟩ ⟨_, rfl, ⟨rfl, rfl, rfl, rfl, rfl, rfl, rfl, rfl, rfl, trivial⟩⟩)) ?_
  rintro _ _ _ ⟨rfl, rfl, rfl⟩ _
  refine JL.q (OpP.q (p_not rfl)) ?_
  refine JL.nil ?_
  refine Js.cond rfl (fun h5 => ?_) (fun h5 => ?_)
  ·
    have h5' := h5
    try simp only [Bool.not_eq_true', decide_eq_false_iff_not] at h5'
    have hne : a ≠ b := by rintro rfl; simp at h5
    refine Js.seq ?_
    refine Js.region ?_
    refine JL.q (OpP.q (p_assign rfl)) ?_
    refine JL.nil ?_
    refine Js.ret (R := RV w (.bool (decide (a = b)))) @Try.results21 (fun _ _ => rfl) (ResOk.tmp rfl ResOk.nil) (fun w1 hw => ?_)
    refine ⟨?_, hw.ext (Up.refl _ _)⟩
    first | (rw [decide_eq_false hne]; rfl) | (rw [decide_eq_true (M.gam_ext q0 q1 q2 q3 q4)]; rfl)
  ·
    have h5' := h5
    try simp only [Bool.not_eq_false', decide_eq_true_eq] at h5'
    have q0 : a.rules = b.rules := by simpa using h5
    refine Js.skip ?_
    refine Js.seq ?_
    refine Js.seq ?_
    refine Js.region ?_
    refine JL.q (OpP.q (p_fieldAddr fld_35_1 rfl)) ?_
    refine JL.q (q_loadN ty_33 rfl (Mem.boxR (i := 1) rfl 9 3) rfl rfl) ?_
    refine JL.q (OpP.q (p_fieldAddr fld_35_1 rfl)) ?_
    refine JL.q (q_loadN ty_33 rfl (Mem.boxR (i := 0) rfl 9 3) rfl rfl) ?_
    refine JL.e (e_callV fn_53 rfl (fun w hw => c_laws_eqPosition a.start _ b.start _ w ⟨_, rfl, ⟨(Ty.mono _ h1_9 hw.vis), (Ty.mono _ h1_10 hw.vis), rfl, trivial⟩⟩ ⟨_, rfl, ⟨(Ty.mono _ h2_9 hw.vis), (Ty.mono _ h2_10 hw.vis), rfl, trivial⟩⟩ (by omega) (by omega) (by omega) (by omega))) ?_
    rintro _ _ _ ⟨rfl, rfl, rfl⟩ _
    refine JL.q (OpP.q (p_not rfl)) ?_
    refine JL.nil ?_
    refine Js.cond rfl (fun h6 => ?_) (fun h6 => ?_)
    ·
      have h6' := h6
      try simp only [Bool.not_eq_true', decide_eq_false_iff_not] at h6'
      have hne : a ≠ b := by rintro rfl; simp at h6
      refine Js.seq ?_
      refine Js.region ?_
      refine JL.q (OpP.q (p_assign rfl)) ?_
      refine JL.nil ?_
      refine Js.ret (R := RV w (.bool (decide (a = b)))) @Try.results21 (fun _ _ => rfl) (ResOk.tmp rfl ResOk.nil) (fun w1 hw => ?_)
      refine ⟨?_, hw.ext (Up.refl _ _)⟩
      first | (rw [decide_eq_false hne]; rfl) | (rw [decide_eq_true (M.gam_ext q0 q1 q2 q3 q4)]; rfl)
    ·
      have h6' := h6
      try simp only [Bool.not_eq_false', decide_eq_true_eq] at h6'
      have q1 : a.start = b.start := by simpa using h6
      refine Js.skip ?_
      refine Js.seq ?_
      refine Js.seq ?_
      refine Js.region ?_
      refine JL.q (OpP.q (p_fieldAddr fld_35_2 rfl)) ?_
      refine JL.q (q_load1 ty_24 rfl (Mem.box (i := 1) rfl rfl)) ?_
      refine JL.q (OpP.q (p_fieldAddr fld_35_2 rfl)) ?_
      refine JL.q (q_load1 ty_24 rfl (Mem.box (i := 0) rfl rfl)) ?_
      refine JL.e (e_callV fn_24 rfl (fun w hw => c_laws_eqInt64S a.moves _ b.moves _ w (Ty.mono _ h1_12 hw.vis) (Ty.mono _ h2_12 hw.vis) (by omega) (by omega))) ?_
      rintro _ _ _ ⟨rfl, rfl, rfl⟩ _
      refine JL.q (OpP.q (p_not rfl)) ?_
      refine JL.nil ?_
      refine Js.cond rfl (fun h7 => ?_) (fun h7 => ?_)
      ·
        have h7' := h7
        try simp only [Bool.not_eq_true', decide_eq_false_iff_not] at h7'
        have hne : a ≠ b := by rintro rfl; simp at h7
        refine Js.seq ?_
        refine Js.region ?_
        refine JL.q (OpP.q (p_assign rfl)) ?_
        refine JL.nil ?_
        refine Js.ret (R := RV w (.bool (decide (a = b)))) @Try.results21 (fun _ _ => rfl) (ResOk.tmp rfl ResOk.nil) (fun w1 hw => ?_)
        refine ⟨?_, hw.ext (Up.refl _ _)⟩
        first | (rw [decide_eq_false hne]; rfl) | (rw [decide_eq_true (M.gam_ext q0 q1 q2 q3 q4)]; rfl)
      ·
        have h7' := h7
        try simp only [Bool.not_eq_false', decide_eq_true_eq] at h7'
        have q2 : a.moves = b.moves := by simpa using h7
        refine Js.skip ?_
        refine Js.seq ?_
        refine Js.seq ?_
        refine Js.region ?_
        refine JL.q (OpP.q (p_fieldAddr fld_35_3 rfl)) ?_
        refine JL.q (q_loadN ty_33 rfl (Mem.boxR (i := 1) rfl 13 3) rfl rfl) ?_
        refine JL.q (OpP.q (p_fieldAddr fld_35_3 rfl)) ?_
        refine JL.q (q_loadN ty_33 rfl (Mem.boxR (i := 0) rfl 13 3) rfl rfl) ?_
        refine JL.e (e_callV fn_53 rfl (fun w hw => c_laws_eqPosition a.now _ b.now _ w ⟨_, rfl, ⟨(Ty.mono _ h1_13 hw.vis), (Ty.mono _ h1_14 hw.vis), rfl, trivial⟩⟩ ⟨_, rfl, ⟨(Ty.mono _ h2_13 hw.vis), (Ty.mono _ h2_14 hw.vis), rfl, trivial⟩⟩ (by omega) (by omega) (by omega) (by omega))) ?_
        rintro _ _ _ ⟨rfl, rfl, rfl⟩ _
        refine JL.q (OpP.q (p_not rfl)) ?_
        refine JL.nil ?_
        refine Js.cond rfl (fun h8 => ?_) (fun h8 => ?_)
        ·
          have h8' := h8
          try simp only [Bool.not_eq_true', decide_eq_false_iff_not] at h8'
          have hne : a ≠ b := by rintro rfl; simp at h8
          refine Js.seq ?_
          refine Js.region ?_
          refine JL.q (OpP.q (p_assign rfl)) ?_
          refine JL.nil ?_
          refine Js.ret (R := RV w (.bool (decide (a = b)))) @Try.results21 (fun _ _ => rfl) (ResOk.tmp rfl ResOk.nil) (fun w1 hw => ?_)
          refine ⟨?_, hw.ext (Up.refl _ _)⟩
          first | (rw [decide_eq_false hne]; rfl) | (rw [decide_eq_true (M.gam_ext q0 q1 q2 q3 q4)]; rfl)
        ·
          have h8' := h8
          try simp only [Bool.not_eq_false', decide_eq_true_eq] at h8'
          have q3 : a.now = b.now := by simpa using h8
          refine Js.skip ?_
          refine Js.seq ?_
          refine Js.seq ?_
          refine Js.region ?_
          refine JL.q (OpP.q (p_fieldAddr fld_35_4 rfl)) ?_
          refine JL.q (q_load1 ty_2 rfl (Mem.box (i := 1) rfl rfl)) ?_
          refine JL.q (OpP.q (p_fieldAddr fld_35_4 rfl)) ?_
          refine JL.q (q_load1 ty_2 rfl (Mem.box (i := 0) rfl rfl)) ?_
          refine JL.q (OpP.q (p_neq rfl rfl)) ?_
          refine JL.nil ?_
          refine Js.cond rfl (fun h9 => ?_) (fun h9 => ?_)
          ·
            have h9' := h9
            try simp only [Bool.not_eq_true', decide_eq_false_iff_not] at h9'
            have hne : a ≠ b := by rintro rfl; simp at h9
            refine Js.seq ?_
            refine Js.region ?_
            refine JL.q (OpP.q (p_assign rfl)) ?_
            refine JL.nil ?_
            refine Js.ret (R := RV w (.bool (decide (a = b)))) @Try.results21 (fun _ _ => rfl) (ResOk.tmp rfl ResOk.nil) (fun w1 hw => ?_)
            refine ⟨?_, hw.ext (Up.refl _ _)⟩
            first | (rw [decide_eq_false hne]; rfl) | (rw [decide_eq_true (M.gam_ext q0 q1 q2 q3 q4)]; rfl)
          ·
            have h9' := h9
            try simp only [Bool.not_eq_false', decide_eq_true_eq] at h9'
            have q4 : a.resigned = b.resigned := by simpa using h9
            refine Js.skip ?_
            refine Js.seq ?_
            refine Js.region ?_
            refine JL.q (OpP.q (p_assign rfl)) ?_
            refine JL.nil ?_
            refine Js.ret (R := RV w (.bool (decide (a = b)))) @Try.results21 (fun _ _ => rfl) (ResOk.tmp rfl ResOk.nil) (fun w1 hw => ?_)
            refine ⟨?_, hw.ext (Up.refl _ _)⟩
            first | (rw [decide_eq_false hne]; rfl) | (rw [decide_eq_true (M.gam_ext q0 q1 q2 q3 q4)]; rfl)

end Go.Proofs.Ytejnmechnhgmfaa

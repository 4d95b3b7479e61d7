/- Walks: G1. -/
import Derived.Test.YtejnmechnhgmfaaZaTy
set_option linter.unusedSimpArgs false
set_option linter.unusedVariables false
namespace Go.Proofs.Ytejnmechnhgmfaa
open Go.RowKit

set_option maxRecDepth 100000 in
set_option maxHeartbeats 400000 in
theorem c_impl_between (n : Int) (low : Int) (high : Int) (w : World)  : RetV Try.prog 100 [.int .i64 n, .int .i64 low, .int .i64 high] w (.bool (M.betw n low high)) := by
  refine enter @Try.func100 @Try.ntmps100 rfl rfl ?_
  refine Js.seq ?_
  refine Js.region ?_
  refine JL.q (OpP.q (p_assign rfl)) ?_
  refine JL.nil ?_
  refine Js.seq ?_
  refine Js.region ?_
  refine JL.q (OpP.q (p_move rfl)) ?_
  refine JL.q (OpP.q (p_move rfl)) ?_
  refine JL.q (OpP.q (p_geq rfl rfl)) ?_
  refine JL.q (OpP.q (p_move rfl)) ?_
  refine JL.g (Gd.t1 rfl rfl rfl) (fun hc => OpP.q (p_move rfl)) ?_
  refine JL.g (Gd.t1 rfl rfl rfl) (fun hc => OpP.q (p_move rfl)) ?_
  refine JL.g (Gd.t1 rfl rfl rfl) (fun hc => OpP.q (p_leq (gvt rfl hc) (gvt rfl hc))) ?_
  refine JL.q (OpP.q (p_pickAnd rfl rfl rfl)) ?_
  refine JL.q (OpP.q (p_assign rfl)) ?_
  refine JL.nil ?_
  refine Js.ret (R := RV w (.bool (M.betw n low high))) @Try.results100 (fun _ _ => rfl) (ResOk.tmp rfl ResOk.nil) (fun w1 hw => ?_)
  refine ⟨?_, hw.ext (Up.refl _ _)⟩
  simp [outV, M.betw, Bool.and_comm]

set_option maxRecDepth 100000 in
set_option maxHeartbeats 400000 in
theorem c_impl_isPlayer (player : Int) (w : World)  : RetV Try.prog 78 [.int .i64 player] w (.bool (M.isPl player)) := by
  refine enter @Try.func78 @Try.ntmps78 rfl rfl ?_
  refine Js.seq ?_
  refine Js.region ?_
  refine JL.q (OpP.q (p_assign rfl)) ?_
  refine JL.nil ?_
  refine Js.seq ?_
  refine Js.region ?_
  refine JL.q (OpP.q (p_move rfl)) ?_
  refine JL.q (OpP.q (p_eql rfl rfl)) ?_
  refine JL.q (OpP.q (p_move rfl)) ?_
  refine JL.g (Gd.f1 rfl rfl rfl) (fun hc => OpP.q (p_move rfl)) ?_
  refine JL.g (Gd.f1 rfl rfl rfl) (fun hc => OpP.q (p_eql (gvt rfl hc) rfl)) ?_
  refine JL.q (OpP.q (p_pickOr rfl rfl rfl)) ?_
  refine JL.q (OpP.q (p_assign rfl)) ?_
  refine JL.nil ?_
  refine Js.ret (R := RV w (.bool (M.isPl player))) @Try.results78 (fun _ _ => rfl) (ResOk.tmp rfl ResOk.nil) (fun w1 hw => ?_)
  refine ⟨?_, hw.ext (Up.refl _ _)⟩
  simp [outV, M.isPl]

set_option maxRecDepth 100000 in
set_option maxHeartbeats 400000 in
theorem c_impl_ValidRules (r : M.Rul) (v_r : Value) (w : World) (h_r : (Ty.agg (cRules r)).ok w v_r) : RetV Try.prog 120 [v_r] w (.bool (M.okR r)) := by
  obtain rfl := open_Rules h_r
  refine enter @Try.func120 @Try.ntmps120 rfl rfl ?_
  refine Js.seq ?_
  refine Js.region ?_
  refine JL.e (e_box (c := [.int .i64 r.pits, .int .i64 r.seeds, .bool r.stores, .bool r.skip, .bool r.relay, .bool r.feed, .bool r.again, .int .i64 r.capture, .int .i64 r.slam]) rfl rfl) ?_
  rintro _ _ _ ⟨b2, rfl, rfl, rfl⟩ _
  refine JL.q (OpP.q (p_assign rfl)) ?_
  refine JL.nil ?_
  refine Js.seq ?_
  refine Js.region ?_
  refine JL.q (OpP.q (p_fieldAddr fld_32_0 rfl)) ?_
  refine JL.q (q_load1 ty_2 rfl (Mem.box (i := 0) rfl rfl)) ?_
  refine JL.e (e_callV fn_100 rfl (fun w hw => c_impl_between r.pits 2 8 w)) ?_
  rintro _ _ _ ⟨rfl, rfl, rfl⟩ _
  refine JL.q (OpP.q (p_move rfl)) ?_
  refine JL.g (Gd.t1 rfl rfl rfl) (fun hc => OpP.q (p_fieldAddr fld_32_1 rfl)) ?_
  refine JL.g (Gd.t1 rfl rfl rfl) (fun hc => q_load1 ty_2 (gvt rfl hc) (Mem.box (i := 0) rfl rfl)) ?_
  refine JL.ge (Gd.t1 rfl rfl rfl) (fun hc => e_callV fn_100 (opds_3 (gvt rfl hc) rfl rfl) (fun w hw => c_impl_between r.seeds 1 6 w)) ?_
  refine JL.q (OpP.q (p_pickAnd rfl rfl rfl)) ?_
  refine JL.q (OpP.q (p_move rfl)) ?_
  refine JL.g (Gd.t1 rfl rfl rfl) (fun hc => OpP.q (p_fieldAddr fld_32_7 rfl)) ?_
  refine JL.g (Gd.t1 rfl rfl rfl) (fun hc => q_load1 ty_2 (gvt rfl hc) (Mem.box (i := 0) rfl rfl)) ?_
  refine JL.ge (Gd.t1 rfl rfl rfl) (fun hc => e_callV fn_100 (opds_3 (gvt rfl hc) rfl rfl) (fun w hw => c_impl_between r.capture 0 3 w)) ?_
  refine JL.q (OpP.q (p_pickAnd rfl rfl rfl)) ?_
  refine JL.q (OpP.q (p_move rfl)) ?_
  refine JL.g (Gd.t1 rfl rfl rfl) (fun hc => OpP.q (p_fieldAddr fld_32_8 rfl)) ?_
  refine JL.g (Gd.t1 rfl rfl rfl) (fun hc => q_load1 ty_2 (gvt rfl hc) (Mem.box (i := 0) rfl rfl)) ?_
  refine JL.ge (Gd.t1 rfl rfl rfl) (fun hc => e_callV fn_100 (opds_3 (gvt rfl hc) rfl rfl) (fun w hw => c_impl_between r.slam 0 2 w)) ?_
  refine JL.q (OpP.q (p_pickAnd rfl rfl rfl)) ?_
  refine JL.q (OpP.q (p_move rfl)) ?_
  refine JL.g (Gd.t1 rfl rfl rfl) (fun hc => OpP.q (p_fieldAddr fld_32_2 rfl)) ?_
  refine JL.g (Gd.t1 rfl rfl rfl) (fun hc => q_load1 ty_4 (gvt rfl hc) (Mem.box (i := 0) rfl rfl)) ?_
  refine JL.g (Gd.t1 rfl rfl rfl) (fun hc => OpP.q (p_move (gvt rfl hc))) ?_
  refine JL.g (Gd.f2 rfl rfl rfl) (fun hc => OpP.q (p_fieldAddr fld_32_6 rfl)) ?_
  refine JL.g (Gd.f2 rfl rfl rfl) (fun hc => q_load1 ty_4 (gvt rfl hc) (Mem.box (i := 0) rfl rfl)) ?_
  refine JL.g (Gd.f2 rfl rfl rfl) (fun hc => OpP.q (p_not (gvt rfl hc))) ?_
  refine JL.g (Gd.t1 rfl rfl rfl) (fun hc => OpP.q (p_pickOr (gvt rfl hc) rfl (gvl rfl hc))) ?_
  refine JL.q (OpP.q (p_pickAnd rfl rfl rfl)) ?_
  refine JL.q (OpP.q (p_assign rfl)) ?_
  refine JL.nil ?_
  refine Js.ret (R := RV w (.bool (M.okR r))) @Try.results120 (fun _ _ => rfl) (ResOk.tmp rfl ResOk.nil) (fun w1 hw => ?_)
  refine ⟨?_, hw.ext (Up.refl _ _)⟩
  simp [outV, M.okR, Bool.and_assoc]

set_option maxRecDepth 100000 in
set_option maxHeartbeats 400000 in
theorem c_impl_sumOf (list : List Int) (v_list : Value) (w : World) (h_list : (Ty.ints 2 list).ok w v_list) (r0 : list.length ≤ 4194304) : RetV Try.prog 121 [v_list] w (.tuple #[.int .i64 (M.sumV list), .bool (M.allOk list)]) := by
  obtain ⟨A1, c1, rfl, bl1, bh1⟩ := sl_form h_list
  refine enter @Try.func121 @Try.ntmps121 rfl rfl ?_
  refine Js.seq ?_
  refine Js.region ?_
  refine JL.q (OpP.q (p_assign rfl)) ?_
  refine JL.q (OpP.q (p_assign rfl)) ?_
  refine JL.nil ?_
  refine Js.seq ?_
  refine Js.region ?_
  refine JL.q (OpP.q (p_assign rfl)) ?_
  refine JL.nil ?_
  refine Js.seq ?_
  refine Js.seq ?_
  refine Js.region ?_
  refine JL.q (OpP.q (p_move rfl)) ?_
  refine JL.q (OpP.q (p_len el_24 rfl)) ?_
  refine JL.q (OpP.q (p_move rfl)) ?_
  refine JL.nil ?_
  refine Js.block ?_
  refine Js.loop (fun l os u m => ∃ (k : Nat) (t : Int), l = [(4, .int .i64 t), (7, .slice A1 list.length c1), (8, .int .i64 (list.length : Int)), (9, .int .i64 (k : Int))] ∧ os = [] ∧ Up w.heap.size w u ∧ (k ≤ list.length) ∧ (0 ≤ t) ∧ (t ≤ 96 * k) ∧ (M.sumFrom t (list.drop k) = M.sumFrom 0 list) ∧ m = list.length - k) ⟨0, 0, rfl, rfl, Up.refl _ _, by first | assumption | omega | rfl | (simp; done), by first | assumption | omega | rfl | (simp; done), by first | assumption | omega | rfl | (simp; done), by first | assumption | omega | rfl | (simp; done), rfl⟩ ⟨rfl, rfl, rfl, rfl, trivial⟩ ?_
  · rintro _ _ u2 _ ⟨k, t, rfl, rfl, x2, hk, t0, t9, hS, rfl⟩
    refine Js.seq ?_
    refine Js.region ?_
    refine JL.q (OpP.q (p_lss rfl rfl)) ?_
    refine JL.nil ?_
    refine Js.seq ?_
    refine Js.cond rfl (fun h3 => ?_) (fun h3 => ?_)
    ·
      have h3' := h3
      try simp only [decide_eq_true_eq] at h3'
      refine Js.skip ?_
      refine Js.seq ?_
      refine Js.block ?_
      refine Js.seq ?_
      refine Js.region ?_
      obtain ⟨b4, o4, he4, hc4⟩ := ints_elem (Ty.mono _ h_list x2.vis) (i := k) (by omega)
      refine JL.q (OpP.q (p_indexAddr el_24 rfl rfl (by omega) (by omega) he4)) ?_
      refine JL.q (q_load1 ty_2 rfl (Mem.pub hc4)) ?_
      refine JL.q (OpP.q (p_assign rfl)) ?_
      refine JL.nil ?_
      refine Js.seq ?_
      refine Js.seq ?_
      refine Js.region ?_
      refine JL.q (OpP.q (p_move rfl)) ?_
      refine JL.e (e_callV fn_100 rfl (fun w hw => c_impl_between (M.nth list k) 0 96 w)) ?_
      rintro _ _ _ ⟨rfl, rfl, rfl⟩ _
      refine JL.q (OpP.q (p_not rfl)) ?_
      refine JL.nil ?_
      refine Js.cond rfl (fun h5 => ?_) (fun h5 => ?_)
      ·
        have h5' := h5
        try simp only [Bool.not_eq_true'] at h5'
        have e1 : M.allOk list = false := by rw [M.sumFrom_step (by omega), if_neg (by simpa using h5)] at hS; exact M.sumFrom_none hS.symm
        refine Js.seq ?_
        refine Js.region ?_
        refine JL.q (OpP.q (p_assign rfl)) ?_
        refine JL.q (OpP.q (p_assign rfl)) ?_
        refine JL.nil ?_
        refine Js.ret (R := RV w (.tuple #[.int .i64 (M.sumV list), .bool (M.allOk list)])) @Try.results121 (fun _ _ => rfl) (ResOk.tmp rfl (ResOk.tmp rfl ResOk.nil)) (fun w1 hw => ?_)
        refine ⟨?_, hw.ext (x2)⟩
        simp_all [outV, M.sumV]
      ·
        have h5' := h5
        try simp only [Bool.not_eq_false'] at h5'
        have hb : M.betw (M.nth list k) 0 96 = true := by simpa using h5
        obtain ⟨hb0, hb1⟩ := M.betw_iff.1 hb
        refine Js.skip ?_
        refine Js.region ?_
        refine JL.q (OpP.q (p_move rfl)) ?_
        refine JL.q (OpP.q (p_move rfl)) ?_
        refine JL.q (OpP.q (p_add rfl rfl (IntWalk.i64_in _ (by omega)))) ?_
        refine JL.q (OpP.q (p_assign rfl)) ?_
        refine JL.nil ?_
        refine Js.blockEnd ?_
        refine Js.region ?_
        refine JL.q (OpP.q (p_add rfl rfl (IntWalk.i64_in _ (by omega)))) ?_
        refine JL.q (OpP.q (p_move rfl)) ?_
        refine JL.nil ?_
        exact Js.again ⟨k + 1, t + (M.nth list k), rfl, rfl, x2, by first | assumption | omega | rfl | (simp; done), by first | assumption | omega | rfl | (simp; done), by first | assumption | omega | rfl | (simp; done), by rw [M.sumFrom_step (by omega), if_pos hb] at hS; exact hS, rfl⟩ (by omega) ⟨rfl, rfl, rfl, rfl, trivial⟩
    ·
      have h3' := h3
      try simp only [decide_eq_false_iff_not, Int.not_lt] at h3'
      obtain ⟨e1, e2⟩ := M.sumFrom_some (by rw [← hS]; exact M.sumFrom_end (by omega))
      refine Js.exit (fun _ _ => rfl) ?_
      refine Js.seq ?_
      refine Js.region ?_
      refine JL.q (OpP.q (p_move rfl)) ?_
      refine JL.q (OpP.q (p_assign rfl)) ?_
      refine JL.q (OpP.q (p_assign rfl)) ?_
      refine JL.nil ?_
      refine Js.ret (R := RV w (.tuple #[.int .i64 (M.sumV list), .bool (M.allOk list)])) @Try.results121 (fun _ _ => rfl) (ResOk.tmp rfl (ResOk.tmp rfl ResOk.nil)) (fun w1 hw => ?_)
      refine ⟨?_, hw.ext (x2)⟩
      simp_all [outV, M.sumV]

set_option maxRecDepth 100000 in
set_option maxHeartbeats 400000 in
theorem c_impl_sameNumbers (a : List Int) (v_a : Value) (b : List Int) (v_b : Value) (w : World) (h_a : (Ty.ints 2 a).ok w v_a) (h_b : (Ty.ints 2 b).ok w v_b) (r0 : a.length ≤ 4194304) (r1 : b.length ≤ 4194304) : RetV Try.prog 122 [v_a, v_b] w (.bool (decide (a = b))) := by
  obtain ⟨A1, c1, rfl, bl1, bh1⟩ := sl_form h_a
  obtain ⟨A2, c2, rfl, bl2, bh2⟩ := sl_form h_b
  refine enter @Try.func122 @Try.ntmps122 rfl rfl ?_
  refine Js.seq ?_
  refine Js.region ?_
  refine JL.q (OpP.q (p_assign rfl)) ?_
  refine JL.nil ?_
  refine Js.seq ?_
  refine Js.seq ?_
  refine Js.region ?_
  refine JL.q (OpP.q (p_move rfl)) ?_
  refine JL.q (OpP.q (p_len el_24 rfl)) ?_
  refine JL.q (OpP.q (p_move rfl)) ?_
  refine JL.q (OpP.q (p_len el_24 rfl)) ?_
  refine JL.q (OpP.q (p_neq rfl rfl)) ?_
  refine JL.nil ?_
  refine Js.cond rfl (fun h3 => ?_) (fun h3 => ?_)
  ·
    have h3' := h3
    try simp only [Bool.not_eq_true', decide_eq_false_iff_not] at h3'
    have e1 : decide (a = b) = false := by simp; rintro rfl; simp at h3
    refine Js.seq ?_
    refine Js.region ?_
    refine JL.q (OpP.q (p_assign rfl)) ?_
    refine JL.nil ?_
    refine Js.ret (R := RV w (.bool (decide (a = b)))) @Try.results122 (fun _ _ => rfl) (ResOk.tmp rfl ResOk.nil) (fun w1 hw => ?_)
    refine ⟨?_, hw.ext (Up.refl _ _)⟩
    simp [outV, e1]
  ·
    have h3' := h3
    try simp only [Bool.not_eq_false', decide_eq_true_eq] at h3'
    have hlen : a.length = b.length := by have := h3'; omega
    refine Js.skip ?_
    refine Js.seq ?_
    refine Js.seq ?_
    refine Js.region ?_
    refine JL.q (OpP.q (p_move rfl)) ?_
    refine JL.q (OpP.q (p_len el_24 rfl)) ?_
    refine JL.q (OpP.q (p_move rfl)) ?_
    refine JL.nil ?_
    refine Js.block ?_
    refine Js.loop (fun l os u m => ∃ (k : Nat), l = [(0, .slice A1 a.length c1), (1, .slice A2 b.length c2), (12, .int .i64 (a.length : Int)), (13, .int .i64 (k : Int))] ∧ os = [] ∧ Up w.heap.size w u ∧ (k ≤ a.length) ∧ (M.Upto a b k) ∧ m = a.length - k) ⟨0, rfl, rfl, Up.refl _ _, by first | assumption | omega | rfl | (simp; done), by exact M.Upto.zero _ _, rfl⟩ ⟨rfl, rfl, rfl, rfl, trivial⟩ ?_
    · rintro _ _ u4 _ ⟨k, rfl, rfl, x4, hk, hU, rfl⟩
      refine Js.seq ?_
      refine Js.region ?_
      refine JL.q (OpP.q (p_lss rfl rfl)) ?_
      refine JL.nil ?_
      refine Js.seq ?_
      refine Js.cond rfl (fun h5 => ?_) (fun h5 => ?_)
      ·
        have h5' := h5
        try simp only [decide_eq_true_eq] at h5'
        refine Js.skip ?_
        refine Js.seq ?_
        refine Js.block ?_
        refine Js.seq ?_
        refine Js.region ?_
        refine JL.q (OpP.q (p_move rfl)) ?_
        refine JL.q (OpP.q (p_assign rfl)) ?_
        refine JL.nil ?_
        refine Js.seq ?_
        refine Js.drawn _ [] mixed_ (fun _ h => h) ?_
        refine JH.p 0 rfl (p_move rfl) ?_
        refine JH.p 1 rfl (p_move rfl) ?_
        obtain ⟨b6, o6, he6, hc6⟩ := ints_elem (Ty.mono _ h_a x4.vis) (i := k) (by omega)
        refine JH.p 2 rfl (p_indexAddr el_24 rfl rfl (by omega) (by omega) he6) ?_
        refine JH.w 3 rfl (fun os' u' hv => q_load1 ty_2 rfl (Mem.pub (hc6.vis hv))) ?_
        refine JH.p 4 rfl (p_move rfl) ?_
        refine JH.p 5 rfl (p_move rfl) ?_
        obtain ⟨b7, o7, he7, hc7⟩ := ints_elem (Ty.mono _ h_b x4.vis) (i := k) (by omega)
        refine JH.p 6 rfl (p_indexAddr el_24 rfl rfl (by omega) (by omega) he7) ?_
        refine JH.w 7 rfl (fun os' u' hv => q_load1 ty_2 rfl (Mem.pub (hc7.vis hv))) ?_
        refine JH.p 8 rfl (p_neq rfl rfl) ?_
        refine JH.done (by kernel_rfl) ?_
        refine Js.cond rfl (fun h8 => ?_) (fun h8 => ?_)
        ·
          have h8' := h8
          try simp only [Bool.not_eq_true', decide_eq_false_iff_not] at h8'
          have e1 : decide (a = b) = false := by simpa using M.ne_of_nth (a := a) (b := b) (k := k) (by simpa using h8)
          refine Js.seq ?_
          refine Js.region ?_
          refine JL.q (OpP.q (p_assign rfl)) ?_
          refine JL.nil ?_
          refine Js.ret (R := RV w (.bool (decide (a = b)))) @Try.results122 (fun _ _ => rfl) (ResOk.tmp rfl ResOk.nil) (fun w1 hw => ?_)
          refine ⟨?_, hw.ext (x4)⟩
          simp [outV, e1]
        ·
          have h8' := h8
          try simp only [Bool.not_eq_false', decide_eq_true_eq] at h8'
          have hab : M.nth a k = M.nth b k := by simpa using h8
          refine Js.skip ?_
          refine Js.blockEnd ?_
          refine Js.region ?_
          refine JL.q (OpP.q (p_add rfl rfl (IntWalk.i64_in _ (by omega)))) ?_
          refine JL.q (OpP.q (p_move rfl)) ?_
          refine JL.nil ?_
          exact Js.again ⟨k + 1, rfl, rfl, x4, by first | assumption | omega | rfl | (simp; done), by exact hU.step (by omega) (by omega) hab, rfl⟩ (by omega) ⟨rfl, rfl, rfl, rfl, trivial⟩
      ·
        have h5' := h5
        try simp only [decide_eq_false_iff_not, Int.not_lt] at h5'
        have e1 : a = b := hU.done (by omega) (by omega)
        refine Js.exit (fun _ _ => rfl) ?_
        refine Js.seq ?_
        refine Js.region ?_
        refine JL.q (OpP.q (p_assign rfl)) ?_
        refine JL.nil ?_
        refine Js.ret (R := RV w (.bool (decide (a = b)))) @Try.results122 (fun _ _ => rfl) (ResOk.tmp rfl ResOk.nil) (fun w1 hw => ?_)
        refine ⟨?_, hw.ext (x4)⟩
        simp [outV, e1]

set_option maxRecDepth 100000 in
set_option maxHeartbeats 400000 in
theorem c_impl_copyNumbers (list : List Int) (v_list : Value) (w : World) (h_list : (Ty.ints 2 list).ok w v_list) (r0 : list.length ≤ 4194304) : Ret Try.prog 106 [v_list] w (Ty.ints 2 list) := by
  obtain ⟨A1, c1, rfl, bl1, bh1⟩ := sl_form h_list
  refine enter @Try.func106 @Try.ntmps106 rfl rfl ?_
  refine Js.seq ?_
  refine Js.region ?_
  refine JL.q (OpP.q (p_assign rfl)) ?_
  refine JL.nil ?_
  refine Js.seq ?_
  refine Js.region ?_
  refine JL.e (e_buildSlice (vs := []) el_24 rfl rfl rfl rfl rfl rfl) ?_
  rintro _ _ _ ⟨b2, rfl, rfl, hl3, rfl⟩ _
  refine JL.q (OpP.q (p_move rfl)) ?_
  refine JL.e (e_append (i := 0) (n' := list.length) (vs' := ints_ list) el_24 rfl rfl rfl rfl (src_ints und_24 h_list) (by omega) (by omega) (by first | omega | (simp only [List.length_append, List.length_cons, List.length_nil] <;> omega)) (by simp [ints_])) ?_
  rintro v4 _ _ ⟨⟨g5, rfl⟩, rfl⟩ _
  refine JL.fact (row_form' (i := 0) rfl) (fun hf6 => ?_)
  obtain ⟨A6, c6, rfl, bl6, bh6⟩ := hf6
  refine JL.q (OpP.q (p_assign rfl)) ?_
  refine JL.nil ?_
  refine Js.ret (R := RO w (Ty.ints 2 list)) @Try.results106 (fun _ _ => rfl) (ResOk.tmp rfl ResOk.nil) (fun w1 hw => ?_)
  have hx := hw.ext (Up.refl _ _)
  exact ret_own (ps := [(0, (Value.ownBlock (.slice A6 list.length c6)).toList)]) hw hx (ints_row (xs := list) (hw.pr (i := 0) rfl) rfl) (Pick.cons (j := 0) rfl (List.sublist_append_left _ _) rfl Pick.nil) (by simp [List.flatten, outV])

set_option maxRecDepth 100000 in
set_option maxHeartbeats 400000 in
theorem c_impl_Position_copied (p : M.Pos) (v_p : Value) (w : World) (h_p : (Ty.agg (cPosition p)).ok w v_p) (r0 : p.pits.length ≤ 4194304) (r1 : p.stores.length ≤ 4194304) : Ret Try.prog 104 [v_p] w (Ty.agg (cPosition p)) := by
  obtain ⟨A1_0, c1_0, A1_1, c1_1, rfl, h1_0, h1_1, bl1_0, bh1_0, bl1_1, bh1_1⟩ := open_Position h_p
  refine enter @Try.func104 @Try.ntmps104 rfl rfl ?_
  refine Js.seq ?_
  refine Js.region ?_
  refine JL.e (e_box (c := [.slice A1_0 p.pits.length c1_0, .slice A1_1 p.stores.length c1_1, .int .i64 p.player]) rfl rfl) ?_
  rintro _ _ _ ⟨b2, rfl, rfl, rfl⟩ _
  refine JL.e (e_alloc zero_33) ?_
  rintro _ _ _ ⟨b3, rfl, rfl, rfl⟩ _
  refine JL.nil ?_
  refine Js.seq ?_
  refine Js.drawn _ [9] mixed_ (fun _ h => h) ?_
  refine JH.p 0 rfl (p_fieldAddr fld_33_0 rfl) ?_
  refine JH.q 1 rfl (q_load1 ty_24 rfl (Mem.box (i := 1) rfl rfl)) ?_
  refine JH.p 3 rfl (p_fieldAddr fld_33_1 rfl) ?_
  refine JH.q 4 rfl (q_load1 ty_24 rfl (Mem.box (i := 1) rfl rfl)) ?_
  refine JH.p 6 rfl (p_fieldAddr fld_33_2 rfl) ?_
  refine JH.q 7 rfl (q_load1 ty_2 rfl (Mem.box (i := 1) rfl rfl)) ?_
  refine JH.one (i := 2) (by kernel_rfl) ?_
  refine JHo.e rfl (e_callO fn_106 rfl (Spl.ints _ _) (fun w hw => c_impl_copyNumbers p.pits _ w (Ty.mono _ h1_0 hw.vis) (by omega))) (.inl rfl) ?_
  rintro v4 _ _ ⟨_, hR5, rfl, rfl⟩ _
  obtain ⟨A6, c6, rfl, rfl, bl6, bh6⟩ := hR5
  refine JH.one (i := 5) (by kernel_rfl) ?_
  refine JHo.e rfl (e_callO fn_106 rfl (Spl.ints _ _) (fun w hw => c_impl_copyNumbers p.stores _ w (Ty.mono _ h1_1 hw.vis) (by omega))) (.inl rfl) ?_
  rintro v7 _ _ ⟨_, hR8, rfl, rfl⟩ _
  obtain ⟨A9, c9, rfl, rfl, bl9, bh9⟩ := hR8
  refine JH.p 8 rfl (p_build zero_33 flds_33 rfl rfl) ?_
  refine JH.one (i := 9) (by kernel_rfl) ?_
  refine JHo.s rfl (e_store (i := 2) (c' := [.slice A6 p.pits.length c6, .slice A9 p.stores.length c9, .int .i64 p.player]) ty_33 rfl rfl rfl rfl rfl rfl rfl rfl) (.inr rfl) ?_
  rintro _ _ _ ⟨rfl, rfl⟩ _
  refine JH.done (by kernel_rfl) ?_
  refine Js.ret (R := RO w (Ty.agg (cPosition p))) @Try.results104 (fun _ _ => rfl) (ResOk.cell (res_box (i := 2) ty_33 rfl rfl rfl rfl rfl) ResOk.nil) (fun w1 hw => ?_)
  have hx := hw.ext (Up.refl _ _)
  exact ret_own (ps := [(1, (Value.ownBlock (.slice A6 p.pits.length c6)).toList), (0, (Value.ownBlock (.slice A9 p.stores.length c9)).toList)]) hw hx ⟨_, rfl, ⟨_, _, rfl, (ints_row (xs := p.pits) (hw.pr (i := 1) rfl) rfl), ⟨_, _, rfl, (ints_row (xs := p.stores) (hw.pr (i := 0) rfl) rfl), ⟨_, _, rfl, ⟨rfl, rfl⟩, rfl⟩⟩⟩⟩ (Pick.cons (j := 1) rfl (List.sublist_append_left _ _) rfl (Pick.cons (j := 0) rfl (List.sublist_append_left _ _) rfl Pick.nil)) (by simp [List.flatten, outV])

set_option maxRecDepth 100000 in
set_option maxHeartbeats 400000 in
theorem c_impl_Position_all (p : M.Pos) (v_p : Value) (w : World) (h_p : (Ty.agg (cPosition p)).ok w v_p) (r0 : p.pits.length ≤ 4194304) (r1 : p.stores.length ≤ 4194304) : RetV Try.prog 133 [v_p] w (.int .i64 (M.sumV p.pits + M.sumV p.stores)) := by
  have b1 := M.sumV_bd p.pits
  have b2 := M.sumV_bd p.stores
  obtain ⟨A1_0, c1_0, A1_1, c1_1, rfl, h1_0, h1_1, bl1_0, bh1_0, bl1_1, bh1_1⟩ := open_Position h_p
  refine enter @Try.func133 @Try.ntmps133 rfl rfl ?_
  refine Js.seq ?_
  refine Js.region ?_
  refine JL.e (e_box (c := [.slice A1_0 p.pits.length c1_0, .slice A1_1 p.stores.length c1_1, .int .i64 p.player]) rfl rfl) ?_
  rintro _ _ _ ⟨b2, rfl, rfl, rfl⟩ _
  refine JL.q (OpP.q (p_assign rfl)) ?_
  refine JL.nil ?_
  refine Js.seq ?_
  refine Js.region ?_
  refine JL.q (OpP.q (p_fieldAddr fld_33_0 rfl)) ?_
  refine JL.q (q_load1 ty_24 rfl (Mem.box (i := 0) rfl rfl)) ?_
  refine JL.e (e_callV fn_121 rfl (fun w hw => c_impl_sumOf p.pits _ w (Ty.mono _ h1_0 hw.vis) (by omega))) ?_
  rintro _ _ _ ⟨rfl, rfl, rfl⟩ _
  refine JL.q (OpP.q (p_move rfl)) ?_
  refine JL.q (OpP.q (p_extract rfl rfl)) ?_
  refine JL.q (OpP.q (p_extract rfl rfl)) ?_
  refine JL.q (OpP.q (p_assign rfl)) ?_
  refine JL.q (OpP.q (p_assign rfl)) ?_
  refine JL.nil ?_
  refine Js.seq ?_
  refine Js.region ?_
  refine JL.q (OpP.q (p_fieldAddr fld_33_1 rfl)) ?_
  refine JL.q (q_load1 ty_24 rfl (Mem.box (i := 0) rfl rfl)) ?_
  refine JL.e (e_callV fn_121 rfl (fun w hw => c_impl_sumOf p.stores _ w (Ty.mono _ h1_1 hw.vis) (by omega))) ?_
  rintro _ _ _ ⟨rfl, rfl, rfl⟩ _
  refine JL.q (OpP.q (p_move rfl)) ?_
  refine JL.q (OpP.q (p_extract rfl rfl)) ?_
  refine JL.q (OpP.q (p_extract rfl rfl)) ?_
  refine JL.q (OpP.q (p_assign rfl)) ?_
  refine JL.q (OpP.q (p_assign rfl)) ?_
  refine JL.nil ?_
  refine Js.seq ?_
  refine Js.region ?_
  refine JL.q (OpP.q (p_move rfl)) ?_
  refine JL.q (OpP.q (p_move rfl)) ?_
  refine JL.q (OpP.q (p_add rfl rfl (IntWalk.i64_in _ (by omega)))) ?_
  refine JL.q (OpP.q (p_assign rfl)) ?_
  refine JL.nil ?_
  refine Js.ret (R := RV w (.int .i64 (M.sumV p.pits + M.sumV p.stores))) @Try.results133 (fun _ _ => rfl) (ResOk.tmp rfl ResOk.nil) (fun w1 hw => ?_)
  refine ⟨?_, hw.ext (Up.refl _ _)⟩
  first | rfl | (simp [outV]; done)

set_option maxRecDepth 100000 in
set_option maxHeartbeats 400000 in
theorem c_impl_Rules_isMove (r : M.Rul) (v_r : Value) (move : Int) (w : World) (h_r : (Ty.agg (cRules r)).ok w v_r) (r0 : 2 ≤ r.pits) (r1 : r.pits ≤ 8) : RetV Try.prog 162 [v_r, .int .i64 move] w (.bool (M.betw move 0 (r.pits - 1))) := by
  obtain rfl := open_Rules h_r
  refine enter @Try.func162 @Try.ntmps162 rfl rfl ?_
  refine Js.seq ?_
  refine Js.region ?_
  refine JL.e (e_box (c := [.int .i64 r.pits, .int .i64 r.seeds, .bool r.stores, .bool r.skip, .bool r.relay, .bool r.feed, .bool r.again, .int .i64 r.capture, .int .i64 r.slam]) rfl rfl) ?_
  rintro _ _ _ ⟨b2, rfl, rfl, rfl⟩ _
  refine JL.q (OpP.q (p_assign rfl)) ?_
  refine JL.nil ?_
  refine Js.seq ?_
  refine Js.region ?_
  refine JL.q (OpP.q (p_move rfl)) ?_
  refine JL.q (OpP.q (p_fieldAddr fld_32_0 rfl)) ?_
  refine JL.q (q_load1 ty_2 rfl (Mem.box (i := 0) rfl rfl)) ?_
  refine JL.q (OpP.q (p_sub rfl rfl (IntWalk.i64_in _ (by omega)))) ?_
  refine JL.e (e_callV fn_100 rfl (fun w hw => c_impl_between move 0 (r.pits - 1) w)) ?_
  rintro _ _ _ ⟨rfl, rfl, rfl⟩ _
  refine JL.q (OpP.q (p_assign rfl)) ?_
  refine JL.nil ?_
  refine Js.ret (R := RV w (.bool (M.betw move 0 (r.pits - 1)))) @Try.results162 (fun _ _ => rfl) (ResOk.tmp rfl ResOk.nil) (fun w1 hw => ?_)
  refine ⟨?_, hw.ext (Up.refl _ _)⟩
  first | rfl | (simp [outV]; done)

set_option maxRecDepth 100000 in
set_option maxHeartbeats 400000 in
theorem c_impl_Rules_pitOf (r : M.Rul) (v_r : Value) (player : Int) (move : Int) (w : World) (h_r : (Ty.agg (cRules r)).ok w v_r) (r0 : 2 ≤ r.pits) (r1 : r.pits ≤ 8) (r2 : player = 0 ∨ player = 1) (r3 : -1000 ≤ move) (r4 : move ≤ 1000) : RetV Try.prog 157 [v_r, .int .i64 player, .int .i64 move] w (.int .i64 (player * r.pits + move)) := by
  have hq := M.mul_bd r2 r0 r1
  obtain rfl := open_Rules h_r
  refine enter @Try.func157 @Try.ntmps157 rfl rfl ?_
  refine Js.seq ?_
  refine Js.region ?_
  refine JL.e (e_box (c := [.int .i64 r.pits, .int .i64 r.seeds, .bool r.stores, .bool r.skip, .bool r.relay, .bool r.feed, .bool r.again, .int .i64 r.capture, .int .i64 r.slam]) rfl rfl) ?_
  rintro _ _ _ ⟨b2, rfl, rfl, rfl⟩ _
  refine JL.q (OpP.q (p_assign rfl)) ?_
  refine JL.nil ?_
  refine Js.seq ?_
  refine Js.region ?_
  refine JL.q (OpP.q (p_move rfl)) ?_
  refine JL.q (OpP.q (p_fieldAddr fld_32_0 rfl)) ?_
  refine JL.q (q_load1 ty_2 rfl (Mem.box (i := 0) rfl rfl)) ?_
  refine JL.q (OpP.q (p_mul rfl rfl (IntWalk.i64_in _ (by omega)))) ?_
  refine JL.q (OpP.q (p_move rfl)) ?_
  refine JL.q (OpP.q (p_add rfl rfl (IntWalk.i64_in _ (by omega)))) ?_
  refine JL.q (OpP.q (p_assign rfl)) ?_
  refine JL.nil ?_
  refine Js.ret (R := RV w (.int .i64 (player * r.pits + move))) @Try.results157 (fun _ _ => rfl) (ResOk.tmp rfl ResOk.nil) (fun w1 hw => ?_)
  refine ⟨?_, hw.ext (Up.refl _ _)⟩
  first | rfl | (simp [outV]; done)

set_option maxRecDepth 100000 in
set_option maxHeartbeats 400000 in
theorem c_impl_Rules_owner (r : M.Rul) (v_r : Value) (pit : Int) (w : World) (h_r : (Ty.agg (cRules r)).ok w v_r) (r0 : 2 ≤ r.pits) (r1 : r.pits ≤ 8) (r2 : 0 ≤ pit) (r3 : pit ≤ 1000) : RetV Try.prog 160 [v_r, .int .i64 pit] w (.int .i64 (M.owner r pit)) := by
  obtain rfl := open_Rules h_r
  refine enter @Try.func160 @Try.ntmps160 rfl rfl ?_
  refine Js.seq ?_
  refine Js.region ?_
  refine JL.e (e_box (c := [.int .i64 r.pits, .int .i64 r.seeds, .bool r.stores, .bool r.skip, .bool r.relay, .bool r.feed, .bool r.again, .int .i64 r.capture, .int .i64 r.slam]) rfl rfl) ?_
  rintro _ _ _ ⟨b2, rfl, rfl, rfl⟩ _
  refine JL.q (OpP.q (p_assign rfl)) ?_
  refine JL.nil ?_
  refine Js.seq ?_
  refine Js.region ?_
  refine JL.q (OpP.q (p_move rfl)) ?_
  refine JL.q (OpP.q (p_fieldAddr fld_32_0 rfl)) ?_
  refine JL.q (q_load1 ty_2 rfl (Mem.box (i := 0) rfl rfl)) ?_
  refine JL.q (OpP.q (p_quo rfl rfl (by omega) (wrap_quo (by omega) (by omega) (by omega)))) ?_
  refine JL.q (OpP.q (p_assign rfl)) ?_
  refine JL.nil ?_
  refine Js.ret (R := RV w (.int .i64 (M.owner r pit))) @Try.results160 (fun _ _ => rfl) (ResOk.tmp rfl ResOk.nil) (fun w1 hw => ?_)
  refine ⟨?_, hw.ext (Up.refl _ _)⟩
  rfl

set_option maxRecDepth 100000 in
set_option maxHeartbeats 400000 in
theorem c_impl_Rules_opposite (r : M.Rul) (v_r : Value) (pit : Int) (w : World) (h_r : (Ty.agg (cRules r)).ok w v_r) (r0 : 2 ≤ r.pits) (r1 : r.pits ≤ 8) (r2 : 0 ≤ pit) (r3 : pit ≤ 1000) : RetV Try.prog 164 [v_r, .int .i64 pit] w (.int .i64 (M.opp r pit)) := by
  obtain rfl := open_Rules h_r
  refine enter @Try.func164 @Try.ntmps164 rfl rfl ?_
  refine Js.seq ?_
  refine Js.region ?_
  refine JL.e (e_box (c := [.int .i64 r.pits, .int .i64 r.seeds, .bool r.stores, .bool r.skip, .bool r.relay, .bool r.feed, .bool r.again, .int .i64 r.capture, .int .i64 r.slam]) rfl rfl) ?_
  rintro _ _ _ ⟨b2, rfl, rfl, rfl⟩ _
  refine JL.q (OpP.q (p_assign rfl)) ?_
  refine JL.nil ?_
  refine Js.seq ?_
  refine Js.region ?_
  refine JL.q (OpP.q (p_fieldAddr fld_32_0 rfl)) ?_
  refine JL.q (q_load1 ty_2 rfl (Mem.box (i := 0) rfl rfl)) ?_
  refine JL.q (OpP.q (p_mul rfl rfl (IntWalk.i64_in _ (by omega)))) ?_
  refine JL.q (OpP.q (p_sub rfl rfl (IntWalk.i64_in _ (by omega)))) ?_
  refine JL.q (OpP.q (p_move rfl)) ?_
  refine JL.q (OpP.q (p_sub rfl rfl (IntWalk.i64_in _ (by omega)))) ?_
  refine JL.q (OpP.q (p_assign rfl)) ?_
  refine JL.nil ?_
  refine Js.ret (R := RV w (.int .i64 (M.opp r pit))) @Try.results164 (fun _ _ => rfl) (ResOk.tmp rfl ResOk.nil) (fun w1 hw => ?_)
  refine ⟨?_, hw.ext (Up.refl _ _)⟩
  rfl

set_option maxRecDepth 100000 in
set_option maxHeartbeats 400000 in
theorem c_impl_Rules_after (r : M.Rul) (v_r : Value) (player : Int) (place : Int) (w : World) (h_r : (Ty.agg (cRules r)).ok w v_r) (r0 : 2 ≤ r.pits) (r1 : r.pits ≤ 8) (r2 : player = 0 ∨ player = 1) (r3 : -1 ≤ place) (r4 : place ≤ 1000) : RetV Try.prog 166 [v_r, .int .i64 player, .int .i64 place] w (.int .i64 (M.after r player place)) := by
  have hq := M.mul_bd r2 r0 r1
  have hr := Int.emod_nonneg (place + 1) (b := 2 * r.pits) (by omega)
  obtain rfl := open_Rules h_r
  refine enter @Try.func166 @Try.ntmps166 rfl rfl ?_
  refine Js.seq ?_
  refine Js.region ?_
  refine JL.e (e_box (c := [.int .i64 r.pits, .int .i64 r.seeds, .bool r.stores, .bool r.skip, .bool r.relay, .bool r.feed, .bool r.again, .int .i64 r.capture, .int .i64 r.slam]) rfl rfl) ?_
  rintro _ _ _ ⟨b2, rfl, rfl, rfl⟩ _
  refine JL.q (OpP.q (p_assign rfl)) ?_
  refine JL.nil ?_
  refine Js.seq ?_
  refine Js.region ?_
  refine JL.q (OpP.q (p_move rfl)) ?_
  refine JL.q (OpP.q (p_add rfl rfl (IntWalk.i64_in _ (by omega)))) ?_
  refine JL.q (OpP.q (p_fieldAddr fld_32_0 rfl)) ?_
  refine JL.q (q_load1 ty_2 rfl (Mem.box (i := 0) rfl rfl)) ?_
  refine JL.q (OpP.q (p_mul rfl rfl (IntWalk.i64_in _ (by omega)))) ?_
  refine JL.q (OpP.q (p_sub rfl rfl (IntWalk.i64_in _ (by omega)))) ?_
  refine JL.q (OpP.q (p_assign rfl)) ?_
  refine JL.nil ?_
  refine Js.seq ?_
  refine Js.block ?_
  refine Js.seq ?_
  refine Js.region ?_
  refine JL.q (OpP.q (p_move rfl)) ?_
  refine JL.q (OpP.q (p_move rfl)) ?_
  refine JL.q (OpP.q (p_eql rfl rfl)) ?_
  refine JL.q (OpP.q (p_move rfl)) ?_
  refine JL.g (Gd.t1 rfl rfl rfl) (fun hc => OpP.q (p_fieldAddr fld_32_2 rfl)) ?_
  refine JL.g (Gd.t1 rfl rfl rfl) (fun hc => q_load1 ty_4 (gvt rfl hc) (Mem.box (i := 0) rfl rfl)) ?_
  refine JL.q (OpP.q (p_pickAnd rfl rfl rfl)) ?_
  refine JL.q (OpP.q (p_assign rfl)) ?_
  refine JL.nil ?_
  refine Js.cond rfl (fun h3 => ?_) (fun h3 => ?_)
  ·
    have h3' := h3
    try simp only [Bool.and_eq_true, decide_eq_true_eq] at h3'
    refine Js.seq ?_
    refine Js.region ?_
    refine JL.q (OpP.q (p_assign rfl)) ?_
    refine JL.nil ?_
    refine Js.ret (R := RV w (.int .i64 (M.after r player place))) @Try.results166 (fun _ _ => rfl) (ResOk.tmp rfl ResOk.nil) (fun w1 hw => ?_)
    refine ⟨?_, hw.ext (Up.refl _ _)⟩
    simp_all [outV, M.after]
  ·
    have h3' := h3
    try simp only [Bool.and_eq_false_iff, decide_eq_false_iff_not] at h3'
    refine Js.seq ?_
    refine Js.region ?_
    refine JL.q (OpP.q (p_move rfl)) ?_
    refine JL.q (OpP.q (p_eql rfl rfl)) ?_
    refine JL.q (OpP.q (p_assign rfl)) ?_
    refine JL.nil ?_
    refine Js.cond rfl (fun h4 => ?_) (fun h4 => ?_)
    ·
      have h4' := h4
      try simp only [decide_eq_true_eq] at h4'
      refine Js.region ?_
      refine JL.q (OpP.q (p_move rfl)) ?_
      refine JL.q (OpP.q (p_assign rfl)) ?_
      refine JL.nil ?_
      refine Js.blockEnd ?_
      refine Js.seq ?_
      refine Js.region ?_
      refine JL.q (OpP.q (p_move rfl)) ?_
      refine JL.q (OpP.q (p_add rfl rfl (IntWalk.i64_in _ (by omega)))) ?_
      refine JL.q (OpP.q (p_fieldAddr fld_32_0 rfl)) ?_
      refine JL.q (q_load1 ty_2 rfl (Mem.box (i := 0) rfl rfl)) ?_
      refine JL.q (OpP.q (p_mul rfl rfl (IntWalk.i64_in _ (by omega)))) ?_
      refine JL.q (OpP.q (p_rem rfl rfl (by omega) (Int.tmod_eq_emod_of_nonneg (by omega)))) ?_
      refine JL.q (OpP.q (p_assign rfl)) ?_
      refine JL.nil ?_
      refine Js.ret (R := RV w (.int .i64 (M.after r player place))) @Try.results166 (fun _ _ => rfl) (ResOk.tmp rfl ResOk.nil) (fun w1 hw => ?_)
      refine ⟨?_, hw.ext (Up.refl _ _)⟩
      simp_all [outV, M.after]
    ·
      have h4' := h4
      try simp only [decide_eq_false_iff_not] at h4'
      refine Js.skip ?_
      refine Js.blockEnd ?_
      refine Js.seq ?_
      refine Js.region ?_
      refine JL.q (OpP.q (p_move rfl)) ?_
      refine JL.q (OpP.q (p_add rfl rfl (IntWalk.i64_in _ (by omega)))) ?_
      refine JL.q (OpP.q (p_fieldAddr fld_32_0 rfl)) ?_
      refine JL.q (q_load1 ty_2 rfl (Mem.box (i := 0) rfl rfl)) ?_
      refine JL.q (OpP.q (p_mul rfl rfl (IntWalk.i64_in _ (by omega)))) ?_
      refine JL.q (OpP.q (p_rem rfl rfl (by omega) (Int.tmod_eq_emod_of_nonneg (by omega)))) ?_
      refine JL.q (OpP.q (p_assign rfl)) ?_
      refine JL.nil ?_
      refine Js.ret (R := RV w (.int .i64 (M.after r player place))) @Try.results166 (fun _ _ => rfl) (ResOk.tmp rfl ResOk.nil) (fun w1 hw => ?_)
      refine ⟨?_, hw.ext (Up.refl _ _)⟩
      simp_all [outV, M.after]

set_option maxRecDepth 100000 in
set_option maxHeartbeats 400000 in
theorem c_impl_Rules_side (r : M.Rul) (v_r : Value) (pits : List Int) (v_pits : Value) (player : Int) (w : World) (h_r : (Ty.agg (cRules r)).ok w v_r) (h_pits : (Ty.ints 2 pits).ok w v_pits) (r0 : 2 ≤ r.pits) (r1 : r.pits ≤ 8) (r2 : player = 0 ∨ player = 1) (r3 : (pits.length : Int) = 2 * r.pits) (r4 : M.allOk pits = true) : RetV Try.prog 135 [v_r, v_pits, .int .i64 player] w (.int .i64 (M.side r pits player)) := by
  have hq := M.mul_bd r2 r0 r1
  have e1 : ((player + 1) * r.pits).toNat - (player * r.pits).toNat = r.pits.toNat := by omega
  obtain rfl := open_Rules h_r
  obtain ⟨A2, c2, rfl, bl2, bh2⟩ := sl_form h_pits
  refine enter @Try.func135 @Try.ntmps135 rfl rfl ?_
  refine Js.seq ?_
  refine Js.region ?_
  refine JL.e (e_box (c := [.int .i64 r.pits, .int .i64 r.seeds, .bool r.stores, .bool r.skip, .bool r.relay, .bool r.feed, .bool r.again, .int .i64 r.capture, .int .i64 r.slam]) rfl rfl) ?_
  rintro _ _ _ ⟨b3, rfl, rfl, rfl⟩ _
  refine JL.q (OpP.q (p_assign rfl)) ?_
  refine JL.nil ?_
  refine Js.seq ?_
  refine Js.region ?_
  refine JL.q (OpP.q (p_move rfl)) ?_
  refine JL.q (OpP.q (p_move rfl)) ?_
  refine JL.q (OpP.q (p_fieldAddr fld_32_0 rfl)) ?_
  refine JL.q (q_load1 ty_2 rfl (Mem.box (i := 0) rfl rfl)) ?_
  refine JL.q (OpP.q (p_mul rfl rfl (IntWalk.i64_in _ (by omega)))) ?_
  refine JL.q (OpP.q (p_move rfl)) ?_
  refine JL.q (OpP.q (p_add rfl rfl (IntWalk.i64_in _ (by omega)))) ?_
  refine JL.q (OpP.q (p_fieldAddr fld_32_0 rfl)) ?_
  refine JL.q (q_load1 ty_2 rfl (Mem.box (i := 0) rfl rfl)) ?_
  refine JL.q (OpP.q (p_mul rfl rfl (IntWalk.i64_in _ (by omega)))) ?_
  have hs4 := ints_cut (a := (player * r.pits).toNat) (b := ((player + 1) * r.pits).toNat) (m := c2) h_pits (by omega) (by omega) (by omega) (by omega)
  have hl4 : ((pits.drop ((player * r.pits).toNat)).take ((((player + 1) * r.pits).toNat) - ((player * r.pits).toNat))).length = (((player + 1) * r.pits).toNat) - ((player * r.pits).toNat) := by rw [List.length_take, List.length_drop]; omega
  refine JL.q (OpP.q (p_slice (lo' := (player * r.pits).toNat) (hi' := ((player + 1) * r.pits).toNat) (mx' := c2) el_24 rfl rfl ⟨_, by rw [Int.toNat_of_nonneg (by omega)]; exact rfl, by omega⟩ ⟨_, by rw [Int.toNat_of_nonneg (by omega)]; exact rfl, by omega⟩)) ?_
  refine JL.e (e_callV fn_121 rfl (fun w hw => c_impl_sumOf ((pits.drop ((player * r.pits).toNat)).take ((((player + 1) * r.pits).toNat) - ((player * r.pits).toNat))) _ w (Ty.mono _ hs4 hw.vis) (by omega))) ?_
  rintro _ _ _ ⟨rfl, rfl, rfl⟩ _
  refine JL.q (OpP.q (p_move rfl)) ?_
  refine JL.q (OpP.q (p_extract rfl rfl)) ?_
  refine JL.q (OpP.q (p_extract rfl rfl)) ?_
  refine JL.q (OpP.q (p_assign rfl)) ?_
  refine JL.q (OpP.q (p_assign rfl)) ?_
  refine JL.nil ?_
  refine Js.seq ?_
  refine Js.region ?_
  refine JL.q (OpP.q (p_move rfl)) ?_
  refine JL.q (OpP.q (p_assign rfl)) ?_
  refine JL.nil ?_
  refine Js.ret (R := RV w (.int .i64 (M.side r pits player))) @Try.results135 (fun _ _ => rfl) (ResOk.tmp rfl ResOk.nil) (fun w1 hw => ?_)
  refine ⟨?_, hw.ext (Up.refl _ _)⟩
  rw [e1]; simp [outV, M.side, M.sumV_ok (M.allOk_take _ (M.allOk_drop _ r4))]

set_option maxRecDepth 100000 in
set_option maxHeartbeats 400000 in
theorem c_impl_ValidPosition (r : M.Rul) (v_r : Value) (p : M.Pos) (v_p : Value) (w : World) (h_r : (Ty.agg (cRules r)).ok w v_r) (h_p : (Ty.agg (cPosition p)).ok w v_p) (r0 : p.pits.length ≤ 4194304) (r1 : p.stores.length ≤ 4194304) : RetV Try.prog 99 [v_r, v_p] w (.bool (M.okP r p)) := by
  have b1 := M.sumV_bd p.pits
  have b2 := M.sumV_bd p.stores
  obtain rfl := open_Rules h_r
  obtain ⟨A2_0, c2_0, A2_1, c2_1, rfl, h2_0, h2_1, bl2_0, bh2_0, bl2_1, bh2_1⟩ := open_Position h_p
  refine enter @Try.func99 @Try.ntmps99 rfl rfl ?_
  refine Js.seq ?_
  refine Js.region ?_
  refine JL.e (e_box (c := [.int .i64 r.pits, .int .i64 r.seeds, .bool r.stores, .bool r.skip, .bool r.relay, .bool r.feed, .bool r.again, .int .i64 r.capture, .int .i64 r.slam]) rfl rfl) ?_
  rintro _ _ _ ⟨b3, rfl, rfl, rfl⟩ _
  refine JL.e (e_box (c := [.slice A2_0 p.pits.length c2_0, .slice A2_1 p.stores.length c2_1, .int .i64 p.player]) rfl rfl) ?_
  rintro _ _ _ ⟨b4, rfl, rfl, rfl⟩ _
  refine JL.q (OpP.q (p_assign rfl)) ?_
  refine JL.nil ?_
  refine Js.seq ?_
  refine Js.seq ?_
  refine Js.region ?_
  refine JL.q (q_loadN ty_32 rfl (Mem.boxR (i := 1) rfl 0 9) rfl rfl) ?_
  refine JL.e (e_callV fn_120 rfl (fun w hw => c_impl_ValidRules r _ w ⟨_, rfl, ⟨rfl, rfl, rfl, rfl, rfl, rfl, rfl, rfl, rfl, trivial⟩⟩)) ?_
  rintro _ _ _ ⟨rfl, rfl, rfl⟩ _
  refine JL.q (OpP.q (p_not rfl)) ?_
  refine JL.q (OpP.q (p_move rfl)) ?_
  refine JL.g (Gd.f1 rfl rfl rfl) (fun hc => OpP.q (p_fieldAddr fld_33_0 rfl)) ?_
  refine JL.g (Gd.f1 rfl rfl rfl) (fun hc => q_load1 ty_24 (gvt rfl hc) (Mem.box (i := 0) rfl rfl)) ?_
  refine JL.g (Gd.f1 rfl rfl rfl) (fun hc => OpP.q (p_len el_24 (gvt rfl hc))) ?_
  refine JL.g (Gd.f1 rfl rfl rfl) (fun hc => OpP.q (p_fieldAddr fld_32_0 rfl)) ?_
  refine JL.g (Gd.f1 rfl rfl rfl) (fun hc => q_load1 ty_2 (gvt rfl hc) (Mem.box (i := 1) rfl rfl)) ?_
  refine JL.g (Gd.f1 rfl rfl rfl) (fun hc => OpP.q (p_mul rfl (gvt rfl hc) (IntWalk.i64_in _ (by have := M.okR_bd (r := r) (by simpa using hc); omega)))) ?_
  refine JL.g (Gd.f1 rfl rfl rfl) (fun hc => OpP.q (p_neq (gvt rfl hc) (gvt rfl hc))) ?_
  refine JL.q (OpP.q (p_pickOr rfl rfl rfl)) ?_
  refine JL.q (OpP.q (p_move rfl)) ?_
  refine JL.g (Gd.f1 rfl rfl rfl) (fun hc => OpP.q (p_fieldAddr fld_33_1 rfl)) ?_
  refine JL.g (Gd.f1 rfl rfl rfl) (fun hc => q_load1 ty_24 (gvt rfl hc) (Mem.box (i := 0) rfl rfl)) ?_
  refine JL.g (Gd.f1 rfl rfl rfl) (fun hc => OpP.q (p_len el_24 (gvt rfl hc))) ?_
  refine JL.g (Gd.f1 rfl rfl rfl) (fun hc => OpP.q (p_neq (gvt rfl hc) rfl)) ?_
  refine JL.q (OpP.q (p_pickOr rfl rfl rfl)) ?_
  refine JL.q (OpP.q (p_move rfl)) ?_
  refine JL.g (Gd.f1 rfl rfl rfl) (fun hc => OpP.q (p_fieldAddr fld_33_2 rfl)) ?_
  refine JL.g (Gd.f1 rfl rfl rfl) (fun hc => q_load1 ty_2 (gvt rfl hc) (Mem.box (i := 0) rfl rfl)) ?_
  refine JL.ge (Gd.f1 rfl rfl rfl) (fun hc => e_callV fn_78 (opds_1 (gvt rfl hc)) (fun w hw => c_impl_isPlayer p.player w)) ?_
  refine JL.g (Gd.f1 rfl rfl rfl) (fun hc => OpP.q (p_not (gvt rfl hc))) ?_
  refine JL.q (OpP.q (p_pickOr rfl rfl rfl)) ?_
  refine JL.nil ?_
  refine Js.cond rfl (fun h5 => ?_) (fun h5 => ?_)
  ·
    have h5' := h5
    try simp only [Bool.or_eq_true, Bool.not_eq_true', decide_eq_false_iff_not] at h5'
    refine Js.seq ?_
    refine Js.region ?_
    refine JL.q (OpP.q (p_assign rfl)) ?_
    refine JL.nil ?_
    refine Js.ret (R := RV w (.bool (M.okP r p))) @Try.results99 (fun _ _ => rfl) (ResOk.tmp rfl ResOk.nil) (fun w1 hw => ?_)
    refine ⟨?_, hw.ext (Up.refl _ _)⟩
    simp only [outV, Ending.returned.injEq, Value.bool.injEq]; rw [eq_comm, Bool.eq_false_iff]; intro hx; obtain ⟨g1, g2, g3, g4, -, -, g7⟩ := M.okP_bd hx; have g8 := M.okP_okR hx; simp [g8, g3, g4, M.isPl] at h5; omega
  ·
    have h5' := h5
    try simp only [Bool.or_eq_false_iff, Bool.not_eq_false', decide_eq_true_eq] at h5'
    refine Js.skip ?_
    refine Js.seq ?_
    refine Js.region ?_
    refine JL.q (OpP.q (p_fieldAddr fld_33_0 rfl)) ?_
    refine JL.q (q_load1 ty_24 rfl (Mem.box (i := 0) rfl rfl)) ?_
    refine JL.e (e_callV fn_121 rfl (fun w hw => c_impl_sumOf p.pits _ w (Ty.mono _ h2_0 hw.vis) (by omega))) ?_
    rintro _ _ _ ⟨rfl, rfl, rfl⟩ _
    refine JL.q (OpP.q (p_move rfl)) ?_
    refine JL.q (OpP.q (p_extract rfl rfl)) ?_
    refine JL.q (OpP.q (p_extract rfl rfl)) ?_
    refine JL.q (OpP.q (p_assign rfl)) ?_
    refine JL.q (OpP.q (p_assign rfl)) ?_
    refine JL.nil ?_
    refine Js.seq ?_
    refine Js.region ?_
    refine JL.q (OpP.q (p_fieldAddr fld_33_1 rfl)) ?_
    refine JL.q (q_load1 ty_24 rfl (Mem.box (i := 0) rfl rfl)) ?_
    refine JL.e (e_callV fn_121 rfl (fun w hw => c_impl_sumOf p.stores _ w (Ty.mono _ h2_1 hw.vis) (by omega))) ?_
    rintro _ _ _ ⟨rfl, rfl, rfl⟩ _
    refine JL.q (OpP.q (p_move rfl)) ?_
    refine JL.q (OpP.q (p_extract rfl rfl)) ?_
    refine JL.q (OpP.q (p_extract rfl rfl)) ?_
    refine JL.q (OpP.q (p_assign rfl)) ?_
    refine JL.q (OpP.q (p_assign rfl)) ?_
    refine JL.nil ?_
    refine Js.seq ?_
    refine Js.region ?_
    refine JL.q (OpP.q (p_move rfl)) ?_
    refine JL.q (OpP.q (p_move rfl)) ?_
    refine JL.g (Gd.t1 rfl rfl rfl) (fun hc => OpP.q (p_move rfl)) ?_
    refine JL.q (OpP.q (p_pickAnd rfl rfl rfl)) ?_
    refine JL.q (OpP.q (p_move rfl)) ?_
    refine JL.g (Gd.t1 rfl rfl rfl) (fun hc => OpP.q (p_move rfl)) ?_
    refine JL.g (Gd.t1 rfl rfl rfl) (fun hc => OpP.q (p_move rfl)) ?_
    refine JL.g (Gd.t1 rfl rfl rfl) (fun hc => OpP.q (p_add (gvt rfl hc) (gvt rfl hc) (IntWalk.i64_in _ (by have hc9 := hc; (try simp only [Bool.and_eq_true] at hc9); omega)))) ?_
    refine JL.g (Gd.t1 rfl rfl rfl) (fun hc => OpP.q (p_leq (gvt rfl hc) rfl)) ?_
    refine JL.q (OpP.q (p_pickAnd rfl rfl rfl)) ?_
    refine JL.q (OpP.q (p_assign rfl)) ?_
    refine JL.nil ?_
    refine Js.ret (R := RV w (.bool (M.okP r p))) @Try.results99 (fun _ _ => rfl) (ResOk.tmp rfl ResOk.nil) (fun w1 hw => ?_)
    refine ⟨?_, hw.ext (Up.refl _ _)⟩
    simp only [outV, Ending.returned.injEq, Value.bool.injEq]; exact M.okP_sum_ (by simpa using h5)

set_option maxRecDepth 100000 in
set_option maxHeartbeats 400000 in
theorem c_impl_SamePosition (a : M.Pos) (v_a : Value) (b : M.Pos) (v_b : Value) (w : World) (h_a : (Ty.agg (cPosition a)).ok w v_a) (h_b : (Ty.agg (cPosition b)).ok w v_b) (r0 : a.pits.length ≤ 4194304) (r1 : a.stores.length ≤ 4194304) (r2 : b.pits.length ≤ 4194304) (r3 : b.stores.length ≤ 4194304) : RetV Try.prog 101 [v_a, v_b] w (.bool (M.sameP a b)) := by
  obtain ⟨A1_0, c1_0, A1_1, c1_1, rfl, h1_0, h1_1, bl1_0, bh1_0, bl1_1, bh1_1⟩ := open_Position h_a
  obtain ⟨A2_0, c2_0, A2_1, c2_1, rfl, h2_0, h2_1, bl2_0, bh2_0, bl2_1, bh2_1⟩ := open_Position h_b
  refine enter @Try.func101 @Try.ntmps101 rfl rfl ?_
  refine Js.seq ?_
  refine Js.region ?_
  refine JL.e (e_box (c := [.slice A1_0 a.pits.length c1_0, .slice A1_1 a.stores.length c1_1, .int .i64 a.player]) rfl rfl) ?_
  rintro _ _ _ ⟨b3, rfl, rfl, rfl⟩ _
  refine JL.e (e_box (c := [.slice A2_0 b.pits.length c2_0, .slice A2_1 b.stores.length c2_1, .int .i64 b.player]) rfl rfl) ?_
  rintro _ _ _ ⟨b4, rfl, rfl, rfl⟩ _
  refine JL.q (OpP.q (p_assign rfl)) ?_
  refine JL.nil ?_
  refine Js.seq ?_
  refine Js.region ?_
  refine JL.q (OpP.q (p_fieldAddr fld_33_2 rfl)) ?_
  refine JL.q (q_load1 ty_2 rfl (Mem.box (i := 1) rfl rfl)) ?_
  refine JL.q (OpP.q (p_fieldAddr fld_33_2 rfl)) ?_
  refine JL.q (q_load1 ty_2 rfl (Mem.box (i := 0) rfl rfl)) ?_
  refine JL.q (OpP.q (p_eql rfl rfl)) ?_
  refine JL.q (OpP.q (p_move rfl)) ?_
  refine JL.g (Gd.t1 rfl rfl rfl) (fun hc => OpP.q (p_fieldAddr fld_33_0 rfl)) ?_
  refine JL.g (Gd.t1 rfl rfl rfl) (fun hc => q_load1 ty_24 (gvt rfl hc) (Mem.box (i := 1) rfl rfl)) ?_
  refine JL.g (Gd.t1 rfl rfl rfl) (fun hc => OpP.q (p_fieldAddr fld_33_0 rfl)) ?_
  refine JL.g (Gd.t1 rfl rfl rfl) (fun hc => q_load1 ty_24 (gvt rfl hc) (Mem.box (i := 0) rfl rfl)) ?_
  refine JL.ge (Gd.t1 rfl rfl rfl) (fun hc => e_callV fn_122 (opds_2 (gvt rfl hc) (gvt rfl hc)) (fun w hw => c_impl_sameNumbers a.pits _ b.pits _ w (Ty.mono _ h1_0 hw.vis) (Ty.mono _ h2_0 hw.vis) (by have hc9 := hc; (try simp only [decide_eq_true_eq] at hc9); omega) (by have hc9 := hc; (try simp only [decide_eq_true_eq] at hc9); omega))) ?_
  refine JL.q (OpP.q (p_pickAnd rfl rfl rfl)) ?_
  refine JL.q (OpP.q (p_move rfl)) ?_
  refine JL.g (Gd.t1 rfl rfl rfl) (fun hc => OpP.q (p_fieldAddr fld_33_1 rfl)) ?_
  refine JL.g (Gd.t1 rfl rfl rfl) (fun hc => q_load1 ty_24 (gvt rfl hc) (Mem.box (i := 1) rfl rfl)) ?_
  refine JL.g (Gd.t1 rfl rfl rfl) (fun hc => OpP.q (p_fieldAddr fld_33_1 rfl)) ?_
  refine JL.g (Gd.t1 rfl rfl rfl) (fun hc => q_load1 ty_24 (gvt rfl hc) (Mem.box (i := 0) rfl rfl)) ?_
  refine JL.ge (Gd.t1 rfl rfl rfl) (fun hc => e_callV fn_122 (opds_2 (gvt rfl hc) (gvt rfl hc)) (fun w hw => c_impl_sameNumbers a.stores _ b.stores _ w (Ty.mono _ h1_1 hw.vis) (Ty.mono _ h2_1 hw.vis) (by have hc9 := hc; (try simp only [Bool.and_eq_true, decide_eq_true_eq] at hc9); omega) (by have hc9 := hc; (try simp only [Bool.and_eq_true, decide_eq_true_eq] at hc9); omega))) ?_
  refine JL.q (OpP.q (p_pickAnd rfl rfl rfl)) ?_
  refine JL.q (OpP.q (p_assign rfl)) ?_
  refine JL.nil ?_
  refine Js.ret (R := RV w (.bool (M.sameP a b))) @Try.results101 (fun _ _ => rfl) (ResOk.tmp rfl ResOk.nil) (fun w1 hw => ?_)
  refine ⟨?_, hw.ext (Up.refl _ _)⟩
  simp [outV, M.sameP, Bool.and_assoc]

set_option maxRecDepth 100000 in
set_option maxHeartbeats 400000 in
theorem c_impl_sowCode (r : M.Rul) (v_r : Value) (p : M.Pos) (v_p : Value) (move : Int) (w : World) (h_r : (Ty.agg (cRules r)).ok w v_r) (h_p : (Ty.agg (cPosition p)).ok w v_p) (r0 : p.pits.length ≤ 4194304) (r1 : p.stores.length ≤ 4194304) : RetV Try.prog 154 [v_r, v_p, .int .i64 move] w (.int .i64 (M.sowCode r p move)) := by
  obtain rfl := open_Rules h_r
  obtain ⟨A2_0, c2_0, A2_1, c2_1, rfl, h2_0, h2_1, bl2_0, bh2_0, bl2_1, bh2_1⟩ := open_Position h_p
  refine enter @Try.func154 @Try.ntmps154 rfl rfl ?_
  refine Js.seq ?_
  refine Js.region ?_
  refine JL.e (e_box (c := [.int .i64 r.pits, .int .i64 r.seeds, .bool r.stores, .bool r.skip, .bool r.relay, .bool r.feed, .bool r.again, .int .i64 r.capture, .int .i64 r.slam]) rfl rfl) ?_
  rintro _ _ _ ⟨b3, rfl, rfl, rfl⟩ _
  refine JL.e (e_box (c := [.slice A2_0 p.pits.length c2_0, .slice A2_1 p.stores.length c2_1, .int .i64 p.player]) rfl rfl) ?_
  rintro _ _ _ ⟨b4, rfl, rfl, rfl⟩ _
  refine JL.q (OpP.q (p_assign rfl)) ?_
  refine JL.nil ?_
  refine Js.seq ?_
  refine Js.seq ?_
  refine Js.region ?_
  refine JL.q (q_loadN ty_32 rfl (Mem.boxR (i := 1) rfl 0 9) rfl rfl) ?_
  refine JL.q (q_loadN ty_33 rfl (Mem.boxR (i := 0) rfl 0 3) rfl rfl) ?_
  refine JL.e (e_callV fn_99 rfl (fun w hw => c_impl_ValidPosition r _ p _ w ⟨_, rfl, ⟨rfl, rfl, rfl, rfl, rfl, rfl, rfl, rfl, rfl, trivial⟩⟩ ⟨_, rfl, ⟨(Ty.mono _ h2_0 hw.vis), (Ty.mono _ h2_1 hw.vis), rfl, trivial⟩⟩ (by omega) (by omega))) ?_
  rintro _ _ _ ⟨rfl, rfl, rfl⟩ _
  refine JL.q (OpP.q (p_not rfl)) ?_
  refine JL.nil ?_
  refine Js.cond rfl (fun h5 => ?_) (fun h5 => ?_)
  ·
    have h5' := h5
    try simp only [Bool.not_eq_true'] at h5'
    refine Js.seq ?_
    refine Js.region ?_
    refine JL.q (OpP.q (p_assign rfl)) ?_
    refine JL.nil ?_
    refine Js.ret (R := RV w (.int .i64 (M.sowCode r p move))) @Try.results154 (fun _ _ => rfl) (ResOk.tmp rfl ResOk.nil) (fun w1 hw => ?_)
    refine ⟨?_, hw.ext (Up.refl _ _)⟩
    simp_all [outV, M.sowCode, M.getI]
  ·
    have h5' := h5
    try simp only [Bool.not_eq_false'] at h5'
    have hok : M.okP r p = true := by simpa using h5
    obtain ⟨g1, g2, g3, g4, g5, g6, g7⟩ := M.okP_bd hok
    have hq := M.mul_bd g7 g1 g2
    refine Js.skip ?_
    refine Js.seq ?_
    refine Js.seq ?_
    refine Js.region ?_
    refine JL.q (q_loadN ty_32 rfl (Mem.boxR (i := 1) rfl 0 9) rfl rfl) ?_
    refine JL.q (OpP.q (p_move rfl)) ?_
    refine JL.e (e_callV fn_162 rfl (fun w hw => c_impl_Rules_isMove r _ move w ⟨_, rfl, ⟨rfl, rfl, rfl, rfl, rfl, rfl, rfl, rfl, rfl, trivial⟩⟩ (by omega) (by omega))) ?_
    rintro _ _ _ ⟨rfl, rfl, rfl⟩ _
    refine JL.q (OpP.q (p_not rfl)) ?_
    refine JL.nil ?_
    refine Js.cond rfl (fun h6 => ?_) (fun h6 => ?_)
    ·
      have h6' := h6
      try simp only [Bool.not_eq_true'] at h6'
      refine Js.seq ?_
      refine Js.region ?_
      refine JL.q (OpP.q (p_assign rfl)) ?_
      refine JL.nil ?_
      refine Js.ret (R := RV w (.int .i64 (M.sowCode r p move))) @Try.results154 (fun _ _ => rfl) (ResOk.tmp rfl ResOk.nil) (fun w1 hw => ?_)
      refine ⟨?_, hw.ext (Up.refl _ _)⟩
      simp_all [outV, M.sowCode, M.getI]
    ·
      have h6' := h6
      try simp only [Bool.not_eq_false'] at h6'
      obtain ⟨m0, m1⟩ := M.betw_iff.1 (show M.betw move 0 (r.pits - 1) = true by simpa using h6)
      refine Js.skip ?_
      refine Js.seq ?_
      refine Js.seq ?_
      refine Js.drawn _ [] mixed_ (fun _ h => h) ?_
      refine JH.p 0 rfl (p_fieldAddr fld_33_0 rfl) ?_
      refine JH.q 1 rfl (q_load1 ty_24 rfl (Mem.box (i := 0) rfl rfl)) ?_
      refine JH.q 2 rfl (q_loadN ty_32 rfl (Mem.boxR (i := 1) rfl 0 9) rfl rfl) ?_
      refine JH.p 3 rfl (p_fieldAddr fld_33_2 rfl) ?_
      refine JH.q 4 rfl (q_load1 ty_2 rfl (Mem.box (i := 0) rfl rfl)) ?_
      refine JH.p 5 rfl (p_move rfl) ?_
      refine JH.one (i := 6) (by kernel_rfl) ?_
      refine JHo.e rfl (e_callV fn_157 rfl (fun w hw => c_impl_Rules_pitOf r _ p.player move w ⟨_, rfl, ⟨rfl, rfl, rfl, rfl, rfl, rfl, rfl, rfl, rfl, trivial⟩⟩ (by omega) (by omega) (by omega) (by omega) (by omega))) (.inl rfl) ?_
      rintro _ _ _ ⟨rfl, rfl, rfl⟩ _
      obtain ⟨b7, o7, he7, hc7⟩ := ints_elem h2_0 (i := (p.player * r.pits + move).toNat) (by omega)
      refine JH.p 7 rfl (p_indexAddr el_24 rfl rfl (by omega) (by omega) he7) ?_
      refine JH.w 8 rfl (fun os' u' hv => q_load1 ty_2 rfl (Mem.pub (hc7.vis hv))) ?_
      refine JH.p 9 rfl (p_eql rfl rfl) ?_
      refine JH.done (by kernel_rfl) ?_
      refine Js.cond rfl (fun h8 => ?_) (fun h8 => ?_)
      ·
        have h8' := h8
        try simp only [decide_eq_true_eq] at h8'
        refine Js.seq ?_
        refine Js.region ?_
        refine JL.q (OpP.q (p_assign rfl)) ?_
        refine JL.nil ?_
        refine Js.ret (R := RV w (.int .i64 (M.sowCode r p move))) @Try.results154 (fun _ _ => rfl) (ResOk.tmp rfl ResOk.nil) (fun w1 hw => ?_)
        refine ⟨?_, hw.ext (Up.refl _ _)⟩
        simp_all [outV, M.sowCode, M.getI]
      ·
        have h8' := h8
        try simp only [decide_eq_false_iff_not] at h8'
        refine Js.skip ?_
        refine Js.seq ?_
        refine Js.region ?_
        refine JL.q (OpP.q (p_assign rfl)) ?_
        refine JL.nil ?_
        refine Js.ret (R := RV w (.int .i64 (M.sowCode r p move))) @Try.results154 (fun _ _ => rfl) (ResOk.tmp rfl ResOk.nil) (fun w1 hw => ?_)
        refine ⟨?_, hw.ext (Up.refl _ _)⟩
        simp_all [outV, M.sowCode, M.getI]

end Go.Proofs.Ytejnmechnhgmfaa

/- Walks: K1. -/
import Derived.Test.YtejnmechnhgmfaaZaTy
import Derived.Test.YtejnmechnhgmfaaZaG1
set_option linter.unusedSimpArgs false
set_option linter.unusedVariables false
namespace Go.Proofs.Ytejnmechnhgmfaa
open Go.RowKit

set_option maxRecDepth 100000 in
set_option maxHeartbeats 400000 in
theorem c_spec_l00In (n : Int) (low : Int) (high : Int) (w : World)  : RetV Try.prog 76 [.int .i64 n, .int .i64 low, .int .i64 high] w (.bool (M.betw n low high)) := by
  refine enter @Try.func76 @Try.ntmps76 rfl rfl ?_
  refine Js.seq ?_
  refine Js.region ?_
  refine JL.q (OpP.q (p_assign rfl)) ?_
  refine JL.nil ?_
  refine Js.seq ?_
  refine Js.region ?_
  refine JL.q (OpP.q (p_move rfl)) ?_
  refine JL.q (OpP.q (p_move rfl)) ?_
  refine JL.q (OpP.q (p_geq rfl rfl)) ?_
  refine JL.q (OpP.q (p_move rfl)) ?_
  refine JL.g (Gd.t1 rfl rfl rfl) (fun hc => OpP.q (p_move rfl)) ?_
  refine JL.g (Gd.t1 rfl rfl rfl) (fun hc => OpP.q (p_move rfl)) ?_
  refine JL.g (Gd.t1 rfl rfl rfl) (fun hc => OpP.q (p_leq (gvt rfl hc) (gvt rfl hc))) ?_
  refine JL.q (OpP.q (p_pickAnd rfl rfl rfl)) ?_
  refine JL.q (OpP.q (p_assign rfl)) ?_
  refine JL.nil ?_
  refine Js.ret (R := RV w (.bool (M.betw n low high))) @Try.results76 (fun _ _ => rfl) (ResOk.tmp rfl ResOk.nil) (fun w1 hw => ?_)
  refine ⟨?_, hw.ext (Up.refl _ _)⟩
  simp [outV, M.betw]

set_option maxRecDepth 100000 in
set_option maxHeartbeats 400000 in
theorem c_spec_l02Ok (r : M.Rul) (v_r : Value) (w : World) (h_r : (Ty.ref (cRules r)).ok w v_r) : RetV Try.prog 124 [v_r] w (.bool (M.okR r)) := by
  obtain ⟨b1, o1, rfl, hr1⟩ := ref_Rules h_r
  refine enter @Try.func124 @Try.ntmps124 rfl rfl ?_
  refine Js.seq ?_
  refine Js.region ?_
  refine JL.q (OpP.q (p_assign rfl)) ?_
  refine JL.nil ?_
  refine Js.seq ?_
  refine Js.region ?_
  refine JL.q (OpP.q (p_move rfl)) ?_
  refine JL.q (OpP.q (p_nilCheck rfl)) ?_
  refine JL.q (OpP.q (p_fieldAddr fld_32_0 rfl)) ?_
  refine JL.q (q_load1 ty_2 rfl (Mem.pub (hr1 0 _ rfl))) ?_
  refine JL.e (e_callV fn_76 rfl (fun w hw => c_spec_l00In r.pits 2 8 w)) ?_
  rintro _ _ _ ⟨rfl, rfl, rfl⟩ _
  refine JL.q (OpP.q (p_move rfl)) ?_
  refine JL.g (Gd.t1 rfl rfl rfl) (fun hc => OpP.q (p_move rfl)) ?_
  refine JL.g (Gd.t1 rfl rfl rfl) (fun hc => OpP.q (p_nilCheck (gvt rfl hc))) ?_
  refine JL.g (Gd.t1 rfl rfl rfl) (fun hc => OpP.q (p_fieldAddr fld_32_1 (gvt rfl hc))) ?_
  refine JL.g (Gd.t1 rfl rfl rfl) (fun hc => q_load1 ty_2 (gvt rfl hc) (Mem.pub (hr1 1 _ rfl))) ?_
  refine JL.ge (Gd.t1 rfl rfl rfl) (fun hc => e_callV fn_76 (opds_3 (gvt rfl hc) rfl rfl) (fun w hw => c_spec_l00In r.seeds 1 6 w)) ?_
  refine JL.q (OpP.q (p_pickAnd rfl rfl rfl)) ?_
  refine JL.q (OpP.q (p_move rfl)) ?_
  refine JL.g (Gd.t1 rfl rfl rfl) (fun hc => OpP.q (p_move rfl)) ?_
  refine JL.g (Gd.t1 rfl rfl rfl) (fun hc => OpP.q (p_nilCheck (gvt rfl hc))) ?_
  refine JL.g (Gd.t1 rfl rfl rfl) (fun hc => OpP.q (p_fieldAddr fld_32_7 (gvt rfl hc))) ?_
  refine JL.g (Gd.t1 rfl rfl rfl) (fun hc => q_load1 ty_2 (gvt rfl hc) (Mem.pub (hr1 7 _ rfl))) ?_
  refine JL.ge (Gd.t1 rfl rfl rfl) (fun hc => e_callV fn_76 (opds_3 (gvt rfl hc) rfl rfl) (fun w hw => c_spec_l00In r.capture 0 3 w)) ?_
  refine JL.q (OpP.q (p_pickAnd rfl rfl rfl)) ?_
  refine JL.q (OpP.q (p_move rfl)) ?_
  refine JL.g (Gd.t1 rfl rfl rfl) (fun hc => OpP.q (p_move rfl)) ?_
  refine JL.g (Gd.t1 rfl rfl rfl) (fun hc => OpP.q (p_nilCheck (gvt rfl hc))) ?_
  refine JL.g (Gd.t1 rfl rfl rfl) (fun hc => OpP.q (p_fieldAddr fld_32_8 (gvt rfl hc))) ?_
  refine JL.g (Gd.t1 rfl rfl rfl) (fun hc => q_load1 ty_2 (gvt rfl hc) (Mem.pub (hr1 8 _ rfl))) ?_
  refine JL.ge (Gd.t1 rfl rfl rfl) (fun hc => e_callV fn_76 (opds_3 (gvt rfl hc) rfl rfl) (fun w hw => c_spec_l00In r.slam 0 2 w)) ?_
  refine JL.q (OpP.q (p_pickAnd rfl rfl rfl)) ?_
  refine JL.q (OpP.q (p_move rfl)) ?_
  refine JL.g (Gd.t1 rfl rfl rfl) (fun hc => OpP.q (p_move rfl)) ?_
  refine JL.g (Gd.t1 rfl rfl rfl) (fun hc => OpP.q (p_nilCheck (gvt rfl hc))) ?_
  refine JL.g (Gd.t1 rfl rfl rfl) (fun hc => OpP.q (p_fieldAddr fld_32_2 (gvt rfl hc))) ?_
  refine JL.g (Gd.t1 rfl rfl rfl) (fun hc => q_load1 ty_4 (gvt rfl hc) (Mem.pub (hr1 2 _ rfl))) ?_
  refine JL.g (Gd.t1 rfl rfl rfl) (fun hc => OpP.q (p_move (gvt rfl hc))) ?_
  refine JL.g (Gd.f2 rfl rfl rfl) (fun hc => OpP.q (p_move rfl)) ?_
  refine JL.g (Gd.f2 rfl rfl rfl) (fun hc => OpP.q (p_nilCheck (gvt rfl hc))) ?_
  refine JL.g (Gd.f2 rfl rfl rfl) (fun hc => OpP.q (p_fieldAddr fld_32_6 (gvt rfl hc))) ?_
  refine JL.g (Gd.f2 rfl rfl rfl) (fun hc => q_load1 ty_4 (gvt rfl hc) (Mem.pub (hr1 6 _ rfl))) ?_
  refine JL.g (Gd.f2 rfl rfl rfl) (fun hc => OpP.q (p_not (gvt rfl hc))) ?_
  refine JL.g (Gd.t1 rfl rfl rfl) (fun hc => OpP.q (p_pickOr (gvt rfl hc) rfl (gvl rfl hc))) ?_
  refine JL.q (OpP.q (p_pickAnd rfl rfl rfl)) ?_
  refine JL.q (OpP.q (p_assign rfl)) ?_
  refine JL.nil ?_
  refine Js.ret (R := RV w (.bool (M.okR r))) @Try.results124 (fun _ _ => rfl) (ResOk.tmp rfl ResOk.nil) (fun w1 hw => ?_)
  refine ⟨?_, hw.ext (Up.refl _ _)⟩
  simp [outV, M.okR, Bool.and_assoc]

set_option maxRecDepth 100000 in
set_option maxHeartbeats 400000 in
theorem c_spec_l04Sum (list : List Int) (v_list : Value) (w : World) (h_list : (Ty.ints 2 list).ok w v_list) (r0 : list.length ≤ 4194304) : RetV Try.prog 125 [v_list] w (.int .i64 (M.sum4 list)) := by
  obtain ⟨A1, c1, rfl, bl1, bh1⟩ := sl_form h_list
  refine enter @Try.func125 @Try.ntmps125 rfl rfl ?_
  refine Js.seq ?_
  refine Js.region ?_
  refine JL.q (OpP.q (p_assign rfl)) ?_
  refine JL.nil ?_
  refine Js.seq ?_
  refine Js.region ?_
  refine JL.q (OpP.q (p_assign rfl)) ?_
  refine JL.nil ?_
  refine Js.seq ?_
  refine Js.seq ?_
  refine Js.region ?_
  refine JL.q (OpP.q (p_assign rfl)) ?_
  refine JL.nil ?_
  refine Js.block ?_
  refine Js.loop (fun l os u m => ∃ (k : Nat) (t : Int), l = [(0, .slice A1 list.length c1), (3, .int .i64 t), (4, .int .i64 (k : Int))] ∧ os = [] ∧ Up w.heap.size w u ∧ (k ≤ list.length) ∧ (0 ≤ t) ∧ (t ≤ 96 * k) ∧ (M.sumFrom t (list.drop k) = M.sumFrom 0 list) ∧ m = list.length - k) ⟨0, 0, rfl, rfl, Up.refl _ _, by first | assumption | omega | rfl | (simp; done), by first | assumption | omega | rfl | (simp; done), by first | assumption | omega | rfl | (simp; done), by first | assumption | omega | rfl | (simp; done), rfl⟩ ⟨rfl, rfl, rfl, trivial⟩ ?_
  · rintro _ _ u2 _ ⟨k, t, rfl, rfl, x2, hk, t0, t9, hS, rfl⟩
    refine Js.seq ?_
    refine Js.seq ?_
    refine Js.region ?_
    refine JL.q (OpP.q (p_move rfl)) ?_
    refine JL.q (OpP.q (p_move rfl)) ?_
    refine JL.q (OpP.q (p_len el_24 rfl)) ?_
    refine JL.q (OpP.q (p_lss rfl rfl)) ?_
    refine JL.nil ?_
    refine Js.cond rfl (fun h3 => ?_) (fun h3 => ?_)
    ·
      have h3' := h3
      try simp only [decide_eq_true_eq] at h3'
      refine Js.skip ?_
      refine Js.seq ?_
      refine Js.block ?_
      refine Js.seq ?_
      refine Js.seq ?_
      refine Js.region ?_
      refine JL.q (OpP.q (p_move rfl)) ?_
      refine JL.q (OpP.q (p_move rfl)) ?_
      obtain ⟨b4, o4, he4, hc4⟩ := ints_elem (Ty.mono _ h_list x2.vis) (i := k) (by omega)
      refine JL.q (OpP.q (p_indexAddr el_24 rfl rfl (by omega) (by omega) he4)) ?_
      refine JL.q (q_load1 ty_2 rfl (Mem.pub hc4)) ?_
      refine JL.e (e_callV fn_76 rfl (fun w hw => c_spec_l00In (M.nth list k) 0 96 w)) ?_
      rintro _ _ _ ⟨rfl, rfl, rfl⟩ _
      refine JL.q (OpP.q (p_not rfl)) ?_
      refine JL.nil ?_
      refine Js.cond rfl (fun h5 => ?_) (fun h5 => ?_)
      ·
        have h5' := h5
        try simp only [Bool.not_eq_true'] at h5'
        have e1 : M.sum4 list = -1 := M.sum4_no (by rw [M.sumFrom_step (by omega), if_neg (by simpa using h5)] at hS; exact M.sumFrom_none hS.symm)
        refine Js.seq ?_
        refine Js.region ?_
        refine JL.q (OpP.q (p_assign rfl)) ?_
        refine JL.nil ?_
        refine Js.ret (R := RV w (.int .i64 (M.sum4 list))) @Try.results125 (fun _ _ => rfl) (ResOk.tmp rfl ResOk.nil) (fun w1 hw => ?_)
        refine ⟨?_, hw.ext (x2)⟩
        rw [e1]; rfl
      ·
        have h5' := h5
        try simp only [Bool.not_eq_false'] at h5'
        have hb : M.betw (M.nth list k) 0 96 = true := by simpa using h5
        obtain ⟨hb0, hb1⟩ := M.betw_iff.1 hb
        refine Js.skip ?_
        refine Js.region ?_
        refine JL.q (OpP.q (p_move rfl)) ?_
        refine JL.q (OpP.q (p_move rfl)) ?_
        refine JL.q (OpP.q (p_move rfl)) ?_
        obtain ⟨b6, o6, he6, hc6⟩ := ints_elem (Ty.mono _ h_list x2.vis) (i := k) (by omega)
        refine JL.q (OpP.q (p_indexAddr el_24 rfl rfl (by omega) (by omega) he6)) ?_
        refine JL.q (q_load1 ty_2 rfl (Mem.pub hc6)) ?_
        refine JL.q (OpP.q (p_add rfl rfl (IntWalk.i64_in _ (by omega)))) ?_
        refine JL.q (OpP.q (p_assign rfl)) ?_
        refine JL.nil ?_
        refine Js.blockEnd ?_
        refine Js.region ?_
        refine JL.q (OpP.q (p_move rfl)) ?_
        refine JL.q (OpP.q (p_add rfl rfl (IntWalk.i64_in _ (by omega)))) ?_
        refine JL.q (OpP.q (p_assign rfl)) ?_
        refine JL.nil ?_
        exact Js.again ⟨k + 1, t + (M.nth list k), rfl, rfl, x2, by first | assumption | omega | rfl | (simp; done), by first | assumption | omega | rfl | (simp; done), by first | assumption | omega | rfl | (simp; done), by rw [M.sumFrom_step (by omega), if_pos hb] at hS; exact hS, rfl⟩ (by omega) ⟨rfl, rfl, rfl, trivial⟩
    ·
      have h3' := h3
      try simp only [decide_eq_false_iff_not, Int.not_lt] at h3'
      obtain ⟨e1, e2⟩ := M.sumFrom_some (by rw [← hS]; exact M.sumFrom_end (by omega))
      refine Js.exit (fun _ _ => rfl) ?_
      refine Js.seq ?_
      refine Js.seq ?_
      refine Js.region ?_
      refine JL.q (OpP.q (p_move rfl)) ?_
      refine JL.q (OpP.q (p_gtr rfl rfl)) ?_
      refine JL.nil ?_
      refine Js.cond rfl (fun h7 => ?_) (fun h7 => ?_)
      ·
        have h7' := h7
        try simp only [decide_eq_true_eq] at h7'
        have e1 : M.sum4 list = -1 := M.sum4_big (by omega)
        refine Js.seq ?_
        refine Js.region ?_
        refine JL.q (OpP.q (p_assign rfl)) ?_
        refine JL.nil ?_
        refine Js.ret (R := RV w (.int .i64 (M.sum4 list))) @Try.results125 (fun _ _ => rfl) (ResOk.tmp rfl ResOk.nil) (fun w1 hw => ?_)
        refine ⟨?_, hw.ext (x2)⟩
        rw [e1]; rfl
      ·
        have h7' := h7
        try simp only [decide_eq_false_iff_not, Int.not_lt] at h7'
        have e1 : M.sum4 list = t := by rw [M.sum4_ok e1 (by omega), e2]
        refine Js.skip ?_
        refine Js.seq ?_
        refine Js.region ?_
        refine JL.q (OpP.q (p_move rfl)) ?_
        refine JL.q (OpP.q (p_assign rfl)) ?_
        refine JL.nil ?_
        refine Js.ret (R := RV w (.int .i64 (M.sum4 list))) @Try.results125 (fun _ _ => rfl) (ResOk.tmp rfl ResOk.nil) (fun w1 hw => ?_)
        refine ⟨?_, hw.ext (x2)⟩
        rw [e1]; rfl

set_option maxRecDepth 100000 in
set_option maxHeartbeats 400000 in
theorem c_spec_l04Ok (r : M.Rul) (v_r : Value) (p : M.Pos) (v_p : Value) (w : World) (h_r : (Ty.ref (cRules r)).ok w v_r) (h_p : (Ty.ref (cPosition p)).ok w v_p) (r0 : p.pits.length ≤ 4194304) (r1 : p.stores.length ≤ 4194304) : RetV Try.prog 103 [v_r, v_p] w (.bool (M.okP r p)) := by
  have b1 := M.sum4_bd p.pits
  have b2 := M.sum4_bd p.stores
  obtain ⟨b1, o1, rfl, hr1⟩ := ref_Rules h_r
  obtain ⟨b2, o2, A2_0, c2_0, A2_1, c2_1, rfl, hr2, h2_0, h2_1, bl2_0, bh2_0, bl2_1, bh2_1⟩ := ref_Position h_p
  refine enter @Try.func103 @Try.ntmps103 rfl rfl ?_
  refine Js.seq ?_
  refine Js.region ?_
  refine JL.q (OpP.q (p_assign rfl)) ?_
  refine JL.nil ?_
  refine Js.seq ?_
  refine Js.seq ?_
  refine Js.drawn _ [] mixed_ (fun _ h => h) ?_
  refine JH.p 0 rfl (p_move rfl) ?_
  refine JH.one (i := 1) (by kernel_rfl) ?_
  refine JHo.e rfl (e_callV fn_124 rfl (fun w hw => c_spec_l02Ok r _ w ⟨_, _, [.int .i64 r.pits, .int .i64 r.seeds, .bool r.stores, .bool r.skip, .bool r.relay, .bool r.feed, .bool r.again, .int .i64 r.capture, .int .i64 r.slam], rfl, ⟨rfl, rfl, rfl, rfl, rfl, rfl, rfl, rfl, rfl, trivial⟩, (hr1.vis hw.vis)⟩)) (.inl rfl) ?_
  rintro _ _ _ ⟨rfl, rfl, rfl⟩ _
  refine JH.p 2 rfl (p_not rfl) ?_
  refine JH.p 3 rfl (p_move rfl) ?_
  refine JH.pg 4 rfl (Gd.f1 rfl rfl rfl) (fun hc => p_move rfl) ?_
  refine JH.pg 5 rfl (Gd.f1 rfl rfl rfl) (fun hc => p_nilCheck (gvt rfl hc)) ?_
  refine JH.pg 6 rfl (Gd.f1 rfl rfl rfl) (fun hc => p_fieldAddr fld_33_0 (gvt rfl hc)) ?_
  refine JH.wg 7 rfl (Gd.f1 rfl rfl rfl) (fun hc os' u' hv => q_load1 ty_24 (gvt rfl hc) (Mem.pub ((hr2.vis hv) 0 _ rfl))) ?_
  refine JH.pg 8 rfl (Gd.f1 rfl rfl rfl) (fun hc => p_len el_24 (gvt rfl hc)) ?_
  refine JH.pg 9 rfl (Gd.f1 rfl rfl rfl) (fun hc => p_move rfl) ?_
  refine JH.pg 10 rfl (Gd.f1 rfl rfl rfl) (fun hc => p_nilCheck (gvt rfl hc)) ?_
  refine JH.pg 11 rfl (Gd.f1 rfl rfl rfl) (fun hc => p_fieldAddr fld_32_0 (gvt rfl hc)) ?_
  refine JH.wg 12 rfl (Gd.f1 rfl rfl rfl) (fun hc os' u' hv => q_load1 ty_2 (gvt rfl hc) (Mem.pub ((hr1.vis hv) 0 _ rfl))) ?_
  refine JH.pg 13 rfl (Gd.f1 rfl rfl rfl) (fun hc => p_mul rfl (gvt rfl hc) (IntWalk.i64_in _ (by have := M.okR_bd (r := r) (by simpa using hc); omega))) ?_
  refine JH.pg 14 rfl (Gd.f1 rfl rfl rfl) (fun hc => p_neq (gvt rfl hc) (gvt rfl hc)) ?_
  refine JH.p 15 rfl (p_pickOr rfl rfl rfl) ?_
  refine JH.p 16 rfl (p_move rfl) ?_
  refine JH.pg 17 rfl (Gd.f1 rfl rfl rfl) (fun hc => p_move rfl) ?_
  refine JH.pg 18 rfl (Gd.f1 rfl rfl rfl) (fun hc => p_nilCheck (gvt rfl hc)) ?_
  refine JH.pg 19 rfl (Gd.f1 rfl rfl rfl) (fun hc => p_fieldAddr fld_33_1 (gvt rfl hc)) ?_
  refine JH.wg 20 rfl (Gd.f1 rfl rfl rfl) (fun hc os' u' hv => q_load1 ty_24 (gvt rfl hc) (Mem.pub ((hr2.vis hv) 1 _ rfl))) ?_
  refine JH.pg 21 rfl (Gd.f1 rfl rfl rfl) (fun hc => p_len el_24 (gvt rfl hc)) ?_
  refine JH.pg 22 rfl (Gd.f1 rfl rfl rfl) (fun hc => p_neq (gvt rfl hc) rfl) ?_
  refine JH.p 23 rfl (p_pickOr rfl rfl rfl) ?_
  refine JH.p 24 rfl (p_move rfl) ?_
  refine JH.pg 25 rfl (Gd.f1 rfl rfl rfl) (fun hc => p_move rfl) ?_
  refine JH.pg 26 rfl (Gd.f1 rfl rfl rfl) (fun hc => p_nilCheck (gvt rfl hc)) ?_
  refine JH.pg 27 rfl (Gd.f1 rfl rfl rfl) (fun hc => p_fieldAddr fld_33_2 (gvt rfl hc)) ?_
  refine JH.wg 28 rfl (Gd.f1 rfl rfl rfl) (fun hc os' u' hv => q_load1 ty_2 (gvt rfl hc) (Mem.pub ((hr2.vis hv) 2 _ rfl))) ?_
  refine JH.one (i := 29) (by kernel_rfl) ?_
  refine JHo.ge rfl (Gd.f1 rfl rfl rfl) (fun hc => e_callV fn_76 (opds_3 (gvt rfl hc) rfl rfl) (fun w hw => c_spec_l00In p.player 0 1 w)) ?_
  refine JH.pg 30 rfl (Gd.f1 rfl rfl rfl) (fun hc => p_not (gvt rfl hc)) ?_
  refine JH.p 31 rfl (p_pickOr rfl rfl rfl) ?_
  refine JH.done (by kernel_rfl) ?_
  refine Js.cond rfl (fun h3 => ?_) (fun h3 => ?_)
  ·
    have h3' := h3
    try simp only [Bool.or_eq_true, Bool.not_eq_true', decide_eq_false_iff_not] at h3'
    refine Js.seq ?_
    refine Js.region ?_
    refine JL.q (OpP.q (p_assign rfl)) ?_
    refine JL.nil ?_
    refine Js.ret (R := RV w (.bool (M.okP r p))) @Try.results103 (fun _ _ => rfl) (ResOk.tmp rfl ResOk.nil) (fun w1 hw => ?_)
    refine ⟨?_, hw.ext (Up.refl _ _)⟩
    rw [M.okP_no (by simpa [or_assoc] using h3)]; rfl
  ·
    have h3' := h3
    try simp only [Bool.or_eq_false_iff, Bool.not_eq_false', decide_eq_true_eq] at h3'
    obtain ⟨⟨⟨q1, q2⟩, q3⟩, q4⟩ : ((M.okR r = true ∧ (p.pits.length : Int) = 2 * r.pits) ∧ (p.stores.length : Int) = 2) ∧ M.betw p.player 0 1 = true := by simpa using h3
    refine Js.skip ?_
    refine Js.seq ?_
    refine Js.region ?_
    refine JL.q (OpP.q (p_move rfl)) ?_
    refine JL.q (OpP.q (p_nilCheck rfl)) ?_
    refine JL.q (OpP.q (p_fieldAddr fld_33_0 rfl)) ?_
    refine JL.q (q_load1 ty_24 rfl (Mem.pub (hr2 0 _ rfl))) ?_
    refine JL.e (e_callV fn_125 rfl (fun w hw => c_spec_l04Sum p.pits _ w (Ty.mono _ h2_0 hw.vis) (by omega))) ?_
    rintro _ _ _ ⟨rfl, rfl, rfl⟩ _
    refine JL.q (OpP.q (p_assign rfl)) ?_
    refine JL.nil ?_
    refine Js.seq ?_
    refine Js.region ?_
    refine JL.q (OpP.q (p_move rfl)) ?_
    refine JL.q (OpP.q (p_nilCheck rfl)) ?_
    refine JL.q (OpP.q (p_fieldAddr fld_33_1 rfl)) ?_
    refine JL.q (q_load1 ty_24 rfl (Mem.pub (hr2 1 _ rfl))) ?_
    refine JL.e (e_callV fn_125 rfl (fun w hw => c_spec_l04Sum p.stores _ w (Ty.mono _ h2_1 hw.vis) (by omega))) ?_
    rintro _ _ _ ⟨rfl, rfl, rfl⟩ _
    refine JL.q (OpP.q (p_assign rfl)) ?_
    refine JL.nil ?_
    refine Js.seq ?_
    refine Js.region ?_
    refine JL.q (OpP.q (p_move rfl)) ?_
    refine JL.q (OpP.q (p_geq rfl rfl)) ?_
    refine JL.q (OpP.q (p_move rfl)) ?_
    refine JL.g (Gd.t1 rfl rfl rfl) (fun hc => OpP.q (p_move rfl)) ?_
    refine JL.g (Gd.t1 rfl rfl rfl) (fun hc => OpP.q (p_geq (gvt rfl hc) rfl)) ?_
    refine JL.q (OpP.q (p_pickAnd rfl rfl rfl)) ?_
    refine JL.q (OpP.q (p_move rfl)) ?_
    refine JL.g (Gd.t1 rfl rfl rfl) (fun hc => OpP.q (p_move rfl)) ?_
    refine JL.g (Gd.t1 rfl rfl rfl) (fun hc => OpP.q (p_move rfl)) ?_
    refine JL.g (Gd.t1 rfl rfl rfl) (fun hc => OpP.q (p_add (gvt rfl hc) (gvt rfl hc) (IntWalk.i64_in _ (by have hc9 := hc; (try simp only [Bool.and_eq_true, decide_eq_true_eq] at hc9); omega)))) ?_
    refine JL.g (Gd.t1 rfl rfl rfl) (fun hc => OpP.q (p_leq (gvt rfl hc) rfl)) ?_
    refine JL.q (OpP.q (p_pickAnd rfl rfl rfl)) ?_
    refine JL.q (OpP.q (p_assign rfl)) ?_
    refine JL.nil ?_
    refine Js.ret (R := RV w (.bool (M.okP r p))) @Try.results103 (fun _ _ => rfl) (ResOk.tmp rfl ResOk.nil) (fun w1 hw => ?_)
    refine ⟨?_, hw.ext (Up.refl _ _)⟩
    rw [M.okP_yes4 q1 q2 q3 q4]; rfl

set_option maxRecDepth 100000 in
set_option maxHeartbeats 400000 in
theorem c_spec_l00Same (a : List Int) (v_a : Value) (b : List Int) (v_b : Value) (w : World) (h_a : (Ty.ints 2 a).ok w v_a) (h_b : (Ty.ints 2 b).ok w v_b) (r0 : a.length ≤ 4194304) (r1 : b.length ≤ 4194304) : RetV Try.prog 98 [v_a, v_b] w (.bool (decide (a = b))) := by
  obtain ⟨A1, c1, rfl, bl1, bh1⟩ := sl_form h_a
  obtain ⟨A2, c2, rfl, bl2, bh2⟩ := sl_form h_b
  refine enter @Try.func98 @Try.ntmps98 rfl rfl ?_
  refine Js.seq ?_
  refine Js.region ?_
  refine JL.q (OpP.q (p_assign rfl)) ?_
  refine JL.nil ?_
  refine Js.seq ?_
  refine Js.seq ?_
  refine Js.region ?_
  refine JL.q (OpP.q (p_move rfl)) ?_
  refine JL.q (OpP.q (p_len el_24 rfl)) ?_
  refine JL.q (OpP.q (p_move rfl)) ?_
  refine JL.q (OpP.q (p_len el_24 rfl)) ?_
  refine JL.q (OpP.q (p_neq rfl rfl)) ?_
  refine JL.nil ?_
  refine Js.cond rfl (fun h3 => ?_) (fun h3 => ?_)
  ·
    have h3' := h3
    try simp only [Bool.not_eq_true', decide_eq_false_iff_not] at h3'
    have e1 : decide (a = b) = false := by simp; rintro rfl; simp at h3
    refine Js.seq ?_
    refine Js.region ?_
    refine JL.q (OpP.q (p_assign rfl)) ?_
    refine JL.nil ?_
    refine Js.ret (R := RV w (.bool (decide (a = b)))) @Try.results98 (fun _ _ => rfl) (ResOk.tmp rfl ResOk.nil) (fun w1 hw => ?_)
    refine ⟨?_, hw.ext (Up.refl _ _)⟩
    simp [outV, e1]
  ·
    have h3' := h3
    try simp only [Bool.not_eq_false', decide_eq_true_eq] at h3'
    have hlen : a.length = b.length := by have := h3'; omega
    refine Js.skip ?_
    refine Js.seq ?_
    refine Js.seq ?_
    refine Js.region ?_
    refine JL.q (OpP.q (p_assign rfl)) ?_
    refine JL.nil ?_
    refine Js.block ?_
    refine Js.loop (fun l os u m => ∃ (k : Nat), l = [(0, .slice A1 a.length c1), (1, .slice A2 b.length c2), (5, .int .i64 (k : Int))] ∧ os = [] ∧ Up w.heap.size w u ∧ (k ≤ a.length) ∧ (M.Upto a b k) ∧ m = a.length - k) ⟨0, rfl, rfl, Up.refl _ _, by first | assumption | omega | rfl | (simp; done), by exact M.Upto.zero _ _, rfl⟩ ⟨rfl, rfl, rfl, trivial⟩ ?_
    · rintro _ _ u4 _ ⟨k, rfl, rfl, x4, hk, hU, rfl⟩
      refine Js.seq ?_
      refine Js.seq ?_
      refine Js.region ?_
      refine JL.q (OpP.q (p_move rfl)) ?_
      refine JL.q (OpP.q (p_move rfl)) ?_
      refine JL.q (OpP.q (p_len el_24 rfl)) ?_
      refine JL.q (OpP.q (p_lss rfl rfl)) ?_
      refine JL.nil ?_
      refine Js.cond rfl (fun h5 => ?_) (fun h5 => ?_)
      ·
        have h5' := h5
        try simp only [decide_eq_true_eq] at h5'
        refine Js.skip ?_
        refine Js.seq ?_
        refine Js.block ?_
        refine Js.seq ?_
        refine Js.drawn _ [] mixed_ (fun _ h => h) ?_
        refine JH.p 0 rfl (p_move rfl) ?_
        refine JH.p 1 rfl (p_move rfl) ?_
        obtain ⟨b6, o6, he6, hc6⟩ := ints_elem (Ty.mono _ h_a x4.vis) (i := k) (by omega)
        refine JH.p 2 rfl (p_indexAddr el_24 rfl rfl (by omega) (by omega) he6) ?_
        refine JH.w 3 rfl (fun os' u' hv => q_load1 ty_2 rfl (Mem.pub (hc6.vis hv))) ?_
        refine JH.p 4 rfl (p_move rfl) ?_
        refine JH.p 5 rfl (p_move rfl) ?_
        obtain ⟨b7, o7, he7, hc7⟩ := ints_elem (Ty.mono _ h_b x4.vis) (i := k) (by omega)
        refine JH.p 6 rfl (p_indexAddr el_24 rfl rfl (by omega) (by omega) he7) ?_
        refine JH.w 7 rfl (fun os' u' hv => q_load1 ty_2 rfl (Mem.pub (hc7.vis hv))) ?_
        refine JH.p 8 rfl (p_neq rfl rfl) ?_
        refine JH.done (by kernel_rfl) ?_
        refine Js.cond rfl (fun h8 => ?_) (fun h8 => ?_)
        ·
          have h8' := h8
          try simp only [Bool.not_eq_true', decide_eq_false_iff_not] at h8'
          have e1 : decide (a = b) = false := by simpa using M.ne_of_nth (a := a) (b := b) (k := k) (by simpa using h8)
          refine Js.seq ?_
          refine Js.region ?_
          refine JL.q (OpP.q (p_assign rfl)) ?_
          refine JL.nil ?_
          refine Js.ret (R := RV w (.bool (decide (a = b)))) @Try.results98 (fun _ _ => rfl) (ResOk.tmp rfl ResOk.nil) (fun w1 hw => ?_)
          refine ⟨?_, hw.ext (x4)⟩
          simp [outV, e1]
        ·
          have h8' := h8
          try simp only [Bool.not_eq_false', decide_eq_true_eq] at h8'
          have hab : M.nth a k = M.nth b k := by simpa using h8
          refine Js.skip ?_
          refine Js.blockEnd ?_
          refine Js.region ?_
          refine JL.q (OpP.q (p_move rfl)) ?_
          refine JL.q (OpP.q (p_add rfl rfl (IntWalk.i64_in _ (by omega)))) ?_
          refine JL.q (OpP.q (p_assign rfl)) ?_
          refine JL.nil ?_
          exact Js.again ⟨k + 1, rfl, rfl, x4, by first | assumption | omega | rfl | (simp; done), by exact hU.step (by omega) (by omega) hab, rfl⟩ (by omega) ⟨rfl, rfl, rfl, trivial⟩
      ·
        have h5' := h5
        try simp only [decide_eq_false_iff_not, Int.not_lt] at h5'
        have e1 : a = b := hU.done (by omega) (by omega)
        refine Js.exit (fun _ _ => rfl) ?_
        refine Js.seq ?_
        refine Js.region ?_
        refine JL.q (OpP.q (p_assign rfl)) ?_
        refine JL.nil ?_
        refine Js.ret (R := RV w (.bool (decide (a = b)))) @Try.results98 (fun _ _ => rfl) (ResOk.tmp rfl ResOk.nil) (fun w1 hw => ?_)
        refine ⟨?_, hw.ext (x4)⟩
        simp [outV, e1]

set_option maxRecDepth 100000 in
set_option maxHeartbeats 400000 in
theorem c_spec_l04Same (a : M.Pos) (v_a : Value) (b : M.Pos) (v_b : Value) (w : World) (h_a : (Ty.ref (cPosition a)).ok w v_a) (h_b : (Ty.ref (cPosition b)).ok w v_b) (r0 : a.pits.length ≤ 4194304) (r1 : a.stores.length ≤ 4194304) (r2 : b.pits.length ≤ 4194304) (r3 : b.stores.length ≤ 4194304) : RetV Try.prog 97 [v_a, v_b] w (.bool (M.sameP a b)) := by
  obtain ⟨b1, o1, A1_0, c1_0, A1_1, c1_1, rfl, hr1, h1_0, h1_1, bl1_0, bh1_0, bl1_1, bh1_1⟩ := ref_Position h_a
  obtain ⟨b2, o2, A2_0, c2_0, A2_1, c2_1, rfl, hr2, h2_0, h2_1, bl2_0, bh2_0, bl2_1, bh2_1⟩ := ref_Position h_b
  refine enter @Try.func97 @Try.ntmps97 rfl rfl ?_
  refine Js.seq ?_
  refine Js.region ?_
  refine JL.q (OpP.q (p_assign rfl)) ?_
  refine JL.nil ?_
  refine Js.seq ?_
  refine Js.drawn _ [] mixed_ (fun _ h => h) ?_
  refine JH.p 0 rfl (p_move rfl) ?_
  refine JH.p 1 rfl (p_nilCheck rfl) ?_
  refine JH.p 2 rfl (p_fieldAddr fld_33_0 rfl) ?_
  refine JH.w 3 rfl (fun os' u' hv => q_load1 ty_24 rfl (Mem.pub ((hr1.vis hv) 0 _ rfl))) ?_
  refine JH.p 4 rfl (p_move rfl) ?_
  refine JH.p 5 rfl (p_nilCheck rfl) ?_
  refine JH.p 6 rfl (p_fieldAddr fld_33_0 rfl) ?_
  refine JH.w 7 rfl (fun os' u' hv => q_load1 ty_24 rfl (Mem.pub ((hr2.vis hv) 0 _ rfl))) ?_
  refine JH.one (i := 8) (by kernel_rfl) ?_
  refine JHo.e rfl (e_callV fn_98 rfl (fun w hw => c_spec_l00Same a.pits _ b.pits _ w (Ty.mono _ h1_0 hw.vis) (Ty.mono _ h2_0 hw.vis) (by omega) (by omega))) (.inl rfl) ?_
  rintro _ _ _ ⟨rfl, rfl, rfl⟩ _
  refine JH.p 9 rfl (p_move rfl) ?_
  refine JH.pg 10 rfl (Gd.t1 rfl rfl rfl) (fun hc => p_move rfl) ?_
  refine JH.pg 11 rfl (Gd.t1 rfl rfl rfl) (fun hc => p_nilCheck (gvt rfl hc)) ?_
  refine JH.pg 12 rfl (Gd.t1 rfl rfl rfl) (fun hc => p_fieldAddr fld_33_1 (gvt rfl hc)) ?_
  refine JH.wg 13 rfl (Gd.t1 rfl rfl rfl) (fun hc os' u' hv => q_load1 ty_24 (gvt rfl hc) (Mem.pub ((hr1.vis hv) 1 _ rfl))) ?_
  refine JH.pg 14 rfl (Gd.t1 rfl rfl rfl) (fun hc => p_move rfl) ?_
  refine JH.pg 15 rfl (Gd.t1 rfl rfl rfl) (fun hc => p_nilCheck (gvt rfl hc)) ?_
  refine JH.pg 16 rfl (Gd.t1 rfl rfl rfl) (fun hc => p_fieldAddr fld_33_1 (gvt rfl hc)) ?_
  refine JH.wg 17 rfl (Gd.t1 rfl rfl rfl) (fun hc os' u' hv => q_load1 ty_24 (gvt rfl hc) (Mem.pub ((hr2.vis hv) 1 _ rfl))) ?_
  refine JH.one (i := 18) (by kernel_rfl) ?_
  refine JHo.ge rfl (Gd.t1 rfl rfl rfl) (fun hc => e_callV fn_98 (opds_2 (gvt rfl hc) (gvt rfl hc)) (fun w hw => c_spec_l00Same a.stores _ b.stores _ w (Ty.mono _ h1_1 hw.vis) (Ty.mono _ h2_1 hw.vis) (by have hc9 := hc; (try simp only [decide_eq_true_eq] at hc9); omega) (by have hc9 := hc; (try simp only [decide_eq_true_eq] at hc9); omega))) ?_
  refine JH.p 19 rfl (p_pickAnd rfl rfl rfl) ?_
  refine JH.p 20 rfl (p_move rfl) ?_
  refine JH.pg 21 rfl (Gd.t1 rfl rfl rfl) (fun hc => p_move rfl) ?_
  refine JH.pg 22 rfl (Gd.t1 rfl rfl rfl) (fun hc => p_nilCheck (gvt rfl hc)) ?_
  refine JH.pg 23 rfl (Gd.t1 rfl rfl rfl) (fun hc => p_fieldAddr fld_33_2 (gvt rfl hc)) ?_
  refine JH.wg 24 rfl (Gd.t1 rfl rfl rfl) (fun hc os' u' hv => q_load1 ty_2 (gvt rfl hc) (Mem.pub ((hr1.vis hv) 2 _ rfl))) ?_
  refine JH.pg 25 rfl (Gd.t1 rfl rfl rfl) (fun hc => p_move rfl) ?_
  refine JH.pg 26 rfl (Gd.t1 rfl rfl rfl) (fun hc => p_nilCheck (gvt rfl hc)) ?_
  refine JH.pg 27 rfl (Gd.t1 rfl rfl rfl) (fun hc => p_fieldAddr fld_33_2 (gvt rfl hc)) ?_
  refine JH.wg 28 rfl (Gd.t1 rfl rfl rfl) (fun hc os' u' hv => q_load1 ty_2 (gvt rfl hc) (Mem.pub ((hr2.vis hv) 2 _ rfl))) ?_
  refine JH.pg 29 rfl (Gd.t1 rfl rfl rfl) (fun hc => p_eql (gvt rfl hc) (gvt rfl hc)) ?_
  refine JH.p 30 rfl (p_pickAnd rfl rfl rfl) ?_
  refine JH.p 31 rfl (p_assign rfl) ?_
  refine JH.done (by kernel_rfl) ?_
  refine Js.ret (R := RV w (.bool (M.sameP a b))) @Try.results97 (fun _ _ => rfl) (ResOk.tmp rfl ResOk.nil) (fun w1 hw => ?_)
  refine ⟨?_, hw.ext (Up.refl _ _)⟩
  simp [outV, M.sameP, Bool.and_comm, Bool.and_assoc, Bool.and_left_comm]

set_option maxRecDepth 100000 in
set_option maxHeartbeats 400000 in
theorem c_spec_l00Own (list : List Int) (v_list : Value) (w : World) (h_list : (Ty.ints 2 list).ok w v_list) (r0 : list.length ≤ 4194304) : Ret Try.prog 80 [v_list] w (Ty.ints 2 list) := by
  obtain ⟨A1, c1, rfl, bl1, bh1⟩ := sl_form h_list
  refine enter @Try.func80 @Try.ntmps80 rfl rfl ?_
  refine Js.seq ?_
  refine Js.region ?_
  refine JL.q (OpP.q (p_assign rfl)) ?_
  refine JL.nil ?_
  refine Js.seq ?_
  refine Js.region ?_
  refine JL.e (e_buildSlice (vs := []) el_24 rfl rfl rfl rfl rfl rfl) ?_
  rintro _ _ _ ⟨b2, rfl, rfl, hl3, rfl⟩ _
  refine JL.q (OpP.q (p_move rfl)) ?_
  refine JL.e (e_append (i := 0) (n' := list.length) (vs' := ints_ list) el_24 rfl rfl rfl rfl (src_ints und_24 h_list) (by omega) (by omega) (by first | omega | (simp only [List.length_append, List.length_cons, List.length_nil] <;> omega)) (by simp [ints_])) ?_
  rintro v4 _ _ ⟨⟨g5, rfl⟩, rfl⟩ _
  refine JL.fact (row_form' (i := 0) rfl) (fun hf6 => ?_)
  obtain ⟨A6, c6, rfl, bl6, bh6⟩ := hf6
  refine JL.q (OpP.q (p_assign rfl)) ?_
  refine JL.nil ?_
  refine Js.ret (R := RO w (Ty.ints 2 list)) @Try.results80 (fun _ _ => rfl) (ResOk.tmp rfl ResOk.nil) (fun w1 hw => ?_)
  have hx := hw.ext (Up.refl _ _)
  exact ret_own (ps := [(0, (Value.ownBlock (.slice A6 list.length c6)).toList)]) hw hx (ints_row (xs := list) (hw.pr (i := 0) rfl) rfl) (Pick.cons (j := 0) rfl (List.sublist_append_left _ _) rfl Pick.nil) (by simp [List.flatten, outV])

set_option maxRecDepth 100000 in
set_option maxHeartbeats 400000 in
theorem c_spec_l04Own (p : M.Pos) (v_p : Value) (w : World) (h_p : (Ty.ref (cPosition p)).ok w v_p) (r0 : p.pits.length ≤ 4194304) (r1 : p.stores.length ≤ 4194304) : Ret Try.prog 81 [v_p] w (Ty.agg (cPosition p)) := by
  obtain ⟨b1, o1, A1_0, c1_0, A1_1, c1_1, rfl, hr1, h1_0, h1_1, bl1_0, bh1_0, bl1_1, bh1_1⟩ := ref_Position h_p
  refine enter @Try.func81 @Try.ntmps81 rfl rfl ?_
  refine Js.seq ?_
  refine Js.region ?_
  refine JL.e (e_alloc zero_33) ?_
  rintro _ _ _ ⟨b2, rfl, rfl, rfl⟩ _
  refine JL.nil ?_
  refine Js.seq ?_
  refine Js.drawn _ [15] mixed_ (fun _ h => h) ?_
  refine JH.p 0 rfl (p_move rfl) ?_
  refine JH.p 1 rfl (p_nilCheck rfl) ?_
  refine JH.p 2 rfl (p_fieldAddr fld_33_0 rfl) ?_
  refine JH.w 3 rfl (fun os' u' hv => q_load1 ty_24 rfl (Mem.pub ((hr1.vis hv) 0 _ rfl))) ?_
  refine JH.p 5 rfl (p_move rfl) ?_
  refine JH.p 6 rfl (p_nilCheck rfl) ?_
  refine JH.p 7 rfl (p_fieldAddr fld_33_1 rfl) ?_
  refine JH.w 8 rfl (fun os' u' hv => q_load1 ty_24 rfl (Mem.pub ((hr1.vis hv) 1 _ rfl))) ?_
  refine JH.p 10 rfl (p_move rfl) ?_
  refine JH.p 11 rfl (p_nilCheck rfl) ?_
  refine JH.p 12 rfl (p_fieldAddr fld_33_2 rfl) ?_
  refine JH.w 13 rfl (fun os' u' hv => q_load1 ty_2 rfl (Mem.pub ((hr1.vis hv) 2 _ rfl))) ?_
  refine JH.one (i := 4) (by kernel_rfl) ?_
  refine JHo.e rfl (e_callO fn_80 rfl (Spl.ints _ _) (fun w hw => c_spec_l00Own p.pits _ w (Ty.mono _ h1_0 hw.vis) (by omega))) (.inl rfl) ?_
  rintro v3 _ _ ⟨_, hR4, rfl, rfl⟩ _
  obtain ⟨A5, c5, rfl, rfl, bl5, bh5⟩ := hR4
  refine JH.one (i := 9) (by kernel_rfl) ?_
  refine JHo.e rfl (e_callO fn_80 rfl (Spl.ints _ _) (fun w hw => c_spec_l00Own p.stores _ w (Ty.mono _ h1_1 hw.vis) (by omega))) (.inl rfl) ?_
  rintro v6 _ _ ⟨_, hR7, rfl, rfl⟩ _
  obtain ⟨A8, c8, rfl, rfl, bl8, bh8⟩ := hR7
  refine JH.p 14 rfl (p_build zero_33 flds_33 rfl rfl) ?_
  refine JH.one (i := 15) (by kernel_rfl) ?_
  refine JHo.s rfl (e_store (i := 2) (c' := [.slice A5 p.pits.length c5, .slice A8 p.stores.length c8, .int .i64 p.player]) ty_33 rfl rfl rfl rfl rfl rfl rfl rfl) (.inr rfl) ?_
  rintro _ _ _ ⟨rfl, rfl⟩ _
  refine JH.done (by kernel_rfl) ?_
  refine Js.ret (R := RO w (Ty.agg (cPosition p))) @Try.results81 (fun _ _ => rfl) (ResOk.cell (res_box (i := 2) ty_33 rfl rfl rfl rfl rfl) ResOk.nil) (fun w1 hw => ?_)
  have hx := hw.ext (Up.refl _ _)
  exact ret_own (ps := [(1, (Value.ownBlock (.slice A5 p.pits.length c5)).toList), (0, (Value.ownBlock (.slice A8 p.stores.length c8)).toList)]) hw hx ⟨_, rfl, ⟨_, _, rfl, (ints_row (xs := p.pits) (hw.pr (i := 1) rfl) rfl), ⟨_, _, rfl, (ints_row (xs := p.stores) (hw.pr (i := 0) rfl) rfl), ⟨_, _, rfl, ⟨rfl, rfl⟩, rfl⟩⟩⟩⟩ (Pick.cons (j := 1) rfl (List.sublist_append_left _ _) rfl (Pick.cons (j := 0) rfl (List.sublist_append_left _ _) rfl Pick.nil)) (by simp [List.flatten, outV])

set_option maxRecDepth 100000 in
set_option maxHeartbeats 400000 in
theorem c_spec_l02Owner (r : M.Rul) (v_r : Value) (pit : Int) (w : World) (h_r : (Ty.ref (cRules r)).ok w v_r) (r0 : 2 ≤ r.pits) (r1 : r.pits ≤ 8) (r2 : 0 ≤ pit) (r3 : pit ≤ 1000) : RetV Try.prog 145 [v_r, .int .i64 pit] w (.int .i64 (M.owner r pit)) := by
  obtain ⟨b1, o1, rfl, hr1⟩ := ref_Rules h_r
  refine enter @Try.func145 @Try.ntmps145 rfl rfl ?_
  refine Js.seq ?_
  refine Js.region ?_
  refine JL.q (OpP.q (p_assign rfl)) ?_
  refine JL.nil ?_
  refine Js.seq ?_
  refine Js.region ?_
  refine JL.q (OpP.q (p_move rfl)) ?_
  refine JL.q (OpP.q (p_move rfl)) ?_
  refine JL.q (OpP.q (p_nilCheck rfl)) ?_
  refine JL.q (OpP.q (p_fieldAddr fld_32_0 rfl)) ?_
  refine JL.q (q_load1 ty_2 rfl (Mem.pub (hr1 0 _ rfl))) ?_
  refine JL.q (OpP.q (p_quo rfl rfl (by omega) (wrap_quo (by omega) (by omega) (by omega)))) ?_
  refine JL.q (OpP.q (p_assign rfl)) ?_
  refine JL.nil ?_
  refine Js.ret (R := RV w (.int .i64 (M.owner r pit))) @Try.results145 (fun _ _ => rfl) (ResOk.tmp rfl ResOk.nil) (fun w1 hw => ?_)
  refine ⟨?_, hw.ext (Up.refl _ _)⟩
  rfl

set_option maxRecDepth 100000 in
set_option maxHeartbeats 400000 in
theorem c_spec_l02Opposite (r : M.Rul) (v_r : Value) (pit : Int) (w : World) (h_r : (Ty.ref (cRules r)).ok w v_r) (r0 : 2 ≤ r.pits) (r1 : r.pits ≤ 8) (r2 : 0 ≤ pit) (r3 : pit ≤ 1000) : RetV Try.prog 153 [v_r, .int .i64 pit] w (.int .i64 (M.opp r pit)) := by
  obtain ⟨b1, o1, rfl, hr1⟩ := ref_Rules h_r
  refine enter @Try.func153 @Try.ntmps153 rfl rfl ?_
  refine Js.seq ?_
  refine Js.region ?_
  refine JL.q (OpP.q (p_assign rfl)) ?_
  refine JL.nil ?_
  refine Js.seq ?_
  refine Js.region ?_
  refine JL.q (OpP.q (p_move rfl)) ?_
  refine JL.q (OpP.q (p_nilCheck rfl)) ?_
  refine JL.q (OpP.q (p_fieldAddr fld_32_0 rfl)) ?_
  refine JL.q (q_load1 ty_2 rfl (Mem.pub (hr1 0 _ rfl))) ?_
  refine JL.q (OpP.q (p_mul rfl rfl (IntWalk.i64_in _ (by omega)))) ?_
  refine JL.q (OpP.q (p_sub rfl rfl (IntWalk.i64_in _ (by omega)))) ?_
  refine JL.q (OpP.q (p_move rfl)) ?_
  refine JL.q (OpP.q (p_sub rfl rfl (IntWalk.i64_in _ (by omega)))) ?_
  refine JL.q (OpP.q (p_assign rfl)) ?_
  refine JL.nil ?_
  refine Js.ret (R := RV w (.int .i64 (M.opp r pit))) @Try.results153 (fun _ _ => rfl) (ResOk.tmp rfl ResOk.nil) (fun w1 hw => ?_)
  refine ⟨?_, hw.ext (Up.refl _ _)⟩
  rfl

set_option maxRecDepth 100000 in
set_option maxHeartbeats 400000 in
theorem c_spec_l02Next (r : M.Rul) (v_r : Value) (pit : Int) (w : World) (h_r : (Ty.ref (cRules r)).ok w v_r) (r0 : 2 ≤ r.pits) (r1 : r.pits ≤ 8) (r2 : -1 ≤ pit) (r3 : pit ≤ 1000) : RetV Try.prog 165 [v_r, .int .i64 pit] w (.int .i64 ((pit + 1) % (2 * r.pits))) := by
  obtain ⟨b1, o1, rfl, hr1⟩ := ref_Rules h_r
  refine enter @Try.func165 @Try.ntmps165 rfl rfl ?_
  refine Js.seq ?_
  refine Js.region ?_
  refine JL.q (OpP.q (p_assign rfl)) ?_
  refine JL.nil ?_
  refine Js.seq ?_
  refine Js.region ?_
  refine JL.q (OpP.q (p_move rfl)) ?_
  refine JL.q (OpP.q (p_add rfl rfl (IntWalk.i64_in _ (by omega)))) ?_
  refine JL.q (OpP.q (p_move rfl)) ?_
  refine JL.q (OpP.q (p_nilCheck rfl)) ?_
  refine JL.q (OpP.q (p_fieldAddr fld_32_0 rfl)) ?_
  refine JL.q (q_load1 ty_2 rfl (Mem.pub (hr1 0 _ rfl))) ?_
  refine JL.q (OpP.q (p_mul rfl rfl (IntWalk.i64_in _ (by omega)))) ?_
  refine JL.q (OpP.q (p_rem rfl rfl (by omega) (Int.tmod_eq_emod_of_nonneg (by omega)))) ?_
  refine JL.q (OpP.q (p_assign rfl)) ?_
  refine JL.nil ?_
  refine Js.ret (R := RV w (.int .i64 ((pit + 1) % (2 * r.pits)))) @Try.results165 (fun _ _ => rfl) (ResOk.tmp rfl ResOk.nil) (fun w1 hw => ?_)
  refine ⟨?_, hw.ext (Up.refl _ _)⟩
  first | rfl | (simp [outV]; done)

set_option maxRecDepth 100000 in
set_option maxHeartbeats 400000 in
theorem c_spec_l05Next (r : M.Rul) (v_r : Value) (player : Int) (place : Int) (w : World) (h_r : (Ty.ref (cRules r)).ok w v_r) (r0 : 2 ≤ r.pits) (r1 : r.pits ≤ 8) (r2 : player = 0 ∨ player = 1) (r3 : -1 ≤ place) (r4 : place ≤ 1000) : RetV Try.prog 161 [v_r, .int .i64 player, .int .i64 place] w (.int .i64 (M.after r player place)) := by
  have hq := M.mul_bd r2 r0 r1
  obtain ⟨b1, o1, rfl, hr1⟩ := ref_Rules h_r
  refine enter @Try.func161 @Try.ntmps161 rfl rfl ?_
  refine Js.seq ?_
  refine Js.region ?_
  refine JL.q (OpP.q (p_assign rfl)) ?_
  refine JL.nil ?_
  refine Js.seq ?_
  refine Js.region ?_
  refine JL.q (OpP.q (p_move rfl)) ?_
  refine JL.q (OpP.q (p_add rfl rfl (IntWalk.i64_in _ (by omega)))) ?_
  refine JL.q (OpP.q (p_move rfl)) ?_
  refine JL.q (OpP.q (p_nilCheck rfl)) ?_
  refine JL.q (OpP.q (p_fieldAddr fld_32_0 rfl)) ?_
  refine JL.q (q_load1 ty_2 rfl (Mem.pub (hr1 0 _ rfl))) ?_
  refine JL.q (OpP.q (p_mul rfl rfl (IntWalk.i64_in _ (by omega)))) ?_
  refine JL.q (OpP.q (p_sub rfl rfl (IntWalk.i64_in _ (by omega)))) ?_
  refine JL.q (OpP.q (p_assign rfl)) ?_
  refine JL.nil ?_
  refine Js.seq ?_
  refine Js.seq ?_
  refine Js.region ?_
  refine JL.q (OpP.q (p_move rfl)) ?_
  refine JL.q (OpP.q (p_eql rfl rfl)) ?_
  refine JL.nil ?_
  refine Js.cond rfl (fun h2 => ?_) (fun h2 => ?_)
  ·
    have h2' := h2
    try simp only [decide_eq_true_eq] at h2'
    have e1 := M.after_m1 (r := r) (player := player) (place := place) (by simpa using h2) (by omega)
    refine Js.seq ?_
    refine Js.region ?_
    refine JL.q (OpP.q (p_move rfl)) ?_
    refine JL.q (OpP.q (p_move rfl)) ?_
    refine JL.e (e_callV fn_165 rfl (fun w hw => c_spec_l02Next r _ (((player + 1) * r.pits) - 1) w ⟨_, _, [.int .i64 r.pits, .int .i64 r.seeds, .bool r.stores, .bool r.skip, .bool r.relay, .bool r.feed, .bool r.again, .int .i64 r.capture, .int .i64 r.slam], rfl, ⟨rfl, rfl, rfl, rfl, rfl, rfl, rfl, rfl, rfl, trivial⟩, (hr1.vis hw.vis)⟩ (by omega) (by omega) (by omega) (by omega))) ?_
    rintro _ _ _ ⟨rfl, rfl, rfl⟩ _
    refine JL.q (OpP.q (p_assign rfl)) ?_
    refine JL.nil ?_
    refine Js.ret (R := RV w (.int .i64 (M.after r player place))) @Try.results161 (fun _ _ => rfl) (ResOk.tmp rfl ResOk.nil) (fun w1 hw => ?_)
    refine ⟨?_, hw.ext (Up.refl _ _)⟩
    rw [e1]; rfl
  ·
    have h2' := h2
    try simp only [decide_eq_false_iff_not] at h2'
    refine Js.skip ?_
    refine Js.seq ?_
    refine Js.seq ?_
    refine Js.region ?_
    refine JL.q (OpP.q (p_move rfl)) ?_
    refine JL.q (OpP.q (p_nilCheck rfl)) ?_
    refine JL.q (OpP.q (p_fieldAddr fld_32_2 rfl)) ?_
    refine JL.q (q_load1 ty_4 rfl (Mem.pub (hr1 2 _ rfl))) ?_
    refine JL.q (OpP.q (p_move rfl)) ?_
    refine JL.g (Gd.t1 rfl rfl rfl) (fun hc => OpP.q (p_move rfl)) ?_
    refine JL.g (Gd.t1 rfl rfl rfl) (fun hc => OpP.q (p_move rfl)) ?_
    refine JL.g (Gd.t1 rfl rfl rfl) (fun hc => OpP.q (p_eql (gvt rfl hc) (gvt rfl hc))) ?_
    refine JL.q (OpP.q (p_pickAnd rfl rfl rfl)) ?_
    refine JL.nil ?_
    refine Js.cond rfl (fun h3 => ?_) (fun h3 => ?_)
    ·
      have h3' := h3
      try simp only [Bool.and_eq_true, decide_eq_true_eq] at h3'
      have e1 := M.after_end (r := r) (player := player) (place := place) (by simpa using h3)
      refine Js.seq ?_
      refine Js.region ?_
      refine JL.q (OpP.q (p_assign rfl)) ?_
      refine JL.nil ?_
      refine Js.ret (R := RV w (.int .i64 (M.after r player place))) @Try.results161 (fun _ _ => rfl) (ResOk.tmp rfl ResOk.nil) (fun w1 hw => ?_)
      refine ⟨?_, hw.ext (Up.refl _ _)⟩
      rw [e1]; rfl
    ·
      have h3' := h3
      try simp only [Bool.and_eq_false_iff, decide_eq_false_iff_not] at h3'
      have e1 := M.after_else (r := r) (player := player) (place := place) (by simpa using h3) (by omega)
      refine Js.skip ?_
      refine Js.seq ?_
      refine Js.region ?_
      refine JL.q (OpP.q (p_move rfl)) ?_
      refine JL.q (OpP.q (p_move rfl)) ?_
      refine JL.e (e_callV fn_165 rfl (fun w hw => c_spec_l02Next r _ place w ⟨_, _, [.int .i64 r.pits, .int .i64 r.seeds, .bool r.stores, .bool r.skip, .bool r.relay, .bool r.feed, .bool r.again, .int .i64 r.capture, .int .i64 r.slam], rfl, ⟨rfl, rfl, rfl, rfl, rfl, rfl, rfl, rfl, rfl, trivial⟩, (hr1.vis hw.vis)⟩ (by omega) (by omega) (by omega) (by omega))) ?_
      rintro _ _ _ ⟨rfl, rfl, rfl⟩ _
      refine JL.q (OpP.q (p_assign rfl)) ?_
      refine JL.nil ?_
      refine Js.ret (R := RV w (.int .i64 (M.after r player place))) @Try.results161 (fun _ _ => rfl) (ResOk.tmp rfl ResOk.nil) (fun w1 hw => ?_)
      refine ⟨?_, hw.ext (Up.refl _ _)⟩
      rw [e1]; rfl

set_option maxRecDepth 100000 in
set_option maxHeartbeats 400000 in
theorem c_spec_l04Side (r : M.Rul) (v_r : Value) (pits : List Int) (v_pits : Value) (player : Int) (w : World) (h_r : (Ty.ref (cRules r)).ok w v_r) (h_pits : (Ty.ints 2 pits).ok w v_pits) (r0 : 2 ≤ r.pits) (r1 : r.pits ≤ 8) (r2 : player = 0 ∨ player = 1) (r3 : (pits.length : Int) = 2 * r.pits) (r4 : M.allOk pits = true) : RetV Try.prog 130 [v_r, v_pits, .int .i64 player] w (.int .i64 (M.side r pits player)) := by
  have hq := M.mul_bd r2 r0 r1
  have hsp := M.side_part (ps := pits) (r := r) (player := player) (by omega)
  obtain ⟨b1, o1, rfl, hr1⟩ := ref_Rules h_r
  obtain ⟨A2, c2, rfl, bl2, bh2⟩ := sl_form h_pits
  refine enter @Try.func130 @Try.ntmps130 rfl rfl ?_
  refine Js.seq ?_
  refine Js.region ?_
  refine JL.q (OpP.q (p_assign rfl)) ?_
  refine JL.nil ?_
  refine Js.seq ?_
  refine Js.region ?_
  refine JL.q (OpP.q (p_assign rfl)) ?_
  refine JL.nil ?_
  refine Js.seq ?_
  refine Js.seq ?_
  refine Js.region ?_
  refine JL.q (OpP.q (p_move rfl)) ?_
  refine JL.q (OpP.q (p_move rfl)) ?_
  refine JL.q (OpP.q (p_nilCheck rfl)) ?_
  refine JL.q (OpP.q (p_fieldAddr fld_32_0 rfl)) ?_
  refine JL.q (q_load1 ty_2 rfl (Mem.pub (hr1 0 _ rfl))) ?_
  refine JL.q (OpP.q (p_mul rfl rfl (IntWalk.i64_in _ (by omega)))) ?_
  refine JL.q (OpP.q (p_assign rfl)) ?_
  refine JL.nil ?_
  refine Js.block ?_
  refine Js.loop (fun l os u m => ∃ (k t : Int), l = [(0, .pointer (some ⟨b1, o1, none⟩)), (1, .slice A2 pits.length c2), (2, .int .i64 player), (7, .int .i64 t), (8, .int .i64 k)] ∧ os = [] ∧ Up w.heap.size w u ∧ (t + M.part pits k ((player + 1) * r.pits) = M.side r pits player) ∧ (player * r.pits ≤ k) ∧ (k ≤ (player + 1) * r.pits) ∧ (0 ≤ t) ∧ (t ≤ 96 * (k - player * r.pits)) ∧ m = ((player + 1) * r.pits - k).toNat) ⟨player * r.pits, 0, rfl, rfl, Up.refl _ _, by rw [hsp]; omega, by first | assumption | omega | rfl | (simp; done), by first | assumption | omega | rfl | (simp; done), by first | assumption | omega | rfl | (simp; done), by first | assumption | omega | rfl | (simp; done), rfl⟩ ⟨rfl, rfl, rfl, rfl, rfl, trivial⟩ ?_
  · rintro _ _ u3 _ ⟨k, t, rfl, rfl, x3, hS, k0, k1, t0, t1, rfl⟩
    have hv := M.allOk_nth r4 k.toNat
    refine Js.seq ?_
    refine Js.seq ?_
    refine Js.region ?_
    refine JL.q (OpP.q (p_move rfl)) ?_
    refine JL.q (OpP.q (p_move rfl)) ?_
    refine JL.q (OpP.q (p_add rfl rfl (IntWalk.i64_in _ (by omega)))) ?_
    refine JL.q (OpP.q (p_move rfl)) ?_
    refine JL.q (OpP.q (p_nilCheck rfl)) ?_
    refine JL.q (OpP.q (p_fieldAddr fld_32_0 rfl)) ?_
    refine JL.q (q_load1 ty_2 rfl (Mem.pub ((hr1.vis x3.vis) 0 _ rfl))) ?_
    refine JL.q (OpP.q (p_mul rfl rfl (IntWalk.i64_in _ (by omega)))) ?_
    refine JL.q (OpP.q (p_lss rfl rfl)) ?_
    refine JL.nil ?_
    refine Js.cond rfl (fun h4 => ?_) (fun h4 => ?_)
    ·
      have h4' := h4
      try simp only [decide_eq_true_eq] at h4'
      refine Js.skip ?_
      refine Js.seq ?_
      refine Js.block ?_
      refine Js.region ?_
      refine JL.q (OpP.q (p_move rfl)) ?_
      refine JL.q (OpP.q (p_move rfl)) ?_
      refine JL.q (OpP.q (p_move rfl)) ?_
      obtain ⟨b5, o5, he5, hc5⟩ := ints_elem (Ty.mono _ h_pits x3.vis) (i := k.toNat) (by omega)
      refine JL.q (OpP.q (p_indexAddr el_24 rfl rfl (by omega) (by omega) he5)) ?_
      refine JL.q (q_load1 ty_2 rfl (Mem.pub hc5)) ?_
      refine JL.q (OpP.q (p_add rfl rfl (IntWalk.i64_in _ (by omega)))) ?_
      refine JL.q (OpP.q (p_assign rfl)) ?_
      refine JL.nil ?_
      refine Js.blockEnd ?_
      refine Js.region ?_
      refine JL.q (OpP.q (p_move rfl)) ?_
      refine JL.q (OpP.q (p_add rfl rfl (IntWalk.i64_in _ (by omega)))) ?_
      refine JL.q (OpP.q (p_assign rfl)) ?_
      refine JL.nil ?_
      exact Js.again ⟨k + 1, t + (M.nth pits k.toNat), rfl, rfl, x3, by rw [M.part_step (by omega) (by omega) (by omega)] at hS; simp only [M.getI] at hS; omega, by first | assumption | omega | rfl | (simp; done), by first | assumption | omega | rfl | (simp; done), by first | assumption | omega | rfl | (simp; done), by first | assumption | omega | rfl | (simp; done), rfl⟩ (by omega) ⟨rfl, rfl, rfl, rfl, rfl, trivial⟩
    ·
      have h4' := h4
      try simp only [decide_eq_false_iff_not, Int.not_lt] at h4'
      have e1 : M.side r pits player = t := by rw [M.part_end (by omega)] at hS; omega
      refine Js.exit (fun _ _ => rfl) ?_
      refine Js.seq ?_
      refine Js.region ?_
      refine JL.q (OpP.q (p_move rfl)) ?_
      refine JL.q (OpP.q (p_assign rfl)) ?_
      refine JL.nil ?_
      refine Js.ret (R := RV w (.int .i64 (M.side r pits player))) @Try.results130 (fun _ _ => rfl) (ResOk.tmp rfl ResOk.nil) (fun w1 hw => ?_)
      refine ⟨?_, hw.ext (x3)⟩
      rw [e1]; rfl

set_option maxRecDepth 100000 in
set_option maxHeartbeats 400000 in
theorem c_spec_l05Code (r : M.Rul) (v_r : Value) (p : M.Pos) (v_p : Value) (move : Int) (w : World) (h_r : (Ty.ref (cRules r)).ok w v_r) (h_p : (Ty.ref (cPosition p)).ok w v_p) (r0 : p.pits.length ≤ 4194304) (r1 : p.stores.length ≤ 4194304) : RetV Try.prog 142 [v_r, v_p, .int .i64 move] w (.int .i64 (M.sowCode r p move)) := by
  obtain ⟨b1, o1, rfl, hr1⟩ := ref_Rules h_r
  obtain ⟨b2, o2, A2_0, c2_0, A2_1, c2_1, rfl, hr2, h2_0, h2_1, bl2_0, bh2_0, bl2_1, bh2_1⟩ := ref_Position h_p
  refine enter @Try.func142 @Try.ntmps142 rfl rfl ?_
  refine Js.seq ?_
  refine Js.region ?_
  refine JL.q (OpP.q (p_assign rfl)) ?_
  refine JL.nil ?_
  refine Js.seq ?_
  refine Js.seq ?_
  refine Js.region ?_
  refine JL.q (OpP.q (p_move rfl)) ?_
  refine JL.q (OpP.q (p_move rfl)) ?_
  refine JL.e (e_callV fn_103 rfl (fun w hw => c_spec_l04Ok r _ p _ w ⟨_, _, [.int .i64 r.pits, .int .i64 r.seeds, .bool r.stores, .bool r.skip, .bool r.relay, .bool r.feed, .bool r.again, .int .i64 r.capture, .int .i64 r.slam], rfl, ⟨rfl, rfl, rfl, rfl, rfl, rfl, rfl, rfl, rfl, trivial⟩, (hr1.vis hw.vis)⟩ ⟨_, _, [.slice A2_0 p.pits.length c2_0, .slice A2_1 p.stores.length c2_1, .int .i64 p.player], rfl, ⟨(Ty.mono _ h2_0 hw.vis), (Ty.mono _ h2_1 hw.vis), rfl, trivial⟩, (hr2.vis hw.vis)⟩ (by omega) (by omega))) ?_
  rintro _ _ _ ⟨rfl, rfl, rfl⟩ _
  refine JL.q (OpP.q (p_not rfl)) ?_
  refine JL.nil ?_
  refine Js.cond rfl (fun h3 => ?_) (fun h3 => ?_)
  ·
    have h3' := h3
    try simp only [Bool.not_eq_true'] at h3'
    refine Js.seq ?_
    refine Js.region ?_
    refine JL.q (OpP.q (p_assign rfl)) ?_
    refine JL.nil ?_
    refine Js.ret (R := RV w (.int .i64 (M.sowCode r p move))) @Try.results142 (fun _ _ => rfl) (ResOk.tmp rfl ResOk.nil) (fun w1 hw => ?_)
    refine ⟨?_, hw.ext (Up.refl _ _)⟩
    simp_all [outV, M.sowCode, M.getI]
  ·
    have h3' := h3
    try simp only [Bool.not_eq_false'] at h3'
    have hok : M.okP r p = true := by simpa using h3
    obtain ⟨g1, g2, g3, g4, g5, g6, g7⟩ := M.okP_bd hok
    have hq := M.mul_bd g7 g1 g2
    refine Js.skip ?_
    refine Js.seq ?_
    refine Js.seq ?_
    refine Js.region ?_
    refine JL.q (OpP.q (p_move rfl)) ?_
    refine JL.q (OpP.q (p_move rfl)) ?_
    refine JL.q (OpP.q (p_nilCheck rfl)) ?_
    refine JL.q (OpP.q (p_fieldAddr fld_32_0 rfl)) ?_
    refine JL.q (q_load1 ty_2 rfl (Mem.pub (hr1 0 _ rfl))) ?_
    refine JL.q (OpP.q (p_sub rfl rfl (IntWalk.i64_in _ (by omega)))) ?_
    refine JL.e (e_callV fn_76 rfl (fun w hw => c_spec_l00In move 0 (r.pits - 1) w)) ?_
    rintro _ _ _ ⟨rfl, rfl, rfl⟩ _
    refine JL.q (OpP.q (p_not rfl)) ?_
    refine JL.nil ?_
    refine Js.cond rfl (fun h4 => ?_) (fun h4 => ?_)
    ·
      have h4' := h4
      try simp only [Bool.not_eq_true'] at h4'
      refine Js.seq ?_
      refine Js.region ?_
      refine JL.q (OpP.q (p_assign rfl)) ?_
      refine JL.nil ?_
      refine Js.ret (R := RV w (.int .i64 (M.sowCode r p move))) @Try.results142 (fun _ _ => rfl) (ResOk.tmp rfl ResOk.nil) (fun w1 hw => ?_)
      refine ⟨?_, hw.ext (Up.refl _ _)⟩
      simp_all [outV, M.sowCode, M.getI]
    ·
      have h4' := h4
      try simp only [Bool.not_eq_false'] at h4'
      obtain ⟨m0, m1⟩ := M.betw_iff.1 (show M.betw move 0 (r.pits - 1) = true by simpa using h4)
      refine Js.skip ?_
      refine Js.seq ?_
      refine Js.seq ?_
      refine Js.drawn _ [] mixed_ (fun _ h => h) ?_
      refine JH.p 0 rfl (p_move rfl) ?_
      refine JH.p 1 rfl (p_nilCheck rfl) ?_
      refine JH.p 2 rfl (p_fieldAddr fld_33_0 rfl) ?_
      refine JH.w 3 rfl (fun os' u' hv => q_load1 ty_24 rfl (Mem.pub ((hr2.vis hv) 0 _ rfl))) ?_
      refine JH.p 4 rfl (p_move rfl) ?_
      refine JH.p 5 rfl (p_nilCheck rfl) ?_
      refine JH.p 6 rfl (p_fieldAddr fld_33_2 rfl) ?_
      refine JH.w 7 rfl (fun os' u' hv => q_load1 ty_2 rfl (Mem.pub ((hr2.vis hv) 2 _ rfl))) ?_
      refine JH.p 8 rfl (p_move rfl) ?_
      refine JH.p 9 rfl (p_nilCheck rfl) ?_
      refine JH.p 10 rfl (p_fieldAddr fld_32_0 rfl) ?_
      refine JH.w 11 rfl (fun os' u' hv => q_load1 ty_2 rfl (Mem.pub ((hr1.vis hv) 0 _ rfl))) ?_
      refine JH.p 12 rfl (p_mul rfl rfl (IntWalk.i64_in _ (by omega))) ?_
      refine JH.p 13 rfl (p_move rfl) ?_
      refine JH.p 14 rfl (p_add rfl rfl (IntWalk.i64_in _ (by omega))) ?_
      obtain ⟨b5, o5, he5, hc5⟩ := ints_elem h2_0 (i := ((p.player * r.pits) + move).toNat) (by omega)
      refine JH.p 15 rfl (p_indexAddr el_24 rfl rfl (by omega) (by omega) he5) ?_
      refine JH.w 16 rfl (fun os' u' hv => q_load1 ty_2 rfl (Mem.pub (hc5.vis hv))) ?_
      refine JH.p 17 rfl (p_eql rfl rfl) ?_
      refine JH.done (by kernel_rfl) ?_
      refine Js.cond rfl (fun h6 => ?_) (fun h6 => ?_)
      ·
        have h6' := h6
        try simp only [decide_eq_true_eq] at h6'
        refine Js.seq ?_
        refine Js.region ?_
        refine JL.q (OpP.q (p_assign rfl)) ?_
        refine JL.nil ?_
        refine Js.ret (R := RV w (.int .i64 (M.sowCode r p move))) @Try.results142 (fun _ _ => rfl) (ResOk.tmp rfl ResOk.nil) (fun w1 hw => ?_)
        refine ⟨?_, hw.ext (Up.refl _ _)⟩
        simp_all [outV, M.sowCode, M.getI]
      ·
        have h6' := h6
        try simp only [decide_eq_false_iff_not] at h6'
        refine Js.skip ?_
        refine Js.seq ?_
        refine Js.region ?_
        refine JL.q (OpP.q (p_assign rfl)) ?_
        refine JL.nil ?_
        refine Js.ret (R := RV w (.int .i64 (M.sowCode r p move))) @Try.results142 (fun _ _ => rfl) (ResOk.tmp rfl ResOk.nil) (fun w1 hw => ?_)
        refine ⟨?_, hw.ext (Up.refl _ _)⟩
        simp_all [outV, M.sowCode, M.getI]

end Go.Proofs.Ytejnmechnhgmfaa

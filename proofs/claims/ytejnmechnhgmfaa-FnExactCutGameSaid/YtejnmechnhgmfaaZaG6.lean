/- Walks: G6. -/
import Derived.Test.YtejnmechnhgmfaaZaTy
import Derived.Test.YtejnmechnhgmfaaZaG5
set_option linter.unusedSimpArgs false
set_option linter.unusedVariables false
namespace Go.Proofs.Ytejnmechnhgmfaa
open Go.RowKit

set_option maxRecDepth 100000 in
set_option maxHeartbeats 400000 in
theorem c_impl_majority (p : M.Pos) (v_p : Value) (w : World) (h_p : (Ty.agg (cPosition p)).ok w v_p) (r0 : p.pits.length ≤ 4194304) (r1 : p.stores.length = 2) (r2 : M.sumV p.pits + M.sumV p.stores = M.all p) (r3 : ∀ k : Int, 0 ≤ M.getI p.stores k ∧ M.getI p.stores k ≤ 96) : RetV Try.prog 109 [v_p] w (.int .i64 (M.majority p)) := by
  obtain ⟨A1_0, c1_0, A1_1, c1_1, rfl, h1_0, h1_1, bl1_0, bh1_0, bl1_1, bh1_1⟩ := open_Position h_p
  refine enter @Try.func109 @Try.ntmps109 rfl rfl ?_
  refine Js.seq ?_
  refine Js.region ?_
  refine JL.e (e_box (c := [.slice A1_0 p.pits.length c1_0, .slice A1_1 p.stores.length c1_1, .int .i64 p.player]) rfl rfl) ?_
  rintro _ _ _ ⟨b2, rfl, rfl, rfl⟩ _
  refine JL.q (OpP.q (p_assign rfl)) ?_
  refine JL.nil ?_
  refine Js.seq ?_
  refine Js.seq ?_
  refine Js.region ?_
  refine JL.q (OpP.q (p_fieldAddr fld_33_1 rfl)) ?_
  refine JL.q (q_load1 ty_24 rfl (Mem.box (i := 0) rfl rfl)) ?_
  refine JL.q (OpP.q (p_len el_24 rfl)) ?_
  refine JL.q (OpP.q (p_move rfl)) ?_
  refine JL.nil ?_
  refine Js.block ?_
  refine Js.loop (fun l os u m => ∃ (k : Nat), l = [(1, .pointer (some ⟨b2, 0, none⟩)), (6, .slice A1_1 p.stores.length c1_1), (7, .int .i64 (p.stores.length : Int)), (8, .int .i64 (k : Int))] ∧ os = [boxO b2 [.slice A1_0 p.pits.length c1_0, .slice A1_1 p.stores.length c1_1, .int .i64 p.player] 33] ∧ Up w.heap.size w u ∧ (k ≤ 2) ∧ (M.noMaj p (k : Int)) ∧ m = 2 - k) ⟨0, rfl, rfl, Up.refl _ _, by first | assumption | omega | rfl | (simp; done), by exact M.noMaj_zero p, rfl⟩ ⟨rfl, rfl, rfl, rfl, trivial⟩ ?_
  · rintro _ _ u3 _ ⟨k, rfl, rfl, x3, hk, hN, rfl⟩
    have hv := r3 (k : Int)
    rw [M.nth_getI] at hv
    refine Js.seq ?_
    refine Js.region ?_
    refine JL.q (OpP.q (p_lss rfl rfl)) ?_
    refine JL.nil ?_
    refine Js.seq ?_
    refine Js.cond rfl (fun h4 => ?_) (fun h4 => ?_)
    ·
      have h4' := h4
      try simp only [decide_eq_true_eq] at h4'
      refine Js.skip ?_
      refine Js.seq ?_
      refine Js.block ?_
      refine Js.seq ?_
      refine Js.region ?_
      refine JL.q (OpP.q (p_move rfl)) ?_
      obtain ⟨b5, o5, he5, hc5⟩ := ints_elem (Ty.mono _ h1_1 x3.vis) (i := k) (by omega)
      refine JL.q (OpP.q (p_indexAddr el_24 rfl rfl (by omega) (by omega) he5)) ?_
      refine JL.q (q_load1 ty_2 rfl (Mem.pub hc5)) ?_
      refine JL.q (OpP.q (p_assign rfl)) ?_
      refine JL.q (OpP.q (p_assign rfl)) ?_
      refine JL.nil ?_
      refine Js.seq ?_
      refine Js.region ?_
      refine JL.q (OpP.q (p_move rfl)) ?_
      refine JL.q (OpP.q (p_mul rfl rfl (IntWalk.i64_in _ (by omega)))) ?_
      refine JL.q (q_loadN ty_33 rfl (Mem.boxR (i := 0) rfl 0 3) rfl rfl) ?_
      refine JL.e (e_callV fn_133 rfl (fun w hw => c_impl_Position_all p _ w ⟨_, rfl, ⟨(Ty.mono _ h1_0 (x3.vis.trans hw.vis)), (Ty.mono _ h1_1 (x3.vis.trans hw.vis)), rfl, trivial⟩⟩ (by omega) (by omega))) ?_
      rintro _ _ _ ⟨rfl, rfl, rfl⟩ _
      refine JL.q (OpP.q (p_gtr rfl rfl)) ?_
      refine JL.nil ?_
      refine Js.cond rfl (fun h6 => ?_) (fun h6 => ?_)
      ·
        have h6' := h6
        try simp only [decide_eq_true_eq] at h6'
        have hj : M.all p < 2 * M.getI p.stores (k : Int) := by rw [M.nth_getI, ← r2]; simpa using h6
        have hE := M.majority_at hN (by omega) (by omega) hj
        refine Js.seq ?_
        refine Js.region ?_
        refine JL.q (OpP.q (p_move rfl)) ?_
        refine JL.q (OpP.q (p_assign rfl)) ?_
        refine JL.nil ?_
        refine Js.ret (R := RV w (.int .i64 (M.majority p))) @Try.results109 (fun _ _ => rfl) (ResOk.tmp rfl ResOk.nil) (fun w1 hw => ?_)
        refine ⟨?_, hw.ext (x3)⟩
        rw [hE]; rfl
      ·
        have h6' := h6
        try simp only [decide_eq_false_iff_not, Int.not_lt] at h6'
        have hj : ¬ M.all p < 2 * M.getI p.stores (k : Int) := by rw [M.nth_getI, ← r2]; simpa using h6
        refine Js.skip ?_
        refine Js.blockEnd ?_
        refine Js.region ?_
        refine JL.q (OpP.q (p_add rfl rfl (IntWalk.i64_in _ (by omega)))) ?_
        refine JL.q (OpP.q (p_move rfl)) ?_
        refine JL.nil ?_
        exact Js.again ⟨k + 1, rfl, rfl, x3, by first | assumption | omega | rfl | (simp; done), by exact M.noMaj_step hN hj, rfl⟩ (by omega) ⟨rfl, rfl, rfl, rfl, trivial⟩
    ·
      have h4' := h4
      try simp only [decide_eq_false_iff_not, Int.not_lt] at h4'
      have hE := M.majority_no hN (by have := h4'; omega)
      refine Js.exit (fun _ _ => rfl) ?_
      refine Js.seq ?_
      refine Js.region ?_
      refine JL.q (OpP.q (p_assign rfl)) ?_
      refine JL.nil ?_
      refine Js.ret (R := RV w (.int .i64 (M.majority p))) @Try.results109 (fun _ _ => rfl) (ResOk.tmp rfl ResOk.nil) (fun w1 hw => ?_)
      refine ⟨?_, hw.ext (x3)⟩
      rw [hE]; rfl

set_option maxRecDepth 100000 in
set_option maxHeartbeats 400000 in
theorem c_impl_Game_endOf (g : M.Gam) (v_g : Value) (w : World) (h_g : (Ty.agg (cGame g)).ok w v_g) (r0 : g.start.pits.length ≤ 4194304) (r1 : g.start.stores.length ≤ 4194304) (r2 : g.moves.length ≤ 4194304) (r3 : g.now.pits.length ≤ 4194304) (r4 : g.now.stores.length ≤ 4194304) (r5 : M.okG g = true) : RetV Try.prog 84 [v_g] w (.int .i64 (M.endOf g)) := by
  have hok := r5
  obtain ⟨k1, k2, k3, k4, k5, k6, k7, k8, k9⟩ := M.okG_parts hok
  have hnow := M.okG_now hok
  have k10 := M.okP_len hnow
  have k11 := M.okP_len k1
  (have k12 : (M.playedP g).length = g.moves.length + 1 := by rw [k6, M.hist_length, k8])
  have k13 : (M.playedR g).length = g.moves.length := by rw [k7, k8]
  have hC := M.okC_yes hok
  obtain ⟨g1, g2, g3, g4, g5, g6, g7⟩ := M.okP_bd hnow
  obtain ⟨A1_9, c1_9, A1_10, c1_10, A1_12, c1_12, A1_13, c1_13, A1_14, c1_14, rfl, h1_9, h1_10, h1_12, h1_13, h1_14, bl1_9, bh1_9, bl1_10, bh1_10, bl1_12, bh1_12, bl1_13, bh1_13, bl1_14, bh1_14⟩ := open_Game h_g
  refine enter @Try.func84 @Try.ntmps84 rfl rfl ?_
  refine Js.seq ?_
  refine Js.region ?_
  refine JL.e (e_box (c := [.int .i64 g.rules.pits, .int .i64 g.rules.seeds, .bool g.rules.stores, .bool g.rules.skip, .bool g.rules.relay, .bool g.rules.feed, .bool g.rules.again, .int .i64 g.rules.capture, .int .i64 g.rules.slam, .slice A1_9 g.start.pits.length c1_9, .slice A1_10 g.start.stores.length c1_10, .int .i64 g.start.player, .slice A1_12 g.moves.length c1_12, .slice A1_13 g.now.pits.length c1_13, .slice A1_14 g.now.stores.length c1_14, .int .i64 g.now.player, .int .i64 g.resigned]) rfl rfl) ?_
  rintro _ _ _ ⟨b2, rfl, rfl, rfl⟩ _
  refine JL.q (OpP.q (p_assign rfl)) ?_
  refine JL.nil ?_
  refine Js.seq ?_
  refine Js.region ?_
  refine JL.q (q_loadN ty_35 rfl (Mem.boxR (i := 0) rfl 0 17) rfl rfl) ?_
  refine JL.e (e_callP fn_72 rfl (fun w hw => c_impl_Game_played g _ w ⟨_, rfl, ⟨rfl, rfl, rfl, rfl, rfl, rfl, rfl, rfl, rfl, (Ty.mono _ h1_9 hw.vis), (Ty.mono _ h1_10 hw.vis), rfl, (Ty.mono _ h1_12 hw.vis), (Ty.mono _ h1_13 hw.vis), (Ty.mono _ h1_14 hw.vis), rfl, rfl, trivial⟩⟩ (by omega) (by omega) (by omega) (by omega) (by omega))) ?_
  rintro v3 _ u5 ⟨h4, rfl⟩ x5
  obtain ⟨vs6, rfl, hv6⟩ := h4
  obtain ⟨v6_0, vs6, rfl, hw6_0, hv6⟩ := cellsOk_cons hv6
  obtain ⟨v6_1, vs6, rfl, hw6_1, hv6⟩ := cellsOk_cons hv6
  obtain ⟨v6_2, vs6, rfl, hw6_2, hv6⟩ := cellsOk_cons hv6
  obtain rfl := cellsOk_nil hv6
  obtain ⟨A7, c7, rfl, bl7, bh7⟩ := sl_form hw6_0
  obtain ⟨A8, c8, rfl, bl8, bh8⟩ := sl_form hw6_1
  obtain rfl : v6_2 = .bool (M.playedOk g) := hw6_2
  refine JL.q (OpP.q (p_move rfl)) ?_
  refine JL.q (OpP.q (p_extract rfl rfl)) ?_
  refine JL.q (OpP.q (p_extract rfl rfl)) ?_
  refine JL.q (OpP.q (p_extract rfl rfl)) ?_
  refine JL.q (OpP.q (p_assign rfl)) ?_
  refine JL.q (OpP.q (p_assign rfl)) ?_
  refine JL.q (OpP.q (p_assign rfl)) ?_
  refine JL.nil ?_
  refine Js.seq ?_
  refine Js.block ?_
  refine Js.seq ?_
  refine Js.region ?_
  refine JL.q (OpP.q (p_fieldAddr fld_35_4 rfl)) ?_
  refine JL.q (q_load1 ty_2 rfl (Mem.box (i := 0) rfl rfl)) ?_
  refine JL.q (OpP.q (p_geq rfl rfl)) ?_
  refine JL.q (OpP.q (p_assign rfl)) ?_
  refine JL.nil ?_
  refine Js.cond rfl (fun h9 => ?_) (fun h9 => ?_)
  ·
    have h9' := h9
    try simp only [decide_eq_true_eq] at h9'
    have hE := M.endOf_1 (g := g) (by simpa using h9)
    refine Js.seq ?_
    refine Js.region ?_
    refine JL.q (OpP.q (p_assign rfl)) ?_
    refine JL.nil ?_
    refine Js.ret (R := RV w (.int .i64 (M.endOf g))) @Try.results84 (fun _ _ => rfl) (ResOk.tmp rfl ResOk.nil) (fun w1 hw => ?_)
    refine ⟨?_, hw.ext (x5)⟩
    rw [hE]; rfl
  ·
    have h9' := h9
    try simp only [decide_eq_false_iff_not, Int.not_le] at h9'
    have q1 : ¬ 0 ≤ g.resigned := by simpa using h9
    refine Js.seq ?_
    refine Js.region ?_
    refine JL.q (OpP.q (p_fieldAddr fld_35_3 rfl)) ?_
    refine JL.q (q_loadN ty_33 rfl (Mem.boxR (i := 0) rfl 13 3) rfl rfl) ?_
    refine JL.e (e_callV fn_109 rfl (fun w hw => c_impl_majority g.now _ w ⟨_, rfl, ⟨(Ty.mono _ h1_13 (x5.vis.trans hw.vis)), (Ty.mono _ h1_14 (x5.vis.trans hw.vis)), rfl, trivial⟩⟩ (by omega) (by omega) (M.all_V hnow) (fun k => M.allOk_getI g6 k))) ?_
    rintro _ _ _ ⟨rfl, rfl, rfl⟩ _
    refine JL.q (OpP.q (p_geq rfl rfl)) ?_
    refine JL.q (OpP.q (p_assign rfl)) ?_
    refine JL.nil ?_
    refine Js.cond rfl (fun h10 => ?_) (fun h10 => ?_)
    ·
      have h10' := h10
      try simp only [decide_eq_true_eq] at h10'
      have hE := M.endOf_2 q1 (by simpa using h10)
      refine Js.seq ?_
      refine Js.region ?_
      refine JL.q (OpP.q (p_assign rfl)) ?_
      refine JL.nil ?_
      refine Js.ret (R := RV w (.int .i64 (M.endOf g))) @Try.results84 (fun _ _ => rfl) (ResOk.tmp rfl ResOk.nil) (fun w1 hw => ?_)
      refine ⟨?_, hw.ext (x5)⟩
      rw [hE]; rfl
    ·
      have h10' := h10
      try simp only [decide_eq_false_iff_not, Int.not_le] at h10'
      have q2 : ¬ 0 ≤ M.majority g.now := by simpa using h10
      refine Js.seq ?_
      refine Js.region ?_
      refine JL.q (OpP.q (p_fieldAddr fld_35_0 rfl)) ?_
      refine JL.q (q_loadN ty_32 rfl (Mem.boxR (i := 0) rfl 0 9) rfl rfl) ?_
      refine JL.q (OpP.q (p_fieldAddr fld_35_3 rfl)) ?_
      refine JL.q (q_loadN ty_33 rfl (Mem.boxR (i := 0) rfl 13 3) rfl rfl) ?_
      refine JL.e (e_callP fn_110 rfl (fun w hw => c_impl_Rules_results g.rules _ g.now _ w ⟨_, rfl, ⟨rfl, rfl, rfl, rfl, rfl, rfl, rfl, rfl, rfl, trivial⟩⟩ ⟨_, rfl, ⟨(Ty.mono _ h1_13 (x5.vis.trans hw.vis)), (Ty.mono _ h1_14 (x5.vis.trans hw.vis)), rfl, trivial⟩⟩ hnow)) ?_
      rintro v11 _ u13 ⟨h12, rfl⟩ x13
      obtain ⟨A14, c14, rfl, bl14, bh14⟩ := sl_form h12
      refine JL.q (OpP.q (p_len el_74 rfl)) ?_
      refine JL.q (OpP.q (p_eql rfl rfl)) ?_
      refine JL.q (OpP.q (p_assign rfl)) ?_
      refine JL.nil ?_
      refine Js.cond rfl (fun h15 => ?_) (fun h15 => ?_)
      ·
        have h15' := h15
        try simp only [decide_eq_true_eq] at h15'
        have hE := M.endOf_3 q1 q2 (by have := h15'; omega)
        refine Js.seq ?_
        refine Js.region ?_
        refine JL.q (OpP.q (p_assign rfl)) ?_
        refine JL.nil ?_
        refine Js.ret (R := RV w (.int .i64 (M.endOf g))) @Try.results84 (fun _ _ => rfl) (ResOk.tmp rfl ResOk.nil) (fun w1 hw => ?_)
        refine ⟨?_, hw.ext ((x5.trans x13))⟩
        rw [hE]; rfl
      ·
        have h15' := h15
        try simp only [decide_eq_false_iff_not] at h15'
        have q3 : (M.results g.rules g.now).length ≠ 0 := by have := h15'; omega
        refine Js.seq ?_
        refine Js.region ?_
        refine JL.q (OpP.q (p_move rfl)) ?_
        refine JL.q (OpP.q (p_fieldAddr fld_35_3 rfl)) ?_
        refine JL.q (q_loadN ty_33 rfl (Mem.boxR (i := 0) rfl 13 3) rfl rfl) ?_
        refine JL.e (e_callV fn_73 rfl (fun w hw => c_impl_repeats (M.playedP g) _ g.now _ w (Ty.mono _ hw6_0 (x13.vis.trans hw.vis)) ⟨_, rfl, ⟨(Ty.mono _ h1_13 ((x5.vis.trans x13.vis).trans hw.vis)), (Ty.mono _ h1_14 ((x5.vis.trans x13.vis).trans hw.vis)), rfl, trivial⟩⟩ (by omega) (fun _ _ hq => M.okP_len (M.hist_okG hok hq)) (by omega) (by omega))) ?_
        rintro _ _ _ ⟨rfl, rfl, rfl⟩ _
        refine JL.q (OpP.q (p_geq rfl rfl)) ?_
        refine JL.q (OpP.q (p_assign rfl)) ?_
        refine JL.nil ?_
        refine Js.cond rfl (fun h16 => ?_) (fun h16 => ?_)
        ·
          have h16' := h16
          try simp only [decide_eq_true_eq] at h16'
          have hE := M.endOf_4 q1 q2 q3 (by simpa using h16)
          refine Js.seq ?_
          refine Js.region ?_
          refine JL.q (OpP.q (p_assign rfl)) ?_
          refine JL.nil ?_
          refine Js.ret (R := RV w (.int .i64 (M.endOf g))) @Try.results84 (fun _ _ => rfl) (ResOk.tmp rfl ResOk.nil) (fun w1 hw => ?_)
          refine ⟨?_, hw.ext ((x5.trans x13))⟩
          rw [hE]; rfl
        ·
          have h16' := h16
          try simp only [decide_eq_false_iff_not, Int.not_le] at h16'
          have q4 : ¬ 3 ≤ M.count g.now (M.playedP g) := by simpa using h16
          refine Js.seq ?_
          refine Js.region ?_
          refine JL.q (OpP.q (p_fieldAddr fld_35_2 rfl)) ?_
          refine JL.q (q_load1 ty_24 rfl (Mem.box (i := 0) rfl rfl)) ?_
          refine JL.q (OpP.q (p_len el_24 rfl)) ?_
          refine JL.q (OpP.q (p_eql rfl rfl)) ?_
          refine JL.q (OpP.q (p_assign rfl)) ?_
          refine JL.nil ?_
          refine Js.cond rfl (fun h17 => ?_) (fun h17 => ?_)
          ·
            have h17' := h17
            try simp only [decide_eq_true_eq] at h17'
            have hE := M.endOf_5 q1 q2 q3 q4 (by have := h17'; omega)
            refine Js.seq ?_
            refine Js.region ?_
            refine JL.q (OpP.q (p_assign rfl)) ?_
            refine JL.nil ?_
            refine Js.ret (R := RV w (.int .i64 (M.endOf g))) @Try.results84 (fun _ _ => rfl) (ResOk.tmp rfl ResOk.nil) (fun w1 hw => ?_)
            refine ⟨?_, hw.ext ((x5.trans x13))⟩
            rw [hE]; rfl
          ·
            have h17' := h17
            try simp only [decide_eq_false_iff_not] at h17'
            have hE := M.endOf_0 q1 q2 q3 q4 (by have := h17'; omega)
            refine Js.skip ?_
            refine Js.blockEnd ?_
            refine Js.seq ?_
            refine Js.region ?_
            refine JL.q (OpP.q (p_assign rfl)) ?_
            refine JL.nil ?_
            refine Js.ret (R := RV w (.int .i64 (M.endOf g))) @Try.results84 (fun _ _ => rfl) (ResOk.tmp rfl ResOk.nil) (fun w1 hw => ?_)
            refine ⟨?_, hw.ext ((x5.trans x13))⟩
            rw [hE]; rfl

end Go.Proofs.Ytejnmechnhgmfaa

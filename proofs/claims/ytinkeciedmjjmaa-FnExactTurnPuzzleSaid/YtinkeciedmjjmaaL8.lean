/- Walks: L8. -/
import Derived.Test.YtinkeciedmjjmaaTy
import Derived.Test.YtinkeciedmjjmaaL1
import Derived.Test.YtinkeciedmjjmaaL3
set_option linter.unusedSimpArgs false
set_option linter.unusedVariables false
namespace Go.Proofs.Ytinkeciedmjjmaa
open Go.RowKit

set_option maxRecDepth 100000 in
set_option maxHeartbeats 400000 in
theorem c_laws_eqPuzzle (a : M.Puz) (v_a : Value) (b : M.Puz) (v_b : Value) (w : World) (h_a : (Ty.agg (cPuzzle a)).ok w v_a) (h_b : (Ty.agg (cPuzzle b)).ok w v_b) (r0 : a.position.pits.length ≤ 4194304) (r1 : a.position.stores.length ≤ 4194304) (r2 : b.position.pits.length ≤ 4194304) (r3 : b.position.stores.length ≤ 4194304) : RetV Try.prog 27 [v_a, v_b] w (.bool (decide (a = b))) := by
  obtain ⟨A1_9, c1_9, A1_10, c1_10, rfl, h1_9, h1_10, bl1_9, bh1_9, bl1_10, bh1_10⟩ := open_Puzzle h_a
  obtain ⟨A2_9, c2_9, A2_10, c2_10, rfl, h2_9, h2_10, bl2_9, bh2_9, bl2_10, bh2_10⟩ := open_Puzzle h_b
  refine enter @Try.func27 @Try.ntmps27 rfl rfl ?_
  refine Js.seq ?_
  refine Js.region ?_
  refine JL.e (e_box (c := [.int .i64 a.rules.pits, .int .i64 a.rules.seeds, .bool a.rules.stores, .bool a.rules.skip, .bool a.rules.relay, .bool a.rules.feed, .bool a.rules.again, .int .i64 a.rules.capture, .int .i64 a.rules.slam, .slice A1_9 a.position.pits.length c1_9, .slice A1_10 a.position.stores.length c1_10, .int .i64 a.position.player, .int .i64 a.depth, .int .i64 a.move, .int .i64 a.value, .int .i64 a.margin]) rfl rfl) ?_
  rintro _ _ _ ⟨b3, rfl, rfl, rfl⟩ _
  refine JL.e (e_box (c := [.int .i64 b.rules.pits, .int .i64 b.rules.seeds, .bool b.rules.stores, .bool b.rules.skip, .bool b.rules.relay, .bool b.rules.feed, .bool b.rules.again, .int .i64 b.rules.capture, .int .i64 b.rules.slam, .slice A2_9 b.position.pits.length c2_9, .slice A2_10 b.position.stores.length c2_10, .int .i64 b.position.player, .int .i64 b.depth, .int .i64 b.move, .int .i64 b.value, .int .i64 b.margin]) rfl rfl) ?_
  rintro _ _ _ ⟨b4, rfl, rfl, rfl⟩ _
  refine JL.q (OpP.q (p_assign rfl)) ?_
  refine JL.nil ?_
  refine Js.seq ?_
  refine Js.seq ?_
  refine Js.region ?_
  refine JL.q (OpP.q (p_fieldAddr fld_45_0 rfl)) ?_
  refine JL.q (q_loadN ty_31 rfl (Mem.boxR (i := 1) rfl 0 9) rfl rfl) ?_
  refine JL.q (OpP.q (p_fieldAddr fld_45_0 rfl)) ?_
  refine JL.q (q_loadN ty_31 rfl (Mem.boxR (i := 0) rfl 0 9) rfl rfl) ?_
  refine JL.e (e_callV fn_54 rfl (fun w hw => c_laws_eqRules a.rules _ b.rules _ w ⟨_, rfl, ⟨rfl, rfl, rfl, rfl, rfl, rfl, rfl, rfl, rfl, trivial⟩⟩ ⟨_, rfl, ⟨rfl, rfl, rfl, rfl, rfl, rfl, rfl, rfl, rfl, trivial⟩⟩)) ?_
  rintro _ _ _ ⟨rfl, rfl, rfl⟩ _
  refine JL.q (OpP.q (p_not rfl)) ?_
  refine JL.nil ?_
  refine Js.cond rfl (fun h5 => ?_) (fun h5 => ?_)
  ·
    have h5' := h5
    try simp only [Bool.not_eq_true', decide_eq_false_iff_not] at h5'
    have hne : a ≠ b := by rintro rfl; simp at h5
    refine Js.seq ?_
    refine Js.region ?_
    refine JL.q (OpP.q (p_assign rfl)) ?_
    refine JL.nil ?_
    refine Js.ret (R := RV w (.bool (decide (a = b)))) @Try.results27 (fun _ _ => rfl) (ResOk.tmp rfl ResOk.nil) (fun w1 hw => ?_)
    refine ⟨?_, hw.ext (Up.refl _ _)⟩
    first | (rw [decide_eq_false hne]; rfl) | (rw [decide_eq_true (M.puz_ext q0 q1 q2 q3 q4 q5)]; rfl)
  ·
    have h5' := h5
    try simp only [Bool.not_eq_false', decide_eq_true_eq] at h5'
    have q0 : a.rules = b.rules := by simpa using h5
    refine Js.skip ?_
    refine Js.seq ?_
    refine Js.seq ?_
    refine Js.region ?_
    refine JL.q (OpP.q (p_fieldAddr fld_45_1 rfl)) ?_
    refine JL.q (q_loadN ty_33 rfl (Mem.boxR (i := 1) rfl 9 3) rfl rfl) ?_
    refine JL.q (OpP.q (p_fieldAddr fld_45_1 rfl)) ?_
    refine JL.q (q_loadN ty_33 rfl (Mem.boxR (i := 0) rfl 9 3) rfl rfl) ?_
    refine JL.e (e_callV fn_16 rfl (fun w hw => c_laws_eqPosition a.position _ b.position _ w ⟨_, rfl, ⟨(Ty.mono _ h1_9 hw.vis), (Ty.mono _ h1_10 hw.vis), rfl, trivial⟩⟩ ⟨_, rfl, ⟨(Ty.mono _ h2_9 hw.vis), (Ty.mono _ h2_10 hw.vis), rfl, trivial⟩⟩ (by omega) (by omega) (by omega) (by omega))) ?_
    rintro _ _ _ ⟨rfl, rfl, rfl⟩ _
    refine JL.q (OpP.q (p_not rfl)) ?_
    refine JL.nil ?_
    refine Js.cond rfl (fun h6 => ?_) (fun h6 => ?_)
    ·
      have h6' := h6
      try simp only [Bool.not_eq_true', decide_eq_false_iff_not] at h6'
      have hne : a ≠ b := by rintro rfl; simp at h6
      refine Js.seq ?_
      refine Js.region ?_
      refine JL.q (OpP.q (p_assign rfl)) ?_
      refine JL.nil ?_
      refine Js.ret (R := RV w (.bool (decide (a = b)))) @Try.results27 (fun _ _ => rfl) (ResOk.tmp rfl ResOk.nil) (fun w1 hw => ?_)
      refine ⟨?_, hw.ext (Up.refl _ _)⟩
      first | (rw [decide_eq_false hne]; rfl) | (rw [decide_eq_true (M.puz_ext q0 q1 q2 q3 q4 q5)]; rfl)
    ·
      have h6' := h6
      try simp only [Bool.not_eq_false', decide_eq_true_eq] at h6'
      have q1 : a.position = b.position := by simpa using h6
      refine Js.skip ?_
      refine Js.seq ?_
      refine Js.seq ?_
      refine Js.region ?_
      refine JL.q (OpP.q (p_fieldAddr fld_45_2 rfl)) ?_
      refine JL.q (q_load1 ty_2 rfl (Mem.box (i := 1) rfl rfl)) ?_
      refine JL.q (OpP.q (p_fieldAddr fld_45_2 rfl)) ?_
      refine JL.q (q_load1 ty_2 rfl (Mem.box (i := 0) rfl rfl)) ?_
      refine JL.q (OpP.q (p_neq rfl rfl)) ?_
      refine JL.nil ?_
      refine Js.cond rfl (fun h7 => ?_) (fun h7 => ?_)
      ·
        have h7' := h7
        try simp only [Bool.not_eq_true', decide_eq_false_iff_not] at h7'
        have hne : a ≠ b := by rintro rfl; simp at h7
        refine Js.seq ?_
        refine Js.region ?_
        refine JL.q (OpP.q (p_assign rfl)) ?_
        refine JL.nil ?_
        refine Js.ret (R := RV w (.bool (decide (a = b)))) @Try.results27 (fun _ _ => rfl) (ResOk.tmp rfl ResOk.nil) (fun w1 hw => ?_)
        refine ⟨?_, hw.ext (Up.refl _ _)⟩
        first | (rw [decide_eq_false hne]; rfl) | (rw [decide_eq_true (M.puz_ext q0 q1 q2 q3 q4 q5)]; rfl)
      ·
        have h7' := h7
        try simp only [Bool.not_eq_false', decide_eq_true_eq] at h7'
        have q2 : a.depth = b.depth := by simpa using h7
        refine Js.skip ?_
        refine Js.seq ?_
        refine Js.seq ?_
        refine Js.region ?_
        refine JL.q (OpP.q (p_fieldAddr fld_45_3 rfl)) ?_
        refine JL.q (q_load1 ty_2 rfl (Mem.box (i := 1) rfl rfl)) ?_
        refine JL.q (OpP.q (p_fieldAddr fld_45_3 rfl)) ?_
        refine JL.q (q_load1 ty_2 rfl (Mem.box (i := 0) rfl rfl)) ?_
        refine JL.q (OpP.q (p_neq rfl rfl)) ?_
        refine JL.nil ?_
        refine Js.cond rfl (fun h8 => ?_) (fun h8 => ?_)
        ·
          have h8' := h8
          try simp only [Bool.not_eq_true', decide_eq_false_iff_not] at h8'
          have hne : a ≠ b := by rintro rfl; simp at h8
          refine Js.seq ?_
          refine Js.region ?_
          refine JL.q (OpP.q (p_assign rfl)) ?_
          refine JL.nil ?_
          refine Js.ret (R := RV w (.bool (decide (a = b)))) @Try.results27 (fun _ _ => rfl) (ResOk.tmp rfl ResOk.nil) (fun w1 hw => ?_)
          refine ⟨?_, hw.ext (Up.refl _ _)⟩
          first | (rw [decide_eq_false hne]; rfl) | (rw [decide_eq_true (M.puz_ext q0 q1 q2 q3 q4 q5)]; rfl)
        ·
          have h8' := h8
          try simp only [Bool.not_eq_false', decide_eq_true_eq] at h8'
          have q3 : a.move = b.move := by simpa using h8
          refine Js.skip ?_
          refine Js.seq ?_
          refine Js.seq ?_
          refine Js.region ?_
          refine JL.q (OpP.q (p_fieldAddr fld_45_4 rfl)) ?_
          refine JL.q (q_load1 ty_2 rfl (Mem.box (i := 1) rfl rfl)) ?_
          refine JL.q (OpP.q (p_fieldAddr fld_45_4 rfl)) ?_
          refine JL.q (q_load1 ty_2 rfl (Mem.box (i := 0) rfl rfl)) ?_
          refine JL.q (OpP.q (p_neq rfl rfl)) ?_
          refine JL.nil ?_
          refine Js.cond rfl (fun h9 => ?_) (fun h9 => ?_)
          ·
            have h9' := h9
            try simp only [Bool.not_eq_true', decide_eq_false_iff_not] at h9'
            have hne : a ≠ b := by rintro rfl; simp at h9
            refine Js.seq ?_
            refine Js.region ?_
            refine JL.q (OpP.q (p_assign rfl)) ?_
            refine JL.nil ?_
            refine Js.ret (R := RV w (.bool (decide (a = b)))) @Try.results27 (fun _ _ => rfl) (ResOk.tmp rfl ResOk.nil) (fun w1 hw => ?_)
            refine ⟨?_, hw.ext (Up.refl _ _)⟩
            first | (rw [decide_eq_false hne]; rfl) | (rw [decide_eq_true (M.puz_ext q0 q1 q2 q3 q4 q5)]; rfl)
          ·
            have h9' := h9
            try simp only [Bool.not_eq_false', decide_eq_true_eq] at h9'
            have q4 : a.value = b.value := by simpa using h9
            refine Js.skip ?_
            refine Js.seq ?_
            refine Js.seq ?_
            refine Js.region ?_
            refine JL.q (OpP.q (p_fieldAddr fld_45_5 rfl)) ?_
            refine JL.q (q_load1 ty_2 rfl (Mem.box (i := 1) rfl rfl)) ?_
            refine JL.q (OpP.q (p_fieldAddr fld_45_5 rfl)) ?_
            refine JL.q (q_load1 ty_2 rfl (Mem.box (i := 0) rfl rfl)) ?_
            refine JL.q (OpP.q (p_neq rfl rfl)) ?_
            refine JL.nil ?_
            refine Js.cond rfl (fun h10 => ?_) (fun h10 => ?_)
            ·
              have h10' := h10
              try simp only [Bool.not_eq_true', decide_eq_false_iff_not] at h10'
              have hne : a ≠ b := by rintro rfl; simp at h10
              refine Js.seq ?_
              refine Js.region ?_
              refine JL.q (OpP.q (p_assign rfl)) ?_
              refine JL.nil ?_
              refine Js.ret (R := RV w (.bool (decide (a = b)))) @Try.results27 (fun _ _ => rfl) (ResOk.tmp rfl ResOk.nil) (fun w1 hw => ?_)
              refine ⟨?_, hw.ext (Up.refl _ _)⟩
              first | (rw [decide_eq_false hne]; rfl) | (rw [decide_eq_true (M.puz_ext q0 q1 q2 q3 q4 q5)]; rfl)
            ·
              have h10' := h10
              try simp only [Bool.not_eq_false', decide_eq_true_eq] at h10'
              have q5 : a.margin = b.margin := by simpa using h10
              refine Js.skip ?_
              refine Js.seq ?_
              refine Js.region ?_
              refine JL.q (OpP.q (p_assign rfl)) ?_
              refine JL.nil ?_
              refine Js.ret (R := RV w (.bool (decide (a = b)))) @Try.results27 (fun _ _ => rfl) (ResOk.tmp rfl ResOk.nil) (fun w1 hw => ?_)
              refine ⟨?_, hw.ext (Up.refl _ _)⟩
              first | (rw [decide_eq_false hne]; rfl) | (rw [decide_eq_true (M.puz_ext q0 q1 q2 q3 q4 q5)]; rfl)

set_option maxRecDepth 100000 in
set_option maxHeartbeats 1000000 in
theorem c_laws_toPuzzle (a : M.Puz) (v_a : Value) (w : World) (h_a : (Ty.agg (cPuzzle a)).ok w v_a) (r0 : a.position.pits.length ≤ 4194304) (r1 : a.position.stores.length ≤ 4194304) : Ret Try.prog 32 [v_a] w (Ty.agg (cPuzzle a)) := by
  obtain ⟨A1_9, c1_9, A1_10, c1_10, rfl, h1_9, h1_10, bl1_9, bh1_9, bl1_10, bh1_10⟩ := open_Puzzle h_a
  refine enter @Try.func32 @Try.ntmps32 rfl rfl ?_
  refine Js.seq ?_
  refine Js.region ?_
  refine JL.e (e_box (c := [.int .i64 a.rules.pits, .int .i64 a.rules.seeds, .bool a.rules.stores, .bool a.rules.skip, .bool a.rules.relay, .bool a.rules.feed, .bool a.rules.again, .int .i64 a.rules.capture, .int .i64 a.rules.slam, .slice A1_9 a.position.pits.length c1_9, .slice A1_10 a.position.stores.length c1_10, .int .i64 a.position.player, .int .i64 a.depth, .int .i64 a.move, .int .i64 a.value, .int .i64 a.margin]) rfl rfl) ?_
  rintro _ _ _ ⟨b2, rfl, rfl, rfl⟩ _
  refine JL.e (e_alloc zero_45) ?_
  rintro _ _ _ ⟨b3, rfl, rfl, rfl⟩ _
  refine JL.nil ?_
  refine Js.seq ?_
  refine Js.region ?_
  refine JL.e (e_alloc zero_45) ?_
  rintro _ _ _ ⟨b4, rfl, rfl, rfl⟩ _
  refine JL.nil ?_
  refine Js.seq ?_
  refine Js.region ?_
  refine JL.q (OpP.q (p_fieldAddr fld_51_0 rfl)) ?_
  refine JL.q (q_loadN ty_23 rfl (Mem.boxR (i := 2) rfl 0 9) rfl rfl) ?_
  refine JL.e (e_callO fn_12 rfl (Spl.agg (Spls.cons (Spl.val _) (Spls.cons (Spl.val _) (Spls.cons (Spl.val _) (Spls.cons (Spl.val _) (Spls.cons (Spl.val _) (Spls.cons (Spl.val _) (Spls.cons (Spl.val _) (Spls.cons (Spl.val _) (Spls.cons (Spl.val _) Spls.nil)))))))))) (fun w hw => c_laws_toRules a.rules _ w ⟨_, rfl, ⟨rfl, rfl, rfl, rfl, rfl, rfl, rfl, rfl, rfl, trivial⟩⟩)) ?_
  rintro v5 _ _ ⟨_, hR6, rfl, rfl⟩ _
  obtain ⟨vs7, rfl, hr7⟩ := hR6
  obtain ⟨v7_0, vs7_0, o7_0, ow7_0, rfl, hR7_0, hs7_0, rfl⟩ := RL_cons hr7
  obtain ⟨v7_1, vs7_1, o7_1, ow7_1, rfl, hR7_1, hs7_1, rfl⟩ := RL_cons hs7_0
  obtain ⟨v7_2, vs7_2, o7_2, ow7_2, rfl, hR7_2, hs7_2, rfl⟩ := RL_cons hs7_1
  obtain ⟨v7_3, vs7_3, o7_3, ow7_3, rfl, hR7_3, hs7_3, rfl⟩ := RL_cons hs7_2
  obtain ⟨v7_4, vs7_4, o7_4, ow7_4, rfl, hR7_4, hs7_4, rfl⟩ := RL_cons hs7_3
  obtain ⟨v7_5, vs7_5, o7_5, ow7_5, rfl, hR7_5, hs7_5, rfl⟩ := RL_cons hs7_4
  obtain ⟨v7_6, vs7_6, o7_6, ow7_6, rfl, hR7_6, hs7_6, rfl⟩ := RL_cons hs7_5
  obtain ⟨v7_7, vs7_7, o7_7, ow7_7, rfl, hR7_7, hs7_7, rfl⟩ := RL_cons hs7_6
  obtain ⟨v7_8, vs7_8, o7_8, ow7_8, rfl, hR7_8, hs7_8, rfl⟩ := RL_cons hs7_7
  obtain ⟨rfl, rfl⟩ := RL_nil hs7_8
  obtain ⟨rfl, rfl⟩ : v7_0 = .int .i64 a.rules.pits ∧ _ := hR7_0
  obtain ⟨rfl, rfl⟩ : v7_1 = .int .i64 a.rules.seeds ∧ _ := hR7_1
  obtain ⟨rfl, rfl⟩ : v7_2 = .bool a.rules.stores ∧ _ := hR7_2
  obtain ⟨rfl, rfl⟩ : v7_3 = .bool a.rules.skip ∧ _ := hR7_3
  obtain ⟨rfl, rfl⟩ : v7_4 = .bool a.rules.relay ∧ _ := hR7_4
  obtain ⟨rfl, rfl⟩ : v7_5 = .bool a.rules.feed ∧ _ := hR7_5
  obtain ⟨rfl, rfl⟩ : v7_6 = .bool a.rules.again ∧ _ := hR7_6
  obtain ⟨rfl, rfl⟩ : v7_7 = .int .i64 a.rules.capture ∧ _ := hR7_7
  obtain ⟨rfl, rfl⟩ : v7_8 = .int .i64 a.rules.slam ∧ _ := hR7_8
  refine JL.q (OpP.q (p_fieldAddr fld_45_0 rfl)) ?_
  refine JL.s (e_store (i := 0) (c' := [.int .i64 a.rules.pits, .int .i64 a.rules.seeds, .bool a.rules.stores, .bool a.rules.skip, .bool a.rules.relay, .bool a.rules.feed, .bool a.rules.again, .int .i64 a.rules.capture, .int .i64 a.rules.slam, .slice none 0 0, .slice none 0 0, .int .i64 0, .int .i64 0, .int .i64 0, .int .i64 0, .int .i64 0]) ty_31 rfl rfl rfl rfl rfl rfl rfl rfl) ?_
  rintro _ _ _ ⟨rfl, rfl⟩ _
  refine JL.nil ?_
  refine Js.seq ?_
  refine Js.region ?_
  refine JL.q (OpP.q (p_fieldAddr fld_51_1 rfl)) ?_
  refine JL.q (q_loadN ty_26 rfl (Mem.boxR (i := 2) rfl 9 3) rfl rfl) ?_
  refine JL.e (e_callO fn_13 rfl (Spl.agg (Spls.cons (Spl.ints _ _) (Spls.cons (Spl.ints _ _) (Spls.cons (Spl.val _) Spls.nil)))) (fun w hw => c_laws_toPosition a.position _ w ⟨_, rfl, ⟨(Ty.mono _ h1_9 hw.vis), (Ty.mono _ h1_10 hw.vis), rfl, trivial⟩⟩ (by omega) (by omega))) ?_
  rintro v8 _ _ ⟨_, hR9, rfl, rfl⟩ _
  obtain ⟨vs10, rfl, hr10⟩ := hR9
  obtain ⟨v10_0, vs10_0, o10_0, ow10_0, rfl, hR10_0, hs10_0, rfl⟩ := RL_cons hr10
  obtain ⟨v10_1, vs10_1, o10_1, ow10_1, rfl, hR10_1, hs10_1, rfl⟩ := RL_cons hs10_0
  obtain ⟨v10_2, vs10_2, o10_2, ow10_2, rfl, hR10_2, hs10_2, rfl⟩ := RL_cons hs10_1
  obtain ⟨rfl, rfl⟩ := RL_nil hs10_2
  obtain ⟨A11, c11, rfl, rfl, bl11, bh11⟩ := hR10_0
  obtain ⟨A12, c12, rfl, rfl, bl12, bh12⟩ := hR10_1
  obtain ⟨rfl, rfl⟩ : v10_2 = .int .i64 a.position.player ∧ _ := hR10_2
  refine JL.q (OpP.q (p_fieldAddr fld_45_1 rfl)) ?_
  refine JL.s (e_store (i := 2) (c' := [.int .i64 a.rules.pits, .int .i64 a.rules.seeds, .bool a.rules.stores, .bool a.rules.skip, .bool a.rules.relay, .bool a.rules.feed, .bool a.rules.again, .int .i64 a.rules.capture, .int .i64 a.rules.slam, .slice A11 a.position.pits.length c11, .slice A12 a.position.stores.length c12, .int .i64 a.position.player, .int .i64 0, .int .i64 0, .int .i64 0, .int .i64 0]) ty_33 rfl rfl rfl rfl rfl rfl rfl rfl) ?_
  rintro _ _ _ ⟨rfl, rfl⟩ _
  refine JL.nil ?_
  refine Js.seq ?_
  refine Js.region ?_
  refine JL.q (OpP.q (p_fieldAddr fld_51_2 rfl)) ?_
  refine JL.q (q_load1 ty_2 rfl (Mem.box (i := 4) rfl rfl)) ?_
  refine JL.q (OpP.q (p_fieldAddr fld_45_2 rfl)) ?_
  refine JL.s (e_store (i := 2) (c' := [.int .i64 a.rules.pits, .int .i64 a.rules.seeds, .bool a.rules.stores, .bool a.rules.skip, .bool a.rules.relay, .bool a.rules.feed, .bool a.rules.again, .int .i64 a.rules.capture, .int .i64 a.rules.slam, .slice A11 a.position.pits.length c11, .slice A12 a.position.stores.length c12, .int .i64 a.position.player, .int .i64 a.depth, .int .i64 0, .int .i64 0, .int .i64 0]) ty_2 rfl rfl rfl rfl rfl rfl rfl rfl) ?_
  rintro _ _ _ ⟨rfl, rfl⟩ _
  refine JL.nil ?_
  refine Js.seq ?_
  refine Js.region ?_
  refine JL.q (OpP.q (p_fieldAddr fld_51_3 rfl)) ?_
  refine JL.q (q_load1 ty_2 rfl (Mem.box (i := 4) rfl rfl)) ?_
  refine JL.q (OpP.q (p_fieldAddr fld_45_3 rfl)) ?_
  refine JL.s (e_store (i := 2) (c' := [.int .i64 a.rules.pits, .int .i64 a.rules.seeds, .bool a.rules.stores, .bool a.rules.skip, .bool a.rules.relay, .bool a.rules.feed, .bool a.rules.again, .int .i64 a.rules.capture, .int .i64 a.rules.slam, .slice A11 a.position.pits.length c11, .slice A12 a.position.stores.length c12, .int .i64 a.position.player, .int .i64 a.depth, .int .i64 a.move, .int .i64 0, .int .i64 0]) ty_2 rfl rfl rfl rfl rfl rfl rfl rfl) ?_
  rintro _ _ _ ⟨rfl, rfl⟩ _
  refine JL.nil ?_
  refine Js.seq ?_
  refine Js.region ?_
  refine JL.q (OpP.q (p_fieldAddr fld_51_4 rfl)) ?_
  refine JL.q (q_load1 ty_2 rfl (Mem.box (i := 4) rfl rfl)) ?_
  refine JL.q (OpP.q (p_fieldAddr fld_45_4 rfl)) ?_
  refine JL.s (e_store (i := 2) (c' := [.int .i64 a.rules.pits, .int .i64 a.rules.seeds, .bool a.rules.stores, .bool a.rules.skip, .bool a.rules.relay, .bool a.rules.feed, .bool a.rules.again, .int .i64 a.rules.capture, .int .i64 a.rules.slam, .slice A11 a.position.pits.length c11, .slice A12 a.position.stores.length c12, .int .i64 a.position.player, .int .i64 a.depth, .int .i64 a.move, .int .i64 a.value, .int .i64 0]) ty_2 rfl rfl rfl rfl rfl rfl rfl rfl) ?_
  rintro _ _ _ ⟨rfl, rfl⟩ _
  refine JL.nil ?_
  refine Js.seq ?_
  refine Js.region ?_
  refine JL.q (OpP.q (p_fieldAddr fld_51_5 rfl)) ?_
  refine JL.q (q_load1 ty_2 rfl (Mem.box (i := 4) rfl rfl)) ?_
  refine JL.q (OpP.q (p_fieldAddr fld_45_5 rfl)) ?_
  refine JL.s (e_store (i := 2) (c' := [.int .i64 a.rules.pits, .int .i64 a.rules.seeds, .bool a.rules.stores, .bool a.rules.skip, .bool a.rules.relay, .bool a.rules.feed, .bool a.rules.again, .int .i64 a.rules.capture, .int .i64 a.rules.slam, .slice A11 a.position.pits.length c11, .slice A12 a.position.stores.length c12, .int .i64 a.position.player, .int .i64 a.depth, .int .i64 a.move, .int .i64 a.value, .int .i64 a.margin]) ty_2 rfl rfl rfl rfl rfl rfl rfl rfl) ?_
  rintro _ _ _ ⟨rfl, rfl⟩ _
  refine JL.nil ?_
  refine Js.seq ?_
  refine Js.region ?_
  refine JL.q (q_loadN ty_45 rfl (Mem.boxR (i := 2) rfl 0 16) rfl rfl) ?_
  refine JL.s (e_store (i := 3) (c' := [.int .i64 a.rules.pits, .int .i64 a.rules.seeds, .bool a.rules.stores, .bool a.rules.skip, .bool a.rules.relay, .bool a.rules.feed, .bool a.rules.again, .int .i64 a.rules.capture, .int .i64 a.rules.slam, .slice A11 a.position.pits.length c11, .slice A12 a.position.stores.length c12, .int .i64 a.position.player, .int .i64 a.depth, .int .i64 a.move, .int .i64 a.value, .int .i64 a.margin]) ty_45 rfl rfl rfl rfl rfl rfl rfl rfl) ?_
  rintro _ _ _ ⟨rfl, rfl⟩ _
  refine JL.nil ?_
  refine Js.ret (R := RO w (Ty.agg (cPuzzle a))) @Try.results32 (fun _ _ => rfl) (ResOk.cell (res_box (i := 3) ty_45 rfl rfl rfl rfl rfl) ResOk.nil) (fun w1 hw => ?_)
  have hx := hw.ext (Up.refl _ _)
  exact ret_own (ps := [(0, (Value.ownBlock (.slice A11 a.position.pits.length c11)).toList), (1, (Value.ownBlock (.slice A12 a.position.stores.length c12)).toList)]) hw hx ⟨_, rfl, ⟨_, _, rfl, ⟨rfl, rfl⟩, ⟨_, _, rfl, ⟨rfl, rfl⟩, ⟨_, _, rfl, ⟨rfl, rfl⟩, ⟨_, _, rfl, ⟨rfl, rfl⟩, ⟨_, _, rfl, ⟨rfl, rfl⟩, ⟨_, _, rfl, ⟨rfl, rfl⟩, ⟨_, _, rfl, ⟨rfl, rfl⟩, ⟨_, _, rfl, ⟨rfl, rfl⟩, ⟨_, _, rfl, ⟨rfl, rfl⟩, ⟨_, _, rfl, (ints_row (xs := a.position.pits) (hw.pr (i := 0) rfl) rfl), ⟨_, _, rfl, (ints_row (xs := a.position.stores) (hw.pr (i := 1) rfl) rfl), ⟨_, _, rfl, ⟨rfl, rfl⟩, ⟨_, _, rfl, ⟨rfl, rfl⟩, ⟨_, _, rfl, ⟨rfl, rfl⟩, ⟨_, _, rfl, ⟨rfl, rfl⟩, ⟨_, _, rfl, ⟨rfl, rfl⟩, rfl⟩⟩⟩⟩⟩⟩⟩⟩⟩⟩⟩⟩⟩⟩⟩⟩⟩ (Pick.cons (j := 0) rfl (List.sublist_append_left _ _) rfl (Pick.cons (j := 1) rfl (List.sublist_append_left _ _) rfl Pick.nil)) (by simp [List.flatten, outV])

set_option maxRecDepth 100000 in
set_option maxHeartbeats 400000 in
theorem c_laws_szPuzzle (a : M.Puz) (v_a : Value) (left : Int) (w : World) (h_a : (Ty.agg (cPuzzle a)).ok w v_a) (r0 : -1 ≤ left) (r1 : left ≤ 1048576) : RetV Try.prog 30 [v_a, .int .i64 left] w (.int .i64 (M.szP a.position left)) := by
  have q1 := M.szL_cases (a.position.pits.length + a.position.stores.length) left
  change (left < _ ∧ M.szP a.position left = -1) ∨ (_ ≤ left ∧ M.szP a.position left = left - _) at q1
  obtain ⟨A1_9, c1_9, A1_10, c1_10, rfl, h1_9, h1_10, bl1_9, bh1_9, bl1_10, bh1_10⟩ := open_Puzzle h_a
  refine enter @Try.func30 @Try.ntmps30 rfl rfl ?_
  refine Js.seq ?_
  refine Js.region ?_
  refine JL.e (e_box (c := [.int .i64 a.rules.pits, .int .i64 a.rules.seeds, .bool a.rules.stores, .bool a.rules.skip, .bool a.rules.relay, .bool a.rules.feed, .bool a.rules.again, .int .i64 a.rules.capture, .int .i64 a.rules.slam, .slice A1_9 a.position.pits.length c1_9, .slice A1_10 a.position.stores.length c1_10, .int .i64 a.position.player, .int .i64 a.depth, .int .i64 a.move, .int .i64 a.value, .int .i64 a.margin]) rfl rfl) ?_
  rintro _ _ _ ⟨b2, rfl, rfl, rfl⟩ _
  refine JL.q (OpP.q (p_assign rfl)) ?_
  refine JL.nil ?_
  refine Js.seq ?_
  refine Js.region ?_
  refine JL.q (OpP.q (p_fieldAddr fld_51_1 rfl)) ?_
  refine JL.q (q_loadN ty_26 rfl (Mem.boxR (i := 0) rfl 9 3) rfl rfl) ?_
  refine JL.q (OpP.q (p_move rfl)) ?_
  refine JL.e (e_callV fn_10 rfl (fun w hw => c_laws_szPosition a.position _ left w ⟨_, rfl, ⟨(Ty.mono _ h1_9 hw.vis), (Ty.mono _ h1_10 hw.vis), rfl, trivial⟩⟩ (by omega) (by omega))) ?_
  rintro _ _ _ ⟨rfl, rfl, rfl⟩ _
  refine JL.q (OpP.q (p_assign rfl)) ?_
  refine JL.nil ?_
  refine Js.seq ?_
  refine Js.seq ?_
  refine Js.region ?_
  refine JL.q (OpP.q (p_move rfl)) ?_
  refine JL.q (OpP.q (p_lss rfl rfl)) ?_
  refine JL.nil ?_
  refine Js.cond rfl (fun h3 => ?_) (fun h3 => ?_)
  ·
    have h3' := h3
    try simp only [decide_eq_true_eq] at h3'
    refine Js.seq ?_
    refine Js.region ?_
    refine JL.q (OpP.q (p_assign rfl)) ?_
    refine JL.nil ?_
    refine Js.ret (R := RV w (.int .i64 (M.szP a.position left))) @Try.results30 (fun _ _ => rfl) (ResOk.tmp rfl ResOk.nil) (fun w1 hw => ?_)
    refine ⟨?_, hw.ext (Up.refl _ _)⟩
    first | rfl | (refine congrArg (fun n => Ending.returned (Value.int .i64 n)) ?_; omega)
  ·
    have h3' := h3
    try simp only [decide_eq_false_iff_not, Int.not_lt] at h3'
    refine Js.skip ?_
    refine Js.seq ?_
    refine Js.region ?_
    refine JL.q (OpP.q (p_move rfl)) ?_
    refine JL.q (OpP.q (p_assign rfl)) ?_
    refine JL.nil ?_
    refine Js.ret (R := RV w (.int .i64 (M.szP a.position left))) @Try.results30 (fun _ _ => rfl) (ResOk.tmp rfl ResOk.nil) (fun w1 hw => ?_)
    refine ⟨?_, hw.ext (Up.refl _ _)⟩
    first | rfl | (refine congrArg (fun n => Ending.returned (Value.int .i64 n)) ?_; omega)

set_option maxRecDepth 100000 in
set_option maxHeartbeats 400000 in
theorem c_laws_markPuzzle (a_rules : M.Rul) (a_position : M.Pos) (a_depth : Int) (a_move : Int) (a_value : Int) (a_margin : Int) (Aa_9 : Option Addr) (ca_9 : Nat) (ga_9 : List Nat) (Aa_10 : Option Addr) (ca_10 : Nat) (ga_10 : List Nat) (k : Int) (w : World) (hb : Bw w [rowO 2 1 (.slice Aa_9 a_position.pits.length ca_9) a_position.pits.length (ints_ a_position.pits) ga_9, rowO 2 1 (.slice Aa_10 a_position.stores.length ca_10) a_position.stores.length (ints_ a_position.stores) ga_10]) (bd0 : a_position.pits.length ≤ ca_9) (bd1 : ca_9 ≤ 9223372036854775807) (bd2 : a_position.stores.length ≤ ca_10) (bd3 : ca_10 ≤ 9223372036854775807) (r0 : a_position.pits.length ≤ 4194304) (r1 : a_position.stores.length ≤ 4194304) (r2 : 0 ≤ k) (r3 : k ≤ 10000000) : RetB Try.prog 28 [.agg #[.int .i64 a_rules.pits, .int .i64 a_rules.seeds, .bool a_rules.stores, .bool a_rules.skip, .bool a_rules.relay, .bool a_rules.feed, .bool a_rules.again, .int .i64 a_rules.capture, .int .i64 a_rules.slam, .slice Aa_9 a_position.pits.length ca_9, .slice Aa_10 a_position.stores.length ca_10, .int .i64 a_position.player, .int .i64 a_depth, .int .i64 a_move, .int .i64 a_value, .int .i64 a_margin], .int .i64 k] w [rowO 2 1 (.slice Aa_9 a_position.pits.length ca_9) a_position.pits.length (ints_ a_position.pits) ga_9, rowO 2 1 (.slice Aa_10 a_position.stores.length ca_10) a_position.stores.length (ints_ a_position.stores) ga_10] (fun v bs' => v = .int .i64 (k + (a_position.pits.length : Int) + (a_position.stores.length : Int)) ∧ bs' = [rowO 2 1 (.slice Aa_9 a_position.pits.length ca_9) a_position.pits.length (ints_ ((M.markP a_position k).pits)) ga_9, rowO 2 1 (.slice Aa_10 a_position.stores.length ca_10) a_position.stores.length (ints_ ((M.markP a_position k).stores)) ga_10]) := by
  refine enterB hb @Try.func28 @Try.ntmps28 rfl rfl ?_
  refine Js.trashE ?_
  refine Js.seq ?_
  refine Js.region ?_
  refine JL.e (e_box (c := [.int .i64 a_rules.pits, .int .i64 a_rules.seeds, .bool a_rules.stores, .bool a_rules.skip, .bool a_rules.relay, .bool a_rules.feed, .bool a_rules.again, .int .i64 a_rules.capture, .int .i64 a_rules.slam, .slice Aa_9 a_position.pits.length ca_9, .slice Aa_10 a_position.stores.length ca_10, .int .i64 a_position.player, .int .i64 a_depth, .int .i64 a_move, .int .i64 a_value, .int .i64 a_margin]) rfl rfl) ?_
  rintro _ _ _ ⟨b1, rfl, rfl, rfl⟩ _
  refine JL.q (OpP.q (p_assign rfl)) ?_
  refine JL.nil ?_
  refine Js.seq ?_
  refine Js.region ?_
  refine JL.q (OpP.q (p_fieldAddr fld_45_1 rfl)) ?_
  refine JL.q (q_loadN ty_33 rfl (Mem.boxR (i := 0) rfl 9 3) rfl rfl) ?_
  refine JL.q (OpP.q (p_move rfl)) ?_
  refine JL.conv (fun _ h => h.front (i := 2) rfl) ?_
  refine JL.conv (fun _ h => h.front (i := 2) rfl) ?_
  refine JL.e (e_callBB (bs := [rowO 2 1 (.slice Aa_9 a_position.pits.length ca_9) a_position.pits.length (ints_ a_position.pits) ga_9, rowO 2 1 (.slice Aa_10 a_position.stores.length ca_10) a_position.stores.length (ints_ a_position.stores) ga_10]) (rest := [boxO b1 [.int .i64 a_rules.pits, .int .i64 a_rules.seeds, .bool a_rules.stores, .bool a_rules.skip, .bool a_rules.relay, .bool a_rules.feed, .bool a_rules.again, .int .i64 a_rules.capture, .int .i64 a_rules.slam, .slice Aa_9 a_position.pits.length ca_9, .slice Aa_10 a_position.stores.length ca_10, .int .i64 a_position.player, .int .i64 a_depth, .int .i64 a_move, .int .i64 a_value, .int .i64 a_margin] 45, anyO []]) fn_17 rfl (fun w hb ⟨_, hw⟩ => c_laws_markPosition a_position.pits a_position.stores a_position.player Aa_9 ca_9 ga_9 Aa_10 ca_10 ga_10 k w hb (by omega) (by omega) (by omega) (by omega) (by omega) (by omega) (by omega) (by omega))) ?_
  rintro _ _ _ ⟨_, G2, ⟨rfl, rfl⟩, rfl, rfl⟩ _
  refine JL.q (OpP.q (p_assign rfl)) ?_
  refine JL.nil ?_
  refine Js.seq ?_
  refine Js.region ?_
  refine JL.q (OpP.q (p_move rfl)) ?_
  refine JL.q (OpP.q (p_assign rfl)) ?_
  refine JL.nil ?_
  refine Js.eat (i := 2) (j := 4) rfl rfl rfl ?_
  refine Js.eat (i := 2) (j := 3) rfl rfl rfl ?_
  refine Js.ret (R := RB w [rowO 2 1 (.slice Aa_9 a_position.pits.length ca_9) a_position.pits.length (ints_ a_position.pits) ga_9, rowO 2 1 (.slice Aa_10 a_position.stores.length ca_10) a_position.stores.length (ints_ a_position.stores) ga_10] (fun v bs' => v = .int .i64 (k + (a_position.pits.length : Int) + (a_position.stores.length : Int)) ∧ bs' = [rowO 2 1 (.slice Aa_9 a_position.pits.length ca_9) a_position.pits.length (ints_ ((M.markP a_position k).pits)) ga_9, rowO 2 1 (.slice Aa_10 a_position.stores.length ca_10) a_position.stores.length (ints_ ((M.markP a_position k).stores)) ga_10])) @Try.results28 (fun _ _ => rfl) (ResOk.tmp rfl ResOk.nil) (fun w1 hw => ?_)
  have hE : (.int .i64 (k + (a_position.pits.length : Int) + (a_position.stores.length : Int)) : Value) = .int .i64 (k + (a_position.pits.length : Int) + (a_position.stores.length : Int)) := by first | rfl | (simp only [M.markP]; done) | (simp only [M.markP]; rfl)
  have hE1 : (M.markP a_position k).pits = M.up k a_position.pits.length := by first | rfl | (simp only [M.markP]; done) | (simp only [M.markP]; rfl)
  have hE2 : (M.markP a_position k).stores = M.up (k + (a_position.pits.length : Int)) a_position.stores.length := by first | rfl | (simp only [M.markP]; done) | (simp only [M.markP]; rfl)
  refine ⟨_, [rowO 2 1 (.slice Aa_9 a_position.pits.length ca_9) a_position.pits.length (ints_ (M.up k a_position.pits.length)) ga_9, rowO 2 1 (.slice Aa_10 a_position.stores.length ca_10) a_position.stores.length (ints_ (M.up (k + (a_position.pits.length : Int)) a_position.stores.length)) ga_10], _, rfl, ⟨hE, ?_⟩, hw.giveBack hb (Up.refl _ _)⟩
  · rw [hE1, hE2]

set_option maxRecDepth 100000 in
set_option maxHeartbeats 400000 in
theorem c_laws_heldPuzzle (a : M.Puz) (v_a : Value) (k : Int) (w : World) (h_a : (Ty.agg (cPuzzle a)).ok w v_a) (r0 : a.position.pits.length ≤ 4194304) (r1 : a.position.stores.length ≤ 4194304) (r2 : 0 ≤ k) (r3 : k ≤ 10000000) : RetV Try.prog 29 [v_a, .int .i64 k] w (.int .i64 (M.heldP a.position k)) := by
  have b1 := M.heldP_bd a.position r2
  have b3 : M.szp a.position = a.position.pits.length + a.position.stores.length := rfl
  obtain ⟨A1_9, c1_9, A1_10, c1_10, rfl, h1_9, h1_10, bl1_9, bh1_9, bl1_10, bh1_10⟩ := open_Puzzle h_a
  refine enter @Try.func29 @Try.ntmps29 rfl rfl ?_
  refine Js.seq ?_
  refine Js.region ?_
  refine JL.e (e_box (c := [.int .i64 a.rules.pits, .int .i64 a.rules.seeds, .bool a.rules.stores, .bool a.rules.skip, .bool a.rules.relay, .bool a.rules.feed, .bool a.rules.again, .int .i64 a.rules.capture, .int .i64 a.rules.slam, .slice A1_9 a.position.pits.length c1_9, .slice A1_10 a.position.stores.length c1_10, .int .i64 a.position.player, .int .i64 a.depth, .int .i64 a.move, .int .i64 a.value, .int .i64 a.margin]) rfl rfl) ?_
  rintro _ _ _ ⟨b2, rfl, rfl, rfl⟩ _
  refine JL.q (OpP.q (p_assign rfl)) ?_
  refine JL.nil ?_
  refine Js.seq ?_
  refine Js.region ?_
  refine JL.q (OpP.q (p_fieldAddr fld_45_1 rfl)) ?_
  refine JL.q (q_loadN ty_33 rfl (Mem.boxR (i := 0) rfl 9 3) rfl rfl) ?_
  refine JL.q (OpP.q (p_move rfl)) ?_
  refine JL.e (e_callV fn_55 rfl (fun w hw => c_laws_heldPosition a.position _ k w ⟨_, rfl, ⟨(Ty.mono _ h1_9 hw.vis), (Ty.mono _ h1_10 hw.vis), rfl, trivial⟩⟩ (by omega) (by omega) (by omega) (by omega))) ?_
  rintro _ _ _ ⟨rfl, rfl, rfl⟩ _
  refine JL.q (OpP.q (p_assign rfl)) ?_
  refine JL.nil ?_
  refine Js.seq ?_
  refine Js.seq ?_
  refine Js.region ?_
  refine JL.q (OpP.q (p_move rfl)) ?_
  refine JL.q (OpP.q (p_lss rfl rfl)) ?_
  refine JL.nil ?_
  refine Js.cond rfl (fun h3 => ?_) (fun h3 => ?_)
  ·
    have h3' := h3
    try simp only [decide_eq_true_eq] at h3'
    have hE : M.heldP a.position k = -1 := by have := h3'; omega
    refine Js.seq ?_
    refine Js.region ?_
    refine JL.q (OpP.q (p_assign rfl)) ?_
    refine JL.nil ?_
    refine Js.ret (R := RV w (.int .i64 (M.heldP a.position k))) @Try.results29 (fun _ _ => rfl) (ResOk.tmp rfl ResOk.nil) (fun w1 hw => ?_)
    refine ⟨?_, hw.ext (Up.refl _ _)⟩
    first | (rw [hE]; rfl) | rfl
  ·
    have h3' := h3
    try simp only [decide_eq_false_iff_not, Int.not_lt] at h3'
    refine Js.skip ?_
    refine Js.seq ?_
    refine Js.region ?_
    refine JL.q (OpP.q (p_move rfl)) ?_
    refine JL.q (OpP.q (p_assign rfl)) ?_
    refine JL.nil ?_
    refine Js.ret (R := RV w (.int .i64 (M.heldP a.position k))) @Try.results29 (fun _ _ => rfl) (ResOk.tmp rfl ResOk.nil) (fun w1 hw => ?_)
    refine ⟨?_, hw.ext (Up.refl _ _)⟩
    first | (rw [hE]; rfl) | rfl

end Go.Proofs.Ytinkeciedmjjmaa

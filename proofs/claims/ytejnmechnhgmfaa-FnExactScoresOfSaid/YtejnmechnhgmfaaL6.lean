/- Walks: L6. -/
import Derived.Test.YtejnmechnhgmfaaTy
import Derived.Test.YtejnmechnhgmfaaG6
import Derived.Test.YtejnmechnhgmfaaK5
import Derived.Test.YtejnmechnhgmfaaL3
set_option linter.unusedSimpArgs false
set_option linter.unusedVariables false
namespace Go.Proofs.Ytejnmechnhgmfaa
open Go.RowKit

set_option maxRecDepth 100000 in
set_option maxHeartbeats 400000 in
theorem c_laws_FnExactScoresOf (aG : M.Gam) (v_aG : Value) (w : World) (h_aG : (Ty.agg (cGame aG)).ok w v_aG) : RetV Try.prog 13 [v_aG] w (.bool true) := by
  have q4 := M.szL_cases (aG.start.pits.length + aG.start.stores.length + aG.moves.length + aG.now.pits.length + aG.now.stores.length) 1048576
  change (1048576 < _ ∧ M.szG aG 1048576 = -1) ∨ (_ ≤ _ ∧ M.szG aG 1048576 = _) at q4
  have z1 := M.szp_nn aG.start
  have z2 := M.szp_nn aG.now
  have z3 := M.scoresR_len aG
  have z4 := M.up_length 1 (M.scoresR aG).length
  obtain ⟨A1_9, c1_9, A1_10, c1_10, A1_12, c1_12, A1_13, c1_13, A1_14, c1_14, rfl, h1_9, h1_10, h1_12, h1_13, h1_14, bl1_9, bh1_9, bl1_10, bh1_10, bl1_12, bh1_12, bl1_13, bh1_13, bl1_14, bh1_14⟩ := open_Game h_aG
  refine enter @Try.func13 @Try.ntmps13 rfl rfl ?_
  refine Js.seq ?_
  refine Js.region ?_
  refine JL.e (e_box (c := [.int .i64 aG.rules.pits, .int .i64 aG.rules.seeds, .bool aG.rules.stores, .bool aG.rules.skip, .bool aG.rules.relay, .bool aG.rules.feed, .bool aG.rules.again, .int .i64 aG.rules.capture, .int .i64 aG.rules.slam, .slice A1_9 aG.start.pits.length c1_9, .slice A1_10 aG.start.stores.length c1_10, .int .i64 aG.start.player, .slice A1_12 aG.moves.length c1_12, .slice A1_13 aG.now.pits.length c1_13, .slice A1_14 aG.now.stores.length c1_14, .int .i64 aG.now.player, .int .i64 aG.resigned]) rfl rfl) ?_
  rintro _ _ _ ⟨b2, rfl, rfl, rfl⟩ _
  refine JL.q (OpP.q (p_assign rfl)) ?_
  refine JL.nil ?_
  refine Js.seq ?_
  refine Js.region ?_
  refine JL.q (OpP.q (p_assign rfl)) ?_
  refine JL.nil ?_
  refine Js.seq ?_
  refine Js.region ?_
  refine JL.q (q_loadN ty_28 rfl (Mem.boxR (i := 0) rfl 0 17) rfl rfl) ?_
  refine JL.q (OpP.q (p_move rfl)) ?_
  refine JL.e (e_callV fn_17 rfl (fun w hw => c_laws_szGame aG _ 1048576 w ⟨_, rfl, ⟨rfl, rfl, rfl, rfl, rfl, rfl, rfl, rfl, rfl, (Ty.mono _ h1_9 hw.vis), (Ty.mono _ h1_10 hw.vis), rfl, (Ty.mono _ h1_12 hw.vis), (Ty.mono _ h1_13 hw.vis), (Ty.mono _ h1_14 hw.vis), rfl, rfl, trivial⟩⟩ (by omega) (by omega))) ?_
  rintro _ _ _ ⟨rfl, rfl, rfl⟩ _
  refine JL.q (OpP.q (p_assign rfl)) ?_
  refine JL.nil ?_
  refine Js.seq ?_
  refine Js.seq ?_
  refine Js.region ?_
  refine JL.q (OpP.q (p_move rfl)) ?_
  refine JL.q (OpP.q (p_lss rfl rfl)) ?_
  refine JL.nil ?_
  refine Js.cond rfl (fun h3 => ?_) (fun h3 => ?_)
  ·
    have h3' := h3
    try simp only [decide_eq_true_eq] at h3'
    refine Js.seq ?_
    refine Js.region ?_
    refine JL.q (OpP.q (p_assign rfl)) ?_
    refine JL.nil ?_
    refine Js.ret (R := RV w (.bool true)) @Try.results13 (fun _ _ => rfl) (ResOk.tmp rfl ResOk.nil) (fun w1 hw => ?_)
    refine ⟨?_, hw.ext (Up.refl _ _)⟩
    first | rfl | (simp [outV]; done)
  ·
    have h3' := h3
    try simp only [decide_eq_false_iff_not, Int.not_lt] at h3'
    refine Js.skip ?_
    refine Js.seq ?_
    refine Js.region ?_
    refine JL.q (q_loadN ty_28 rfl (Mem.boxR (i := 0) rfl 0 17) rfl rfl) ?_
    refine JL.e (e_callP fn_19 rfl (fun w hw => c_laws_toGame aG _ w ⟨_, rfl, ⟨rfl, rfl, rfl, rfl, rfl, rfl, rfl, rfl, rfl, (Ty.mono _ h1_9 hw.vis), (Ty.mono _ h1_10 hw.vis), rfl, (Ty.mono _ h1_12 hw.vis), (Ty.mono _ h1_13 hw.vis), (Ty.mono _ h1_14 hw.vis), rfl, rfl, trivial⟩⟩ (by omega) (by omega) (by omega) (by omega) (by omega))) ?_
    rintro v4 _ u6 ⟨h5, rfl⟩ x6
    obtain ⟨A7_9, c7_9, A7_10, c7_10, A7_12, c7_12, A7_13, c7_13, A7_14, c7_14, rfl, h7_9, h7_10, h7_12, h7_13, h7_14, bl7_9, bh7_9, bl7_10, bh7_10, bl7_12, bh7_12, bl7_13, bh7_13, bl7_14, bh7_14⟩ := open_Game h5
    refine JL.e (e_callP fn_49 rfl (fun w hw => c_spec_ScoresOf aG _ w ⟨_, rfl, ⟨rfl, rfl, rfl, rfl, rfl, rfl, rfl, rfl, rfl, (Ty.mono _ h7_9 hw.vis), (Ty.mono _ h7_10 hw.vis), rfl, (Ty.mono _ h7_12 hw.vis), (Ty.mono _ h7_13 hw.vis), (Ty.mono _ h7_14 hw.vis), rfl, rfl, trivial⟩⟩ (by omega) (by omega) (by omega) (by omega) (by omega))) ?_
    rintro v8 _ u10 ⟨h9, rfl⟩ x10
    obtain ⟨vs11, rfl, hv11⟩ := h9
    obtain ⟨v11_0, vs11, rfl, hw11_0, hv11⟩ := cellsOk_cons hv11
    obtain ⟨v11_1, vs11, rfl, hw11_1, hv11⟩ := cellsOk_cons hv11
    obtain rfl := cellsOk_nil hv11
    obtain ⟨A12, c12, rfl, bl12, bh12⟩ := sl_form hw11_0
    obtain rfl : v11_1 = .int .i64 (M.endC aG) := hw11_1
    refine JL.q (OpP.q (p_move rfl)) ?_
    refine JL.q (OpP.q (p_extract rfl rfl)) ?_
    refine JL.q (OpP.q (p_extract rfl rfl)) ?_
    refine JL.q (OpP.q (p_assign rfl)) ?_
    refine JL.q (OpP.q (p_assign rfl)) ?_
    refine JL.nil ?_
    refine Js.seq ?_
    refine Js.region ?_
    refine JL.q (q_loadN ty_28 rfl (Mem.boxR (i := 0) rfl 0 17) rfl rfl) ?_
    refine JL.e (e_callO fn_19 rfl (Spl.agg (Spls.cons (Spl.val _) (Spls.cons (Spl.val _) (Spls.cons (Spl.val _) (Spls.cons (Spl.val _) (Spls.cons (Spl.val _) (Spls.cons (Spl.val _) (Spls.cons (Spl.val _) (Spls.cons (Spl.val _) (Spls.cons (Spl.val _) (Spls.cons (Spl.ints _ _) (Spls.cons (Spl.ints _ _) (Spls.cons (Spl.val _) (Spls.cons (Spl.ints _ _) (Spls.cons (Spl.ints _ _) (Spls.cons (Spl.ints _ _) (Spls.cons (Spl.val _) (Spls.cons (Spl.val _) Spls.nil)))))))))))))))))) (fun w hw => c_laws_toGame aG _ w ⟨_, rfl, ⟨rfl, rfl, rfl, rfl, rfl, rfl, rfl, rfl, rfl, (Ty.mono _ h1_9 ((x6.vis.trans x10.vis).trans hw.vis)), (Ty.mono _ h1_10 ((x6.vis.trans x10.vis).trans hw.vis)), rfl, (Ty.mono _ h1_12 ((x6.vis.trans x10.vis).trans hw.vis)), (Ty.mono _ h1_13 ((x6.vis.trans x10.vis).trans hw.vis)), (Ty.mono _ h1_14 ((x6.vis.trans x10.vis).trans hw.vis)), rfl, rfl, trivial⟩⟩ (by omega) (by omega) (by omega) (by omega) (by omega))) ?_
    rintro v13 _ _ ⟨_, hR14, rfl, rfl⟩ _
    obtain ⟨vs15, rfl, hr15⟩ := hR14
    obtain ⟨v15_0, vs15_0, o15_0, ow15_0, rfl, hR15_0, hs15_0, rfl⟩ := RL_cons hr15
    obtain ⟨v15_1, vs15_1, o15_1, ow15_1, rfl, hR15_1, hs15_1, rfl⟩ := RL_cons hs15_0
    obtain ⟨v15_2, vs15_2, o15_2, ow15_2, rfl, hR15_2, hs15_2, rfl⟩ := RL_cons hs15_1
    obtain ⟨v15_3, vs15_3, o15_3, ow15_3, rfl, hR15_3, hs15_3, rfl⟩ := RL_cons hs15_2
    obtain ⟨v15_4, vs15_4, o15_4, ow15_4, rfl, hR15_4, hs15_4, rfl⟩ := RL_cons hs15_3
    obtain ⟨v15_5, vs15_5, o15_5, ow15_5, rfl, hR15_5, hs15_5, rfl⟩ := RL_cons hs15_4
    obtain ⟨v15_6, vs15_6, o15_6, ow15_6, rfl, hR15_6, hs15_6, rfl⟩ := RL_cons hs15_5
    obtain ⟨v15_7, vs15_7, o15_7, ow15_7, rfl, hR15_7, hs15_7, rfl⟩ := RL_cons hs15_6
    obtain ⟨v15_8, vs15_8, o15_8, ow15_8, rfl, hR15_8, hs15_8, rfl⟩ := RL_cons hs15_7
    obtain ⟨v15_9, vs15_9, o15_9, ow15_9, rfl, hR15_9, hs15_9, rfl⟩ := RL_cons hs15_8
    obtain ⟨v15_10, vs15_10, o15_10, ow15_10, rfl, hR15_10, hs15_10, rfl⟩ := RL_cons hs15_9
    obtain ⟨v15_11, vs15_11, o15_11, ow15_11, rfl, hR15_11, hs15_11, rfl⟩ := RL_cons hs15_10
    obtain ⟨v15_12, vs15_12, o15_12, ow15_12, rfl, hR15_12, hs15_12, rfl⟩ := RL_cons hs15_11
    obtain ⟨v15_13, vs15_13, o15_13, ow15_13, rfl, hR15_13, hs15_13, rfl⟩ := RL_cons hs15_12
    obtain ⟨v15_14, vs15_14, o15_14, ow15_14, rfl, hR15_14, hs15_14, rfl⟩ := RL_cons hs15_13
    obtain ⟨v15_15, vs15_15, o15_15, ow15_15, rfl, hR15_15, hs15_15, rfl⟩ := RL_cons hs15_14
    obtain ⟨v15_16, vs15_16, o15_16, ow15_16, rfl, hR15_16, hs15_16, rfl⟩ := RL_cons hs15_15
    obtain ⟨rfl, rfl⟩ := RL_nil hs15_16
    obtain ⟨rfl, rfl⟩ : v15_0 = .int .i64 aG.rules.pits ∧ _ := hR15_0
    obtain ⟨rfl, rfl⟩ : v15_1 = .int .i64 aG.rules.seeds ∧ _ := hR15_1
    obtain ⟨rfl, rfl⟩ : v15_2 = .bool aG.rules.stores ∧ _ := hR15_2
    obtain ⟨rfl, rfl⟩ : v15_3 = .bool aG.rules.skip ∧ _ := hR15_3
    obtain ⟨rfl, rfl⟩ : v15_4 = .bool aG.rules.relay ∧ _ := hR15_4
    obtain ⟨rfl, rfl⟩ : v15_5 = .bool aG.rules.feed ∧ _ := hR15_5
    obtain ⟨rfl, rfl⟩ : v15_6 = .bool aG.rules.again ∧ _ := hR15_6
    obtain ⟨rfl, rfl⟩ : v15_7 = .int .i64 aG.rules.capture ∧ _ := hR15_7
    obtain ⟨rfl, rfl⟩ : v15_8 = .int .i64 aG.rules.slam ∧ _ := hR15_8
    obtain ⟨A16, c16, rfl, rfl, bl16, bh16⟩ := hR15_9
    obtain ⟨A17, c17, rfl, rfl, bl17, bh17⟩ := hR15_10
    obtain ⟨rfl, rfl⟩ : v15_11 = .int .i64 aG.start.player ∧ _ := hR15_11
    obtain ⟨A18, c18, rfl, rfl, bl18, bh18⟩ := hR15_12
    obtain ⟨A19, c19, rfl, rfl, bl19, bh19⟩ := hR15_13
    obtain ⟨A20, c20, rfl, rfl, bl20, bh20⟩ := hR15_14
    obtain ⟨rfl, rfl⟩ : v15_15 = .int .i64 aG.now.player ∧ _ := hR15_15
    obtain ⟨rfl, rfl⟩ : v15_16 = .int .i64 aG.resigned ∧ _ := hR15_16
    refine JL.e (e_alloc zero_35) ?_
    rintro _ _ _ ⟨b21, rfl, rfl, rfl⟩ _
    refine JL.s (e_store (i := 0) (c' := [.int .i64 aG.rules.pits, .int .i64 aG.rules.seeds, .bool aG.rules.stores, .bool aG.rules.skip, .bool aG.rules.relay, .bool aG.rules.feed, .bool aG.rules.again, .int .i64 aG.rules.capture, .int .i64 aG.rules.slam, .slice A16 aG.start.pits.length c16, .slice A17 aG.start.stores.length c17, .int .i64 aG.start.player, .slice A18 aG.moves.length c18, .slice A19 aG.now.pits.length c19, .slice A20 aG.now.stores.length c20, .int .i64 aG.now.player, .int .i64 aG.resigned]) ty_35 rfl rfl rfl rfl rfl rfl rfl rfl) ?_
    rintro _ _ _ ⟨rfl, rfl⟩ _
    refine JL.nil ?_
    refine Js.seq ?_
    refine Js.region ?_
    refine JL.q (q_loadN ty_35 rfl (Mem.boxR (i := 0) rfl 0 17) rfl rfl) ?_
    refine JL.e (e_callO fn_50 rfl (Spl.tup (Spls.cons (Spl.ints _ _) (Spls.cons (Spl.val _) Spls.nil))) (fun w hw => c_impl_ScoresOf aG _ w ⟨_, rfl, ⟨rfl, rfl, rfl, rfl, rfl, rfl, rfl, rfl, rfl, (ints_rowok (xs := aG.start.pits) (hw.pr (i := 1) rfl)), (ints_rowok (xs := aG.start.stores) (hw.pr (i := 2) rfl)), rfl, (ints_rowok (xs := aG.moves) (hw.pr (i := 3) rfl)), (ints_rowok (xs := aG.now.pits) (hw.pr (i := 4) rfl)), (ints_rowok (xs := aG.now.stores) (hw.pr (i := 5) rfl)), rfl, rfl, trivial⟩⟩ (by omega) (by omega) (by omega) (by omega) (by omega))) ?_
    rintro v22 _ _ ⟨_, hR23, rfl, rfl⟩ _
    obtain ⟨vs24, rfl, hr24⟩ := hR23
    obtain ⟨v24_0, vs24_0, o24_0, ow24_0, rfl, hR24_0, hs24_0, rfl⟩ := RL_cons hr24
    obtain ⟨v24_1, vs24_1, o24_1, ow24_1, rfl, hR24_1, hs24_1, rfl⟩ := RL_cons hs24_0
    obtain ⟨rfl, rfl⟩ := RL_nil hs24_1
    obtain ⟨A25, c25, rfl, rfl, bl25, bh25⟩ := hR24_0
    obtain ⟨rfl, rfl⟩ : v24_1 = .int .i64 (M.endC aG) ∧ _ := hR24_1
    refine JL.q (OpP.q (p_move rfl)) ?_
    refine JL.q (OpP.q (p_extract rfl rfl)) ?_
    refine JL.q (OpP.q (p_extract rfl rfl)) ?_
    refine JL.q (OpP.q (p_assign rfl)) ?_
    refine JL.q (OpP.q (p_assign rfl)) ?_
    refine JL.nil ?_
    refine Js.seq ?_
    refine Js.seq ?_
    refine Js.region ?_
    refine JL.q (OpP.q (p_move rfl)) ?_
    refine JL.q (OpP.q (p_move rfl)) ?_
    refine JL.e (e_callV fn_24 rfl (fun w hw => c_laws_eqInt64S (M.scoresR aG) _ (M.scoresR aG) _ w (ints_rowok (xs := (M.scoresR aG)) (hw.pr (i := 0) rfl)) (Ty.mono _ hw11_0 hw.vis) (by omega) (by omega))) ?_
    rintro _ _ _ ⟨rfl, rfl, rfl⟩ _
    refine JL.q (OpP.q (p_not rfl)) ?_
    refine JL.q (OpP.q (p_move rfl)) ?_
    refine JL.g (Gd.f1 rfl rfl rfl) (fun hc => OpP.q (p_move rfl)) ?_
    refine JL.g (Gd.f1 rfl rfl rfl) (fun hc => OpP.q (p_move rfl)) ?_
    refine JL.g (Gd.f1 rfl rfl rfl) (fun hc => OpP.q (p_neq (gvt rfl hc) (gvt rfl hc))) ?_
    refine JL.q (OpP.q (p_pickOr rfl rfl rfl)) ?_
    refine JL.nil ?_
    refine Js.cond rfl (fun h26 => ?_) (fun h26 => ?_)
    ·
      exact absurd h26 (by simp)
    ·
      have h26' := h26
      try simp only [Bool.or_eq_false_iff, Bool.not_eq_false', decide_eq_true_eq] at h26'
      refine Js.skip ?_
      refine Js.seq ?_
      refine Js.seq ?_
      refine Js.drawn _ [] mixed_ (fun _ h => h) ?_
      refine JH.q 0 rfl (q_loadN ty_35 rfl (Mem.boxR (i := 1) rfl 0 17) rfl rfl) ?_
      refine JH.q 1 rfl (q_loadN ty_28 rfl (Mem.boxR (i := 7) rfl 0 17) rfl rfl) ?_
      refine JH.one (i := 2) (by kernel_rfl) ?_
      refine JHo.e rfl (e_callP fn_19 rfl (fun w hw => c_laws_toGame aG _ w ⟨_, rfl, ⟨rfl, rfl, rfl, rfl, rfl, rfl, rfl, rfl, rfl, (Ty.mono _ h1_9 ((x6.vis.trans x10.vis).trans hw.vis)), (Ty.mono _ h1_10 ((x6.vis.trans x10.vis).trans hw.vis)), rfl, (Ty.mono _ h1_12 ((x6.vis.trans x10.vis).trans hw.vis)), (Ty.mono _ h1_13 ((x6.vis.trans x10.vis).trans hw.vis)), (Ty.mono _ h1_14 ((x6.vis.trans x10.vis).trans hw.vis)), rfl, rfl, trivial⟩⟩ (by omega) (by omega) (by omega) (by omega) (by omega))) (.inl rfl) ?_
      rintro v27 _ u29 ⟨h28, rfl⟩ x29
      obtain ⟨A30_9, c30_9, A30_10, c30_10, A30_12, c30_12, A30_13, c30_13, A30_14, c30_14, rfl, h30_9, h30_10, h30_12, h30_13, h30_14, bl30_9, bh30_9, bl30_10, bh30_10, bl30_12, bh30_12, bl30_13, bh30_13, bl30_14, bh30_14⟩ := open_Game h28
      refine JH.one (i := 3) (by kernel_rfl) ?_
      refine JHo.e rfl (e_callV fn_21 rfl (fun w hw => c_laws_eqGame aG _ aG _ w ⟨_, rfl, ⟨rfl, rfl, rfl, rfl, rfl, rfl, rfl, rfl, rfl, (ints_rowok (xs := aG.start.pits) (hw.pr (i := 2) rfl)), (ints_rowok (xs := aG.start.stores) (hw.pr (i := 3) rfl)), rfl, (ints_rowok (xs := aG.moves) (hw.pr (i := 4) rfl)), (ints_rowok (xs := aG.now.pits) (hw.pr (i := 5) rfl)), (ints_rowok (xs := aG.now.stores) (hw.pr (i := 6) rfl)), rfl, rfl, trivial⟩⟩ ⟨_, rfl, ⟨rfl, rfl, rfl, rfl, rfl, rfl, rfl, rfl, rfl, (Ty.mono _ h30_9 hw.vis), (Ty.mono _ h30_10 hw.vis), rfl, (Ty.mono _ h30_12 hw.vis), (Ty.mono _ h30_13 hw.vis), (Ty.mono _ h30_14 hw.vis), rfl, rfl, trivial⟩⟩ (by omega) (by omega) (by omega) (by omega) (by omega) (by omega) (by omega) (by omega) (by omega) (by omega))) (.inl rfl) ?_
      rintro _ _ _ ⟨rfl, rfl, rfl⟩ _
      refine JH.p 4 rfl (p_not rfl) ?_
      refine JH.done (by kernel_rfl) ?_
      refine Js.cond rfl (fun h31 => ?_) (fun h31 => ?_)
      ·
        exact absurd h31 (by simp)
      ·
        have h31' := h31
        try simp only [Bool.not_eq_false', decide_eq_true_eq] at h31'
        refine Js.skip ?_
        refine Js.seq ?_
        refine Js.region ?_
        refine JL.q (OpP.q (p_assign rfl)) ?_
        refine JL.nil ?_
        refine Js.seq ?_
        refine Js.region ?_
        refine JL.q (q_loadN ty_35 rfl (Mem.boxR (i := 1) rfl 0 17) rfl rfl) ?_
        refine JL.q (OpP.q (p_move rfl)) ?_
        refine JL.conv (fun _ h => h.front (i := 6) rfl) ?_
        refine JL.conv (fun _ h => h.front (i := 6) rfl) ?_
        refine JL.conv (fun _ h => h.front (i := 6) rfl) ?_
        refine JL.conv (fun _ h => h.front (i := 6) rfl) ?_
        refine JL.conv (fun _ h => h.front (i := 6) rfl) ?_
        refine JL.e (e_callB (bs := [rowO 2 1 (.slice A16 aG.start.pits.length c16) aG.start.pits.length (ints_ aG.start.pits) [], rowO 2 1 (.slice A17 aG.start.stores.length c17) aG.start.stores.length (ints_ aG.start.stores) [], rowO 2 1 (.slice A18 aG.moves.length c18) aG.moves.length (ints_ aG.moves) [], rowO 2 1 (.slice A19 aG.now.pits.length c19) aG.now.pits.length (ints_ aG.now.pits) [], rowO 2 1 (.slice A20 aG.now.stores.length c20) aG.now.stores.length (ints_ aG.now.stores) []]) (rest := [rowO 2 1 (.slice A25 ((M.scoresR aG).length) c25) ((M.scoresR aG).length) (ints_ (M.scoresR aG)) [], boxO b21 [.int .i64 aG.rules.pits, .int .i64 aG.rules.seeds, .bool aG.rules.stores, .bool aG.rules.skip, .bool aG.rules.relay, .bool aG.rules.feed, .bool aG.rules.again, .int .i64 aG.rules.capture, .int .i64 aG.rules.slam, .slice A16 aG.start.pits.length c16, .slice A17 aG.start.stores.length c17, .int .i64 aG.start.player, .slice A18 aG.moves.length c18, .slice A19 aG.now.pits.length c19, .slice A20 aG.now.stores.length c20, .int .i64 aG.now.player, .int .i64 aG.resigned] 35, boxO b2 [.int .i64 aG.rules.pits, .int .i64 aG.rules.seeds, .bool aG.rules.stores, .bool aG.rules.skip, .bool aG.rules.relay, .bool aG.rules.feed, .bool aG.rules.again, .int .i64 aG.rules.capture, .int .i64 aG.rules.slam, .slice A1_9 aG.start.pits.length c1_9, .slice A1_10 aG.start.stores.length c1_10, .int .i64 aG.start.player, .slice A1_12 aG.moves.length c1_12, .slice A1_13 aG.now.pits.length c1_13, .slice A1_14 aG.now.stores.length c1_14, .int .i64 aG.now.player, .int .i64 aG.resigned] 28]) fn_25 rfl (fun w hb hw => c_laws_markGame aG.rules aG.start aG.moves aG.now aG.resigned A16 c16 [] A17 c17 [] A18 c18 [] A19 c19 [] A20 c20 [] 1 w hb (by omega) (by omega) (by omega) (by omega) (by omega) (by omega) (by omega) (by omega) (by omega) (by omega) (by omega) (by omega) (by omega) (by omega) (by omega) (by omega) (by omega)) rfl) ?_
        rintro _ _ _ ⟨_, G32, ⟨rfl, rfl⟩, rfl, rfl⟩ _
        refine JL.q (OpP.q (p_assign rfl)) ?_
        refine JL.nil ?_
        refine Js.seq ?_
        refine Js.seq ?_
        refine Js.region ?_
        refine JL.q (OpP.q (p_move rfl)) ?_
        refine JL.q (OpP.q (p_lss rfl rfl)) ?_
        refine JL.q (OpP.q (p_move rfl)) ?_
        refine JL.g (Gd.f1 rfl rfl rfl) (fun hc => OpP.q (p_move rfl)) ?_
        refine JL.g (Gd.f1 rfl rfl rfl) (fun hc => OpP.q (p_move rfl)) ?_
        refine JL.ge (Gd.f1 rfl rfl rfl) (fun hc => e_callV fn_24 (opds_2 (gvt rfl hc) (gvt rfl hc)) (fun w hw => c_laws_eqInt64S (M.scoresR aG) _ (M.scoresR aG) _ w (ints_rowok (xs := (M.scoresR aG)) (hw.pr (i := 6) rfl)) (Ty.mono _ hw11_0 (x29.vis.trans hw.vis)) (by have hc9 := hc; (try simp only [Bool.not_eq_true', decide_eq_false_iff_not, Int.not_lt] at hc9); omega) (by have hc9 := hc; (try simp only [Bool.not_eq_true', decide_eq_false_iff_not, Int.not_lt] at hc9); omega))) ?_
        refine JL.g (Gd.f1 rfl rfl rfl) (fun hc => OpP.q (p_not (gvt rfl hc))) ?_
        refine JL.q (OpP.q (p_pickOr rfl rfl rfl)) ?_
        refine JL.q (OpP.q (p_move rfl)) ?_
        refine JL.g (Gd.f1 rfl rfl rfl) (fun hc => OpP.q (p_move rfl)) ?_
        refine JL.g (Gd.f1 rfl rfl rfl) (fun hc => OpP.q (p_move rfl)) ?_
        refine JL.g (Gd.f1 rfl rfl rfl) (fun hc => OpP.q (p_neq (gvt rfl hc) (gvt rfl hc))) ?_
        refine JL.q (OpP.q (p_pickOr rfl rfl rfl)) ?_
        refine JL.nil ?_
        refine Js.cond rfl (fun h33 => ?_) (fun h33 => ?_)
        ·
          exact absurd h33 (by simp only [decide_true, Bool.not_true, Bool.or_false, decide_eq_true_eq]; omega)
        ·
          have h33' := h33
          try simp only [Bool.or_eq_false_iff, decide_eq_false_iff_not, Int.not_lt, Bool.not_eq_false', decide_eq_true_eq] at h33'
          refine Js.skip ?_
          refine Js.seq ?_
          refine Js.region ?_
          refine JL.q (OpP.q (p_assign rfl)) ?_
          refine JL.nil ?_
          refine Js.seq ?_
          refine Js.region ?_
          refine JL.q (OpP.q (p_move rfl)) ?_
          refine JL.q (OpP.q (p_move rfl)) ?_
          refine JL.conv (fun _ h => h.front (i := 6) rfl) ?_
          refine JL.e (e_callB (bs := [rowO 2 1 (.slice A25 ((M.scoresR aG).length) c25) ((M.scoresR aG).length) (ints_ (M.scoresR aG)) []]) (rest := [rowO 2 1 (.slice A16 aG.start.pits.length c16) aG.start.pits.length (ints_ ((M.markP aG.start 1).pits)) [], rowO 2 1 (.slice A17 aG.start.stores.length c17) aG.start.stores.length (ints_ ((M.markP aG.start 1).stores)) [], rowO 2 1 (.slice A18 aG.moves.length c18) aG.moves.length (ints_ (M.up (1 + M.szp aG.start) aG.moves.length)) [], rowO 2 1 (.slice A19 aG.now.pits.length c19) aG.now.pits.length (ints_ ((M.markP aG.now (1 + M.szp aG.start + (aG.moves.length : Int))).pits)) [], rowO 2 1 (.slice A20 aG.now.stores.length c20) aG.now.stores.length (ints_ ((M.markP aG.now (1 + M.szp aG.start + (aG.moves.length : Int))).stores)) [], anyO G32, boxO b21 [.int .i64 aG.rules.pits, .int .i64 aG.rules.seeds, .bool aG.rules.stores, .bool aG.rules.skip, .bool aG.rules.relay, .bool aG.rules.feed, .bool aG.rules.again, .int .i64 aG.rules.capture, .int .i64 aG.rules.slam, .slice A16 aG.start.pits.length c16, .slice A17 aG.start.stores.length c17, .int .i64 aG.start.player, .slice A18 aG.moves.length c18, .slice A19 aG.now.pits.length c19, .slice A20 aG.now.stores.length c20, .int .i64 aG.now.player, .int .i64 aG.resigned] 35, boxO b2 [.int .i64 aG.rules.pits, .int .i64 aG.rules.seeds, .bool aG.rules.stores, .bool aG.rules.skip, .bool aG.rules.relay, .bool aG.rules.feed, .bool aG.rules.again, .int .i64 aG.rules.capture, .int .i64 aG.rules.slam, .slice A1_9 aG.start.pits.length c1_9, .slice A1_10 aG.start.stores.length c1_10, .int .i64 aG.start.player, .slice A1_12 aG.moves.length c1_12, .slice A1_13 aG.now.pits.length c1_13, .slice A1_14 aG.now.stores.length c1_14, .int .i64 aG.now.player, .int .i64 aG.resigned] 28]) fn_26 rfl (fun w hb hw => c_laws_markInt64S (M.scoresR aG) A25 c25 [] 1 w hb (by omega) (by omega) (by omega) (by omega) (by omega)) rfl) ?_
          rintro _ _ _ ⟨_, G34, ⟨rfl, rfl⟩, rfl, rfl⟩ _
          refine JL.q (OpP.q (p_assign rfl)) ?_
          refine JL.nil ?_
          refine Js.seq ?_
          refine Js.region ?_
          refine JL.q (OpP.q (p_assign rfl)) ?_
          refine JL.nil ?_
          refine Js.seq ?_
          refine Js.region ?_
          refine JL.q (OpP.q (p_move rfl)) ?_
          refine JL.q (OpP.q (p_move rfl)) ?_
          refine JL.e (e_callV fn_27 rfl (fun w hw => c_laws_heldInt64S (M.up 1 (M.scoresR aG).length) _ 1 w (ints_rowok (xs := (M.up 1 (M.scoresR aG).length)) (hw.pr (i := 0) rfl)) (by omega) (by omega) (by omega))) ?_
          rintro _ _ _ ⟨rfl, rfl, rfl⟩ _
          refine JL.q (OpP.q (p_assign rfl)) ?_
          refine JL.nil ?_
          refine Js.seq ?_
          refine Js.seq ?_
          refine Js.region ?_
          refine JL.q (OpP.q (p_move rfl)) ?_
          refine JL.q (OpP.q (p_lss rfl rfl)) ?_
          refine JL.nil ?_
          refine Js.cond rfl (fun h35 => ?_) (fun h35 => ?_)
          ·
            exact absurd h35 (by rw [M.held_up]; simp only [decide_eq_true_eq]; omega)
          ·
            have h35' := h35
            try simp only [decide_eq_false_iff_not, Int.not_lt] at h35'
            refine Js.skip ?_
            refine Js.seq ?_
            refine Js.seq ?_
            refine Js.region ?_
            refine JL.q (OpP.q (p_move rfl)) ?_
            refine JL.q (OpP.q (p_move rfl)) ?_
            refine JL.q (OpP.q (p_neq rfl rfl)) ?_
            refine JL.nil ?_
            refine Js.cond rfl (fun h36 => ?_) (fun h36 => ?_)
            ·
              exact absurd h36 (by rw [M.held_up]; simp)
            ·
              have h36' := h36
              try simp only [Bool.not_eq_false', decide_eq_true_eq] at h36'
              refine Js.skip ?_
              refine Js.seq ?_
              refine Js.region ?_
              refine JL.q (q_loadN ty_28 rfl (Mem.boxR (i := 9) rfl 0 17) rfl rfl) ?_
              refine JL.e (e_callP fn_19 rfl (fun w hw => c_laws_toGame aG _ w ⟨_, rfl, ⟨rfl, rfl, rfl, rfl, rfl, rfl, rfl, rfl, rfl, (Ty.mono _ h1_9 (((x6.vis.trans x10.vis).trans x29.vis).trans hw.vis)), (Ty.mono _ h1_10 (((x6.vis.trans x10.vis).trans x29.vis).trans hw.vis)), rfl, (Ty.mono _ h1_12 (((x6.vis.trans x10.vis).trans x29.vis).trans hw.vis)), (Ty.mono _ h1_13 (((x6.vis.trans x10.vis).trans x29.vis).trans hw.vis)), (Ty.mono _ h1_14 (((x6.vis.trans x10.vis).trans x29.vis).trans hw.vis)), rfl, rfl, trivial⟩⟩ (by omega) (by omega) (by omega) (by omega) (by omega))) ?_
              rintro v37 _ u39 ⟨h38, rfl⟩ x39
              obtain ⟨A40_9, c40_9, A40_10, c40_10, A40_12, c40_12, A40_13, c40_13, A40_14, c40_14, rfl, h40_9, h40_10, h40_12, h40_13, h40_14, bl40_9, bh40_9, bl40_10, bh40_10, bl40_12, bh40_12, bl40_13, bh40_13, bl40_14, bh40_14⟩ := open_Game h38
              refine JL.e (e_callP fn_50 rfl (fun w hw => c_impl_ScoresOf aG _ w ⟨_, rfl, ⟨rfl, rfl, rfl, rfl, rfl, rfl, rfl, rfl, rfl, (Ty.mono _ h40_9 hw.vis), (Ty.mono _ h40_10 hw.vis), rfl, (Ty.mono _ h40_12 hw.vis), (Ty.mono _ h40_13 hw.vis), (Ty.mono _ h40_14 hw.vis), rfl, rfl, trivial⟩⟩ (by omega) (by omega) (by omega) (by omega) (by omega))) ?_
              rintro v41 _ u43 ⟨h42, rfl⟩ x43
              obtain ⟨vs44, rfl, hv44⟩ := h42
              obtain ⟨v44_0, vs44, rfl, hw44_0, hv44⟩ := cellsOk_cons hv44
              obtain ⟨v44_1, vs44, rfl, hw44_1, hv44⟩ := cellsOk_cons hv44
              obtain rfl := cellsOk_nil hv44
              obtain ⟨A45, c45, rfl, bl45, bh45⟩ := sl_form hw44_0
              obtain rfl : v44_1 = .int .i64 (M.endC aG) := hw44_1
              refine JL.q (OpP.q (p_move rfl)) ?_
              refine JL.q (OpP.q (p_extract rfl rfl)) ?_
              refine JL.q (OpP.q (p_extract rfl rfl)) ?_
              refine JL.q (OpP.q (p_assign rfl)) ?_
              refine JL.q (OpP.q (p_assign rfl)) ?_
              refine JL.nil ?_
              refine Js.seq ?_
              refine Js.seq ?_
              refine Js.region ?_
              refine JL.q (OpP.q (p_move rfl)) ?_
              refine JL.q (OpP.q (p_move rfl)) ?_
              refine JL.e (e_callV fn_24 rfl (fun w hw => c_laws_eqInt64S (M.scoresR aG) _ (M.scoresR aG) _ w (Ty.mono _ hw44_0 hw.vis) (Ty.mono _ hw11_0 (((x29.vis.trans x39.vis).trans x43.vis).trans hw.vis)) (by omega) (by omega))) ?_
              rintro _ _ _ ⟨rfl, rfl, rfl⟩ _
              refine JL.q (OpP.q (p_not rfl)) ?_
              refine JL.q (OpP.q (p_move rfl)) ?_
              refine JL.g (Gd.f1 rfl rfl rfl) (fun hc => OpP.q (p_move rfl)) ?_
              refine JL.g (Gd.f1 rfl rfl rfl) (fun hc => OpP.q (p_move rfl)) ?_
              refine JL.g (Gd.f1 rfl rfl rfl) (fun hc => OpP.q (p_neq (gvt rfl hc) (gvt rfl hc))) ?_
              refine JL.q (OpP.q (p_pickOr rfl rfl rfl)) ?_
              refine JL.nil ?_
              refine Js.condF rfl h26 ?_
              refine Js.skip ?_
              refine Js.seq ?_
              refine Js.region ?_
              refine JL.q (OpP.q (p_assign rfl)) ?_
              refine JL.nil ?_
              refine Js.seq ?_
              refine Js.region ?_
              refine JL.q (OpP.q (p_move rfl)) ?_
              refine JL.q (OpP.q (p_move rfl)) ?_
              refine JL.e (e_callV fn_27 rfl (fun w hw => c_laws_heldInt64S (M.up 1 (M.scoresR aG).length) _ 1 w (ints_rowok (xs := (M.up 1 (M.scoresR aG).length)) (hw.pr (i := 0) rfl)) (by omega) (by omega) (by omega))) ?_
              rintro _ _ _ ⟨rfl, rfl, rfl⟩ _
              refine JL.q (OpP.q (p_assign rfl)) ?_
              refine JL.nil ?_
              refine Js.seq ?_
              refine Js.seq ?_
              refine Js.region ?_
              refine JL.q (OpP.q (p_move rfl)) ?_
              refine JL.q (OpP.q (p_lss rfl rfl)) ?_
              refine JL.nil ?_
              refine Js.condF rfl h35 ?_
              refine Js.skip ?_
              refine Js.seq ?_
              refine Js.seq ?_
              refine Js.region ?_
              refine JL.q (OpP.q (p_move rfl)) ?_
              refine JL.q (OpP.q (p_move rfl)) ?_
              refine JL.q (OpP.q (p_neq rfl rfl)) ?_
              refine JL.nil ?_
              refine Js.condF rfl h36 ?_
              refine Js.skip ?_
              refine Js.seq ?_
              refine Js.region ?_
              refine JL.q (OpP.q (p_assign rfl)) ?_
              refine JL.nil ?_
              refine Js.ret (R := RV w (.bool true)) @Try.results13 (fun _ _ => rfl) (ResOk.tmp rfl ResOk.nil) (fun w1 hw => ?_)
              refine ⟨?_, hw.ext (((((x6.trans x10).trans x29).trans x39).trans x43))⟩
              first | rfl | (simp [outV]; done)

set_option maxRecDepth 100000 in
set_option maxHeartbeats 400000 in
theorem c_laws_FnExactFinalPosition (aG : M.Gam) (v_aG : Value) (w : World) (h_aG : (Ty.agg (cGame aG)).ok w v_aG) : RetV Try.prog 14 [v_aG] w (.bool true) := by
  have q4 := M.szL_cases (aG.start.pits.length + aG.start.stores.length + aG.moves.length + aG.now.pits.length + aG.now.stores.length) 1048576
  change (1048576 < _ ∧ M.szG aG 1048576 = -1) ∨ (_ ≤ _ ∧ M.szG aG 1048576 = _) at q4
  have z1 := M.szp_nn aG.start
  have z2 := M.szp_nn aG.now
  have z3 := M.finalR_len aG
  have z4 := M.up_length 1 (M.finalR aG).pits.length
  have z5 := M.up_length (1 + ((M.finalR aG).pits.length : Int)) (M.finalR aG).stores.length
  have z6 := M.szp_nn (M.finalR aG)
  obtain ⟨A1_9, c1_9, A1_10, c1_10, A1_12, c1_12, A1_13, c1_13, A1_14, c1_14, rfl, h1_9, h1_10, h1_12, h1_13, h1_14, bl1_9, bh1_9, bl1_10, bh1_10, bl1_12, bh1_12, bl1_13, bh1_13, bl1_14, bh1_14⟩ := open_Game h_aG
  refine enter @Try.func14 @Try.ntmps14 rfl rfl ?_
  refine Js.seq ?_
  refine Js.region ?_
  refine JL.e (e_box (c := [.int .i64 aG.rules.pits, .int .i64 aG.rules.seeds, .bool aG.rules.stores, .bool aG.rules.skip, .bool aG.rules.relay, .bool aG.rules.feed, .bool aG.rules.again, .int .i64 aG.rules.capture, .int .i64 aG.rules.slam, .slice A1_9 aG.start.pits.length c1_9, .slice A1_10 aG.start.stores.length c1_10, .int .i64 aG.start.player, .slice A1_12 aG.moves.length c1_12, .slice A1_13 aG.now.pits.length c1_13, .slice A1_14 aG.now.stores.length c1_14, .int .i64 aG.now.player, .int .i64 aG.resigned]) rfl rfl) ?_
  rintro _ _ _ ⟨b2, rfl, rfl, rfl⟩ _
  refine JL.q (OpP.q (p_assign rfl)) ?_
  refine JL.nil ?_
  refine Js.seq ?_
  refine Js.region ?_
  refine JL.q (OpP.q (p_assign rfl)) ?_
  refine JL.nil ?_
  refine Js.seq ?_
  refine Js.region ?_
  refine JL.q (q_loadN ty_28 rfl (Mem.boxR (i := 0) rfl 0 17) rfl rfl) ?_
  refine JL.q (OpP.q (p_move rfl)) ?_
  refine JL.e (e_callV fn_17 rfl (fun w hw => c_laws_szGame aG _ 1048576 w ⟨_, rfl, ⟨rfl, rfl, rfl, rfl, rfl, rfl, rfl, rfl, rfl, (Ty.mono _ h1_9 hw.vis), (Ty.mono _ h1_10 hw.vis), rfl, (Ty.mono _ h1_12 hw.vis), (Ty.mono _ h1_13 hw.vis), (Ty.mono _ h1_14 hw.vis), rfl, rfl, trivial⟩⟩ (by omega) (by omega))) ?_
  rintro _ _ _ ⟨rfl, rfl, rfl⟩ _
  refine JL.q (OpP.q (p_assign rfl)) ?_
  refine JL.nil ?_
  refine Js.seq ?_
  refine Js.seq ?_
  refine Js.region ?_
  refine JL.q (OpP.q (p_move rfl)) ?_
  refine JL.q (OpP.q (p_lss rfl rfl)) ?_
  refine JL.nil ?_
  refine Js.cond rfl (fun h3 => ?_) (fun h3 => ?_)
  ·
    have h3' := h3
    try simp only [decide_eq_true_eq] at h3'
    refine Js.seq ?_
    refine Js.region ?_
    refine JL.q (OpP.q (p_assign rfl)) ?_
    refine JL.nil ?_
    refine Js.ret (R := RV w (.bool true)) @Try.results14 (fun _ _ => rfl) (ResOk.tmp rfl ResOk.nil) (fun w1 hw => ?_)
    refine ⟨?_, hw.ext (Up.refl _ _)⟩
    first | rfl | (simp [outV]; done)
  ·
    have h3' := h3
    try simp only [decide_eq_false_iff_not, Int.not_lt] at h3'
    refine Js.skip ?_
    refine Js.seq ?_
    refine Js.region ?_
    refine JL.q (q_loadN ty_28 rfl (Mem.boxR (i := 0) rfl 0 17) rfl rfl) ?_
    refine JL.e (e_callP fn_19 rfl (fun w hw => c_laws_toGame aG _ w ⟨_, rfl, ⟨rfl, rfl, rfl, rfl, rfl, rfl, rfl, rfl, rfl, (Ty.mono _ h1_9 hw.vis), (Ty.mono _ h1_10 hw.vis), rfl, (Ty.mono _ h1_12 hw.vis), (Ty.mono _ h1_13 hw.vis), (Ty.mono _ h1_14 hw.vis), rfl, rfl, trivial⟩⟩ (by omega) (by omega) (by omega) (by omega) (by omega))) ?_
    rintro v4 _ u6 ⟨h5, rfl⟩ x6
    obtain ⟨A7_9, c7_9, A7_10, c7_10, A7_12, c7_12, A7_13, c7_13, A7_14, c7_14, rfl, h7_9, h7_10, h7_12, h7_13, h7_14, bl7_9, bh7_9, bl7_10, bh7_10, bl7_12, bh7_12, bl7_13, bh7_13, bl7_14, bh7_14⟩ := open_Game h5
    refine JL.e (e_callP fn_51 rfl (fun w hw => c_spec_FinalPosition aG _ w ⟨_, rfl, ⟨rfl, rfl, rfl, rfl, rfl, rfl, rfl, rfl, rfl, (Ty.mono _ h7_9 hw.vis), (Ty.mono _ h7_10 hw.vis), rfl, (Ty.mono _ h7_12 hw.vis), (Ty.mono _ h7_13 hw.vis), (Ty.mono _ h7_14 hw.vis), rfl, rfl, trivial⟩⟩ (by omega) (by omega) (by omega) (by omega) (by omega))) ?_
    rintro v8 _ u10 ⟨h9, rfl⟩ x10
    obtain ⟨vs11, rfl, hv11⟩ := h9
    obtain ⟨v11_0, vs11, rfl, hw11_0, hv11⟩ := cellsOk_cons hv11
    obtain ⟨v11_1, vs11, rfl, hw11_1, hv11⟩ := cellsOk_cons hv11
    obtain rfl := cellsOk_nil hv11
    obtain ⟨A12_0, c12_0, A12_1, c12_1, rfl, h12_0, h12_1, bl12_0, bh12_0, bl12_1, bh12_1⟩ := open_Position hw11_0
    obtain rfl : v11_1 = .int .i64 (M.endC aG) := hw11_1
    refine JL.q (OpP.q (p_move rfl)) ?_
    refine JL.q (OpP.q (p_extract rfl rfl)) ?_
    refine JL.q (OpP.q (p_extract rfl rfl)) ?_
    refine JL.e (e_alloc zero_33) ?_
    rintro _ _ _ ⟨b13, rfl, rfl, rfl⟩ _
    refine JL.s (e_store (i := 0) (c' := [.slice A12_0 (((M.finalR aG).pits).length) c12_0, .slice A12_1 (((M.finalR aG).stores).length) c12_1, .int .i64 ((M.finalR aG).player)]) ty_33 rfl rfl rfl rfl rfl rfl rfl rfl) ?_
    rintro _ _ _ ⟨rfl, rfl⟩ _
    refine JL.q (OpP.q (p_assign rfl)) ?_
    refine JL.nil ?_
    refine Js.seq ?_
    refine Js.region ?_
    refine JL.q (q_loadN ty_28 rfl (Mem.boxR (i := 1) rfl 0 17) rfl rfl) ?_
    refine JL.e (e_callO fn_19 rfl (Spl.agg (Spls.cons (Spl.val _) (Spls.cons (Spl.val _) (Spls.cons (Spl.val _) (Spls.cons (Spl.val _) (Spls.cons (Spl.val _) (Spls.cons (Spl.val _) (Spls.cons (Spl.val _) (Spls.cons (Spl.val _) (Spls.cons (Spl.val _) (Spls.cons (Spl.ints _ _) (Spls.cons (Spl.ints _ _) (Spls.cons (Spl.val _) (Spls.cons (Spl.ints _ _) (Spls.cons (Spl.ints _ _) (Spls.cons (Spl.ints _ _) (Spls.cons (Spl.val _) (Spls.cons (Spl.val _) Spls.nil)))))))))))))))))) (fun w hw => c_laws_toGame aG _ w ⟨_, rfl, ⟨rfl, rfl, rfl, rfl, rfl, rfl, rfl, rfl, rfl, (Ty.mono _ h1_9 ((x6.vis.trans x10.vis).trans hw.vis)), (Ty.mono _ h1_10 ((x6.vis.trans x10.vis).trans hw.vis)), rfl, (Ty.mono _ h1_12 ((x6.vis.trans x10.vis).trans hw.vis)), (Ty.mono _ h1_13 ((x6.vis.trans x10.vis).trans hw.vis)), (Ty.mono _ h1_14 ((x6.vis.trans x10.vis).trans hw.vis)), rfl, rfl, trivial⟩⟩ (by omega) (by omega) (by omega) (by omega) (by omega))) ?_
    rintro v14 _ _ ⟨_, hR15, rfl, rfl⟩ _
    obtain ⟨vs16, rfl, hr16⟩ := hR15
    obtain ⟨v16_0, vs16_0, o16_0, ow16_0, rfl, hR16_0, hs16_0, rfl⟩ := RL_cons hr16
    obtain ⟨v16_1, vs16_1, o16_1, ow16_1, rfl, hR16_1, hs16_1, rfl⟩ := RL_cons hs16_0
    obtain ⟨v16_2, vs16_2, o16_2, ow16_2, rfl, hR16_2, hs16_2, rfl⟩ := RL_cons hs16_1
    obtain ⟨v16_3, vs16_3, o16_3, ow16_3, rfl, hR16_3, hs16_3, rfl⟩ := RL_cons hs16_2
    obtain ⟨v16_4, vs16_4, o16_4, ow16_4, rfl, hR16_4, hs16_4, rfl⟩ := RL_cons hs16_3
    obtain ⟨v16_5, vs16_5, o16_5, ow16_5, rfl, hR16_5, hs16_5, rfl⟩ := RL_cons hs16_4
    obtain ⟨v16_6, vs16_6, o16_6, ow16_6, rfl, hR16_6, hs16_6, rfl⟩ := RL_cons hs16_5
    obtain ⟨v16_7, vs16_7, o16_7, ow16_7, rfl, hR16_7, hs16_7, rfl⟩ := RL_cons hs16_6
    obtain ⟨v16_8, vs16_8, o16_8, ow16_8, rfl, hR16_8, hs16_8, rfl⟩ := RL_cons hs16_7
    obtain ⟨v16_9, vs16_9, o16_9, ow16_9, rfl, hR16_9, hs16_9, rfl⟩ := RL_cons hs16_8
    obtain ⟨v16_10, vs16_10, o16_10, ow16_10, rfl, hR16_10, hs16_10, rfl⟩ := RL_cons hs16_9
    obtain ⟨v16_11, vs16_11, o16_11, ow16_11, rfl, hR16_11, hs16_11, rfl⟩ := RL_cons hs16_10
    obtain ⟨v16_12, vs16_12, o16_12, ow16_12, rfl, hR16_12, hs16_12, rfl⟩ := RL_cons hs16_11
    obtain ⟨v16_13, vs16_13, o16_13, ow16_13, rfl, hR16_13, hs16_13, rfl⟩ := RL_cons hs16_12
    obtain ⟨v16_14, vs16_14, o16_14, ow16_14, rfl, hR16_14, hs16_14, rfl⟩ := RL_cons hs16_13
    obtain ⟨v16_15, vs16_15, o16_15, ow16_15, rfl, hR16_15, hs16_15, rfl⟩ := RL_cons hs16_14
    obtain ⟨v16_16, vs16_16, o16_16, ow16_16, rfl, hR16_16, hs16_16, rfl⟩ := RL_cons hs16_15
    obtain ⟨rfl, rfl⟩ := RL_nil hs16_16
    obtain ⟨rfl, rfl⟩ : v16_0 = .int .i64 aG.rules.pits ∧ _ := hR16_0
    obtain ⟨rfl, rfl⟩ : v16_1 = .int .i64 aG.rules.seeds ∧ _ := hR16_1
    obtain ⟨rfl, rfl⟩ : v16_2 = .bool aG.rules.stores ∧ _ := hR16_2
    obtain ⟨rfl, rfl⟩ : v16_3 = .bool aG.rules.skip ∧ _ := hR16_3
    obtain ⟨rfl, rfl⟩ : v16_4 = .bool aG.rules.relay ∧ _ := hR16_4
    obtain ⟨rfl, rfl⟩ : v16_5 = .bool aG.rules.feed ∧ _ := hR16_5
    obtain ⟨rfl, rfl⟩ : v16_6 = .bool aG.rules.again ∧ _ := hR16_6
    obtain ⟨rfl, rfl⟩ : v16_7 = .int .i64 aG.rules.capture ∧ _ := hR16_7
    obtain ⟨rfl, rfl⟩ : v16_8 = .int .i64 aG.rules.slam ∧ _ := hR16_8
    obtain ⟨A17, c17, rfl, rfl, bl17, bh17⟩ := hR16_9
    obtain ⟨A18, c18, rfl, rfl, bl18, bh18⟩ := hR16_10
    obtain ⟨rfl, rfl⟩ : v16_11 = .int .i64 aG.start.player ∧ _ := hR16_11
    obtain ⟨A19, c19, rfl, rfl, bl19, bh19⟩ := hR16_12
    obtain ⟨A20, c20, rfl, rfl, bl20, bh20⟩ := hR16_13
    obtain ⟨A21, c21, rfl, rfl, bl21, bh21⟩ := hR16_14
    obtain ⟨rfl, rfl⟩ : v16_15 = .int .i64 aG.now.player ∧ _ := hR16_15
    obtain ⟨rfl, rfl⟩ : v16_16 = .int .i64 aG.resigned ∧ _ := hR16_16
    refine JL.e (e_alloc zero_35) ?_
    rintro _ _ _ ⟨b22, rfl, rfl, rfl⟩ _
    refine JL.s (e_store (i := 0) (c' := [.int .i64 aG.rules.pits, .int .i64 aG.rules.seeds, .bool aG.rules.stores, .bool aG.rules.skip, .bool aG.rules.relay, .bool aG.rules.feed, .bool aG.rules.again, .int .i64 aG.rules.capture, .int .i64 aG.rules.slam, .slice A17 aG.start.pits.length c17, .slice A18 aG.start.stores.length c18, .int .i64 aG.start.player, .slice A19 aG.moves.length c19, .slice A20 aG.now.pits.length c20, .slice A21 aG.now.stores.length c21, .int .i64 aG.now.player, .int .i64 aG.resigned]) ty_35 rfl rfl rfl rfl rfl rfl rfl rfl) ?_
    rintro _ _ _ ⟨rfl, rfl⟩ _
    refine JL.nil ?_
    refine Js.seq ?_
    refine Js.region ?_
    refine JL.q (q_loadN ty_35 rfl (Mem.boxR (i := 0) rfl 0 17) rfl rfl) ?_
    refine JL.e (e_callO fn_52 rfl (Spl.tup (Spls.cons (Spl.agg (Spls.cons (Spl.ints _ _) (Spls.cons (Spl.ints _ _) (Spls.cons (Spl.val _) Spls.nil)))) (Spls.cons (Spl.val _) Spls.nil))) (fun w hw => c_impl_FinalPosition aG _ w ⟨_, rfl, ⟨rfl, rfl, rfl, rfl, rfl, rfl, rfl, rfl, rfl, (ints_rowok (xs := aG.start.pits) (hw.pr (i := 1) rfl)), (ints_rowok (xs := aG.start.stores) (hw.pr (i := 2) rfl)), rfl, (ints_rowok (xs := aG.moves) (hw.pr (i := 3) rfl)), (ints_rowok (xs := aG.now.pits) (hw.pr (i := 4) rfl)), (ints_rowok (xs := aG.now.stores) (hw.pr (i := 5) rfl)), rfl, rfl, trivial⟩⟩ (by omega) (by omega) (by omega) (by omega) (by omega))) ?_
    rintro v23 _ _ ⟨_, hR24, rfl, rfl⟩ _
    obtain ⟨vs25, rfl, hr25⟩ := hR24
    obtain ⟨v25_0, vs25_0, o25_0, ow25_0, rfl, hR25_0, hs25_0, rfl⟩ := RL_cons hr25
    obtain ⟨v25_1, vs25_1, o25_1, ow25_1, rfl, hR25_1, hs25_1, rfl⟩ := RL_cons hs25_0
    obtain ⟨rfl, rfl⟩ := RL_nil hs25_1
    obtain ⟨vs26, rfl, hr26⟩ := hR25_0
    obtain ⟨v26_0, vs26_0, o26_0, ow26_0, rfl, hR26_0, hs26_0, rfl⟩ := RL_cons hr26
    obtain ⟨v26_1, vs26_1, o26_1, ow26_1, rfl, hR26_1, hs26_1, rfl⟩ := RL_cons hs26_0
    obtain ⟨v26_2, vs26_2, o26_2, ow26_2, rfl, hR26_2, hs26_2, rfl⟩ := RL_cons hs26_1
    obtain ⟨rfl, rfl⟩ := RL_nil hs26_2
    obtain ⟨A27, c27, rfl, rfl, bl27, bh27⟩ := hR26_0
    obtain ⟨A28, c28, rfl, rfl, bl28, bh28⟩ := hR26_1
    obtain ⟨rfl, rfl⟩ : v26_2 = .int .i64 ((M.finalR aG).player) ∧ _ := hR26_2
    obtain ⟨rfl, rfl⟩ : v25_1 = .int .i64 (M.endC aG) ∧ _ := hR25_1
    refine JL.q (OpP.q (p_move rfl)) ?_
    refine JL.q (OpP.q (p_extract rfl rfl)) ?_
    refine JL.q (OpP.q (p_extract rfl rfl)) ?_
    refine JL.e (e_alloc zero_33) ?_
    rintro _ _ _ ⟨b29, rfl, rfl, rfl⟩ _
    refine JL.s (e_store (i := 0) (c' := [.slice A27 (((M.finalR aG).pits).length) c27, .slice A28 (((M.finalR aG).stores).length) c28, .int .i64 ((M.finalR aG).player)]) ty_33 rfl rfl rfl rfl rfl rfl rfl rfl) ?_
    rintro _ _ _ ⟨rfl, rfl⟩ _
    refine JL.q (OpP.q (p_assign rfl)) ?_
    refine JL.nil ?_
    refine Js.seq ?_
    refine Js.seq ?_
    refine Js.region ?_
    refine JL.q (q_loadN ty_33 rfl (Mem.boxR (i := 0) rfl 0 3) rfl rfl) ?_
    refine JL.q (q_loadN ty_33 rfl (Mem.boxR (i := 9) rfl 0 3) rfl rfl) ?_
    refine JL.e (e_callV fn_53 rfl (fun w hw => c_laws_eqPosition (M.finalR aG) _ (M.finalR aG) _ w ⟨_, rfl, ⟨(ints_rowok (xs := ((M.finalR aG).pits)) (hw.pr (i := 1) rfl)), (ints_rowok (xs := ((M.finalR aG).stores)) (hw.pr (i := 2) rfl)), rfl, trivial⟩⟩ ⟨_, rfl, ⟨(Ty.mono _ h12_0 hw.vis), (Ty.mono _ h12_1 hw.vis), rfl, trivial⟩⟩ (by omega) (by omega) (by omega) (by omega))) ?_
    rintro _ _ _ ⟨rfl, rfl, rfl⟩ _
    refine JL.q (OpP.q (p_not rfl)) ?_
    refine JL.q (OpP.q (p_move rfl)) ?_
    refine JL.g (Gd.f1 rfl rfl rfl) (fun hc => OpP.q (p_move rfl)) ?_
    refine JL.g (Gd.f1 rfl rfl rfl) (fun hc => OpP.q (p_move rfl)) ?_
    refine JL.g (Gd.f1 rfl rfl rfl) (fun hc => OpP.q (p_neq (gvt rfl hc) (gvt rfl hc))) ?_
    refine JL.q (OpP.q (p_pickOr rfl rfl rfl)) ?_
    refine JL.nil ?_
    refine Js.cond rfl (fun h30 => ?_) (fun h30 => ?_)
    ·
      exact absurd h30 (by simp)
    ·
      have h30' := h30
      try simp only [Bool.or_eq_false_iff, Bool.not_eq_false', decide_eq_true_eq] at h30'
      refine Js.skip ?_
      refine Js.seq ?_
      refine Js.seq ?_
      refine Js.drawn _ [] mixed_ (fun _ h => h) ?_
      refine JH.q 0 rfl (q_loadN ty_35 rfl (Mem.boxR (i := 3) rfl 0 17) rfl rfl) ?_
      refine JH.q 1 rfl (q_loadN ty_28 rfl (Mem.boxR (i := 10) rfl 0 17) rfl rfl) ?_
      refine JH.one (i := 2) (by kernel_rfl) ?_
      refine JHo.e rfl (e_callP fn_19 rfl (fun w hw => c_laws_toGame aG _ w ⟨_, rfl, ⟨rfl, rfl, rfl, rfl, rfl, rfl, rfl, rfl, rfl, (Ty.mono _ h1_9 ((x6.vis.trans x10.vis).trans hw.vis)), (Ty.mono _ h1_10 ((x6.vis.trans x10.vis).trans hw.vis)), rfl, (Ty.mono _ h1_12 ((x6.vis.trans x10.vis).trans hw.vis)), (Ty.mono _ h1_13 ((x6.vis.trans x10.vis).trans hw.vis)), (Ty.mono _ h1_14 ((x6.vis.trans x10.vis).trans hw.vis)), rfl, rfl, trivial⟩⟩ (by omega) (by omega) (by omega) (by omega) (by omega))) (.inl rfl) ?_
      rintro v31 _ u33 ⟨h32, rfl⟩ x33
      obtain ⟨A34_9, c34_9, A34_10, c34_10, A34_12, c34_12, A34_13, c34_13, A34_14, c34_14, rfl, h34_9, h34_10, h34_12, h34_13, h34_14, bl34_9, bh34_9, bl34_10, bh34_10, bl34_12, bh34_12, bl34_13, bh34_13, bl34_14, bh34_14⟩ := open_Game h32
      refine JH.one (i := 3) (by kernel_rfl) ?_
      refine JHo.e rfl (e_callV fn_21 rfl (fun w hw => c_laws_eqGame aG _ aG _ w ⟨_, rfl, ⟨rfl, rfl, rfl, rfl, rfl, rfl, rfl, rfl, rfl, (ints_rowok (xs := aG.start.pits) (hw.pr (i := 4) rfl)), (ints_rowok (xs := aG.start.stores) (hw.pr (i := 5) rfl)), rfl, (ints_rowok (xs := aG.moves) (hw.pr (i := 6) rfl)), (ints_rowok (xs := aG.now.pits) (hw.pr (i := 7) rfl)), (ints_rowok (xs := aG.now.stores) (hw.pr (i := 8) rfl)), rfl, rfl, trivial⟩⟩ ⟨_, rfl, ⟨rfl, rfl, rfl, rfl, rfl, rfl, rfl, rfl, rfl, (Ty.mono _ h34_9 hw.vis), (Ty.mono _ h34_10 hw.vis), rfl, (Ty.mono _ h34_12 hw.vis), (Ty.mono _ h34_13 hw.vis), (Ty.mono _ h34_14 hw.vis), rfl, rfl, trivial⟩⟩ (by omega) (by omega) (by omega) (by omega) (by omega) (by omega) (by omega) (by omega) (by omega) (by omega))) (.inl rfl) ?_
      rintro _ _ _ ⟨rfl, rfl, rfl⟩ _
      refine JH.p 4 rfl (p_not rfl) ?_
      refine JH.done (by kernel_rfl) ?_
      refine Js.cond rfl (fun h35 => ?_) (fun h35 => ?_)
      ·
        exact absurd h35 (by simp)
      ·
        have h35' := h35
        try simp only [Bool.not_eq_false', decide_eq_true_eq] at h35'
        refine Js.skip ?_
        refine Js.seq ?_
        refine Js.region ?_
        refine JL.q (OpP.q (p_assign rfl)) ?_
        refine JL.nil ?_
        refine Js.seq ?_
        refine Js.region ?_
        refine JL.q (q_loadN ty_35 rfl (Mem.boxR (i := 3) rfl 0 17) rfl rfl) ?_
        refine JL.q (OpP.q (p_move rfl)) ?_
        refine JL.conv (fun _ h => h.front (i := 8) rfl) ?_
        refine JL.conv (fun _ h => h.front (i := 8) rfl) ?_
        refine JL.conv (fun _ h => h.front (i := 8) rfl) ?_
        refine JL.conv (fun _ h => h.front (i := 8) rfl) ?_
        refine JL.conv (fun _ h => h.front (i := 8) rfl) ?_
        refine JL.e (e_callB (bs := [rowO 2 1 (.slice A17 aG.start.pits.length c17) aG.start.pits.length (ints_ aG.start.pits) [], rowO 2 1 (.slice A18 aG.start.stores.length c18) aG.start.stores.length (ints_ aG.start.stores) [], rowO 2 1 (.slice A19 aG.moves.length c19) aG.moves.length (ints_ aG.moves) [], rowO 2 1 (.slice A20 aG.now.pits.length c20) aG.now.pits.length (ints_ aG.now.pits) [], rowO 2 1 (.slice A21 aG.now.stores.length c21) aG.now.stores.length (ints_ aG.now.stores) []]) (rest := [boxO b29 [.slice A27 (((M.finalR aG).pits).length) c27, .slice A28 (((M.finalR aG).stores).length) c28, .int .i64 ((M.finalR aG).player)] 33, rowO 2 1 (.slice A27 (((M.finalR aG).pits).length) c27) (((M.finalR aG).pits).length) (ints_ ((M.finalR aG).pits)) [], rowO 2 1 (.slice A28 (((M.finalR aG).stores).length) c28) (((M.finalR aG).stores).length) (ints_ ((M.finalR aG).stores)) [], boxO b22 [.int .i64 aG.rules.pits, .int .i64 aG.rules.seeds, .bool aG.rules.stores, .bool aG.rules.skip, .bool aG.rules.relay, .bool aG.rules.feed, .bool aG.rules.again, .int .i64 aG.rules.capture, .int .i64 aG.rules.slam, .slice A17 aG.start.pits.length c17, .slice A18 aG.start.stores.length c18, .int .i64 aG.start.player, .slice A19 aG.moves.length c19, .slice A20 aG.now.pits.length c20, .slice A21 aG.now.stores.length c21, .int .i64 aG.now.player, .int .i64 aG.resigned] 35, boxO b13 [.slice A12_0 (((M.finalR aG).pits).length) c12_0, .slice A12_1 (((M.finalR aG).stores).length) c12_1, .int .i64 ((M.finalR aG).player)] 33, boxO b2 [.int .i64 aG.rules.pits, .int .i64 aG.rules.seeds, .bool aG.rules.stores, .bool aG.rules.skip, .bool aG.rules.relay, .bool aG.rules.feed, .bool aG.rules.again, .int .i64 aG.rules.capture, .int .i64 aG.rules.slam, .slice A1_9 aG.start.pits.length c1_9, .slice A1_10 aG.start.stores.length c1_10, .int .i64 aG.start.player, .slice A1_12 aG.moves.length c1_12, .slice A1_13 aG.now.pits.length c1_13, .slice A1_14 aG.now.stores.length c1_14, .int .i64 aG.now.player, .int .i64 aG.resigned] 28]) fn_25 rfl (fun w hb hw => c_laws_markGame aG.rules aG.start aG.moves aG.now aG.resigned A17 c17 [] A18 c18 [] A19 c19 [] A20 c20 [] A21 c21 [] 1 w hb (by omega) (by omega) (by omega) (by omega) (by omega) (by omega) (by omega) (by omega) (by omega) (by omega) (by omega) (by omega) (by omega) (by omega) (by omega) (by omega) (by omega)) rfl) ?_
        rintro _ _ _ ⟨_, G36, ⟨rfl, rfl⟩, rfl, rfl⟩ _
        refine JL.q (OpP.q (p_assign rfl)) ?_
        refine JL.nil ?_
        refine Js.seq ?_
        refine Js.seq ?_
        refine Js.region ?_
        refine JL.q (OpP.q (p_move rfl)) ?_
        refine JL.q (OpP.q (p_lss rfl rfl)) ?_
        refine JL.q (OpP.q (p_move rfl)) ?_
        refine JL.g (Gd.f1 rfl rfl rfl) (fun hc => q_loadN ty_33 rfl (Mem.boxR (i := 6) rfl 0 3) rfl rfl) ?_
        refine JL.g (Gd.f1 rfl rfl rfl) (fun hc => q_loadN ty_33 rfl (Mem.boxR (i := 10) rfl 0 3) rfl rfl) ?_
        refine JL.ge (Gd.f1 rfl rfl rfl) (fun hc => e_callV fn_53 (opds_2 (gvt rfl hc) (gvt rfl hc)) (fun w hw => c_laws_eqPosition (M.finalR aG) _ (M.finalR aG) _ w ⟨_, rfl, ⟨(ints_rowok (xs := ((M.finalR aG).pits)) (hw.pr (i := 7) rfl)), (ints_rowok (xs := ((M.finalR aG).stores)) (hw.pr (i := 8) rfl)), rfl, trivial⟩⟩ ⟨_, rfl, ⟨(Ty.mono _ h12_0 (x33.vis.trans hw.vis)), (Ty.mono _ h12_1 (x33.vis.trans hw.vis)), rfl, trivial⟩⟩ (by have hc9 := hc; (try simp only [Bool.not_eq_true', decide_eq_false_iff_not, Int.not_lt] at hc9); omega) (by have hc9 := hc; (try simp only [Bool.not_eq_true', decide_eq_false_iff_not, Int.not_lt] at hc9); omega) (by have hc9 := hc; (try simp only [Bool.not_eq_true', decide_eq_false_iff_not, Int.not_lt] at hc9); omega) (by have hc9 := hc; (try simp only [Bool.not_eq_true', decide_eq_false_iff_not, Int.not_lt] at hc9); omega))) ?_
        refine JL.g (Gd.f1 rfl rfl rfl) (fun hc => OpP.q (p_not (gvt rfl hc))) ?_
        refine JL.q (OpP.q (p_pickOr rfl rfl rfl)) ?_
        refine JL.q (OpP.q (p_move rfl)) ?_
        refine JL.g (Gd.f1 rfl rfl rfl) (fun hc => OpP.q (p_move rfl)) ?_
        refine JL.g (Gd.f1 rfl rfl rfl) (fun hc => OpP.q (p_move rfl)) ?_
        refine JL.g (Gd.f1 rfl rfl rfl) (fun hc => OpP.q (p_neq (gvt rfl hc) (gvt rfl hc))) ?_
        refine JL.q (OpP.q (p_pickOr rfl rfl rfl)) ?_
        refine JL.nil ?_
        refine Js.cond rfl (fun h37 => ?_) (fun h37 => ?_)
        ·
          exact absurd h37 (by simp only [decide_true, Bool.not_true, Bool.or_false, decide_eq_true_eq]; omega)
        ·
          have h37' := h37
          try simp only [Bool.or_eq_false_iff, decide_eq_false_iff_not, Int.not_lt, Bool.not_eq_false', decide_eq_true_eq] at h37'
          refine Js.skip ?_
          refine Js.seq ?_
          refine Js.region ?_
          refine JL.q (OpP.q (p_assign rfl)) ?_
          refine JL.nil ?_
          refine Js.seq ?_
          refine Js.region ?_
          refine JL.q (q_loadN ty_33 rfl (Mem.boxR (i := 6) rfl 0 3) rfl rfl) ?_
          refine JL.q (OpP.q (p_move rfl)) ?_
          refine JL.conv (fun _ h => h.front (i := 8) rfl) ?_
          refine JL.conv (fun _ h => h.front (i := 8) rfl) ?_
          refine JL.e (e_callB (bs := [rowO 2 1 (.slice A27 (((M.finalR aG).pits).length) c27) (((M.finalR aG).pits).length) (ints_ ((M.finalR aG).pits)) [], rowO 2 1 (.slice A28 (((M.finalR aG).stores).length) c28) (((M.finalR aG).stores).length) (ints_ ((M.finalR aG).stores)) []]) (rest := [rowO 2 1 (.slice A17 aG.start.pits.length c17) aG.start.pits.length (ints_ ((M.markP aG.start 1).pits)) [], rowO 2 1 (.slice A18 aG.start.stores.length c18) aG.start.stores.length (ints_ ((M.markP aG.start 1).stores)) [], rowO 2 1 (.slice A19 aG.moves.length c19) aG.moves.length (ints_ (M.up (1 + M.szp aG.start) aG.moves.length)) [], rowO 2 1 (.slice A20 aG.now.pits.length c20) aG.now.pits.length (ints_ ((M.markP aG.now (1 + M.szp aG.start + (aG.moves.length : Int))).pits)) [], rowO 2 1 (.slice A21 aG.now.stores.length c21) aG.now.stores.length (ints_ ((M.markP aG.now (1 + M.szp aG.start + (aG.moves.length : Int))).stores)) [], anyO G36, boxO b29 [.slice A27 (((M.finalR aG).pits).length) c27, .slice A28 (((M.finalR aG).stores).length) c28, .int .i64 ((M.finalR aG).player)] 33, boxO b22 [.int .i64 aG.rules.pits, .int .i64 aG.rules.seeds, .bool aG.rules.stores, .bool aG.rules.skip, .bool aG.rules.relay, .bool aG.rules.feed, .bool aG.rules.again, .int .i64 aG.rules.capture, .int .i64 aG.rules.slam, .slice A17 aG.start.pits.length c17, .slice A18 aG.start.stores.length c18, .int .i64 aG.start.player, .slice A19 aG.moves.length c19, .slice A20 aG.now.pits.length c20, .slice A21 aG.now.stores.length c21, .int .i64 aG.now.player, .int .i64 aG.resigned] 35, boxO b13 [.slice A12_0 (((M.finalR aG).pits).length) c12_0, .slice A12_1 (((M.finalR aG).stores).length) c12_1, .int .i64 ((M.finalR aG).player)] 33, boxO b2 [.int .i64 aG.rules.pits, .int .i64 aG.rules.seeds, .bool aG.rules.stores, .bool aG.rules.skip, .bool aG.rules.relay, .bool aG.rules.feed, .bool aG.rules.again, .int .i64 aG.rules.capture, .int .i64 aG.rules.slam, .slice A1_9 aG.start.pits.length c1_9, .slice A1_10 aG.start.stores.length c1_10, .int .i64 aG.start.player, .slice A1_12 aG.moves.length c1_12, .slice A1_13 aG.now.pits.length c1_13, .slice A1_14 aG.now.stores.length c1_14, .int .i64 aG.now.player, .int .i64 aG.resigned] 28]) fn_54 rfl (fun w hb hw => c_laws_markPosition ((M.finalR aG).pits) ((M.finalR aG).stores) ((M.finalR aG).player) A27 c27 [] A28 c28 [] 1 w hb (by omega) (by omega) (by omega) (by omega) (by omega) (by omega) (by omega) (by omega)) rfl) ?_
          rintro _ _ _ ⟨_, G38, ⟨rfl, rfl⟩, rfl, rfl⟩ _
          refine JL.q (OpP.q (p_assign rfl)) ?_
          refine JL.nil ?_
          refine Js.seq ?_
          refine Js.region ?_
          refine JL.q (OpP.q (p_assign rfl)) ?_
          refine JL.nil ?_
          refine Js.seq ?_
          refine Js.region ?_
          refine JL.q (q_loadN ty_33 rfl (Mem.boxR (i := 9) rfl 0 3) rfl rfl) ?_
          refine JL.q (OpP.q (p_move rfl)) ?_
          refine JL.e (e_callV fn_55 rfl (fun w hw => c_laws_heldPosition (M.Pos.mk (M.up 1 ((M.finalR aG).pits).length) (M.up (1 + (((M.finalR aG).pits).length : Int)) ((M.finalR aG).stores).length) ((M.finalR aG).player)) _ 1 w ⟨_, rfl, ⟨(ints_rowok (xs := (M.up 1 ((M.finalR aG).pits).length)) (hw.pr (i := 0) rfl)), (ints_rowok (xs := (M.up (1 + (((M.finalR aG).pits).length : Int)) ((M.finalR aG).stores).length)) (hw.pr (i := 1) rfl)), rfl, trivial⟩⟩ (by simp only [M.up_length]; omega) (by simp only [M.up_length]; omega) (by omega) (by omega))) ?_
          rintro _ _ _ ⟨rfl, rfl, rfl⟩ _
          refine JL.q (OpP.q (p_assign rfl)) ?_
          refine JL.nil ?_
          refine Js.seq ?_
          refine Js.seq ?_
          refine Js.region ?_
          refine JL.q (OpP.q (p_move rfl)) ?_
          refine JL.q (OpP.q (p_lss rfl rfl)) ?_
          refine JL.nil ?_
          refine Js.cond rfl (fun h39 => ?_) (fun h39 => ?_)
          ·
            have h9 : decide (M.heldP (M.markP (M.finalR aG) 1) 1 < 0) = true := h39; rw [M.heldP_mark (M.finalR aG) (k := 1) (by decide)] at h9; simp only [decide_eq_true_eq] at h9; have h8 := M.szp_nn (M.finalR aG); omega
          ·
            have h39' := h39
            try simp only [decide_eq_false_iff_not, Int.not_lt] at h39'
            refine Js.skip ?_
            refine Js.seq ?_
            refine Js.seq ?_
            refine Js.region ?_
            refine JL.q (OpP.q (p_move rfl)) ?_
            refine JL.q (OpP.q (p_move rfl)) ?_
            refine JL.q (OpP.q (p_neq rfl rfl)) ?_
            refine JL.nil ?_
            refine Js.cond rfl (fun h40 => ?_) (fun h40 => ?_)
            ·
              have h9 : (!decide (M.heldP (M.markP (M.finalR aG) 1) 1 = 1 + ((M.finalR aG).pits.length : Int) + ((M.finalR aG).stores.length : Int))) = true := h40; rw [M.heldP_mark (M.finalR aG) (k := 1) (by decide)] at h9; simp [M.szp, Int.add_assoc] at h9
            ·
              have h40' := h40
              try simp only [Bool.not_eq_false', decide_eq_true_eq] at h40'
              refine Js.skip ?_
              refine Js.seq ?_
              refine Js.region ?_
              refine JL.q (q_loadN ty_28 rfl (Mem.boxR (i := 12) rfl 0 17) rfl rfl) ?_
              refine JL.e (e_callP fn_19 rfl (fun w hw => c_laws_toGame aG _ w ⟨_, rfl, ⟨rfl, rfl, rfl, rfl, rfl, rfl, rfl, rfl, rfl, (Ty.mono _ h1_9 (((x6.vis.trans x10.vis).trans x33.vis).trans hw.vis)), (Ty.mono _ h1_10 (((x6.vis.trans x10.vis).trans x33.vis).trans hw.vis)), rfl, (Ty.mono _ h1_12 (((x6.vis.trans x10.vis).trans x33.vis).trans hw.vis)), (Ty.mono _ h1_13 (((x6.vis.trans x10.vis).trans x33.vis).trans hw.vis)), (Ty.mono _ h1_14 (((x6.vis.trans x10.vis).trans x33.vis).trans hw.vis)), rfl, rfl, trivial⟩⟩ (by omega) (by omega) (by omega) (by omega) (by omega))) ?_
              rintro v41 _ u43 ⟨h42, rfl⟩ x43
              obtain ⟨A44_9, c44_9, A44_10, c44_10, A44_12, c44_12, A44_13, c44_13, A44_14, c44_14, rfl, h44_9, h44_10, h44_12, h44_13, h44_14, bl44_9, bh44_9, bl44_10, bh44_10, bl44_12, bh44_12, bl44_13, bh44_13, bl44_14, bh44_14⟩ := open_Game h42
              refine JL.e (e_callP fn_52 rfl (fun w hw => c_impl_FinalPosition aG _ w ⟨_, rfl, ⟨rfl, rfl, rfl, rfl, rfl, rfl, rfl, rfl, rfl, (Ty.mono _ h44_9 hw.vis), (Ty.mono _ h44_10 hw.vis), rfl, (Ty.mono _ h44_12 hw.vis), (Ty.mono _ h44_13 hw.vis), (Ty.mono _ h44_14 hw.vis), rfl, rfl, trivial⟩⟩ (by omega) (by omega) (by omega) (by omega) (by omega))) ?_
              rintro v45 _ u47 ⟨h46, rfl⟩ x47
              obtain ⟨vs48, rfl, hv48⟩ := h46
              obtain ⟨v48_0, vs48, rfl, hw48_0, hv48⟩ := cellsOk_cons hv48
              obtain ⟨v48_1, vs48, rfl, hw48_1, hv48⟩ := cellsOk_cons hv48
              obtain rfl := cellsOk_nil hv48
              obtain ⟨A49_0, c49_0, A49_1, c49_1, rfl, h49_0, h49_1, bl49_0, bh49_0, bl49_1, bh49_1⟩ := open_Position hw48_0
              obtain rfl : v48_1 = .int .i64 (M.endC aG) := hw48_1
              refine JL.q (OpP.q (p_move rfl)) ?_
              refine JL.q (OpP.q (p_extract rfl rfl)) ?_
              refine JL.q (OpP.q (p_extract rfl rfl)) ?_
              refine JL.e (e_alloc zero_33) ?_
              rintro _ _ _ ⟨b50, rfl, rfl, rfl⟩ _
              refine JL.s (e_store (i := 0) (c' := [.slice A49_0 (((M.finalR aG).pits).length) c49_0, .slice A49_1 (((M.finalR aG).stores).length) c49_1, .int .i64 ((M.finalR aG).player)]) ty_33 rfl rfl rfl rfl rfl rfl rfl rfl) ?_
              rintro _ _ _ ⟨rfl, rfl⟩ _
              refine JL.q (OpP.q (p_assign rfl)) ?_
              refine JL.nil ?_
              refine Js.seq ?_
              refine Js.seq ?_
              refine Js.region ?_
              refine JL.q (q_loadN ty_33 rfl (Mem.boxR (i := 0) rfl 0 3) rfl rfl) ?_
              refine JL.q (q_loadN ty_33 rfl (Mem.boxR (i := 12) rfl 0 3) rfl rfl) ?_
              refine JL.e (e_callV fn_53 rfl (fun w hw => c_laws_eqPosition (M.finalR aG) _ (M.finalR aG) _ w ⟨_, rfl, ⟨(Ty.mono _ h49_0 hw.vis), (Ty.mono _ h49_1 hw.vis), rfl, trivial⟩⟩ ⟨_, rfl, ⟨(Ty.mono _ h12_0 (((x33.vis.trans x43.vis).trans x47.vis).trans hw.vis)), (Ty.mono _ h12_1 (((x33.vis.trans x43.vis).trans x47.vis).trans hw.vis)), rfl, trivial⟩⟩ (by omega) (by omega) (by omega) (by omega))) ?_
              rintro _ _ _ ⟨rfl, rfl, rfl⟩ _
              refine JL.q (OpP.q (p_not rfl)) ?_
              refine JL.q (OpP.q (p_move rfl)) ?_
              refine JL.g (Gd.f1 rfl rfl rfl) (fun hc => OpP.q (p_move rfl)) ?_
              refine JL.g (Gd.f1 rfl rfl rfl) (fun hc => OpP.q (p_move rfl)) ?_
              refine JL.g (Gd.f1 rfl rfl rfl) (fun hc => OpP.q (p_neq (gvt rfl hc) (gvt rfl hc))) ?_
              refine JL.q (OpP.q (p_pickOr rfl rfl rfl)) ?_
              refine JL.nil ?_
              refine Js.condF rfl h30 ?_
              refine Js.skip ?_
              refine Js.seq ?_
              refine Js.region ?_
              refine JL.q (OpP.q (p_assign rfl)) ?_
              refine JL.nil ?_
              refine Js.seq ?_
              refine Js.region ?_
              refine JL.q (q_loadN ty_33 rfl (Mem.boxR (i := 10) rfl 0 3) rfl rfl) ?_
              refine JL.q (OpP.q (p_move rfl)) ?_
              refine JL.e (e_callV fn_55 rfl (fun w hw => c_laws_heldPosition (M.Pos.mk (M.up 1 ((M.finalR aG).pits).length) (M.up (1 + (((M.finalR aG).pits).length : Int)) ((M.finalR aG).stores).length) ((M.finalR aG).player)) _ 1 w ⟨_, rfl, ⟨(ints_rowok (xs := (M.up 1 ((M.finalR aG).pits).length)) (hw.pr (i := 1) rfl)), (ints_rowok (xs := (M.up (1 + (((M.finalR aG).pits).length : Int)) ((M.finalR aG).stores).length)) (hw.pr (i := 2) rfl)), rfl, trivial⟩⟩ (by simp only [M.up_length]; omega) (by simp only [M.up_length]; omega) (by omega) (by omega))) ?_
              rintro _ _ _ ⟨rfl, rfl, rfl⟩ _
              refine JL.q (OpP.q (p_assign rfl)) ?_
              refine JL.nil ?_
              refine Js.seq ?_
              refine Js.seq ?_
              refine Js.region ?_
              refine JL.q (OpP.q (p_move rfl)) ?_
              refine JL.q (OpP.q (p_lss rfl rfl)) ?_
              refine JL.nil ?_
              refine Js.condF rfl h39 ?_
              refine Js.skip ?_
              refine Js.seq ?_
              refine Js.seq ?_
              refine Js.region ?_
              refine JL.q (OpP.q (p_move rfl)) ?_
              refine JL.q (OpP.q (p_move rfl)) ?_
              refine JL.q (OpP.q (p_neq rfl rfl)) ?_
              refine JL.nil ?_
              refine Js.condF rfl h40 ?_
              refine Js.skip ?_
              refine Js.seq ?_
              refine Js.region ?_
              refine JL.q (OpP.q (p_assign rfl)) ?_
              refine JL.nil ?_
              refine Js.ret (R := RV w (.bool true)) @Try.results14 (fun _ _ => rfl) (ResOk.tmp rfl ResOk.nil) (fun w1 hw => ?_)
              refine ⟨?_, hw.ext (((((x6.trans x10).trans x33).trans x43).trans x47))⟩
              first | rfl | (simp [outV]; done)

end Go.Proofs.Ytejnmechnhgmfaa

/- Walks: L15. -/
import Derived.Test.YtejnmechnhgmfaaZaTy
import Derived.Test.YtejnmechnhgmfaaZaG8
import Derived.Test.YtejnmechnhgmfaaZaK10
import Derived.Test.YtejnmechnhgmfaaZaL3
import Derived.Test.YtejnmechnhgmfaaZaF13
import Derived.Test.YtejnmechnhgmfaaZaM8
set_option linter.unusedSimpArgs false
set_option linter.unusedVariables false
namespace Go.Proofs.Ytejnmechnhgmfaa
open Go.RowKit

set_option maxRecDepth 100000 in
set_option maxHeartbeats 8000000 in
theorem c_laws_FnExactPlayMoves (aG : M.Gam) (v_aG : Value) (aMoves : List Int) (v_aMoves : Value) (w : World) (h_aG : (Ty.agg (cGame aG)).ok w v_aG) (h_aMoves : (Ty.ints 2 aMoves).ok w v_aMoves) : RetV Try.prog 11 [v_aG, v_aMoves] w (.bool true) := by
  have q4 := M.szL_cases (aG.start.pits.length + aG.start.stores.length + aG.moves.length + aG.now.pits.length + aG.now.stores.length) 1048576
  change (1048576 < _ ∧ M.szG aG 1048576 = -1) ∨ (_ ≤ _ ∧ M.szG aG 1048576 = _) at q4
  have z1 := M.szp_nn aG.start
  have z2 := M.szp_nn aG.now
  obtain ⟨w1_, w2_, w3_, w4_, w5_⟩ := M.playsR_small aG aMoves
  have z3 := M.szp_nn (M.playsR aG aMoves).1.start
  have z4 := M.szp_nn (M.playsR aG aMoves).1.now
  have z9 := M.up_length 1 aMoves.length
  have z11 : M.szp aG.start = aG.start.pits.length + aG.start.stores.length := rfl
  have z12 : M.szp aG.now = aG.now.pits.length + aG.now.stores.length := rfl
  obtain ⟨A1_9, c1_9, A1_10, c1_10, A1_12, c1_12, A1_13, c1_13, A1_14, c1_14, rfl, h1_9, h1_10, h1_12, h1_13, h1_14, bl1_9, bh1_9, bl1_10, bh1_10, bl1_12, bh1_12, bl1_13, bh1_13, bl1_14, bh1_14⟩ := open_Game h_aG
  obtain ⟨A2, c2, rfl, bl2, bh2⟩ := sl_form h_aMoves
  refine enter @Try.func11 @Try.ntmps11 rfl rfl ?_
  refine Js.seq ?_
  refine Js.region ?_
  refine JL.e (e_box (c := [.int .i64 aG.rules.pits, .int .i64 aG.rules.seeds, .bool aG.rules.stores, .bool aG.rules.skip, .bool aG.rules.relay, .bool aG.rules.feed, .bool aG.rules.again, .int .i64 aG.rules.capture, .int .i64 aG.rules.slam, .slice A1_9 aG.start.pits.length c1_9, .slice A1_10 aG.start.stores.length c1_10, .int .i64 aG.start.player, .slice A1_12 aG.moves.length c1_12, .slice A1_13 aG.now.pits.length c1_13, .slice A1_14 aG.now.stores.length c1_14, .int .i64 aG.now.player, .int .i64 aG.resigned]) rfl rfl) ?_
  rintro _ _ _ ⟨b3, rfl, rfl, rfl⟩ _
  refine JL.q (OpP.q (p_assign rfl)) ?_
  refine JL.nil ?_
  refine Js.seq ?_
  refine Js.seq ?_
  refine Js.region ?_
  refine JL.q (OpP.q (p_move rfl)) ?_
  refine JL.q (OpP.q (p_len el_24 rfl)) ?_
  refine JL.q (OpP.q (p_gtr rfl rfl)) ?_
  refine JL.nil ?_
  refine Js.cond rfl (fun h4 => ?_) (fun h4 => ?_)
  ·
    have h4' := h4
    try simp only [decide_eq_true_eq] at h4'
    refine Js.seq ?_
    refine Js.region ?_
    refine JL.q (OpP.q (p_assign rfl)) ?_
    refine JL.nil ?_
    refine Js.ret (R := RV w (.bool true)) @Try.results11 (fun _ _ => rfl) (ResOk.tmp rfl ResOk.nil) (fun w1 hw => ?_)
    refine ⟨?_, hw.ext (Up.refl _ _)⟩
    first | rfl | (simp [outV]; done)
  ·
    have h4' := h4
    try simp only [decide_eq_false_iff_not, Int.not_lt] at h4'
    refine Js.skip ?_
    refine Js.seq ?_
    refine Js.region ?_
    refine JL.q (OpP.q (p_assign rfl)) ?_
    refine JL.nil ?_
    refine Js.seq ?_
    refine Js.region ?_
    refine JL.q (q_loadN ty_28 rfl (Mem.boxR (i := 0) rfl 0 17) rfl rfl) ?_
    refine JL.q (OpP.q (p_move rfl)) ?_
    refine JL.e (e_callV fn_17 rfl (fun w hw => c_laws_szGame aG _ 1048576 w ⟨_, rfl, ⟨rfl, rfl, rfl, rfl, rfl, rfl, rfl, rfl, rfl, (Ty.mono _ h1_9 hw.vis), (Ty.mono _ h1_10 hw.vis), rfl, (Ty.mono _ h1_12 hw.vis), (Ty.mono _ h1_13 hw.vis), (Ty.mono _ h1_14 hw.vis), rfl, rfl, trivial⟩⟩ (by omega) (by omega))) ?_
    rintro _ _ _ ⟨rfl, rfl, rfl⟩ _
    refine JL.q (OpP.q (p_assign rfl)) ?_
    refine JL.nil ?_
    refine Js.seq ?_
    refine Js.seq ?_
    refine Js.region ?_
    refine JL.q (OpP.q (p_move rfl)) ?_
    refine JL.q (OpP.q (p_lss rfl rfl)) ?_
    refine JL.nil ?_
    refine Js.cond rfl (fun h5 => ?_) (fun h5 => ?_)
    ·
      have h5' := h5
      try simp only [decide_eq_true_eq] at h5'
      refine Js.seq ?_
      refine Js.region ?_
      refine JL.q (OpP.q (p_assign rfl)) ?_
      refine JL.nil ?_
      refine Js.ret (R := RV w (.bool true)) @Try.results11 (fun _ _ => rfl) (ResOk.tmp rfl ResOk.nil) (fun w1 hw => ?_)
      refine ⟨?_, hw.ext (Up.refl _ _)⟩
      first | rfl | (simp [outV]; done)
    ·
      have h5' := h5
      try simp only [decide_eq_false_iff_not, Int.not_lt] at h5'
      refine Js.skip ?_
      refine Js.seq ?_
      refine Js.region ?_
      refine JL.q (q_loadN ty_28 rfl (Mem.boxR (i := 0) rfl 0 17) rfl rfl) ?_
      refine JL.e (e_callP fn_19 rfl (fun w hw => c_laws_toGame aG _ w ⟨_, rfl, ⟨rfl, rfl, rfl, rfl, rfl, rfl, rfl, rfl, rfl, (Ty.mono _ h1_9 hw.vis), (Ty.mono _ h1_10 hw.vis), rfl, (Ty.mono _ h1_12 hw.vis), (Ty.mono _ h1_13 hw.vis), (Ty.mono _ h1_14 hw.vis), rfl, rfl, trivial⟩⟩ (by omega) (by omega) (by omega) (by omega) (by omega))) ?_
      rintro v6 _ u8 ⟨h7, rfl⟩ x8
      obtain ⟨A9_9, c9_9, A9_10, c9_10, A9_12, c9_12, A9_13, c9_13, A9_14, c9_14, rfl, h9_9, h9_10, h9_12, h9_13, h9_14, bl9_9, bh9_9, bl9_10, bh9_10, bl9_12, bh9_12, bl9_13, bh9_13, bl9_14, bh9_14⟩ := open_Game h7
      refine JL.q (OpP.q (p_move rfl)) ?_
      refine JL.e (e_callP fn_45 rfl (fun w hw => c_laws_toInt64S aMoves _ w (Ty.mono _ h_aMoves (x8.vis.trans hw.vis)) (by omega))) ?_
      rintro v10 _ u12 ⟨h11, rfl⟩ x12
      obtain ⟨A13, c13, rfl, bl13, bh13⟩ := sl_form h11
      refine JL.e (e_callP fn_44 rfl (fun w hw => c_spec_PlayMoves aG _ aMoves _ w ⟨_, rfl, ⟨rfl, rfl, rfl, rfl, rfl, rfl, rfl, rfl, rfl, (Ty.mono _ h9_9 (x12.vis.trans hw.vis)), (Ty.mono _ h9_10 (x12.vis.trans hw.vis)), rfl, (Ty.mono _ h9_12 (x12.vis.trans hw.vis)), (Ty.mono _ h9_13 (x12.vis.trans hw.vis)), (Ty.mono _ h9_14 (x12.vis.trans hw.vis)), rfl, rfl, trivial⟩⟩ (Ty.mono _ h11 hw.vis) (by omega) (by omega) (by omega) (by omega) (by omega) (by omega))) ?_
      rintro v14 _ u16 ⟨h15, rfl⟩ x16
      obtain ⟨vs17, rfl, hv17⟩ := h15
      obtain ⟨v17_0, vs17, rfl, hw17_0, hv17⟩ := cellsOk_cons hv17
      obtain ⟨v17_1, vs17, rfl, hw17_1, hv17⟩ := cellsOk_cons hv17
      obtain ⟨v17_2, vs17, rfl, hw17_2, hv17⟩ := cellsOk_cons hv17
      obtain rfl := cellsOk_nil hv17
      obtain ⟨A18_9, c18_9, A18_10, c18_10, A18_12, c18_12, A18_13, c18_13, A18_14, c18_14, rfl, h18_9, h18_10, h18_12, h18_13, h18_14, bl18_9, bh18_9, bl18_10, bh18_10, bl18_12, bh18_12, bl18_13, bh18_13, bl18_14, bh18_14⟩ := open_Game hw17_0
      obtain rfl : v17_1 = .int .i64 ((M.playsR aG aMoves).2.1 : Int) := hw17_1
      obtain rfl : v17_2 = .int .i64 ((M.playsR aG aMoves).2.2) := hw17_2
      refine JL.q (OpP.q (p_move rfl)) ?_
      refine JL.q (OpP.q (p_extract rfl rfl)) ?_
      refine JL.q (OpP.q (p_extract rfl rfl)) ?_
      refine JL.q (OpP.q (p_extract rfl rfl)) ?_
      refine JL.e (e_alloc zero_35) ?_
      rintro _ _ _ ⟨b19, rfl, rfl, rfl⟩ _
      refine JL.s (e_store (i := 0) (c' := [.int .i64 ((((M.playsR aG aMoves).1).rules).pits), .int .i64 ((((M.playsR aG aMoves).1).rules).seeds), .bool ((((M.playsR aG aMoves).1).rules).stores), .bool ((((M.playsR aG aMoves).1).rules).skip), .bool ((((M.playsR aG aMoves).1).rules).relay), .bool ((((M.playsR aG aMoves).1).rules).feed), .bool ((((M.playsR aG aMoves).1).rules).again), .int .i64 ((((M.playsR aG aMoves).1).rules).capture), .int .i64 ((((M.playsR aG aMoves).1).rules).slam), .slice A18_9 (((((M.playsR aG aMoves).1).start).pits).length) c18_9, .slice A18_10 (((((M.playsR aG aMoves).1).start).stores).length) c18_10, .int .i64 ((((M.playsR aG aMoves).1).start).player), .slice A18_12 ((((M.playsR aG aMoves).1).moves).length) c18_12, .slice A18_13 (((((M.playsR aG aMoves).1).now).pits).length) c18_13, .slice A18_14 (((((M.playsR aG aMoves).1).now).stores).length) c18_14, .int .i64 ((((M.playsR aG aMoves).1).now).player), .int .i64 (((M.playsR aG aMoves).1).resigned)]) ty_35 rfl rfl rfl rfl rfl rfl rfl rfl) ?_
      rintro _ _ _ ⟨rfl, rfl⟩ _
      refine JL.q (OpP.q (p_assign rfl)) ?_
      refine JL.q (OpP.q (p_assign rfl)) ?_
      refine JL.nil ?_
      refine Js.seq ?_
      refine Js.region ?_
      refine JL.q (q_loadN ty_28 rfl (Mem.boxR (i := 1) rfl 0 17) rfl rfl) ?_
      refine JL.e (e_callO fn_19 rfl (Spl.agg (Spls.cons (Spl.val _) (Spls.cons (Spl.val _) (Spls.cons (Spl.val _) (Spls.cons (Spl.val _) (Spls.cons (Spl.val _) (Spls.cons (Spl.val _) (Spls.cons (Spl.val _) (Spls.cons (Spl.val _) (Spls.cons (Spl.val _) (Spls.cons (Spl.ints _ _) (Spls.cons (Spl.ints _ _) (Spls.cons (Spl.val _) (Spls.cons (Spl.ints _ _) (Spls.cons (Spl.ints _ _) (Spls.cons (Spl.ints _ _) (Spls.cons (Spl.val _) (Spls.cons (Spl.val _) Spls.nil)))))))))))))))))) (fun w hw => c_laws_toGame aG _ w ⟨_, rfl, ⟨rfl, rfl, rfl, rfl, rfl, rfl, rfl, rfl, rfl, (Ty.mono _ h1_9 (((x8.vis.trans x12.vis).trans x16.vis).trans hw.vis)), (Ty.mono _ h1_10 (((x8.vis.trans x12.vis).trans x16.vis).trans hw.vis)), rfl, (Ty.mono _ h1_12 (((x8.vis.trans x12.vis).trans x16.vis).trans hw.vis)), (Ty.mono _ h1_13 (((x8.vis.trans x12.vis).trans x16.vis).trans hw.vis)), (Ty.mono _ h1_14 (((x8.vis.trans x12.vis).trans x16.vis).trans hw.vis)), rfl, rfl, trivial⟩⟩ (by omega) (by omega) (by omega) (by omega) (by omega))) ?_
      rintro v20 _ _ ⟨_, hR21, rfl, rfl⟩ _
      obtain ⟨vs22, rfl, hr22⟩ := hR21
      obtain ⟨v22_0, vs22_0, o22_0, ow22_0, rfl, hR22_0, hs22_0, rfl⟩ := RL_cons hr22
      obtain ⟨v22_1, vs22_1, o22_1, ow22_1, rfl, hR22_1, hs22_1, rfl⟩ := RL_cons hs22_0
      obtain ⟨v22_2, vs22_2, o22_2, ow22_2, rfl, hR22_2, hs22_2, rfl⟩ := RL_cons hs22_1
      obtain ⟨v22_3, vs22_3, o22_3, ow22_3, rfl, hR22_3, hs22_3, rfl⟩ := RL_cons hs22_2
      obtain ⟨v22_4, vs22_4, o22_4, ow22_4, rfl, hR22_4, hs22_4, rfl⟩ := RL_cons hs22_3
      obtain ⟨v22_5, vs22_5, o22_5, ow22_5, rfl, hR22_5, hs22_5, rfl⟩ := RL_cons hs22_4
      obtain ⟨v22_6, vs22_6, o22_6, ow22_6, rfl, hR22_6, hs22_6, rfl⟩ := RL_cons hs22_5
      obtain ⟨v22_7, vs22_7, o22_7, ow22_7, rfl, hR22_7, hs22_7, rfl⟩ := RL_cons hs22_6
      obtain ⟨v22_8, vs22_8, o22_8, ow22_8, rfl, hR22_8, hs22_8, rfl⟩ := RL_cons hs22_7
      obtain ⟨v22_9, vs22_9, o22_9, ow22_9, rfl, hR22_9, hs22_9, rfl⟩ := RL_cons hs22_8
      obtain ⟨v22_10, vs22_10, o22_10, ow22_10, rfl, hR22_10, hs22_10, rfl⟩ := RL_cons hs22_9
      obtain ⟨v22_11, vs22_11, o22_11, ow22_11, rfl, hR22_11, hs22_11, rfl⟩ := RL_cons hs22_10
      obtain ⟨v22_12, vs22_12, o22_12, ow22_12, rfl, hR22_12, hs22_12, rfl⟩ := RL_cons hs22_11
      obtain ⟨v22_13, vs22_13, o22_13, ow22_13, rfl, hR22_13, hs22_13, rfl⟩ := RL_cons hs22_12
      obtain ⟨v22_14, vs22_14, o22_14, ow22_14, rfl, hR22_14, hs22_14, rfl⟩ := RL_cons hs22_13
      obtain ⟨v22_15, vs22_15, o22_15, ow22_15, rfl, hR22_15, hs22_15, rfl⟩ := RL_cons hs22_14
      obtain ⟨v22_16, vs22_16, o22_16, ow22_16, rfl, hR22_16, hs22_16, rfl⟩ := RL_cons hs22_15
      obtain ⟨rfl, rfl⟩ := RL_nil hs22_16
      obtain ⟨rfl, rfl⟩ : v22_0 = .int .i64 aG.rules.pits ∧ _ := hR22_0
      obtain ⟨rfl, rfl⟩ : v22_1 = .int .i64 aG.rules.seeds ∧ _ := hR22_1
      obtain ⟨rfl, rfl⟩ : v22_2 = .bool aG.rules.stores ∧ _ := hR22_2
      obtain ⟨rfl, rfl⟩ : v22_3 = .bool aG.rules.skip ∧ _ := hR22_3
      obtain ⟨rfl, rfl⟩ : v22_4 = .bool aG.rules.relay ∧ _ := hR22_4
      obtain ⟨rfl, rfl⟩ : v22_5 = .bool aG.rules.feed ∧ _ := hR22_5
      obtain ⟨rfl, rfl⟩ : v22_6 = .bool aG.rules.again ∧ _ := hR22_6
      obtain ⟨rfl, rfl⟩ : v22_7 = .int .i64 aG.rules.capture ∧ _ := hR22_7
      obtain ⟨rfl, rfl⟩ : v22_8 = .int .i64 aG.rules.slam ∧ _ := hR22_8
      obtain ⟨A23, c23, rfl, rfl, bl23, bh23⟩ := hR22_9
      obtain ⟨A24, c24, rfl, rfl, bl24, bh24⟩ := hR22_10
      obtain ⟨rfl, rfl⟩ : v22_11 = .int .i64 aG.start.player ∧ _ := hR22_11
      obtain ⟨A25, c25, rfl, rfl, bl25, bh25⟩ := hR22_12
      obtain ⟨A26, c26, rfl, rfl, bl26, bh26⟩ := hR22_13
      obtain ⟨A27, c27, rfl, rfl, bl27, bh27⟩ := hR22_14
      obtain ⟨rfl, rfl⟩ : v22_15 = .int .i64 aG.now.player ∧ _ := hR22_15
      obtain ⟨rfl, rfl⟩ : v22_16 = .int .i64 aG.resigned ∧ _ := hR22_16
      refine JL.e (e_alloc zero_35) ?_
      rintro _ _ _ ⟨b28, rfl, rfl, rfl⟩ _
      refine JL.s (e_store (i := 0) (c' := [.int .i64 aG.rules.pits, .int .i64 aG.rules.seeds, .bool aG.rules.stores, .bool aG.rules.skip, .bool aG.rules.relay, .bool aG.rules.feed, .bool aG.rules.again, .int .i64 aG.rules.capture, .int .i64 aG.rules.slam, .slice A23 aG.start.pits.length c23, .slice A24 aG.start.stores.length c24, .int .i64 aG.start.player, .slice A25 aG.moves.length c25, .slice A26 aG.now.pits.length c26, .slice A27 aG.now.stores.length c27, .int .i64 aG.now.player, .int .i64 aG.resigned]) ty_35 rfl rfl rfl rfl rfl rfl rfl rfl) ?_
      rintro _ _ _ ⟨rfl, rfl⟩ _
      refine JL.nil ?_
      refine Js.seq ?_
      refine Js.region ?_
      refine JL.q (OpP.q (p_move rfl)) ?_
      refine JL.e (e_callO fn_45 rfl (Spl.ints _ _) (fun w hw => c_laws_toInt64S aMoves _ w (Ty.mono _ h_aMoves (((x8.vis.trans x12.vis).trans x16.vis).trans hw.vis)) (by omega))) ?_
      rintro v29 _ _ ⟨_, hR30, rfl, rfl⟩ _
      obtain ⟨A31, c31, rfl, rfl, bl31, bh31⟩ := hR30
      refine JL.q (OpP.q (p_assign rfl)) ?_
      refine JL.nil ?_
      refine Js.seq ?_
      refine Js.region ?_
      refine JL.q (q_loadN ty_35 rfl (Mem.boxR (i := 1) rfl 0 17) rfl rfl) ?_
      refine JL.q (OpP.q (p_move rfl)) ?_
      refine JL.e (e_callO fn_46 rfl (Spl.tup (Spls.cons (Spl.agg (Spls.cons (Spl.val _) (Spls.cons (Spl.val _) (Spls.cons (Spl.val _) (Spls.cons (Spl.val _) (Spls.cons (Spl.val _) (Spls.cons (Spl.val _) (Spls.cons (Spl.val _) (Spls.cons (Spl.val _) (Spls.cons (Spl.val _) (Spls.cons (Spl.ints _ _) (Spls.cons (Spl.ints _ _) (Spls.cons (Spl.val _) (Spls.cons (Spl.ints _ _) (Spls.cons (Spl.ints _ _) (Spls.cons (Spl.ints _ _) (Spls.cons (Spl.val _) (Spls.cons (Spl.val _) Spls.nil)))))))))))))))))) (Spls.cons (Spl.val _) (Spls.cons (Spl.val _) Spls.nil)))) (fun w hw => c_impl_PlayMoves aG _ aMoves _ w ⟨_, rfl, ⟨rfl, rfl, rfl, rfl, rfl, rfl, rfl, rfl, rfl, (ints_rowok (xs := aG.start.pits) (hw.pr (i := 2) rfl)), (ints_rowok (xs := aG.start.stores) (hw.pr (i := 3) rfl)), rfl, (ints_rowok (xs := aG.moves) (hw.pr (i := 4) rfl)), (ints_rowok (xs := aG.now.pits) (hw.pr (i := 5) rfl)), (ints_rowok (xs := aG.now.stores) (hw.pr (i := 6) rfl)), rfl, rfl, trivial⟩⟩ (ints_rowok (xs := aMoves) (hw.pr (i := 0) rfl)) (by omega) (by omega) (by omega) (by omega) (by omega) (by omega))) ?_
      rintro v32 _ _ ⟨_, hR33, rfl, rfl⟩ _
      obtain ⟨vs34, rfl, hr34⟩ := hR33
      obtain ⟨v34_0, vs34_0, o34_0, ow34_0, rfl, hR34_0, hs34_0, rfl⟩ := RL_cons hr34
      obtain ⟨v34_1, vs34_1, o34_1, ow34_1, rfl, hR34_1, hs34_1, rfl⟩ := RL_cons hs34_0
      obtain ⟨v34_2, vs34_2, o34_2, ow34_2, rfl, hR34_2, hs34_2, rfl⟩ := RL_cons hs34_1
      obtain ⟨rfl, rfl⟩ := RL_nil hs34_2
      obtain ⟨vs35, rfl, hr35⟩ := hR34_0
      obtain ⟨v35_0, vs35_0, o35_0, ow35_0, rfl, hR35_0, hs35_0, rfl⟩ := RL_cons hr35
      obtain ⟨v35_1, vs35_1, o35_1, ow35_1, rfl, hR35_1, hs35_1, rfl⟩ := RL_cons hs35_0
      obtain ⟨v35_2, vs35_2, o35_2, ow35_2, rfl, hR35_2, hs35_2, rfl⟩ := RL_cons hs35_1
      obtain ⟨v35_3, vs35_3, o35_3, ow35_3, rfl, hR35_3, hs35_3, rfl⟩ := RL_cons hs35_2
      obtain ⟨v35_4, vs35_4, o35_4, ow35_4, rfl, hR35_4, hs35_4, rfl⟩ := RL_cons hs35_3
      obtain ⟨v35_5, vs35_5, o35_5, ow35_5, rfl, hR35_5, hs35_5, rfl⟩ := RL_cons hs35_4
      obtain ⟨v35_6, vs35_6, o35_6, ow35_6, rfl, hR35_6, hs35_6, rfl⟩ := RL_cons hs35_5
      obtain ⟨v35_7, vs35_7, o35_7, ow35_7, rfl, hR35_7, hs35_7, rfl⟩ := RL_cons hs35_6
      obtain ⟨v35_8, vs35_8, o35_8, ow35_8, rfl, hR35_8, hs35_8, rfl⟩ := RL_cons hs35_7
      obtain ⟨v35_9, vs35_9, o35_9, ow35_9, rfl, hR35_9, hs35_9, rfl⟩ := RL_cons hs35_8
      obtain ⟨v35_10, vs35_10, o35_10, ow35_10, rfl, hR35_10, hs35_10, rfl⟩ := RL_cons hs35_9
      obtain ⟨v35_11, vs35_11, o35_11, ow35_11, rfl, hR35_11, hs35_11, rfl⟩ := RL_cons hs35_10
      obtain ⟨v35_12, vs35_12, o35_12, ow35_12, rfl, hR35_12, hs35_12, rfl⟩ := RL_cons hs35_11
      obtain ⟨v35_13, vs35_13, o35_13, ow35_13, rfl, hR35_13, hs35_13, rfl⟩ := RL_cons hs35_12
      obtain ⟨v35_14, vs35_14, o35_14, ow35_14, rfl, hR35_14, hs35_14, rfl⟩ := RL_cons hs35_13
      obtain ⟨v35_15, vs35_15, o35_15, ow35_15, rfl, hR35_15, hs35_15, rfl⟩ := RL_cons hs35_14
      obtain ⟨v35_16, vs35_16, o35_16, ow35_16, rfl, hR35_16, hs35_16, rfl⟩ := RL_cons hs35_15
      obtain ⟨rfl, rfl⟩ := RL_nil hs35_16
      obtain ⟨rfl, rfl⟩ : v35_0 = .int .i64 ((((M.playsR aG aMoves).1).rules).pits) ∧ _ := hR35_0
      obtain ⟨rfl, rfl⟩ : v35_1 = .int .i64 ((((M.playsR aG aMoves).1).rules).seeds) ∧ _ := hR35_1
      obtain ⟨rfl, rfl⟩ : v35_2 = .bool ((((M.playsR aG aMoves).1).rules).stores) ∧ _ := hR35_2
      obtain ⟨rfl, rfl⟩ : v35_3 = .bool ((((M.playsR aG aMoves).1).rules).skip) ∧ _ := hR35_3
      obtain ⟨rfl, rfl⟩ : v35_4 = .bool ((((M.playsR aG aMoves).1).rules).relay) ∧ _ := hR35_4
      obtain ⟨rfl, rfl⟩ : v35_5 = .bool ((((M.playsR aG aMoves).1).rules).feed) ∧ _ := hR35_5
      obtain ⟨rfl, rfl⟩ : v35_6 = .bool ((((M.playsR aG aMoves).1).rules).again) ∧ _ := hR35_6
      obtain ⟨rfl, rfl⟩ : v35_7 = .int .i64 ((((M.playsR aG aMoves).1).rules).capture) ∧ _ := hR35_7
      obtain ⟨rfl, rfl⟩ : v35_8 = .int .i64 ((((M.playsR aG aMoves).1).rules).slam) ∧ _ := hR35_8
      obtain ⟨A36, c36, rfl, rfl, bl36, bh36⟩ := hR35_9
      obtain ⟨A37, c37, rfl, rfl, bl37, bh37⟩ := hR35_10
      obtain ⟨rfl, rfl⟩ : v35_11 = .int .i64 ((((M.playsR aG aMoves).1).start).player) ∧ _ := hR35_11
      obtain ⟨A38, c38, rfl, rfl, bl38, bh38⟩ := hR35_12
      obtain ⟨A39, c39, rfl, rfl, bl39, bh39⟩ := hR35_13
      obtain ⟨A40, c40, rfl, rfl, bl40, bh40⟩ := hR35_14
      obtain ⟨rfl, rfl⟩ : v35_15 = .int .i64 ((((M.playsR aG aMoves).1).now).player) ∧ _ := hR35_15
      obtain ⟨rfl, rfl⟩ : v35_16 = .int .i64 (((M.playsR aG aMoves).1).resigned) ∧ _ := hR35_16
      obtain ⟨rfl, rfl⟩ : v34_1 = .int .i64 ((M.playsR aG aMoves).2.1 : Int) ∧ _ := hR34_1
      obtain ⟨rfl, rfl⟩ : v34_2 = .int .i64 ((M.playsR aG aMoves).2.2) ∧ _ := hR34_2
      refine JL.q (OpP.q (p_move rfl)) ?_
      refine JL.q (OpP.q (p_extract rfl rfl)) ?_
      refine JL.q (OpP.q (p_extract rfl rfl)) ?_
      refine JL.q (OpP.q (p_extract rfl rfl)) ?_
      refine JL.e (e_alloc zero_35) ?_
      rintro _ _ _ ⟨b41, rfl, rfl, rfl⟩ _
      refine JL.s (e_store (i := 0) (c' := [.int .i64 ((((M.playsR aG aMoves).1).rules).pits), .int .i64 ((((M.playsR aG aMoves).1).rules).seeds), .bool ((((M.playsR aG aMoves).1).rules).stores), .bool ((((M.playsR aG aMoves).1).rules).skip), .bool ((((M.playsR aG aMoves).1).rules).relay), .bool ((((M.playsR aG aMoves).1).rules).feed), .bool ((((M.playsR aG aMoves).1).rules).again), .int .i64 ((((M.playsR aG aMoves).1).rules).capture), .int .i64 ((((M.playsR aG aMoves).1).rules).slam), .slice A36 (((((M.playsR aG aMoves).1).start).pits).length) c36, .slice A37 (((((M.playsR aG aMoves).1).start).stores).length) c37, .int .i64 ((((M.playsR aG aMoves).1).start).player), .slice A38 ((((M.playsR aG aMoves).1).moves).length) c38, .slice A39 (((((M.playsR aG aMoves).1).now).pits).length) c39, .slice A40 (((((M.playsR aG aMoves).1).now).stores).length) c40, .int .i64 ((((M.playsR aG aMoves).1).now).player), .int .i64 (((M.playsR aG aMoves).1).resigned)]) ty_35 rfl rfl rfl rfl rfl rfl rfl rfl) ?_
      rintro _ _ _ ⟨rfl, rfl⟩ _
      refine JL.q (OpP.q (p_assign rfl)) ?_
      refine JL.q (OpP.q (p_assign rfl)) ?_
      refine JL.nil ?_
      refine Js.seq ?_
      refine Js.seq ?_
      refine Js.region ?_
      refine JL.q (q_loadN ty_35 rfl (Mem.boxR (i := 0) rfl 0 17) rfl rfl) ?_
      refine JL.q (q_loadN ty_35 rfl (Mem.boxR (i := 13) rfl 0 17) rfl rfl) ?_
      refine JL.e (e_callV fn_21 rfl (fun w hw => c_laws_eqGame ((M.playsR aG aMoves).1) _ ((M.playsR aG aMoves).1) _ w ⟨_, rfl, ⟨rfl, rfl, rfl, rfl, rfl, rfl, rfl, rfl, rfl, (ints_rowok (xs := ((((M.playsR aG aMoves).1).start).pits)) (hw.pr (i := 1) rfl)), (ints_rowok (xs := ((((M.playsR aG aMoves).1).start).stores)) (hw.pr (i := 2) rfl)), rfl, (ints_rowok (xs := (((M.playsR aG aMoves).1).moves)) (hw.pr (i := 3) rfl)), (ints_rowok (xs := ((((M.playsR aG aMoves).1).now).pits)) (hw.pr (i := 4) rfl)), (ints_rowok (xs := ((((M.playsR aG aMoves).1).now).stores)) (hw.pr (i := 5) rfl)), rfl, rfl, trivial⟩⟩ ⟨_, rfl, ⟨rfl, rfl, rfl, rfl, rfl, rfl, rfl, rfl, rfl, (Ty.mono _ h18_9 hw.vis), (Ty.mono _ h18_10 hw.vis), rfl, (Ty.mono _ h18_12 hw.vis), (Ty.mono _ h18_13 hw.vis), (Ty.mono _ h18_14 hw.vis), rfl, rfl, trivial⟩⟩ (by omega) (by omega) (by omega) (by omega) (by omega) (by omega) (by omega) (by omega) (by omega) (by omega))) ?_
      rintro _ _ _ ⟨rfl, rfl, rfl⟩ _
      refine JL.q (OpP.q (p_not rfl)) ?_
      refine JL.q (OpP.q (p_move rfl)) ?_
      refine JL.g (Gd.f1 rfl rfl rfl) (fun hc => OpP.q (p_move rfl)) ?_
      refine JL.g (Gd.f1 rfl rfl rfl) (fun hc => OpP.q (p_move rfl)) ?_
      refine JL.g (Gd.f1 rfl rfl rfl) (fun hc => OpP.q (p_neq (gvt rfl hc) (gvt rfl hc))) ?_
      refine JL.q (OpP.q (p_pickOr rfl rfl rfl)) ?_
      refine JL.q (OpP.q (p_move rfl)) ?_
      refine JL.g (Gd.f1 rfl rfl rfl) (fun hc => OpP.q (p_move rfl)) ?_
      refine JL.g (Gd.f1 rfl rfl rfl) (fun hc => OpP.q (p_move rfl)) ?_
      refine JL.g (Gd.f1 rfl rfl rfl) (fun hc => OpP.q (p_neq (gvt rfl hc) (gvt rfl hc))) ?_
      refine JL.q (OpP.q (p_pickOr rfl rfl rfl)) ?_
      refine JL.nil ?_
      refine Js.cond rfl (fun h42 => ?_) (fun h42 => ?_)
      ·
        exact absurd h42 (by simp)
      ·
        have h42' := h42
        try simp only [Bool.or_eq_false_iff, Bool.not_eq_false', decide_eq_true_eq] at h42'
        refine Js.skip ?_
        refine Js.seq ?_
        refine Js.seq ?_
        refine Js.drawn _ [] mixed_ (fun _ h => h) ?_
        refine JH.q 0 rfl (q_loadN ty_35 rfl (Mem.boxR (i := 7) rfl 0 17) rfl rfl) ?_
        refine JH.q 1 rfl (q_loadN ty_28 rfl (Mem.boxR (i := 14) rfl 0 17) rfl rfl) ?_
        refine JH.one (i := 2) (by kernel_rfl) ?_
        refine JHo.e rfl (e_callP fn_19 rfl (fun w hw => c_laws_toGame aG _ w ⟨_, rfl, ⟨rfl, rfl, rfl, rfl, rfl, rfl, rfl, rfl, rfl, (Ty.mono _ h1_9 (((x8.vis.trans x12.vis).trans x16.vis).trans hw.vis)), (Ty.mono _ h1_10 (((x8.vis.trans x12.vis).trans x16.vis).trans hw.vis)), rfl, (Ty.mono _ h1_12 (((x8.vis.trans x12.vis).trans x16.vis).trans hw.vis)), (Ty.mono _ h1_13 (((x8.vis.trans x12.vis).trans x16.vis).trans hw.vis)), (Ty.mono _ h1_14 (((x8.vis.trans x12.vis).trans x16.vis).trans hw.vis)), rfl, rfl, trivial⟩⟩ (by omega) (by omega) (by omega) (by omega) (by omega))) (.inl rfl) ?_
        rintro v43 _ u45 ⟨h44, rfl⟩ x45
        obtain ⟨A46_9, c46_9, A46_10, c46_10, A46_12, c46_12, A46_13, c46_13, A46_14, c46_14, rfl, h46_9, h46_10, h46_12, h46_13, h46_14, bl46_9, bh46_9, bl46_10, bh46_10, bl46_12, bh46_12, bl46_13, bh46_13, bl46_14, bh46_14⟩ := open_Game h44
        refine JH.one (i := 3) (by kernel_rfl) ?_
        refine JHo.e rfl (e_callV fn_21 rfl (fun w hw => c_laws_eqGame aG _ aG _ w ⟨_, rfl, ⟨rfl, rfl, rfl, rfl, rfl, rfl, rfl, rfl, rfl, (ints_rowok (xs := aG.start.pits) (hw.pr (i := 8) rfl)), (ints_rowok (xs := aG.start.stores) (hw.pr (i := 9) rfl)), rfl, (ints_rowok (xs := aG.moves) (hw.pr (i := 10) rfl)), (ints_rowok (xs := aG.now.pits) (hw.pr (i := 11) rfl)), (ints_rowok (xs := aG.now.stores) (hw.pr (i := 12) rfl)), rfl, rfl, trivial⟩⟩ ⟨_, rfl, ⟨rfl, rfl, rfl, rfl, rfl, rfl, rfl, rfl, rfl, (Ty.mono _ h46_9 hw.vis), (Ty.mono _ h46_10 hw.vis), rfl, (Ty.mono _ h46_12 hw.vis), (Ty.mono _ h46_13 hw.vis), (Ty.mono _ h46_14 hw.vis), rfl, rfl, trivial⟩⟩ (by omega) (by omega) (by omega) (by omega) (by omega) (by omega) (by omega) (by omega) (by omega) (by omega))) (.inl rfl) ?_
        rintro _ _ _ ⟨rfl, rfl, rfl⟩ _
        refine JH.p 4 rfl (p_not rfl) ?_
        refine JH.done (by kernel_rfl) ?_
        refine Js.cond rfl (fun h47 => ?_) (fun h47 => ?_)
        ·
          exact absurd h47 (by simp)
        ·
          have h47' := h47
          try simp only [Bool.not_eq_false', decide_eq_true_eq] at h47'
          refine Js.skip ?_
          refine Js.seq ?_
          refine Js.seq ?_
          refine Js.region ?_
          refine JL.q (OpP.q (p_move rfl)) ?_
          refine JL.q (OpP.q (p_move rfl)) ?_
          refine JL.e (e_callP fn_45 rfl (fun w hw => c_laws_toInt64S aMoves _ w (Ty.mono _ h_aMoves ((((x8.vis.trans x12.vis).trans x16.vis).trans x45.vis).trans hw.vis)) (by omega))) ?_
          rintro v48 _ u50 ⟨h49, rfl⟩ x50
          obtain ⟨A51, c51, rfl, bl51, bh51⟩ := sl_form h49
          refine JL.e (e_callV fn_24 rfl (fun w hw => c_laws_eqInt64S aMoves _ aMoves _ w (ints_rowok (xs := aMoves) (hw.pr (i := 6) rfl)) (Ty.mono _ h49 hw.vis) (by omega) (by omega))) ?_
          rintro _ _ _ ⟨rfl, rfl, rfl⟩ _
          refine JL.q (OpP.q (p_not rfl)) ?_
          refine JL.nil ?_
          refine Js.cond rfl (fun h52 => ?_) (fun h52 => ?_)
          ·
            exact absurd h52 (by simp)
          ·
            have h52' := h52
            try simp only [Bool.not_eq_false', decide_eq_true_eq] at h52'
            refine Js.skip ?_
            refine Js.seq ?_
            refine Js.region ?_
            refine JL.q (OpP.q (p_assign rfl)) ?_
            refine JL.nil ?_
            refine Js.seq ?_
            refine Js.region ?_
            refine JL.q (q_loadN ty_35 rfl (Mem.boxR (i := 7) rfl 0 17) rfl rfl) ?_
            refine JL.q (OpP.q (p_move rfl)) ?_
            refine JL.conv (fun _ h => h.front (i := 12) rfl) ?_
            refine JL.conv (fun _ h => h.front (i := 12) rfl) ?_
            refine JL.conv (fun _ h => h.front (i := 12) rfl) ?_
            refine JL.conv (fun _ h => h.front (i := 12) rfl) ?_
            refine JL.conv (fun _ h => h.front (i := 12) rfl) ?_
            refine JL.e (e_callB (bs := [rowO 2 1 (.slice A23 aG.start.pits.length c23) aG.start.pits.length (ints_ aG.start.pits) [], rowO 2 1 (.slice A24 aG.start.stores.length c24) aG.start.stores.length (ints_ aG.start.stores) [], rowO 2 1 (.slice A25 aG.moves.length c25) aG.moves.length (ints_ aG.moves) [], rowO 2 1 (.slice A26 aG.now.pits.length c26) aG.now.pits.length (ints_ aG.now.pits) [], rowO 2 1 (.slice A27 aG.now.stores.length c27) aG.now.stores.length (ints_ aG.now.stores) []]) (rest := [boxO b41 [.int .i64 ((((M.playsR aG aMoves).1).rules).pits), .int .i64 ((((M.playsR aG aMoves).1).rules).seeds), .bool ((((M.playsR aG aMoves).1).rules).stores), .bool ((((M.playsR aG aMoves).1).rules).skip), .bool ((((M.playsR aG aMoves).1).rules).relay), .bool ((((M.playsR aG aMoves).1).rules).feed), .bool ((((M.playsR aG aMoves).1).rules).again), .int .i64 ((((M.playsR aG aMoves).1).rules).capture), .int .i64 ((((M.playsR aG aMoves).1).rules).slam), .slice A36 (((((M.playsR aG aMoves).1).start).pits).length) c36, .slice A37 (((((M.playsR aG aMoves).1).start).stores).length) c37, .int .i64 ((((M.playsR aG aMoves).1).start).player), .slice A38 ((((M.playsR aG aMoves).1).moves).length) c38, .slice A39 (((((M.playsR aG aMoves).1).now).pits).length) c39, .slice A40 (((((M.playsR aG aMoves).1).now).stores).length) c40, .int .i64 ((((M.playsR aG aMoves).1).now).player), .int .i64 (((M.playsR aG aMoves).1).resigned)] 35, rowO 2 1 (.slice A36 (((((M.playsR aG aMoves).1).start).pits).length) c36) (((((M.playsR aG aMoves).1).start).pits).length) (ints_ ((((M.playsR aG aMoves).1).start).pits)) [], rowO 2 1 (.slice A37 (((((M.playsR aG aMoves).1).start).stores).length) c37) (((((M.playsR aG aMoves).1).start).stores).length) (ints_ ((((M.playsR aG aMoves).1).start).stores)) [], rowO 2 1 (.slice A38 ((((M.playsR aG aMoves).1).moves).length) c38) ((((M.playsR aG aMoves).1).moves).length) (ints_ (((M.playsR aG aMoves).1).moves)) [], rowO 2 1 (.slice A39 (((((M.playsR aG aMoves).1).now).pits).length) c39) (((((M.playsR aG aMoves).1).now).pits).length) (ints_ ((((M.playsR aG aMoves).1).now).pits)) [], rowO 2 1 (.slice A40 (((((M.playsR aG aMoves).1).now).stores).length) c40) (((((M.playsR aG aMoves).1).now).stores).length) (ints_ ((((M.playsR aG aMoves).1).now).stores)) [], rowO 2 1 (.slice A31 aMoves.length c31) aMoves.length (ints_ aMoves) [], boxO b28 [.int .i64 aG.rules.pits, .int .i64 aG.rules.seeds, .bool aG.rules.stores, .bool aG.rules.skip, .bool aG.rules.relay, .bool aG.rules.feed, .bool aG.rules.again, .int .i64 aG.rules.capture, .int .i64 aG.rules.slam, .slice A23 aG.start.pits.length c23, .slice A24 aG.start.stores.length c24, .int .i64 aG.start.player, .slice A25 aG.moves.length c25, .slice A26 aG.now.pits.length c26, .slice A27 aG.now.stores.length c27, .int .i64 aG.now.player, .int .i64 aG.resigned] 35, boxO b19 [.int .i64 ((((M.playsR aG aMoves).1).rules).pits), .int .i64 ((((M.playsR aG aMoves).1).rules).seeds), .bool ((((M.playsR aG aMoves).1).rules).stores), .bool ((((M.playsR aG aMoves).1).rules).skip), .bool ((((M.playsR aG aMoves).1).rules).relay), .bool ((((M.playsR aG aMoves).1).rules).feed), .bool ((((M.playsR aG aMoves).1).rules).again), .int .i64 ((((M.playsR aG aMoves).1).rules).capture), .int .i64 ((((M.playsR aG aMoves).1).rules).slam), .slice A18_9 (((((M.playsR aG aMoves).1).start).pits).length) c18_9, .slice A18_10 (((((M.playsR aG aMoves).1).start).stores).length) c18_10, .int .i64 ((((M.playsR aG aMoves).1).start).player), .slice A18_12 ((((M.playsR aG aMoves).1).moves).length) c18_12, .slice A18_13 (((((M.playsR aG aMoves).1).now).pits).length) c18_13, .slice A18_14 (((((M.playsR aG aMoves).1).now).stores).length) c18_14, .int .i64 ((((M.playsR aG aMoves).1).now).player), .int .i64 (((M.playsR aG aMoves).1).resigned)] 35, boxO b3 [.int .i64 aG.rules.pits, .int .i64 aG.rules.seeds, .bool aG.rules.stores, .bool aG.rules.skip, .bool aG.rules.relay, .bool aG.rules.feed, .bool aG.rules.again, .int .i64 aG.rules.capture, .int .i64 aG.rules.slam, .slice A1_9 aG.start.pits.length c1_9, .slice A1_10 aG.start.stores.length c1_10, .int .i64 aG.start.player, .slice A1_12 aG.moves.length c1_12, .slice A1_13 aG.now.pits.length c1_13, .slice A1_14 aG.now.stores.length c1_14, .int .i64 aG.now.player, .int .i64 aG.resigned] 28]) fn_25 rfl (fun w hb hw => c_laws_markGame aG.rules aG.start aG.moves aG.now aG.resigned A23 c23 [] A24 c24 [] A25 c25 [] A26 c26 [] A27 c27 [] 1 w hb (by omega) (by omega) (by omega) (by omega) (by omega) (by omega) (by omega) (by omega) (by omega) (by omega) (by omega) (by omega) (by omega) (by omega) (by omega) (by omega) (by omega)) rfl) ?_
            rintro _ _ _ ⟨_, G53, ⟨rfl, rfl⟩, rfl, rfl⟩ _
            refine JL.q (OpP.q (p_assign rfl)) ?_
            refine JL.nil ?_
            refine Js.seq ?_
            refine Js.region ?_
            refine JL.q (OpP.q (p_move rfl)) ?_
            refine JL.q (OpP.q (p_move rfl)) ?_
            refine JL.conv (fun _ h => h.front (i := 12) rfl) ?_
            refine JL.e (e_callB (bs := [rowO 2 1 (.slice A31 aMoves.length c31) aMoves.length (ints_ aMoves) []]) (rest := [rowO 2 1 (.slice A23 aG.start.pits.length c23) aG.start.pits.length (ints_ ((M.markP aG.start 1).pits)) [], rowO 2 1 (.slice A24 aG.start.stores.length c24) aG.start.stores.length (ints_ ((M.markP aG.start 1).stores)) [], rowO 2 1 (.slice A25 aG.moves.length c25) aG.moves.length (ints_ (M.up (1 + M.szp aG.start) aG.moves.length)) [], rowO 2 1 (.slice A26 aG.now.pits.length c26) aG.now.pits.length (ints_ ((M.markP aG.now (1 + M.szp aG.start + (aG.moves.length : Int))).pits)) [], rowO 2 1 (.slice A27 aG.now.stores.length c27) aG.now.stores.length (ints_ ((M.markP aG.now (1 + M.szp aG.start + (aG.moves.length : Int))).stores)) [], anyO G53, boxO b41 [.int .i64 ((((M.playsR aG aMoves).1).rules).pits), .int .i64 ((((M.playsR aG aMoves).1).rules).seeds), .bool ((((M.playsR aG aMoves).1).rules).stores), .bool ((((M.playsR aG aMoves).1).rules).skip), .bool ((((M.playsR aG aMoves).1).rules).relay), .bool ((((M.playsR aG aMoves).1).rules).feed), .bool ((((M.playsR aG aMoves).1).rules).again), .int .i64 ((((M.playsR aG aMoves).1).rules).capture), .int .i64 ((((M.playsR aG aMoves).1).rules).slam), .slice A36 (((((M.playsR aG aMoves).1).start).pits).length) c36, .slice A37 (((((M.playsR aG aMoves).1).start).stores).length) c37, .int .i64 ((((M.playsR aG aMoves).1).start).player), .slice A38 ((((M.playsR aG aMoves).1).moves).length) c38, .slice A39 (((((M.playsR aG aMoves).1).now).pits).length) c39, .slice A40 (((((M.playsR aG aMoves).1).now).stores).length) c40, .int .i64 ((((M.playsR aG aMoves).1).now).player), .int .i64 (((M.playsR aG aMoves).1).resigned)] 35, rowO 2 1 (.slice A36 (((((M.playsR aG aMoves).1).start).pits).length) c36) (((((M.playsR aG aMoves).1).start).pits).length) (ints_ ((((M.playsR aG aMoves).1).start).pits)) [], rowO 2 1 (.slice A37 (((((M.playsR aG aMoves).1).start).stores).length) c37) (((((M.playsR aG aMoves).1).start).stores).length) (ints_ ((((M.playsR aG aMoves).1).start).stores)) [], rowO 2 1 (.slice A38 ((((M.playsR aG aMoves).1).moves).length) c38) ((((M.playsR aG aMoves).1).moves).length) (ints_ (((M.playsR aG aMoves).1).moves)) [], rowO 2 1 (.slice A39 (((((M.playsR aG aMoves).1).now).pits).length) c39) (((((M.playsR aG aMoves).1).now).pits).length) (ints_ ((((M.playsR aG aMoves).1).now).pits)) [], rowO 2 1 (.slice A40 (((((M.playsR aG aMoves).1).now).stores).length) c40) (((((M.playsR aG aMoves).1).now).stores).length) (ints_ ((((M.playsR aG aMoves).1).now).stores)) [], boxO b28 [.int .i64 aG.rules.pits, .int .i64 aG.rules.seeds, .bool aG.rules.stores, .bool aG.rules.skip, .bool aG.rules.relay, .bool aG.rules.feed, .bool aG.rules.again, .int .i64 aG.rules.capture, .int .i64 aG.rules.slam, .slice A23 aG.start.pits.length c23, .slice A24 aG.start.stores.length c24, .int .i64 aG.start.player, .slice A25 aG.moves.length c25, .slice A26 aG.now.pits.length c26, .slice A27 aG.now.stores.length c27, .int .i64 aG.now.player, .int .i64 aG.resigned] 35, boxO b19 [.int .i64 ((((M.playsR aG aMoves).1).rules).pits), .int .i64 ((((M.playsR aG aMoves).1).rules).seeds), .bool ((((M.playsR aG aMoves).1).rules).stores), .bool ((((M.playsR aG aMoves).1).rules).skip), .bool ((((M.playsR aG aMoves).1).rules).relay), .bool ((((M.playsR aG aMoves).1).rules).feed), .bool ((((M.playsR aG aMoves).1).rules).again), .int .i64 ((((M.playsR aG aMoves).1).rules).capture), .int .i64 ((((M.playsR aG aMoves).1).rules).slam), .slice A18_9 (((((M.playsR aG aMoves).1).start).pits).length) c18_9, .slice A18_10 (((((M.playsR aG aMoves).1).start).stores).length) c18_10, .int .i64 ((((M.playsR aG aMoves).1).start).player), .slice A18_12 ((((M.playsR aG aMoves).1).moves).length) c18_12, .slice A18_13 (((((M.playsR aG aMoves).1).now).pits).length) c18_13, .slice A18_14 (((((M.playsR aG aMoves).1).now).stores).length) c18_14, .int .i64 ((((M.playsR aG aMoves).1).now).player), .int .i64 (((M.playsR aG aMoves).1).resigned)] 35, boxO b3 [.int .i64 aG.rules.pits, .int .i64 aG.rules.seeds, .bool aG.rules.stores, .bool aG.rules.skip, .bool aG.rules.relay, .bool aG.rules.feed, .bool aG.rules.again, .int .i64 aG.rules.capture, .int .i64 aG.rules.slam, .slice A1_9 aG.start.pits.length c1_9, .slice A1_10 aG.start.stores.length c1_10, .int .i64 aG.start.player, .slice A1_12 aG.moves.length c1_12, .slice A1_13 aG.now.pits.length c1_13, .slice A1_14 aG.now.stores.length c1_14, .int .i64 aG.now.player, .int .i64 aG.resigned] 28]) fn_26 rfl (fun w hb hw => c_laws_markInt64S aMoves A31 c31 [] (1 + M.szp aG.start + (aG.moves.length : Int) + M.szp aG.now) w hb (by omega) (by omega) (by omega) (by omega) (by omega)) rfl) ?_
            rintro _ _ _ ⟨_, G54, ⟨rfl, rfl⟩, rfl, rfl⟩ _
            refine JL.q (OpP.q (p_assign rfl)) ?_
            refine JL.nil ?_
            refine Js.seq ?_
            refine Js.seq ?_
            refine Js.region ?_
            refine JL.q (OpP.q (p_move rfl)) ?_
            refine JL.q (OpP.q (p_lss rfl rfl)) ?_
            refine JL.q (OpP.q (p_move rfl)) ?_
            refine JL.g (Gd.f1 rfl rfl rfl) (fun hc => q_loadN ty_35 rfl (Mem.boxR (i := 8) rfl 0 17) rfl rfl) ?_
            refine JL.g (Gd.f1 rfl rfl rfl) (fun hc => q_loadN ty_35 rfl (Mem.boxR (i := 15) rfl 0 17) rfl rfl) ?_
            refine JL.ge (Gd.f1 rfl rfl rfl) (fun hc => e_callV fn_21 (opds_2 (gvt rfl hc) (gvt rfl hc)) (fun w hw => c_laws_eqGame ((M.playsR aG aMoves).1) _ ((M.playsR aG aMoves).1) _ w ⟨_, rfl, ⟨rfl, rfl, rfl, rfl, rfl, rfl, rfl, rfl, rfl, (ints_rowok (xs := ((((M.playsR aG aMoves).1).start).pits)) (hw.pr (i := 9) rfl)), (ints_rowok (xs := ((((M.playsR aG aMoves).1).start).stores)) (hw.pr (i := 10) rfl)), rfl, (ints_rowok (xs := (((M.playsR aG aMoves).1).moves)) (hw.pr (i := 11) rfl)), (ints_rowok (xs := ((((M.playsR aG aMoves).1).now).pits)) (hw.pr (i := 12) rfl)), (ints_rowok (xs := ((((M.playsR aG aMoves).1).now).stores)) (hw.pr (i := 13) rfl)), rfl, rfl, trivial⟩⟩ ⟨_, rfl, ⟨rfl, rfl, rfl, rfl, rfl, rfl, rfl, rfl, rfl, (Ty.mono _ h18_9 ((x45.vis.trans x50.vis).trans hw.vis)), (Ty.mono _ h18_10 ((x45.vis.trans x50.vis).trans hw.vis)), rfl, (Ty.mono _ h18_12 ((x45.vis.trans x50.vis).trans hw.vis)), (Ty.mono _ h18_13 ((x45.vis.trans x50.vis).trans hw.vis)), (Ty.mono _ h18_14 ((x45.vis.trans x50.vis).trans hw.vis)), rfl, rfl, trivial⟩⟩ (by have hc9 := hc; (try simp only [Bool.not_eq_true', decide_eq_false_iff_not, Int.not_lt] at hc9); omega) (by have hc9 := hc; (try simp only [Bool.not_eq_true', decide_eq_false_iff_not, Int.not_lt] at hc9); omega) (by have hc9 := hc; (try simp only [Bool.not_eq_true', decide_eq_false_iff_not, Int.not_lt] at hc9); omega) (by have hc9 := hc; (try simp only [Bool.not_eq_true', decide_eq_false_iff_not, Int.not_lt] at hc9); omega) (by have hc9 := hc; (try simp only [Bool.not_eq_true', decide_eq_false_iff_not, Int.not_lt] at hc9); omega) (by have hc9 := hc; (try simp only [Bool.not_eq_true', decide_eq_false_iff_not, Int.not_lt] at hc9); omega) (by have hc9 := hc; (try simp only [Bool.not_eq_true', decide_eq_false_iff_not, Int.not_lt] at hc9); omega) (by have hc9 := hc; (try simp only [Bool.not_eq_true', decide_eq_false_iff_not, Int.not_lt] at hc9); omega) (by have hc9 := hc; (try simp only [Bool.not_eq_true', decide_eq_false_iff_not, Int.not_lt] at hc9); omega) (by have hc9 := hc; (try simp only [Bool.not_eq_true', decide_eq_false_iff_not, Int.not_lt] at hc9); omega))) ?_
            refine JL.g (Gd.f1 rfl rfl rfl) (fun hc => OpP.q (p_not (gvt rfl hc))) ?_
            refine JL.q (OpP.q (p_pickOr rfl rfl rfl)) ?_
            refine JL.q (OpP.q (p_move rfl)) ?_
            refine JL.g (Gd.f1 rfl rfl rfl) (fun hc => OpP.q (p_move rfl)) ?_
            refine JL.g (Gd.f1 rfl rfl rfl) (fun hc => OpP.q (p_move rfl)) ?_
            refine JL.g (Gd.f1 rfl rfl rfl) (fun hc => OpP.q (p_neq (gvt rfl hc) (gvt rfl hc))) ?_
            refine JL.q (OpP.q (p_pickOr rfl rfl rfl)) ?_
            refine JL.q (OpP.q (p_move rfl)) ?_
            refine JL.g (Gd.f1 rfl rfl rfl) (fun hc => OpP.q (p_move rfl)) ?_
            refine JL.g (Gd.f1 rfl rfl rfl) (fun hc => OpP.q (p_move rfl)) ?_
            refine JL.g (Gd.f1 rfl rfl rfl) (fun hc => OpP.q (p_neq (gvt rfl hc) (gvt rfl hc))) ?_
            refine JL.q (OpP.q (p_pickOr rfl rfl rfl)) ?_
            refine JL.nil ?_
            refine Js.cond rfl (fun h55 => ?_) (fun h55 => ?_)
            ·
              exact absurd h55 (by simp only [decide_true, Bool.not_true, Bool.or_false, decide_eq_true_eq]; omega)
            ·
              have h55' := h55
              try simp only [Bool.or_eq_false_iff, decide_eq_false_iff_not, Int.not_lt, Bool.not_eq_false', decide_eq_true_eq] at h55'
              refine Js.skip ?_
              refine Js.seq ?_
              refine Js.region ?_
              refine JL.q (OpP.q (p_assign rfl)) ?_
              refine JL.nil ?_
              refine Js.seq ?_
              refine Js.region ?_
              refine JL.q (q_loadN ty_35 rfl (Mem.boxR (i := 8) rfl 0 17) rfl rfl) ?_
              refine JL.q (OpP.q (p_move rfl)) ?_
              refine JL.conv (fun _ h => h.front (i := 13) rfl) ?_
              refine JL.conv (fun _ h => h.front (i := 13) rfl) ?_
              refine JL.conv (fun _ h => h.front (i := 13) rfl) ?_
              refine JL.conv (fun _ h => h.front (i := 13) rfl) ?_
              refine JL.conv (fun _ h => h.front (i := 13) rfl) ?_
              refine JL.e (e_callB (bs := [rowO 2 1 (.slice A36 (((((M.playsR aG aMoves).1).start).pits).length) c36) (((((M.playsR aG aMoves).1).start).pits).length) (ints_ ((((M.playsR aG aMoves).1).start).pits)) [], rowO 2 1 (.slice A37 (((((M.playsR aG aMoves).1).start).stores).length) c37) (((((M.playsR aG aMoves).1).start).stores).length) (ints_ ((((M.playsR aG aMoves).1).start).stores)) [], rowO 2 1 (.slice A38 ((((M.playsR aG aMoves).1).moves).length) c38) ((((M.playsR aG aMoves).1).moves).length) (ints_ (((M.playsR aG aMoves).1).moves)) [], rowO 2 1 (.slice A39 (((((M.playsR aG aMoves).1).now).pits).length) c39) (((((M.playsR aG aMoves).1).now).pits).length) (ints_ ((((M.playsR aG aMoves).1).now).pits)) [], rowO 2 1 (.slice A40 (((((M.playsR aG aMoves).1).now).stores).length) c40) (((((M.playsR aG aMoves).1).now).stores).length) (ints_ ((((M.playsR aG aMoves).1).now).stores)) []]) (rest := [rowO 2 1 (.slice A31 aMoves.length c31) aMoves.length (ints_ (M.up (1 + M.szp aG.start + (aG.moves.length : Int) + M.szp aG.now) aMoves.length)) [], anyO G54, rowO 2 1 (.slice A23 aG.start.pits.length c23) aG.start.pits.length (ints_ ((M.markP aG.start 1).pits)) [], rowO 2 1 (.slice A24 aG.start.stores.length c24) aG.start.stores.length (ints_ ((M.markP aG.start 1).stores)) [], rowO 2 1 (.slice A25 aG.moves.length c25) aG.moves.length (ints_ (M.up (1 + M.szp aG.start) aG.moves.length)) [], rowO 2 1 (.slice A26 aG.now.pits.length c26) aG.now.pits.length (ints_ ((M.markP aG.now (1 + M.szp aG.start + (aG.moves.length : Int))).pits)) [], rowO 2 1 (.slice A27 aG.now.stores.length c27) aG.now.stores.length (ints_ ((M.markP aG.now (1 + M.szp aG.start + (aG.moves.length : Int))).stores)) [], anyO G53, boxO b41 [.int .i64 ((((M.playsR aG aMoves).1).rules).pits), .int .i64 ((((M.playsR aG aMoves).1).rules).seeds), .bool ((((M.playsR aG aMoves).1).rules).stores), .bool ((((M.playsR aG aMoves).1).rules).skip), .bool ((((M.playsR aG aMoves).1).rules).relay), .bool ((((M.playsR aG aMoves).1).rules).feed), .bool ((((M.playsR aG aMoves).1).rules).again), .int .i64 ((((M.playsR aG aMoves).1).rules).capture), .int .i64 ((((M.playsR aG aMoves).1).rules).slam), .slice A36 (((((M.playsR aG aMoves).1).start).pits).length) c36, .slice A37 (((((M.playsR aG aMoves).1).start).stores).length) c37, .int .i64 ((((M.playsR aG aMoves).1).start).player), .slice A38 ((((M.playsR aG aMoves).1).moves).length) c38, .slice A39 (((((M.playsR aG aMoves).1).now).pits).length) c39, .slice A40 (((((M.playsR aG aMoves).1).now).stores).length) c40, .int .i64 ((((M.playsR aG aMoves).1).now).player), .int .i64 (((M.playsR aG aMoves).1).resigned)] 35, boxO b28 [.int .i64 aG.rules.pits, .int .i64 aG.rules.seeds, .bool aG.rules.stores, .bool aG.rules.skip, .bool aG.rules.relay, .bool aG.rules.feed, .bool aG.rules.again, .int .i64 aG.rules.capture, .int .i64 aG.rules.slam, .slice A23 aG.start.pits.length c23, .slice A24 aG.start.stores.length c24, .int .i64 aG.start.player, .slice A25 aG.moves.length c25, .slice A26 aG.now.pits.length c26, .slice A27 aG.now.stores.length c27, .int .i64 aG.now.player, .int .i64 aG.resigned] 35, boxO b19 [.int .i64 ((((M.playsR aG aMoves).1).rules).pits), .int .i64 ((((M.playsR aG aMoves).1).rules).seeds), .bool ((((M.playsR aG aMoves).1).rules).stores), .bool ((((M.playsR aG aMoves).1).rules).skip), .bool ((((M.playsR aG aMoves).1).rules).relay), .bool ((((M.playsR aG aMoves).1).rules).feed), .bool ((((M.playsR aG aMoves).1).rules).again), .int .i64 ((((M.playsR aG aMoves).1).rules).capture), .int .i64 ((((M.playsR aG aMoves).1).rules).slam), .slice A18_9 (((((M.playsR aG aMoves).1).start).pits).length) c18_9, .slice A18_10 (((((M.playsR aG aMoves).1).start).stores).length) c18_10, .int .i64 ((((M.playsR aG aMoves).1).start).player), .slice A18_12 ((((M.playsR aG aMoves).1).moves).length) c18_12, .slice A18_13 (((((M.playsR aG aMoves).1).now).pits).length) c18_13, .slice A18_14 (((((M.playsR aG aMoves).1).now).stores).length) c18_14, .int .i64 ((((M.playsR aG aMoves).1).now).player), .int .i64 (((M.playsR aG aMoves).1).resigned)] 35, boxO b3 [.int .i64 aG.rules.pits, .int .i64 aG.rules.seeds, .bool aG.rules.stores, .bool aG.rules.skip, .bool aG.rules.relay, .bool aG.rules.feed, .bool aG.rules.again, .int .i64 aG.rules.capture, .int .i64 aG.rules.slam, .slice A1_9 aG.start.pits.length c1_9, .slice A1_10 aG.start.stores.length c1_10, .int .i64 aG.start.player, .slice A1_12 aG.moves.length c1_12, .slice A1_13 aG.now.pits.length c1_13, .slice A1_14 aG.now.stores.length c1_14, .int .i64 aG.now.player, .int .i64 aG.resigned] 28]) fn_25 rfl (fun w hb hw => c_laws_markGame (((M.playsR aG aMoves).1).rules) (((M.playsR aG aMoves).1).start) (((M.playsR aG aMoves).1).moves) (((M.playsR aG aMoves).1).now) (((M.playsR aG aMoves).1).resigned) A36 c36 [] A37 c37 [] A38 c38 [] A39 c39 [] A40 c40 [] 1 w hb (by omega) (by omega) (by omega) (by omega) (by omega) (by omega) (by omega) (by omega) (by omega) (by omega) (by omega) (by omega) (by omega) (by omega) (by omega) (by omega) (by omega)) rfl) ?_
              rintro _ _ _ ⟨_, G56, ⟨rfl, rfl⟩, rfl, rfl⟩ _
              refine JL.q (OpP.q (p_assign rfl)) ?_
              refine JL.nil ?_
              refine Js.seq ?_
              refine Js.region ?_
              refine JL.q (OpP.q (p_assign rfl)) ?_
              refine JL.nil ?_
              refine Js.seq ?_
              refine Js.region ?_
              refine JL.q (q_loadN ty_35 rfl (Mem.boxR (i := 14) rfl 0 17) rfl rfl) ?_
              refine JL.q (OpP.q (p_move rfl)) ?_
              refine JL.e (e_callV fn_37 rfl (fun w hw => c_laws_heldGame (M.Gam.mk (((M.playsR aG aMoves).1).rules) (M.Pos.mk ((M.markP (((M.playsR aG aMoves).1).start) 1).pits) ((M.markP (((M.playsR aG aMoves).1).start) 1).stores) ((((M.playsR aG aMoves).1).start).player)) (M.up (1 + M.szp (((M.playsR aG aMoves).1).start)) (((M.playsR aG aMoves).1).moves).length) (M.Pos.mk ((M.markP (((M.playsR aG aMoves).1).now) (1 + M.szp (((M.playsR aG aMoves).1).start) + ((((M.playsR aG aMoves).1).moves).length : Int))).pits) ((M.markP (((M.playsR aG aMoves).1).now) (1 + M.szp (((M.playsR aG aMoves).1).start) + ((((M.playsR aG aMoves).1).moves).length : Int))).stores) ((((M.playsR aG aMoves).1).now).player)) (((M.playsR aG aMoves).1).resigned)) _ 1 w ⟨_, rfl, ⟨rfl, rfl, rfl, rfl, rfl, rfl, rfl, rfl, rfl, (ints_rowok (xs := ((M.markP (((M.playsR aG aMoves).1).start) 1).pits)) (hw.pr (i := 0) rfl)), (ints_rowok (xs := ((M.markP (((M.playsR aG aMoves).1).start) 1).stores)) (hw.pr (i := 1) rfl)), rfl, (ints_rowok (xs := (M.up (1 + M.szp (((M.playsR aG aMoves).1).start)) (((M.playsR aG aMoves).1).moves).length)) (hw.pr (i := 2) rfl)), (ints_rowok (xs := ((M.markP (((M.playsR aG aMoves).1).now) (1 + M.szp (((M.playsR aG aMoves).1).start) + ((((M.playsR aG aMoves).1).moves).length : Int))).pits)) (hw.pr (i := 3) rfl)), (ints_rowok (xs := ((M.markP (((M.playsR aG aMoves).1).now) (1 + M.szp (((M.playsR aG aMoves).1).start) + ((((M.playsR aG aMoves).1).moves).length : Int))).stores)) (hw.pr (i := 4) rfl)), rfl, rfl, trivial⟩⟩ (by simp only [M.markP, M.up_length]; omega) (by simp only [M.markP, M.up_length]; omega) (by simp only [M.markP, M.up_length]; omega) (by simp only [M.markP, M.up_length]; omega) (by simp only [M.markP, M.up_length]; omega) (by omega) (by omega))) ?_
              rintro _ _ _ ⟨rfl, rfl, rfl⟩ _
              refine JL.q (OpP.q (p_assign rfl)) ?_
              refine JL.nil ?_
              refine Js.seq ?_
              refine Js.seq ?_
              refine Js.region ?_
              refine JL.q (OpP.q (p_move rfl)) ?_
              refine JL.q (OpP.q (p_lss rfl rfl)) ?_
              refine JL.nil ?_
              refine Js.cond rfl (fun h57 => ?_) (fun h57 => ?_)
              ·
                have h9 : decide (M.heldG (M.markG ((M.playsR aG aMoves).1) 1) 1 < 0) = true := h57; rw [M.heldG_mark ((M.playsR aG aMoves).1) (k := 1) (by decide)] at h9; simp only [decide_eq_true_eq] at h9; have h8 := M.szg_nn ((M.playsR aG aMoves).1); omega
              ·
                have h57' := h57
                try simp only [decide_eq_false_iff_not, Int.not_lt] at h57'
                refine Js.skip ?_
                refine Js.seq ?_
                refine Js.seq ?_
                refine Js.region ?_
                refine JL.q (OpP.q (p_move rfl)) ?_
                refine JL.q (OpP.q (p_move rfl)) ?_
                refine JL.q (OpP.q (p_neq rfl rfl)) ?_
                refine JL.nil ?_
                refine Js.cond rfl (fun h58 => ?_) (fun h58 => ?_)
                ·
                  have h9 : (!decide (M.heldG (M.markG ((M.playsR aG aMoves).1) 1) 1 = 1 + M.szp ((M.playsR aG aMoves).1).start + (((M.playsR aG aMoves).1).moves.length : Int) + M.szp ((M.playsR aG aMoves).1).now)) = true := h58; rw [M.heldG_mark ((M.playsR aG aMoves).1) (k := 1) (by decide)] at h9; simp [M.szg, Int.add_assoc] at h9
                ·
                  have h58' := h58
                  try simp only [Bool.not_eq_false', decide_eq_true_eq] at h58'
                  refine Js.skip ?_
                  refine Js.seq ?_
                  refine Js.region ?_
                  refine JL.q (q_loadN ty_28 rfl (Mem.boxR (i := 17) rfl 0 17) rfl rfl) ?_
                  refine JL.e (e_callP fn_19 rfl (fun w hw => c_laws_toGame aG _ w ⟨_, rfl, ⟨rfl, rfl, rfl, rfl, rfl, rfl, rfl, rfl, rfl, (Ty.mono _ h1_9 (((((x8.vis.trans x12.vis).trans x16.vis).trans x45.vis).trans x50.vis).trans hw.vis)), (Ty.mono _ h1_10 (((((x8.vis.trans x12.vis).trans x16.vis).trans x45.vis).trans x50.vis).trans hw.vis)), rfl, (Ty.mono _ h1_12 (((((x8.vis.trans x12.vis).trans x16.vis).trans x45.vis).trans x50.vis).trans hw.vis)), (Ty.mono _ h1_13 (((((x8.vis.trans x12.vis).trans x16.vis).trans x45.vis).trans x50.vis).trans hw.vis)), (Ty.mono _ h1_14 (((((x8.vis.trans x12.vis).trans x16.vis).trans x45.vis).trans x50.vis).trans hw.vis)), rfl, rfl, trivial⟩⟩ (by omega) (by omega) (by omega) (by omega) (by omega))) ?_
                  rintro v59 _ u61 ⟨h60, rfl⟩ x61
                  obtain ⟨A62_9, c62_9, A62_10, c62_10, A62_12, c62_12, A62_13, c62_13, A62_14, c62_14, rfl, h62_9, h62_10, h62_12, h62_13, h62_14, bl62_9, bh62_9, bl62_10, bh62_10, bl62_12, bh62_12, bl62_13, bh62_13, bl62_14, bh62_14⟩ := open_Game h60
                  refine JL.q (OpP.q (p_move rfl)) ?_
                  refine JL.e (e_callP fn_45 rfl (fun w hw => c_laws_toInt64S aMoves _ w (Ty.mono _ h_aMoves ((((((x8.vis.trans x12.vis).trans x16.vis).trans x45.vis).trans x50.vis).trans x61.vis).trans hw.vis)) (by omega))) ?_
                  rintro v63 _ u65 ⟨h64, rfl⟩ x65
                  obtain ⟨A66, c66, rfl, bl66, bh66⟩ := sl_form h64
                  refine JL.e (e_callP fn_46 rfl (fun w hw => c_impl_PlayMoves aG _ aMoves _ w ⟨_, rfl, ⟨rfl, rfl, rfl, rfl, rfl, rfl, rfl, rfl, rfl, (Ty.mono _ h62_9 (x65.vis.trans hw.vis)), (Ty.mono _ h62_10 (x65.vis.trans hw.vis)), rfl, (Ty.mono _ h62_12 (x65.vis.trans hw.vis)), (Ty.mono _ h62_13 (x65.vis.trans hw.vis)), (Ty.mono _ h62_14 (x65.vis.trans hw.vis)), rfl, rfl, trivial⟩⟩ (Ty.mono _ h64 hw.vis) (by omega) (by omega) (by omega) (by omega) (by omega) (by omega))) ?_
                  rintro v67 _ u69 ⟨h68, rfl⟩ x69
                  obtain ⟨vs70, rfl, hv70⟩ := h68
                  obtain ⟨v70_0, vs70, rfl, hw70_0, hv70⟩ := cellsOk_cons hv70
                  obtain ⟨v70_1, vs70, rfl, hw70_1, hv70⟩ := cellsOk_cons hv70
                  obtain ⟨v70_2, vs70, rfl, hw70_2, hv70⟩ := cellsOk_cons hv70
                  obtain rfl := cellsOk_nil hv70
                  obtain ⟨A71_9, c71_9, A71_10, c71_10, A71_12, c71_12, A71_13, c71_13, A71_14, c71_14, rfl, h71_9, h71_10, h71_12, h71_13, h71_14, bl71_9, bh71_9, bl71_10, bh71_10, bl71_12, bh71_12, bl71_13, bh71_13, bl71_14, bh71_14⟩ := open_Game hw70_0
                  obtain rfl : v70_1 = .int .i64 ((M.playsR aG aMoves).2.1 : Int) := hw70_1
                  obtain rfl : v70_2 = .int .i64 ((M.playsR aG aMoves).2.2) := hw70_2
                  refine JL.q (OpP.q (p_move rfl)) ?_
                  refine JL.q (OpP.q (p_extract rfl rfl)) ?_
                  refine JL.q (OpP.q (p_extract rfl rfl)) ?_
                  refine JL.q (OpP.q (p_extract rfl rfl)) ?_
                  refine JL.e (e_alloc zero_35) ?_
                  rintro _ _ _ ⟨b72, rfl, rfl, rfl⟩ _
                  refine JL.s (e_store (i := 0) (c' := [.int .i64 ((((M.playsR aG aMoves).1).rules).pits), .int .i64 ((((M.playsR aG aMoves).1).rules).seeds), .bool ((((M.playsR aG aMoves).1).rules).stores), .bool ((((M.playsR aG aMoves).1).rules).skip), .bool ((((M.playsR aG aMoves).1).rules).relay), .bool ((((M.playsR aG aMoves).1).rules).feed), .bool ((((M.playsR aG aMoves).1).rules).again), .int .i64 ((((M.playsR aG aMoves).1).rules).capture), .int .i64 ((((M.playsR aG aMoves).1).rules).slam), .slice A71_9 (((((M.playsR aG aMoves).1).start).pits).length) c71_9, .slice A71_10 (((((M.playsR aG aMoves).1).start).stores).length) c71_10, .int .i64 ((((M.playsR aG aMoves).1).start).player), .slice A71_12 ((((M.playsR aG aMoves).1).moves).length) c71_12, .slice A71_13 (((((M.playsR aG aMoves).1).now).pits).length) c71_13, .slice A71_14 (((((M.playsR aG aMoves).1).now).stores).length) c71_14, .int .i64 ((((M.playsR aG aMoves).1).now).player), .int .i64 (((M.playsR aG aMoves).1).resigned)]) ty_35 rfl rfl rfl rfl rfl rfl rfl rfl) ?_
                  rintro _ _ _ ⟨rfl, rfl⟩ _
                  refine JL.q (OpP.q (p_assign rfl)) ?_
                  refine JL.q (OpP.q (p_assign rfl)) ?_
                  refine JL.nil ?_
                  refine Js.seq ?_
                  refine Js.seq ?_
                  refine Js.region ?_
                  refine JL.q (q_loadN ty_35 rfl (Mem.boxR (i := 0) rfl 0 17) rfl rfl) ?_
                  refine JL.q (q_loadN ty_35 rfl (Mem.boxR (i := 17) rfl 0 17) rfl rfl) ?_
                  refine JL.e (e_callV fn_21 rfl (fun w hw => c_laws_eqGame ((M.playsR aG aMoves).1) _ ((M.playsR aG aMoves).1) _ w ⟨_, rfl, ⟨rfl, rfl, rfl, rfl, rfl, rfl, rfl, rfl, rfl, (Ty.mono _ h71_9 hw.vis), (Ty.mono _ h71_10 hw.vis), rfl, (Ty.mono _ h71_12 hw.vis), (Ty.mono _ h71_13 hw.vis), (Ty.mono _ h71_14 hw.vis), rfl, rfl, trivial⟩⟩ ⟨_, rfl, ⟨rfl, rfl, rfl, rfl, rfl, rfl, rfl, rfl, rfl, (Ty.mono _ h18_9 (((((x45.vis.trans x50.vis).trans x61.vis).trans x65.vis).trans x69.vis).trans hw.vis)), (Ty.mono _ h18_10 (((((x45.vis.trans x50.vis).trans x61.vis).trans x65.vis).trans x69.vis).trans hw.vis)), rfl, (Ty.mono _ h18_12 (((((x45.vis.trans x50.vis).trans x61.vis).trans x65.vis).trans x69.vis).trans hw.vis)), (Ty.mono _ h18_13 (((((x45.vis.trans x50.vis).trans x61.vis).trans x65.vis).trans x69.vis).trans hw.vis)), (Ty.mono _ h18_14 (((((x45.vis.trans x50.vis).trans x61.vis).trans x65.vis).trans x69.vis).trans hw.vis)), rfl, rfl, trivial⟩⟩ (by omega) (by omega) (by omega) (by omega) (by omega) (by omega) (by omega) (by omega) (by omega) (by omega))) ?_
                  rintro _ _ _ ⟨rfl, rfl, rfl⟩ _
                  refine JL.q (OpP.q (p_not rfl)) ?_
                  refine JL.q (OpP.q (p_move rfl)) ?_
                  refine JL.g (Gd.f1 rfl rfl rfl) (fun hc => OpP.q (p_move rfl)) ?_
                  refine JL.g (Gd.f1 rfl rfl rfl) (fun hc => OpP.q (p_move rfl)) ?_
                  refine JL.g (Gd.f1 rfl rfl rfl) (fun hc => OpP.q (p_neq (gvt rfl hc) (gvt rfl hc))) ?_
                  refine JL.q (OpP.q (p_pickOr rfl rfl rfl)) ?_
                  refine JL.q (OpP.q (p_move rfl)) ?_
                  refine JL.g (Gd.f1 rfl rfl rfl) (fun hc => OpP.q (p_move rfl)) ?_
                  refine JL.g (Gd.f1 rfl rfl rfl) (fun hc => OpP.q (p_move rfl)) ?_
                  refine JL.g (Gd.f1 rfl rfl rfl) (fun hc => OpP.q (p_neq (gvt rfl hc) (gvt rfl hc))) ?_
                  refine JL.q (OpP.q (p_pickOr rfl rfl rfl)) ?_
                  refine JL.nil ?_
                  refine Js.condF rfl h42 ?_
                  refine Js.skip ?_
                  refine Js.seq ?_
                  refine Js.region ?_
                  refine JL.q (OpP.q (p_assign rfl)) ?_
                  refine JL.nil ?_
                  refine Js.seq ?_
                  refine Js.region ?_
                  refine JL.q (q_loadN ty_35 rfl (Mem.boxR (i := 15) rfl 0 17) rfl rfl) ?_
                  refine JL.q (OpP.q (p_move rfl)) ?_
                  refine JL.e (e_callV fn_37 rfl (fun w hw => c_laws_heldGame (M.Gam.mk (((M.playsR aG aMoves).1).rules) (M.Pos.mk ((M.markP (((M.playsR aG aMoves).1).start) 1).pits) ((M.markP (((M.playsR aG aMoves).1).start) 1).stores) ((((M.playsR aG aMoves).1).start).player)) (M.up (1 + M.szp (((M.playsR aG aMoves).1).start)) (((M.playsR aG aMoves).1).moves).length) (M.Pos.mk ((M.markP (((M.playsR aG aMoves).1).now) (1 + M.szp (((M.playsR aG aMoves).1).start) + ((((M.playsR aG aMoves).1).moves).length : Int))).pits) ((M.markP (((M.playsR aG aMoves).1).now) (1 + M.szp (((M.playsR aG aMoves).1).start) + ((((M.playsR aG aMoves).1).moves).length : Int))).stores) ((((M.playsR aG aMoves).1).now).player)) (((M.playsR aG aMoves).1).resigned)) _ 1 w ⟨_, rfl, ⟨rfl, rfl, rfl, rfl, rfl, rfl, rfl, rfl, rfl, (ints_rowok (xs := ((M.markP (((M.playsR aG aMoves).1).start) 1).pits)) (hw.pr (i := 1) rfl)), (ints_rowok (xs := ((M.markP (((M.playsR aG aMoves).1).start) 1).stores)) (hw.pr (i := 2) rfl)), rfl, (ints_rowok (xs := (M.up (1 + M.szp (((M.playsR aG aMoves).1).start)) (((M.playsR aG aMoves).1).moves).length)) (hw.pr (i := 3) rfl)), (ints_rowok (xs := ((M.markP (((M.playsR aG aMoves).1).now) (1 + M.szp (((M.playsR aG aMoves).1).start) + ((((M.playsR aG aMoves).1).moves).length : Int))).pits)) (hw.pr (i := 4) rfl)), (ints_rowok (xs := ((M.markP (((M.playsR aG aMoves).1).now) (1 + M.szp (((M.playsR aG aMoves).1).start) + ((((M.playsR aG aMoves).1).moves).length : Int))).stores)) (hw.pr (i := 5) rfl)), rfl, rfl, trivial⟩⟩ (by simp only [M.markP, M.up_length]; omega) (by simp only [M.markP, M.up_length]; omega) (by simp only [M.markP, M.up_length]; omega) (by simp only [M.markP, M.up_length]; omega) (by simp only [M.markP, M.up_length]; omega) (by omega) (by omega))) ?_
                  rintro _ _ _ ⟨rfl, rfl, rfl⟩ _
                  refine JL.q (OpP.q (p_assign rfl)) ?_
                  refine JL.nil ?_
                  refine Js.seq ?_
                  refine Js.seq ?_
                  refine Js.region ?_
                  refine JL.q (OpP.q (p_move rfl)) ?_
                  refine JL.q (OpP.q (p_lss rfl rfl)) ?_
                  refine JL.nil ?_
                  refine Js.condF rfl h57 ?_
                  refine Js.skip ?_
                  refine Js.seq ?_
                  refine Js.seq ?_
                  refine Js.region ?_
                  refine JL.q (OpP.q (p_move rfl)) ?_
                  refine JL.q (OpP.q (p_move rfl)) ?_
                  refine JL.q (OpP.q (p_neq rfl rfl)) ?_
                  refine JL.nil ?_
                  refine Js.condF rfl h58 ?_
                  refine Js.skip ?_
                  refine Js.seq ?_
                  refine Js.region ?_
                  refine JL.q (OpP.q (p_assign rfl)) ?_
                  refine JL.nil ?_
                  refine Js.ret (R := RV w (.bool true)) @Try.results11 (fun _ _ => rfl) (ResOk.tmp rfl ResOk.nil) (fun w1 hw => ?_)
                  refine ⟨?_, hw.ext ((((((((x8.trans x12).trans x16).trans x45).trans x50).trans x61).trans x65).trans x69))⟩
                  first | rfl | (simp [outV]; done)

end Go.Proofs.Ytejnmechnhgmfaa

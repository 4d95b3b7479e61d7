/- Walks: L12. -/
import Derived.Test.YtejnmechnhgmfaaZaTy
import Derived.Test.YtejnmechnhgmfaaZaG12
import Derived.Test.YtejnmechnhgmfaaZaK11
import Derived.Test.YtejnmechnhgmfaaZaL3
import Derived.Test.YtejnmechnhgmfaaZaL17
import Derived.Test.YtejnmechnhgmfaaZaF13
import Derived.Test.YtejnmechnhgmfaaZaM8
set_option linter.unusedSimpArgs false
set_option linter.unusedVariables false
namespace Go.Proofs.Ytejnmechnhgmfaa
open Go.RowKit

set_option maxRecDepth 100000 in
set_option maxHeartbeats 8000000 in
theorem c_laws_FnExactUndoMove (aG : M.Gam) (v_aG : Value) (w : World) (h_aG : (Ty.agg (cGame aG)).ok w v_aG) : RetV Try.prog 8 [v_aG] w (.bool true) := by
  have q4 := M.szL_cases (aG.start.pits.length + aG.start.stores.length + aG.moves.length + aG.now.pits.length + aG.now.stores.length) 1048576
  change (1048576 < _ ∧ M.szG aG 1048576 = -1) ∨ (_ ≤ _ ∧ M.szG aG 1048576 = _) at q4
  have z1 := M.szp_nn aG.start
  have z2 := M.szp_nn aG.now
  obtain ⟨w1_, w2_, w3_, w4_, w5_⟩ := M.undo_small aG
  have z3 := M.szp_nn (M.undo aG).1.start
  have z4 := M.szp_nn (M.undo aG).1.now
  obtain ⟨A1_9, c1_9, A1_10, c1_10, A1_12, c1_12, A1_13, c1_13, A1_14, c1_14, rfl, h1_9, h1_10, h1_12, h1_13, h1_14, bl1_9, bh1_9, bl1_10, bh1_10, bl1_12, bh1_12, bl1_13, bh1_13, bl1_14, bh1_14⟩ := open_Game h_aG
  refine enter @Try.func8 @Try.ntmps8 rfl rfl ?_
  refine Js.seq ?_
  refine Js.region ?_
  refine JL.e (e_box (c := [.int .i64 aG.rules.pits, .int .i64 aG.rules.seeds, .bool aG.rules.stores, .bool aG.rules.skip, .bool aG.rules.relay, .bool aG.rules.feed, .bool aG.rules.again, .int .i64 aG.rules.capture, .int .i64 aG.rules.slam, .slice A1_9 aG.start.pits.length c1_9, .slice A1_10 aG.start.stores.length c1_10, .int .i64 aG.start.player, .slice A1_12 aG.moves.length c1_12, .slice A1_13 aG.now.pits.length c1_13, .slice A1_14 aG.now.stores.length c1_14, .int .i64 aG.now.player, .int .i64 aG.resigned]) rfl rfl) ?_
  rintro _ _ _ ⟨b2, rfl, rfl, rfl⟩ _
  refine JL.q (OpP.q (p_assign rfl)) ?_
  refine JL.nil ?_
  refine Js.seq ?_
  refine Js.region ?_
  refine JL.q (OpP.q (p_assign rfl)) ?_
  refine JL.nil ?_
  refine Js.seq ?_
  refine Js.region ?_
  refine JL.q (q_loadN ty_28 rfl (Mem.boxR (i := 0) rfl 0 17) rfl rfl) ?_
  refine JL.q (OpP.q (p_move rfl)) ?_
  refine JL.e (e_callV fn_17 rfl (fun w hw => c_laws_szGame aG _ 1048576 w ⟨_, rfl, ⟨rfl, rfl, rfl, rfl, rfl, rfl, rfl, rfl, rfl, (Ty.mono _ h1_9 hw.vis), (Ty.mono _ h1_10 hw.vis), rfl, (Ty.mono _ h1_12 hw.vis), (Ty.mono _ h1_13 hw.vis), (Ty.mono _ h1_14 hw.vis), rfl, rfl, trivial⟩⟩ (by omega) (by omega))) ?_
  rintro _ _ _ ⟨rfl, rfl, rfl⟩ _
  refine JL.q (OpP.q (p_assign rfl)) ?_
  refine JL.nil ?_
  refine Js.seq ?_
  refine Js.seq ?_
  refine Js.region ?_
  refine JL.q (OpP.q (p_move rfl)) ?_
  refine JL.q (OpP.q (p_lss rfl rfl)) ?_
  refine JL.nil ?_
  refine Js.cond rfl (fun h3 => ?_) (fun h3 => ?_)
  ·
    have h3' := h3
    try simp only [decide_eq_true_eq] at h3'
    refine Js.seq ?_
    refine Js.region ?_
    refine JL.q (OpP.q (p_assign rfl)) ?_
    refine JL.nil ?_
    refine Js.ret (R := RV w (.bool true)) @Try.results8 (fun _ _ => rfl) (ResOk.tmp rfl ResOk.nil) (fun w1 hw => ?_)
    refine ⟨?_, hw.ext (Up.refl _ _)⟩
    first | rfl | (simp [outV]; done)
  ·
    have h3' := h3
    try simp only [decide_eq_false_iff_not, Int.not_lt] at h3'
    refine Js.skip ?_
    refine Js.seq ?_
    refine Js.region ?_
    refine JL.q (q_loadN ty_28 rfl (Mem.boxR (i := 0) rfl 0 17) rfl rfl) ?_
    refine JL.e (e_callP fn_19 rfl (fun w hw => c_laws_toGame aG _ w ⟨_, rfl, ⟨rfl, rfl, rfl, rfl, rfl, rfl, rfl, rfl, rfl, (Ty.mono _ h1_9 hw.vis), (Ty.mono _ h1_10 hw.vis), rfl, (Ty.mono _ h1_12 hw.vis), (Ty.mono _ h1_13 hw.vis), (Ty.mono _ h1_14 hw.vis), rfl, rfl, trivial⟩⟩ (by omega) (by omega) (by omega) (by omega) (by omega))) ?_
    rintro v4 _ u6 ⟨h5, rfl⟩ x6
    obtain ⟨A7_9, c7_9, A7_10, c7_10, A7_12, c7_12, A7_13, c7_13, A7_14, c7_14, rfl, h7_9, h7_10, h7_12, h7_13, h7_14, bl7_9, bh7_9, bl7_10, bh7_10, bl7_12, bh7_12, bl7_13, bh7_13, bl7_14, bh7_14⟩ := open_Game h5
    refine JL.e (e_callP fn_38 rfl (fun w hw => c_spec_UndoMove aG _ w ⟨_, rfl, ⟨rfl, rfl, rfl, rfl, rfl, rfl, rfl, rfl, rfl, (Ty.mono _ h7_9 hw.vis), (Ty.mono _ h7_10 hw.vis), rfl, (Ty.mono _ h7_12 hw.vis), (Ty.mono _ h7_13 hw.vis), (Ty.mono _ h7_14 hw.vis), rfl, rfl, trivial⟩⟩ (by omega) (by omega) (by omega) (by omega) (by omega))) ?_
    rintro v8 _ u10 ⟨h9, rfl⟩ x10
    obtain ⟨vs11, rfl, hv11⟩ := h9
    obtain ⟨v11_0, vs11, rfl, hw11_0, hv11⟩ := cellsOk_cons hv11
    obtain ⟨v11_1, vs11, rfl, hw11_1, hv11⟩ := cellsOk_cons hv11
    obtain rfl := cellsOk_nil hv11
    obtain ⟨A12_9, c12_9, A12_10, c12_10, A12_12, c12_12, A12_13, c12_13, A12_14, c12_14, rfl, h12_9, h12_10, h12_12, h12_13, h12_14, bl12_9, bh12_9, bl12_10, bh12_10, bl12_12, bh12_12, bl12_13, bh12_13, bl12_14, bh12_14⟩ := open_Game hw11_0
    obtain rfl : v11_1 = .int .i64 ((M.undo aG).2) := hw11_1
    refine JL.q (OpP.q (p_move rfl)) ?_
    refine JL.q (OpP.q (p_extract rfl rfl)) ?_
    refine JL.q (OpP.q (p_extract rfl rfl)) ?_
    refine JL.e (e_alloc zero_35) ?_
    rintro _ _ _ ⟨b13, rfl, rfl, rfl⟩ _
    refine JL.s (e_store (i := 0) (c' := [.int .i64 ((((M.undo aG).1).rules).pits), .int .i64 ((((M.undo aG).1).rules).seeds), .bool ((((M.undo aG).1).rules).stores), .bool ((((M.undo aG).1).rules).skip), .bool ((((M.undo aG).1).rules).relay), .bool ((((M.undo aG).1).rules).feed), .bool ((((M.undo aG).1).rules).again), .int .i64 ((((M.undo aG).1).rules).capture), .int .i64 ((((M.undo aG).1).rules).slam), .slice A12_9 (((((M.undo aG).1).start).pits).length) c12_9, .slice A12_10 (((((M.undo aG).1).start).stores).length) c12_10, .int .i64 ((((M.undo aG).1).start).player), .slice A12_12 ((((M.undo aG).1).moves).length) c12_12, .slice A12_13 (((((M.undo aG).1).now).pits).length) c12_13, .slice A12_14 (((((M.undo aG).1).now).stores).length) c12_14, .int .i64 ((((M.undo aG).1).now).player), .int .i64 (((M.undo aG).1).resigned)]) ty_35 rfl rfl rfl rfl rfl rfl rfl rfl) ?_
    rintro _ _ _ ⟨rfl, rfl⟩ _
    refine JL.q (OpP.q (p_assign rfl)) ?_
    refine JL.nil ?_
    refine Js.seq ?_
    refine Js.region ?_
    refine JL.q (q_loadN ty_28 rfl (Mem.boxR (i := 1) rfl 0 17) rfl rfl) ?_
    refine JL.e (e_callO fn_19 rfl (Spl.agg (Spls.cons (Spl.val _) (Spls.cons (Spl.val _) (Spls.cons (Spl.val _) (Spls.cons (Spl.val _) (Spls.cons (Spl.val _) (Spls.cons (Spl.val _) (Spls.cons (Spl.val _) (Spls.cons (Spl.val _) (Spls.cons (Spl.val _) (Spls.cons (Spl.ints _ _) (Spls.cons (Spl.ints _ _) (Spls.cons (Spl.val _) (Spls.cons (Spl.ints _ _) (Spls.cons (Spl.ints _ _) (Spls.cons (Spl.ints _ _) (Spls.cons (Spl.val _) (Spls.cons (Spl.val _) Spls.nil)))))))))))))))))) (fun w hw => c_laws_toGame aG _ w ⟨_, rfl, ⟨rfl, rfl, rfl, rfl, rfl, rfl, rfl, rfl, rfl, (Ty.mono _ h1_9 ((x6.vis.trans x10.vis).trans hw.vis)), (Ty.mono _ h1_10 ((x6.vis.trans x10.vis).trans hw.vis)), rfl, (Ty.mono _ h1_12 ((x6.vis.trans x10.vis).trans hw.vis)), (Ty.mono _ h1_13 ((x6.vis.trans x10.vis).trans hw.vis)), (Ty.mono _ h1_14 ((x6.vis.trans x10.vis).trans hw.vis)), rfl, rfl, trivial⟩⟩ (by omega) (by omega) (by omega) (by omega) (by omega))) ?_
    rintro v14 _ _ ⟨_, hR15, rfl, rfl⟩ _
    obtain ⟨vs16, rfl, hr16⟩ := hR15
    obtain ⟨v16_0, vs16_0, o16_0, ow16_0, rfl, hR16_0, hs16_0, rfl⟩ := RL_cons hr16
    obtain ⟨v16_1, vs16_1, o16_1, ow16_1, rfl, hR16_1, hs16_1, rfl⟩ := RL_cons hs16_0
    obtain ⟨v16_2, vs16_2, o16_2, ow16_2, rfl, hR16_2, hs16_2, rfl⟩ := RL_cons hs16_1
    obtain ⟨v16_3, vs16_3, o16_3, ow16_3, rfl, hR16_3, hs16_3, rfl⟩ := RL_cons hs16_2
    obtain ⟨v16_4, vs16_4, o16_4, ow16_4, rfl, hR16_4, hs16_4, rfl⟩ := RL_cons hs16_3
    obtain ⟨v16_5, vs16_5, o16_5, ow16_5, rfl, hR16_5, hs16_5, rfl⟩ := RL_cons hs16_4
    obtain ⟨v16_6, vs16_6, o16_6, ow16_6, rfl, hR16_6, hs16_6, rfl⟩ := RL_cons hs16_5
    obtain ⟨v16_7, vs16_7, o16_7, ow16_7, rfl, hR16_7, hs16_7, rfl⟩ := RL_cons hs16_6
    obtain ⟨v16_8, vs16_8, o16_8, ow16_8, rfl, hR16_8, hs16_8, rfl⟩ := RL_cons hs16_7
    obtain ⟨v16_9, vs16_9, o16_9, ow16_9, rfl, hR16_9, hs16_9, rfl⟩ := RL_cons hs16_8
    obtain ⟨v16_10, vs16_10, o16_10, ow16_10, rfl, hR16_10, hs16_10, rfl⟩ := RL_cons hs16_9
    obtain ⟨v16_11, vs16_11, o16_11, ow16_11, rfl, hR16_11, hs16_11, rfl⟩ := RL_cons hs16_10
    obtain ⟨v16_12, vs16_12, o16_12, ow16_12, rfl, hR16_12, hs16_12, rfl⟩ := RL_cons hs16_11
    obtain ⟨v16_13, vs16_13, o16_13, ow16_13, rfl, hR16_13, hs16_13, rfl⟩ := RL_cons hs16_12
    obtain ⟨v16_14, vs16_14, o16_14, ow16_14, rfl, hR16_14, hs16_14, rfl⟩ := RL_cons hs16_13
    obtain ⟨v16_15, vs16_15, o16_15, ow16_15, rfl, hR16_15, hs16_15, rfl⟩ := RL_cons hs16_14
    obtain ⟨v16_16, vs16_16, o16_16, ow16_16, rfl, hR16_16, hs16_16, rfl⟩ := RL_cons hs16_15
    obtain ⟨rfl, rfl⟩ := RL_nil hs16_16
    obtain ⟨rfl, rfl⟩ : v16_0 = .int .i64 aG.rules.pits ∧ _ := hR16_0
    obtain ⟨rfl, rfl⟩ : v16_1 = .int .i64 aG.rules.seeds ∧ _ := hR16_1
    obtain ⟨rfl, rfl⟩ : v16_2 = .bool aG.rules.stores ∧ _ := hR16_2
    obtain ⟨rfl, rfl⟩ : v16_3 = .bool aG.rules.skip ∧ _ := hR16_3
    obtain ⟨rfl, rfl⟩ : v16_4 = .bool aG.rules.relay ∧ _ := hR16_4
    obtain ⟨rfl, rfl⟩ : v16_5 = .bool aG.rules.feed ∧ _ := hR16_5
    obtain ⟨rfl, rfl⟩ : v16_6 = .bool aG.rules.again ∧ _ := hR16_6
    obtain ⟨rfl, rfl⟩ : v16_7 = .int .i64 aG.rules.capture ∧ _ := hR16_7
    obtain ⟨rfl, rfl⟩ : v16_8 = .int .i64 aG.rules.slam ∧ _ := hR16_8
    obtain ⟨A17, c17, rfl, rfl, bl17, bh17⟩ := hR16_9
    obtain ⟨A18, c18, rfl, rfl, bl18, bh18⟩ := hR16_10
    obtain ⟨rfl, rfl⟩ : v16_11 = .int .i64 aG.start.player ∧ _ := hR16_11
    obtain ⟨A19, c19, rfl, rfl, bl19, bh19⟩ := hR16_12
    obtain ⟨A20, c20, rfl, rfl, bl20, bh20⟩ := hR16_13
    obtain ⟨A21, c21, rfl, rfl, bl21, bh21⟩ := hR16_14
    obtain ⟨rfl, rfl⟩ : v16_15 = .int .i64 aG.now.player ∧ _ := hR16_15
    obtain ⟨rfl, rfl⟩ : v16_16 = .int .i64 aG.resigned ∧ _ := hR16_16
    refine JL.e (e_alloc zero_35) ?_
    rintro _ _ _ ⟨b22, rfl, rfl, rfl⟩ _
    refine JL.s (e_store (i := 0) (c' := [.int .i64 aG.rules.pits, .int .i64 aG.rules.seeds, .bool aG.rules.stores, .bool aG.rules.skip, .bool aG.rules.relay, .bool aG.rules.feed, .bool aG.rules.again, .int .i64 aG.rules.capture, .int .i64 aG.rules.slam, .slice A17 aG.start.pits.length c17, .slice A18 aG.start.stores.length c18, .int .i64 aG.start.player, .slice A19 aG.moves.length c19, .slice A20 aG.now.pits.length c20, .slice A21 aG.now.stores.length c21, .int .i64 aG.now.player, .int .i64 aG.resigned]) ty_35 rfl rfl rfl rfl rfl rfl rfl rfl) ?_
    rintro _ _ _ ⟨rfl, rfl⟩ _
    refine JL.nil ?_
    refine Js.seq ?_
    refine Js.region ?_
    refine JL.q (q_loadN ty_35 rfl (Mem.boxR (i := 0) rfl 0 17) rfl rfl) ?_
    refine JL.e (e_callO fn_39 rfl (Spl.tup (Spls.cons (Spl.agg (Spls.cons (Spl.val _) (Spls.cons (Spl.val _) (Spls.cons (Spl.val _) (Spls.cons (Spl.val _) (Spls.cons (Spl.val _) (Spls.cons (Spl.val _) (Spls.cons (Spl.val _) (Spls.cons (Spl.val _) (Spls.cons (Spl.val _) (Spls.cons (Spl.ints _ _) (Spls.cons (Spl.ints _ _) (Spls.cons (Spl.val _) (Spls.cons (Spl.ro _ _) (Spls.cons (Spl.ints _ _) (Spls.cons (Spl.ints _ _) (Spls.cons (Spl.val _) (Spls.cons (Spl.val _) Spls.nil)))))))))))))))))) (Spls.cons (Spl.val _) Spls.nil))) (fun w hw => c_impl_UndoMove aG _ w ⟨_, rfl, ⟨rfl, rfl, rfl, rfl, rfl, rfl, rfl, rfl, rfl, (ints_rowok (xs := aG.start.pits) (hw.pr (i := 1) rfl)), (ints_rowok (xs := aG.start.stores) (hw.pr (i := 2) rfl)), rfl, (ints_rowok (xs := aG.moves) (hw.pr (i := 3) rfl)), (ints_rowok (xs := aG.now.pits) (hw.pr (i := 4) rfl)), (ints_rowok (xs := aG.now.stores) (hw.pr (i := 5) rfl)), rfl, rfl, trivial⟩⟩ (by omega) (by omega) (by omega) (by omega) (by omega))) ?_
    rintro v23 _ _ ⟨_, hR24, rfl, rfl⟩ _
    obtain ⟨vs25, rfl, hr25⟩ := hR24
    obtain ⟨v25_0, vs25_0, o25_0, ow25_0, rfl, hR25_0, hs25_0, rfl⟩ := RL_cons hr25
    obtain ⟨v25_1, vs25_1, o25_1, ow25_1, rfl, hR25_1, hs25_1, rfl⟩ := RL_cons hs25_0
    obtain ⟨rfl, rfl⟩ := RL_nil hs25_1
    obtain ⟨vs26, rfl, hr26⟩ := hR25_0
    obtain ⟨v26_0, vs26_0, o26_0, ow26_0, rfl, hR26_0, hs26_0, rfl⟩ := RL_cons hr26
    obtain ⟨v26_1, vs26_1, o26_1, ow26_1, rfl, hR26_1, hs26_1, rfl⟩ := RL_cons hs26_0
    obtain ⟨v26_2, vs26_2, o26_2, ow26_2, rfl, hR26_2, hs26_2, rfl⟩ := RL_cons hs26_1
    obtain ⟨v26_3, vs26_3, o26_3, ow26_3, rfl, hR26_3, hs26_3, rfl⟩ := RL_cons hs26_2
    obtain ⟨v26_4, vs26_4, o26_4, ow26_4, rfl, hR26_4, hs26_4, rfl⟩ := RL_cons hs26_3
    obtain ⟨v26_5, vs26_5, o26_5, ow26_5, rfl, hR26_5, hs26_5, rfl⟩ := RL_cons hs26_4
    obtain ⟨v26_6, vs26_6, o26_6, ow26_6, rfl, hR26_6, hs26_6, rfl⟩ := RL_cons hs26_5
    obtain ⟨v26_7, vs26_7, o26_7, ow26_7, rfl, hR26_7, hs26_7, rfl⟩ := RL_cons hs26_6
    obtain ⟨v26_8, vs26_8, o26_8, ow26_8, rfl, hR26_8, hs26_8, rfl⟩ := RL_cons hs26_7
    obtain ⟨v26_9, vs26_9, o26_9, ow26_9, rfl, hR26_9, hs26_9, rfl⟩ := RL_cons hs26_8
    obtain ⟨v26_10, vs26_10, o26_10, ow26_10, rfl, hR26_10, hs26_10, rfl⟩ := RL_cons hs26_9
    obtain ⟨v26_11, vs26_11, o26_11, ow26_11, rfl, hR26_11, hs26_11, rfl⟩ := RL_cons hs26_10
    obtain ⟨v26_12, vs26_12, o26_12, ow26_12, rfl, hR26_12, hs26_12, rfl⟩ := RL_cons hs26_11
    obtain ⟨v26_13, vs26_13, o26_13, ow26_13, rfl, hR26_13, hs26_13, rfl⟩ := RL_cons hs26_12
    obtain ⟨v26_14, vs26_14, o26_14, ow26_14, rfl, hR26_14, hs26_14, rfl⟩ := RL_cons hs26_13
    obtain ⟨v26_15, vs26_15, o26_15, ow26_15, rfl, hR26_15, hs26_15, rfl⟩ := RL_cons hs26_14
    obtain ⟨v26_16, vs26_16, o26_16, ow26_16, rfl, hR26_16, hs26_16, rfl⟩ := RL_cons hs26_15
    obtain ⟨rfl, rfl⟩ := RL_nil hs26_16
    obtain ⟨rfl, rfl⟩ : v26_0 = .int .i64 ((((M.undo aG).1).rules).pits) ∧ _ := hR26_0
    obtain ⟨rfl, rfl⟩ : v26_1 = .int .i64 ((((M.undo aG).1).rules).seeds) ∧ _ := hR26_1
    obtain ⟨rfl, rfl⟩ : v26_2 = .bool ((((M.undo aG).1).rules).stores) ∧ _ := hR26_2
    obtain ⟨rfl, rfl⟩ : v26_3 = .bool ((((M.undo aG).1).rules).skip) ∧ _ := hR26_3
    obtain ⟨rfl, rfl⟩ : v26_4 = .bool ((((M.undo aG).1).rules).relay) ∧ _ := hR26_4
    obtain ⟨rfl, rfl⟩ : v26_5 = .bool ((((M.undo aG).1).rules).feed) ∧ _ := hR26_5
    obtain ⟨rfl, rfl⟩ : v26_6 = .bool ((((M.undo aG).1).rules).again) ∧ _ := hR26_6
    obtain ⟨rfl, rfl⟩ : v26_7 = .int .i64 ((((M.undo aG).1).rules).capture) ∧ _ := hR26_7
    obtain ⟨rfl, rfl⟩ : v26_8 = .int .i64 ((((M.undo aG).1).rules).slam) ∧ _ := hR26_8
    obtain ⟨A27, c27, rfl, rfl, bl27, bh27⟩ := hR26_9
    obtain ⟨A28, c28, rfl, rfl, bl28, bh28⟩ := hR26_10
    obtain ⟨rfl, rfl⟩ : v26_11 = .int .i64 ((((M.undo aG).1).start).player) ∧ _ := hR26_11
    obtain ⟨A29, c29, rfl, rfl, bl29, bh29⟩ := hR26_12
    obtain ⟨A30, c30, rfl, rfl, bl30, bh30⟩ := hR26_13
    obtain ⟨A31, c31, rfl, rfl, bl31, bh31⟩ := hR26_14
    obtain ⟨rfl, rfl⟩ : v26_15 = .int .i64 ((((M.undo aG).1).now).player) ∧ _ := hR26_15
    obtain ⟨rfl, rfl⟩ : v26_16 = .int .i64 (((M.undo aG).1).resigned) ∧ _ := hR26_16
    obtain ⟨rfl, rfl⟩ : v25_1 = .int .i64 ((M.undo aG).2) ∧ _ := hR25_1
    refine JL.q (OpP.q (p_move rfl)) ?_
    refine JL.q (OpP.q (p_extract rfl rfl)) ?_
    refine JL.q (OpP.q (p_extract rfl rfl)) ?_
    refine JL.e (e_alloc zero_35) ?_
    rintro _ _ _ ⟨b32, rfl, rfl, rfl⟩ _
    refine JL.s (e_store (i := 0) (c' := [.int .i64 ((((M.undo aG).1).rules).pits), .int .i64 ((((M.undo aG).1).rules).seeds), .bool ((((M.undo aG).1).rules).stores), .bool ((((M.undo aG).1).rules).skip), .bool ((((M.undo aG).1).rules).relay), .bool ((((M.undo aG).1).rules).feed), .bool ((((M.undo aG).1).rules).again), .int .i64 ((((M.undo aG).1).rules).capture), .int .i64 ((((M.undo aG).1).rules).slam), .slice A27 (((((M.undo aG).1).start).pits).length) c27, .slice A28 (((((M.undo aG).1).start).stores).length) c28, .int .i64 ((((M.undo aG).1).start).player), .slice A29 ((((M.undo aG).1).moves).length) c29, .slice A30 (((((M.undo aG).1).now).pits).length) c30, .slice A31 (((((M.undo aG).1).now).stores).length) c31, .int .i64 ((((M.undo aG).1).now).player), .int .i64 (((M.undo aG).1).resigned)]) ty_35 rfl rfl rfl rfl rfl rfl rfl rfl) ?_
    rintro _ _ _ ⟨rfl, rfl⟩ _
    refine JL.q (OpP.q (p_assign rfl)) ?_
    refine JL.nil ?_
    refine Js.seq ?_
    refine Js.seq ?_
    refine Js.region ?_
    refine JL.q (q_loadN ty_35 rfl (Mem.boxR (i := 0) rfl 0 17) rfl rfl) ?_
    refine JL.q (q_loadN ty_35 rfl (Mem.boxR (i := 12) rfl 0 17) rfl rfl) ?_
    refine JL.e (e_callV fn_21 rfl (fun w hw => c_laws_eqGame ((M.undo aG).1) _ ((M.undo aG).1) _ w ⟨_, rfl, ⟨rfl, rfl, rfl, rfl, rfl, rfl, rfl, rfl, rfl, (ints_rowok (xs := ((((M.undo aG).1).start).pits)) (hw.pr (i := 1) rfl)), (ints_rowok (xs := ((((M.undo aG).1).start).stores)) (hw.pr (i := 2) rfl)), rfl, (ints_rook (xs := (((M.undo aG).1).moves)) (hw.pr (i := 3) rfl)), (ints_rowok (xs := ((((M.undo aG).1).now).pits)) (hw.pr (i := 4) rfl)), (ints_rowok (xs := ((((M.undo aG).1).now).stores)) (hw.pr (i := 5) rfl)), rfl, rfl, trivial⟩⟩ ⟨_, rfl, ⟨rfl, rfl, rfl, rfl, rfl, rfl, rfl, rfl, rfl, (Ty.mono _ h12_9 hw.vis), (Ty.mono _ h12_10 hw.vis), rfl, (Ty.mono _ h12_12 hw.vis), (Ty.mono _ h12_13 hw.vis), (Ty.mono _ h12_14 hw.vis), rfl, rfl, trivial⟩⟩ (by omega) (by omega) (by omega) (by omega) (by omega) (by omega) (by omega) (by omega) (by omega) (by omega))) ?_
    rintro _ _ _ ⟨rfl, rfl, rfl⟩ _
    refine JL.q (OpP.q (p_not rfl)) ?_
    refine JL.q (OpP.q (p_move rfl)) ?_
    refine JL.g (Gd.f1 rfl rfl rfl) (fun hc => OpP.q (p_move rfl)) ?_
    refine JL.g (Gd.f1 rfl rfl rfl) (fun hc => OpP.q (p_move rfl)) ?_
    refine JL.g (Gd.f1 rfl rfl rfl) (fun hc => OpP.q (p_neq (gvt rfl hc) (gvt rfl hc))) ?_
    refine JL.q (OpP.q (p_pickOr rfl rfl rfl)) ?_
    refine JL.nil ?_
    refine Js.cond rfl (fun h33 => ?_) (fun h33 => ?_)
    ·
      exact absurd h33 (by simp)
    ·
      have h33' := h33
      try simp only [Bool.or_eq_false_iff, Bool.not_eq_false', decide_eq_true_eq] at h33'
      refine Js.skip ?_
      refine Js.seq ?_
      refine Js.seq ?_
      refine Js.drawn _ [] mixed_ (fun _ h => h) ?_
      refine JH.q 0 rfl (q_loadN ty_35 rfl (Mem.boxR (i := 6) rfl 0 17) rfl rfl) ?_
      refine JH.q 1 rfl (q_loadN ty_28 rfl (Mem.boxR (i := 13) rfl 0 17) rfl rfl) ?_
      refine JH.one (i := 2) (by kernel_rfl) ?_
      refine JHo.e rfl (e_callP fn_19 rfl (fun w hw => c_laws_toGame aG _ w ⟨_, rfl, ⟨rfl, rfl, rfl, rfl, rfl, rfl, rfl, rfl, rfl, (Ty.mono _ h1_9 ((x6.vis.trans x10.vis).trans hw.vis)), (Ty.mono _ h1_10 ((x6.vis.trans x10.vis).trans hw.vis)), rfl, (Ty.mono _ h1_12 ((x6.vis.trans x10.vis).trans hw.vis)), (Ty.mono _ h1_13 ((x6.vis.trans x10.vis).trans hw.vis)), (Ty.mono _ h1_14 ((x6.vis.trans x10.vis).trans hw.vis)), rfl, rfl, trivial⟩⟩ (by omega) (by omega) (by omega) (by omega) (by omega))) (.inl rfl) ?_
      rintro v34 _ u36 ⟨h35, rfl⟩ x36
      obtain ⟨A37_9, c37_9, A37_10, c37_10, A37_12, c37_12, A37_13, c37_13, A37_14, c37_14, rfl, h37_9, h37_10, h37_12, h37_13, h37_14, bl37_9, bh37_9, bl37_10, bh37_10, bl37_12, bh37_12, bl37_13, bh37_13, bl37_14, bh37_14⟩ := open_Game h35
      refine JH.one (i := 3) (by kernel_rfl) ?_
      refine JHo.e rfl (e_callV fn_21 rfl (fun w hw => c_laws_eqGame aG _ aG _ w ⟨_, rfl, ⟨rfl, rfl, rfl, rfl, rfl, rfl, rfl, rfl, rfl, (ints_rowok (xs := aG.start.pits) (hw.pr (i := 7) rfl)), (ints_rowok (xs := aG.start.stores) (hw.pr (i := 8) rfl)), rfl, (ints_rowok (xs := aG.moves) (hw.pr (i := 9) rfl)), (ints_rowok (xs := aG.now.pits) (hw.pr (i := 10) rfl)), (ints_rowok (xs := aG.now.stores) (hw.pr (i := 11) rfl)), rfl, rfl, trivial⟩⟩ ⟨_, rfl, ⟨rfl, rfl, rfl, rfl, rfl, rfl, rfl, rfl, rfl, (Ty.mono _ h37_9 hw.vis), (Ty.mono _ h37_10 hw.vis), rfl, (Ty.mono _ h37_12 hw.vis), (Ty.mono _ h37_13 hw.vis), (Ty.mono _ h37_14 hw.vis), rfl, rfl, trivial⟩⟩ (by omega) (by omega) (by omega) (by omega) (by omega) (by omega) (by omega) (by omega) (by omega) (by omega))) (.inl rfl) ?_
      rintro _ _ _ ⟨rfl, rfl, rfl⟩ _
      refine JH.p 4 rfl (p_not rfl) ?_
      refine JH.done (by kernel_rfl) ?_
      refine Js.cond rfl (fun h38 => ?_) (fun h38 => ?_)
      ·
        exact absurd h38 (by simp)
      ·
        have h38' := h38
        try simp only [Bool.not_eq_false', decide_eq_true_eq] at h38'
        refine Js.skip ?_
        refine Js.seq ?_
        refine Js.region ?_
        refine JL.q (OpP.q (p_assign rfl)) ?_
        refine JL.nil ?_
        refine Js.seq ?_
        refine Js.region ?_
        refine JL.q (q_loadN ty_35 rfl (Mem.boxR (i := 6) rfl 0 17) rfl rfl) ?_
        refine JL.q (OpP.q (p_move rfl)) ?_
        refine JL.conv (fun _ h => h.front (i := 11) rfl) ?_
        refine JL.conv (fun _ h => h.front (i := 11) rfl) ?_
        refine JL.conv (fun _ h => h.front (i := 11) rfl) ?_
        refine JL.conv (fun _ h => h.front (i := 11) rfl) ?_
        refine JL.conv (fun _ h => h.front (i := 11) rfl) ?_
        refine JL.e (e_callB (bs := [rowO 2 1 (.slice A17 aG.start.pits.length c17) aG.start.pits.length (ints_ aG.start.pits) [], rowO 2 1 (.slice A18 aG.start.stores.length c18) aG.start.stores.length (ints_ aG.start.stores) [], rowO 2 1 (.slice A19 aG.moves.length c19) aG.moves.length (ints_ aG.moves) [], rowO 2 1 (.slice A20 aG.now.pits.length c20) aG.now.pits.length (ints_ aG.now.pits) [], rowO 2 1 (.slice A21 aG.now.stores.length c21) aG.now.stores.length (ints_ aG.now.stores) []]) (rest := [boxO b32 [.int .i64 ((((M.undo aG).1).rules).pits), .int .i64 ((((M.undo aG).1).rules).seeds), .bool ((((M.undo aG).1).rules).stores), .bool ((((M.undo aG).1).rules).skip), .bool ((((M.undo aG).1).rules).relay), .bool ((((M.undo aG).1).rules).feed), .bool ((((M.undo aG).1).rules).again), .int .i64 ((((M.undo aG).1).rules).capture), .int .i64 ((((M.undo aG).1).rules).slam), .slice A27 (((((M.undo aG).1).start).pits).length) c27, .slice A28 (((((M.undo aG).1).start).stores).length) c28, .int .i64 ((((M.undo aG).1).start).player), .slice A29 ((((M.undo aG).1).moves).length) c29, .slice A30 (((((M.undo aG).1).now).pits).length) c30, .slice A31 (((((M.undo aG).1).now).stores).length) c31, .int .i64 ((((M.undo aG).1).now).player), .int .i64 (((M.undo aG).1).resigned)] 35, rowO 2 1 (.slice A27 (((((M.undo aG).1).start).pits).length) c27) (((((M.undo aG).1).start).pits).length) (ints_ ((((M.undo aG).1).start).pits)) [], rowO 2 1 (.slice A28 (((((M.undo aG).1).start).stores).length) c28) (((((M.undo aG).1).start).stores).length) (ints_ ((((M.undo aG).1).start).stores)) [], roO 2 (.slice A29 ((((M.undo aG).1).moves).length) c29) ((((M.undo aG).1).moves).length) (ints_ (((M.undo aG).1).moves)), rowO 2 1 (.slice A30 (((((M.undo aG).1).now).pits).length) c30) (((((M.undo aG).1).now).pits).length) (ints_ ((((M.undo aG).1).now).pits)) [], rowO 2 1 (.slice A31 (((((M.undo aG).1).now).stores).length) c31) (((((M.undo aG).1).now).stores).length) (ints_ ((((M.undo aG).1).now).stores)) [], boxO b22 [.int .i64 aG.rules.pits, .int .i64 aG.rules.seeds, .bool aG.rules.stores, .bool aG.rules.skip, .bool aG.rules.relay, .bool aG.rules.feed, .bool aG.rules.again, .int .i64 aG.rules.capture, .int .i64 aG.rules.slam, .slice A17 aG.start.pits.length c17, .slice A18 aG.start.stores.length c18, .int .i64 aG.start.player, .slice A19 aG.moves.length c19, .slice A20 aG.now.pits.length c20, .slice A21 aG.now.stores.length c21, .int .i64 aG.now.player, .int .i64 aG.resigned] 35, boxO b13 [.int .i64 ((((M.undo aG).1).rules).pits), .int .i64 ((((M.undo aG).1).rules).seeds), .bool ((((M.undo aG).1).rules).stores), .bool ((((M.undo aG).1).rules).skip), .bool ((((M.undo aG).1).rules).relay), .bool ((((M.undo aG).1).rules).feed), .bool ((((M.undo aG).1).rules).again), .int .i64 ((((M.undo aG).1).rules).capture), .int .i64 ((((M.undo aG).1).rules).slam), .slice A12_9 (((((M.undo aG).1).start).pits).length) c12_9, .slice A12_10 (((((M.undo aG).1).start).stores).length) c12_10, .int .i64 ((((M.undo aG).1).start).player), .slice A12_12 ((((M.undo aG).1).moves).length) c12_12, .slice A12_13 (((((M.undo aG).1).now).pits).length) c12_13, .slice A12_14 (((((M.undo aG).1).now).stores).length) c12_14, .int .i64 ((((M.undo aG).1).now).player), .int .i64 (((M.undo aG).1).resigned)] 35, boxO b2 [.int .i64 aG.rules.pits, .int .i64 aG.rules.seeds, .bool aG.rules.stores, .bool aG.rules.skip, .bool aG.rules.relay, .bool aG.rules.feed, .bool aG.rules.again, .int .i64 aG.rules.capture, .int .i64 aG.rules.slam, .slice A1_9 aG.start.pits.length c1_9, .slice A1_10 aG.start.stores.length c1_10, .int .i64 aG.start.player, .slice A1_12 aG.moves.length c1_12, .slice A1_13 aG.now.pits.length c1_13, .slice A1_14 aG.now.stores.length c1_14, .int .i64 aG.now.player, .int .i64 aG.resigned] 28]) fn_25 rfl (fun w hb hw => c_laws_markGame aG.rules aG.start aG.moves aG.now aG.resigned A17 c17 [] A18 c18 [] A19 c19 [] A20 c20 [] A21 c21 [] 1 w hb (by omega) (by omega) (by omega) (by omega) (by omega) (by omega) (by omega) (by omega) (by omega) (by omega) (by omega) (by omega) (by omega) (by omega) (by omega) (by omega) (by omega)) rfl) ?_
        rintro _ _ _ ⟨_, G39, ⟨rfl, rfl⟩, rfl, rfl⟩ _
        refine JL.q (OpP.q (p_assign rfl)) ?_
        refine JL.nil ?_
        refine Js.seq ?_
        refine Js.seq ?_
        refine Js.region ?_
        refine JL.q (OpP.q (p_move rfl)) ?_
        refine JL.q (OpP.q (p_lss rfl rfl)) ?_
        refine JL.q (OpP.q (p_move rfl)) ?_
        refine JL.g (Gd.f1 rfl rfl rfl) (fun hc => q_loadN ty_35 rfl (Mem.boxR (i := 6) rfl 0 17) rfl rfl) ?_
        refine JL.g (Gd.f1 rfl rfl rfl) (fun hc => q_loadN ty_35 rfl (Mem.boxR (i := 13) rfl 0 17) rfl rfl) ?_
        refine JL.ge (Gd.f1 rfl rfl rfl) (fun hc => e_callV fn_21 (opds_2 (gvt rfl hc) (gvt rfl hc)) (fun w hw => c_laws_eqGame ((M.undo aG).1) _ ((M.undo aG).1) _ w ⟨_, rfl, ⟨rfl, rfl, rfl, rfl, rfl, rfl, rfl, rfl, rfl, (ints_rowok (xs := ((((M.undo aG).1).start).pits)) (hw.pr (i := 7) rfl)), (ints_rowok (xs := ((((M.undo aG).1).start).stores)) (hw.pr (i := 8) rfl)), rfl, (ints_rook (xs := (((M.undo aG).1).moves)) (hw.pr (i := 9) rfl)), (ints_rowok (xs := ((((M.undo aG).1).now).pits)) (hw.pr (i := 10) rfl)), (ints_rowok (xs := ((((M.undo aG).1).now).stores)) (hw.pr (i := 11) rfl)), rfl, rfl, trivial⟩⟩ ⟨_, rfl, ⟨rfl, rfl, rfl, rfl, rfl, rfl, rfl, rfl, rfl, (Ty.mono _ h12_9 (x36.vis.trans hw.vis)), (Ty.mono _ h12_10 (x36.vis.trans hw.vis)), rfl, (Ty.mono _ h12_12 (x36.vis.trans hw.vis)), (Ty.mono _ h12_13 (x36.vis.trans hw.vis)), (Ty.mono _ h12_14 (x36.vis.trans hw.vis)), rfl, rfl, trivial⟩⟩ (by have hc9 := hc; (try simp only [Bool.not_eq_true', decide_eq_false_iff_not, Int.not_lt] at hc9); omega) (by have hc9 := hc; (try simp only [Bool.not_eq_true', decide_eq_false_iff_not, Int.not_lt] at hc9); omega) (by have hc9 := hc; (try simp only [Bool.not_eq_true', decide_eq_false_iff_not, Int.not_lt] at hc9); omega) (by have hc9 := hc; (try simp only [Bool.not_eq_true', decide_eq_false_iff_not, Int.not_lt] at hc9); omega) (by have hc9 := hc; (try simp only [Bool.not_eq_true', decide_eq_false_iff_not, Int.not_lt] at hc9); omega) (by have hc9 := hc; (try simp only [Bool.not_eq_true', decide_eq_false_iff_not, Int.not_lt] at hc9); omega) (by have hc9 := hc; (try simp only [Bool.not_eq_true', decide_eq_false_iff_not, Int.not_lt] at hc9); omega) (by have hc9 := hc; (try simp only [Bool.not_eq_true', decide_eq_false_iff_not, Int.not_lt] at hc9); omega) (by have hc9 := hc; (try simp only [Bool.not_eq_true', decide_eq_false_iff_not, Int.not_lt] at hc9); omega) (by have hc9 := hc; (try simp only [Bool.not_eq_true', decide_eq_false_iff_not, Int.not_lt] at hc9); omega))) ?_
        refine JL.g (Gd.f1 rfl rfl rfl) (fun hc => OpP.q (p_not (gvt rfl hc))) ?_
        refine JL.q (OpP.q (p_pickOr rfl rfl rfl)) ?_
        refine JL.q (OpP.q (p_move rfl)) ?_
        refine JL.g (Gd.f1 rfl rfl rfl) (fun hc => OpP.q (p_move rfl)) ?_
        refine JL.g (Gd.f1 rfl rfl rfl) (fun hc => OpP.q (p_move rfl)) ?_
        refine JL.g (Gd.f1 rfl rfl rfl) (fun hc => OpP.q (p_neq (gvt rfl hc) (gvt rfl hc))) ?_
        refine JL.q (OpP.q (p_pickOr rfl rfl rfl)) ?_
        refine JL.nil ?_
        refine Js.cond rfl (fun h40 => ?_) (fun h40 => ?_)
        ·
          exact absurd h40 (by simp only [decide_true, Bool.not_true, Bool.or_false, decide_eq_true_eq]; omega)
        ·
          have h40' := h40
          try simp only [Bool.or_eq_false_iff, decide_eq_false_iff_not, Int.not_lt, Bool.not_eq_false', decide_eq_true_eq] at h40'
          refine Js.skip ?_
          refine Js.seq ?_
          refine Js.region ?_
          refine JL.q (OpP.q (p_assign rfl)) ?_
          refine JL.nil ?_
          refine Js.seq ?_
          refine Js.region ?_
          refine JL.q (q_loadN ty_35 rfl (Mem.boxR (i := 6) rfl 0 17) rfl rfl) ?_
          refine JL.q (OpP.q (p_move rfl)) ?_
          refine JL.conv (fun _ h => h.front (i := 11) rfl) ?_
          refine JL.conv (fun _ h => h.front (i := 11) rfl) ?_
          refine JL.conv (fun _ h => h.front (i := 11) rfl) ?_
          refine JL.conv (fun _ h => h.front (i := 11) rfl) ?_
          refine JL.conv (fun _ h => h.front (i := 11) rfl) ?_
          refine JL.e (e_callB (bs := [rowO 2 1 (.slice A27 (((((M.undo aG).1).start).pits).length) c27) (((((M.undo aG).1).start).pits).length) (ints_ ((((M.undo aG).1).start).pits)) [], rowO 2 1 (.slice A28 (((((M.undo aG).1).start).stores).length) c28) (((((M.undo aG).1).start).stores).length) (ints_ ((((M.undo aG).1).start).stores)) [], roO 2 (.slice A29 ((((M.undo aG).1).moves).length) c29) ((((M.undo aG).1).moves).length) (ints_ (((M.undo aG).1).moves)), rowO 2 1 (.slice A30 (((((M.undo aG).1).now).pits).length) c30) (((((M.undo aG).1).now).pits).length) (ints_ ((((M.undo aG).1).now).pits)) [], rowO 2 1 (.slice A31 (((((M.undo aG).1).now).stores).length) c31) (((((M.undo aG).1).now).stores).length) (ints_ ((((M.undo aG).1).now).stores)) []]) (rest := [rowO 2 1 (.slice A17 aG.start.pits.length c17) aG.start.pits.length (ints_ ((M.markP aG.start 1).pits)) [], rowO 2 1 (.slice A18 aG.start.stores.length c18) aG.start.stores.length (ints_ ((M.markP aG.start 1).stores)) [], rowO 2 1 (.slice A19 aG.moves.length c19) aG.moves.length (ints_ (M.up (1 + M.szp aG.start) aG.moves.length)) [], rowO 2 1 (.slice A20 aG.now.pits.length c20) aG.now.pits.length (ints_ ((M.markP aG.now (1 + M.szp aG.start + (aG.moves.length : Int))).pits)) [], rowO 2 1 (.slice A21 aG.now.stores.length c21) aG.now.stores.length (ints_ ((M.markP aG.now (1 + M.szp aG.start + (aG.moves.length : Int))).stores)) [], anyO G39, boxO b32 [.int .i64 ((((M.undo aG).1).rules).pits), .int .i64 ((((M.undo aG).1).rules).seeds), .bool ((((M.undo aG).1).rules).stores), .bool ((((M.undo aG).1).rules).skip), .bool ((((M.undo aG).1).rules).relay), .bool ((((M.undo aG).1).rules).feed), .bool ((((M.undo aG).1).rules).again), .int .i64 ((((M.undo aG).1).rules).capture), .int .i64 ((((M.undo aG).1).rules).slam), .slice A27 (((((M.undo aG).1).start).pits).length) c27, .slice A28 (((((M.undo aG).1).start).stores).length) c28, .int .i64 ((((M.undo aG).1).start).player), .slice A29 ((((M.undo aG).1).moves).length) c29, .slice A30 (((((M.undo aG).1).now).pits).length) c30, .slice A31 (((((M.undo aG).1).now).stores).length) c31, .int .i64 ((((M.undo aG).1).now).player), .int .i64 (((M.undo aG).1).resigned)] 35, boxO b22 [.int .i64 aG.rules.pits, .int .i64 aG.rules.seeds, .bool aG.rules.stores, .bool aG.rules.skip, .bool aG.rules.relay, .bool aG.rules.feed, .bool aG.rules.again, .int .i64 aG.rules.capture, .int .i64 aG.rules.slam, .slice A17 aG.start.pits.length c17, .slice A18 aG.start.stores.length c18, .int .i64 aG.start.player, .slice A19 aG.moves.length c19, .slice A20 aG.now.pits.length c20, .slice A21 aG.now.stores.length c21, .int .i64 aG.now.player, .int .i64 aG.resigned] 35, boxO b13 [.int .i64 ((((M.undo aG).1).rules).pits), .int .i64 ((((M.undo aG).1).rules).seeds), .bool ((((M.undo aG).1).rules).stores), .bool ((((M.undo aG).1).rules).skip), .bool ((((M.undo aG).1).rules).relay), .bool ((((M.undo aG).1).rules).feed), .bool ((((M.undo aG).1).rules).again), .int .i64 ((((M.undo aG).1).rules).capture), .int .i64 ((((M.undo aG).1).rules).slam), .slice A12_9 (((((M.undo aG).1).start).pits).length) c12_9, .slice A12_10 (((((M.undo aG).1).start).stores).length) c12_10, .int .i64 ((((M.undo aG).1).start).player), .slice A12_12 ((((M.undo aG).1).moves).length) c12_12, .slice A12_13 (((((M.undo aG).1).now).pits).length) c12_13, .slice A12_14 (((((M.undo aG).1).now).stores).length) c12_14, .int .i64 ((((M.undo aG).1).now).player), .int .i64 (((M.undo aG).1).resigned)] 35, boxO b2 [.int .i64 aG.rules.pits, .int .i64 aG.rules.seeds, .bool aG.rules.stores, .bool aG.rules.skip, .bool aG.rules.relay, .bool aG.rules.feed, .bool aG.rules.again, .int .i64 aG.rules.capture, .int .i64 aG.rules.slam, .slice A1_9 aG.start.pits.length c1_9, .slice A1_10 aG.start.stores.length c1_10, .int .i64 aG.start.player, .slice A1_12 aG.moves.length c1_12, .slice A1_13 aG.now.pits.length c1_13, .slice A1_14 aG.now.stores.length c1_14, .int .i64 aG.now.player, .int .i64 aG.resigned] 28]) fn_25 rfl (fun w hb hw => c_laws_markGameL (((M.undo aG).1).rules) (((M.undo aG).1).start) (((M.undo aG).1).moves) (((M.undo aG).1).now) (((M.undo aG).1).resigned) A27 c27 [] A28 c28 [] A29 c29 A30 c30 [] A31 c31 [] 1 w hb (by omega) (by omega) (by omega) (by omega) (by omega) (by omega) (by omega) (by omega) (by omega) (by omega) (by omega) (by omega) (by omega) (by omega) (by omega) (by omega) (by omega)) rfl) ?_
          rintro _ _ _ ⟨_, G41, ⟨rfl, rfl⟩, rfl, rfl⟩ _
          refine JL.q (OpP.q (p_assign rfl)) ?_
          refine JL.nil ?_
          refine Js.seq ?_
          refine Js.region ?_
          refine JL.q (OpP.q (p_assign rfl)) ?_
          refine JL.nil ?_
          refine Js.seq ?_
          refine Js.region ?_
          refine JL.q (q_loadN ty_35 rfl (Mem.boxR (i := 12) rfl 0 17) rfl rfl) ?_
          refine JL.q (OpP.q (p_move rfl)) ?_
          refine JL.e (e_callV fn_37 rfl (fun w hw => c_laws_heldGame (M.Gam.mk (((M.undo aG).1).rules) (M.Pos.mk ((M.markP (((M.undo aG).1).start) 1).pits) ((M.markP (((M.undo aG).1).start) 1).stores) ((((M.undo aG).1).start).player)) (M.up (1 + M.szp (((M.undo aG).1).start)) (((M.undo aG).1).moves).length) (M.Pos.mk ((M.markP (((M.undo aG).1).now) (1 + M.szp (((M.undo aG).1).start) + ((((M.undo aG).1).moves).length : Int))).pits) ((M.markP (((M.undo aG).1).now) (1 + M.szp (((M.undo aG).1).start) + ((((M.undo aG).1).moves).length : Int))).stores) ((((M.undo aG).1).now).player)) (((M.undo aG).1).resigned)) _ 1 w ⟨_, rfl, ⟨rfl, rfl, rfl, rfl, rfl, rfl, rfl, rfl, rfl, (ints_rowok (xs := ((M.markP (((M.undo aG).1).start) 1).pits)) (hw.pr (i := 0) rfl)), (ints_rowok (xs := ((M.markP (((M.undo aG).1).start) 1).stores)) (hw.pr (i := 1) rfl)), rfl, (ints_rook (xs := (M.up (1 + M.szp (((M.undo aG).1).start)) (((M.undo aG).1).moves).length)) (hw.pr (i := 2) rfl)), (ints_rowok (xs := ((M.markP (((M.undo aG).1).now) (1 + M.szp (((M.undo aG).1).start) + ((((M.undo aG).1).moves).length : Int))).pits)) (hw.pr (i := 3) rfl)), (ints_rowok (xs := ((M.markP (((M.undo aG).1).now) (1 + M.szp (((M.undo aG).1).start) + ((((M.undo aG).1).moves).length : Int))).stores)) (hw.pr (i := 4) rfl)), rfl, rfl, trivial⟩⟩ (by simp only [M.markP, M.up_length]; omega) (by simp only [M.markP, M.up_length]; omega) (by simp only [M.markP, M.up_length]; omega) (by simp only [M.markP, M.up_length]; omega) (by simp only [M.markP, M.up_length]; omega) (by omega) (by omega))) ?_
          rintro _ _ _ ⟨rfl, rfl, rfl⟩ _
          refine JL.q (OpP.q (p_assign rfl)) ?_
          refine JL.nil ?_
          refine Js.seq ?_
          refine Js.seq ?_
          refine Js.region ?_
          refine JL.q (OpP.q (p_move rfl)) ?_
          refine JL.q (OpP.q (p_lss rfl rfl)) ?_
          refine JL.nil ?_
          refine Js.cond rfl (fun h42 => ?_) (fun h42 => ?_)
          ·
            have h9 : decide (M.heldG (M.markG ((M.undo aG).1) 1) 1 < 0) = true := h42; rw [M.heldG_mark ((M.undo aG).1) (k := 1) (by decide)] at h9; simp only [decide_eq_true_eq] at h9; have h8 := M.szg_nn ((M.undo aG).1); omega
          ·
            have h42' := h42
            try simp only [decide_eq_false_iff_not, Int.not_lt] at h42'
            refine Js.skip ?_
            refine Js.seq ?_
            refine Js.seq ?_
            refine Js.region ?_
            refine JL.q (OpP.q (p_move rfl)) ?_
            refine JL.q (OpP.q (p_move rfl)) ?_
            refine JL.q (OpP.q (p_neq rfl rfl)) ?_
            refine JL.nil ?_
            refine Js.cond rfl (fun h43 => ?_) (fun h43 => ?_)
            ·
              have h9 : (!decide (M.heldG (M.markG ((M.undo aG).1) 1) 1 = 1 + M.szp ((M.undo aG).1).start + (((M.undo aG).1).moves.length : Int) + M.szp ((M.undo aG).1).now)) = true := h43; rw [M.heldG_mark ((M.undo aG).1) (k := 1) (by decide)] at h9; simp [M.szg, Int.add_assoc] at h9
            ·
              have h43' := h43
              try simp only [Bool.not_eq_false', decide_eq_true_eq] at h43'
              refine Js.skip ?_
              refine Js.seq ?_
              refine Js.region ?_
              refine JL.q (q_loadN ty_28 rfl (Mem.boxR (i := 15) rfl 0 17) rfl rfl) ?_
              refine JL.e (e_callP fn_19 rfl (fun w hw => c_laws_toGame aG _ w ⟨_, rfl, ⟨rfl, rfl, rfl, rfl, rfl, rfl, rfl, rfl, rfl, (Ty.mono _ h1_9 (((x6.vis.trans x10.vis).trans x36.vis).trans hw.vis)), (Ty.mono _ h1_10 (((x6.vis.trans x10.vis).trans x36.vis).trans hw.vis)), rfl, (Ty.mono _ h1_12 (((x6.vis.trans x10.vis).trans x36.vis).trans hw.vis)), (Ty.mono _ h1_13 (((x6.vis.trans x10.vis).trans x36.vis).trans hw.vis)), (Ty.mono _ h1_14 (((x6.vis.trans x10.vis).trans x36.vis).trans hw.vis)), rfl, rfl, trivial⟩⟩ (by omega) (by omega) (by omega) (by omega) (by omega))) ?_
              rintro v44 _ u46 ⟨h45, rfl⟩ x46
              obtain ⟨A47_9, c47_9, A47_10, c47_10, A47_12, c47_12, A47_13, c47_13, A47_14, c47_14, rfl, h47_9, h47_10, h47_12, h47_13, h47_14, bl47_9, bh47_9, bl47_10, bh47_10, bl47_12, bh47_12, bl47_13, bh47_13, bl47_14, bh47_14⟩ := open_Game h45
              refine JL.e (e_callP fn_39 rfl (fun w hw => c_impl_UndoMove aG _ w ⟨_, rfl, ⟨rfl, rfl, rfl, rfl, rfl, rfl, rfl, rfl, rfl, (Ty.mono _ h47_9 hw.vis), (Ty.mono _ h47_10 hw.vis), rfl, (Ty.mono _ h47_12 hw.vis), (Ty.mono _ h47_13 hw.vis), (Ty.mono _ h47_14 hw.vis), rfl, rfl, trivial⟩⟩ (by omega) (by omega) (by omega) (by omega) (by omega))) ?_
              rintro v48 _ u50 ⟨h49, rfl⟩ x50
              obtain ⟨vs51, rfl, hv51⟩ := h49
              obtain ⟨v51_0, vs51, rfl, hw51_0, hv51⟩ := cellsOk_cons hv51
              obtain ⟨v51_1, vs51, rfl, hw51_1, hv51⟩ := cellsOk_cons hv51
              obtain rfl := cellsOk_nil hv51
              obtain ⟨A52_9, c52_9, A52_10, c52_10, A52_12, c52_12, A52_13, c52_13, A52_14, c52_14, rfl, h52_9, h52_10, h52_12, h52_13, h52_14, bl52_9, bh52_9, bl52_10, bh52_10, bl52_12, bh52_12, bl52_13, bh52_13, bl52_14, bh52_14⟩ := open_GameL hw51_0
              obtain rfl : v51_1 = .int .i64 ((M.undo aG).2) := hw51_1
              refine JL.q (OpP.q (p_move rfl)) ?_
              refine JL.q (OpP.q (p_extract rfl rfl)) ?_
              refine JL.q (OpP.q (p_extract rfl rfl)) ?_
              refine JL.e (e_alloc zero_35) ?_
              rintro _ _ _ ⟨b53, rfl, rfl, rfl⟩ _
              refine JL.s (e_store (i := 0) (c' := [.int .i64 ((((M.undo aG).1).rules).pits), .int .i64 ((((M.undo aG).1).rules).seeds), .bool ((((M.undo aG).1).rules).stores), .bool ((((M.undo aG).1).rules).skip), .bool ((((M.undo aG).1).rules).relay), .bool ((((M.undo aG).1).rules).feed), .bool ((((M.undo aG).1).rules).again), .int .i64 ((((M.undo aG).1).rules).capture), .int .i64 ((((M.undo aG).1).rules).slam), .slice A52_9 (((((M.undo aG).1).start).pits).length) c52_9, .slice A52_10 (((((M.undo aG).1).start).stores).length) c52_10, .int .i64 ((((M.undo aG).1).start).player), .slice A52_12 ((((M.undo aG).1).moves).length) c52_12, .slice A52_13 (((((M.undo aG).1).now).pits).length) c52_13, .slice A52_14 (((((M.undo aG).1).now).stores).length) c52_14, .int .i64 ((((M.undo aG).1).now).player), .int .i64 (((M.undo aG).1).resigned)]) ty_35 rfl rfl rfl rfl rfl rfl rfl rfl) ?_
              rintro _ _ _ ⟨rfl, rfl⟩ _
              refine JL.q (OpP.q (p_assign rfl)) ?_
              refine JL.nil ?_
              refine Js.seq ?_
              refine Js.seq ?_
              refine Js.region ?_
              refine JL.q (q_loadN ty_35 rfl (Mem.boxR (i := 0) rfl 0 17) rfl rfl) ?_
              refine JL.q (q_loadN ty_35 rfl (Mem.boxR (i := 15) rfl 0 17) rfl rfl) ?_
              refine JL.e (e_callV fn_21 rfl (fun w hw => c_laws_eqGame ((M.undo aG).1) _ ((M.undo aG).1) _ w ⟨_, rfl, ⟨rfl, rfl, rfl, rfl, rfl, rfl, rfl, rfl, rfl, (Ty.mono _ h52_9 hw.vis), (Ty.mono _ h52_10 hw.vis), rfl, (Ty.mono _ h52_12 hw.vis), (Ty.mono _ h52_13 hw.vis), (Ty.mono _ h52_14 hw.vis), rfl, rfl, trivial⟩⟩ ⟨_, rfl, ⟨rfl, rfl, rfl, rfl, rfl, rfl, rfl, rfl, rfl, (Ty.mono _ h12_9 (((x36.vis.trans x46.vis).trans x50.vis).trans hw.vis)), (Ty.mono _ h12_10 (((x36.vis.trans x46.vis).trans x50.vis).trans hw.vis)), rfl, (Ty.mono _ h12_12 (((x36.vis.trans x46.vis).trans x50.vis).trans hw.vis)), (Ty.mono _ h12_13 (((x36.vis.trans x46.vis).trans x50.vis).trans hw.vis)), (Ty.mono _ h12_14 (((x36.vis.trans x46.vis).trans x50.vis).trans hw.vis)), rfl, rfl, trivial⟩⟩ (by omega) (by omega) (by omega) (by omega) (by omega) (by omega) (by omega) (by omega) (by omega) (by omega))) ?_
              rintro _ _ _ ⟨rfl, rfl, rfl⟩ _
              refine JL.q (OpP.q (p_not rfl)) ?_
              refine JL.q (OpP.q (p_move rfl)) ?_
              refine JL.g (Gd.f1 rfl rfl rfl) (fun hc => OpP.q (p_move rfl)) ?_
              refine JL.g (Gd.f1 rfl rfl rfl) (fun hc => OpP.q (p_move rfl)) ?_
              refine JL.g (Gd.f1 rfl rfl rfl) (fun hc => OpP.q (p_neq (gvt rfl hc) (gvt rfl hc))) ?_
              refine JL.q (OpP.q (p_pickOr rfl rfl rfl)) ?_
              refine JL.nil ?_
              refine Js.condF rfl h33 ?_
              refine Js.skip ?_
              refine Js.seq ?_
              refine Js.region ?_
              refine JL.q (OpP.q (p_assign rfl)) ?_
              refine JL.nil ?_
              refine Js.seq ?_
              refine Js.region ?_
              refine JL.q (q_loadN ty_35 rfl (Mem.boxR (i := 13) rfl 0 17) rfl rfl) ?_
              refine JL.q (OpP.q (p_move rfl)) ?_
              refine JL.e (e_callV fn_37 rfl (fun w hw => c_laws_heldGame (M.Gam.mk (((M.undo aG).1).rules) (M.Pos.mk ((M.markP (((M.undo aG).1).start) 1).pits) ((M.markP (((M.undo aG).1).start) 1).stores) ((((M.undo aG).1).start).player)) (M.up (1 + M.szp (((M.undo aG).1).start)) (((M.undo aG).1).moves).length) (M.Pos.mk ((M.markP (((M.undo aG).1).now) (1 + M.szp (((M.undo aG).1).start) + ((((M.undo aG).1).moves).length : Int))).pits) ((M.markP (((M.undo aG).1).now) (1 + M.szp (((M.undo aG).1).start) + ((((M.undo aG).1).moves).length : Int))).stores) ((((M.undo aG).1).now).player)) (((M.undo aG).1).resigned)) _ 1 w ⟨_, rfl, ⟨rfl, rfl, rfl, rfl, rfl, rfl, rfl, rfl, rfl, (ints_rowok (xs := ((M.markP (((M.undo aG).1).start) 1).pits)) (hw.pr (i := 1) rfl)), (ints_rowok (xs := ((M.markP (((M.undo aG).1).start) 1).stores)) (hw.pr (i := 2) rfl)), rfl, (ints_rook (xs := (M.up (1 + M.szp (((M.undo aG).1).start)) (((M.undo aG).1).moves).length)) (hw.pr (i := 3) rfl)), (ints_rowok (xs := ((M.markP (((M.undo aG).1).now) (1 + M.szp (((M.undo aG).1).start) + ((((M.undo aG).1).moves).length : Int))).pits)) (hw.pr (i := 4) rfl)), (ints_rowok (xs := ((M.markP (((M.undo aG).1).now) (1 + M.szp (((M.undo aG).1).start) + ((((M.undo aG).1).moves).length : Int))).stores)) (hw.pr (i := 5) rfl)), rfl, rfl, trivial⟩⟩ (by simp only [M.markP, M.up_length]; omega) (by simp only [M.markP, M.up_length]; omega) (by simp only [M.markP, M.up_length]; omega) (by simp only [M.markP, M.up_length]; omega) (by simp only [M.markP, M.up_length]; omega) (by omega) (by omega))) ?_
              rintro _ _ _ ⟨rfl, rfl, rfl⟩ _
              refine JL.q (OpP.q (p_assign rfl)) ?_
              refine JL.nil ?_
              refine Js.seq ?_
              refine Js.seq ?_
              refine Js.region ?_
              refine JL.q (OpP.q (p_move rfl)) ?_
              refine JL.q (OpP.q (p_lss rfl rfl)) ?_
              refine JL.nil ?_
              refine Js.condF rfl h42 ?_
              refine Js.skip ?_
              refine Js.seq ?_
              refine Js.seq ?_
              refine Js.region ?_
              refine JL.q (OpP.q (p_move rfl)) ?_
              refine JL.q (OpP.q (p_move rfl)) ?_
              refine JL.q (OpP.q (p_neq rfl rfl)) ?_
              refine JL.nil ?_
              refine Js.condF rfl h43 ?_
              refine Js.skip ?_
              refine Js.seq ?_
              refine Js.region ?_
              refine JL.q (OpP.q (p_assign rfl)) ?_
              refine JL.nil ?_
              refine Js.ret (R := RV w (.bool true)) @Try.results8 (fun _ _ => rfl) (ResOk.tmp rfl ResOk.nil) (fun w1 hw => ?_)
              refine ⟨?_, hw.ext (((((x6.trans x10).trans x36).trans x46).trans x50))⟩
              first | rfl | (simp [outV]; done)

end Go.Proofs.Ytejnmechnhgmfaa

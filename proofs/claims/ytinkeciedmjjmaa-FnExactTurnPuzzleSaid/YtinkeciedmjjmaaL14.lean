/- Walks: L14. -/
import Derived.Test.YtinkeciedmjjmaaTy
import Derived.Test.YtinkeciedmjjmaaG10
import Derived.Test.YtinkeciedmjjmaaK8
import Derived.Test.YtinkeciedmjjmaaL8
set_option linter.unusedSimpArgs false
set_option linter.unusedVariables false
namespace Go.Proofs.Ytinkeciedmjjmaa
open Go.RowKit

set_option maxRecDepth 100000 in
set_option maxHeartbeats 4000000 in
theorem c_laws_FnExactTurnPuzzle (aZ : M.Puz) (v_aZ : Value) (w : World) (h_aZ : (Ty.agg (cPuzzle aZ)).ok w v_aZ) : RetV Try.prog 8 [v_aZ] w (.bool true) := by
  have q4 := M.szL_cases (aZ.position.pits.length + aZ.position.stores.length) 1048576
  change (1048576 < _ ∧ M.szP aZ.position 1048576 = -1) ∨ (_ ≤ _ ∧ M.szP aZ.position 1048576 = _) at q4
  obtain ⟨w1_, w2_⟩ := M.turnZ_small aZ
  have z3 := M.szp_nn (M.turnZ aZ).1.position
  obtain ⟨A1_9, c1_9, A1_10, c1_10, rfl, h1_9, h1_10, bl1_9, bh1_9, bl1_10, bh1_10⟩ := open_Puzzle h_aZ
  refine enter @Try.func8 @Try.ntmps8 rfl rfl ?_
  refine Js.seq ?_
  refine Js.region ?_
  refine JL.e (e_box (c := [.int .i64 aZ.rules.pits, .int .i64 aZ.rules.seeds, .bool aZ.rules.stores, .bool aZ.rules.skip, .bool aZ.rules.relay, .bool aZ.rules.feed, .bool aZ.rules.again, .int .i64 aZ.rules.capture, .int .i64 aZ.rules.slam, .slice A1_9 aZ.position.pits.length c1_9, .slice A1_10 aZ.position.stores.length c1_10, .int .i64 aZ.position.player, .int .i64 aZ.depth, .int .i64 aZ.move, .int .i64 aZ.value, .int .i64 aZ.margin]) rfl rfl) ?_
  rintro _ _ _ ⟨b2, rfl, rfl, rfl⟩ _
  refine JL.q (OpP.q (p_assign rfl)) ?_
  refine JL.nil ?_
  refine Js.seq ?_
  refine Js.region ?_
  refine JL.q (OpP.q (p_assign rfl)) ?_
  refine JL.nil ?_
  refine Js.seq ?_
  refine Js.region ?_
  refine JL.q (q_loadN ty_51 rfl (Mem.boxR (i := 0) rfl 0 16) rfl rfl) ?_
  refine JL.q (OpP.q (p_move rfl)) ?_
  refine JL.e (e_callV fn_30 rfl (fun w hw => c_laws_szPuzzle aZ _ 1048576 w ⟨_, rfl, ⟨rfl, rfl, rfl, rfl, rfl, rfl, rfl, rfl, rfl, (Ty.mono _ h1_9 hw.vis), (Ty.mono _ h1_10 hw.vis), rfl, rfl, rfl, rfl, rfl, trivial⟩⟩ (by omega) (by omega))) ?_
  rintro _ _ _ ⟨rfl, rfl, rfl⟩ _
  refine JL.q (OpP.q (p_assign rfl)) ?_
  refine JL.nil ?_
  refine Js.seq ?_
  refine Js.seq ?_
  refine Js.region ?_
  refine JL.q (OpP.q (p_move rfl)) ?_
  refine JL.q (OpP.q (p_lss rfl rfl)) ?_
  refine JL.nil ?_
  refine Js.cond rfl (fun h3 => ?_) (fun h3 => ?_)
  ·
    have h3' := h3
    try simp only [decide_eq_true_eq] at h3'
    refine Js.seq ?_
    refine Js.region ?_
    refine JL.q (OpP.q (p_assign rfl)) ?_
    refine JL.nil ?_
    refine Js.ret (R := RV w (.bool true)) @Try.results8 (fun _ _ => rfl) (ResOk.tmp rfl ResOk.nil) (fun w1 hw => ?_)
    refine ⟨?_, hw.ext (Up.refl _ _)⟩
    first | rfl | (simp [outV]; done)
  ·
    have h3' := h3
    try simp only [decide_eq_false_iff_not, Int.not_lt] at h3'
    refine Js.skip ?_
    refine Js.seq ?_
    refine Js.region ?_
    refine JL.q (q_loadN ty_51 rfl (Mem.boxR (i := 0) rfl 0 16) rfl rfl) ?_
    refine JL.e (e_callP fn_32 rfl (fun w hw => c_laws_toPuzzle aZ _ w ⟨_, rfl, ⟨rfl, rfl, rfl, rfl, rfl, rfl, rfl, rfl, rfl, (Ty.mono _ h1_9 hw.vis), (Ty.mono _ h1_10 hw.vis), rfl, rfl, rfl, rfl, rfl, trivial⟩⟩ (by omega) (by omega))) ?_
    rintro v4 _ u6 ⟨h5, rfl⟩ x6
    obtain ⟨A7_9, c7_9, A7_10, c7_10, rfl, h7_9, h7_10, bl7_9, bh7_9, bl7_10, bh7_10⟩ := open_Puzzle h5
    refine JL.e (e_callP fn_36 rfl (fun w hw => c_spec_TurnPuzzle aZ _ w ⟨_, rfl, ⟨rfl, rfl, rfl, rfl, rfl, rfl, rfl, rfl, rfl, (Ty.mono _ h7_9 hw.vis), (Ty.mono _ h7_10 hw.vis), rfl, rfl, rfl, rfl, rfl, trivial⟩⟩ (by omega) (by omega))) ?_
    rintro v8 _ u10 ⟨h9, rfl⟩ x10
    obtain ⟨vs11, rfl, hv11⟩ := h9
    obtain ⟨v11_0, vs11, rfl, hw11_0, hv11⟩ := cellsOk_cons hv11
    obtain ⟨v11_1, vs11, rfl, hw11_1, hv11⟩ := cellsOk_cons hv11
    obtain rfl := cellsOk_nil hv11
    obtain ⟨A12_9, c12_9, A12_10, c12_10, rfl, h12_9, h12_10, bl12_9, bh12_9, bl12_10, bh12_10⟩ := open_Puzzle hw11_0
    obtain rfl : v11_1 = .int .i64 ((M.turnZ aZ).2) := hw11_1
    refine JL.q (OpP.q (p_move rfl)) ?_
    refine JL.q (OpP.q (p_extract rfl rfl)) ?_
    refine JL.q (OpP.q (p_extract rfl rfl)) ?_
    refine JL.e (e_alloc zero_45) ?_
    rintro _ _ _ ⟨b13, rfl, rfl, rfl⟩ _
    refine JL.s (e_store (i := 0) (c' := [.int .i64 ((((M.turnZ aZ).1).rules).pits), .int .i64 ((((M.turnZ aZ).1).rules).seeds), .bool ((((M.turnZ aZ).1).rules).stores), .bool ((((M.turnZ aZ).1).rules).skip), .bool ((((M.turnZ aZ).1).rules).relay), .bool ((((M.turnZ aZ).1).rules).feed), .bool ((((M.turnZ aZ).1).rules).again), .int .i64 ((((M.turnZ aZ).1).rules).capture), .int .i64 ((((M.turnZ aZ).1).rules).slam), .slice A12_9 (((((M.turnZ aZ).1).position).pits).length) c12_9, .slice A12_10 (((((M.turnZ aZ).1).position).stores).length) c12_10, .int .i64 ((((M.turnZ aZ).1).position).player), .int .i64 (((M.turnZ aZ).1).depth), .int .i64 (((M.turnZ aZ).1).move), .int .i64 (((M.turnZ aZ).1).value), .int .i64 (((M.turnZ aZ).1).margin)]) ty_45 rfl rfl rfl rfl rfl rfl rfl rfl) ?_
    rintro _ _ _ ⟨rfl, rfl⟩ _
    refine JL.q (OpP.q (p_assign rfl)) ?_
    refine JL.nil ?_
    refine Js.seq ?_
    refine Js.region ?_
    refine JL.q (q_loadN ty_51 rfl (Mem.boxR (i := 1) rfl 0 16) rfl rfl) ?_
    refine JL.e (e_callO fn_32 rfl (Spl.agg (Spls.cons (Spl.val _) (Spls.cons (Spl.val _) (Spls.cons (Spl.val _) (Spls.cons (Spl.val _) (Spls.cons (Spl.val _) (Spls.cons (Spl.val _) (Spls.cons (Spl.val _) (Spls.cons (Spl.val _) (Spls.cons (Spl.val _) (Spls.cons (Spl.ints _ _) (Spls.cons (Spl.ints _ _) (Spls.cons (Spl.val _) (Spls.cons (Spl.val _) (Spls.cons (Spl.val _) (Spls.cons (Spl.val _) (Spls.cons (Spl.val _) Spls.nil))))))))))))))))) (fun w hw => c_laws_toPuzzle aZ _ w ⟨_, rfl, ⟨rfl, rfl, rfl, rfl, rfl, rfl, rfl, rfl, rfl, (Ty.mono _ h1_9 ((x6.vis.trans x10.vis).trans hw.vis)), (Ty.mono _ h1_10 ((x6.vis.trans x10.vis).trans hw.vis)), rfl, rfl, rfl, rfl, rfl, trivial⟩⟩ (by omega) (by omega))) ?_
    rintro v14 _ _ ⟨_, hR15, rfl, rfl⟩ _
    obtain ⟨vs16, rfl, hr16⟩ := hR15
    obtain ⟨v16_0, vs16_0, o16_0, ow16_0, rfl, hR16_0, hs16_0, rfl⟩ := RL_cons hr16
    obtain ⟨v16_1, vs16_1, o16_1, ow16_1, rfl, hR16_1, hs16_1, rfl⟩ := RL_cons hs16_0
    obtain ⟨v16_2, vs16_2, o16_2, ow16_2, rfl, hR16_2, hs16_2, rfl⟩ := RL_cons hs16_1
    obtain ⟨v16_3, vs16_3, o16_3, ow16_3, rfl, hR16_3, hs16_3, rfl⟩ := RL_cons hs16_2
    obtain ⟨v16_4, vs16_4, o16_4, ow16_4, rfl, hR16_4, hs16_4, rfl⟩ := RL_cons hs16_3
    obtain ⟨v16_5, vs16_5, o16_5, ow16_5, rfl, hR16_5, hs16_5, rfl⟩ := RL_cons hs16_4
    obtain ⟨v16_6, vs16_6, o16_6, ow16_6, rfl, hR16_6, hs16_6, rfl⟩ := RL_cons hs16_5
    obtain ⟨v16_7, vs16_7, o16_7, ow16_7, rfl, hR16_7, hs16_7, rfl⟩ := RL_cons hs16_6
    obtain ⟨v16_8, vs16_8, o16_8, ow16_8, rfl, hR16_8, hs16_8, rfl⟩ := RL_cons hs16_7
    obtain ⟨v16_9, vs16_9, o16_9, ow16_9, rfl, hR16_9, hs16_9, rfl⟩ := RL_cons hs16_8
    obtain ⟨v16_10, vs16_10, o16_10, ow16_10, rfl, hR16_10, hs16_10, rfl⟩ := RL_cons hs16_9
    obtain ⟨v16_11, vs16_11, o16_11, ow16_11, rfl, hR16_11, hs16_11, rfl⟩ := RL_cons hs16_10
    obtain ⟨v16_12, vs16_12, o16_12, ow16_12, rfl, hR16_12, hs16_12, rfl⟩ := RL_cons hs16_11
    obtain ⟨v16_13, vs16_13, o16_13, ow16_13, rfl, hR16_13, hs16_13, rfl⟩ := RL_cons hs16_12
    obtain ⟨v16_14, vs16_14, o16_14, ow16_14, rfl, hR16_14, hs16_14, rfl⟩ := RL_cons hs16_13
    obtain ⟨v16_15, vs16_15, o16_15, ow16_15, rfl, hR16_15, hs16_15, rfl⟩ := RL_cons hs16_14
    obtain ⟨rfl, rfl⟩ := RL_nil hs16_15
    obtain ⟨rfl, rfl⟩ : v16_0 = .int .i64 aZ.rules.pits ∧ _ := hR16_0
    obtain ⟨rfl, rfl⟩ : v16_1 = .int .i64 aZ.rules.seeds ∧ _ := hR16_1
    obtain ⟨rfl, rfl⟩ : v16_2 = .bool aZ.rules.stores ∧ _ := hR16_2
    obtain ⟨rfl, rfl⟩ : v16_3 = .bool aZ.rules.skip ∧ _ := hR16_3
    obtain ⟨rfl, rfl⟩ : v16_4 = .bool aZ.rules.relay ∧ _ := hR16_4
    obtain ⟨rfl, rfl⟩ : v16_5 = .bool aZ.rules.feed ∧ _ := hR16_5
    obtain ⟨rfl, rfl⟩ : v16_6 = .bool aZ.rules.again ∧ _ := hR16_6
    obtain ⟨rfl, rfl⟩ : v16_7 = .int .i64 aZ.rules.capture ∧ _ := hR16_7
    obtain ⟨rfl, rfl⟩ : v16_8 = .int .i64 aZ.rules.slam ∧ _ := hR16_8
    obtain ⟨A17, c17, rfl, rfl, bl17, bh17⟩ := hR16_9
    obtain ⟨A18, c18, rfl, rfl, bl18, bh18⟩ := hR16_10
    obtain ⟨rfl, rfl⟩ : v16_11 = .int .i64 aZ.position.player ∧ _ := hR16_11
    obtain ⟨rfl, rfl⟩ : v16_12 = .int .i64 aZ.depth ∧ _ := hR16_12
    obtain ⟨rfl, rfl⟩ : v16_13 = .int .i64 aZ.move ∧ _ := hR16_13
    obtain ⟨rfl, rfl⟩ : v16_14 = .int .i64 aZ.value ∧ _ := hR16_14
    obtain ⟨rfl, rfl⟩ : v16_15 = .int .i64 aZ.margin ∧ _ := hR16_15
    refine JL.e (e_alloc zero_45) ?_
    rintro _ _ _ ⟨b19, rfl, rfl, rfl⟩ _
    refine JL.s (e_store (i := 0) (c' := [.int .i64 aZ.rules.pits, .int .i64 aZ.rules.seeds, .bool aZ.rules.stores, .bool aZ.rules.skip, .bool aZ.rules.relay, .bool aZ.rules.feed, .bool aZ.rules.again, .int .i64 aZ.rules.capture, .int .i64 aZ.rules.slam, .slice A17 aZ.position.pits.length c17, .slice A18 aZ.position.stores.length c18, .int .i64 aZ.position.player, .int .i64 aZ.depth, .int .i64 aZ.move, .int .i64 aZ.value, .int .i64 aZ.margin]) ty_45 rfl rfl rfl rfl rfl rfl rfl rfl) ?_
    rintro _ _ _ ⟨rfl, rfl⟩ _
    refine JL.nil ?_
    refine Js.seq ?_
    refine Js.region ?_
    refine JL.q (q_loadN ty_45 rfl (Mem.boxR (i := 0) rfl 0 16) rfl rfl) ?_
    refine JL.e (e_callO fn_37 rfl (Spl.tup (Spls.cons (Spl.agg (Spls.cons (Spl.val _) (Spls.cons (Spl.val _) (Spls.cons (Spl.val _) (Spls.cons (Spl.val _) (Spls.cons (Spl.val _) (Spls.cons (Spl.val _) (Spls.cons (Spl.val _) (Spls.cons (Spl.val _) (Spls.cons (Spl.val _) (Spls.cons (Spl.ints _ _) (Spls.cons (Spl.ints _ _) (Spls.cons (Spl.val _) (Spls.cons (Spl.val _) (Spls.cons (Spl.val _) (Spls.cons (Spl.val _) (Spls.cons (Spl.val _) Spls.nil))))))))))))))))) (Spls.cons (Spl.val _) Spls.nil))) (fun w hw => c_impl_TurnPuzzle aZ _ w ⟨_, rfl, ⟨rfl, rfl, rfl, rfl, rfl, rfl, rfl, rfl, rfl, (ints_rowok (xs := aZ.position.pits) (hw.pr (i := 1) rfl)), (ints_rowok (xs := aZ.position.stores) (hw.pr (i := 2) rfl)), rfl, rfl, rfl, rfl, rfl, trivial⟩⟩ (by omega) (by omega))) ?_
    rintro v20 _ _ ⟨_, hR21, rfl, rfl⟩ _
    obtain ⟨vs22, rfl, hr22⟩ := hR21
    obtain ⟨v22_0, vs22_0, o22_0, ow22_0, rfl, hR22_0, hs22_0, rfl⟩ := RL_cons hr22
    obtain ⟨v22_1, vs22_1, o22_1, ow22_1, rfl, hR22_1, hs22_1, rfl⟩ := RL_cons hs22_0
    obtain ⟨rfl, rfl⟩ := RL_nil hs22_1
    obtain ⟨vs23, rfl, hr23⟩ := hR22_0
    obtain ⟨v23_0, vs23_0, o23_0, ow23_0, rfl, hR23_0, hs23_0, rfl⟩ := RL_cons hr23
    obtain ⟨v23_1, vs23_1, o23_1, ow23_1, rfl, hR23_1, hs23_1, rfl⟩ := RL_cons hs23_0
    obtain ⟨v23_2, vs23_2, o23_2, ow23_2, rfl, hR23_2, hs23_2, rfl⟩ := RL_cons hs23_1
    obtain ⟨v23_3, vs23_3, o23_3, ow23_3, rfl, hR23_3, hs23_3, rfl⟩ := RL_cons hs23_2
    obtain ⟨v23_4, vs23_4, o23_4, ow23_4, rfl, hR23_4, hs23_4, rfl⟩ := RL_cons hs23_3
    obtain ⟨v23_5, vs23_5, o23_5, ow23_5, rfl, hR23_5, hs23_5, rfl⟩ := RL_cons hs23_4
    obtain ⟨v23_6, vs23_6, o23_6, ow23_6, rfl, hR23_6, hs23_6, rfl⟩ := RL_cons hs23_5
    obtain ⟨v23_7, vs23_7, o23_7, ow23_7, rfl, hR23_7, hs23_7, rfl⟩ := RL_cons hs23_6
    obtain ⟨v23_8, vs23_8, o23_8, ow23_8, rfl, hR23_8, hs23_8, rfl⟩ := RL_cons hs23_7
    obtain ⟨v23_9, vs23_9, o23_9, ow23_9, rfl, hR23_9, hs23_9, rfl⟩ := RL_cons hs23_8
    obtain ⟨v23_10, vs23_10, o23_10, ow23_10, rfl, hR23_10, hs23_10, rfl⟩ := RL_cons hs23_9
    obtain ⟨v23_11, vs23_11, o23_11, ow23_11, rfl, hR23_11, hs23_11, rfl⟩ := RL_cons hs23_10
    obtain ⟨v23_12, vs23_12, o23_12, ow23_12, rfl, hR23_12, hs23_12, rfl⟩ := RL_cons hs23_11
    obtain ⟨v23_13, vs23_13, o23_13, ow23_13, rfl, hR23_13, hs23_13, rfl⟩ := RL_cons hs23_12
    obtain ⟨v23_14, vs23_14, o23_14, ow23_14, rfl, hR23_14, hs23_14, rfl⟩ := RL_cons hs23_13
    obtain ⟨v23_15, vs23_15, o23_15, ow23_15, rfl, hR23_15, hs23_15, rfl⟩ := RL_cons hs23_14
    obtain ⟨rfl, rfl⟩ := RL_nil hs23_15
    obtain ⟨rfl, rfl⟩ : v23_0 = .int .i64 ((((M.turnZ aZ).1).rules).pits) ∧ _ := hR23_0
    obtain ⟨rfl, rfl⟩ : v23_1 = .int .i64 ((((M.turnZ aZ).1).rules).seeds) ∧ _ := hR23_1
    obtain ⟨rfl, rfl⟩ : v23_2 = .bool ((((M.turnZ aZ).1).rules).stores) ∧ _ := hR23_2
    obtain ⟨rfl, rfl⟩ : v23_3 = .bool ((((M.turnZ aZ).1).rules).skip) ∧ _ := hR23_3
    obtain ⟨rfl, rfl⟩ : v23_4 = .bool ((((M.turnZ aZ).1).rules).relay) ∧ _ := hR23_4
    obtain ⟨rfl, rfl⟩ : v23_5 = .bool ((((M.turnZ aZ).1).rules).feed) ∧ _ := hR23_5
    obtain ⟨rfl, rfl⟩ : v23_6 = .bool ((((M.turnZ aZ).1).rules).again) ∧ _ := hR23_6
    obtain ⟨rfl, rfl⟩ : v23_7 = .int .i64 ((((M.turnZ aZ).1).rules).capture) ∧ _ := hR23_7
    obtain ⟨rfl, rfl⟩ : v23_8 = .int .i64 ((((M.turnZ aZ).1).rules).slam) ∧ _ := hR23_8
    obtain ⟨A24, c24, rfl, rfl, bl24, bh24⟩ := hR23_9
    obtain ⟨A25, c25, rfl, rfl, bl25, bh25⟩ := hR23_10
    obtain ⟨rfl, rfl⟩ : v23_11 = .int .i64 ((((M.turnZ aZ).1).position).player) ∧ _ := hR23_11
    obtain ⟨rfl, rfl⟩ : v23_12 = .int .i64 (((M.turnZ aZ).1).depth) ∧ _ := hR23_12
    obtain ⟨rfl, rfl⟩ : v23_13 = .int .i64 (((M.turnZ aZ).1).move) ∧ _ := hR23_13
    obtain ⟨rfl, rfl⟩ : v23_14 = .int .i64 (((M.turnZ aZ).1).value) ∧ _ := hR23_14
    obtain ⟨rfl, rfl⟩ : v23_15 = .int .i64 (((M.turnZ aZ).1).margin) ∧ _ := hR23_15
    obtain ⟨rfl, rfl⟩ : v22_1 = .int .i64 ((M.turnZ aZ).2) ∧ _ := hR22_1
    refine JL.q (OpP.q (p_move rfl)) ?_
    refine JL.q (OpP.q (p_extract rfl rfl)) ?_
    refine JL.q (OpP.q (p_extract rfl rfl)) ?_
    refine JL.e (e_alloc zero_45) ?_
    rintro _ _ _ ⟨b26, rfl, rfl, rfl⟩ _
    refine JL.s (e_store (i := 0) (c' := [.int .i64 ((((M.turnZ aZ).1).rules).pits), .int .i64 ((((M.turnZ aZ).1).rules).seeds), .bool ((((M.turnZ aZ).1).rules).stores), .bool ((((M.turnZ aZ).1).rules).skip), .bool ((((M.turnZ aZ).1).rules).relay), .bool ((((M.turnZ aZ).1).rules).feed), .bool ((((M.turnZ aZ).1).rules).again), .int .i64 ((((M.turnZ aZ).1).rules).capture), .int .i64 ((((M.turnZ aZ).1).rules).slam), .slice A24 (((((M.turnZ aZ).1).position).pits).length) c24, .slice A25 (((((M.turnZ aZ).1).position).stores).length) c25, .int .i64 ((((M.turnZ aZ).1).position).player), .int .i64 (((M.turnZ aZ).1).depth), .int .i64 (((M.turnZ aZ).1).move), .int .i64 (((M.turnZ aZ).1).value), .int .i64 (((M.turnZ aZ).1).margin)]) ty_45 rfl rfl rfl rfl rfl rfl rfl rfl) ?_
    rintro _ _ _ ⟨rfl, rfl⟩ _
    refine JL.q (OpP.q (p_assign rfl)) ?_
    refine JL.nil ?_
    refine Js.seq ?_
    refine Js.seq ?_
    refine Js.region ?_
    refine JL.q (q_loadN ty_45 rfl (Mem.boxR (i := 0) rfl 0 16) rfl rfl) ?_
    refine JL.q (q_loadN ty_45 rfl (Mem.boxR (i := 6) rfl 0 16) rfl rfl) ?_
    refine JL.e (e_callV fn_27 rfl (fun w hw => c_laws_eqPuzzle ((M.turnZ aZ).1) _ ((M.turnZ aZ).1) _ w ⟨_, rfl, ⟨rfl, rfl, rfl, rfl, rfl, rfl, rfl, rfl, rfl, (ints_rowok (xs := ((((M.turnZ aZ).1).position).pits)) (hw.pr (i := 1) rfl)), (ints_rowok (xs := ((((M.turnZ aZ).1).position).stores)) (hw.pr (i := 2) rfl)), rfl, rfl, rfl, rfl, rfl, trivial⟩⟩ ⟨_, rfl, ⟨rfl, rfl, rfl, rfl, rfl, rfl, rfl, rfl, rfl, (Ty.mono _ h12_9 hw.vis), (Ty.mono _ h12_10 hw.vis), rfl, rfl, rfl, rfl, rfl, trivial⟩⟩ (by omega) (by omega) (by omega) (by omega))) ?_
    rintro _ _ _ ⟨rfl, rfl, rfl⟩ _
    refine JL.q (OpP.q (p_not rfl)) ?_
    refine JL.q (OpP.q (p_move rfl)) ?_
    refine JL.g (Gd.f1 rfl rfl rfl) (fun hc => OpP.q (p_move rfl)) ?_
    refine JL.g (Gd.f1 rfl rfl rfl) (fun hc => OpP.q (p_move rfl)) ?_
    refine JL.g (Gd.f1 rfl rfl rfl) (fun hc => OpP.q (p_neq (gvt rfl hc) (gvt rfl hc))) ?_
    refine JL.q (OpP.q (p_pickOr rfl rfl rfl)) ?_
    refine JL.nil ?_
    refine Js.cond rfl (fun h27 => ?_) (fun h27 => ?_)
    ·
      exact absurd h27 (by simp)
    ·
      have h27' := h27
      try simp only [Bool.or_eq_false_iff, Bool.not_eq_false', decide_eq_true_eq] at h27'
      refine Js.skip ?_
      refine Js.seq ?_
      refine Js.seq ?_
      refine Js.drawn _ [] mixed_ (fun _ h => h) ?_
      refine JH.q 0 rfl (q_loadN ty_45 rfl (Mem.boxR (i := 3) rfl 0 16) rfl rfl) ?_
      refine JH.q 1 rfl (q_loadN ty_51 rfl (Mem.boxR (i := 7) rfl 0 16) rfl rfl) ?_
      refine JH.one (i := 2) (by kernel_rfl) ?_
      refine JHo.e rfl (e_callP fn_32 rfl (fun w hw => c_laws_toPuzzle aZ _ w ⟨_, rfl, ⟨rfl, rfl, rfl, rfl, rfl, rfl, rfl, rfl, rfl, (Ty.mono _ h1_9 ((x6.vis.trans x10.vis).trans hw.vis)), (Ty.mono _ h1_10 ((x6.vis.trans x10.vis).trans hw.vis)), rfl, rfl, rfl, rfl, rfl, trivial⟩⟩ (by omega) (by omega))) (.inl rfl) ?_
      rintro v28 _ u30 ⟨h29, rfl⟩ x30
      obtain ⟨A31_9, c31_9, A31_10, c31_10, rfl, h31_9, h31_10, bl31_9, bh31_9, bl31_10, bh31_10⟩ := open_Puzzle h29
      refine JH.one (i := 3) (by kernel_rfl) ?_
      refine JHo.e rfl (e_callV fn_27 rfl (fun w hw => c_laws_eqPuzzle aZ _ aZ _ w ⟨_, rfl, ⟨rfl, rfl, rfl, rfl, rfl, rfl, rfl, rfl, rfl, (ints_rowok (xs := aZ.position.pits) (hw.pr (i := 4) rfl)), (ints_rowok (xs := aZ.position.stores) (hw.pr (i := 5) rfl)), rfl, rfl, rfl, rfl, rfl, trivial⟩⟩ ⟨_, rfl, ⟨rfl, rfl, rfl, rfl, rfl, rfl, rfl, rfl, rfl, (Ty.mono _ h31_9 hw.vis), (Ty.mono _ h31_10 hw.vis), rfl, rfl, rfl, rfl, rfl, trivial⟩⟩ (by omega) (by omega) (by omega) (by omega))) (.inl rfl) ?_
      rintro _ _ _ ⟨rfl, rfl, rfl⟩ _
      refine JH.p 4 rfl (p_not rfl) ?_
      refine JH.done (by kernel_rfl) ?_
      refine Js.cond rfl (fun h32 => ?_) (fun h32 => ?_)
      ·
        exact absurd h32 (by simp)
      ·
        have h32' := h32
        try simp only [Bool.not_eq_false', decide_eq_true_eq] at h32'
        refine Js.skip ?_
        refine Js.seq ?_
        refine Js.region ?_
        refine JL.q (OpP.q (p_assign rfl)) ?_
        refine JL.nil ?_
        refine Js.seq ?_
        refine Js.region ?_
        refine JL.q (q_loadN ty_45 rfl (Mem.boxR (i := 3) rfl 0 16) rfl rfl) ?_
        refine JL.q (OpP.q (p_move rfl)) ?_
        refine JL.conv (fun _ h => h.front (i := 5) rfl) ?_
        refine JL.conv (fun _ h => h.front (i := 5) rfl) ?_
        refine JL.e (e_callB (bs := [rowO 2 1 (.slice A17 aZ.position.pits.length c17) aZ.position.pits.length (ints_ aZ.position.pits) [], rowO 2 1 (.slice A18 aZ.position.stores.length c18) aZ.position.stores.length (ints_ aZ.position.stores) []]) (rest := [boxO b26 [.int .i64 ((((M.turnZ aZ).1).rules).pits), .int .i64 ((((M.turnZ aZ).1).rules).seeds), .bool ((((M.turnZ aZ).1).rules).stores), .bool ((((M.turnZ aZ).1).rules).skip), .bool ((((M.turnZ aZ).1).rules).relay), .bool ((((M.turnZ aZ).1).rules).feed), .bool ((((M.turnZ aZ).1).rules).again), .int .i64 ((((M.turnZ aZ).1).rules).capture), .int .i64 ((((M.turnZ aZ).1).rules).slam), .slice A24 (((((M.turnZ aZ).1).position).pits).length) c24, .slice A25 (((((M.turnZ aZ).1).position).stores).length) c25, .int .i64 ((((M.turnZ aZ).1).position).player), .int .i64 (((M.turnZ aZ).1).depth), .int .i64 (((M.turnZ aZ).1).move), .int .i64 (((M.turnZ aZ).1).value), .int .i64 (((M.turnZ aZ).1).margin)] 45, rowO 2 1 (.slice A24 (((((M.turnZ aZ).1).position).pits).length) c24) (((((M.turnZ aZ).1).position).pits).length) (ints_ ((((M.turnZ aZ).1).position).pits)) [], rowO 2 1 (.slice A25 (((((M.turnZ aZ).1).position).stores).length) c25) (((((M.turnZ aZ).1).position).stores).length) (ints_ ((((M.turnZ aZ).1).position).stores)) [], boxO b19 [.int .i64 aZ.rules.pits, .int .i64 aZ.rules.seeds, .bool aZ.rules.stores, .bool aZ.rules.skip, .bool aZ.rules.relay, .bool aZ.rules.feed, .bool aZ.rules.again, .int .i64 aZ.rules.capture, .int .i64 aZ.rules.slam, .slice A17 aZ.position.pits.length c17, .slice A18 aZ.position.stores.length c18, .int .i64 aZ.position.player, .int .i64 aZ.depth, .int .i64 aZ.move, .int .i64 aZ.value, .int .i64 aZ.margin] 45, boxO b13 [.int .i64 ((((M.turnZ aZ).1).rules).pits), .int .i64 ((((M.turnZ aZ).1).rules).seeds), .bool ((((M.turnZ aZ).1).rules).stores), .bool ((((M.turnZ aZ).1).rules).skip), .bool ((((M.turnZ aZ).1).rules).relay), .bool ((((M.turnZ aZ).1).rules).feed), .bool ((((M.turnZ aZ).1).rules).again), .int .i64 ((((M.turnZ aZ).1).rules).capture), .int .i64 ((((M.turnZ aZ).1).rules).slam), .slice A12_9 (((((M.turnZ aZ).1).position).pits).length) c12_9, .slice A12_10 (((((M.turnZ aZ).1).position).stores).length) c12_10, .int .i64 ((((M.turnZ aZ).1).position).player), .int .i64 (((M.turnZ aZ).1).depth), .int .i64 (((M.turnZ aZ).1).move), .int .i64 (((M.turnZ aZ).1).value), .int .i64 (((M.turnZ aZ).1).margin)] 45, boxO b2 [.int .i64 aZ.rules.pits, .int .i64 aZ.rules.seeds, .bool aZ.rules.stores, .bool aZ.rules.skip, .bool aZ.rules.relay, .bool aZ.rules.feed, .bool aZ.rules.again, .int .i64 aZ.rules.capture, .int .i64 aZ.rules.slam, .slice A1_9 aZ.position.pits.length c1_9, .slice A1_10 aZ.position.stores.length c1_10, .int .i64 aZ.position.player, .int .i64 aZ.depth, .int .i64 aZ.move, .int .i64 aZ.value, .int .i64 aZ.margin] 51]) fn_28 rfl (fun w hb hw => c_laws_markPuzzle aZ.rules aZ.position aZ.depth aZ.move aZ.value aZ.margin A17 c17 [] A18 c18 [] 1 w hb (by omega) (by omega) (by omega) (by omega) (by omega) (by omega) (by omega) (by omega)) rfl) ?_
        rintro _ _ _ ⟨_, G33, ⟨rfl, rfl⟩, rfl, rfl⟩ _
        refine JL.q (OpP.q (p_assign rfl)) ?_
        refine JL.nil ?_
        refine Js.seq ?_
        refine Js.seq ?_
        refine Js.region ?_
        refine JL.q (OpP.q (p_move rfl)) ?_
        refine JL.q (OpP.q (p_lss rfl rfl)) ?_
        refine JL.q (OpP.q (p_move rfl)) ?_
        refine JL.g (Gd.f1 rfl rfl rfl) (fun hc => q_loadN ty_45 rfl (Mem.boxR (i := 3) rfl 0 16) rfl rfl) ?_
        refine JL.g (Gd.f1 rfl rfl rfl) (fun hc => q_loadN ty_45 rfl (Mem.boxR (i := 7) rfl 0 16) rfl rfl) ?_
        refine JL.ge (Gd.f1 rfl rfl rfl) (fun hc => e_callV fn_27 (opds_2 (gvt rfl hc) (gvt rfl hc)) (fun w hw => c_laws_eqPuzzle ((M.turnZ aZ).1) _ ((M.turnZ aZ).1) _ w ⟨_, rfl, ⟨rfl, rfl, rfl, rfl, rfl, rfl, rfl, rfl, rfl, (ints_rowok (xs := ((((M.turnZ aZ).1).position).pits)) (hw.pr (i := 4) rfl)), (ints_rowok (xs := ((((M.turnZ aZ).1).position).stores)) (hw.pr (i := 5) rfl)), rfl, rfl, rfl, rfl, rfl, trivial⟩⟩ ⟨_, rfl, ⟨rfl, rfl, rfl, rfl, rfl, rfl, rfl, rfl, rfl, (Ty.mono _ h12_9 (x30.vis.trans hw.vis)), (Ty.mono _ h12_10 (x30.vis.trans hw.vis)), rfl, rfl, rfl, rfl, rfl, trivial⟩⟩ (by have hc9 := hc; (try simp only [Bool.not_eq_true', decide_eq_false_iff_not, Int.not_lt] at hc9); omega) (by have hc9 := hc; (try simp only [Bool.not_eq_true', decide_eq_false_iff_not, Int.not_lt] at hc9); omega) (by have hc9 := hc; (try simp only [Bool.not_eq_true', decide_eq_false_iff_not, Int.not_lt] at hc9); omega) (by have hc9 := hc; (try simp only [Bool.not_eq_true', decide_eq_false_iff_not, Int.not_lt] at hc9); omega))) ?_
        refine JL.g (Gd.f1 rfl rfl rfl) (fun hc => OpP.q (p_not (gvt rfl hc))) ?_
        refine JL.q (OpP.q (p_pickOr rfl rfl rfl)) ?_
        refine JL.q (OpP.q (p_move rfl)) ?_
        refine JL.g (Gd.f1 rfl rfl rfl) (fun hc => OpP.q (p_move rfl)) ?_
        refine JL.g (Gd.f1 rfl rfl rfl) (fun hc => OpP.q (p_move rfl)) ?_
        refine JL.g (Gd.f1 rfl rfl rfl) (fun hc => OpP.q (p_neq (gvt rfl hc) (gvt rfl hc))) ?_
        refine JL.q (OpP.q (p_pickOr rfl rfl rfl)) ?_
        refine JL.nil ?_
        refine Js.cond rfl (fun h34 => ?_) (fun h34 => ?_)
        ·
          exact absurd h34 (by simp only [decide_true, Bool.not_true, Bool.or_false, decide_eq_true_eq]; omega)
        ·
          have h34' := h34
          try simp only [Bool.or_eq_false_iff, decide_eq_false_iff_not, Int.not_lt, Bool.not_eq_false', decide_eq_true_eq] at h34'
          refine Js.skip ?_
          refine Js.seq ?_
          refine Js.region ?_
          refine JL.q (OpP.q (p_assign rfl)) ?_
          refine JL.nil ?_
          refine Js.seq ?_
          refine Js.region ?_
          refine JL.q (q_loadN ty_45 rfl (Mem.boxR (i := 3) rfl 0 16) rfl rfl) ?_
          refine JL.q (OpP.q (p_move rfl)) ?_
          refine JL.conv (fun _ h => h.front (i := 5) rfl) ?_
          refine JL.conv (fun _ h => h.front (i := 5) rfl) ?_
          refine JL.e (e_callB (bs := [rowO 2 1 (.slice A24 (((((M.turnZ aZ).1).position).pits).length) c24) (((((M.turnZ aZ).1).position).pits).length) (ints_ ((((M.turnZ aZ).1).position).pits)) [], rowO 2 1 (.slice A25 (((((M.turnZ aZ).1).position).stores).length) c25) (((((M.turnZ aZ).1).position).stores).length) (ints_ ((((M.turnZ aZ).1).position).stores)) []]) (rest := [rowO 2 1 (.slice A17 aZ.position.pits.length c17) aZ.position.pits.length (ints_ ((M.markP aZ.position 1).pits)) [], rowO 2 1 (.slice A18 aZ.position.stores.length c18) aZ.position.stores.length (ints_ ((M.markP aZ.position 1).stores)) [], anyO G33, boxO b26 [.int .i64 ((((M.turnZ aZ).1).rules).pits), .int .i64 ((((M.turnZ aZ).1).rules).seeds), .bool ((((M.turnZ aZ).1).rules).stores), .bool ((((M.turnZ aZ).1).rules).skip), .bool ((((M.turnZ aZ).1).rules).relay), .bool ((((M.turnZ aZ).1).rules).feed), .bool ((((M.turnZ aZ).1).rules).again), .int .i64 ((((M.turnZ aZ).1).rules).capture), .int .i64 ((((M.turnZ aZ).1).rules).slam), .slice A24 (((((M.turnZ aZ).1).position).pits).length) c24, .slice A25 (((((M.turnZ aZ).1).position).stores).length) c25, .int .i64 ((((M.turnZ aZ).1).position).player), .int .i64 (((M.turnZ aZ).1).depth), .int .i64 (((M.turnZ aZ).1).move), .int .i64 (((M.turnZ aZ).1).value), .int .i64 (((M.turnZ aZ).1).margin)] 45, boxO b19 [.int .i64 aZ.rules.pits, .int .i64 aZ.rules.seeds, .bool aZ.rules.stores, .bool aZ.rules.skip, .bool aZ.rules.relay, .bool aZ.rules.feed, .bool aZ.rules.again, .int .i64 aZ.rules.capture, .int .i64 aZ.rules.slam, .slice A17 aZ.position.pits.length c17, .slice A18 aZ.position.stores.length c18, .int .i64 aZ.position.player, .int .i64 aZ.depth, .int .i64 aZ.move, .int .i64 aZ.value, .int .i64 aZ.margin] 45, boxO b13 [.int .i64 ((((M.turnZ aZ).1).rules).pits), .int .i64 ((((M.turnZ aZ).1).rules).seeds), .bool ((((M.turnZ aZ).1).rules).stores), .bool ((((M.turnZ aZ).1).rules).skip), .bool ((((M.turnZ aZ).1).rules).relay), .bool ((((M.turnZ aZ).1).rules).feed), .bool ((((M.turnZ aZ).1).rules).again), .int .i64 ((((M.turnZ aZ).1).rules).capture), .int .i64 ((((M.turnZ aZ).1).rules).slam), .slice A12_9 (((((M.turnZ aZ).1).position).pits).length) c12_9, .slice A12_10 (((((M.turnZ aZ).1).position).stores).length) c12_10, .int .i64 ((((M.turnZ aZ).1).position).player), .int .i64 (((M.turnZ aZ).1).depth), .int .i64 (((M.turnZ aZ).1).move), .int .i64 (((M.turnZ aZ).1).value), .int .i64 (((M.turnZ aZ).1).margin)] 45, boxO b2 [.int .i64 aZ.rules.pits, .int .i64 aZ.rules.seeds, .bool aZ.rules.stores, .bool aZ.rules.skip, .bool aZ.rules.relay, .bool aZ.rules.feed, .bool aZ.rules.again, .int .i64 aZ.rules.capture, .int .i64 aZ.rules.slam, .slice A1_9 aZ.position.pits.length c1_9, .slice A1_10 aZ.position.stores.length c1_10, .int .i64 aZ.position.player, .int .i64 aZ.depth, .int .i64 aZ.move, .int .i64 aZ.value, .int .i64 aZ.margin] 51]) fn_28 rfl (fun w hb hw => c_laws_markPuzzle (((M.turnZ aZ).1).rules) (((M.turnZ aZ).1).position) (((M.turnZ aZ).1).depth) (((M.turnZ aZ).1).move) (((M.turnZ aZ).1).value) (((M.turnZ aZ).1).margin) A24 c24 [] A25 c25 [] 1 w hb (by omega) (by omega) (by omega) (by omega) (by omega) (by omega) (by omega) (by omega)) rfl) ?_
          rintro _ _ _ ⟨_, G35, ⟨rfl, rfl⟩, rfl, rfl⟩ _
          refine JL.q (OpP.q (p_assign rfl)) ?_
          refine JL.nil ?_
          refine Js.seq ?_
          refine Js.region ?_
          refine JL.q (OpP.q (p_assign rfl)) ?_
          refine JL.nil ?_
          refine Js.seq ?_
          refine Js.region ?_
          refine JL.q (q_loadN ty_45 rfl (Mem.boxR (i := 6) rfl 0 16) rfl rfl) ?_
          refine JL.q (OpP.q (p_move rfl)) ?_
          refine JL.e (e_callV fn_29 rfl (fun w hw => c_laws_heldPuzzle (M.Puz.mk (((M.turnZ aZ).1).rules) (M.Pos.mk ((M.markP (((M.turnZ aZ).1).position) 1).pits) ((M.markP (((M.turnZ aZ).1).position) 1).stores) ((((M.turnZ aZ).1).position).player)) (((M.turnZ aZ).1).depth) (((M.turnZ aZ).1).move) (((M.turnZ aZ).1).value) (((M.turnZ aZ).1).margin)) _ 1 w ⟨_, rfl, ⟨rfl, rfl, rfl, rfl, rfl, rfl, rfl, rfl, rfl, (ints_rowok (xs := ((M.markP (((M.turnZ aZ).1).position) 1).pits)) (hw.pr (i := 0) rfl)), (ints_rowok (xs := ((M.markP (((M.turnZ aZ).1).position) 1).stores)) (hw.pr (i := 1) rfl)), rfl, rfl, rfl, rfl, rfl, trivial⟩⟩ (by simp only [M.markP, M.up_length]; omega) (by simp only [M.markP, M.up_length]; omega) (by omega) (by omega))) ?_
          rintro _ _ _ ⟨rfl, rfl, rfl⟩ _
          refine JL.q (OpP.q (p_assign rfl)) ?_
          refine JL.nil ?_
          refine Js.seq ?_
          refine Js.seq ?_
          refine Js.region ?_
          refine JL.q (OpP.q (p_move rfl)) ?_
          refine JL.q (OpP.q (p_lss rfl rfl)) ?_
          refine JL.nil ?_
          refine Js.cond rfl (fun h36 => ?_) (fun h36 => ?_)
          ·
            have h9 : decide (M.heldP (M.markP (M.turnZ aZ).1.position 1) 1 < 0) = true := h36; rw [M.heldP_mark (M.turnZ aZ).1.position (k := 1) (by decide)] at h9; simp only [decide_eq_true_eq] at h9; have h8 := M.szp_nn (M.turnZ aZ).1.position; omega
          ·
            have h36' := h36
            try simp only [decide_eq_false_iff_not, Int.not_lt] at h36'
            refine Js.skip ?_
            refine Js.seq ?_
            refine Js.seq ?_
            refine Js.region ?_
            refine JL.q (OpP.q (p_move rfl)) ?_
            refine JL.q (OpP.q (p_move rfl)) ?_
            refine JL.q (OpP.q (p_neq rfl rfl)) ?_
            refine JL.nil ?_
            refine Js.cond rfl (fun h37 => ?_) (fun h37 => ?_)
            ·
              have h9 : (!decide (M.heldP (M.markP (M.turnZ aZ).1.position 1) 1 = 1 + ((M.turnZ aZ).1.position.pits.length : Int) + ((M.turnZ aZ).1.position.stores.length : Int))) = true := h37; rw [M.heldP_mark (M.turnZ aZ).1.position (k := 1) (by decide)] at h9; simp [M.szp, Int.add_assoc] at h9
            ·
              have h37' := h37
              try simp only [Bool.not_eq_false', decide_eq_true_eq] at h37'
              refine Js.skip ?_
              refine Js.seq ?_
              refine Js.region ?_
              refine JL.q (q_loadN ty_51 rfl (Mem.boxR (i := 9) rfl 0 16) rfl rfl) ?_
              refine JL.e (e_callP fn_32 rfl (fun w hw => c_laws_toPuzzle aZ _ w ⟨_, rfl, ⟨rfl, rfl, rfl, rfl, rfl, rfl, rfl, rfl, rfl, (Ty.mono _ h1_9 (((x6.vis.trans x10.vis).trans x30.vis).trans hw.vis)), (Ty.mono _ h1_10 (((x6.vis.trans x10.vis).trans x30.vis).trans hw.vis)), rfl, rfl, rfl, rfl, rfl, trivial⟩⟩ (by omega) (by omega))) ?_
              rintro v38 _ u40 ⟨h39, rfl⟩ x40
              obtain ⟨A41_9, c41_9, A41_10, c41_10, rfl, h41_9, h41_10, bl41_9, bh41_9, bl41_10, bh41_10⟩ := open_Puzzle h39
              refine JL.e (e_callP fn_37 rfl (fun w hw => c_impl_TurnPuzzle aZ _ w ⟨_, rfl, ⟨rfl, rfl, rfl, rfl, rfl, rfl, rfl, rfl, rfl, (Ty.mono _ h41_9 hw.vis), (Ty.mono _ h41_10 hw.vis), rfl, rfl, rfl, rfl, rfl, trivial⟩⟩ (by omega) (by omega))) ?_
              rintro v42 _ u44 ⟨h43, rfl⟩ x44
              obtain ⟨vs45, rfl, hv45⟩ := h43
              obtain ⟨v45_0, vs45, rfl, hw45_0, hv45⟩ := cellsOk_cons hv45
              obtain ⟨v45_1, vs45, rfl, hw45_1, hv45⟩ := cellsOk_cons hv45
              obtain rfl := cellsOk_nil hv45
              obtain ⟨A46_9, c46_9, A46_10, c46_10, rfl, h46_9, h46_10, bl46_9, bh46_9, bl46_10, bh46_10⟩ := open_Puzzle hw45_0
              obtain rfl : v45_1 = .int .i64 ((M.turnZ aZ).2) := hw45_1
              refine JL.q (OpP.q (p_move rfl)) ?_
              refine JL.q (OpP.q (p_extract rfl rfl)) ?_
              refine JL.q (OpP.q (p_extract rfl rfl)) ?_
              refine JL.e (e_alloc zero_45) ?_
              rintro _ _ _ ⟨b47, rfl, rfl, rfl⟩ _
              refine JL.s (e_store (i := 0) (c' := [.int .i64 ((((M.turnZ aZ).1).rules).pits), .int .i64 ((((M.turnZ aZ).1).rules).seeds), .bool ((((M.turnZ aZ).1).rules).stores), .bool ((((M.turnZ aZ).1).rules).skip), .bool ((((M.turnZ aZ).1).rules).relay), .bool ((((M.turnZ aZ).1).rules).feed), .bool ((((M.turnZ aZ).1).rules).again), .int .i64 ((((M.turnZ aZ).1).rules).capture), .int .i64 ((((M.turnZ aZ).1).rules).slam), .slice A46_9 (((((M.turnZ aZ).1).position).pits).length) c46_9, .slice A46_10 (((((M.turnZ aZ).1).position).stores).length) c46_10, .int .i64 ((((M.turnZ aZ).1).position).player), .int .i64 (((M.turnZ aZ).1).depth), .int .i64 (((M.turnZ aZ).1).move), .int .i64 (((M.turnZ aZ).1).value), .int .i64 (((M.turnZ aZ).1).margin)]) ty_45 rfl rfl rfl rfl rfl rfl rfl rfl) ?_
              rintro _ _ _ ⟨rfl, rfl⟩ _
              refine JL.q (OpP.q (p_assign rfl)) ?_
              refine JL.nil ?_
              refine Js.seq ?_
              refine Js.seq ?_
              refine Js.region ?_
              refine JL.q (q_loadN ty_45 rfl (Mem.boxR (i := 0) rfl 0 16) rfl rfl) ?_
              refine JL.q (q_loadN ty_45 rfl (Mem.boxR (i := 9) rfl 0 16) rfl rfl) ?_
              refine JL.e (e_callV fn_27 rfl (fun w hw => c_laws_eqPuzzle ((M.turnZ aZ).1) _ ((M.turnZ aZ).1) _ w ⟨_, rfl, ⟨rfl, rfl, rfl, rfl, rfl, rfl, rfl, rfl, rfl, (Ty.mono _ h46_9 hw.vis), (Ty.mono _ h46_10 hw.vis), rfl, rfl, rfl, rfl, rfl, trivial⟩⟩ ⟨_, rfl, ⟨rfl, rfl, rfl, rfl, rfl, rfl, rfl, rfl, rfl, (Ty.mono _ h12_9 (((x30.vis.trans x40.vis).trans x44.vis).trans hw.vis)), (Ty.mono _ h12_10 (((x30.vis.trans x40.vis).trans x44.vis).trans hw.vis)), rfl, rfl, rfl, rfl, rfl, trivial⟩⟩ (by omega) (by omega) (by omega) (by omega))) ?_
              rintro _ _ _ ⟨rfl, rfl, rfl⟩ _
              refine JL.q (OpP.q (p_not rfl)) ?_
              refine JL.q (OpP.q (p_move rfl)) ?_
              refine JL.g (Gd.f1 rfl rfl rfl) (fun hc => OpP.q (p_move rfl)) ?_
              refine JL.g (Gd.f1 rfl rfl rfl) (fun hc => OpP.q (p_move rfl)) ?_
              refine JL.g (Gd.f1 rfl rfl rfl) (fun hc => OpP.q (p_neq (gvt rfl hc) (gvt rfl hc))) ?_
              refine JL.q (OpP.q (p_pickOr rfl rfl rfl)) ?_
              refine JL.nil ?_
              refine Js.condF rfl h27 ?_
              refine Js.skip ?_
              refine Js.seq ?_
              refine Js.region ?_
              refine JL.q (OpP.q (p_assign rfl)) ?_
              refine JL.nil ?_
              refine Js.seq ?_
              refine Js.region ?_
              refine JL.q (q_loadN ty_45 rfl (Mem.boxR (i := 7) rfl 0 16) rfl rfl) ?_
              refine JL.q (OpP.q (p_move rfl)) ?_
              refine JL.e (e_callV fn_29 rfl (fun w hw => c_laws_heldPuzzle (M.Puz.mk (((M.turnZ aZ).1).rules) (M.Pos.mk ((M.markP (((M.turnZ aZ).1).position) 1).pits) ((M.markP (((M.turnZ aZ).1).position) 1).stores) ((((M.turnZ aZ).1).position).player)) (((M.turnZ aZ).1).depth) (((M.turnZ aZ).1).move) (((M.turnZ aZ).1).value) (((M.turnZ aZ).1).margin)) _ 1 w ⟨_, rfl, ⟨rfl, rfl, rfl, rfl, rfl, rfl, rfl, rfl, rfl, (ints_rowok (xs := ((M.markP (((M.turnZ aZ).1).position) 1).pits)) (hw.pr (i := 1) rfl)), (ints_rowok (xs := ((M.markP (((M.turnZ aZ).1).position) 1).stores)) (hw.pr (i := 2) rfl)), rfl, rfl, rfl, rfl, rfl, trivial⟩⟩ (by simp only [M.markP, M.up_length]; omega) (by simp only [M.markP, M.up_length]; omega) (by omega) (by omega))) ?_
              rintro _ _ _ ⟨rfl, rfl, rfl⟩ _
              refine JL.q (OpP.q (p_assign rfl)) ?_
              refine JL.nil ?_
              refine Js.seq ?_
              refine Js.seq ?_
              refine Js.region ?_
              refine JL.q (OpP.q (p_move rfl)) ?_
              refine JL.q (OpP.q (p_lss rfl rfl)) ?_
              refine JL.nil ?_
              refine Js.condF rfl h36 ?_
              refine Js.skip ?_
              refine Js.seq ?_
              refine Js.seq ?_
              refine Js.region ?_
              refine JL.q (OpP.q (p_move rfl)) ?_
              refine JL.q (OpP.q (p_move rfl)) ?_
              refine JL.q (OpP.q (p_neq rfl rfl)) ?_
              refine JL.nil ?_
              refine Js.condF rfl h37 ?_
              refine Js.skip ?_
              refine Js.seq ?_
              refine Js.region ?_
              refine JL.q (OpP.q (p_assign rfl)) ?_
              refine JL.nil ?_
              refine Js.ret (R := RV w (.bool true)) @Try.results8 (fun _ _ => rfl) (ResOk.tmp rfl ResOk.nil) (fun w1 hw => ?_)
              refine ⟨?_, hw.ext (((((x6.trans x10).trans x30).trans x40).trans x44))⟩
              first | rfl | (simp [outV]; done)

end Go.Proofs.Ytinkeciedmjjmaa

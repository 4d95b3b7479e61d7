/- Walks: L4. -/
import Derived.Test.YtejnmechnhgmfaaTy
import Derived.Test.YtejnmechnhgmfaaG6
import Derived.Test.YtejnmechnhgmfaaK5
import Derived.Test.YtejnmechnhgmfaaL1
set_option linter.unusedSimpArgs false
set_option linter.unusedVariables false
namespace Go.Proofs.Ytejnmechnhgmfaa
open Go.RowKit

set_option maxRecDepth 100000 in
set_option maxHeartbeats 400000 in
theorem c_laws_FnExactEndOf (aG : M.Gam) (v_aG : Value) (w : World) (h_aG : (Ty.agg (cGame aG)).ok w v_aG) : RetV Try.prog 9 [v_aG] w (.bool true) := by
  have q4 := M.szL_cases (aG.start.pits.length + aG.start.stores.length + aG.moves.length + aG.now.pits.length + aG.now.stores.length) 1048576
  change (1048576 < _ ∧ M.szG aG 1048576 = -1) ∨ (_ ≤ _ ∧ M.szG aG 1048576 = _) at q4
  obtain ⟨A1_9, c1_9, A1_10, c1_10, A1_12, c1_12, A1_13, c1_13, A1_14, c1_14, rfl, h1_9, h1_10, h1_12, h1_13, h1_14, bl1_9, bh1_9, bl1_10, bh1_10, bl1_12, bh1_12, bl1_13, bh1_13, bl1_14, bh1_14⟩ := open_Game h_aG
  refine enter @Try.func9 @Try.ntmps9 rfl rfl ?_
  refine Js.seq ?_
  refine Js.region ?_
  refine JL.e (e_box (c := [.int .i64 aG.rules.pits, .int .i64 aG.rules.seeds, .bool aG.rules.stores, .bool aG.rules.skip, .bool aG.rules.relay, .bool aG.rules.feed, .bool aG.rules.again, .int .i64 aG.rules.capture, .int .i64 aG.rules.slam, .slice A1_9 aG.start.pits.length c1_9, .slice A1_10 aG.start.stores.length c1_10, .int .i64 aG.start.player, .slice A1_12 aG.moves.length c1_12, .slice A1_13 aG.now.pits.length c1_13, .slice A1_14 aG.now.stores.length c1_14, .int .i64 aG.now.player, .int .i64 aG.resigned]) rfl rfl) rfl rfl rfl ?_
  rintro _ _ _ ⟨b2, rfl, rfl, rfl⟩ _
  refine JL.q (OpP.q (p_assign rfl)) rfl rfl rfl ?_
  refine JL.nil ?_
  refine Js.seq ?_
  refine Js.region ?_
  refine JL.q (OpP.q (p_assign rfl)) rfl rfl rfl ?_
  refine JL.nil ?_
  refine Js.seq ?_
  refine Js.region ?_
  refine JL.q (q_loadN ty_28 rfl (Mem.boxR (i := 0) rfl 0 17) rfl rfl) rfl rfl rfl ?_
  refine JL.q (OpP.q (p_move rfl)) rfl rfl rfl ?_
  refine JL.e (e_callV fn_17 rfl (fun w hw => c_laws_szGame aG _ 1048576 w ⟨_, rfl, ⟨rfl, rfl, rfl, rfl, rfl, rfl, rfl, rfl, rfl, (Ty.mono _ h1_9 hw.vis), (Ty.mono _ h1_10 hw.vis), rfl, (Ty.mono _ h1_12 hw.vis), (Ty.mono _ h1_13 hw.vis), (Ty.mono _ h1_14 hw.vis), rfl, rfl, trivial⟩⟩ (by omega) (by omega))) rfl rfl rfl ?_
  rintro _ _ _ ⟨rfl, rfl, rfl⟩ _
  refine JL.q (OpP.q (p_assign rfl)) rfl rfl rfl ?_
  refine JL.nil ?_
  refine Js.seq ?_
  refine Js.seq ?_
  refine Js.region ?_
  refine JL.q (OpP.q (p_move rfl)) rfl rfl rfl ?_
  refine JL.q (OpP.q (p_lss rfl rfl)) rfl rfl rfl ?_
  refine JL.nil ?_
  refine Js.cond rfl (fun h3 => ?_) (fun h3 => ?_)
  ·
    have h3' := h3
    try simp only [decide_eq_true_eq] at h3'
    refine Js.seq ?_
    refine Js.region ?_
    refine JL.q (OpP.q (p_assign rfl)) rfl rfl rfl ?_
    refine JL.nil ?_
    refine Js.ret (R := RV w (.bool true)) @Try.results9 (fun _ _ => rfl) (ResOk.tmp rfl ResOk.nil) (fun w1 hw => ?_)
    refine ⟨?_, hw.ext (Up.refl _ _)⟩
    first | rfl | (simp [outV]; done)
  ·
    have h3' := h3
    try simp only [decide_eq_false_iff_not, Int.not_lt] at h3'
    refine Js.skip ?_
    refine Js.seq ?_
    refine Js.region ?_
    refine JL.q (q_loadN ty_28 rfl (Mem.boxR (i := 0) rfl 0 17) rfl rfl) rfl rfl rfl ?_
    refine JL.e (e_callP fn_19 rfl (fun w hw => c_laws_toGame aG _ w ⟨_, rfl, ⟨rfl, rfl, rfl, rfl, rfl, rfl, rfl, rfl, rfl, (Ty.mono _ h1_9 hw.vis), (Ty.mono _ h1_10 hw.vis), rfl, (Ty.mono _ h1_12 hw.vis), (Ty.mono _ h1_13 hw.vis), (Ty.mono _ h1_14 hw.vis), rfl, rfl, trivial⟩⟩ (by omega) (by omega) (by omega) (by omega) (by omega))) rfl rfl rfl ?_
    rintro v4 _ u6 ⟨h5, rfl⟩ x6
    obtain ⟨A7_9, c7_9, A7_10, c7_10, A7_12, c7_12, A7_13, c7_13, A7_14, c7_14, rfl, h7_9, h7_10, h7_12, h7_13, h7_14, bl7_9, bh7_9, bl7_10, bh7_10, bl7_12, bh7_12, bl7_13, bh7_13, bl7_14, bh7_14⟩ := open_Game h5
    refine JL.e (e_callV fn_40 rfl (fun w hw => c_spec_EndOf aG _ w ⟨_, rfl, ⟨rfl, rfl, rfl, rfl, rfl, rfl, rfl, rfl, rfl, (Ty.mono _ h7_9 hw.vis), (Ty.mono _ h7_10 hw.vis), rfl, (Ty.mono _ h7_12 hw.vis), (Ty.mono _ h7_13 hw.vis), (Ty.mono _ h7_14 hw.vis), rfl, rfl, trivial⟩⟩ (by omega) (by omega) (by omega) (by omega) (by omega))) rfl rfl rfl ?_
    rintro _ _ _ ⟨rfl, rfl, rfl⟩ _
    refine JL.q (OpP.q (p_move rfl)) rfl rfl rfl ?_
    refine JL.q (OpP.q (p_extract rfl rfl)) rfl rfl rfl ?_
    refine JL.q (OpP.q (p_extract rfl rfl)) rfl rfl rfl ?_
    refine JL.q (OpP.q (p_assign rfl)) rfl rfl rfl ?_
    refine JL.q (OpP.q (p_assign rfl)) rfl rfl rfl ?_
    refine JL.nil ?_
    refine Js.seq ?_
    refine Js.region ?_
    refine JL.q (q_loadN ty_28 rfl (Mem.boxR (i := 0) rfl 0 17) rfl rfl) rfl rfl rfl ?_
    refine JL.e (e_callP fn_19 rfl (fun w hw => c_laws_toGame aG _ w ⟨_, rfl, ⟨rfl, rfl, rfl, rfl, rfl, rfl, rfl, rfl, rfl, (Ty.mono _ h1_9 (x6.vis.trans hw.vis)), (Ty.mono _ h1_10 (x6.vis.trans hw.vis)), rfl, (Ty.mono _ h1_12 (x6.vis.trans hw.vis)), (Ty.mono _ h1_13 (x6.vis.trans hw.vis)), (Ty.mono _ h1_14 (x6.vis.trans hw.vis)), rfl, rfl, trivial⟩⟩ (by omega) (by omega) (by omega) (by omega) (by omega))) rfl rfl rfl ?_
    rintro v8 _ u10 ⟨h9, rfl⟩ x10
    obtain ⟨A11_9, c11_9, A11_10, c11_10, A11_12, c11_12, A11_13, c11_13, A11_14, c11_14, rfl, h11_9, h11_10, h11_12, h11_13, h11_14, bl11_9, bh11_9, bl11_10, bh11_10, bl11_12, bh11_12, bl11_13, bh11_13, bl11_14, bh11_14⟩ := open_Game h9
    refine JL.e (e_alloc zero_35) rfl rfl rfl ?_
    rintro _ _ _ ⟨b12, rfl, rfl, rfl⟩ _
    refine JL.s (e_store (i := 0) (c' := [.int .i64 aG.rules.pits, .int .i64 aG.rules.seeds, .bool aG.rules.stores, .bool aG.rules.skip, .bool aG.rules.relay, .bool aG.rules.feed, .bool aG.rules.again, .int .i64 aG.rules.capture, .int .i64 aG.rules.slam, .slice A11_9 aG.start.pits.length c11_9, .slice A11_10 aG.start.stores.length c11_10, .int .i64 aG.start.player, .slice A11_12 aG.moves.length c11_12, .slice A11_13 aG.now.pits.length c11_13, .slice A11_14 aG.now.stores.length c11_14, .int .i64 aG.now.player, .int .i64 aG.resigned]) ty_35 rfl rfl rfl rfl rfl rfl rfl rfl) rfl rfl ?_
    rintro _ _ _ ⟨rfl, rfl⟩ _
    refine JL.nil ?_
    refine Js.seq ?_
    refine Js.region ?_
    refine JL.q (q_loadN ty_35 rfl (Mem.boxR (i := 0) rfl 0 17) rfl rfl) rfl rfl rfl ?_
    refine JL.e (e_callV fn_41 rfl (fun w hw => c_impl_EndOf aG _ w ⟨_, rfl, ⟨rfl, rfl, rfl, rfl, rfl, rfl, rfl, rfl, rfl, (Ty.mono _ h11_9 hw.vis), (Ty.mono _ h11_10 hw.vis), rfl, (Ty.mono _ h11_12 hw.vis), (Ty.mono _ h11_13 hw.vis), (Ty.mono _ h11_14 hw.vis), rfl, rfl, trivial⟩⟩ (by omega) (by omega) (by omega) (by omega) (by omega))) rfl rfl rfl ?_
    rintro _ _ _ ⟨rfl, rfl, rfl⟩ _
    refine JL.q (OpP.q (p_move rfl)) rfl rfl rfl ?_
    refine JL.q (OpP.q (p_extract rfl rfl)) rfl rfl rfl ?_
    refine JL.q (OpP.q (p_extract rfl rfl)) rfl rfl rfl ?_
    refine JL.q (OpP.q (p_assign rfl)) rfl rfl rfl ?_
    refine JL.q (OpP.q (p_assign rfl)) rfl rfl rfl ?_
    refine JL.nil ?_
    refine Js.seq ?_
    refine Js.seq ?_
    refine Js.region ?_
    refine JL.q (OpP.q (p_move rfl)) rfl rfl rfl ?_
    refine JL.q (OpP.q (p_move rfl)) rfl rfl rfl ?_
    refine JL.q (OpP.q (p_neq rfl rfl)) rfl rfl rfl ?_
    refine JL.q (OpP.q (p_move rfl)) rfl rfl rfl ?_
    refine JL.g (Gd.f1 rfl rfl rfl) (fun hc => OpP.q (p_move rfl)) rfl rfl ?_
    refine JL.g (Gd.f1 rfl rfl rfl) (fun hc => OpP.q (p_move rfl)) rfl rfl ?_
    refine JL.g (Gd.f1 rfl rfl rfl) (fun hc => OpP.q (p_neq (gvt rfl hc) (gvt rfl hc))) rfl rfl ?_
    refine JL.q (OpP.q (p_pickOr rfl rfl rfl)) rfl rfl rfl ?_
    refine JL.nil ?_
    refine Js.cond rfl (fun h13 => ?_) (fun h13 => ?_)
    ·
      exact absurd h13 (by simp)
    ·
      have h13' := h13
      try simp only [Bool.or_eq_false_iff, Bool.not_eq_false', decide_eq_true_eq] at h13'
      refine Js.skip ?_
      refine Js.seq ?_
      refine Js.seq ?_
      refine Js.drawn _ [] mixed_ (fun _ h => h) ?_
      refine JH.q 0 rfl (by kernel_rfl) (by kernel_rfl) (by kernel_rfl) (by kernel_rfl) (q_loadN ty_35 rfl (Mem.boxR (i := 0) rfl 0 17) rfl rfl) rfl rfl rfl ?_
      refine JH.q 1 rfl (by kernel_rfl) (by kernel_rfl) (by kernel_rfl) (by kernel_rfl) (q_loadN ty_28 rfl (Mem.boxR (i := 1) rfl 0 17) rfl rfl) rfl rfl rfl ?_
      refine JH.one (i := 2) (by kernel_rfl) ?_
      refine JHo.e rfl (e_callP fn_19 rfl (fun w hw => c_laws_toGame aG _ w ⟨_, rfl, ⟨rfl, rfl, rfl, rfl, rfl, rfl, rfl, rfl, rfl, (Ty.mono _ h1_9 ((x6.vis.trans x10.vis).trans hw.vis)), (Ty.mono _ h1_10 ((x6.vis.trans x10.vis).trans hw.vis)), rfl, (Ty.mono _ h1_12 ((x6.vis.trans x10.vis).trans hw.vis)), (Ty.mono _ h1_13 ((x6.vis.trans x10.vis).trans hw.vis)), (Ty.mono _ h1_14 ((x6.vis.trans x10.vis).trans hw.vis)), rfl, rfl, trivial⟩⟩ (by omega) (by omega) (by omega) (by omega) (by omega))) rfl rfl rfl (.inl rfl) ?_
      rintro v14 _ u16 ⟨h15, rfl⟩ x16
      obtain ⟨A17_9, c17_9, A17_10, c17_10, A17_12, c17_12, A17_13, c17_13, A17_14, c17_14, rfl, h17_9, h17_10, h17_12, h17_13, h17_14, bl17_9, bh17_9, bl17_10, bh17_10, bl17_12, bh17_12, bl17_13, bh17_13, bl17_14, bh17_14⟩ := open_Game h15
      refine JH.one (i := 3) (by kernel_rfl) ?_
      refine JHo.e rfl (e_callV fn_21 rfl (fun w hw => c_laws_eqGame aG _ aG _ w ⟨_, rfl, ⟨rfl, rfl, rfl, rfl, rfl, rfl, rfl, rfl, rfl, (Ty.mono _ h11_9 (x16.vis.trans hw.vis)), (Ty.mono _ h11_10 (x16.vis.trans hw.vis)), rfl, (Ty.mono _ h11_12 (x16.vis.trans hw.vis)), (Ty.mono _ h11_13 (x16.vis.trans hw.vis)), (Ty.mono _ h11_14 (x16.vis.trans hw.vis)), rfl, rfl, trivial⟩⟩ ⟨_, rfl, ⟨rfl, rfl, rfl, rfl, rfl, rfl, rfl, rfl, rfl, (Ty.mono _ h17_9 hw.vis), (Ty.mono _ h17_10 hw.vis), rfl, (Ty.mono _ h17_12 hw.vis), (Ty.mono _ h17_13 hw.vis), (Ty.mono _ h17_14 hw.vis), rfl, rfl, trivial⟩⟩ (by omega) (by omega) (by omega) (by omega) (by omega) (by omega) (by omega) (by omega) (by omega) (by omega))) rfl rfl rfl (.inl rfl) ?_
      rintro _ _ _ ⟨rfl, rfl, rfl⟩ _
      refine JH.p 4 rfl (by kernel_rfl) (by kernel_rfl) (by kernel_rfl) (p_not rfl) rfl rfl rfl ?_
      refine JH.done (by kernel_rfl) ?_
      refine Js.cond rfl (fun h18 => ?_) (fun h18 => ?_)
      ·
        exact absurd h18 (by simp)
      ·
        have h18' := h18
        try simp only [Bool.not_eq_false', decide_eq_true_eq] at h18'
        refine Js.skip ?_
        refine Js.seq ?_
        refine Js.region ?_
        refine JL.q (OpP.q (p_assign rfl)) rfl rfl rfl ?_
        refine JL.nil ?_
        refine Js.ret (R := RV w (.bool true)) @Try.results9 (fun _ _ => rfl) (ResOk.tmp rfl ResOk.nil) (fun w1 hw => ?_)
        refine ⟨?_, hw.ext (((x6.trans x10).trans x16))⟩
        first | rfl | (simp [outV]; done)

set_option maxRecDepth 100000 in
set_option maxHeartbeats 400000 in
theorem c_laws_FnExactWinnerOf (aG : M.Gam) (v_aG : Value) (w : World) (h_aG : (Ty.agg (cGame aG)).ok w v_aG) : RetV Try.prog 12 [v_aG] w (.bool true) := by
  have q4 := M.szL_cases (aG.start.pits.length + aG.start.stores.length + aG.moves.length + aG.now.pits.length + aG.now.stores.length) 1048576
  change (1048576 < _ ∧ M.szG aG 1048576 = -1) ∨ (_ ≤ _ ∧ M.szG aG 1048576 = _) at q4
  obtain ⟨A1_9, c1_9, A1_10, c1_10, A1_12, c1_12, A1_13, c1_13, A1_14, c1_14, rfl, h1_9, h1_10, h1_12, h1_13, h1_14, bl1_9, bh1_9, bl1_10, bh1_10, bl1_12, bh1_12, bl1_13, bh1_13, bl1_14, bh1_14⟩ := open_Game h_aG
  refine enter @Try.func12 @Try.ntmps12 rfl rfl ?_
  refine Js.seq ?_
  refine Js.region ?_
  refine JL.e (e_box (c := [.int .i64 aG.rules.pits, .int .i64 aG.rules.seeds, .bool aG.rules.stores, .bool aG.rules.skip, .bool aG.rules.relay, .bool aG.rules.feed, .bool aG.rules.again, .int .i64 aG.rules.capture, .int .i64 aG.rules.slam, .slice A1_9 aG.start.pits.length c1_9, .slice A1_10 aG.start.stores.length c1_10, .int .i64 aG.start.player, .slice A1_12 aG.moves.length c1_12, .slice A1_13 aG.now.pits.length c1_13, .slice A1_14 aG.now.stores.length c1_14, .int .i64 aG.now.player, .int .i64 aG.resigned]) rfl rfl) rfl rfl rfl ?_
  rintro _ _ _ ⟨b2, rfl, rfl, rfl⟩ _
  refine JL.q (OpP.q (p_assign rfl)) rfl rfl rfl ?_
  refine JL.nil ?_
  refine Js.seq ?_
  refine Js.region ?_
  refine JL.q (OpP.q (p_assign rfl)) rfl rfl rfl ?_
  refine JL.nil ?_
  refine Js.seq ?_
  refine Js.region ?_
  refine JL.q (q_loadN ty_28 rfl (Mem.boxR (i := 0) rfl 0 17) rfl rfl) rfl rfl rfl ?_
  refine JL.q (OpP.q (p_move rfl)) rfl rfl rfl ?_
  refine JL.e (e_callV fn_17 rfl (fun w hw => c_laws_szGame aG _ 1048576 w ⟨_, rfl, ⟨rfl, rfl, rfl, rfl, rfl, rfl, rfl, rfl, rfl, (Ty.mono _ h1_9 hw.vis), (Ty.mono _ h1_10 hw.vis), rfl, (Ty.mono _ h1_12 hw.vis), (Ty.mono _ h1_13 hw.vis), (Ty.mono _ h1_14 hw.vis), rfl, rfl, trivial⟩⟩ (by omega) (by omega))) rfl rfl rfl ?_
  rintro _ _ _ ⟨rfl, rfl, rfl⟩ _
  refine JL.q (OpP.q (p_assign rfl)) rfl rfl rfl ?_
  refine JL.nil ?_
  refine Js.seq ?_
  refine Js.seq ?_
  refine Js.region ?_
  refine JL.q (OpP.q (p_move rfl)) rfl rfl rfl ?_
  refine JL.q (OpP.q (p_lss rfl rfl)) rfl rfl rfl ?_
  refine JL.nil ?_
  refine Js.cond rfl (fun h3 => ?_) (fun h3 => ?_)
  ·
    have h3' := h3
    try simp only [decide_eq_true_eq] at h3'
    refine Js.seq ?_
    refine Js.region ?_
    refine JL.q (OpP.q (p_assign rfl)) rfl rfl rfl ?_
    refine JL.nil ?_
    refine Js.ret (R := RV w (.bool true)) @Try.results12 (fun _ _ => rfl) (ResOk.tmp rfl ResOk.nil) (fun w1 hw => ?_)
    refine ⟨?_, hw.ext (Up.refl _ _)⟩
    first | rfl | (simp [outV]; done)
  ·
    have h3' := h3
    try simp only [decide_eq_false_iff_not, Int.not_lt] at h3'
    refine Js.skip ?_
    refine Js.seq ?_
    refine Js.region ?_
    refine JL.q (q_loadN ty_28 rfl (Mem.boxR (i := 0) rfl 0 17) rfl rfl) rfl rfl rfl ?_
    refine JL.e (e_callP fn_19 rfl (fun w hw => c_laws_toGame aG _ w ⟨_, rfl, ⟨rfl, rfl, rfl, rfl, rfl, rfl, rfl, rfl, rfl, (Ty.mono _ h1_9 hw.vis), (Ty.mono _ h1_10 hw.vis), rfl, (Ty.mono _ h1_12 hw.vis), (Ty.mono _ h1_13 hw.vis), (Ty.mono _ h1_14 hw.vis), rfl, rfl, trivial⟩⟩ (by omega) (by omega) (by omega) (by omega) (by omega))) rfl rfl rfl ?_
    rintro v4 _ u6 ⟨h5, rfl⟩ x6
    obtain ⟨A7_9, c7_9, A7_10, c7_10, A7_12, c7_12, A7_13, c7_13, A7_14, c7_14, rfl, h7_9, h7_10, h7_12, h7_13, h7_14, bl7_9, bh7_9, bl7_10, bh7_10, bl7_12, bh7_12, bl7_13, bh7_13, bl7_14, bh7_14⟩ := open_Game h5
    refine JL.e (e_callV fn_47 rfl (fun w hw => c_spec_WinnerOf aG _ w ⟨_, rfl, ⟨rfl, rfl, rfl, rfl, rfl, rfl, rfl, rfl, rfl, (Ty.mono _ h7_9 hw.vis), (Ty.mono _ h7_10 hw.vis), rfl, (Ty.mono _ h7_12 hw.vis), (Ty.mono _ h7_13 hw.vis), (Ty.mono _ h7_14 hw.vis), rfl, rfl, trivial⟩⟩ (by omega) (by omega) (by omega) (by omega) (by omega))) rfl rfl rfl ?_
    rintro _ _ _ ⟨rfl, rfl, rfl⟩ _
    refine JL.q (OpP.q (p_move rfl)) rfl rfl rfl ?_
    refine JL.q (OpP.q (p_extract rfl rfl)) rfl rfl rfl ?_
    refine JL.q (OpP.q (p_extract rfl rfl)) rfl rfl rfl ?_
    refine JL.q (OpP.q (p_assign rfl)) rfl rfl rfl ?_
    refine JL.q (OpP.q (p_assign rfl)) rfl rfl rfl ?_
    refine JL.nil ?_
    refine Js.seq ?_
    refine Js.region ?_
    refine JL.q (q_loadN ty_28 rfl (Mem.boxR (i := 0) rfl 0 17) rfl rfl) rfl rfl rfl ?_
    refine JL.e (e_callP fn_19 rfl (fun w hw => c_laws_toGame aG _ w ⟨_, rfl, ⟨rfl, rfl, rfl, rfl, rfl, rfl, rfl, rfl, rfl, (Ty.mono _ h1_9 (x6.vis.trans hw.vis)), (Ty.mono _ h1_10 (x6.vis.trans hw.vis)), rfl, (Ty.mono _ h1_12 (x6.vis.trans hw.vis)), (Ty.mono _ h1_13 (x6.vis.trans hw.vis)), (Ty.mono _ h1_14 (x6.vis.trans hw.vis)), rfl, rfl, trivial⟩⟩ (by omega) (by omega) (by omega) (by omega) (by omega))) rfl rfl rfl ?_
    rintro v8 _ u10 ⟨h9, rfl⟩ x10
    obtain ⟨A11_9, c11_9, A11_10, c11_10, A11_12, c11_12, A11_13, c11_13, A11_14, c11_14, rfl, h11_9, h11_10, h11_12, h11_13, h11_14, bl11_9, bh11_9, bl11_10, bh11_10, bl11_12, bh11_12, bl11_13, bh11_13, bl11_14, bh11_14⟩ := open_Game h9
    refine JL.e (e_alloc zero_35) rfl rfl rfl ?_
    rintro _ _ _ ⟨b12, rfl, rfl, rfl⟩ _
    refine JL.s (e_store (i := 0) (c' := [.int .i64 aG.rules.pits, .int .i64 aG.rules.seeds, .bool aG.rules.stores, .bool aG.rules.skip, .bool aG.rules.relay, .bool aG.rules.feed, .bool aG.rules.again, .int .i64 aG.rules.capture, .int .i64 aG.rules.slam, .slice A11_9 aG.start.pits.length c11_9, .slice A11_10 aG.start.stores.length c11_10, .int .i64 aG.start.player, .slice A11_12 aG.moves.length c11_12, .slice A11_13 aG.now.pits.length c11_13, .slice A11_14 aG.now.stores.length c11_14, .int .i64 aG.now.player, .int .i64 aG.resigned]) ty_35 rfl rfl rfl rfl rfl rfl rfl rfl) rfl rfl ?_
    rintro _ _ _ ⟨rfl, rfl⟩ _
    refine JL.nil ?_
    refine Js.seq ?_
    refine Js.region ?_
    refine JL.q (q_loadN ty_35 rfl (Mem.boxR (i := 0) rfl 0 17) rfl rfl) rfl rfl rfl ?_
    refine JL.e (e_callV fn_48 rfl (fun w hw => c_impl_WinnerOf aG _ w ⟨_, rfl, ⟨rfl, rfl, rfl, rfl, rfl, rfl, rfl, rfl, rfl, (Ty.mono _ h11_9 hw.vis), (Ty.mono _ h11_10 hw.vis), rfl, (Ty.mono _ h11_12 hw.vis), (Ty.mono _ h11_13 hw.vis), (Ty.mono _ h11_14 hw.vis), rfl, rfl, trivial⟩⟩ (by omega) (by omega) (by omega) (by omega) (by omega))) rfl rfl rfl ?_
    rintro _ _ _ ⟨rfl, rfl, rfl⟩ _
    refine JL.q (OpP.q (p_move rfl)) rfl rfl rfl ?_
    refine JL.q (OpP.q (p_extract rfl rfl)) rfl rfl rfl ?_
    refine JL.q (OpP.q (p_extract rfl rfl)) rfl rfl rfl ?_
    refine JL.q (OpP.q (p_assign rfl)) rfl rfl rfl ?_
    refine JL.q (OpP.q (p_assign rfl)) rfl rfl rfl ?_
    refine JL.nil ?_
    refine Js.seq ?_
    refine Js.seq ?_
    refine Js.region ?_
    refine JL.q (OpP.q (p_move rfl)) rfl rfl rfl ?_
    refine JL.q (OpP.q (p_move rfl)) rfl rfl rfl ?_
    refine JL.q (OpP.q (p_neq rfl rfl)) rfl rfl rfl ?_
    refine JL.q (OpP.q (p_move rfl)) rfl rfl rfl ?_
    refine JL.g (Gd.f1 rfl rfl rfl) (fun hc => OpP.q (p_move rfl)) rfl rfl ?_
    refine JL.g (Gd.f1 rfl rfl rfl) (fun hc => OpP.q (p_move rfl)) rfl rfl ?_
    refine JL.g (Gd.f1 rfl rfl rfl) (fun hc => OpP.q (p_neq (gvt rfl hc) (gvt rfl hc))) rfl rfl ?_
    refine JL.q (OpP.q (p_pickOr rfl rfl rfl)) rfl rfl rfl ?_
    refine JL.nil ?_
    refine Js.cond rfl (fun h13 => ?_) (fun h13 => ?_)
    ·
      exact absurd h13 (by simp)
    ·
      have h13' := h13
      try simp only [Bool.or_eq_false_iff, Bool.not_eq_false', decide_eq_true_eq] at h13'
      refine Js.skip ?_
      refine Js.seq ?_
      refine Js.seq ?_
      refine Js.drawn _ [] mixed_ (fun _ h => h) ?_
      refine JH.q 0 rfl (by kernel_rfl) (by kernel_rfl) (by kernel_rfl) (by kernel_rfl) (q_loadN ty_35 rfl (Mem.boxR (i := 0) rfl 0 17) rfl rfl) rfl rfl rfl ?_
      refine JH.q 1 rfl (by kernel_rfl) (by kernel_rfl) (by kernel_rfl) (by kernel_rfl) (q_loadN ty_28 rfl (Mem.boxR (i := 1) rfl 0 17) rfl rfl) rfl rfl rfl ?_
      refine JH.one (i := 2) (by kernel_rfl) ?_
      refine JHo.e rfl (e_callP fn_19 rfl (fun w hw => c_laws_toGame aG _ w ⟨_, rfl, ⟨rfl, rfl, rfl, rfl, rfl, rfl, rfl, rfl, rfl, (Ty.mono _ h1_9 ((x6.vis.trans x10.vis).trans hw.vis)), (Ty.mono _ h1_10 ((x6.vis.trans x10.vis).trans hw.vis)), rfl, (Ty.mono _ h1_12 ((x6.vis.trans x10.vis).trans hw.vis)), (Ty.mono _ h1_13 ((x6.vis.trans x10.vis).trans hw.vis)), (Ty.mono _ h1_14 ((x6.vis.trans x10.vis).trans hw.vis)), rfl, rfl, trivial⟩⟩ (by omega) (by omega) (by omega) (by omega) (by omega))) rfl rfl rfl (.inl rfl) ?_
      rintro v14 _ u16 ⟨h15, rfl⟩ x16
      obtain ⟨A17_9, c17_9, A17_10, c17_10, A17_12, c17_12, A17_13, c17_13, A17_14, c17_14, rfl, h17_9, h17_10, h17_12, h17_13, h17_14, bl17_9, bh17_9, bl17_10, bh17_10, bl17_12, bh17_12, bl17_13, bh17_13, bl17_14, bh17_14⟩ := open_Game h15
      refine JH.one (i := 3) (by kernel_rfl) ?_
      refine JHo.e rfl (e_callV fn_21 rfl (fun w hw => c_laws_eqGame aG _ aG _ w ⟨_, rfl, ⟨rfl, rfl, rfl, rfl, rfl, rfl, rfl, rfl, rfl, (Ty.mono _ h11_9 (x16.vis.trans hw.vis)), (Ty.mono _ h11_10 (x16.vis.trans hw.vis)), rfl, (Ty.mono _ h11_12 (x16.vis.trans hw.vis)), (Ty.mono _ h11_13 (x16.vis.trans hw.vis)), (Ty.mono _ h11_14 (x16.vis.trans hw.vis)), rfl, rfl, trivial⟩⟩ ⟨_, rfl, ⟨rfl, rfl, rfl, rfl, rfl, rfl, rfl, rfl, rfl, (Ty.mono _ h17_9 hw.vis), (Ty.mono _ h17_10 hw.vis), rfl, (Ty.mono _ h17_12 hw.vis), (Ty.mono _ h17_13 hw.vis), (Ty.mono _ h17_14 hw.vis), rfl, rfl, trivial⟩⟩ (by omega) (by omega) (by omega) (by omega) (by omega) (by omega) (by omega) (by omega) (by omega) (by omega))) rfl rfl rfl (.inl rfl) ?_
      rintro _ _ _ ⟨rfl, rfl, rfl⟩ _
      refine JH.p 4 rfl (by kernel_rfl) (by kernel_rfl) (by kernel_rfl) (p_not rfl) rfl rfl rfl ?_
      refine JH.done (by kernel_rfl) ?_
      refine Js.cond rfl (fun h18 => ?_) (fun h18 => ?_)
      ·
        exact absurd h18 (by simp)
      ·
        have h18' := h18
        try simp only [Bool.not_eq_false', decide_eq_true_eq] at h18'
        refine Js.skip ?_
        refine Js.seq ?_
        refine Js.region ?_
        refine JL.q (OpP.q (p_assign rfl)) rfl rfl rfl ?_
        refine JL.nil ?_
        refine Js.ret (R := RV w (.bool true)) @Try.results12 (fun _ _ => rfl) (ResOk.tmp rfl ResOk.nil) (fun w1 hw => ?_)
        refine ⟨?_, hw.ext (((x6.trans x10).trans x16))⟩
        first | rfl | (simp [outV]; done)

end Go.Proofs.Ytejnmechnhgmfaa

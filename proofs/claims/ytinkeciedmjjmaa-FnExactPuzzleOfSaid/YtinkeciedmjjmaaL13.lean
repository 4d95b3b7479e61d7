/- Walks: L13. -/
import Derived.Test.YtinkeciedmjjmaaTy
import Derived.Test.YtinkeciedmjjmaaG10
import Derived.Test.YtinkeciedmjjmaaK8
import Derived.Test.YtinkeciedmjjmaaL8
set_option linter.unusedSimpArgs false
set_option linter.unusedVariables false
namespace Go.Proofs.Ytinkeciedmjjmaa
open Go.RowKit

set_option maxRecDepth 100000 in
set_option maxHeartbeats 4000000 in
theorem c_laws_FnExactPuzzleOf (aR : M.Rul) (v_aR : Value) (aP : M.Pos) (v_aP : Value) (aDepth : Int) (w : World) (h_aR : (Ty.agg (cRules aR)).ok w v_aR) (h_aP : (Ty.agg (cPosition aP)).ok w v_aP) : RetV Try.prog 5 [v_aR, v_aP, .int .i64 aDepth] w (.bool true) := by
  have q4 := M.szL_cases (aP.pits.length + aP.stores.length) 1048576
  change (1048576 < _ ∧ M.szP aP 1048576 = -1) ∨ (_ ≤ _ ∧ M.szP aP 1048576 = _) at q4
  obtain ⟨w1_, w2_⟩ := M.puz_small aR aP aDepth
  have z3 := M.szp_nn (M.puz aR aP aDepth).1.position
  obtain rfl := open_Rules h_aR
  obtain ⟨A2_0, c2_0, A2_1, c2_1, rfl, h2_0, h2_1, bl2_0, bh2_0, bl2_1, bh2_1⟩ := open_Position h_aP
  refine enter @Try.func5 @Try.ntmps5 rfl rfl ?_
  refine Js.seq ?_
  refine Js.region ?_
  refine JL.e (e_box (c := [.int .i64 aR.pits, .int .i64 aR.seeds, .bool aR.stores, .bool aR.skip, .bool aR.relay, .bool aR.feed, .bool aR.again, .int .i64 aR.capture, .int .i64 aR.slam]) rfl rfl) ?_
  rintro _ _ _ ⟨b3, rfl, rfl, rfl⟩ _
  refine JL.e (e_box (c := [.slice A2_0 aP.pits.length c2_0, .slice A2_1 aP.stores.length c2_1, .int .i64 aP.player]) rfl rfl) ?_
  rintro _ _ _ ⟨b4, rfl, rfl, rfl⟩ _
  refine JL.q (OpP.q (p_assign rfl)) ?_
  refine JL.nil ?_
  refine Js.seq ?_
  refine Js.region ?_
  refine JL.q (OpP.q (p_assign rfl)) ?_
  refine JL.nil ?_
  refine Js.seq ?_
  refine Js.region ?_
  refine JL.q (q_loadN ty_26 rfl (Mem.boxR (i := 0) rfl 0 3) rfl rfl) ?_
  refine JL.q (OpP.q (p_move rfl)) ?_
  refine JL.e (e_callV fn_10 rfl (fun w hw => c_laws_szPosition aP _ 1048576 w ⟨_, rfl, ⟨(Ty.mono _ h2_0 hw.vis), (Ty.mono _ h2_1 hw.vis), rfl, trivial⟩⟩ (by omega) (by omega))) ?_
  rintro _ _ _ ⟨rfl, rfl, rfl⟩ _
  refine JL.q (OpP.q (p_assign rfl)) ?_
  refine JL.nil ?_
  refine Js.seq ?_
  refine Js.seq ?_
  refine Js.region ?_
  refine JL.q (OpP.q (p_move rfl)) ?_
  refine JL.q (OpP.q (p_lss rfl rfl)) ?_
  refine JL.nil ?_
  refine Js.cond rfl (fun h5 => ?_) (fun h5 => ?_)
  ·
    have h5' := h5
    try simp only [decide_eq_true_eq] at h5'
    refine Js.seq ?_
    refine Js.region ?_
    refine JL.q (OpP.q (p_assign rfl)) ?_
    refine JL.nil ?_
    refine Js.ret (R := RV w (.bool true)) @Try.results5 (fun _ _ => rfl) (ResOk.tmp rfl ResOk.nil) (fun w1 hw => ?_)
    refine ⟨?_, hw.ext (Up.refl _ _)⟩
    first | rfl | (simp [outV]; done)
  ·
    have h5' := h5
    try simp only [decide_eq_false_iff_not, Int.not_lt] at h5'
    refine Js.skip ?_
    refine Js.seq ?_
    refine Js.cut (fun l os u => ∃ (b19 : Nat) (A18_9 : Option Addr) (c18_9 : Nat) (A18_10 : Option Addr) (c18_10 : Nat), l = [(2, .int .i64 aDepth), (3, .pointer (some ⟨b3, 0, none⟩)), (4, .pointer (some ⟨b4, 0, none⟩)), (8, .pointer (some ⟨b19, 0, none⟩)), (9, .int .i64 ((M.puz aR aP aDepth).2))] ∧ os = [boxO b19 [.int .i64 ((((M.puz aR aP aDepth).1).rules).pits), .int .i64 ((((M.puz aR aP aDepth).1).rules).seeds), .bool ((((M.puz aR aP aDepth).1).rules).stores), .bool ((((M.puz aR aP aDepth).1).rules).skip), .bool ((((M.puz aR aP aDepth).1).rules).relay), .bool ((((M.puz aR aP aDepth).1).rules).feed), .bool ((((M.puz aR aP aDepth).1).rules).again), .int .i64 ((((M.puz aR aP aDepth).1).rules).capture), .int .i64 ((((M.puz aR aP aDepth).1).rules).slam), .slice A18_9 (((((M.puz aR aP aDepth).1).position).pits).length) c18_9, .slice A18_10 (((((M.puz aR aP aDepth).1).position).stores).length) c18_10, .int .i64 ((((M.puz aR aP aDepth).1).position).player), .int .i64 (((M.puz aR aP aDepth).1).depth), .int .i64 (((M.puz aR aP aDepth).1).move), .int .i64 (((M.puz aR aP aDepth).1).value), .int .i64 (((M.puz aR aP aDepth).1).margin)] 45, boxO b4 [.slice A2_0 aP.pits.length c2_0, .slice A2_1 aP.stores.length c2_1, .int .i64 aP.player] 26, boxO b3 [.int .i64 aR.pits, .int .i64 aR.seeds, .bool aR.stores, .bool aR.skip, .bool aR.relay, .bool aR.feed, .bool aR.again, .int .i64 aR.capture, .int .i64 aR.slam] 23] ∧ Up w.heap.size w u ∧ (((((M.puz aR aP aDepth).1).position).pits).length ≤ c18_9) ∧ (c18_9 ≤ 9223372036854775807) ∧ ((Ty.ints 2 ((((M.puz aR aP aDepth).1).position).pits)).ok u (.slice A18_9 (((((M.puz aR aP aDepth).1).position).pits).length) c18_9)) ∧ (((((M.puz aR aP aDepth).1).position).stores).length ≤ c18_10) ∧ (c18_10 ≤ 9223372036854775807) ∧ ((Ty.ints 2 ((((M.puz aR aP aDepth).1).position).stores)).ok u (.slice A18_10 (((((M.puz aR aP aDepth).1).position).stores).length) c18_10))) ?_ ?_
    ·
      refine Js.drawn _ [10] mixed_ (fun _ h => h) ?_
      refine JH.q 0 rfl (q_loadN ty_23 rfl (Mem.boxR (i := 1) rfl 0 9) rfl rfl) ?_
      refine JH.q 2 rfl (q_loadN ty_26 rfl (Mem.boxR (i := 0) rfl 0 3) rfl rfl) ?_
      refine JH.p 4 rfl (p_move rfl) ?_
      refine JH.all (rs := [1, 9]) (by kernel_rfl) rfl ⟨?_, ?_, trivial⟩
      ·
        refine JHo.e rfl (e_callP fn_12 rfl (fun w hw => c_laws_toRules aR _ w ⟨_, rfl, ⟨rfl, rfl, rfl, rfl, rfl, rfl, rfl, rfl, rfl, trivial⟩⟩)) (.inl rfl) ?_
        rintro v51 _ u53 ⟨h52, rfl⟩ x53
        obtain rfl := open_Rules h52
        refine JH.all (rs := [3, 9]) (by kernel_rfl) rfl ⟨?_, ?_, trivial⟩
        ·
          refine JHo.e rfl (e_callP fn_13 rfl (fun w hw => c_laws_toPosition aP _ w ⟨_, rfl, ⟨(Ty.mono _ h2_0 (x53.vis.trans hw.vis)), (Ty.mono _ h2_1 (x53.vis.trans hw.vis)), rfl, trivial⟩⟩ (by omega) (by omega))) (.inl rfl) ?_
          rintro v55 _ u57 ⟨h56, rfl⟩ x57
          obtain ⟨A58_0, c58_0, A58_1, c58_1, rfl, h58_0, h58_1, bl58_0, bh58_0, bl58_1, bh58_1⟩ := open_Position h56
          refine JH.all (rs := [5, 9]) (by kernel_rfl) rfl ⟨?_, ?_, trivial⟩
          ·
            refine JHo.e rfl (e_callP fn_25 rfl (fun w hw => c_spec_PuzzleOf aR _ aP _ aDepth w ⟨_, rfl, ⟨rfl, rfl, rfl, rfl, rfl, rfl, rfl, rfl, rfl, trivial⟩⟩ ⟨_, rfl, ⟨(Ty.mono _ h58_0 hw.vis), (Ty.mono _ h58_1 hw.vis), rfl, trivial⟩⟩ (by omega) (by omega))) (.inl rfl) ?_
            rintro v59 _ u61 ⟨h60, rfl⟩ x61
            obtain ⟨vs62, rfl, hv62⟩ := h60
            obtain ⟨v62_0, vs62, rfl, hw62_0, hv62⟩ := cellsOk_cons hv62
            obtain ⟨v62_1, vs62, rfl, hw62_1, hv62⟩ := cellsOk_cons hv62
            obtain rfl := cellsOk_nil hv62
            obtain ⟨A63_9, c63_9, A63_10, c63_10, rfl, h63_9, h63_10, bl63_9, bh63_9, bl63_10, bh63_10⟩ := open_Puzzle hw62_0
            obtain rfl : v62_1 = .int .i64 ((M.puz aR aP aDepth).2) := hw62_1
            refine JH.p 6 rfl (p_move rfl) ?_
            refine JH.p 7 rfl (p_extract rfl rfl) ?_
            refine JH.p 8 rfl (p_extract rfl rfl) ?_
            refine JH.one (i := 9) (by kernel_rfl) ?_
            refine JHo.e rfl (e_alloc zero_45) (.inl rfl) ?_
            rintro _ _ _ ⟨b64, rfl, rfl, rfl⟩ _
            refine JH.one (i := 10) (by kernel_rfl) ?_
            refine JHo.s rfl (e_store (i := 0) (c' := [.int .i64 ((((M.puz aR aP aDepth).1).rules).pits), .int .i64 ((((M.puz aR aP aDepth).1).rules).seeds), .bool ((((M.puz aR aP aDepth).1).rules).stores), .bool ((((M.puz aR aP aDepth).1).rules).skip), .bool ((((M.puz aR aP aDepth).1).rules).relay), .bool ((((M.puz aR aP aDepth).1).rules).feed), .bool ((((M.puz aR aP aDepth).1).rules).again), .int .i64 ((((M.puz aR aP aDepth).1).rules).capture), .int .i64 ((((M.puz aR aP aDepth).1).rules).slam), .slice A63_9 (((((M.puz aR aP aDepth).1).position).pits).length) c63_9, .slice A63_10 (((((M.puz aR aP aDepth).1).position).stores).length) c63_10, .int .i64 ((((M.puz aR aP aDepth).1).position).player), .int .i64 (((M.puz aR aP aDepth).1).depth), .int .i64 (((M.puz aR aP aDepth).1).move), .int .i64 (((M.puz aR aP aDepth).1).value), .int .i64 (((M.puz aR aP aDepth).1).margin)]) ty_45 rfl rfl rfl rfl rfl rfl rfl rfl) (.inr rfl) ?_
            rintro _ _ _ ⟨rfl, rfl⟩ _
            refine JH.p 11 rfl (p_assign rfl) ?_
            refine JH.done (by kernel_rfl) ?_
            exact Js.meet ⟨_, _, _, _, _, rfl, rfl, ((x53.trans x57).trans x61), by omega, by omega, h63_9, by omega, by omega, h63_10⟩ ⟨rfl, rfl, rfl, rfl, rfl, trivial⟩
          ·
            refine JHo.e rfl (e_alloc zero_45) (.inl rfl) ?_
            rintro _ _ _ ⟨b65, rfl, rfl, rfl⟩ _
            refine JH.one (i := 5) (by kernel_rfl) ?_
            refine JHo.e rfl (e_callP fn_25 rfl (fun w hw => c_spec_PuzzleOf aR _ aP _ aDepth w ⟨_, rfl, ⟨rfl, rfl, rfl, rfl, rfl, rfl, rfl, rfl, rfl, trivial⟩⟩ ⟨_, rfl, ⟨(Ty.mono _ h58_0 hw.vis), (Ty.mono _ h58_1 hw.vis), rfl, trivial⟩⟩ (by omega) (by omega))) (.inl rfl) ?_
            rintro v66 _ u68 ⟨h67, rfl⟩ x68
            obtain ⟨vs69, rfl, hv69⟩ := h67
            obtain ⟨v69_0, vs69, rfl, hw69_0, hv69⟩ := cellsOk_cons hv69
            obtain ⟨v69_1, vs69, rfl, hw69_1, hv69⟩ := cellsOk_cons hv69
            obtain rfl := cellsOk_nil hv69
            obtain ⟨A70_9, c70_9, A70_10, c70_10, rfl, h70_9, h70_10, bl70_9, bh70_9, bl70_10, bh70_10⟩ := open_Puzzle hw69_0
            obtain rfl : v69_1 = .int .i64 ((M.puz aR aP aDepth).2) := hw69_1
            refine JH.p 6 rfl (p_move rfl) ?_
            refine JH.p 7 rfl (p_extract rfl rfl) ?_
            refine JH.p 8 rfl (p_extract rfl rfl) ?_
            refine JH.one (i := 10) (by kernel_rfl) ?_
            refine JHo.s rfl (e_store (i := 0) (c' := [.int .i64 ((((M.puz aR aP aDepth).1).rules).pits), .int .i64 ((((M.puz aR aP aDepth).1).rules).seeds), .bool ((((M.puz aR aP aDepth).1).rules).stores), .bool ((((M.puz aR aP aDepth).1).rules).skip), .bool ((((M.puz aR aP aDepth).1).rules).relay), .bool ((((M.puz aR aP aDepth).1).rules).feed), .bool ((((M.puz aR aP aDepth).1).rules).again), .int .i64 ((((M.puz aR aP aDepth).1).rules).capture), .int .i64 ((((M.puz aR aP aDepth).1).rules).slam), .slice A70_9 (((((M.puz aR aP aDepth).1).position).pits).length) c70_9, .slice A70_10 (((((M.puz aR aP aDepth).1).position).stores).length) c70_10, .int .i64 ((((M.puz aR aP aDepth).1).position).player), .int .i64 (((M.puz aR aP aDepth).1).depth), .int .i64 (((M.puz aR aP aDepth).1).move), .int .i64 (((M.puz aR aP aDepth).1).value), .int .i64 (((M.puz aR aP aDepth).1).margin)]) ty_45 rfl rfl rfl rfl rfl rfl rfl rfl) (.inr rfl) ?_
            rintro _ _ _ ⟨rfl, rfl⟩ _
            refine JH.p 11 rfl (p_assign rfl) ?_
            refine JH.done (by kernel_rfl) ?_
            exact Js.meet ⟨_, _, _, _, _, rfl, rfl, ((x53.trans x57).trans x68), by omega, by omega, h70_9, by omega, by omega, h70_10⟩ ⟨rfl, rfl, rfl, rfl, rfl, trivial⟩
        ·
          refine JHo.e rfl (e_alloc zero_45) (.inl rfl) ?_
          rintro _ _ _ ⟨b71, rfl, rfl, rfl⟩ _
          refine JH.one (i := 3) (by kernel_rfl) ?_
          refine JHo.e rfl (e_callP fn_13 rfl (fun w hw => c_laws_toPosition aP _ w ⟨_, rfl, ⟨(Ty.mono _ h2_0 (x53.vis.trans hw.vis)), (Ty.mono _ h2_1 (x53.vis.trans hw.vis)), rfl, trivial⟩⟩ (by omega) (by omega))) (.inl rfl) ?_
          rintro v72 _ u74 ⟨h73, rfl⟩ x74
          obtain ⟨A75_0, c75_0, A75_1, c75_1, rfl, h75_0, h75_1, bl75_0, bh75_0, bl75_1, bh75_1⟩ := open_Position h73
          refine JH.one (i := 5) (by kernel_rfl) ?_
          refine JHo.e rfl (e_callP fn_25 rfl (fun w hw => c_spec_PuzzleOf aR _ aP _ aDepth w ⟨_, rfl, ⟨rfl, rfl, rfl, rfl, rfl, rfl, rfl, rfl, rfl, trivial⟩⟩ ⟨_, rfl, ⟨(Ty.mono _ h75_0 hw.vis), (Ty.mono _ h75_1 hw.vis), rfl, trivial⟩⟩ (by omega) (by omega))) (.inl rfl) ?_
          rintro v76 _ u78 ⟨h77, rfl⟩ x78
          obtain ⟨vs79, rfl, hv79⟩ := h77
          obtain ⟨v79_0, vs79, rfl, hw79_0, hv79⟩ := cellsOk_cons hv79
          obtain ⟨v79_1, vs79, rfl, hw79_1, hv79⟩ := cellsOk_cons hv79
          obtain rfl := cellsOk_nil hv79
          obtain ⟨A80_9, c80_9, A80_10, c80_10, rfl, h80_9, h80_10, bl80_9, bh80_9, bl80_10, bh80_10⟩ := open_Puzzle hw79_0
          obtain rfl : v79_1 = .int .i64 ((M.puz aR aP aDepth).2) := hw79_1
          refine JH.p 6 rfl (p_move rfl) ?_
          refine JH.p 7 rfl (p_extract rfl rfl) ?_
          refine JH.p 8 rfl (p_extract rfl rfl) ?_
          refine JH.one (i := 10) (by kernel_rfl) ?_
          refine JHo.s rfl (e_store (i := 0) (c' := [.int .i64 ((((M.puz aR aP aDepth).1).rules).pits), .int .i64 ((((M.puz aR aP aDepth).1).rules).seeds), .bool ((((M.puz aR aP aDepth).1).rules).stores), .bool ((((M.puz aR aP aDepth).1).rules).skip), .bool ((((M.puz aR aP aDepth).1).rules).relay), .bool ((((M.puz aR aP aDepth).1).rules).feed), .bool ((((M.puz aR aP aDepth).1).rules).again), .int .i64 ((((M.puz aR aP aDepth).1).rules).capture), .int .i64 ((((M.puz aR aP aDepth).1).rules).slam), .slice A80_9 (((((M.puz aR aP aDepth).1).position).pits).length) c80_9, .slice A80_10 (((((M.puz aR aP aDepth).1).position).stores).length) c80_10, .int .i64 ((((M.puz aR aP aDepth).1).position).player), .int .i64 (((M.puz aR aP aDepth).1).depth), .int .i64 (((M.puz aR aP aDepth).1).move), .int .i64 (((M.puz aR aP aDepth).1).value), .int .i64 (((M.puz aR aP aDepth).1).margin)]) ty_45 rfl rfl rfl rfl rfl rfl rfl rfl) (.inr rfl) ?_
          rintro _ _ _ ⟨rfl, rfl⟩ _
          refine JH.p 11 rfl (p_assign rfl) ?_
          refine JH.done (by kernel_rfl) ?_
          exact Js.meet ⟨_, _, _, _, _, rfl, rfl, ((x53.trans x74).trans x78), by omega, by omega, h80_9, by omega, by omega, h80_10⟩ ⟨rfl, rfl, rfl, rfl, rfl, trivial⟩
      ·
        refine JHo.e rfl (e_alloc zero_45) (.inl rfl) ?_
        rintro _ _ _ ⟨b81, rfl, rfl, rfl⟩ _
        refine JH.one (i := 1) (by kernel_rfl) ?_
        refine JHo.e rfl (e_callP fn_12 rfl (fun w hw => c_laws_toRules aR _ w ⟨_, rfl, ⟨rfl, rfl, rfl, rfl, rfl, rfl, rfl, rfl, rfl, trivial⟩⟩)) (.inl rfl) ?_
        rintro v82 _ u84 ⟨h83, rfl⟩ x84
        obtain rfl := open_Rules h83
        refine JH.one (i := 3) (by kernel_rfl) ?_
        refine JHo.e rfl (e_callP fn_13 rfl (fun w hw => c_laws_toPosition aP _ w ⟨_, rfl, ⟨(Ty.mono _ h2_0 (x84.vis.trans hw.vis)), (Ty.mono _ h2_1 (x84.vis.trans hw.vis)), rfl, trivial⟩⟩ (by omega) (by omega))) (.inl rfl) ?_
        rintro v86 _ u88 ⟨h87, rfl⟩ x88
        obtain ⟨A89_0, c89_0, A89_1, c89_1, rfl, h89_0, h89_1, bl89_0, bh89_0, bl89_1, bh89_1⟩ := open_Position h87
        refine JH.one (i := 5) (by kernel_rfl) ?_
        refine JHo.e rfl (e_callP fn_25 rfl (fun w hw => c_spec_PuzzleOf aR _ aP _ aDepth w ⟨_, rfl, ⟨rfl, rfl, rfl, rfl, rfl, rfl, rfl, rfl, rfl, trivial⟩⟩ ⟨_, rfl, ⟨(Ty.mono _ h89_0 hw.vis), (Ty.mono _ h89_1 hw.vis), rfl, trivial⟩⟩ (by omega) (by omega))) (.inl rfl) ?_
        rintro v90 _ u92 ⟨h91, rfl⟩ x92
        obtain ⟨vs93, rfl, hv93⟩ := h91
        obtain ⟨v93_0, vs93, rfl, hw93_0, hv93⟩ := cellsOk_cons hv93
        obtain ⟨v93_1, vs93, rfl, hw93_1, hv93⟩ := cellsOk_cons hv93
        obtain rfl := cellsOk_nil hv93
        obtain ⟨A94_9, c94_9, A94_10, c94_10, rfl, h94_9, h94_10, bl94_9, bh94_9, bl94_10, bh94_10⟩ := open_Puzzle hw93_0
        obtain rfl : v93_1 = .int .i64 ((M.puz aR aP aDepth).2) := hw93_1
        refine JH.p 6 rfl (p_move rfl) ?_
        refine JH.p 7 rfl (p_extract rfl rfl) ?_
        refine JH.p 8 rfl (p_extract rfl rfl) ?_
        refine JH.one (i := 10) (by kernel_rfl) ?_
        refine JHo.s rfl (e_store (i := 0) (c' := [.int .i64 ((((M.puz aR aP aDepth).1).rules).pits), .int .i64 ((((M.puz aR aP aDepth).1).rules).seeds), .bool ((((M.puz aR aP aDepth).1).rules).stores), .bool ((((M.puz aR aP aDepth).1).rules).skip), .bool ((((M.puz aR aP aDepth).1).rules).relay), .bool ((((M.puz aR aP aDepth).1).rules).feed), .bool ((((M.puz aR aP aDepth).1).rules).again), .int .i64 ((((M.puz aR aP aDepth).1).rules).capture), .int .i64 ((((M.puz aR aP aDepth).1).rules).slam), .slice A94_9 (((((M.puz aR aP aDepth).1).position).pits).length) c94_9, .slice A94_10 (((((M.puz aR aP aDepth).1).position).stores).length) c94_10, .int .i64 ((((M.puz aR aP aDepth).1).position).player), .int .i64 (((M.puz aR aP aDepth).1).depth), .int .i64 (((M.puz aR aP aDepth).1).move), .int .i64 (((M.puz aR aP aDepth).1).value), .int .i64 (((M.puz aR aP aDepth).1).margin)]) ty_45 rfl rfl rfl rfl rfl rfl rfl rfl) (.inr rfl) ?_
        rintro _ _ _ ⟨rfl, rfl⟩ _
        refine JH.p 11 rfl (p_assign rfl) ?_
        refine JH.done (by kernel_rfl) ?_
        exact Js.meet ⟨_, _, _, _, _, rfl, rfl, ((x84.trans x88).trans x92), by omega, by omega, h94_9, by omega, by omega, h94_10⟩ ⟨rfl, rfl, rfl, rfl, rfl, trivial⟩
    · rintro _ _ u50 ⟨b19, A18_9, c18_9, A18_10, c18_10, rfl, rfl, x50, f50_0, f50_1, f50_2, f50_3, f50_4, f50_5⟩
      refine Js.seq ?_
      refine Js.region ?_
      refine JL.q (q_loadN ty_26 rfl (Mem.boxR (i := 1) rfl 0 3) rfl rfl) ?_
      refine JL.e (e_callO fn_13 rfl (Spl.agg (Spls.cons (Spl.ints _ _) (Spls.cons (Spl.ints _ _) (Spls.cons (Spl.val _) Spls.nil)))) (fun w hw => c_laws_toPosition aP _ w ⟨_, rfl, ⟨(Ty.mono _ h2_0 (x50.vis.trans hw.vis)), (Ty.mono _ h2_1 (x50.vis.trans hw.vis)), rfl, trivial⟩⟩ (by omega) (by omega))) ?_
      rintro v95 _ _ ⟨_, hR96, rfl, rfl⟩ _
      obtain ⟨vs97, rfl, hr97⟩ := hR96
      obtain ⟨v97_0, vs97_0, o97_0, ow97_0, rfl, hR97_0, hs97_0, rfl⟩ := RL_cons hr97
      obtain ⟨v97_1, vs97_1, o97_1, ow97_1, rfl, hR97_1, hs97_1, rfl⟩ := RL_cons hs97_0
      obtain ⟨v97_2, vs97_2, o97_2, ow97_2, rfl, hR97_2, hs97_2, rfl⟩ := RL_cons hs97_1
      obtain ⟨rfl, rfl⟩ := RL_nil hs97_2
      obtain ⟨A98, c98, rfl, rfl, bl98, bh98⟩ := hR97_0
      obtain ⟨A99, c99, rfl, rfl, bl99, bh99⟩ := hR97_1
      obtain ⟨rfl, rfl⟩ : v97_2 = .int .i64 aP.player ∧ _ := hR97_2
      refine JL.e (e_alloc zero_33) ?_
      rintro _ _ _ ⟨b100, rfl, rfl, rfl⟩ _
      refine JL.s (e_store (i := 0) (c' := [.slice A98 aP.pits.length c98, .slice A99 aP.stores.length c99, .int .i64 aP.player]) ty_33 rfl rfl rfl rfl rfl rfl rfl rfl) ?_
      rintro _ _ _ ⟨rfl, rfl⟩ _
      refine JL.nil ?_
      refine Js.seq ?_
      refine Js.cut (fun l os u => ∃ (b111 : Nat) (A109 : Option Addr) (c109 : Nat) (A110 : Option Addr) (c110 : Nat), l = [(2, .int .i64 aDepth), (3, .pointer (some ⟨b3, 0, none⟩)), (4, .pointer (some ⟨b4, 0, none⟩)), (8, .pointer (some ⟨b19, 0, none⟩)), (9, .int .i64 ((M.puz aR aP aDepth).2)), (10, .pointer (some ⟨b100, 0, none⟩)), (11, .pointer (some ⟨b111, 0, none⟩)), (12, .int .i64 ((M.puz aR aP aDepth).2))] ∧ os = [boxO b111 [.int .i64 ((((M.puz aR aP aDepth).1).rules).pits), .int .i64 ((((M.puz aR aP aDepth).1).rules).seeds), .bool ((((M.puz aR aP aDepth).1).rules).stores), .bool ((((M.puz aR aP aDepth).1).rules).skip), .bool ((((M.puz aR aP aDepth).1).rules).relay), .bool ((((M.puz aR aP aDepth).1).rules).feed), .bool ((((M.puz aR aP aDepth).1).rules).again), .int .i64 ((((M.puz aR aP aDepth).1).rules).capture), .int .i64 ((((M.puz aR aP aDepth).1).rules).slam), .slice A109 (((((M.puz aR aP aDepth).1).position).pits).length) c109, .slice A110 (((((M.puz aR aP aDepth).1).position).stores).length) c110, .int .i64 ((((M.puz aR aP aDepth).1).position).player), .int .i64 (((M.puz aR aP aDepth).1).depth), .int .i64 (((M.puz aR aP aDepth).1).move), .int .i64 (((M.puz aR aP aDepth).1).value), .int .i64 (((M.puz aR aP aDepth).1).margin)] 45, rowO 2 1 (.slice A109 (((((M.puz aR aP aDepth).1).position).pits).length) c109) (((((M.puz aR aP aDepth).1).position).pits).length) (ints_ ((((M.puz aR aP aDepth).1).position).pits)) [], rowO 2 1 (.slice A110 (((((M.puz aR aP aDepth).1).position).stores).length) c110) (((((M.puz aR aP aDepth).1).position).stores).length) (ints_ ((((M.puz aR aP aDepth).1).position).stores)) [], boxO b100 [.slice A98 aP.pits.length c98, .slice A99 aP.stores.length c99, .int .i64 aP.player] 33, rowO 2 1 (.slice A98 aP.pits.length c98) aP.pits.length (ints_ aP.pits) [], rowO 2 1 (.slice A99 aP.stores.length c99) aP.stores.length (ints_ aP.stores) [], boxO b19 [.int .i64 ((((M.puz aR aP aDepth).1).rules).pits), .int .i64 ((((M.puz aR aP aDepth).1).rules).seeds), .bool ((((M.puz aR aP aDepth).1).rules).stores), .bool ((((M.puz aR aP aDepth).1).rules).skip), .bool ((((M.puz aR aP aDepth).1).rules).relay), .bool ((((M.puz aR aP aDepth).1).rules).feed), .bool ((((M.puz aR aP aDepth).1).rules).again), .int .i64 ((((M.puz aR aP aDepth).1).rules).capture), .int .i64 ((((M.puz aR aP aDepth).1).rules).slam), .slice A18_9 (((((M.puz aR aP aDepth).1).position).pits).length) c18_9, .slice A18_10 (((((M.puz aR aP aDepth).1).position).stores).length) c18_10, .int .i64 ((((M.puz aR aP aDepth).1).position).player), .int .i64 (((M.puz aR aP aDepth).1).depth), .int .i64 (((M.puz aR aP aDepth).1).move), .int .i64 (((M.puz aR aP aDepth).1).value), .int .i64 (((M.puz aR aP aDepth).1).margin)] 45, boxO b4 [.slice A2_0 aP.pits.length c2_0, .slice A2_1 aP.stores.length c2_1, .int .i64 aP.player] 26, boxO b3 [.int .i64 aR.pits, .int .i64 aR.seeds, .bool aR.stores, .bool aR.skip, .bool aR.relay, .bool aR.feed, .bool aR.again, .int .i64 aR.capture, .int .i64 aR.slam] 23] ∧ Up w.heap.size u50 u ∧ (((((M.puz aR aP aDepth).1).position).pits).length ≤ c109) ∧ (c109 ≤ 9223372036854775807) ∧ (((((M.puz aR aP aDepth).1).position).stores).length ≤ c110) ∧ (c110 ≤ 9223372036854775807)) ?_ ?_
      ·
        refine Js.drawn _ [9] mixed_ (fun _ h => h) ?_
        refine JH.q 0 rfl (q_loadN ty_23 rfl (Mem.boxR (i := 5) rfl 0 9) rfl rfl) ?_
        refine JH.q 2 rfl (q_loadN ty_33 rfl (Mem.boxR (i := 0) rfl 0 3) rfl rfl) ?_
        refine JH.p 3 rfl (p_move rfl) ?_
        refine JH.all (rs := [1, 8]) (by kernel_rfl) rfl ⟨?_, ?_, trivial⟩
        ·
          refine JHo.e rfl (e_callP fn_12 rfl (fun w hw => c_laws_toRules aR _ w ⟨_, rfl, ⟨rfl, rfl, rfl, rfl, rfl, rfl, rfl, rfl, rfl, trivial⟩⟩)) (.inl rfl) ?_
          rintro v131 _ u133 ⟨h132, rfl⟩ x133
          obtain rfl := open_Rules h132
          refine JH.all (rs := [4, 8]) (by kernel_rfl) rfl ⟨?_, ?_, trivial⟩
          ·
            refine JHo.e rfl (e_callO fn_26 rfl (Spl.tup (Spls.cons (Spl.agg (Spls.cons (Spl.val _) (Spls.cons (Spl.val _) (Spls.cons (Spl.val _) (Spls.cons (Spl.val _) (Spls.cons (Spl.val _) (Spls.cons (Spl.val _) (Spls.cons (Spl.val _) (Spls.cons (Spl.val _) (Spls.cons (Spl.val _) (Spls.cons (Spl.ints _ _) (Spls.cons (Spl.ints _ _) (Spls.cons (Spl.val _) (Spls.cons (Spl.val _) (Spls.cons (Spl.val _) (Spls.cons (Spl.val _) (Spls.cons (Spl.val _) Spls.nil))))))))))))))))) (Spls.cons (Spl.val _) Spls.nil))) (fun w hw => c_impl_PuzzleOf aR _ aP _ aDepth w ⟨_, rfl, ⟨rfl, rfl, rfl, rfl, rfl, rfl, rfl, rfl, rfl, trivial⟩⟩ ⟨_, rfl, ⟨(ints_rowok (xs := aP.pits) (hw.pr (i := 1) rfl)), (ints_rowok (xs := aP.stores) (hw.pr (i := 2) rfl)), rfl, trivial⟩⟩ (by omega) (by omega))) (.inl rfl) ?_
            rintro v135 _ _ ⟨_, hR136, rfl, rfl⟩ _
            obtain ⟨vs137, rfl, hr137⟩ := hR136
            obtain ⟨v137_0, vs137_0, o137_0, ow137_0, rfl, hR137_0, hs137_0, rfl⟩ := RL_cons hr137
            obtain ⟨v137_1, vs137_1, o137_1, ow137_1, rfl, hR137_1, hs137_1, rfl⟩ := RL_cons hs137_0
            obtain ⟨rfl, rfl⟩ := RL_nil hs137_1
            obtain ⟨vs138, rfl, hr138⟩ := hR137_0
            obtain ⟨v138_0, vs138_0, o138_0, ow138_0, rfl, hR138_0, hs138_0, rfl⟩ := RL_cons hr138
            obtain ⟨v138_1, vs138_1, o138_1, ow138_1, rfl, hR138_1, hs138_1, rfl⟩ := RL_cons hs138_0
            obtain ⟨v138_2, vs138_2, o138_2, ow138_2, rfl, hR138_2, hs138_2, rfl⟩ := RL_cons hs138_1
            obtain ⟨v138_3, vs138_3, o138_3, ow138_3, rfl, hR138_3, hs138_3, rfl⟩ := RL_cons hs138_2
            obtain ⟨v138_4, vs138_4, o138_4, ow138_4, rfl, hR138_4, hs138_4, rfl⟩ := RL_cons hs138_3
            obtain ⟨v138_5, vs138_5, o138_5, ow138_5, rfl, hR138_5, hs138_5, rfl⟩ := RL_cons hs138_4
            obtain ⟨v138_6, vs138_6, o138_6, ow138_6, rfl, hR138_6, hs138_6, rfl⟩ := RL_cons hs138_5
            obtain ⟨v138_7, vs138_7, o138_7, ow138_7, rfl, hR138_7, hs138_7, rfl⟩ := RL_cons hs138_6
            obtain ⟨v138_8, vs138_8, o138_8, ow138_8, rfl, hR138_8, hs138_8, rfl⟩ := RL_cons hs138_7
            obtain ⟨v138_9, vs138_9, o138_9, ow138_9, rfl, hR138_9, hs138_9, rfl⟩ := RL_cons hs138_8
            obtain ⟨v138_10, vs138_10, o138_10, ow138_10, rfl, hR138_10, hs138_10, rfl⟩ := RL_cons hs138_9
            obtain ⟨v138_11, vs138_11, o138_11, ow138_11, rfl, hR138_11, hs138_11, rfl⟩ := RL_cons hs138_10
            obtain ⟨v138_12, vs138_12, o138_12, ow138_12, rfl, hR138_12, hs138_12, rfl⟩ := RL_cons hs138_11
            obtain ⟨v138_13, vs138_13, o138_13, ow138_13, rfl, hR138_13, hs138_13, rfl⟩ := RL_cons hs138_12
            obtain ⟨v138_14, vs138_14, o138_14, ow138_14, rfl, hR138_14, hs138_14, rfl⟩ := RL_cons hs138_13
            obtain ⟨v138_15, vs138_15, o138_15, ow138_15, rfl, hR138_15, hs138_15, rfl⟩ := RL_cons hs138_14
            obtain ⟨rfl, rfl⟩ := RL_nil hs138_15
            obtain ⟨rfl, rfl⟩ : v138_0 = .int .i64 ((((M.puz aR aP aDepth).1).rules).pits) ∧ _ := hR138_0
            obtain ⟨rfl, rfl⟩ : v138_1 = .int .i64 ((((M.puz aR aP aDepth).1).rules).seeds) ∧ _ := hR138_1
            obtain ⟨rfl, rfl⟩ : v138_2 = .bool ((((M.puz aR aP aDepth).1).rules).stores) ∧ _ := hR138_2
            obtain ⟨rfl, rfl⟩ : v138_3 = .bool ((((M.puz aR aP aDepth).1).rules).skip) ∧ _ := hR138_3
            obtain ⟨rfl, rfl⟩ : v138_4 = .bool ((((M.puz aR aP aDepth).1).rules).relay) ∧ _ := hR138_4
            obtain ⟨rfl, rfl⟩ : v138_5 = .bool ((((M.puz aR aP aDepth).1).rules).feed) ∧ _ := hR138_5
            obtain ⟨rfl, rfl⟩ : v138_6 = .bool ((((M.puz aR aP aDepth).1).rules).again) ∧ _ := hR138_6
            obtain ⟨rfl, rfl⟩ : v138_7 = .int .i64 ((((M.puz aR aP aDepth).1).rules).capture) ∧ _ := hR138_7
            obtain ⟨rfl, rfl⟩ : v138_8 = .int .i64 ((((M.puz aR aP aDepth).1).rules).slam) ∧ _ := hR138_8
            obtain ⟨A139, c139, rfl, rfl, bl139, bh139⟩ := hR138_9
            obtain ⟨A140, c140, rfl, rfl, bl140, bh140⟩ := hR138_10
            obtain ⟨rfl, rfl⟩ : v138_11 = .int .i64 ((((M.puz aR aP aDepth).1).position).player) ∧ _ := hR138_11
            obtain ⟨rfl, rfl⟩ : v138_12 = .int .i64 (((M.puz aR aP aDepth).1).depth) ∧ _ := hR138_12
            obtain ⟨rfl, rfl⟩ : v138_13 = .int .i64 (((M.puz aR aP aDepth).1).move) ∧ _ := hR138_13
            obtain ⟨rfl, rfl⟩ : v138_14 = .int .i64 (((M.puz aR aP aDepth).1).value) ∧ _ := hR138_14
            obtain ⟨rfl, rfl⟩ : v138_15 = .int .i64 (((M.puz aR aP aDepth).1).margin) ∧ _ := hR138_15
            obtain ⟨rfl, rfl⟩ : v137_1 = .int .i64 ((M.puz aR aP aDepth).2) ∧ _ := hR137_1
            refine JH.p 5 rfl (p_move rfl) ?_
            refine JH.p 6 rfl (p_extract rfl rfl) ?_
            refine JH.p 7 rfl (p_extract rfl rfl) ?_
            refine JH.one (i := 8) (by kernel_rfl) ?_
            refine JHo.e rfl (e_alloc zero_45) (.inl rfl) ?_
            rintro _ _ _ ⟨b141, rfl, rfl, rfl⟩ _
            refine JH.one (i := 9) (by kernel_rfl) ?_
            refine JHo.s rfl (e_store (i := 0) (c' := [.int .i64 ((((M.puz aR aP aDepth).1).rules).pits), .int .i64 ((((M.puz aR aP aDepth).1).rules).seeds), .bool ((((M.puz aR aP aDepth).1).rules).stores), .bool ((((M.puz aR aP aDepth).1).rules).skip), .bool ((((M.puz aR aP aDepth).1).rules).relay), .bool ((((M.puz aR aP aDepth).1).rules).feed), .bool ((((M.puz aR aP aDepth).1).rules).again), .int .i64 ((((M.puz aR aP aDepth).1).rules).capture), .int .i64 ((((M.puz aR aP aDepth).1).rules).slam), .slice A139 (((((M.puz aR aP aDepth).1).position).pits).length) c139, .slice A140 (((((M.puz aR aP aDepth).1).position).stores).length) c140, .int .i64 ((((M.puz aR aP aDepth).1).position).player), .int .i64 (((M.puz aR aP aDepth).1).depth), .int .i64 (((M.puz aR aP aDepth).1).move), .int .i64 (((M.puz aR aP aDepth).1).value), .int .i64 (((M.puz aR aP aDepth).1).margin)]) ty_45 rfl rfl rfl rfl rfl rfl rfl rfl) (.inr rfl) ?_
            rintro _ _ _ ⟨rfl, rfl⟩ _
            refine JH.p 10 rfl (p_assign rfl) ?_
            refine JH.done (by kernel_rfl) ?_
            exact Js.meet ⟨_, _, _, _, _, rfl, rfl, x133, by omega, by omega, by omega, by omega⟩ ⟨rfl, rfl, rfl, rfl, rfl, rfl, rfl, rfl, trivial⟩
          ·
            refine JHo.e rfl (e_alloc zero_45) (.inl rfl) ?_
            rintro _ _ _ ⟨b142, rfl, rfl, rfl⟩ _
            refine JH.one (i := 4) (by kernel_rfl) ?_
            refine JHo.e rfl (e_callO fn_26 rfl (Spl.tup (Spls.cons (Spl.agg (Spls.cons (Spl.val _) (Spls.cons (Spl.val _) (Spls.cons (Spl.val _) (Spls.cons (Spl.val _) (Spls.cons (Spl.val _) (Spls.cons (Spl.val _) (Spls.cons (Spl.val _) (Spls.cons (Spl.val _) (Spls.cons (Spl.val _) (Spls.cons (Spl.ints _ _) (Spls.cons (Spl.ints _ _) (Spls.cons (Spl.val _) (Spls.cons (Spl.val _) (Spls.cons (Spl.val _) (Spls.cons (Spl.val _) (Spls.cons (Spl.val _) Spls.nil))))))))))))))))) (Spls.cons (Spl.val _) Spls.nil))) (fun w hw => c_impl_PuzzleOf aR _ aP _ aDepth w ⟨_, rfl, ⟨rfl, rfl, rfl, rfl, rfl, rfl, rfl, rfl, rfl, trivial⟩⟩ ⟨_, rfl, ⟨(ints_rowok (xs := aP.pits) (hw.pr (i := 2) rfl)), (ints_rowok (xs := aP.stores) (hw.pr (i := 3) rfl)), rfl, trivial⟩⟩ (by omega) (by omega))) (.inl rfl) ?_
            rintro v143 _ _ ⟨_, hR144, rfl, rfl⟩ _
            obtain ⟨vs145, rfl, hr145⟩ := hR144
            obtain ⟨v145_0, vs145_0, o145_0, ow145_0, rfl, hR145_0, hs145_0, rfl⟩ := RL_cons hr145
            obtain ⟨v145_1, vs145_1, o145_1, ow145_1, rfl, hR145_1, hs145_1, rfl⟩ := RL_cons hs145_0
            obtain ⟨rfl, rfl⟩ := RL_nil hs145_1
            obtain ⟨vs146, rfl, hr146⟩ := hR145_0
            obtain ⟨v146_0, vs146_0, o146_0, ow146_0, rfl, hR146_0, hs146_0, rfl⟩ := RL_cons hr146
            obtain ⟨v146_1, vs146_1, o146_1, ow146_1, rfl, hR146_1, hs146_1, rfl⟩ := RL_cons hs146_0
            obtain ⟨v146_2, vs146_2, o146_2, ow146_2, rfl, hR146_2, hs146_2, rfl⟩ := RL_cons hs146_1
            obtain ⟨v146_3, vs146_3, o146_3, ow146_3, rfl, hR146_3, hs146_3, rfl⟩ := RL_cons hs146_2
            obtain ⟨v146_4, vs146_4, o146_4, ow146_4, rfl, hR146_4, hs146_4, rfl⟩ := RL_cons hs146_3
            obtain ⟨v146_5, vs146_5, o146_5, ow146_5, rfl, hR146_5, hs146_5, rfl⟩ := RL_cons hs146_4
            obtain ⟨v146_6, vs146_6, o146_6, ow146_6, rfl, hR146_6, hs146_6, rfl⟩ := RL_cons hs146_5
            obtain ⟨v146_7, vs146_7, o146_7, ow146_7, rfl, hR146_7, hs146_7, rfl⟩ := RL_cons hs146_6
            obtain ⟨v146_8, vs146_8, o146_8, ow146_8, rfl, hR146_8, hs146_8, rfl⟩ := RL_cons hs146_7
            obtain ⟨v146_9, vs146_9, o146_9, ow146_9, rfl, hR146_9, hs146_9, rfl⟩ := RL_cons hs146_8
            obtain ⟨v146_10, vs146_10, o146_10, ow146_10, rfl, hR146_10, hs146_10, rfl⟩ := RL_cons hs146_9
            obtain ⟨v146_11, vs146_11, o146_11, ow146_11, rfl, hR146_11, hs146_11, rfl⟩ := RL_cons hs146_10
            obtain ⟨v146_12, vs146_12, o146_12, ow146_12, rfl, hR146_12, hs146_12, rfl⟩ := RL_cons hs146_11
            obtain ⟨v146_13, vs146_13, o146_13, ow146_13, rfl, hR146_13, hs146_13, rfl⟩ := RL_cons hs146_12
            obtain ⟨v146_14, vs146_14, o146_14, ow146_14, rfl, hR146_14, hs146_14, rfl⟩ := RL_cons hs146_13
            obtain ⟨v146_15, vs146_15, o146_15, ow146_15, rfl, hR146_15, hs146_15, rfl⟩ := RL_cons hs146_14
            obtain ⟨rfl, rfl⟩ := RL_nil hs146_15
            obtain ⟨rfl, rfl⟩ : v146_0 = .int .i64 ((((M.puz aR aP aDepth).1).rules).pits) ∧ _ := hR146_0
            obtain ⟨rfl, rfl⟩ : v146_1 = .int .i64 ((((M.puz aR aP aDepth).1).rules).seeds) ∧ _ := hR146_1
            obtain ⟨rfl, rfl⟩ : v146_2 = .bool ((((M.puz aR aP aDepth).1).rules).stores) ∧ _ := hR146_2
            obtain ⟨rfl, rfl⟩ : v146_3 = .bool ((((M.puz aR aP aDepth).1).rules).skip) ∧ _ := hR146_3
            obtain ⟨rfl, rfl⟩ : v146_4 = .bool ((((M.puz aR aP aDepth).1).rules).relay) ∧ _ := hR146_4
            obtain ⟨rfl, rfl⟩ : v146_5 = .bool ((((M.puz aR aP aDepth).1).rules).feed) ∧ _ := hR146_5
            obtain ⟨rfl, rfl⟩ : v146_6 = .bool ((((M.puz aR aP aDepth).1).rules).again) ∧ _ := hR146_6
            obtain ⟨rfl, rfl⟩ : v146_7 = .int .i64 ((((M.puz aR aP aDepth).1).rules).capture) ∧ _ := hR146_7
            obtain ⟨rfl, rfl⟩ : v146_8 = .int .i64 ((((M.puz aR aP aDepth).1).rules).slam) ∧ _ := hR146_8
            obtain ⟨A147, c147, rfl, rfl, bl147, bh147⟩ := hR146_9
            obtain ⟨A148, c148, rfl, rfl, bl148, bh148⟩ := hR146_10
            obtain ⟨rfl, rfl⟩ : v146_11 = .int .i64 ((((M.puz aR aP aDepth).1).position).player) ∧ _ := hR146_11
            obtain ⟨rfl, rfl⟩ : v146_12 = .int .i64 (((M.puz aR aP aDepth).1).depth) ∧ _ := hR146_12
            obtain ⟨rfl, rfl⟩ : v146_13 = .int .i64 (((M.puz aR aP aDepth).1).move) ∧ _ := hR146_13
            obtain ⟨rfl, rfl⟩ : v146_14 = .int .i64 (((M.puz aR aP aDepth).1).value) ∧ _ := hR146_14
            obtain ⟨rfl, rfl⟩ : v146_15 = .int .i64 (((M.puz aR aP aDepth).1).margin) ∧ _ := hR146_15
            obtain ⟨rfl, rfl⟩ : v145_1 = .int .i64 ((M.puz aR aP aDepth).2) ∧ _ := hR145_1
            refine JH.p 5 rfl (p_move rfl) ?_
            refine JH.p 6 rfl (p_extract rfl rfl) ?_
            refine JH.p 7 rfl (p_extract rfl rfl) ?_
            refine JH.one (i := 9) (by kernel_rfl) ?_
            refine JHo.s rfl (e_store (i := 2) (c' := [.int .i64 ((((M.puz aR aP aDepth).1).rules).pits), .int .i64 ((((M.puz aR aP aDepth).1).rules).seeds), .bool ((((M.puz aR aP aDepth).1).rules).stores), .bool ((((M.puz aR aP aDepth).1).rules).skip), .bool ((((M.puz aR aP aDepth).1).rules).relay), .bool ((((M.puz aR aP aDepth).1).rules).feed), .bool ((((M.puz aR aP aDepth).1).rules).again), .int .i64 ((((M.puz aR aP aDepth).1).rules).capture), .int .i64 ((((M.puz aR aP aDepth).1).rules).slam), .slice A147 (((((M.puz aR aP aDepth).1).position).pits).length) c147, .slice A148 (((((M.puz aR aP aDepth).1).position).stores).length) c148, .int .i64 ((((M.puz aR aP aDepth).1).position).player), .int .i64 (((M.puz aR aP aDepth).1).depth), .int .i64 (((M.puz aR aP aDepth).1).move), .int .i64 (((M.puz aR aP aDepth).1).value), .int .i64 (((M.puz aR aP aDepth).1).margin)]) ty_45 rfl rfl rfl rfl rfl rfl rfl rfl) (.inr rfl) ?_
            rintro _ _ _ ⟨rfl, rfl⟩ _
            refine JH.p 10 rfl (p_assign rfl) ?_
            refine JH.done (by kernel_rfl) ?_
            refine Js.front (i := 8) rfl ?_
            refine Js.front (i := 8) rfl ?_
            refine Js.front (i := 8) rfl ?_
            refine Js.front (i := 8) rfl ?_
            refine Js.front (i := 8) rfl ?_
            refine Js.front (i := 8) rfl ?_
            refine Js.front (i := 7) rfl ?_
            refine Js.front (i := 7) rfl ?_
            refine Js.front (i := 8) rfl ?_
            exact Js.meet ⟨_, _, _, _, _, rfl, rfl, x133, by omega, by omega, by omega, by omega⟩ ⟨rfl, rfl, rfl, rfl, rfl, rfl, rfl, rfl, trivial⟩
        ·
          refine JHo.e rfl (e_alloc zero_45) (.inl rfl) ?_
          rintro _ _ _ ⟨b149, rfl, rfl, rfl⟩ _
          refine JH.one (i := 1) (by kernel_rfl) ?_
          refine JHo.e rfl (e_callP fn_12 rfl (fun w hw => c_laws_toRules aR _ w ⟨_, rfl, ⟨rfl, rfl, rfl, rfl, rfl, rfl, rfl, rfl, rfl, trivial⟩⟩)) (.inl rfl) ?_
          rintro v150 _ u152 ⟨h151, rfl⟩ x152
          obtain rfl := open_Rules h151
          refine JH.one (i := 4) (by kernel_rfl) ?_
          refine JHo.e rfl (e_callO fn_26 rfl (Spl.tup (Spls.cons (Spl.agg (Spls.cons (Spl.val _) (Spls.cons (Spl.val _) (Spls.cons (Spl.val _) (Spls.cons (Spl.val _) (Spls.cons (Spl.val _) (Spls.cons (Spl.val _) (Spls.cons (Spl.val _) (Spls.cons (Spl.val _) (Spls.cons (Spl.val _) (Spls.cons (Spl.ints _ _) (Spls.cons (Spl.ints _ _) (Spls.cons (Spl.val _) (Spls.cons (Spl.val _) (Spls.cons (Spl.val _) (Spls.cons (Spl.val _) (Spls.cons (Spl.val _) Spls.nil))))))))))))))))) (Spls.cons (Spl.val _) Spls.nil))) (fun w hw => c_impl_PuzzleOf aR _ aP _ aDepth w ⟨_, rfl, ⟨rfl, rfl, rfl, rfl, rfl, rfl, rfl, rfl, rfl, trivial⟩⟩ ⟨_, rfl, ⟨(ints_rowok (xs := aP.pits) (hw.pr (i := 2) rfl)), (ints_rowok (xs := aP.stores) (hw.pr (i := 3) rfl)), rfl, trivial⟩⟩ (by omega) (by omega))) (.inl rfl) ?_
          rintro v154 _ _ ⟨_, hR155, rfl, rfl⟩ _
          obtain ⟨vs156, rfl, hr156⟩ := hR155
          obtain ⟨v156_0, vs156_0, o156_0, ow156_0, rfl, hR156_0, hs156_0, rfl⟩ := RL_cons hr156
          obtain ⟨v156_1, vs156_1, o156_1, ow156_1, rfl, hR156_1, hs156_1, rfl⟩ := RL_cons hs156_0
          obtain ⟨rfl, rfl⟩ := RL_nil hs156_1
          obtain ⟨vs157, rfl, hr157⟩ := hR156_0
          obtain ⟨v157_0, vs157_0, o157_0, ow157_0, rfl, hR157_0, hs157_0, rfl⟩ := RL_cons hr157
          obtain ⟨v157_1, vs157_1, o157_1, ow157_1, rfl, hR157_1, hs157_1, rfl⟩ := RL_cons hs157_0
          obtain ⟨v157_2, vs157_2, o157_2, ow157_2, rfl, hR157_2, hs157_2, rfl⟩ := RL_cons hs157_1
          obtain ⟨v157_3, vs157_3, o157_3, ow157_3, rfl, hR157_3, hs157_3, rfl⟩ := RL_cons hs157_2
          obtain ⟨v157_4, vs157_4, o157_4, ow157_4, rfl, hR157_4, hs157_4, rfl⟩ := RL_cons hs157_3
          obtain ⟨v157_5, vs157_5, o157_5, ow157_5, rfl, hR157_5, hs157_5, rfl⟩ := RL_cons hs157_4
          obtain ⟨v157_6, vs157_6, o157_6, ow157_6, rfl, hR157_6, hs157_6, rfl⟩ := RL_cons hs157_5
          obtain ⟨v157_7, vs157_7, o157_7, ow157_7, rfl, hR157_7, hs157_7, rfl⟩ := RL_cons hs157_6
          obtain ⟨v157_8, vs157_8, o157_8, ow157_8, rfl, hR157_8, hs157_8, rfl⟩ := RL_cons hs157_7
          obtain ⟨v157_9, vs157_9, o157_9, ow157_9, rfl, hR157_9, hs157_9, rfl⟩ := RL_cons hs157_8
          obtain ⟨v157_10, vs157_10, o157_10, ow157_10, rfl, hR157_10, hs157_10, rfl⟩ := RL_cons hs157_9
          obtain ⟨v157_11, vs157_11, o157_11, ow157_11, rfl, hR157_11, hs157_11, rfl⟩ := RL_cons hs157_10
          obtain ⟨v157_12, vs157_12, o157_12, ow157_12, rfl, hR157_12, hs157_12, rfl⟩ := RL_cons hs157_11
          obtain ⟨v157_13, vs157_13, o157_13, ow157_13, rfl, hR157_13, hs157_13, rfl⟩ := RL_cons hs157_12
          obtain ⟨v157_14, vs157_14, o157_14, ow157_14, rfl, hR157_14, hs157_14, rfl⟩ := RL_cons hs157_13
          obtain ⟨v157_15, vs157_15, o157_15, ow157_15, rfl, hR157_15, hs157_15, rfl⟩ := RL_cons hs157_14
          obtain ⟨rfl, rfl⟩ := RL_nil hs157_15
          obtain ⟨rfl, rfl⟩ : v157_0 = .int .i64 ((((M.puz aR aP aDepth).1).rules).pits) ∧ _ := hR157_0
          obtain ⟨rfl, rfl⟩ : v157_1 = .int .i64 ((((M.puz aR aP aDepth).1).rules).seeds) ∧ _ := hR157_1
          obtain ⟨rfl, rfl⟩ : v157_2 = .bool ((((M.puz aR aP aDepth).1).rules).stores) ∧ _ := hR157_2
          obtain ⟨rfl, rfl⟩ : v157_3 = .bool ((((M.puz aR aP aDepth).1).rules).skip) ∧ _ := hR157_3
          obtain ⟨rfl, rfl⟩ : v157_4 = .bool ((((M.puz aR aP aDepth).1).rules).relay) ∧ _ := hR157_4
          obtain ⟨rfl, rfl⟩ : v157_5 = .bool ((((M.puz aR aP aDepth).1).rules).feed) ∧ _ := hR157_5
          obtain ⟨rfl, rfl⟩ : v157_6 = .bool ((((M.puz aR aP aDepth).1).rules).again) ∧ _ := hR157_6
          obtain ⟨rfl, rfl⟩ : v157_7 = .int .i64 ((((M.puz aR aP aDepth).1).rules).capture) ∧ _ := hR157_7
          obtain ⟨rfl, rfl⟩ : v157_8 = .int .i64 ((((M.puz aR aP aDepth).1).rules).slam) ∧ _ := hR157_8
          obtain ⟨A158, c158, rfl, rfl, bl158, bh158⟩ := hR157_9
          obtain ⟨A159, c159, rfl, rfl, bl159, bh159⟩ := hR157_10
          obtain ⟨rfl, rfl⟩ : v157_11 = .int .i64 ((((M.puz aR aP aDepth).1).position).player) ∧ _ := hR157_11
          obtain ⟨rfl, rfl⟩ : v157_12 = .int .i64 (((M.puz aR aP aDepth).1).depth) ∧ _ := hR157_12
          obtain ⟨rfl, rfl⟩ : v157_13 = .int .i64 (((M.puz aR aP aDepth).1).move) ∧ _ := hR157_13
          obtain ⟨rfl, rfl⟩ : v157_14 = .int .i64 (((M.puz aR aP aDepth).1).value) ∧ _ := hR157_14
          obtain ⟨rfl, rfl⟩ : v157_15 = .int .i64 (((M.puz aR aP aDepth).1).margin) ∧ _ := hR157_15
          obtain ⟨rfl, rfl⟩ : v156_1 = .int .i64 ((M.puz aR aP aDepth).2) ∧ _ := hR156_1
          refine JH.p 5 rfl (p_move rfl) ?_
          refine JH.p 6 rfl (p_extract rfl rfl) ?_
          refine JH.p 7 rfl (p_extract rfl rfl) ?_
          refine JH.one (i := 9) (by kernel_rfl) ?_
          refine JHo.s rfl (e_store (i := 2) (c' := [.int .i64 ((((M.puz aR aP aDepth).1).rules).pits), .int .i64 ((((M.puz aR aP aDepth).1).rules).seeds), .bool ((((M.puz aR aP aDepth).1).rules).stores), .bool ((((M.puz aR aP aDepth).1).rules).skip), .bool ((((M.puz aR aP aDepth).1).rules).relay), .bool ((((M.puz aR aP aDepth).1).rules).feed), .bool ((((M.puz aR aP aDepth).1).rules).again), .int .i64 ((((M.puz aR aP aDepth).1).rules).capture), .int .i64 ((((M.puz aR aP aDepth).1).rules).slam), .slice A158 (((((M.puz aR aP aDepth).1).position).pits).length) c158, .slice A159 (((((M.puz aR aP aDepth).1).position).stores).length) c159, .int .i64 ((((M.puz aR aP aDepth).1).position).player), .int .i64 (((M.puz aR aP aDepth).1).depth), .int .i64 (((M.puz aR aP aDepth).1).move), .int .i64 (((M.puz aR aP aDepth).1).value), .int .i64 (((M.puz aR aP aDepth).1).margin)]) ty_45 rfl rfl rfl rfl rfl rfl rfl rfl) (.inr rfl) ?_
          rintro _ _ _ ⟨rfl, rfl⟩ _
          refine JH.p 10 rfl (p_assign rfl) ?_
          refine JH.done (by kernel_rfl) ?_
          refine Js.front (i := 8) rfl ?_
          refine Js.front (i := 8) rfl ?_
          refine Js.front (i := 8) rfl ?_
          refine Js.front (i := 8) rfl ?_
          refine Js.front (i := 8) rfl ?_
          refine Js.front (i := 8) rfl ?_
          refine Js.front (i := 7) rfl ?_
          refine Js.front (i := 7) rfl ?_
          refine Js.front (i := 8) rfl ?_
          exact Js.meet ⟨_, _, _, _, _, rfl, rfl, x152, by omega, by omega, by omega, by omega⟩ ⟨rfl, rfl, rfl, rfl, rfl, rfl, rfl, rfl, trivial⟩
      · rintro _ _ u130 ⟨b111, A109, c109, A110, c110, rfl, rfl, x130, f130_0, f130_1, f130_2, f130_3⟩
        refine Js.seq ?_
        refine Js.seq ?_
        refine Js.region ?_
        refine JL.q (q_loadN ty_45 rfl (Mem.boxR (i := 0) rfl 0 16) rfl rfl) ?_
        refine JL.q (q_loadN ty_45 rfl (Mem.boxR (i := 6) rfl 0 16) rfl rfl) ?_
        refine JL.e (e_callV fn_27 rfl (fun w hw => c_laws_eqPuzzle ((M.puz aR aP aDepth).1) _ ((M.puz aR aP aDepth).1) _ w ⟨_, rfl, ⟨rfl, rfl, rfl, rfl, rfl, rfl, rfl, rfl, rfl, (ints_rowok (xs := ((((M.puz aR aP aDepth).1).position).pits)) (hw.pr (i := 1) rfl)), (ints_rowok (xs := ((((M.puz aR aP aDepth).1).position).stores)) (hw.pr (i := 2) rfl)), rfl, rfl, rfl, rfl, rfl, trivial⟩⟩ ⟨_, rfl, ⟨rfl, rfl, rfl, rfl, rfl, rfl, rfl, rfl, rfl, (Ty.mono _ f50_2 (x130.vis.trans hw.vis)), (Ty.mono _ f50_5 (x130.vis.trans hw.vis)), rfl, rfl, rfl, rfl, rfl, trivial⟩⟩ (by omega) (by omega) (by omega) (by omega))) ?_
        rintro _ _ _ ⟨rfl, rfl, rfl⟩ _
        refine JL.q (OpP.q (p_not rfl)) ?_
        refine JL.q (OpP.q (p_move rfl)) ?_
        refine JL.g (Gd.f1 rfl rfl rfl) (fun hc => OpP.q (p_move rfl)) ?_
        refine JL.g (Gd.f1 rfl rfl rfl) (fun hc => OpP.q (p_move rfl)) ?_
        refine JL.g (Gd.f1 rfl rfl rfl) (fun hc => OpP.q (p_neq (gvt rfl hc) (gvt rfl hc))) ?_
        refine JL.q (OpP.q (p_pickOr rfl rfl rfl)) ?_
        refine JL.nil ?_
        refine Js.cond rfl (fun h160 => ?_) (fun h160 => ?_)
        ·
          exact absurd h160 (by simp)
        ·
          have h160' := h160
          try simp only [Bool.or_eq_false_iff, Bool.not_eq_false', decide_eq_true_eq] at h160'
          refine Js.skip ?_
          refine Js.seq ?_
          refine Js.seq ?_
          refine Js.drawn _ [] mixed_ (fun _ h => h) ?_
          refine JH.q 0 rfl (q_loadN ty_33 rfl (Mem.boxR (i := 3) rfl 0 3) rfl rfl) ?_
          refine JH.q 1 rfl (q_loadN ty_26 rfl (Mem.boxR (i := 7) rfl 0 3) rfl rfl) ?_
          refine JH.one (i := 2) (by kernel_rfl) ?_
          refine JHo.e rfl (e_callP fn_13 rfl (fun w hw => c_laws_toPosition aP _ w ⟨_, rfl, ⟨(Ty.mono _ h2_0 ((x50.vis.trans x130.vis).trans hw.vis)), (Ty.mono _ h2_1 ((x50.vis.trans x130.vis).trans hw.vis)), rfl, trivial⟩⟩ (by omega) (by omega))) (.inl rfl) ?_
          rintro v161 _ u163 ⟨h162, rfl⟩ x163
          obtain ⟨A164_0, c164_0, A164_1, c164_1, rfl, h164_0, h164_1, bl164_0, bh164_0, bl164_1, bh164_1⟩ := open_Position h162
          refine JH.one (i := 3) (by kernel_rfl) ?_
          refine JHo.e rfl (e_callV fn_16 rfl (fun w hw => c_laws_eqPosition aP _ aP _ w ⟨_, rfl, ⟨(ints_rowok (xs := aP.pits) (hw.pr (i := 4) rfl)), (ints_rowok (xs := aP.stores) (hw.pr (i := 5) rfl)), rfl, trivial⟩⟩ ⟨_, rfl, ⟨(Ty.mono _ h164_0 hw.vis), (Ty.mono _ h164_1 hw.vis), rfl, trivial⟩⟩ (by omega) (by omega) (by omega) (by omega))) (.inl rfl) ?_
          rintro _ _ _ ⟨rfl, rfl, rfl⟩ _
          refine JH.p 4 rfl (p_not rfl) ?_
          refine JH.done (by kernel_rfl) ?_
          refine Js.cond rfl (fun h165 => ?_) (fun h165 => ?_)
          ·
            exact absurd h165 (by simp)
          ·
            have h165' := h165
            try simp only [Bool.not_eq_false', decide_eq_true_eq] at h165'
            refine Js.skip ?_
            refine Js.seq ?_
            refine Js.region ?_
            refine JL.q (OpP.q (p_assign rfl)) ?_
            refine JL.nil ?_
            refine Js.seq ?_
            refine Js.region ?_
            refine JL.q (q_loadN ty_33 rfl (Mem.boxR (i := 3) rfl 0 3) rfl rfl) ?_
            refine JL.q (OpP.q (p_move rfl)) ?_
            refine JL.conv (fun _ h => h.front (i := 5) rfl) ?_
            refine JL.conv (fun _ h => h.front (i := 5) rfl) ?_
            refine JL.e (e_callB (bs := [rowO 2 1 (.slice A98 aP.pits.length c98) aP.pits.length (ints_ aP.pits) [], rowO 2 1 (.slice A99 aP.stores.length c99) aP.stores.length (ints_ aP.stores) []]) (rest := [boxO b111 [.int .i64 ((((M.puz aR aP aDepth).1).rules).pits), .int .i64 ((((M.puz aR aP aDepth).1).rules).seeds), .bool ((((M.puz aR aP aDepth).1).rules).stores), .bool ((((M.puz aR aP aDepth).1).rules).skip), .bool ((((M.puz aR aP aDepth).1).rules).relay), .bool ((((M.puz aR aP aDepth).1).rules).feed), .bool ((((M.puz aR aP aDepth).1).rules).again), .int .i64 ((((M.puz aR aP aDepth).1).rules).capture), .int .i64 ((((M.puz aR aP aDepth).1).rules).slam), .slice A109 (((((M.puz aR aP aDepth).1).position).pits).length) c109, .slice A110 (((((M.puz aR aP aDepth).1).position).stores).length) c110, .int .i64 ((((M.puz aR aP aDepth).1).position).player), .int .i64 (((M.puz aR aP aDepth).1).depth), .int .i64 (((M.puz aR aP aDepth).1).move), .int .i64 (((M.puz aR aP aDepth).1).value), .int .i64 (((M.puz aR aP aDepth).1).margin)] 45, rowO 2 1 (.slice A109 (((((M.puz aR aP aDepth).1).position).pits).length) c109) (((((M.puz aR aP aDepth).1).position).pits).length) (ints_ ((((M.puz aR aP aDepth).1).position).pits)) [], rowO 2 1 (.slice A110 (((((M.puz aR aP aDepth).1).position).stores).length) c110) (((((M.puz aR aP aDepth).1).position).stores).length) (ints_ ((((M.puz aR aP aDepth).1).position).stores)) [], boxO b100 [.slice A98 aP.pits.length c98, .slice A99 aP.stores.length c99, .int .i64 aP.player] 33, boxO b19 [.int .i64 ((((M.puz aR aP aDepth).1).rules).pits), .int .i64 ((((M.puz aR aP aDepth).1).rules).seeds), .bool ((((M.puz aR aP aDepth).1).rules).stores), .bool ((((M.puz aR aP aDepth).1).rules).skip), .bool ((((M.puz aR aP aDepth).1).rules).relay), .bool ((((M.puz aR aP aDepth).1).rules).feed), .bool ((((M.puz aR aP aDepth).1).rules).again), .int .i64 ((((M.puz aR aP aDepth).1).rules).capture), .int .i64 ((((M.puz aR aP aDepth).1).rules).slam), .slice A18_9 (((((M.puz aR aP aDepth).1).position).pits).length) c18_9, .slice A18_10 (((((M.puz aR aP aDepth).1).position).stores).length) c18_10, .int .i64 ((((M.puz aR aP aDepth).1).position).player), .int .i64 (((M.puz aR aP aDepth).1).depth), .int .i64 (((M.puz aR aP aDepth).1).move), .int .i64 (((M.puz aR aP aDepth).1).value), .int .i64 (((M.puz aR aP aDepth).1).margin)] 45, boxO b4 [.slice A2_0 aP.pits.length c2_0, .slice A2_1 aP.stores.length c2_1, .int .i64 aP.player] 26, boxO b3 [.int .i64 aR.pits, .int .i64 aR.seeds, .bool aR.stores, .bool aR.skip, .bool aR.relay, .bool aR.feed, .bool aR.again, .int .i64 aR.capture, .int .i64 aR.slam] 23]) fn_17 rfl (fun w hb hw => c_laws_markPosition aP.pits aP.stores aP.player A98 c98 [] A99 c99 [] 1 w hb (by omega) (by omega) (by omega) (by omega) (by omega) (by omega) (by omega) (by omega)) rfl) ?_
            rintro _ _ _ ⟨_, G166, ⟨rfl, rfl⟩, rfl, rfl⟩ _
            refine JL.q (OpP.q (p_assign rfl)) ?_
            refine JL.nil ?_
            refine Js.seq ?_
            refine Js.seq ?_
            refine Js.region ?_
            refine JL.q (OpP.q (p_move rfl)) ?_
            refine JL.q (OpP.q (p_lss rfl rfl)) ?_
            refine JL.q (OpP.q (p_move rfl)) ?_
            refine JL.g (Gd.f1 rfl rfl rfl) (fun hc => q_loadN ty_45 rfl (Mem.boxR (i := 3) rfl 0 16) rfl rfl) ?_
            refine JL.g (Gd.f1 rfl rfl rfl) (fun hc => q_loadN ty_45 rfl (Mem.boxR (i := 7) rfl 0 16) rfl rfl) ?_
            refine JL.ge (Gd.f1 rfl rfl rfl) (fun hc => e_callV fn_27 (opds_2 (gvt rfl hc) (gvt rfl hc)) (fun w hw => c_laws_eqPuzzle ((M.puz aR aP aDepth).1) _ ((M.puz aR aP aDepth).1) _ w ⟨_, rfl, ⟨rfl, rfl, rfl, rfl, rfl, rfl, rfl, rfl, rfl, (ints_rowok (xs := ((((M.puz aR aP aDepth).1).position).pits)) (hw.pr (i := 4) rfl)), (ints_rowok (xs := ((((M.puz aR aP aDepth).1).position).stores)) (hw.pr (i := 5) rfl)), rfl, rfl, rfl, rfl, rfl, trivial⟩⟩ ⟨_, rfl, ⟨rfl, rfl, rfl, rfl, rfl, rfl, rfl, rfl, rfl, (Ty.mono _ f50_2 ((x130.vis.trans x163.vis).trans hw.vis)), (Ty.mono _ f50_5 ((x130.vis.trans x163.vis).trans hw.vis)), rfl, rfl, rfl, rfl, rfl, trivial⟩⟩ (by have hc9 := hc; (try simp only [Bool.not_eq_true', decide_eq_false_iff_not, Int.not_lt] at hc9); omega) (by have hc9 := hc; (try simp only [Bool.not_eq_true', decide_eq_false_iff_not, Int.not_lt] at hc9); omega) (by have hc9 := hc; (try simp only [Bool.not_eq_true', decide_eq_false_iff_not, Int.not_lt] at hc9); omega) (by have hc9 := hc; (try simp only [Bool.not_eq_true', decide_eq_false_iff_not, Int.not_lt] at hc9); omega))) ?_
            refine JL.g (Gd.f1 rfl rfl rfl) (fun hc => OpP.q (p_not (gvt rfl hc))) ?_
            refine JL.q (OpP.q (p_pickOr rfl rfl rfl)) ?_
            refine JL.q (OpP.q (p_move rfl)) ?_
            refine JL.g (Gd.f1 rfl rfl rfl) (fun hc => OpP.q (p_move rfl)) ?_
            refine JL.g (Gd.f1 rfl rfl rfl) (fun hc => OpP.q (p_move rfl)) ?_
            refine JL.g (Gd.f1 rfl rfl rfl) (fun hc => OpP.q (p_neq (gvt rfl hc) (gvt rfl hc))) ?_
            refine JL.q (OpP.q (p_pickOr rfl rfl rfl)) ?_
            refine JL.nil ?_
            refine Js.cond rfl (fun h167 => ?_) (fun h167 => ?_)
            ·
              exact absurd h167 (by simp only [decide_true, Bool.not_true, Bool.or_false, decide_eq_true_eq]; omega)
            ·
              have h167' := h167
              try simp only [Bool.or_eq_false_iff, decide_eq_false_iff_not, Int.not_lt, Bool.not_eq_false', decide_eq_true_eq] at h167'
              refine Js.skip ?_
              refine Js.seq ?_
              refine Js.region ?_
              refine JL.q (OpP.q (p_assign rfl)) ?_
              refine JL.nil ?_
              refine Js.seq ?_
              refine Js.region ?_
              refine JL.q (q_loadN ty_45 rfl (Mem.boxR (i := 3) rfl 0 16) rfl rfl) ?_
              refine JL.q (OpP.q (p_move rfl)) ?_
              refine JL.conv (fun _ h => h.front (i := 5) rfl) ?_
              refine JL.conv (fun _ h => h.front (i := 5) rfl) ?_
              refine JL.e (e_callB (bs := [rowO 2 1 (.slice A109 (((((M.puz aR aP aDepth).1).position).pits).length) c109) (((((M.puz aR aP aDepth).1).position).pits).length) (ints_ ((((M.puz aR aP aDepth).1).position).pits)) [], rowO 2 1 (.slice A110 (((((M.puz aR aP aDepth).1).position).stores).length) c110) (((((M.puz aR aP aDepth).1).position).stores).length) (ints_ ((((M.puz aR aP aDepth).1).position).stores)) []]) (rest := [rowO 2 1 (.slice A98 aP.pits.length c98) aP.pits.length (ints_ (M.up 1 aP.pits.length)) [], rowO 2 1 (.slice A99 aP.stores.length c99) aP.stores.length (ints_ (M.up (1 + (aP.pits.length : Int)) aP.stores.length)) [], anyO G166, boxO b111 [.int .i64 ((((M.puz aR aP aDepth).1).rules).pits), .int .i64 ((((M.puz aR aP aDepth).1).rules).seeds), .bool ((((M.puz aR aP aDepth).1).rules).stores), .bool ((((M.puz aR aP aDepth).1).rules).skip), .bool ((((M.puz aR aP aDepth).1).rules).relay), .bool ((((M.puz aR aP aDepth).1).rules).feed), .bool ((((M.puz aR aP aDepth).1).rules).again), .int .i64 ((((M.puz aR aP aDepth).1).rules).capture), .int .i64 ((((M.puz aR aP aDepth).1).rules).slam), .slice A109 (((((M.puz aR aP aDepth).1).position).pits).length) c109, .slice A110 (((((M.puz aR aP aDepth).1).position).stores).length) c110, .int .i64 ((((M.puz aR aP aDepth).1).position).player), .int .i64 (((M.puz aR aP aDepth).1).depth), .int .i64 (((M.puz aR aP aDepth).1).move), .int .i64 (((M.puz aR aP aDepth).1).value), .int .i64 (((M.puz aR aP aDepth).1).margin)] 45, boxO b100 [.slice A98 aP.pits.length c98, .slice A99 aP.stores.length c99, .int .i64 aP.player] 33, boxO b19 [.int .i64 ((((M.puz aR aP aDepth).1).rules).pits), .int .i64 ((((M.puz aR aP aDepth).1).rules).seeds), .bool ((((M.puz aR aP aDepth).1).rules).stores), .bool ((((M.puz aR aP aDepth).1).rules).skip), .bool ((((M.puz aR aP aDepth).1).rules).relay), .bool ((((M.puz aR aP aDepth).1).rules).feed), .bool ((((M.puz aR aP aDepth).1).rules).again), .int .i64 ((((M.puz aR aP aDepth).1).rules).capture), .int .i64 ((((M.puz aR aP aDepth).1).rules).slam), .slice A18_9 (((((M.puz aR aP aDepth).1).position).pits).length) c18_9, .slice A18_10 (((((M.puz aR aP aDepth).1).position).stores).length) c18_10, .int .i64 ((((M.puz aR aP aDepth).1).position).player), .int .i64 (((M.puz aR aP aDepth).1).depth), .int .i64 (((M.puz aR aP aDepth).1).move), .int .i64 (((M.puz aR aP aDepth).1).value), .int .i64 (((M.puz aR aP aDepth).1).margin)] 45, boxO b4 [.slice A2_0 aP.pits.length c2_0, .slice A2_1 aP.stores.length c2_1, .int .i64 aP.player] 26, boxO b3 [.int .i64 aR.pits, .int .i64 aR.seeds, .bool aR.stores, .bool aR.skip, .bool aR.relay, .bool aR.feed, .bool aR.again, .int .i64 aR.capture, .int .i64 aR.slam] 23]) fn_28 rfl (fun w hb hw => c_laws_markPuzzle (((M.puz aR aP aDepth).1).rules) (((M.puz aR aP aDepth).1).position) (((M.puz aR aP aDepth).1).depth) (((M.puz aR aP aDepth).1).move) (((M.puz aR aP aDepth).1).value) (((M.puz aR aP aDepth).1).margin) A109 c109 [] A110 c110 [] 1 w hb (by omega) (by omega) (by omega) (by omega) (by omega) (by omega) (by omega) (by omega)) rfl) ?_
              rintro _ _ _ ⟨_, G168, ⟨rfl, rfl⟩, rfl, rfl⟩ _
              refine JL.q (OpP.q (p_assign rfl)) ?_
              refine JL.nil ?_
              refine Js.seq ?_
              refine Js.region ?_
              refine JL.q (OpP.q (p_assign rfl)) ?_
              refine JL.nil ?_
              refine Js.seq ?_
              refine Js.region ?_
              refine JL.q (q_loadN ty_45 rfl (Mem.boxR (i := 6) rfl 0 16) rfl rfl) ?_
              refine JL.q (OpP.q (p_move rfl)) ?_
              refine JL.e (e_callV fn_29 rfl (fun w hw => c_laws_heldPuzzle (M.Puz.mk (((M.puz aR aP aDepth).1).rules) (M.Pos.mk ((M.markP (((M.puz aR aP aDepth).1).position) 1).pits) ((M.markP (((M.puz aR aP aDepth).1).position) 1).stores) ((((M.puz aR aP aDepth).1).position).player)) (((M.puz aR aP aDepth).1).depth) (((M.puz aR aP aDepth).1).move) (((M.puz aR aP aDepth).1).value) (((M.puz aR aP aDepth).1).margin)) _ 1 w ⟨_, rfl, ⟨rfl, rfl, rfl, rfl, rfl, rfl, rfl, rfl, rfl, (ints_rowok (xs := ((M.markP (((M.puz aR aP aDepth).1).position) 1).pits)) (hw.pr (i := 0) rfl)), (ints_rowok (xs := ((M.markP (((M.puz aR aP aDepth).1).position) 1).stores)) (hw.pr (i := 1) rfl)), rfl, rfl, rfl, rfl, rfl, trivial⟩⟩ (by simp only [M.markP, M.up_length]; omega) (by simp only [M.markP, M.up_length]; omega) (by omega) (by omega))) ?_
              rintro _ _ _ ⟨rfl, rfl, rfl⟩ _
              refine JL.q (OpP.q (p_assign rfl)) ?_
              refine JL.nil ?_
              refine Js.seq ?_
              refine Js.seq ?_
              refine Js.region ?_
              refine JL.q (OpP.q (p_move rfl)) ?_
              refine JL.q (OpP.q (p_lss rfl rfl)) ?_
              refine JL.nil ?_
              refine Js.cond rfl (fun h169 => ?_) (fun h169 => ?_)
              ·
                have h9 : decide (M.heldP (M.markP (M.puz aR aP aDepth).1.position 1) 1 < 0) = true := h169; rw [M.heldP_mark (M.puz aR aP aDepth).1.position (k := 1) (by decide)] at h9; simp only [decide_eq_true_eq] at h9; have h8 := M.szp_nn (M.puz aR aP aDepth).1.position; omega
              ·
                have h169' := h169
                try simp only [decide_eq_false_iff_not, Int.not_lt] at h169'
                refine Js.skip ?_
                refine Js.seq ?_
                refine Js.seq ?_
                refine Js.region ?_
                refine JL.q (OpP.q (p_move rfl)) ?_
                refine JL.q (OpP.q (p_move rfl)) ?_
                refine JL.q (OpP.q (p_neq rfl rfl)) ?_
                refine JL.nil ?_
                refine Js.cond rfl (fun h170 => ?_) (fun h170 => ?_)
                ·
                  have h9 : (!decide (M.heldP (M.markP (M.puz aR aP aDepth).1.position 1) 1 = 1 + ((M.puz aR aP aDepth).1.position.pits.length : Int) + ((M.puz aR aP aDepth).1.position.stores.length : Int))) = true := h170; rw [M.heldP_mark (M.puz aR aP aDepth).1.position (k := 1) (by decide)] at h9; simp [M.szp, Int.add_assoc] at h9
                ·
                  have h170' := h170
                  try simp only [Bool.not_eq_false', decide_eq_true_eq] at h170'
                  refine Js.skip ?_
                  refine Js.seq ?_
                  refine Js.cut (fun l os u => ∃ (b184 : Nat) (A183_9 : Option Addr) (c183_9 : Nat) (A183_10 : Option Addr) (c183_10 : Nat), l = [(8, .pointer (some ⟨b19, 0, none⟩)), (9, .int .i64 ((M.puz aR aP aDepth).2)), (11, .pointer (some ⟨b111, 0, none⟩)), (14, .int .i64 (1 + ((((M.puz aR aP aDepth).1).position).pits.length : Int) + ((((M.puz aR aP aDepth).1).position).stores.length : Int))), (16, .pointer (some ⟨b184, 0, none⟩)), (17, .int .i64 ((M.puz aR aP aDepth).2))] ∧ os = [boxO b184 [.int .i64 ((((M.puz aR aP aDepth).1).rules).pits), .int .i64 ((((M.puz aR aP aDepth).1).rules).seeds), .bool ((((M.puz aR aP aDepth).1).rules).stores), .bool ((((M.puz aR aP aDepth).1).rules).skip), .bool ((((M.puz aR aP aDepth).1).rules).relay), .bool ((((M.puz aR aP aDepth).1).rules).feed), .bool ((((M.puz aR aP aDepth).1).rules).again), .int .i64 ((((M.puz aR aP aDepth).1).rules).capture), .int .i64 ((((M.puz aR aP aDepth).1).rules).slam), .slice A183_9 (((((M.puz aR aP aDepth).1).position).pits).length) c183_9, .slice A183_10 (((((M.puz aR aP aDepth).1).position).stores).length) c183_10, .int .i64 ((((M.puz aR aP aDepth).1).position).player), .int .i64 (((M.puz aR aP aDepth).1).depth), .int .i64 (((M.puz aR aP aDepth).1).move), .int .i64 (((M.puz aR aP aDepth).1).value), .int .i64 (((M.puz aR aP aDepth).1).margin)] 45, rowO 2 1 (.slice A109 (((((M.puz aR aP aDepth).1).position).pits).length) c109) (((((M.puz aR aP aDepth).1).position).pits).length) (ints_ ((M.markP (((M.puz aR aP aDepth).1).position) 1).pits)) [], rowO 2 1 (.slice A110 (((((M.puz aR aP aDepth).1).position).stores).length) c110) (((((M.puz aR aP aDepth).1).position).stores).length) (ints_ ((M.markP (((M.puz aR aP aDepth).1).position) 1).stores)) [], anyO G168, rowO 2 1 (.slice A98 aP.pits.length c98) aP.pits.length (ints_ (M.up 1 aP.pits.length)) [], rowO 2 1 (.slice A99 aP.stores.length c99) aP.stores.length (ints_ (M.up (1 + (aP.pits.length : Int)) aP.stores.length)) [], anyO G166, boxO b111 [.int .i64 ((((M.puz aR aP aDepth).1).rules).pits), .int .i64 ((((M.puz aR aP aDepth).1).rules).seeds), .bool ((((M.puz aR aP aDepth).1).rules).stores), .bool ((((M.puz aR aP aDepth).1).rules).skip), .bool ((((M.puz aR aP aDepth).1).rules).relay), .bool ((((M.puz aR aP aDepth).1).rules).feed), .bool ((((M.puz aR aP aDepth).1).rules).again), .int .i64 ((((M.puz aR aP aDepth).1).rules).capture), .int .i64 ((((M.puz aR aP aDepth).1).rules).slam), .slice A109 (((((M.puz aR aP aDepth).1).position).pits).length) c109, .slice A110 (((((M.puz aR aP aDepth).1).position).stores).length) c110, .int .i64 ((((M.puz aR aP aDepth).1).position).player), .int .i64 (((M.puz aR aP aDepth).1).depth), .int .i64 (((M.puz aR aP aDepth).1).move), .int .i64 (((M.puz aR aP aDepth).1).value), .int .i64 (((M.puz aR aP aDepth).1).margin)] 45, boxO b100 [.slice A98 aP.pits.length c98, .slice A99 aP.stores.length c99, .int .i64 aP.player] 33, boxO b19 [.int .i64 ((((M.puz aR aP aDepth).1).rules).pits), .int .i64 ((((M.puz aR aP aDepth).1).rules).seeds), .bool ((((M.puz aR aP aDepth).1).rules).stores), .bool ((((M.puz aR aP aDepth).1).rules).skip), .bool ((((M.puz aR aP aDepth).1).rules).relay), .bool ((((M.puz aR aP aDepth).1).rules).feed), .bool ((((M.puz aR aP aDepth).1).rules).again), .int .i64 ((((M.puz aR aP aDepth).1).rules).capture), .int .i64 ((((M.puz aR aP aDepth).1).rules).slam), .slice A18_9 (((((M.puz aR aP aDepth).1).position).pits).length) c18_9, .slice A18_10 (((((M.puz aR aP aDepth).1).position).stores).length) c18_10, .int .i64 ((((M.puz aR aP aDepth).1).position).player), .int .i64 (((M.puz aR aP aDepth).1).depth), .int .i64 (((M.puz aR aP aDepth).1).move), .int .i64 (((M.puz aR aP aDepth).1).value), .int .i64 (((M.puz aR aP aDepth).1).margin)] 45, boxO b4 [.slice A2_0 aP.pits.length c2_0, .slice A2_1 aP.stores.length c2_1, .int .i64 aP.player] 26, boxO b3 [.int .i64 aR.pits, .int .i64 aR.seeds, .bool aR.stores, .bool aR.skip, .bool aR.relay, .bool aR.feed, .bool aR.again, .int .i64 aR.capture, .int .i64 aR.slam] 23] ∧ Up w.heap.size u163 u ∧ (((((M.puz aR aP aDepth).1).position).pits).length ≤ c183_9) ∧ (c183_9 ≤ 9223372036854775807) ∧ ((Ty.ints 2 ((((M.puz aR aP aDepth).1).position).pits)).ok u (.slice A183_9 (((((M.puz aR aP aDepth).1).position).pits).length) c183_9)) ∧ (((((M.puz aR aP aDepth).1).position).stores).length ≤ c183_10) ∧ (c183_10 ≤ 9223372036854775807) ∧ ((Ty.ints 2 ((((M.puz aR aP aDepth).1).position).stores)).ok u (.slice A183_10 (((((M.puz aR aP aDepth).1).position).stores).length) c183_10))) ?_ ?_
                  ·
                    refine Js.drawn _ [10] mixed_ (fun _ h => h) ?_
                    refine JH.q 0 rfl (q_loadN ty_23 rfl (Mem.boxR (i := 10) rfl 0 9) rfl rfl) ?_
                    refine JH.q 2 rfl (q_loadN ty_26 rfl (Mem.boxR (i := 9) rfl 0 3) rfl rfl) ?_
                    refine JH.p 4 rfl (p_move rfl) ?_
                    refine JH.all (rs := [1, 9]) (by kernel_rfl) rfl ⟨?_, ?_, trivial⟩
                    ·
                      refine JHo.e rfl (e_callP fn_12 rfl (fun w hw => c_laws_toRules aR _ w ⟨_, rfl, ⟨rfl, rfl, rfl, rfl, rfl, rfl, rfl, rfl, rfl, trivial⟩⟩)) (.inl rfl) ?_
                      rintro v216 _ u218 ⟨h217, rfl⟩ x218
                      obtain rfl := open_Rules h217
                      refine JH.all (rs := [3, 9]) (by kernel_rfl) rfl ⟨?_, ?_, trivial⟩
                      ·
                        refine JHo.e rfl (e_callP fn_13 rfl (fun w hw => c_laws_toPosition aP _ w ⟨_, rfl, ⟨(Ty.mono _ h2_0 ((((x50.vis.trans x130.vis).trans x163.vis).trans x218.vis).trans hw.vis)), (Ty.mono _ h2_1 ((((x50.vis.trans x130.vis).trans x163.vis).trans x218.vis).trans hw.vis)), rfl, trivial⟩⟩ (by omega) (by omega))) (.inl rfl) ?_
                        rintro v220 _ u222 ⟨h221, rfl⟩ x222
                        obtain ⟨A223_0, c223_0, A223_1, c223_1, rfl, h223_0, h223_1, bl223_0, bh223_0, bl223_1, bh223_1⟩ := open_Position h221
                        refine JH.all (rs := [5, 9]) (by kernel_rfl) rfl ⟨?_, ?_, trivial⟩
                        ·
                          refine JHo.e rfl (e_callP fn_26 rfl (fun w hw => c_impl_PuzzleOf aR _ aP _ aDepth w ⟨_, rfl, ⟨rfl, rfl, rfl, rfl, rfl, rfl, rfl, rfl, rfl, trivial⟩⟩ ⟨_, rfl, ⟨(Ty.mono _ h223_0 hw.vis), (Ty.mono _ h223_1 hw.vis), rfl, trivial⟩⟩ (by omega) (by omega))) (.inl rfl) ?_
                          rintro v224 _ u226 ⟨h225, rfl⟩ x226
                          obtain ⟨vs227, rfl, hv227⟩ := h225
                          obtain ⟨v227_0, vs227, rfl, hw227_0, hv227⟩ := cellsOk_cons hv227
                          obtain ⟨v227_1, vs227, rfl, hw227_1, hv227⟩ := cellsOk_cons hv227
                          obtain rfl := cellsOk_nil hv227
                          obtain ⟨A228_9, c228_9, A228_10, c228_10, rfl, h228_9, h228_10, bl228_9, bh228_9, bl228_10, bh228_10⟩ := open_Puzzle hw227_0
                          obtain rfl : v227_1 = .int .i64 ((M.puz aR aP aDepth).2) := hw227_1
                          refine JH.p 6 rfl (p_move rfl) ?_
                          refine JH.p 7 rfl (p_extract rfl rfl) ?_
                          refine JH.p 8 rfl (p_extract rfl rfl) ?_
                          refine JH.one (i := 9) (by kernel_rfl) ?_
                          refine JHo.e rfl (e_alloc zero_45) (.inl rfl) ?_
                          rintro _ _ _ ⟨b229, rfl, rfl, rfl⟩ _
                          refine JH.one (i := 10) (by kernel_rfl) ?_
                          refine JHo.s rfl (e_store (i := 0) (c' := [.int .i64 ((((M.puz aR aP aDepth).1).rules).pits), .int .i64 ((((M.puz aR aP aDepth).1).rules).seeds), .bool ((((M.puz aR aP aDepth).1).rules).stores), .bool ((((M.puz aR aP aDepth).1).rules).skip), .bool ((((M.puz aR aP aDepth).1).rules).relay), .bool ((((M.puz aR aP aDepth).1).rules).feed), .bool ((((M.puz aR aP aDepth).1).rules).again), .int .i64 ((((M.puz aR aP aDepth).1).rules).capture), .int .i64 ((((M.puz aR aP aDepth).1).rules).slam), .slice A228_9 (((((M.puz aR aP aDepth).1).position).pits).length) c228_9, .slice A228_10 (((((M.puz aR aP aDepth).1).position).stores).length) c228_10, .int .i64 ((((M.puz aR aP aDepth).1).position).player), .int .i64 (((M.puz aR aP aDepth).1).depth), .int .i64 (((M.puz aR aP aDepth).1).move), .int .i64 (((M.puz aR aP aDepth).1).value), .int .i64 (((M.puz aR aP aDepth).1).margin)]) ty_45 rfl rfl rfl rfl rfl rfl rfl rfl) (.inr rfl) ?_
                          rintro _ _ _ ⟨rfl, rfl⟩ _
                          refine JH.p 11 rfl (p_assign rfl) ?_
                          refine JH.done (by kernel_rfl) ?_
                          exact Js.meet ⟨_, _, _, _, _, rfl, rfl, ((x218.trans x222).trans x226), by omega, by omega, h228_9, by omega, by omega, h228_10⟩ ⟨rfl, rfl, rfl, rfl, rfl, rfl, trivial⟩
                        ·
                          refine JHo.e rfl (e_alloc zero_45) (.inl rfl) ?_
                          rintro _ _ _ ⟨b230, rfl, rfl, rfl⟩ _
                          refine JH.one (i := 5) (by kernel_rfl) ?_
                          refine JHo.e rfl (e_callP fn_26 rfl (fun w hw => c_impl_PuzzleOf aR _ aP _ aDepth w ⟨_, rfl, ⟨rfl, rfl, rfl, rfl, rfl, rfl, rfl, rfl, rfl, trivial⟩⟩ ⟨_, rfl, ⟨(Ty.mono _ h223_0 hw.vis), (Ty.mono _ h223_1 hw.vis), rfl, trivial⟩⟩ (by omega) (by omega))) (.inl rfl) ?_
                          rintro v231 _ u233 ⟨h232, rfl⟩ x233
                          obtain ⟨vs234, rfl, hv234⟩ := h232
                          obtain ⟨v234_0, vs234, rfl, hw234_0, hv234⟩ := cellsOk_cons hv234
                          obtain ⟨v234_1, vs234, rfl, hw234_1, hv234⟩ := cellsOk_cons hv234
                          obtain rfl := cellsOk_nil hv234
                          obtain ⟨A235_9, c235_9, A235_10, c235_10, rfl, h235_9, h235_10, bl235_9, bh235_9, bl235_10, bh235_10⟩ := open_Puzzle hw234_0
                          obtain rfl : v234_1 = .int .i64 ((M.puz aR aP aDepth).2) := hw234_1
                          refine JH.p 6 rfl (p_move rfl) ?_
                          refine JH.p 7 rfl (p_extract rfl rfl) ?_
                          refine JH.p 8 rfl (p_extract rfl rfl) ?_
                          refine JH.one (i := 10) (by kernel_rfl) ?_
                          refine JHo.s rfl (e_store (i := 0) (c' := [.int .i64 ((((M.puz aR aP aDepth).1).rules).pits), .int .i64 ((((M.puz aR aP aDepth).1).rules).seeds), .bool ((((M.puz aR aP aDepth).1).rules).stores), .bool ((((M.puz aR aP aDepth).1).rules).skip), .bool ((((M.puz aR aP aDepth).1).rules).relay), .bool ((((M.puz aR aP aDepth).1).rules).feed), .bool ((((M.puz aR aP aDepth).1).rules).again), .int .i64 ((((M.puz aR aP aDepth).1).rules).capture), .int .i64 ((((M.puz aR aP aDepth).1).rules).slam), .slice A235_9 (((((M.puz aR aP aDepth).1).position).pits).length) c235_9, .slice A235_10 (((((M.puz aR aP aDepth).1).position).stores).length) c235_10, .int .i64 ((((M.puz aR aP aDepth).1).position).player), .int .i64 (((M.puz aR aP aDepth).1).depth), .int .i64 (((M.puz aR aP aDepth).1).move), .int .i64 (((M.puz aR aP aDepth).1).value), .int .i64 (((M.puz aR aP aDepth).1).margin)]) ty_45 rfl rfl rfl rfl rfl rfl rfl rfl) (.inr rfl) ?_
                          rintro _ _ _ ⟨rfl, rfl⟩ _
                          refine JH.p 11 rfl (p_assign rfl) ?_
                          refine JH.done (by kernel_rfl) ?_
                          exact Js.meet ⟨_, _, _, _, _, rfl, rfl, ((x218.trans x222).trans x233), by omega, by omega, h235_9, by omega, by omega, h235_10⟩ ⟨rfl, rfl, rfl, rfl, rfl, rfl, trivial⟩
                      ·
                        refine JHo.e rfl (e_alloc zero_45) (.inl rfl) ?_
                        rintro _ _ _ ⟨b236, rfl, rfl, rfl⟩ _
                        refine JH.one (i := 3) (by kernel_rfl) ?_
                        refine JHo.e rfl (e_callP fn_13 rfl (fun w hw => c_laws_toPosition aP _ w ⟨_, rfl, ⟨(Ty.mono _ h2_0 ((((x50.vis.trans x130.vis).trans x163.vis).trans x218.vis).trans hw.vis)), (Ty.mono _ h2_1 ((((x50.vis.trans x130.vis).trans x163.vis).trans x218.vis).trans hw.vis)), rfl, trivial⟩⟩ (by omega) (by omega))) (.inl rfl) ?_
                        rintro v237 _ u239 ⟨h238, rfl⟩ x239
                        obtain ⟨A240_0, c240_0, A240_1, c240_1, rfl, h240_0, h240_1, bl240_0, bh240_0, bl240_1, bh240_1⟩ := open_Position h238
                        refine JH.one (i := 5) (by kernel_rfl) ?_
                        refine JHo.e rfl (e_callP fn_26 rfl (fun w hw => c_impl_PuzzleOf aR _ aP _ aDepth w ⟨_, rfl, ⟨rfl, rfl, rfl, rfl, rfl, rfl, rfl, rfl, rfl, trivial⟩⟩ ⟨_, rfl, ⟨(Ty.mono _ h240_0 hw.vis), (Ty.mono _ h240_1 hw.vis), rfl, trivial⟩⟩ (by omega) (by omega))) (.inl rfl) ?_
                        rintro v241 _ u243 ⟨h242, rfl⟩ x243
                        obtain ⟨vs244, rfl, hv244⟩ := h242
                        obtain ⟨v244_0, vs244, rfl, hw244_0, hv244⟩ := cellsOk_cons hv244
                        obtain ⟨v244_1, vs244, rfl, hw244_1, hv244⟩ := cellsOk_cons hv244
                        obtain rfl := cellsOk_nil hv244
                        obtain ⟨A245_9, c245_9, A245_10, c245_10, rfl, h245_9, h245_10, bl245_9, bh245_9, bl245_10, bh245_10⟩ := open_Puzzle hw244_0
                        obtain rfl : v244_1 = .int .i64 ((M.puz aR aP aDepth).2) := hw244_1
                        refine JH.p 6 rfl (p_move rfl) ?_
                        refine JH.p 7 rfl (p_extract rfl rfl) ?_
                        refine JH.p 8 rfl (p_extract rfl rfl) ?_
                        refine JH.one (i := 10) (by kernel_rfl) ?_
                        refine JHo.s rfl (e_store (i := 0) (c' := [.int .i64 ((((M.puz aR aP aDepth).1).rules).pits), .int .i64 ((((M.puz aR aP aDepth).1).rules).seeds), .bool ((((M.puz aR aP aDepth).1).rules).stores), .bool ((((M.puz aR aP aDepth).1).rules).skip), .bool ((((M.puz aR aP aDepth).1).rules).relay), .bool ((((M.puz aR aP aDepth).1).rules).feed), .bool ((((M.puz aR aP aDepth).1).rules).again), .int .i64 ((((M.puz aR aP aDepth).1).rules).capture), .int .i64 ((((M.puz aR aP aDepth).1).rules).slam), .slice A245_9 (((((M.puz aR aP aDepth).1).position).pits).length) c245_9, .slice A245_10 (((((M.puz aR aP aDepth).1).position).stores).length) c245_10, .int .i64 ((((M.puz aR aP aDepth).1).position).player), .int .i64 (((M.puz aR aP aDepth).1).depth), .int .i64 (((M.puz aR aP aDepth).1).move), .int .i64 (((M.puz aR aP aDepth).1).value), .int .i64 (((M.puz aR aP aDepth).1).margin)]) ty_45 rfl rfl rfl rfl rfl rfl rfl rfl) (.inr rfl) ?_
                        rintro _ _ _ ⟨rfl, rfl⟩ _
                        refine JH.p 11 rfl (p_assign rfl) ?_
                        refine JH.done (by kernel_rfl) ?_
                        exact Js.meet ⟨_, _, _, _, _, rfl, rfl, ((x218.trans x239).trans x243), by omega, by omega, h245_9, by omega, by omega, h245_10⟩ ⟨rfl, rfl, rfl, rfl, rfl, rfl, trivial⟩
                    ·
                      refine JHo.e rfl (e_alloc zero_45) (.inl rfl) ?_
                      rintro _ _ _ ⟨b246, rfl, rfl, rfl⟩ _
                      refine JH.one (i := 1) (by kernel_rfl) ?_
                      refine JHo.e rfl (e_callP fn_12 rfl (fun w hw => c_laws_toRules aR _ w ⟨_, rfl, ⟨rfl, rfl, rfl, rfl, rfl, rfl, rfl, rfl, rfl, trivial⟩⟩)) (.inl rfl) ?_
                      rintro v247 _ u249 ⟨h248, rfl⟩ x249
                      obtain rfl := open_Rules h248
                      refine JH.one (i := 3) (by kernel_rfl) ?_
                      refine JHo.e rfl (e_callP fn_13 rfl (fun w hw => c_laws_toPosition aP _ w ⟨_, rfl, ⟨(Ty.mono _ h2_0 ((((x50.vis.trans x130.vis).trans x163.vis).trans x249.vis).trans hw.vis)), (Ty.mono _ h2_1 ((((x50.vis.trans x130.vis).trans x163.vis).trans x249.vis).trans hw.vis)), rfl, trivial⟩⟩ (by omega) (by omega))) (.inl rfl) ?_
                      rintro v251 _ u253 ⟨h252, rfl⟩ x253
                      obtain ⟨A254_0, c254_0, A254_1, c254_1, rfl, h254_0, h254_1, bl254_0, bh254_0, bl254_1, bh254_1⟩ := open_Position h252
                      refine JH.one (i := 5) (by kernel_rfl) ?_
                      refine JHo.e rfl (e_callP fn_26 rfl (fun w hw => c_impl_PuzzleOf aR _ aP _ aDepth w ⟨_, rfl, ⟨rfl, rfl, rfl, rfl, rfl, rfl, rfl, rfl, rfl, trivial⟩⟩ ⟨_, rfl, ⟨(Ty.mono _ h254_0 hw.vis), (Ty.mono _ h254_1 hw.vis), rfl, trivial⟩⟩ (by omega) (by omega))) (.inl rfl) ?_
                      rintro v255 _ u257 ⟨h256, rfl⟩ x257
                      obtain ⟨vs258, rfl, hv258⟩ := h256
                      obtain ⟨v258_0, vs258, rfl, hw258_0, hv258⟩ := cellsOk_cons hv258
                      obtain ⟨v258_1, vs258, rfl, hw258_1, hv258⟩ := cellsOk_cons hv258
                      obtain rfl := cellsOk_nil hv258
                      obtain ⟨A259_9, c259_9, A259_10, c259_10, rfl, h259_9, h259_10, bl259_9, bh259_9, bl259_10, bh259_10⟩ := open_Puzzle hw258_0
                      obtain rfl : v258_1 = .int .i64 ((M.puz aR aP aDepth).2) := hw258_1
                      refine JH.p 6 rfl (p_move rfl) ?_
                      refine JH.p 7 rfl (p_extract rfl rfl) ?_
                      refine JH.p 8 rfl (p_extract rfl rfl) ?_
                      refine JH.one (i := 10) (by kernel_rfl) ?_
                      refine JHo.s rfl (e_store (i := 0) (c' := [.int .i64 ((((M.puz aR aP aDepth).1).rules).pits), .int .i64 ((((M.puz aR aP aDepth).1).rules).seeds), .bool ((((M.puz aR aP aDepth).1).rules).stores), .bool ((((M.puz aR aP aDepth).1).rules).skip), .bool ((((M.puz aR aP aDepth).1).rules).relay), .bool ((((M.puz aR aP aDepth).1).rules).feed), .bool ((((M.puz aR aP aDepth).1).rules).again), .int .i64 ((((M.puz aR aP aDepth).1).rules).capture), .int .i64 ((((M.puz aR aP aDepth).1).rules).slam), .slice A259_9 (((((M.puz aR aP aDepth).1).position).pits).length) c259_9, .slice A259_10 (((((M.puz aR aP aDepth).1).position).stores).length) c259_10, .int .i64 ((((M.puz aR aP aDepth).1).position).player), .int .i64 (((M.puz aR aP aDepth).1).depth), .int .i64 (((M.puz aR aP aDepth).1).move), .int .i64 (((M.puz aR aP aDepth).1).value), .int .i64 (((M.puz aR aP aDepth).1).margin)]) ty_45 rfl rfl rfl rfl rfl rfl rfl rfl) (.inr rfl) ?_
                      rintro _ _ _ ⟨rfl, rfl⟩ _
                      refine JH.p 11 rfl (p_assign rfl) ?_
                      refine JH.done (by kernel_rfl) ?_
                      exact Js.meet ⟨_, _, _, _, _, rfl, rfl, ((x249.trans x253).trans x257), by omega, by omega, h259_9, by omega, by omega, h259_10⟩ ⟨rfl, rfl, rfl, rfl, rfl, rfl, trivial⟩
                  · rintro _ _ u215 ⟨b184, A183_9, c183_9, A183_10, c183_10, rfl, rfl, x215, f215_0, f215_1, f215_2, f215_3, f215_4, f215_5⟩
                    refine Js.seq ?_
                    refine Js.seq ?_
                    refine Js.region ?_
                    refine JL.q (q_loadN ty_45 rfl (Mem.boxR (i := 0) rfl 0 16) rfl rfl) ?_
                    refine JL.q (q_loadN ty_45 rfl (Mem.boxR (i := 9) rfl 0 16) rfl rfl) ?_
                    refine JL.e (e_callV fn_27 rfl (fun w hw => c_laws_eqPuzzle ((M.puz aR aP aDepth).1) _ ((M.puz aR aP aDepth).1) _ w ⟨_, rfl, ⟨rfl, rfl, rfl, rfl, rfl, rfl, rfl, rfl, rfl, (Ty.mono _ f215_2 hw.vis), (Ty.mono _ f215_5 hw.vis), rfl, rfl, rfl, rfl, rfl, trivial⟩⟩ ⟨_, rfl, ⟨rfl, rfl, rfl, rfl, rfl, rfl, rfl, rfl, rfl, (Ty.mono _ f50_2 (((x130.vis.trans x163.vis).trans x215.vis).trans hw.vis)), (Ty.mono _ f50_5 (((x130.vis.trans x163.vis).trans x215.vis).trans hw.vis)), rfl, rfl, rfl, rfl, rfl, trivial⟩⟩ (by omega) (by omega) (by omega) (by omega))) ?_
                    rintro _ _ _ ⟨rfl, rfl, rfl⟩ _
                    refine JL.q (OpP.q (p_not rfl)) ?_
                    refine JL.q (OpP.q (p_move rfl)) ?_
                    refine JL.g (Gd.f1 rfl rfl rfl) (fun hc => OpP.q (p_move rfl)) ?_
                    refine JL.g (Gd.f1 rfl rfl rfl) (fun hc => OpP.q (p_move rfl)) ?_
                    refine JL.g (Gd.f1 rfl rfl rfl) (fun hc => OpP.q (p_neq (gvt rfl hc) (gvt rfl hc))) ?_
                    refine JL.q (OpP.q (p_pickOr rfl rfl rfl)) ?_
                    refine JL.nil ?_
                    refine Js.condF rfl h160 ?_
                    refine Js.skip ?_
                    refine Js.seq ?_
                    refine Js.region ?_
                    refine JL.q (OpP.q (p_assign rfl)) ?_
                    refine JL.nil ?_
                    refine Js.seq ?_
                    refine Js.region ?_
                    refine JL.q (q_loadN ty_45 rfl (Mem.boxR (i := 7) rfl 0 16) rfl rfl) ?_
                    refine JL.q (OpP.q (p_move rfl)) ?_
                    refine JL.e (e_callV fn_29 rfl (fun w hw => c_laws_heldPuzzle (M.Puz.mk (((M.puz aR aP aDepth).1).rules) (M.Pos.mk ((M.markP (((M.puz aR aP aDepth).1).position) 1).pits) ((M.markP (((M.puz aR aP aDepth).1).position) 1).stores) ((((M.puz aR aP aDepth).1).position).player)) (((M.puz aR aP aDepth).1).depth) (((M.puz aR aP aDepth).1).move) (((M.puz aR aP aDepth).1).value) (((M.puz aR aP aDepth).1).margin)) _ 1 w ⟨_, rfl, ⟨rfl, rfl, rfl, rfl, rfl, rfl, rfl, rfl, rfl, (ints_rowok (xs := ((M.markP (((M.puz aR aP aDepth).1).position) 1).pits)) (hw.pr (i := 1) rfl)), (ints_rowok (xs := ((M.markP (((M.puz aR aP aDepth).1).position) 1).stores)) (hw.pr (i := 2) rfl)), rfl, rfl, rfl, rfl, rfl, trivial⟩⟩ (by simp only [M.markP, M.up_length]; omega) (by simp only [M.markP, M.up_length]; omega) (by omega) (by omega))) ?_
                    rintro _ _ _ ⟨rfl, rfl, rfl⟩ _
                    refine JL.q (OpP.q (p_assign rfl)) ?_
                    refine JL.nil ?_
                    refine Js.seq ?_
                    refine Js.seq ?_
                    refine Js.region ?_
                    refine JL.q (OpP.q (p_move rfl)) ?_
                    refine JL.q (OpP.q (p_lss rfl rfl)) ?_
                    refine JL.nil ?_
                    refine Js.condF rfl h169 ?_
                    refine Js.skip ?_
                    refine Js.seq ?_
                    refine Js.seq ?_
                    refine Js.region ?_
                    refine JL.q (OpP.q (p_move rfl)) ?_
                    refine JL.q (OpP.q (p_move rfl)) ?_
                    refine JL.q (OpP.q (p_neq rfl rfl)) ?_
                    refine JL.nil ?_
                    refine Js.condF rfl h170 ?_
                    refine Js.skip ?_
                    refine Js.seq ?_
                    refine Js.region ?_
                    refine JL.q (OpP.q (p_assign rfl)) ?_
                    refine JL.nil ?_
                    refine Js.ret (R := RV w (.bool true)) @Try.results5 (fun _ _ => rfl) (ResOk.tmp rfl ResOk.nil) (fun w1 hw => ?_)
                    refine ⟨?_, hw.ext ((((x50.trans x130).trans x163).trans x215))⟩
                    first | rfl | (simp [outV]; done)

set_option maxRecDepth 100000 in
set_option maxHeartbeats 2000000 in
theorem c_laws_FnExactSolutionOf (aZ : M.Puz) (v_aZ : Value) (w : World) (h_aZ : (Ty.agg (cPuzzle aZ)).ok w v_aZ) : RetV Try.prog 9 [v_aZ] w (.bool true) := by
  have q4 := M.szL_cases (aZ.position.pits.length + aZ.position.stores.length) 1048576
  change (1048576 < _ ∧ M.szP aZ.position 1048576 = -1) ∨ (_ ≤ _ ∧ M.szP aZ.position 1048576 = _) at q4
  have z3 := M.sol_len aZ
  have z4 := M.up_length 1 (M.sol aZ).length
  obtain ⟨A1_9, c1_9, A1_10, c1_10, rfl, h1_9, h1_10, bl1_9, bh1_9, bl1_10, bh1_10⟩ := open_Puzzle h_aZ
  refine enter @Try.func9 @Try.ntmps9 rfl rfl ?_
  refine Js.seq ?_
  refine Js.region ?_
  refine JL.e (e_box (c := [.int .i64 aZ.rules.pits, .int .i64 aZ.rules.seeds, .bool aZ.rules.stores, .bool aZ.rules.skip, .bool aZ.rules.relay, .bool aZ.rules.feed, .bool aZ.rules.again, .int .i64 aZ.rules.capture, .int .i64 aZ.rules.slam, .slice A1_9 aZ.position.pits.length c1_9, .slice A1_10 aZ.position.stores.length c1_10, .int .i64 aZ.position.player, .int .i64 aZ.depth, .int .i64 aZ.move, .int .i64 aZ.value, .int .i64 aZ.margin]) rfl rfl) ?_
  rintro _ _ _ ⟨b2, rfl, rfl, rfl⟩ _
  refine JL.q (OpP.q (p_assign rfl)) ?_
  refine JL.nil ?_
  refine Js.seq ?_
  refine Js.region ?_
  refine JL.q (OpP.q (p_assign rfl)) ?_
  refine JL.nil ?_
  refine Js.seq ?_
  refine Js.region ?_
  refine JL.q (q_loadN ty_51 rfl (Mem.boxR (i := 0) rfl 0 16) rfl rfl) ?_
  refine JL.q (OpP.q (p_move rfl)) ?_
  refine JL.e (e_callV fn_30 rfl (fun w hw => c_laws_szPuzzle aZ _ 1048576 w ⟨_, rfl, ⟨rfl, rfl, rfl, rfl, rfl, rfl, rfl, rfl, rfl, (Ty.mono _ h1_9 hw.vis), (Ty.mono _ h1_10 hw.vis), rfl, rfl, rfl, rfl, rfl, trivial⟩⟩ (by omega) (by omega))) ?_
  rintro _ _ _ ⟨rfl, rfl, rfl⟩ _
  refine JL.q (OpP.q (p_assign rfl)) ?_
  refine JL.nil ?_
  refine Js.seq ?_
  refine Js.seq ?_
  refine Js.region ?_
  refine JL.q (OpP.q (p_move rfl)) ?_
  refine JL.q (OpP.q (p_lss rfl rfl)) ?_
  refine JL.nil ?_
  refine Js.cond rfl (fun h3 => ?_) (fun h3 => ?_)
  ·
    have h3' := h3
    try simp only [decide_eq_true_eq] at h3'
    refine Js.seq ?_
    refine Js.region ?_
    refine JL.q (OpP.q (p_assign rfl)) ?_
    refine JL.nil ?_
    refine Js.ret (R := RV w (.bool true)) @Try.results9 (fun _ _ => rfl) (ResOk.tmp rfl ResOk.nil) (fun w1 hw => ?_)
    refine ⟨?_, hw.ext (Up.refl _ _)⟩
    first | rfl | (simp [outV]; done)
  ·
    have h3' := h3
    try simp only [decide_eq_false_iff_not, Int.not_lt] at h3'
    refine Js.skip ?_
    refine Js.seq ?_
    refine Js.region ?_
    refine JL.q (q_loadN ty_51 rfl (Mem.boxR (i := 0) rfl 0 16) rfl rfl) ?_
    refine JL.e (e_callP fn_32 rfl (fun w hw => c_laws_toPuzzle aZ _ w ⟨_, rfl, ⟨rfl, rfl, rfl, rfl, rfl, rfl, rfl, rfl, rfl, (Ty.mono _ h1_9 hw.vis), (Ty.mono _ h1_10 hw.vis), rfl, rfl, rfl, rfl, rfl, trivial⟩⟩ (by omega) (by omega))) ?_
    rintro v4 _ u6 ⟨h5, rfl⟩ x6
    obtain ⟨A7_9, c7_9, A7_10, c7_10, rfl, h7_9, h7_10, bl7_9, bh7_9, bl7_10, bh7_10⟩ := open_Puzzle h5
    refine JL.e (e_callP fn_38 rfl (fun w hw => c_spec_SolutionOf aZ _ w ⟨_, rfl, ⟨rfl, rfl, rfl, rfl, rfl, rfl, rfl, rfl, rfl, (Ty.mono _ h7_9 hw.vis), (Ty.mono _ h7_10 hw.vis), rfl, rfl, rfl, rfl, rfl, trivial⟩⟩ (by omega) (by omega))) ?_
    rintro v8 _ u10 ⟨h9, rfl⟩ x10
    obtain ⟨vs11, rfl, hv11⟩ := h9
    obtain ⟨v11_0, vs11, rfl, hw11_0, hv11⟩ := cellsOk_cons hv11
    obtain ⟨v11_1, vs11, rfl, hw11_1, hv11⟩ := cellsOk_cons hv11
    obtain rfl := cellsOk_nil hv11
    obtain ⟨A12, c12, rfl, bl12, bh12⟩ := sl_form hw11_0
    obtain rfl : v11_1 = .int .i64 (M.solC aZ) := hw11_1
    refine JL.q (OpP.q (p_move rfl)) ?_
    refine JL.q (OpP.q (p_extract rfl rfl)) ?_
    refine JL.q (OpP.q (p_extract rfl rfl)) ?_
    refine JL.q (OpP.q (p_assign rfl)) ?_
    refine JL.q (OpP.q (p_assign rfl)) ?_
    refine JL.nil ?_
    refine Js.seq ?_
    refine Js.region ?_
    refine JL.q (q_loadN ty_51 rfl (Mem.boxR (i := 0) rfl 0 16) rfl rfl) ?_
    refine JL.e (e_callO fn_32 rfl (Spl.agg (Spls.cons (Spl.val _) (Spls.cons (Spl.val _) (Spls.cons (Spl.val _) (Spls.cons (Spl.val _) (Spls.cons (Spl.val _) (Spls.cons (Spl.val _) (Spls.cons (Spl.val _) (Spls.cons (Spl.val _) (Spls.cons (Spl.val _) (Spls.cons (Spl.ints _ _) (Spls.cons (Spl.ints _ _) (Spls.cons (Spl.val _) (Spls.cons (Spl.val _) (Spls.cons (Spl.val _) (Spls.cons (Spl.val _) (Spls.cons (Spl.val _) Spls.nil))))))))))))))))) (fun w hw => c_laws_toPuzzle aZ _ w ⟨_, rfl, ⟨rfl, rfl, rfl, rfl, rfl, rfl, rfl, rfl, rfl, (Ty.mono _ h1_9 ((x6.vis.trans x10.vis).trans hw.vis)), (Ty.mono _ h1_10 ((x6.vis.trans x10.vis).trans hw.vis)), rfl, rfl, rfl, rfl, rfl, trivial⟩⟩ (by omega) (by omega))) ?_
    rintro v13 _ _ ⟨_, hR14, rfl, rfl⟩ _
    obtain ⟨vs15, rfl, hr15⟩ := hR14
    obtain ⟨v15_0, vs15_0, o15_0, ow15_0, rfl, hR15_0, hs15_0, rfl⟩ := RL_cons hr15
    obtain ⟨v15_1, vs15_1, o15_1, ow15_1, rfl, hR15_1, hs15_1, rfl⟩ := RL_cons hs15_0
    obtain ⟨v15_2, vs15_2, o15_2, ow15_2, rfl, hR15_2, hs15_2, rfl⟩ := RL_cons hs15_1
    obtain ⟨v15_3, vs15_3, o15_3, ow15_3, rfl, hR15_3, hs15_3, rfl⟩ := RL_cons hs15_2
    obtain ⟨v15_4, vs15_4, o15_4, ow15_4, rfl, hR15_4, hs15_4, rfl⟩ := RL_cons hs15_3
    obtain ⟨v15_5, vs15_5, o15_5, ow15_5, rfl, hR15_5, hs15_5, rfl⟩ := RL_cons hs15_4
    obtain ⟨v15_6, vs15_6, o15_6, ow15_6, rfl, hR15_6, hs15_6, rfl⟩ := RL_cons hs15_5
    obtain ⟨v15_7, vs15_7, o15_7, ow15_7, rfl, hR15_7, hs15_7, rfl⟩ := RL_cons hs15_6
    obtain ⟨v15_8, vs15_8, o15_8, ow15_8, rfl, hR15_8, hs15_8, rfl⟩ := RL_cons hs15_7
    obtain ⟨v15_9, vs15_9, o15_9, ow15_9, rfl, hR15_9, hs15_9, rfl⟩ := RL_cons hs15_8
    obtain ⟨v15_10, vs15_10, o15_10, ow15_10, rfl, hR15_10, hs15_10, rfl⟩ := RL_cons hs15_9
    obtain ⟨v15_11, vs15_11, o15_11, ow15_11, rfl, hR15_11, hs15_11, rfl⟩ := RL_cons hs15_10
    obtain ⟨v15_12, vs15_12, o15_12, ow15_12, rfl, hR15_12, hs15_12, rfl⟩ := RL_cons hs15_11
    obtain ⟨v15_13, vs15_13, o15_13, ow15_13, rfl, hR15_13, hs15_13, rfl⟩ := RL_cons hs15_12
    obtain ⟨v15_14, vs15_14, o15_14, ow15_14, rfl, hR15_14, hs15_14, rfl⟩ := RL_cons hs15_13
    obtain ⟨v15_15, vs15_15, o15_15, ow15_15, rfl, hR15_15, hs15_15, rfl⟩ := RL_cons hs15_14
    obtain ⟨rfl, rfl⟩ := RL_nil hs15_15
    obtain ⟨rfl, rfl⟩ : v15_0 = .int .i64 aZ.rules.pits ∧ _ := hR15_0
    obtain ⟨rfl, rfl⟩ : v15_1 = .int .i64 aZ.rules.seeds ∧ _ := hR15_1
    obtain ⟨rfl, rfl⟩ : v15_2 = .bool aZ.rules.stores ∧ _ := hR15_2
    obtain ⟨rfl, rfl⟩ : v15_3 = .bool aZ.rules.skip ∧ _ := hR15_3
    obtain ⟨rfl, rfl⟩ : v15_4 = .bool aZ.rules.relay ∧ _ := hR15_4
    obtain ⟨rfl, rfl⟩ : v15_5 = .bool aZ.rules.feed ∧ _ := hR15_5
    obtain ⟨rfl, rfl⟩ : v15_6 = .bool aZ.rules.again ∧ _ := hR15_6
    obtain ⟨rfl, rfl⟩ : v15_7 = .int .i64 aZ.rules.capture ∧ _ := hR15_7
    obtain ⟨rfl, rfl⟩ : v15_8 = .int .i64 aZ.rules.slam ∧ _ := hR15_8
    obtain ⟨A16, c16, rfl, rfl, bl16, bh16⟩ := hR15_9
    obtain ⟨A17, c17, rfl, rfl, bl17, bh17⟩ := hR15_10
    obtain ⟨rfl, rfl⟩ : v15_11 = .int .i64 aZ.position.player ∧ _ := hR15_11
    obtain ⟨rfl, rfl⟩ : v15_12 = .int .i64 aZ.depth ∧ _ := hR15_12
    obtain ⟨rfl, rfl⟩ : v15_13 = .int .i64 aZ.move ∧ _ := hR15_13
    obtain ⟨rfl, rfl⟩ : v15_14 = .int .i64 aZ.value ∧ _ := hR15_14
    obtain ⟨rfl, rfl⟩ : v15_15 = .int .i64 aZ.margin ∧ _ := hR15_15
    refine JL.e (e_alloc zero_45) ?_
    rintro _ _ _ ⟨b18, rfl, rfl, rfl⟩ _
    refine JL.s (e_store (i := 0) (c' := [.int .i64 aZ.rules.pits, .int .i64 aZ.rules.seeds, .bool aZ.rules.stores, .bool aZ.rules.skip, .bool aZ.rules.relay, .bool aZ.rules.feed, .bool aZ.rules.again, .int .i64 aZ.rules.capture, .int .i64 aZ.rules.slam, .slice A16 aZ.position.pits.length c16, .slice A17 aZ.position.stores.length c17, .int .i64 aZ.position.player, .int .i64 aZ.depth, .int .i64 aZ.move, .int .i64 aZ.value, .int .i64 aZ.margin]) ty_45 rfl rfl rfl rfl rfl rfl rfl rfl) ?_
    rintro _ _ _ ⟨rfl, rfl⟩ _
    refine JL.nil ?_
    refine Js.seq ?_
    refine Js.region ?_
    refine JL.q (q_loadN ty_45 rfl (Mem.boxR (i := 0) rfl 0 16) rfl rfl) ?_
    refine JL.e (e_callO fn_39 rfl (Spl.tup (Spls.cons (Spl.ints _ _) (Spls.cons (Spl.val _) Spls.nil))) (fun w hw => c_impl_SolutionOf aZ _ w ⟨_, rfl, ⟨rfl, rfl, rfl, rfl, rfl, rfl, rfl, rfl, rfl, (ints_rowok (xs := aZ.position.pits) (hw.pr (i := 1) rfl)), (ints_rowok (xs := aZ.position.stores) (hw.pr (i := 2) rfl)), rfl, rfl, rfl, rfl, rfl, trivial⟩⟩ (by omega) (by omega))) ?_
    rintro v19 _ _ ⟨_, hR20, rfl, rfl⟩ _
    obtain ⟨vs21, rfl, hr21⟩ := hR20
    obtain ⟨v21_0, vs21_0, o21_0, ow21_0, rfl, hR21_0, hs21_0, rfl⟩ := RL_cons hr21
    obtain ⟨v21_1, vs21_1, o21_1, ow21_1, rfl, hR21_1, hs21_1, rfl⟩ := RL_cons hs21_0
    obtain ⟨rfl, rfl⟩ := RL_nil hs21_1
    obtain ⟨A22, c22, rfl, rfl, bl22, bh22⟩ := hR21_0
    obtain ⟨rfl, rfl⟩ : v21_1 = .int .i64 (M.solC aZ) ∧ _ := hR21_1
    refine JL.q (OpP.q (p_move rfl)) ?_
    refine JL.q (OpP.q (p_extract rfl rfl)) ?_
    refine JL.q (OpP.q (p_extract rfl rfl)) ?_
    refine JL.q (OpP.q (p_assign rfl)) ?_
    refine JL.q (OpP.q (p_assign rfl)) ?_
    refine JL.nil ?_
    refine Js.seq ?_
    refine Js.seq ?_
    refine Js.region ?_
    refine JL.q (OpP.q (p_move rfl)) ?_
    refine JL.q (OpP.q (p_move rfl)) ?_
    refine JL.e (e_callV fn_22 rfl (fun w hw => c_laws_eqInt64S (M.sol aZ) _ (M.sol aZ) _ w (ints_rowok (xs := (M.sol aZ)) (hw.pr (i := 0) rfl)) (Ty.mono _ hw11_0 hw.vis) (by omega) (by omega))) ?_
    rintro _ _ _ ⟨rfl, rfl, rfl⟩ _
    refine JL.q (OpP.q (p_not rfl)) ?_
    refine JL.q (OpP.q (p_move rfl)) ?_
    refine JL.g (Gd.f1 rfl rfl rfl) (fun hc => OpP.q (p_move rfl)) ?_
    refine JL.g (Gd.f1 rfl rfl rfl) (fun hc => OpP.q (p_move rfl)) ?_
    refine JL.g (Gd.f1 rfl rfl rfl) (fun hc => OpP.q (p_neq (gvt rfl hc) (gvt rfl hc))) ?_
    refine JL.q (OpP.q (p_pickOr rfl rfl rfl)) ?_
    refine JL.nil ?_
    refine Js.cond rfl (fun h23 => ?_) (fun h23 => ?_)
    ·
      exact absurd h23 (by simp)
    ·
      have h23' := h23
      try simp only [Bool.or_eq_false_iff, Bool.not_eq_false', decide_eq_true_eq] at h23'
      refine Js.skip ?_
      refine Js.seq ?_
      refine Js.seq ?_
      refine Js.drawn _ [] mixed_ (fun _ h => h) ?_
      refine JH.q 0 rfl (q_loadN ty_45 rfl (Mem.boxR (i := 1) rfl 0 16) rfl rfl) ?_
      refine JH.q 1 rfl (q_loadN ty_51 rfl (Mem.boxR (i := 4) rfl 0 16) rfl rfl) ?_
      refine JH.one (i := 2) (by kernel_rfl) ?_
      refine JHo.e rfl (e_callP fn_32 rfl (fun w hw => c_laws_toPuzzle aZ _ w ⟨_, rfl, ⟨rfl, rfl, rfl, rfl, rfl, rfl, rfl, rfl, rfl, (Ty.mono _ h1_9 ((x6.vis.trans x10.vis).trans hw.vis)), (Ty.mono _ h1_10 ((x6.vis.trans x10.vis).trans hw.vis)), rfl, rfl, rfl, rfl, rfl, trivial⟩⟩ (by omega) (by omega))) (.inl rfl) ?_
      rintro v24 _ u26 ⟨h25, rfl⟩ x26
      obtain ⟨A27_9, c27_9, A27_10, c27_10, rfl, h27_9, h27_10, bl27_9, bh27_9, bl27_10, bh27_10⟩ := open_Puzzle h25
      refine JH.one (i := 3) (by kernel_rfl) ?_
      refine JHo.e rfl (e_callV fn_27 rfl (fun w hw => c_laws_eqPuzzle aZ _ aZ _ w ⟨_, rfl, ⟨rfl, rfl, rfl, rfl, rfl, rfl, rfl, rfl, rfl, (ints_rowok (xs := aZ.position.pits) (hw.pr (i := 2) rfl)), (ints_rowok (xs := aZ.position.stores) (hw.pr (i := 3) rfl)), rfl, rfl, rfl, rfl, rfl, trivial⟩⟩ ⟨_, rfl, ⟨rfl, rfl, rfl, rfl, rfl, rfl, rfl, rfl, rfl, (Ty.mono _ h27_9 hw.vis), (Ty.mono _ h27_10 hw.vis), rfl, rfl, rfl, rfl, rfl, trivial⟩⟩ (by omega) (by omega) (by omega) (by omega))) (.inl rfl) ?_
      rintro _ _ _ ⟨rfl, rfl, rfl⟩ _
      refine JH.p 4 rfl (p_not rfl) ?_
      refine JH.done (by kernel_rfl) ?_
      refine Js.cond rfl (fun h28 => ?_) (fun h28 => ?_)
      ·
        exact absurd h28 (by simp)
      ·
        have h28' := h28
        try simp only [Bool.not_eq_false', decide_eq_true_eq] at h28'
        refine Js.skip ?_
        refine Js.seq ?_
        refine Js.region ?_
        refine JL.q (OpP.q (p_assign rfl)) ?_
        refine JL.nil ?_
        refine Js.seq ?_
        refine Js.region ?_
        refine JL.q (q_loadN ty_45 rfl (Mem.boxR (i := 1) rfl 0 16) rfl rfl) ?_
        refine JL.q (OpP.q (p_move rfl)) ?_
        refine JL.conv (fun _ h => h.front (i := 3) rfl) ?_
        refine JL.conv (fun _ h => h.front (i := 3) rfl) ?_
        refine JL.e (e_callB (bs := [rowO 2 1 (.slice A16 aZ.position.pits.length c16) aZ.position.pits.length (ints_ aZ.position.pits) [], rowO 2 1 (.slice A17 aZ.position.stores.length c17) aZ.position.stores.length (ints_ aZ.position.stores) []]) (rest := [rowO 2 1 (.slice A22 ((M.sol aZ).length) c22) ((M.sol aZ).length) (ints_ (M.sol aZ)) [], boxO b18 [.int .i64 aZ.rules.pits, .int .i64 aZ.rules.seeds, .bool aZ.rules.stores, .bool aZ.rules.skip, .bool aZ.rules.relay, .bool aZ.rules.feed, .bool aZ.rules.again, .int .i64 aZ.rules.capture, .int .i64 aZ.rules.slam, .slice A16 aZ.position.pits.length c16, .slice A17 aZ.position.stores.length c17, .int .i64 aZ.position.player, .int .i64 aZ.depth, .int .i64 aZ.move, .int .i64 aZ.value, .int .i64 aZ.margin] 45, boxO b2 [.int .i64 aZ.rules.pits, .int .i64 aZ.rules.seeds, .bool aZ.rules.stores, .bool aZ.rules.skip, .bool aZ.rules.relay, .bool aZ.rules.feed, .bool aZ.rules.again, .int .i64 aZ.rules.capture, .int .i64 aZ.rules.slam, .slice A1_9 aZ.position.pits.length c1_9, .slice A1_10 aZ.position.stores.length c1_10, .int .i64 aZ.position.player, .int .i64 aZ.depth, .int .i64 aZ.move, .int .i64 aZ.value, .int .i64 aZ.margin] 51]) fn_28 rfl (fun w hb hw => c_laws_markPuzzle aZ.rules aZ.position aZ.depth aZ.move aZ.value aZ.margin A16 c16 [] A17 c17 [] 1 w hb (by omega) (by omega) (by omega) (by omega) (by omega) (by omega) (by omega) (by omega)) rfl) ?_
        rintro _ _ _ ⟨_, G29, ⟨rfl, rfl⟩, rfl, rfl⟩ _
        refine JL.q (OpP.q (p_assign rfl)) ?_
        refine JL.nil ?_
        refine Js.seq ?_
        refine Js.seq ?_
        refine Js.region ?_
        refine JL.q (OpP.q (p_move rfl)) ?_
        refine JL.q (OpP.q (p_lss rfl rfl)) ?_
        refine JL.q (OpP.q (p_move rfl)) ?_
        refine JL.g (Gd.f1 rfl rfl rfl) (fun hc => OpP.q (p_move rfl)) ?_
        refine JL.g (Gd.f1 rfl rfl rfl) (fun hc => OpP.q (p_move rfl)) ?_
        refine JL.ge (Gd.f1 rfl rfl rfl) (fun hc => e_callV fn_22 (opds_2 (gvt rfl hc) (gvt rfl hc)) (fun w hw => c_laws_eqInt64S (M.sol aZ) _ (M.sol aZ) _ w (ints_rowok (xs := (M.sol aZ)) (hw.pr (i := 3) rfl)) (Ty.mono _ hw11_0 (x26.vis.trans hw.vis)) (by have hc9 := hc; (try simp only [Bool.not_eq_true', decide_eq_false_iff_not, Int.not_lt] at hc9); omega) (by have hc9 := hc; (try simp only [Bool.not_eq_true', decide_eq_false_iff_not, Int.not_lt] at hc9); omega))) ?_
        refine JL.g (Gd.f1 rfl rfl rfl) (fun hc => OpP.q (p_not (gvt rfl hc))) ?_
        refine JL.q (OpP.q (p_pickOr rfl rfl rfl)) ?_
        refine JL.q (OpP.q (p_move rfl)) ?_
        refine JL.g (Gd.f1 rfl rfl rfl) (fun hc => OpP.q (p_move rfl)) ?_
        refine JL.g (Gd.f1 rfl rfl rfl) (fun hc => OpP.q (p_move rfl)) ?_
        refine JL.g (Gd.f1 rfl rfl rfl) (fun hc => OpP.q (p_neq (gvt rfl hc) (gvt rfl hc))) ?_
        refine JL.q (OpP.q (p_pickOr rfl rfl rfl)) ?_
        refine JL.nil ?_
        refine Js.cond rfl (fun h30 => ?_) (fun h30 => ?_)
        ·
          exact absurd h30 (by simp only [decide_true, Bool.not_true, Bool.or_false, decide_eq_true_eq]; omega)
        ·
          have h30' := h30
          try simp only [Bool.or_eq_false_iff, decide_eq_false_iff_not, Int.not_lt, Bool.not_eq_false', decide_eq_true_eq] at h30'
          refine Js.skip ?_
          refine Js.seq ?_
          refine Js.region ?_
          refine JL.q (OpP.q (p_assign rfl)) ?_
          refine JL.nil ?_
          refine Js.seq ?_
          refine Js.region ?_
          refine JL.q (OpP.q (p_move rfl)) ?_
          refine JL.q (OpP.q (p_move rfl)) ?_
          refine JL.conv (fun _ h => h.front (i := 3) rfl) ?_
          refine JL.e (e_callB (bs := [rowO 2 1 (.slice A22 ((M.sol aZ).length) c22) ((M.sol aZ).length) (ints_ (M.sol aZ)) []]) (rest := [rowO 2 1 (.slice A16 aZ.position.pits.length c16) aZ.position.pits.length (ints_ ((M.markP aZ.position 1).pits)) [], rowO 2 1 (.slice A17 aZ.position.stores.length c17) aZ.position.stores.length (ints_ ((M.markP aZ.position 1).stores)) [], anyO G29, boxO b18 [.int .i64 aZ.rules.pits, .int .i64 aZ.rules.seeds, .bool aZ.rules.stores, .bool aZ.rules.skip, .bool aZ.rules.relay, .bool aZ.rules.feed, .bool aZ.rules.again, .int .i64 aZ.rules.capture, .int .i64 aZ.rules.slam, .slice A16 aZ.position.pits.length c16, .slice A17 aZ.position.stores.length c17, .int .i64 aZ.position.player, .int .i64 aZ.depth, .int .i64 aZ.move, .int .i64 aZ.value, .int .i64 aZ.margin] 45, boxO b2 [.int .i64 aZ.rules.pits, .int .i64 aZ.rules.seeds, .bool aZ.rules.stores, .bool aZ.rules.skip, .bool aZ.rules.relay, .bool aZ.rules.feed, .bool aZ.rules.again, .int .i64 aZ.rules.capture, .int .i64 aZ.rules.slam, .slice A1_9 aZ.position.pits.length c1_9, .slice A1_10 aZ.position.stores.length c1_10, .int .i64 aZ.position.player, .int .i64 aZ.depth, .int .i64 aZ.move, .int .i64 aZ.value, .int .i64 aZ.margin] 51]) fn_23 rfl (fun w hb hw => c_laws_markInt64S (M.sol aZ) A22 c22 [] 1 w hb (by omega) (by omega) (by omega) (by omega) (by omega)) rfl) ?_
          rintro _ _ _ ⟨_, G31, ⟨rfl, rfl⟩, rfl, rfl⟩ _
          refine JL.q (OpP.q (p_assign rfl)) ?_
          refine JL.nil ?_
          refine Js.seq ?_
          refine Js.region ?_
          refine JL.q (OpP.q (p_assign rfl)) ?_
          refine JL.nil ?_
          refine Js.seq ?_
          refine Js.region ?_
          refine JL.q (OpP.q (p_move rfl)) ?_
          refine JL.q (OpP.q (p_move rfl)) ?_
          refine JL.e (e_callV fn_24 rfl (fun w hw => c_laws_heldInt64S (M.up 1 (M.sol aZ).length) _ 1 w (ints_rowok (xs := (M.up 1 (M.sol aZ).length)) (hw.pr (i := 0) rfl)) (by omega) (by omega) (by omega))) ?_
          rintro _ _ _ ⟨rfl, rfl, rfl⟩ _
          refine JL.q (OpP.q (p_assign rfl)) ?_
          refine JL.nil ?_
          refine Js.seq ?_
          refine Js.seq ?_
          refine Js.region ?_
          refine JL.q (OpP.q (p_move rfl)) ?_
          refine JL.q (OpP.q (p_lss rfl rfl)) ?_
          refine JL.nil ?_
          refine Js.cond rfl (fun h32 => ?_) (fun h32 => ?_)
          ·
            exact absurd h32 (by rw [M.held_up]; simp only [decide_eq_true_eq]; omega)
          ·
            have h32' := h32
            try simp only [decide_eq_false_iff_not, Int.not_lt] at h32'
            refine Js.skip ?_
            refine Js.seq ?_
            refine Js.seq ?_
            refine Js.region ?_
            refine JL.q (OpP.q (p_move rfl)) ?_
            refine JL.q (OpP.q (p_move rfl)) ?_
            refine JL.q (OpP.q (p_neq rfl rfl)) ?_
            refine JL.nil ?_
            refine Js.cond rfl (fun h33 => ?_) (fun h33 => ?_)
            ·
              exact absurd h33 (by rw [M.held_up]; simp)
            ·
              have h33' := h33
              try simp only [Bool.not_eq_false', decide_eq_true_eq] at h33'
              refine Js.skip ?_
              refine Js.seq ?_
              refine Js.region ?_
              refine JL.q (q_loadN ty_51 rfl (Mem.boxR (i := 6) rfl 0 16) rfl rfl) ?_
              refine JL.e (e_callP fn_32 rfl (fun w hw => c_laws_toPuzzle aZ _ w ⟨_, rfl, ⟨rfl, rfl, rfl, rfl, rfl, rfl, rfl, rfl, rfl, (Ty.mono _ h1_9 (((x6.vis.trans x10.vis).trans x26.vis).trans hw.vis)), (Ty.mono _ h1_10 (((x6.vis.trans x10.vis).trans x26.vis).trans hw.vis)), rfl, rfl, rfl, rfl, rfl, trivial⟩⟩ (by omega) (by omega))) ?_
              rintro v34 _ u36 ⟨h35, rfl⟩ x36
              obtain ⟨A37_9, c37_9, A37_10, c37_10, rfl, h37_9, h37_10, bl37_9, bh37_9, bl37_10, bh37_10⟩ := open_Puzzle h35
              refine JL.e (e_callP fn_39 rfl (fun w hw => c_impl_SolutionOf aZ _ w ⟨_, rfl, ⟨rfl, rfl, rfl, rfl, rfl, rfl, rfl, rfl, rfl, (Ty.mono _ h37_9 hw.vis), (Ty.mono _ h37_10 hw.vis), rfl, rfl, rfl, rfl, rfl, trivial⟩⟩ (by omega) (by omega))) ?_
              rintro v38 _ u40 ⟨h39, rfl⟩ x40
              obtain ⟨vs41, rfl, hv41⟩ := h39
              obtain ⟨v41_0, vs41, rfl, hw41_0, hv41⟩ := cellsOk_cons hv41
              obtain ⟨v41_1, vs41, rfl, hw41_1, hv41⟩ := cellsOk_cons hv41
              obtain rfl := cellsOk_nil hv41
              obtain ⟨A42, c42, rfl, bl42, bh42⟩ := sl_form hw41_0
              obtain rfl : v41_1 = .int .i64 (M.solC aZ) := hw41_1
              refine JL.q (OpP.q (p_move rfl)) ?_
              refine JL.q (OpP.q (p_extract rfl rfl)) ?_
              refine JL.q (OpP.q (p_extract rfl rfl)) ?_
              refine JL.q (OpP.q (p_assign rfl)) ?_
              refine JL.q (OpP.q (p_assign rfl)) ?_
              refine JL.nil ?_
              refine Js.seq ?_
              refine Js.seq ?_
              refine Js.region ?_
              refine JL.q (OpP.q (p_move rfl)) ?_
              refine JL.q (OpP.q (p_move rfl)) ?_
              refine JL.e (e_callV fn_22 rfl (fun w hw => c_laws_eqInt64S (M.sol aZ) _ (M.sol aZ) _ w (Ty.mono _ hw41_0 hw.vis) (Ty.mono _ hw11_0 (((x26.vis.trans x36.vis).trans x40.vis).trans hw.vis)) (by omega) (by omega))) ?_
              rintro _ _ _ ⟨rfl, rfl, rfl⟩ _
              refine JL.q (OpP.q (p_not rfl)) ?_
              refine JL.q (OpP.q (p_move rfl)) ?_
              refine JL.g (Gd.f1 rfl rfl rfl) (fun hc => OpP.q (p_move rfl)) ?_
              refine JL.g (Gd.f1 rfl rfl rfl) (fun hc => OpP.q (p_move rfl)) ?_
              refine JL.g (Gd.f1 rfl rfl rfl) (fun hc => OpP.q (p_neq (gvt rfl hc) (gvt rfl hc))) ?_
              refine JL.q (OpP.q (p_pickOr rfl rfl rfl)) ?_
              refine JL.nil ?_
              refine Js.condF rfl h23 ?_
              refine Js.skip ?_
              refine Js.seq ?_
              refine Js.region ?_
              refine JL.q (OpP.q (p_assign rfl)) ?_
              refine JL.nil ?_
              refine Js.seq ?_
              refine Js.region ?_
              refine JL.q (OpP.q (p_move rfl)) ?_
              refine JL.q (OpP.q (p_move rfl)) ?_
              refine JL.e (e_callV fn_24 rfl (fun w hw => c_laws_heldInt64S (M.up 1 (M.sol aZ).length) _ 1 w (ints_rowok (xs := (M.up 1 (M.sol aZ).length)) (hw.pr (i := 0) rfl)) (by omega) (by omega) (by omega))) ?_
              rintro _ _ _ ⟨rfl, rfl, rfl⟩ _
              refine JL.q (OpP.q (p_assign rfl)) ?_
              refine JL.nil ?_
              refine Js.seq ?_
              refine Js.seq ?_
              refine Js.region ?_
              refine JL.q (OpP.q (p_move rfl)) ?_
              refine JL.q (OpP.q (p_lss rfl rfl)) ?_
              refine JL.nil ?_
              refine Js.condF rfl h32 ?_
              refine Js.skip ?_
              refine Js.seq ?_
              refine Js.seq ?_
              refine Js.region ?_
              refine JL.q (OpP.q (p_move rfl)) ?_
              refine JL.q (OpP.q (p_move rfl)) ?_
              refine JL.q (OpP.q (p_neq rfl rfl)) ?_
              refine JL.nil ?_
              refine Js.condF rfl h33 ?_
              refine Js.skip ?_
              refine Js.seq ?_
              refine Js.region ?_
              refine JL.q (OpP.q (p_assign rfl)) ?_
              refine JL.nil ?_
              refine Js.ret (R := RV w (.bool true)) @Try.results9 (fun _ _ => rfl) (ResOk.tmp rfl ResOk.nil) (fun w1 hw => ?_)
              refine ⟨?_, hw.ext (((((x6.trans x10).trans x26).trans x36).trans x40))⟩
              first | rfl | (simp [outV]; done)

end Go.Proofs.Ytinkeciedmjjmaa

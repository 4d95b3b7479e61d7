/- Walks: G7. -/
import Derived.Test.YtejnmechnhgmfaaZaTy
import Derived.Test.YtejnmechnhgmfaaZaG5
set_option linter.unusedSimpArgs false
set_option linter.unusedVariables false
namespace Go.Proofs.Ytejnmechnhgmfaa
open Go.RowKit

set_option maxRecDepth 100000 in
set_option maxHeartbeats 400000 in
theorem c_impl_Game_copied (g : M.Gam) (v_g : Value) (w : World) (h_g : (Ty.agg (cGame g)).ok w v_g) (r0 : g.start.pits.length ≤ 4194304) (r1 : g.start.stores.length ≤ 4194304) (r2 : g.moves.length ≤ 4194304) (r3 : g.now.pits.length ≤ 4194304) (r4 : g.now.stores.length ≤ 4194304) : Ret Try.prog 79 [v_g] w (Ty.agg (cGame g)) := by
  obtain ⟨A1_9, c1_9, A1_10, c1_10, A1_12, c1_12, A1_13, c1_13, A1_14, c1_14, rfl, h1_9, h1_10, h1_12, h1_13, h1_14, bl1_9, bh1_9, bl1_10, bh1_10, bl1_12, bh1_12, bl1_13, bh1_13, bl1_14, bh1_14⟩ := open_Game h_g
  refine enter @Try.func79 @Try.ntmps79 rfl rfl ?_
  refine Js.seq ?_
  refine Js.region ?_
  refine JL.e (e_box (c := [.int .i64 g.rules.pits, .int .i64 g.rules.seeds, .bool g.rules.stores, .bool g.rules.skip, .bool g.rules.relay, .bool g.rules.feed, .bool g.rules.again, .int .i64 g.rules.capture, .int .i64 g.rules.slam, .slice A1_9 g.start.pits.length c1_9, .slice A1_10 g.start.stores.length c1_10, .int .i64 g.start.player, .slice A1_12 g.moves.length c1_12, .slice A1_13 g.now.pits.length c1_13, .slice A1_14 g.now.stores.length c1_14, .int .i64 g.now.player, .int .i64 g.resigned]) rfl rfl) ?_
  rintro _ _ _ ⟨b2, rfl, rfl, rfl⟩ _
  refine JL.e (e_alloc zero_35) ?_
  rintro _ _ _ ⟨b3, rfl, rfl, rfl⟩ _
  refine JL.nil ?_
  refine Js.seq ?_
  refine Js.drawn _ [14] mixed_ (fun _ h => h) ?_
  refine JH.p 0 rfl (p_fieldAddr fld_35_0 rfl) ?_
  refine JH.q 1 rfl (q_loadN ty_32 rfl (Mem.boxR (i := 1) rfl 0 9) rfl rfl) ?_
  refine JH.p 2 rfl (p_fieldAddr fld_35_1 rfl) ?_
  refine JH.q 3 rfl (q_loadN ty_33 rfl (Mem.boxR (i := 1) rfl 9 3) rfl rfl) ?_
  refine JH.p 5 rfl (p_fieldAddr fld_35_2 rfl) ?_
  refine JH.q 6 rfl (q_load1 ty_24 rfl (Mem.box (i := 1) rfl rfl)) ?_
  refine JH.p 8 rfl (p_fieldAddr fld_35_3 rfl) ?_
  refine JH.q 9 rfl (q_loadN ty_33 rfl (Mem.boxR (i := 1) rfl 13 3) rfl rfl) ?_
  refine JH.p 11 rfl (p_fieldAddr fld_35_4 rfl) ?_
  refine JH.q 12 rfl (q_load1 ty_2 rfl (Mem.box (i := 1) rfl rfl)) ?_
  refine JH.one (i := 4) (by kernel_rfl) ?_
  refine JHo.e rfl (e_callO fn_104 rfl (Spl.agg (Spls.cons (Spl.ints _ _) (Spls.cons (Spl.ints _ _) (Spls.cons (Spl.val _) Spls.nil)))) (fun w hw => c_impl_Position_copied g.start _ w ⟨_, rfl, ⟨(Ty.mono _ h1_9 hw.vis), (Ty.mono _ h1_10 hw.vis), rfl, trivial⟩⟩ (by omega) (by omega))) (.inl rfl) ?_
  rintro v4 _ _ ⟨_, hR5, rfl, rfl⟩ _
  obtain ⟨vs6, rfl, hr6⟩ := hR5
  obtain ⟨v6_0, vs6_0, o6_0, ow6_0, rfl, hR6_0, hs6_0, rfl⟩ := RL_cons hr6
  obtain ⟨v6_1, vs6_1, o6_1, ow6_1, rfl, hR6_1, hs6_1, rfl⟩ := RL_cons hs6_0
  obtain ⟨v6_2, vs6_2, o6_2, ow6_2, rfl, hR6_2, hs6_2, rfl⟩ := RL_cons hs6_1
  obtain ⟨rfl, rfl⟩ := RL_nil hs6_2
  obtain ⟨A7, c7, rfl, rfl, bl7, bh7⟩ := hR6_0
  obtain ⟨A8, c8, rfl, rfl, bl8, bh8⟩ := hR6_1
  obtain ⟨rfl, rfl⟩ : v6_2 = .int .i64 g.start.player ∧ _ := hR6_2
  refine JH.one (i := 7) (by kernel_rfl) ?_
  refine JHo.e rfl (e_callO fn_106 rfl (Spl.ints _ _) (fun w hw => c_impl_copyNumbers g.moves _ w (Ty.mono _ h1_12 hw.vis) (by omega))) (.inl rfl) ?_
  rintro v9 _ _ ⟨_, hR10, rfl, rfl⟩ _
  obtain ⟨A11, c11, rfl, rfl, bl11, bh11⟩ := hR10
  refine JH.one (i := 10) (by kernel_rfl) ?_
  refine JHo.e rfl (e_callO fn_104 rfl (Spl.agg (Spls.cons (Spl.ints _ _) (Spls.cons (Spl.ints _ _) (Spls.cons (Spl.val _) Spls.nil)))) (fun w hw => c_impl_Position_copied g.now _ w ⟨_, rfl, ⟨(Ty.mono _ h1_13 hw.vis), (Ty.mono _ h1_14 hw.vis), rfl, trivial⟩⟩ (by omega) (by omega))) (.inl rfl) ?_
  rintro v12 _ _ ⟨_, hR13, rfl, rfl⟩ _
  obtain ⟨vs14, rfl, hr14⟩ := hR13
  obtain ⟨v14_0, vs14_0, o14_0, ow14_0, rfl, hR14_0, hs14_0, rfl⟩ := RL_cons hr14
  obtain ⟨v14_1, vs14_1, o14_1, ow14_1, rfl, hR14_1, hs14_1, rfl⟩ := RL_cons hs14_0
  obtain ⟨v14_2, vs14_2, o14_2, ow14_2, rfl, hR14_2, hs14_2, rfl⟩ := RL_cons hs14_1
  obtain ⟨rfl, rfl⟩ := RL_nil hs14_2
  obtain ⟨A15, c15, rfl, rfl, bl15, bh15⟩ := hR14_0
  obtain ⟨A16, c16, rfl, rfl, bl16, bh16⟩ := hR14_1
  obtain ⟨rfl, rfl⟩ : v14_2 = .int .i64 g.now.player ∧ _ := hR14_2
  refine JH.p 13 rfl (p_build zero_35 flds_35 rfl rfl) ?_
  refine JH.one (i := 14) (by kernel_rfl) ?_
  refine JHo.s rfl (e_store (i := 5) (c' := [.int .i64 g.rules.pits, .int .i64 g.rules.seeds, .bool g.rules.stores, .bool g.rules.skip, .bool g.rules.relay, .bool g.rules.feed, .bool g.rules.again, .int .i64 g.rules.capture, .int .i64 g.rules.slam, .slice A7 g.start.pits.length c7, .slice A8 g.start.stores.length c8, .int .i64 g.start.player, .slice A11 g.moves.length c11, .slice A15 g.now.pits.length c15, .slice A16 g.now.stores.length c16, .int .i64 g.now.player, .int .i64 g.resigned]) ty_35 rfl rfl rfl rfl rfl rfl rfl rfl) (.inr rfl) ?_
  rintro _ _ _ ⟨rfl, rfl⟩ _
  refine JH.done (by kernel_rfl) ?_
  refine Js.ret (R := RO w (Ty.agg (cGame g))) @Try.results79 (fun _ _ => rfl) (ResOk.cell (res_box (i := 5) ty_35 rfl rfl rfl rfl rfl) ResOk.nil) (fun w1 hw => ?_)
  have hx := hw.ext (Up.refl _ _)
  exact ret_own (ps := [(3, (Value.ownBlock (.slice A7 g.start.pits.length c7)).toList), (4, (Value.ownBlock (.slice A8 g.start.stores.length c8)).toList), (2, (Value.ownBlock (.slice A11 g.moves.length c11)).toList), (0, (Value.ownBlock (.slice A15 g.now.pits.length c15)).toList), (1, (Value.ownBlock (.slice A16 g.now.stores.length c16)).toList)]) hw hx ⟨_, rfl, ⟨_, _, rfl, ⟨rfl, rfl⟩, ⟨_, _, rfl, ⟨rfl, rfl⟩, ⟨_, _, rfl, ⟨rfl, rfl⟩, ⟨_, _, rfl, ⟨rfl, rfl⟩, ⟨_, _, rfl, ⟨rfl, rfl⟩, ⟨_, _, rfl, ⟨rfl, rfl⟩, ⟨_, _, rfl, ⟨rfl, rfl⟩, ⟨_, _, rfl, ⟨rfl, rfl⟩, ⟨_, _, rfl, ⟨rfl, rfl⟩, ⟨_, _, rfl, (ints_row (xs := g.start.pits) (hw.pr (i := 3) rfl) rfl), ⟨_, _, rfl, (ints_row (xs := g.start.stores) (hw.pr (i := 4) rfl) rfl), ⟨_, _, rfl, ⟨rfl, rfl⟩, ⟨_, _, rfl, (ints_row (xs := g.moves) (hw.pr (i := 2) rfl) rfl), ⟨_, _, rfl, (ints_row (xs := g.now.pits) (hw.pr (i := 0) rfl) rfl), ⟨_, _, rfl, (ints_row (xs := g.now.stores) (hw.pr (i := 1) rfl) rfl), ⟨_, _, rfl, ⟨rfl, rfl⟩, ⟨_, _, rfl, ⟨rfl, rfl⟩, rfl⟩⟩⟩⟩⟩⟩⟩⟩⟩⟩⟩⟩⟩⟩⟩⟩⟩⟩ (Pick.cons (j := 3) rfl (List.sublist_append_left _ _) rfl (Pick.cons (j := 4) rfl (List.sublist_append_left _ _) rfl (Pick.cons (j := 2) rfl (List.sublist_append_left _ _) rfl (Pick.cons (j := 0) rfl (List.sublist_append_left _ _) rfl (Pick.cons (j := 1) rfl (List.sublist_append_left _ _) rfl Pick.nil))))) (by simp [List.flatten, outV])

set_option maxRecDepth 100000 in
set_option maxHeartbeats 400000 in
theorem c_impl_Game_play (g : M.Gam) (v_g : Value) (move : Int) (w : World) (h_g : (Ty.agg (cGame g)).ok w v_g) (r0 : g.start.pits.length ≤ 4194304) (r1 : g.start.stores.length ≤ 4194304) (r2 : g.moves.length ≤ 4194304) (r3 : g.now.pits.length ≤ 4194304) (r4 : g.now.stores.length ≤ 4194304) : Ret Try.prog 86 [v_g, .int .i64 move] w (Ty.tup [Ty.agg (cGame ((M.play g move).1)), Ty.int ((M.play g move).2)]) := by
  obtain ⟨A1_9, c1_9, A1_10, c1_10, A1_12, c1_12, A1_13, c1_13, A1_14, c1_14, rfl, h1_9, h1_10, h1_12, h1_13, h1_14, bl1_9, bh1_9, bl1_10, bh1_10, bl1_12, bh1_12, bl1_13, bh1_13, bl1_14, bh1_14⟩ := open_Game h_g
  refine enter @Try.func86 @Try.ntmps86 rfl rfl ?_
  refine Js.seq ?_
  refine Js.region ?_
  refine JL.e (e_box (c := [.int .i64 g.rules.pits, .int .i64 g.rules.seeds, .bool g.rules.stores, .bool g.rules.skip, .bool g.rules.relay, .bool g.rules.feed, .bool g.rules.again, .int .i64 g.rules.capture, .int .i64 g.rules.slam, .slice A1_9 g.start.pits.length c1_9, .slice A1_10 g.start.stores.length c1_10, .int .i64 g.start.player, .slice A1_12 g.moves.length c1_12, .slice A1_13 g.now.pits.length c1_13, .slice A1_14 g.now.stores.length c1_14, .int .i64 g.now.player, .int .i64 g.resigned]) rfl rfl) ?_
  rintro _ _ _ ⟨b2, rfl, rfl, rfl⟩ _
  refine JL.e (e_alloc zero_35) ?_
  rintro _ _ _ ⟨b3, rfl, rfl, rfl⟩ _
  refine JL.q (OpP.q (p_assign rfl)) ?_
  refine JL.nil ?_
  refine Js.seq ?_
  refine Js.seq ?_
  refine Js.region ?_
  refine JL.q (OpP.q (p_fieldAddr fld_35_4 rfl)) ?_
  refine JL.q (q_load1 ty_2 rfl (Mem.box (i := 1) rfl rfl)) ?_
  refine JL.q (OpP.q (p_geq rfl rfl)) ?_
  refine JL.nil ?_
  refine Js.cond rfl (fun h4 => ?_) (fun h4 => ?_)
  ·
    have h4' := h4
    try simp only [decide_eq_true_eq] at h4'
    have hE := M.play_6 (g := g) (move := move) (by simpa using h4)
    refine Js.seq ?_
    refine Js.region ?_
    refine JL.q (OpP.q (p_build zero_35 flds_35 rfl rfl)) ?_
    refine JL.s (e_store (i := 0) (c' := [.int .i64 0, .int .i64 0, .bool false, .bool false, .bool false, .bool false, .bool false, .int .i64 0, .int .i64 0, .slice none 0 0, .slice none 0 0, .int .i64 0, .slice none 0 0, .slice none 0 0, .slice none 0 0, .int .i64 0, .int .i64 0]) ty_35 rfl rfl rfl rfl rfl rfl rfl rfl) ?_
    rintro _ _ _ ⟨rfl, rfl⟩ _
    refine JL.q (OpP.q (p_assign rfl)) ?_
    refine JL.nil ?_
    refine Js.ret (R := RO w (Ty.tup [Ty.agg (cGame ((M.play g move).1)), Ty.int ((M.play g move).2)])) @Try.results86 (fun _ _ => rfl) (ResOk.cell (res_box (i := 0) ty_35 rfl rfl rfl rfl rfl) (ResOk.tmp rfl ResOk.nil)) (fun w1 hw => ?_)
    have hx := hw.ext (Up.refl _ _)
    exact ret_own (ps := []) hw hx ⟨_, rfl, ⟨_, _, rfl, ⟨_, rfl, ⟨_, _, rfl, ⟨by first | (rw [hE]; done) | (rw [hE]; rfl), rfl⟩, ⟨_, _, rfl, ⟨by first | (rw [hE]; done) | (rw [hE]; rfl), rfl⟩, ⟨_, _, rfl, ⟨by first | (rw [hE]; done) | (rw [hE]; rfl), rfl⟩, ⟨_, _, rfl, ⟨by first | (rw [hE]; done) | (rw [hE]; rfl), rfl⟩, ⟨_, _, rfl, ⟨by first | (rw [hE]; done) | (rw [hE]; rfl), rfl⟩, ⟨_, _, rfl, ⟨by first | (rw [hE]; done) | (rw [hE]; rfl), rfl⟩, ⟨_, _, rfl, ⟨by first | (rw [hE]; done) | (rw [hE]; rfl), rfl⟩, ⟨_, _, rfl, ⟨by first | (rw [hE]; done) | (rw [hE]; rfl), rfl⟩, ⟨_, _, rfl, ⟨by first | (rw [hE]; done) | (rw [hE]; rfl), rfl⟩, ⟨_, _, rfl, (ints_cast (show [] = (((M.play g move).1).start).pits by first | (rw [hE]; done) | (rw [hE]; rfl)) nil_own), ⟨_, _, rfl, (ints_cast (show [] = (((M.play g move).1).start).stores by first | (rw [hE]; done) | (rw [hE]; rfl)) nil_own), ⟨_, _, rfl, ⟨by first | (rw [hE]; done) | (rw [hE]; rfl), rfl⟩, ⟨_, _, rfl, (ints_cast (show [] = ((M.play g move).1).moves by first | (rw [hE]; done) | (rw [hE]; rfl)) nil_own), ⟨_, _, rfl, (ints_cast (show [] = (((M.play g move).1).now).pits by first | (rw [hE]; done) | (rw [hE]; rfl)) nil_own), ⟨_, _, rfl, (ints_cast (show [] = (((M.play g move).1).now).stores by first | (rw [hE]; done) | (rw [hE]; rfl)) nil_own), ⟨_, _, rfl, ⟨by first | (rw [hE]; done) | (rw [hE]; rfl), rfl⟩, ⟨_, _, rfl, ⟨by first | (rw [hE]; done) | (rw [hE]; rfl), rfl⟩, rfl⟩⟩⟩⟩⟩⟩⟩⟩⟩⟩⟩⟩⟩⟩⟩⟩⟩⟩, ⟨_, _, rfl, ⟨by first | (rw [hE]; done) | (rw [hE]; rfl), rfl⟩, rfl⟩⟩⟩ Pick.nil (by simp [List.flatten, outV])
  ·
    have h4' := h4
    try simp only [decide_eq_false_iff_not, Int.not_le] at h4'
    have q1 : ¬ 0 ≤ g.resigned := by simpa using h4
    refine Js.skip ?_
    refine Js.seq ?_
    refine Js.seq ?_
    refine Js.region ?_
    refine JL.q (OpP.q (p_fieldAddr fld_35_2 rfl)) ?_
    refine JL.q (q_load1 ty_24 rfl (Mem.box (i := 1) rfl rfl)) ?_
    refine JL.q (OpP.q (p_len el_24 rfl)) ?_
    refine JL.q (OpP.q (p_eql rfl rfl)) ?_
    refine JL.nil ?_
    refine Js.cond rfl (fun h5 => ?_) (fun h5 => ?_)
    ·
      have h5' := h5
      try simp only [decide_eq_true_eq] at h5'
      have hE := M.play_5 (move := move) q1 (by have := h5'; omega)
      refine Js.seq ?_
      refine Js.region ?_
      refine JL.q (OpP.q (p_build zero_35 flds_35 rfl rfl)) ?_
      refine JL.s (e_store (i := 0) (c' := [.int .i64 0, .int .i64 0, .bool false, .bool false, .bool false, .bool false, .bool false, .int .i64 0, .int .i64 0, .slice none 0 0, .slice none 0 0, .int .i64 0, .slice none 0 0, .slice none 0 0, .slice none 0 0, .int .i64 0, .int .i64 0]) ty_35 rfl rfl rfl rfl rfl rfl rfl rfl) ?_
      rintro _ _ _ ⟨rfl, rfl⟩ _
      refine JL.q (OpP.q (p_assign rfl)) ?_
      refine JL.nil ?_
      refine Js.ret (R := RO w (Ty.tup [Ty.agg (cGame ((M.play g move).1)), Ty.int ((M.play g move).2)])) @Try.results86 (fun _ _ => rfl) (ResOk.cell (res_box (i := 0) ty_35 rfl rfl rfl rfl rfl) (ResOk.tmp rfl ResOk.nil)) (fun w1 hw => ?_)
      have hx := hw.ext (Up.refl _ _)
      exact ret_own (ps := []) hw hx ⟨_, rfl, ⟨_, _, rfl, ⟨_, rfl, ⟨_, _, rfl, ⟨by first | (rw [hE]; done) | (rw [hE]; rfl), rfl⟩, ⟨_, _, rfl, ⟨by first | (rw [hE]; done) | (rw [hE]; rfl), rfl⟩, ⟨_, _, rfl, ⟨by first | (rw [hE]; done) | (rw [hE]; rfl), rfl⟩, ⟨_, _, rfl, ⟨by first | (rw [hE]; done) | (rw [hE]; rfl), rfl⟩, ⟨_, _, rfl, ⟨by first | (rw [hE]; done) | (rw [hE]; rfl), rfl⟩, ⟨_, _, rfl, ⟨by first | (rw [hE]; done) | (rw [hE]; rfl), rfl⟩, ⟨_, _, rfl, ⟨by first | (rw [hE]; done) | (rw [hE]; rfl), rfl⟩, ⟨_, _, rfl, ⟨by first | (rw [hE]; done) | (rw [hE]; rfl), rfl⟩, ⟨_, _, rfl, ⟨by first | (rw [hE]; done) | (rw [hE]; rfl), rfl⟩, ⟨_, _, rfl, (ints_cast (show [] = (((M.play g move).1).start).pits by first | (rw [hE]; done) | (rw [hE]; rfl)) nil_own), ⟨_, _, rfl, (ints_cast (show [] = (((M.play g move).1).start).stores by first | (rw [hE]; done) | (rw [hE]; rfl)) nil_own), ⟨_, _, rfl, ⟨by first | (rw [hE]; done) | (rw [hE]; rfl), rfl⟩, ⟨_, _, rfl, (ints_cast (show [] = ((M.play g move).1).moves by first | (rw [hE]; done) | (rw [hE]; rfl)) nil_own), ⟨_, _, rfl, (ints_cast (show [] = (((M.play g move).1).now).pits by first | (rw [hE]; done) | (rw [hE]; rfl)) nil_own), ⟨_, _, rfl, (ints_cast (show [] = (((M.play g move).1).now).stores by first | (rw [hE]; done) | (rw [hE]; rfl)) nil_own), ⟨_, _, rfl, ⟨by first | (rw [hE]; done) | (rw [hE]; rfl), rfl⟩, ⟨_, _, rfl, ⟨by first | (rw [hE]; done) | (rw [hE]; rfl), rfl⟩, rfl⟩⟩⟩⟩⟩⟩⟩⟩⟩⟩⟩⟩⟩⟩⟩⟩⟩⟩, ⟨_, _, rfl, ⟨by first | (rw [hE]; done) | (rw [hE]; rfl), rfl⟩, rfl⟩⟩⟩ Pick.nil (by simp [List.flatten, outV])
    ·
      have h5' := h5
      try simp only [decide_eq_false_iff_not] at h5'
      have q2 : g.moves.length ≠ 120 := by have := h5'; omega
      refine Js.skip ?_
      refine Js.seq ?_
      refine Js.region ?_
      refine JL.q (OpP.q (p_fieldAddr fld_35_0 rfl)) ?_
      refine JL.q (q_loadN ty_32 rfl (Mem.boxR (i := 1) rfl 0 9) rfl rfl) ?_
      refine JL.q (OpP.q (p_fieldAddr fld_35_3 rfl)) ?_
      refine JL.q (q_loadN ty_33 rfl (Mem.boxR (i := 1) rfl 13 3) rfl rfl) ?_
      refine JL.q (OpP.q (p_move rfl)) ?_
      refine JL.e (e_callO fn_102 rfl (Spl.tup (Spls.cons (Spl.agg (Spls.cons (Spl.val _) (Spls.cons (Spl.val _) (Spls.cons (Spl.val _) (Spls.cons (Spl.ints _ _) (Spls.cons (Spl.ints _ _) (Spls.cons (Spl.val _) Spls.nil))))))) (Spls.cons (Spl.val _) Spls.nil))) (fun w hw => c_impl_Rules_resultOf g.rules _ g.now _ move w ⟨_, rfl, ⟨rfl, rfl, rfl, rfl, rfl, rfl, rfl, rfl, rfl, trivial⟩⟩ ⟨_, rfl, ⟨(Ty.mono _ h1_13 hw.vis), (Ty.mono _ h1_14 hw.vis), rfl, trivial⟩⟩ (by omega) (by omega))) ?_
      rintro v6 _ _ ⟨_, hR7, rfl, rfl⟩ _
      obtain ⟨vs8, rfl, hr8⟩ := hR7
      obtain ⟨v8_0, vs8_0, o8_0, ow8_0, rfl, hR8_0, hs8_0, rfl⟩ := RL_cons hr8
      obtain ⟨v8_1, vs8_1, o8_1, ow8_1, rfl, hR8_1, hs8_1, rfl⟩ := RL_cons hs8_0
      obtain ⟨rfl, rfl⟩ := RL_nil hs8_1
      obtain ⟨vs9, rfl, hr9⟩ := hR8_0
      obtain ⟨v9_0, vs9_0, o9_0, ow9_0, rfl, hR9_0, hs9_0, rfl⟩ := RL_cons hr9
      obtain ⟨v9_1, vs9_1, o9_1, ow9_1, rfl, hR9_1, hs9_1, rfl⟩ := RL_cons hs9_0
      obtain ⟨v9_2, vs9_2, o9_2, ow9_2, rfl, hR9_2, hs9_2, rfl⟩ := RL_cons hs9_1
      obtain ⟨v9_3, vs9_3, o9_3, ow9_3, rfl, hR9_3, hs9_3, rfl⟩ := RL_cons hs9_2
      obtain ⟨v9_4, vs9_4, o9_4, ow9_4, rfl, hR9_4, hs9_4, rfl⟩ := RL_cons hs9_3
      obtain ⟨v9_5, vs9_5, o9_5, ow9_5, rfl, hR9_5, hs9_5, rfl⟩ := RL_cons hs9_4
      obtain ⟨rfl, rfl⟩ := RL_nil hs9_5
      obtain ⟨rfl, rfl⟩ : v9_0 = .int .i64 (((M.make g.rules g.now move).1).move) ∧ _ := hR9_0
      obtain ⟨rfl, rfl⟩ : v9_1 = .int .i64 (((M.make g.rules g.now move).1).gain) ∧ _ := hR9_1
      obtain ⟨rfl, rfl⟩ : v9_2 = .bool (((M.make g.rules g.now move).1).again) ∧ _ := hR9_2
      obtain ⟨A10, c10, rfl, rfl, bl10, bh10⟩ := hR9_3
      obtain ⟨A11, c11, rfl, rfl, bl11, bh11⟩ := hR9_4
      obtain ⟨rfl, rfl⟩ : v9_5 = .int .i64 ((((M.make g.rules g.now move).1).next).player) ∧ _ := hR9_5
      obtain ⟨rfl, rfl⟩ : v8_1 = .int .i64 ((M.make g.rules g.now move).2) ∧ _ := hR8_1
      refine JL.q (OpP.q (p_move rfl)) ?_
      refine JL.q (OpP.q (p_extract rfl rfl)) ?_
      refine JL.q (OpP.q (p_extract rfl rfl)) ?_
      refine JL.e (e_alloc zero_84) ?_
      rintro _ _ _ ⟨b12, rfl, rfl, rfl⟩ _
      refine JL.s (e_store (i := 0) (c' := [.int .i64 (((M.make g.rules g.now move).1).move), .int .i64 (((M.make g.rules g.now move).1).gain), .bool (((M.make g.rules g.now move).1).again), .slice A10 (((((M.make g.rules g.now move).1).next).pits).length) c10, .slice A11 (((((M.make g.rules g.now move).1).next).stores).length) c11, .int .i64 ((((M.make g.rules g.now move).1).next).player)]) ty_84 rfl rfl rfl rfl rfl rfl rfl rfl) ?_
      rintro _ _ _ ⟨rfl, rfl⟩ _
      refine JL.q (OpP.q (p_assign rfl)) ?_
      refine JL.nil ?_
      refine Js.seq ?_
      refine Js.seq ?_
      refine Js.region ?_
      refine JL.q (OpP.q (p_move rfl)) ?_
      refine JL.q (OpP.q (p_neq rfl rfl)) ?_
      refine JL.nil ?_
      refine Js.cond rfl (fun h13 => ?_) (fun h13 => ?_)
      ·
        have h13' := h13
        try simp only [Bool.not_eq_true', decide_eq_false_iff_not] at h13'
        have hE := M.play_c q1 q2 (move := move) (by simpa using h13)
        refine Js.seq ?_
        refine Js.region ?_
        refine JL.q (OpP.q (p_build zero_35 flds_35 rfl rfl)) ?_
        refine JL.q (OpP.q (p_move rfl)) ?_
        refine JL.s (e_store (i := 3) (c' := [.int .i64 0, .int .i64 0, .bool false, .bool false, .bool false, .bool false, .bool false, .int .i64 0, .int .i64 0, .slice none 0 0, .slice none 0 0, .int .i64 0, .slice none 0 0, .slice none 0 0, .slice none 0 0, .int .i64 0, .int .i64 0]) ty_35 rfl rfl rfl rfl rfl rfl rfl rfl) ?_
        rintro _ _ _ ⟨rfl, rfl⟩ _
        refine JL.q (OpP.q (p_assign rfl)) ?_
        refine JL.nil ?_
        refine Js.ret (R := RO w (Ty.tup [Ty.agg (cGame ((M.play g move).1)), Ty.int ((M.play g move).2)])) @Try.results86 (fun _ _ => rfl) (ResOk.cell (res_box (i := 3) ty_35 rfl rfl rfl rfl rfl) (ResOk.tmp rfl ResOk.nil)) (fun w1 hw => ?_)
        have hx := hw.ext (Up.refl _ _)
        exact ret_own (ps := []) hw hx ⟨_, rfl, ⟨_, _, rfl, ⟨_, rfl, ⟨_, _, rfl, ⟨by first | (rw [hE]; done) | (rw [hE]; rfl), rfl⟩, ⟨_, _, rfl, ⟨by first | (rw [hE]; done) | (rw [hE]; rfl), rfl⟩, ⟨_, _, rfl, ⟨by first | (rw [hE]; done) | (rw [hE]; rfl), rfl⟩, ⟨_, _, rfl, ⟨by first | (rw [hE]; done) | (rw [hE]; rfl), rfl⟩, ⟨_, _, rfl, ⟨by first | (rw [hE]; done) | (rw [hE]; rfl), rfl⟩, ⟨_, _, rfl, ⟨by first | (rw [hE]; done) | (rw [hE]; rfl), rfl⟩, ⟨_, _, rfl, ⟨by first | (rw [hE]; done) | (rw [hE]; rfl), rfl⟩, ⟨_, _, rfl, ⟨by first | (rw [hE]; done) | (rw [hE]; rfl), rfl⟩, ⟨_, _, rfl, ⟨by first | (rw [hE]; done) | (rw [hE]; rfl), rfl⟩, ⟨_, _, rfl, (ints_cast (show [] = (((M.play g move).1).start).pits by first | (rw [hE]; done) | (rw [hE]; rfl)) nil_own), ⟨_, _, rfl, (ints_cast (show [] = (((M.play g move).1).start).stores by first | (rw [hE]; done) | (rw [hE]; rfl)) nil_own), ⟨_, _, rfl, ⟨by first | (rw [hE]; done) | (rw [hE]; rfl), rfl⟩, ⟨_, _, rfl, (ints_cast (show [] = ((M.play g move).1).moves by first | (rw [hE]; done) | (rw [hE]; rfl)) nil_own), ⟨_, _, rfl, (ints_cast (show [] = (((M.play g move).1).now).pits by first | (rw [hE]; done) | (rw [hE]; rfl)) nil_own), ⟨_, _, rfl, (ints_cast (show [] = (((M.play g move).1).now).stores by first | (rw [hE]; done) | (rw [hE]; rfl)) nil_own), ⟨_, _, rfl, ⟨by first | (rw [hE]; done) | (rw [hE]; rfl), rfl⟩, ⟨_, _, rfl, ⟨by first | (rw [hE]; done) | (rw [hE]; rfl), rfl⟩, rfl⟩⟩⟩⟩⟩⟩⟩⟩⟩⟩⟩⟩⟩⟩⟩⟩⟩⟩, ⟨_, _, rfl, ⟨by first | (rw [hE]; done) | (rw [hE]; rfl), rfl⟩, rfl⟩⟩⟩ Pick.nil (by simp [List.flatten, outV])
      ·
        have h13' := h13
        try simp only [Bool.not_eq_false', decide_eq_true_eq] at h13'
        have hz : (M.make g.rules g.now move).2 = 0 := by simpa using h13
        have hE := M.play_0 q1 q2 hz
        refine Js.skip ?_
        refine Js.seq ?_
        refine Js.region ?_
        refine JL.q (q_loadN ty_35 rfl (Mem.boxR (i := 4) rfl 0 17) rfl rfl) ?_
        refine JL.e (e_callO fn_79 rfl (Spl.agg (Spls.cons (Spl.val _) (Spls.cons (Spl.val _) (Spls.cons (Spl.val _) (Spls.cons (Spl.val _) (Spls.cons (Spl.val _) (Spls.cons (Spl.val _) (Spls.cons (Spl.val _) (Spls.cons (Spl.val _) (Spls.cons (Spl.val _) (Spls.cons (Spl.ints _ _) (Spls.cons (Spl.ints _ _) (Spls.cons (Spl.val _) (Spls.cons (Spl.ints _ _) (Spls.cons (Spl.ints _ _) (Spls.cons (Spl.ints _ _) (Spls.cons (Spl.val _) (Spls.cons (Spl.val _) Spls.nil)))))))))))))))))) (fun w hw => c_impl_Game_copied g _ w ⟨_, rfl, ⟨rfl, rfl, rfl, rfl, rfl, rfl, rfl, rfl, rfl, (Ty.mono _ h1_9 hw.vis), (Ty.mono _ h1_10 hw.vis), rfl, (Ty.mono _ h1_12 hw.vis), (Ty.mono _ h1_13 hw.vis), (Ty.mono _ h1_14 hw.vis), rfl, rfl, trivial⟩⟩ (by omega) (by omega) (by omega) (by omega) (by omega))) ?_
        rintro v14 _ _ ⟨_, hR15, rfl, rfl⟩ _
        obtain ⟨vs16, rfl, hr16⟩ := hR15
        obtain ⟨v16_0, vs16_0, o16_0, ow16_0, rfl, hR16_0, hs16_0, rfl⟩ := RL_cons hr16
        obtain ⟨v16_1, vs16_1, o16_1, ow16_1, rfl, hR16_1, hs16_1, rfl⟩ := RL_cons hs16_0
        obtain ⟨v16_2, vs16_2, o16_2, ow16_2, rfl, hR16_2, hs16_2, rfl⟩ := RL_cons hs16_1
        obtain ⟨v16_3, vs16_3, o16_3, ow16_3, rfl, hR16_3, hs16_3, rfl⟩ := RL_cons hs16_2
        obtain ⟨v16_4, vs16_4, o16_4, ow16_4, rfl, hR16_4, hs16_4, rfl⟩ := RL_cons hs16_3
        obtain ⟨v16_5, vs16_5, o16_5, ow16_5, rfl, hR16_5, hs16_5, rfl⟩ := RL_cons hs16_4
        obtain ⟨v16_6, vs16_6, o16_6, ow16_6, rfl, hR16_6, hs16_6, rfl⟩ := RL_cons hs16_5
        obtain ⟨v16_7, vs16_7, o16_7, ow16_7, rfl, hR16_7, hs16_7, rfl⟩ := RL_cons hs16_6
        obtain ⟨v16_8, vs16_8, o16_8, ow16_8, rfl, hR16_8, hs16_8, rfl⟩ := RL_cons hs16_7
        obtain ⟨v16_9, vs16_9, o16_9, ow16_9, rfl, hR16_9, hs16_9, rfl⟩ := RL_cons hs16_8
        obtain ⟨v16_10, vs16_10, o16_10, ow16_10, rfl, hR16_10, hs16_10, rfl⟩ := RL_cons hs16_9
        obtain ⟨v16_11, vs16_11, o16_11, ow16_11, rfl, hR16_11, hs16_11, rfl⟩ := RL_cons hs16_10
        obtain ⟨v16_12, vs16_12, o16_12, ow16_12, rfl, hR16_12, hs16_12, rfl⟩ := RL_cons hs16_11
        obtain ⟨v16_13, vs16_13, o16_13, ow16_13, rfl, hR16_13, hs16_13, rfl⟩ := RL_cons hs16_12
        obtain ⟨v16_14, vs16_14, o16_14, ow16_14, rfl, hR16_14, hs16_14, rfl⟩ := RL_cons hs16_13
        obtain ⟨v16_15, vs16_15, o16_15, ow16_15, rfl, hR16_15, hs16_15, rfl⟩ := RL_cons hs16_14
        obtain ⟨v16_16, vs16_16, o16_16, ow16_16, rfl, hR16_16, hs16_16, rfl⟩ := RL_cons hs16_15
        obtain ⟨rfl, rfl⟩ := RL_nil hs16_16
        obtain ⟨rfl, rfl⟩ : v16_0 = .int .i64 g.rules.pits ∧ _ := hR16_0
        obtain ⟨rfl, rfl⟩ : v16_1 = .int .i64 g.rules.seeds ∧ _ := hR16_1
        obtain ⟨rfl, rfl⟩ : v16_2 = .bool g.rules.stores ∧ _ := hR16_2
        obtain ⟨rfl, rfl⟩ : v16_3 = .bool g.rules.skip ∧ _ := hR16_3
        obtain ⟨rfl, rfl⟩ : v16_4 = .bool g.rules.relay ∧ _ := hR16_4
        obtain ⟨rfl, rfl⟩ : v16_5 = .bool g.rules.feed ∧ _ := hR16_5
        obtain ⟨rfl, rfl⟩ : v16_6 = .bool g.rules.again ∧ _ := hR16_6
        obtain ⟨rfl, rfl⟩ : v16_7 = .int .i64 g.rules.capture ∧ _ := hR16_7
        obtain ⟨rfl, rfl⟩ : v16_8 = .int .i64 g.rules.slam ∧ _ := hR16_8
        obtain ⟨A17, c17, rfl, rfl, bl17, bh17⟩ := hR16_9
        obtain ⟨A18, c18, rfl, rfl, bl18, bh18⟩ := hR16_10
        obtain ⟨rfl, rfl⟩ : v16_11 = .int .i64 g.start.player ∧ _ := hR16_11
        obtain ⟨A19, c19, rfl, rfl, bl19, bh19⟩ := hR16_12
        obtain ⟨A20, c20, rfl, rfl, bl20, bh20⟩ := hR16_13
        obtain ⟨A21, c21, rfl, rfl, bl21, bh21⟩ := hR16_14
        obtain ⟨rfl, rfl⟩ : v16_15 = .int .i64 g.now.player ∧ _ := hR16_15
        obtain ⟨rfl, rfl⟩ : v16_16 = .int .i64 g.resigned ∧ _ := hR16_16
        refine JL.e (e_alloc zero_35) ?_
        rintro _ _ _ ⟨b22, rfl, rfl, rfl⟩ _
        refine JL.s (e_store (i := 0) (c' := [.int .i64 g.rules.pits, .int .i64 g.rules.seeds, .bool g.rules.stores, .bool g.rules.skip, .bool g.rules.relay, .bool g.rules.feed, .bool g.rules.again, .int .i64 g.rules.capture, .int .i64 g.rules.slam, .slice A17 g.start.pits.length c17, .slice A18 g.start.stores.length c18, .int .i64 g.start.player, .slice A19 g.moves.length c19, .slice A20 g.now.pits.length c20, .slice A21 g.now.stores.length c21, .int .i64 g.now.player, .int .i64 g.resigned]) ty_35 rfl rfl rfl rfl rfl rfl rfl rfl) ?_
        rintro _ _ _ ⟨rfl, rfl⟩ _
        refine JL.nil ?_
        refine Js.seq ?_
        refine Js.cut (fun l os u => ∃ (b23 : Nat) (A27 : Option Addr) (c27 : Nat) (g26 : List Nat), l = [(4, .pointer (some ⟨b3, 0, none⟩)), (8, .pointer (some ⟨b22, 0, none⟩))] ∧ os = [rowO 2 1 (.slice (some ⟨b23, 0, none⟩) 1 1) 1 [.int .i64 move] [], boxO b22 [.int .i64 g.rules.pits, .int .i64 g.rules.seeds, .bool g.rules.stores, .bool g.rules.skip, .bool g.rules.relay, .bool g.rules.feed, .bool g.rules.again, .int .i64 g.rules.capture, .int .i64 g.rules.slam, .slice A17 g.start.pits.length c17, .slice A18 g.start.stores.length c18, .int .i64 g.start.player, .slice A27 ((g.moves ++ [move]).length) c27, .slice A10 (((((M.make g.rules g.now move).1).next).pits).length) c10, .slice A11 (((((M.make g.rules g.now move).1).next).stores).length) c11, .int .i64 ((((M.make g.rules g.now move).1).next).player), .int .i64 g.resigned] 35, rowO 2 1 (.slice A17 g.start.pits.length c17) g.start.pits.length (ints_ g.start.pits) [], rowO 2 1 (.slice A18 g.start.stores.length c18) g.start.stores.length (ints_ g.start.stores) [], rowO 2 1 (.slice A27 ((g.moves ++ [move]).length) c27) ((g.moves ++ [move]).length) (ints_ (g.moves ++ [move])) g26, rowO 2 1 (.slice A20 g.now.pits.length c20) g.now.pits.length (ints_ g.now.pits) [], rowO 2 1 (.slice A21 g.now.stores.length c21) g.now.stores.length (ints_ g.now.stores) [], boxO b12 [.int .i64 (((M.make g.rules g.now move).1).move), .int .i64 (((M.make g.rules g.now move).1).gain), .bool (((M.make g.rules g.now move).1).again), .slice A10 (((((M.make g.rules g.now move).1).next).pits).length) c10, .slice A11 (((((M.make g.rules g.now move).1).next).stores).length) c11, .int .i64 ((((M.make g.rules g.now move).1).next).player)] 84, rowO 2 1 (.slice A10 (((((M.make g.rules g.now move).1).next).pits).length) c10) (((((M.make g.rules g.now move).1).next).pits).length) (ints_ ((((M.make g.rules g.now move).1).next).pits)) [], rowO 2 1 (.slice A11 (((((M.make g.rules g.now move).1).next).stores).length) c11) (((((M.make g.rules g.now move).1).next).stores).length) (ints_ ((((M.make g.rules g.now move).1).next).stores)) [], boxO b3 [.int .i64 0, .int .i64 0, .bool false, .bool false, .bool false, .bool false, .bool false, .int .i64 0, .int .i64 0, .slice none 0 0, .slice none 0 0, .int .i64 0, .slice none 0 0, .slice none 0 0, .slice none 0 0, .int .i64 0, .int .i64 0] 35, boxO b2 [.int .i64 g.rules.pits, .int .i64 g.rules.seeds, .bool g.rules.stores, .bool g.rules.skip, .bool g.rules.relay, .bool g.rules.feed, .bool g.rules.again, .int .i64 g.rules.capture, .int .i64 g.rules.slam, .slice A1_9 g.start.pits.length c1_9, .slice A1_10 g.start.stores.length c1_10, .int .i64 g.start.player, .slice A1_12 g.moves.length c1_12, .slice A1_13 g.now.pits.length c1_13, .slice A1_14 g.now.stores.length c1_14, .int .i64 g.now.player, .int .i64 g.resigned] 35] ∧ Up w.heap.size w u ∧ ((g.moves ++ [move]).length ≤ c27) ∧ (c27 ≤ 9223372036854775807)) ?_ ?_
        ·
          refine Js.drawn _ [4, 8, 10] mixed_ (fun _ h => h) ?_
          refine JH.p 0 rfl (p_fieldAddr fld_35_2 rfl) ?_
          refine JH.q 1 rfl (q_load1 ty_24 rfl (Mem.box (i := 0) rfl rfl)) ?_
          refine JH.p 2 rfl (p_move rfl) ?_
          refine JH.p 5 rfl (p_fieldAddr fld_84_3 rfl) ?_
          refine JH.all (rs := [3, 6]) (by kernel_rfl) rfl ⟨?_, ?_, trivial⟩
          ·
            refine JHo.e rfl (e_buildSlice (vs := [.int .i64 move]) el_24 rfl rfl rfl rfl rfl rfl) (.inl rfl) ?_
            rintro _ _ _ ⟨b37, rfl, rfl, hl38, rfl⟩ _
            refine JH.all (rs := [4, 6]) (by kernel_rfl) rfl ⟨?_, ?_, trivial⟩
            ·
              refine JHo.e rfl (e_append (i := 4) (n' := (g.moves ++ [move]).length) (vs' := ints_ (g.moves ++ [move])) el_24 rfl rfl rfl rfl (src_row (i := 0) und_24 rfl rfl) (by omega) (by omega) (by first | omega | (simp only [List.length_append, List.length_cons, List.length_nil] <;> omega)) (by simp [ints_])) (.inr rfl) ?_
              rintro v39 _ _ ⟨⟨g40, rfl⟩, rfl⟩ _
              refine JH.fact (row_form' (i := 4) rfl) (fun hf41 => ?_)
              obtain ⟨A41, c41, rfl, bl41, bh41⟩ := hf41
              refine JH.p 7 rfl (p_fieldAddr fld_35_2 rfl) ?_
              refine JH.all (rs := [6, 8]) (by kernel_rfl) rfl ⟨?_, ?_, trivial⟩
              ·
                refine JHo.q rfl (q_loadN ty_33 rfl (Mem.boxR (i := 7) rfl 3 3) rfl rfl) ?_
                refine JH.one (i := 8) (by kernel_rfl) ?_
                refine JHo.s rfl (e_store (i := 1) (c' := [.int .i64 g.rules.pits, .int .i64 g.rules.seeds, .bool g.rules.stores, .bool g.rules.skip, .bool g.rules.relay, .bool g.rules.feed, .bool g.rules.again, .int .i64 g.rules.capture, .int .i64 g.rules.slam, .slice A17 g.start.pits.length c17, .slice A18 g.start.stores.length c18, .int .i64 g.start.player, .slice A41 ((g.moves ++ [move]).length) c41, .slice A20 g.now.pits.length c20, .slice A21 g.now.stores.length c21, .int .i64 g.now.player, .int .i64 g.resigned]) ty_24 rfl rfl rfl rfl rfl rfl rfl rfl) (.inr rfl) ?_
                rintro _ _ _ ⟨rfl, rfl⟩ _
                refine JH.p 9 rfl (p_fieldAddr fld_35_3 rfl) ?_
                refine JH.one (i := 10) (by kernel_rfl) ?_
                refine JHo.s rfl (e_store (i := 1) (c' := [.int .i64 g.rules.pits, .int .i64 g.rules.seeds, .bool g.rules.stores, .bool g.rules.skip, .bool g.rules.relay, .bool g.rules.feed, .bool g.rules.again, .int .i64 g.rules.capture, .int .i64 g.rules.slam, .slice A17 g.start.pits.length c17, .slice A18 g.start.stores.length c18, .int .i64 g.start.player, .slice A41 ((g.moves ++ [move]).length) c41, .slice A10 (((((M.make g.rules g.now move).1).next).pits).length) c10, .slice A11 (((((M.make g.rules g.now move).1).next).stores).length) c11, .int .i64 ((((M.make g.rules g.now move).1).next).player), .int .i64 g.resigned]) ty_33 rfl rfl rfl rfl rfl rfl rfl rfl) (.inr rfl) ?_
                rintro _ _ _ ⟨rfl, rfl⟩ _
                refine JH.done (by kernel_rfl) ?_
                exact Js.meet ⟨_, _, _, _, rfl, rfl, Up.refl _ _, by omega, by omega⟩ ⟨rfl, rfl, trivial⟩
              ·
                refine JHo.s rfl (e_store (i := 1) (c' := [.int .i64 g.rules.pits, .int .i64 g.rules.seeds, .bool g.rules.stores, .bool g.rules.skip, .bool g.rules.relay, .bool g.rules.feed, .bool g.rules.again, .int .i64 g.rules.capture, .int .i64 g.rules.slam, .slice A17 g.start.pits.length c17, .slice A18 g.start.stores.length c18, .int .i64 g.start.player, .slice A41 ((g.moves ++ [move]).length) c41, .slice A20 g.now.pits.length c20, .slice A21 g.now.stores.length c21, .int .i64 g.now.player, .int .i64 g.resigned]) ty_24 rfl rfl rfl rfl rfl rfl rfl rfl) (.inr rfl) ?_
                rintro _ _ _ ⟨rfl, rfl⟩ _
                refine JH.one (i := 6) (by kernel_rfl) ?_
                refine JHo.q rfl (q_loadN ty_33 rfl (Mem.boxR (i := 7) rfl 3 3) rfl rfl) ?_
                refine JH.p 9 rfl (p_fieldAddr fld_35_3 rfl) ?_
                refine JH.one (i := 10) (by kernel_rfl) ?_
                refine JHo.s rfl (e_store (i := 1) (c' := [.int .i64 g.rules.pits, .int .i64 g.rules.seeds, .bool g.rules.stores, .bool g.rules.skip, .bool g.rules.relay, .bool g.rules.feed, .bool g.rules.again, .int .i64 g.rules.capture, .int .i64 g.rules.slam, .slice A17 g.start.pits.length c17, .slice A18 g.start.stores.length c18, .int .i64 g.start.player, .slice A41 ((g.moves ++ [move]).length) c41, .slice A10 (((((M.make g.rules g.now move).1).next).pits).length) c10, .slice A11 (((((M.make g.rules g.now move).1).next).stores).length) c11, .int .i64 ((((M.make g.rules g.now move).1).next).player), .int .i64 g.resigned]) ty_33 rfl rfl rfl rfl rfl rfl rfl rfl) (.inr rfl) ?_
                rintro _ _ _ ⟨rfl, rfl⟩ _
                refine JH.done (by kernel_rfl) ?_
                exact Js.meet ⟨_, _, _, _, rfl, rfl, Up.refl _ _, by omega, by omega⟩ ⟨rfl, rfl, trivial⟩
            ·
              refine JHo.q rfl (q_loadN ty_33 rfl (Mem.boxR (i := 7) rfl 3 3) rfl rfl) ?_
              refine JH.one (i := 4) (by kernel_rfl) ?_
              refine JHo.e rfl (e_append (i := 4) (n' := (g.moves ++ [move]).length) (vs' := ints_ (g.moves ++ [move])) el_24 rfl rfl rfl rfl (src_row (i := 0) und_24 rfl rfl) (by omega) (by omega) (by first | omega | (simp only [List.length_append, List.length_cons, List.length_nil] <;> omega)) (by simp [ints_])) (.inr rfl) ?_
              rintro v42 _ _ ⟨⟨g43, rfl⟩, rfl⟩ _
              refine JH.fact (row_form' (i := 4) rfl) (fun hf44 => ?_)
              obtain ⟨A44, c44, rfl, bl44, bh44⟩ := hf44
              refine JH.p 7 rfl (p_fieldAddr fld_35_2 rfl) ?_
              refine JH.one (i := 8) (by kernel_rfl) ?_
              refine JHo.s rfl (e_store (i := 1) (c' := [.int .i64 g.rules.pits, .int .i64 g.rules.seeds, .bool g.rules.stores, .bool g.rules.skip, .bool g.rules.relay, .bool g.rules.feed, .bool g.rules.again, .int .i64 g.rules.capture, .int .i64 g.rules.slam, .slice A17 g.start.pits.length c17, .slice A18 g.start.stores.length c18, .int .i64 g.start.player, .slice A44 ((g.moves ++ [move]).length) c44, .slice A20 g.now.pits.length c20, .slice A21 g.now.stores.length c21, .int .i64 g.now.player, .int .i64 g.resigned]) ty_24 rfl rfl rfl rfl rfl rfl rfl rfl) (.inr rfl) ?_
              rintro _ _ _ ⟨rfl, rfl⟩ _
              refine JH.p 9 rfl (p_fieldAddr fld_35_3 rfl) ?_
              refine JH.one (i := 10) (by kernel_rfl) ?_
              refine JHo.s rfl (e_store (i := 1) (c' := [.int .i64 g.rules.pits, .int .i64 g.rules.seeds, .bool g.rules.stores, .bool g.rules.skip, .bool g.rules.relay, .bool g.rules.feed, .bool g.rules.again, .int .i64 g.rules.capture, .int .i64 g.rules.slam, .slice A17 g.start.pits.length c17, .slice A18 g.start.stores.length c18, .int .i64 g.start.player, .slice A44 ((g.moves ++ [move]).length) c44, .slice A10 (((((M.make g.rules g.now move).1).next).pits).length) c10, .slice A11 (((((M.make g.rules g.now move).1).next).stores).length) c11, .int .i64 ((((M.make g.rules g.now move).1).next).player), .int .i64 g.resigned]) ty_33 rfl rfl rfl rfl rfl rfl rfl rfl) (.inr rfl) ?_
              rintro _ _ _ ⟨rfl, rfl⟩ _
              refine JH.done (by kernel_rfl) ?_
              exact Js.meet ⟨_, _, _, _, rfl, rfl, Up.refl _ _, by omega, by omega⟩ ⟨rfl, rfl, trivial⟩
          ·
            refine JHo.q rfl (q_loadN ty_33 rfl (Mem.boxR (i := 6) rfl 3 3) rfl rfl) ?_
            refine JH.one (i := 3) (by kernel_rfl) ?_
            refine JHo.e rfl (e_buildSlice (vs := [.int .i64 move]) el_24 rfl rfl rfl rfl rfl rfl) (.inl rfl) ?_
            rintro _ _ _ ⟨b45, rfl, rfl, hl46, rfl⟩ _
            refine JH.one (i := 4) (by kernel_rfl) ?_
            refine JHo.e rfl (e_append (i := 4) (n' := (g.moves ++ [move]).length) (vs' := ints_ (g.moves ++ [move])) el_24 rfl rfl rfl rfl (src_row (i := 0) und_24 rfl rfl) (by omega) (by omega) (by first | omega | (simp only [List.length_append, List.length_cons, List.length_nil] <;> omega)) (by simp [ints_])) (.inr rfl) ?_
            rintro v47 _ _ ⟨⟨g48, rfl⟩, rfl⟩ _
            refine JH.fact (row_form' (i := 4) rfl) (fun hf49 => ?_)
            obtain ⟨A49, c49, rfl, bl49, bh49⟩ := hf49
            refine JH.p 7 rfl (p_fieldAddr fld_35_2 rfl) ?_
            refine JH.one (i := 8) (by kernel_rfl) ?_
            refine JHo.s rfl (e_store (i := 1) (c' := [.int .i64 g.rules.pits, .int .i64 g.rules.seeds, .bool g.rules.stores, .bool g.rules.skip, .bool g.rules.relay, .bool g.rules.feed, .bool g.rules.again, .int .i64 g.rules.capture, .int .i64 g.rules.slam, .slice A17 g.start.pits.length c17, .slice A18 g.start.stores.length c18, .int .i64 g.start.player, .slice A49 ((g.moves ++ [move]).length) c49, .slice A20 g.now.pits.length c20, .slice A21 g.now.stores.length c21, .int .i64 g.now.player, .int .i64 g.resigned]) ty_24 rfl rfl rfl rfl rfl rfl rfl rfl) (.inr rfl) ?_
            rintro _ _ _ ⟨rfl, rfl⟩ _
            refine JH.p 9 rfl (p_fieldAddr fld_35_3 rfl) ?_
            refine JH.one (i := 10) (by kernel_rfl) ?_
            refine JHo.s rfl (e_store (i := 1) (c' := [.int .i64 g.rules.pits, .int .i64 g.rules.seeds, .bool g.rules.stores, .bool g.rules.skip, .bool g.rules.relay, .bool g.rules.feed, .bool g.rules.again, .int .i64 g.rules.capture, .int .i64 g.rules.slam, .slice A17 g.start.pits.length c17, .slice A18 g.start.stores.length c18, .int .i64 g.start.player, .slice A49 ((g.moves ++ [move]).length) c49, .slice A10 (((((M.make g.rules g.now move).1).next).pits).length) c10, .slice A11 (((((M.make g.rules g.now move).1).next).stores).length) c11, .int .i64 ((((M.make g.rules g.now move).1).next).player), .int .i64 g.resigned]) ty_33 rfl rfl rfl rfl rfl rfl rfl rfl) (.inr rfl) ?_
            rintro _ _ _ ⟨rfl, rfl⟩ _
            refine JH.done (by kernel_rfl) ?_
            exact Js.meet ⟨_, _, _, _, rfl, rfl, Up.refl _ _, by omega, by omega⟩ ⟨rfl, rfl, trivial⟩
        · rintro _ _ u36 ⟨b23, A27, c27, g26, rfl, rfl, x36, f36_0, f36_1⟩
          refine Js.seq ?_
          refine Js.region ?_
          refine JL.q (q_loadN ty_35 rfl (Mem.boxR (i := 1) rfl 0 17) rfl rfl) ?_
          refine JL.s (e_store (i := 10) (c' := [.int .i64 g.rules.pits, .int .i64 g.rules.seeds, .bool g.rules.stores, .bool g.rules.skip, .bool g.rules.relay, .bool g.rules.feed, .bool g.rules.again, .int .i64 g.rules.capture, .int .i64 g.rules.slam, .slice A17 g.start.pits.length c17, .slice A18 g.start.stores.length c18, .int .i64 g.start.player, .slice A27 ((g.moves ++ [move]).length) c27, .slice A10 (((((M.make g.rules g.now move).1).next).pits).length) c10, .slice A11 (((((M.make g.rules g.now move).1).next).stores).length) c11, .int .i64 ((((M.make g.rules g.now move).1).next).player), .int .i64 g.resigned]) ty_35 rfl rfl rfl rfl rfl rfl rfl rfl) ?_
          rintro _ _ _ ⟨rfl, rfl⟩ _
          refine JL.q (OpP.q (p_assign rfl)) ?_
          refine JL.nil ?_
          refine Js.ret (R := RO w (Ty.tup [Ty.agg (cGame ((M.play g move).1)), Ty.int ((M.play g move).2)])) @Try.results86 (fun _ _ => rfl) (ResOk.cell (res_box (i := 10) ty_35 rfl rfl rfl rfl rfl) (ResOk.tmp rfl ResOk.nil)) (fun w1 hw => ?_)
          have hx := hw.ext (x36)
          exact ret_own (ps := [(2, (Value.ownBlock (.slice A17 g.start.pits.length c17)).toList), (3, (Value.ownBlock (.slice A18 g.start.stores.length c18)).toList), (4, (Value.ownBlock (.slice A27 ((g.moves ++ [move]).length) c27)).toList), (8, (Value.ownBlock (.slice A10 (((((M.make g.rules g.now move).1).next).pits).length) c10)).toList), (9, (Value.ownBlock (.slice A11 (((((M.make g.rules g.now move).1).next).stores).length) c11)).toList)]) hw hx ⟨_, rfl, ⟨_, _, rfl, ⟨_, rfl, ⟨_, _, rfl, ⟨by first | (rw [hE]; done) | (rw [hE]; rfl), rfl⟩, ⟨_, _, rfl, ⟨by first | (rw [hE]; done) | (rw [hE]; rfl), rfl⟩, ⟨_, _, rfl, ⟨by first | (rw [hE]; done) | (rw [hE]; rfl), rfl⟩, ⟨_, _, rfl, ⟨by first | (rw [hE]; done) | (rw [hE]; rfl), rfl⟩, ⟨_, _, rfl, ⟨by first | (rw [hE]; done) | (rw [hE]; rfl), rfl⟩, ⟨_, _, rfl, ⟨by first | (rw [hE]; done) | (rw [hE]; rfl), rfl⟩, ⟨_, _, rfl, ⟨by first | (rw [hE]; done) | (rw [hE]; rfl), rfl⟩, ⟨_, _, rfl, ⟨by first | (rw [hE]; done) | (rw [hE]; rfl), rfl⟩, ⟨_, _, rfl, ⟨by first | (rw [hE]; done) | (rw [hE]; rfl), rfl⟩, ⟨_, _, rfl, (ints_row (xs := g.start.pits) (hw.pr (i := 2) rfl) (show g.start.pits = (((M.play g move).1).start).pits by first | (rw [hE]; done) | (rw [hE]; rfl))), ⟨_, _, rfl, (ints_row (xs := g.start.stores) (hw.pr (i := 3) rfl) (show g.start.stores = (((M.play g move).1).start).stores by first | (rw [hE]; done) | (rw [hE]; rfl))), ⟨_, _, rfl, ⟨by first | (rw [hE]; done) | (rw [hE]; rfl), rfl⟩, ⟨_, _, rfl, (ints_row (xs := (g.moves ++ [move])) (hw.pr (i := 4) rfl) (show g.moves ++ [move] = ((M.play g move).1).moves by first | (rw [hE]; done) | (rw [hE]; rfl))), ⟨_, _, rfl, (ints_row (xs := ((((M.make g.rules g.now move).1).next).pits)) (hw.pr (i := 8) rfl) (show (((M.make g.rules g.now move).1).next).pits = (((M.play g move).1).now).pits by first | (rw [hE]; done) | (rw [hE]; rfl))), ⟨_, _, rfl, (ints_row (xs := ((((M.make g.rules g.now move).1).next).stores)) (hw.pr (i := 9) rfl) (show (((M.make g.rules g.now move).1).next).stores = (((M.play g move).1).now).stores by first | (rw [hE]; done) | (rw [hE]; rfl))), ⟨_, _, rfl, ⟨by first | (rw [hE]; done) | (rw [hE]; rfl), rfl⟩, ⟨_, _, rfl, ⟨by first | (rw [hE]; done) | (rw [hE]; rfl), rfl⟩, rfl⟩⟩⟩⟩⟩⟩⟩⟩⟩⟩⟩⟩⟩⟩⟩⟩⟩⟩, ⟨_, _, rfl, ⟨by first | (rw [hE]; done) | (rw [hE]; rfl), rfl⟩, rfl⟩⟩⟩ (Pick.cons (j := 2) rfl (List.sublist_append_left _ _) rfl (Pick.cons (j := 3) rfl (List.sublist_append_left _ _) rfl (Pick.cons (j := 4) rfl (List.sublist_append_left _ _) rfl (Pick.cons (j := 8) rfl (List.sublist_append_left _ _) rfl (Pick.cons (j := 9) rfl (List.sublist_append_left _ _) rfl Pick.nil))))) (by simp [List.flatten, outV])

end Go.Proofs.Ytejnmechnhgmfaa

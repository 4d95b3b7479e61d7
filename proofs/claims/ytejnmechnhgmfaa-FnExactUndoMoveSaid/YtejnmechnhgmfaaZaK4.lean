/- Walks: K4. -/
import Derived.Test.YtejnmechnhgmfaaZaTy
import Derived.Test.YtejnmechnhgmfaaZaK3
set_option linter.unusedSimpArgs false
set_option linter.unusedVariables false
namespace Go.Proofs.Ytejnmechnhgmfaa
open Go.RowKit

set_option maxRecDepth 100000 in
set_option maxHeartbeats 400000 in
theorem c_spec_l08Run (r : M.Rul) (v_r : Value) (p : M.Pos) (v_p : Value) (moves : List Int) (v_moves : Value) (w : World) (h_r : (Ty.ref (cRules r)).ok w v_r) (h_p : (Ty.ref (cPosition p)).ok w v_p) (h_moves : (Ty.ints 2 moves).ok w v_moves) (r0 : p.pits.length ≤ 4194304) (r1 : p.stores.length ≤ 4194304) (r2 : moves.length ≤ 4194304) : Ret Try.prog 75 [v_r, v_p, v_moves] w (Ty.tup [Ty.sl 33 3 (M.hist p (M.runs r p moves)).length (lPosition (M.hist p (M.runs r p moves))), Ty.ints 2 (M.gains (M.runs r p moves))]) := by
  obtain ⟨b1, o1, rfl, hr1⟩ := ref_Rules h_r
  obtain ⟨b2, o2, A2_0, c2_0, A2_1, c2_1, rfl, hr2, h2_0, h2_1, bl2_0, bh2_0, bl2_1, bh2_1⟩ := ref_Position h_p
  obtain ⟨A3, c3, rfl, bl3, bh3⟩ := sl_form h_moves
  refine enter @Try.func75 @Try.ntmps75 rfl rfl ?_
  refine Js.seq ?_
  refine Js.region ?_
  refine JL.q (OpP.q (p_assign rfl)) ?_
  refine JL.q (OpP.q (p_assign rfl)) ?_
  refine JL.nil ?_
  refine Js.seq ?_
  refine Js.region ?_
  refine JL.q (OpP.q (p_move rfl)) ?_
  refine JL.e (e_callO fn_81 rfl (Spl_Position _) (fun w hw => c_spec_l04Own p _ w ⟨_, _, [.slice A2_0 p.pits.length c2_0, .slice A2_1 p.stores.length c2_1, .int .i64 p.player], rfl, ⟨(Ty.mono _ h2_0 hw.vis), (Ty.mono _ h2_1 hw.vis), rfl, trivial⟩, (hr2.vis hw.vis)⟩ (by omega) (by omega))) ?_
  rintro v4 _ _ ⟨_, hR5, rfl, rfl⟩ _
  obtain ⟨A6_0, c6_0, A6_1, c6_1, f6, rfl, rfl, bl6_0, bh6_0, bl6_1, bh6_1⟩ := hR5
  refine JL.e (e_buildSlice (vs := [.slice A6_0 p.pits.length c6_0, .slice A6_1 p.stores.length c6_1, .int .i64 p.player]) el_44 rfl rfl rfl rfl rfl rfl) ?_
  rintro _ _ _ ⟨b7, rfl, rfl, hl8, rfl⟩ _
  refine JL.q (OpP.q (p_assign rfl)) ?_
  refine JL.nil ?_
  refine Js.seq ?_
  refine Js.region ?_
  refine JL.e (e_buildSlice (vs := []) el_24 rfl rfl rfl rfl rfl rfl) ?_
  rintro _ _ _ ⟨b9, rfl, rfl, hl10, rfl⟩ _
  refine JL.q (OpP.q (p_assign rfl)) ?_
  refine JL.nil ?_
  refine Js.seq ?_
  refine Js.region ?_
  refine JL.q (OpP.q (p_move rfl)) ?_
  refine JL.e (e_callP fn_81 rfl (fun w hw => c_spec_l04Own p _ w ⟨_, _, [.slice A2_0 p.pits.length c2_0, .slice A2_1 p.stores.length c2_1, .int .i64 p.player], rfl, ⟨(Ty.mono _ h2_0 hw.vis), (Ty.mono _ h2_1 hw.vis), rfl, trivial⟩, (hr2.vis hw.vis)⟩ (by omega) (by omega))) ?_
  rintro v11 _ u13 ⟨h12, rfl⟩ x13
  obtain ⟨A14_0, c14_0, A14_1, c14_1, rfl, h14_0, h14_1, bl14_0, bh14_0, bl14_1, bh14_1⟩ := open_Position h12
  refine JL.e (e_alloc zero_33) ?_
  rintro _ _ _ ⟨b15, rfl, rfl, rfl⟩ _
  refine JL.s (e_store (i := 0) (c' := [.slice A14_0 p.pits.length c14_0, .slice A14_1 p.stores.length c14_1, .int .i64 p.player]) ty_33 rfl rfl rfl rfl rfl rfl rfl rfl) ?_
  rintro _ _ _ ⟨rfl, rfl⟩ _
  refine JL.nil ?_
  refine Js.seq ?_
  refine Js.seq ?_
  refine Js.region ?_
  refine JL.q (OpP.q (p_assign rfl)) ?_
  refine JL.nil ?_
  refine Js.block ?_
  refine Js.vals (Ts := lPosition []) (vs := []) (fun w => rfl) ?_
  refine Js.joinL (i := 0) (j := 3) (Vs := lPosition ([] ++ [p])) rfl rfl (lPosition_snoc _ _) (fun f18 => ?_)
  refine Js.loop (fun l os u m => ∃ (k : Nat) (now : M.Pos) (made : List M.Res) (out : List M.Pos) (gains : List Int) (A16_8 : Option Addr) (c16_8 : Nat) (g16_8 : List Nat) (vs16_8 : List Value) (fl16_8 : List Nat) (A16_9 : Option Addr) (c16_9 : Nat) (g16_9 : List Nat) (A16_10_0 : Option Addr) (c16_10_0 : Nat) (A16_10_1 : Option Addr) (c16_10_1 : Nat), l = [(0, .pointer (some ⟨b1, o1, none⟩)), (2, .slice A3 moves.length c3), (8, .slice A16_8 out.length c16_8), (9, .slice A16_9 gains.length c16_9), (10, .pointer (some ⟨b15, 0, none⟩)), (11, .int .i64 (k : Int))] ∧ os = [ownC (lPosition out) vs16_8 fl16_8, boxO b15 [.slice A16_10_0 now.pits.length c16_10_0, .slice A16_10_1 now.stores.length c16_10_1, .int .i64 now.player] 33, rowO 2 1 (.slice A16_9 gains.length c16_9) gains.length (ints_ gains) g16_9, rowO 33 3 (.slice A16_8 out.length c16_8) out.length vs16_8 g16_8] ∧ Up w.heap.size u13 u ∧ (M.Run r p moves k now made) ∧ (out = M.hist p made) ∧ (gains = M.gains made) ∧ (now.pits.length ≤ 4194304) ∧ (now.stores.length ≤ 4194304) ∧ (out.length ≤ c16_8) ∧ (c16_8 ≤ 9223372036854775807) ∧ (gains.length ≤ c16_9) ∧ (c16_9 ≤ 9223372036854775807) ∧ ((Ty.ints 2 now.pits).ok u (.slice A16_10_0 now.pits.length c16_10_0)) ∧ (now.pits.length ≤ c16_10_0) ∧ (c16_10_0 ≤ 9223372036854775807) ∧ ((Ty.ints 2 now.stores).ok u (.slice A16_10_1 now.stores.length c16_10_1)) ∧ (now.stores.length ≤ c16_10_1) ∧ (c16_10_1 ≤ 9223372036854775807) ∧ m = moves.length - k) ⟨0, p, [], [p], [], _, _, _, _, _, _, _, _, _, _, _, _, rfl, rfl, Up.refl _ _, by exact M.Run.zero _ _ _, by rfl, by rfl, by first | assumption | omega | rfl | (simp; done), by first | assumption | omega | rfl | (simp; done), by first | omega | (simp only [List.length_append, List.length_cons, List.length_nil] <;> omega), by first | omega | (simp only [List.length_append, List.length_cons, List.length_nil] <;> omega), by first | omega | (simp only [List.length_append, List.length_cons, List.length_nil] <;> omega), by first | omega | (simp only [List.length_append, List.length_cons, List.length_nil] <;> omega), h14_0, by first | omega | (simp only [List.length_append, List.length_cons, List.length_nil] <;> omega), by first | omega | (simp only [List.length_append, List.length_cons, List.length_nil] <;> omega), h14_1, by first | omega | (simp only [List.length_append, List.length_cons, List.length_nil] <;> omega), by first | omega | (simp only [List.length_append, List.length_cons, List.length_nil] <;> omega), rfl⟩ ⟨rfl, rfl, rfl, rfl, rfl, rfl, trivial⟩ ?_
  · rintro _ _ u16 _ ⟨k, now, made, out, gains, A16_8, c16_8, g16_8, vs16_8, fl16_8, A16_9, c16_9, g16_9, A16_10_0, c16_10_0, A16_10_1, c16_10_1, rfl, rfl, x16, hR, hO, hGn, n0, n1, f16_5, f16_6, f16_7, f16_8, f16_9, f16_10, f16_11, f16_12, f16_13, f16_14, rfl⟩
    have hl1 := hR.len
    have hl3 := hR.le
    have hlO : out.length = made.length + 1 := by rw [hO]; simp
    have hlG : gains.length = made.length := by rw [hGn]; simp [M.gains]
    refine Js.seq ?_
    refine Js.seq ?_
    refine Js.region ?_
    refine JL.q (OpP.q (p_move rfl)) ?_
    refine JL.q (OpP.q (p_move rfl)) ?_
    refine JL.q (OpP.q (p_len el_24 rfl)) ?_
    refine JL.q (OpP.q (p_lss rfl rfl)) ?_
    refine JL.nil ?_
    refine Js.cond rfl (fun h19 => ?_) (fun h19 => ?_)
    ·
      have h19' := h19
      try simp only [decide_eq_true_eq] at h19'
      refine Js.skip ?_
      refine Js.seq ?_
      refine Js.block ?_
      refine Js.seq ?_
      refine Js.region ?_
      refine JL.q (OpP.q (p_move rfl)) ?_
      refine JL.q (OpP.q (p_move rfl)) ?_
      refine JL.q (OpP.q (p_move rfl)) ?_
      obtain ⟨b20, o20, he20, hc20⟩ := ints_elem (Ty.mono _ h_moves (x13.vis.trans x16.vis)) (i := k) (by omega)
      refine JL.q (OpP.q (p_indexAddr el_24 rfl rfl (by omega) (by omega) he20)) ?_
      refine JL.q (q_load1 ty_2 rfl (Mem.pub hc20)) ?_
      refine JL.e (e_callP fn_105 rfl (fun w hw => c_spec_l07Make r _ now _ (M.nth moves k) w ⟨_, _, [.int .i64 r.pits, .int .i64 r.seeds, .bool r.stores, .bool r.skip, .bool r.relay, .bool r.feed, .bool r.again, .int .i64 r.capture, .int .i64 r.slam], rfl, ⟨rfl, rfl, rfl, rfl, rfl, rfl, rfl, rfl, rfl, trivial⟩, (hr1.vis ((x13.vis.trans x16.vis).trans hw.vis))⟩ ⟨_, _, [.slice A16_10_0 now.pits.length c16_10_0, .slice A16_10_1 now.stores.length c16_10_1, .int .i64 now.player], rfl, ⟨(Ty.mono _ f16_9 hw.vis), (Ty.mono _ f16_12 hw.vis), rfl, trivial⟩, Mem.boxR (i := 1) rfl 0 3 w hw⟩ (by omega) (by omega))) ?_
      rintro v21 _ u23 ⟨h22, rfl⟩ x23
      obtain ⟨vs24, rfl, hv24⟩ := h22
      obtain ⟨v24_0, vs24, rfl, hw24_0, hv24⟩ := cellsOk_cons hv24
      obtain ⟨v24_1, vs24, rfl, hw24_1, hv24⟩ := cellsOk_cons hv24
      obtain rfl := cellsOk_nil hv24
      obtain ⟨A25_3, c25_3, A25_4, c25_4, rfl, h25_3, h25_4, bl25_3, bh25_3, bl25_4, bh25_4⟩ := open_Result hw24_0
      obtain rfl : v24_1 = .int .i64 ((M.make r now (M.nth moves k)).2) := hw24_1
      refine JL.q (OpP.q (p_move rfl)) ?_
      refine JL.q (OpP.q (p_extract rfl rfl)) ?_
      refine JL.q (OpP.q (p_extract rfl rfl)) ?_
      refine JL.e (e_alloc zero_84) ?_
      rintro _ _ _ ⟨b26, rfl, rfl, rfl⟩ _
      refine JL.s (e_store (i := 0) (c' := [.int .i64 (((M.make r now (M.nth moves k)).1).move), .int .i64 (((M.make r now (M.nth moves k)).1).gain), .bool (((M.make r now (M.nth moves k)).1).again), .slice A25_3 (((((M.make r now (M.nth moves k)).1).next).pits).length) c25_3, .slice A25_4 (((((M.make r now (M.nth moves k)).1).next).stores).length) c25_4, .int .i64 ((((M.make r now (M.nth moves k)).1).next).player)]) ty_84 rfl rfl rfl rfl rfl rfl rfl rfl) ?_
      rintro _ _ _ ⟨rfl, rfl⟩ _
      refine JL.q (OpP.q (p_assign rfl)) ?_
      refine JL.nil ?_
      refine Js.seq ?_
      refine Js.seq ?_
      refine Js.region ?_
      refine JL.q (OpP.q (p_move rfl)) ?_
      refine JL.q (OpP.q (p_neq rfl rfl)) ?_
      refine JL.nil ?_
      refine Js.cond rfl (fun h27 => ?_) (fun h27 => ?_)
      ·
        have h27' := h27
        try simp only [Bool.not_eq_true', decide_eq_false_iff_not] at h27'
        have hE := (hR.fail (by omega) (by simpa using h27)).1
        refine Js.seq ?_
        refine Js.region ?_
        refine JL.q (OpP.q (p_move rfl)) ?_
        refine JL.q (OpP.q (p_move rfl)) ?_
        refine JL.q (OpP.q (p_assign rfl)) ?_
        refine JL.q (OpP.q (p_assign rfl)) ?_
        refine JL.nil ?_
        refine Js.ret (R := RO w (Ty.tup [Ty.sl 33 3 (M.hist p (M.runs r p moves)).length (lPosition (M.hist p (M.runs r p moves))), Ty.ints 2 (M.gains (M.runs r p moves))])) @Try.results75 (fun _ _ => rfl) (ResOk.tmp rfl (ResOk.tmp rfl ResOk.nil)) (fun w1 hw => ?_)
        have hx := hw.ext (((x13.trans x16).trans x23))
        exact ret_own (ps := [(4, (Value.ownBlock (.slice A16_8 out.length c16_8)).toList), (1, fl16_8), (3, (Value.ownBlock (.slice A16_9 gains.length c16_9)).toList)]) hw hx ⟨_, rfl, ⟨_, _, rfl, (srow_own lPosition (hw.pr (i := 4) rfl) (hw.pr (i := 1) rfl) (lPosition_length _) (show out = M.hist p (M.runs r p moves) by first | (rw [hE]; exact hO) | (rw [hE]; exact hGn))), ⟨_, _, rfl, (ints_row (xs := gains) (hw.pr (i := 3) rfl) (show gains = M.gains (M.runs r p moves) by first | (rw [hE]; exact hO) | (rw [hE]; exact hGn))), rfl⟩⟩⟩ (Pick.cons (j := 4) rfl (List.sublist_append_left _ _) rfl (Pick.cons (j := 1) rfl (List.Sublist.refl _) rfl (Pick.cons (j := 3) rfl (List.sublist_append_left _ _) rfl Pick.nil))) (by simp [List.flatten, outV])
      ·
        have h27' := h27
        try simp only [Bool.not_eq_false', decide_eq_true_eq] at h27'
        have hm : (M.make r now (M.nth moves k)).2 = 0 := by simpa using h27
        have hR2 := hR.step (by omega) hm
        have hl2 := M.okP_len (M.make_ok hm).2.2.2.1
        refine Js.skip ?_
        refine Js.seq ?_
        refine Js.region ?_
        refine JL.q (OpP.q (p_fieldAddr fld_84_3 rfl)) ?_
        refine JL.q (q_loadN ty_33 rfl (Mem.boxR (i := 0) rfl 3 3) rfl rfl) ?_
        refine JL.s (e_store (i := 2) (c' := [.slice A25_3 (((((M.make r now (M.nth moves k)).1).next).pits).length) c25_3, .slice A25_4 (((((M.make r now (M.nth moves k)).1).next).stores).length) c25_4, .int .i64 ((((M.make r now (M.nth moves k)).1).next).player)]) ty_33 rfl rfl rfl rfl rfl rfl rfl rfl) ?_
        rintro _ _ _ ⟨rfl, rfl⟩ _
        refine JL.nil ?_
        refine Js.seq ?_
        refine Js.region ?_
        refine JL.q (OpP.q (p_move rfl)) ?_
        refine JL.e (e_callO fn_81 rfl (Spl_Position _) (fun w hw => c_spec_l04Own (((M.make r now (M.nth moves k)).1).next) _ w ⟨_, _, [.slice A25_3 (((((M.make r now (M.nth moves k)).1).next).pits).length) c25_3, .slice A25_4 (((((M.make r now (M.nth moves k)).1).next).stores).length) c25_4, .int .i64 ((((M.make r now (M.nth moves k)).1).next).player)], rfl, ⟨(Ty.mono _ h25_3 hw.vis), (Ty.mono _ h25_4 hw.vis), rfl, trivial⟩, Mem.boxR (i := 2) rfl 0 3 w hw⟩ (by omega) (by omega))) ?_
        rintro v28 _ _ ⟨_, hR29, rfl, rfl⟩ _
        obtain ⟨A30_0, c30_0, A30_1, c30_1, f30, rfl, rfl, bl30_0, bh30_0, bl30_1, bh30_1⟩ := hR29
        refine JL.e (e_buildSlice (vs := [.slice A30_0 (((((M.make r now (M.nth moves k)).1).next).pits).length) c30_0, .slice A30_1 (((((M.make r now (M.nth moves k)).1).next).stores).length) c30_1, .int .i64 ((((M.make r now (M.nth moves k)).1).next).player)]) el_44 rfl rfl rfl rfl rfl rfl) ?_
        rintro _ _ _ ⟨b31, rfl, rfl, hl32, rfl⟩ _
        refine JL.e (e_append (i := 6) (n' := (out ++ [(((M.make r now (M.nth moves k)).1).next)]).length) (vs' := vs16_8 ++ [.slice A30_0 (((((M.make r now (M.nth moves k)).1).next).pits).length) c30_0, .slice A30_1 (((((M.make r now (M.nth moves k)).1).next).stores).length) c30_1, .int .i64 ((((M.make r now (M.nth moves k)).1).next).player)]) el_44 rfl rfl rfl rfl (src_row (i := 0) und_44 rfl rfl) (by omega) (by omega) (by first | omega | (simp only [List.length_append, List.length_cons, List.length_nil] <;> omega)) (rfl)) ?_
        rintro v33 _ _ ⟨⟨g34, rfl⟩, rfl⟩ _
        refine JL.fact (row_form' (i := 6) rfl) (fun hf35 => ?_)
        obtain ⟨A35, c35, rfl, bl35, bh35⟩ := hf35
        refine JL.q (OpP.q (p_assign rfl)) ?_
        refine JL.nil ?_
        refine Js.joinL (i := 3) (j := 1) (Vs := lPosition (out ++ [(((M.make r now (M.nth moves k)).1).next)])) rfl rfl (lPosition_snoc _ _) (fun f37 => ?_)
        refine Js.region ?_
        refine JL.q (OpP.q (p_move rfl)) ?_
        refine JL.q (OpP.q (p_fieldAddr fld_84_1 rfl)) ?_
        refine JL.q (q_load1 ty_2 rfl (Mem.box (i := 2) rfl rfl)) ?_
        refine JL.e (e_buildSlice (vs := [.int .i64 (((M.make r now (M.nth moves k)).1).gain)]) el_24 rfl rfl rfl rfl rfl rfl) ?_
        rintro _ _ _ ⟨b38, rfl, rfl, hl39, rfl⟩ _
        refine JL.e (e_append (i := 5) (n' := (gains ++ [(((M.make r now (M.nth moves k)).1).gain)]).length) (vs' := ints_ (gains ++ [(((M.make r now (M.nth moves k)).1).gain)])) el_24 rfl rfl rfl rfl (src_row (i := 0) und_24 rfl rfl) (by omega) (by omega) (by first | omega | (simp only [List.length_append, List.length_cons, List.length_nil] <;> omega)) (by simp [ints_])) ?_
        rintro v40 _ _ ⟨⟨g41, rfl⟩, rfl⟩ _
        refine JL.fact (row_form' (i := 5) rfl) (fun hf42 => ?_)
        obtain ⟨A42, c42, rfl, bl42, bh42⟩ := hf42
        refine JL.q (OpP.q (p_assign rfl)) ?_
        refine JL.nil ?_
        refine Js.blockEnd ?_
        refine Js.region ?_
        refine JL.q (OpP.q (p_move rfl)) ?_
        refine JL.q (OpP.q (p_add rfl rfl (IntWalk.i64_in _ (by omega)))) ?_
        refine JL.q (OpP.q (p_assign rfl)) ?_
        refine JL.nil ?_
        refine Js.drop (i := 0) rfl rfl (fun u43 x43 => ?_)
        refine Js.drop (i := 1) rfl rfl (fun u44 x44 => ?_)
        refine Js.drop (i := 1) rfl rfl (fun u45 x45 => ?_)
        exact Js.again ⟨k + 1, (((M.make r now (M.nth moves k)).1).next), made ++ [(M.make r now (M.nth moves k)).1], out ++ [(((M.make r now (M.nth moves k)).1).next)], gains ++ [(((M.make r now (M.nth moves k)).1).gain)], _, _, _, _, _, _, _, _, _, _, _, _, rfl, rfl, ((((x16.trans x23).trans x43).trans x44).trans x45), by exact hR2, by rw [hO]; exact (M.hist_snoc _ _ _).symm, by rw [hGn]; simp [M.gains], by exact hl2.1, by exact hl2.2, by first | omega | (simp only [List.length_append, List.length_cons, List.length_nil] <;> omega), by first | omega | (simp only [List.length_append, List.length_cons, List.length_nil] <;> omega), by first | omega | (simp only [List.length_append, List.length_cons, List.length_nil] <;> omega), by first | omega | (simp only [List.length_append, List.length_cons, List.length_nil] <;> omega), (Ty.mono _ h25_3 ((x43.vis.trans x44.vis).trans x45.vis)), by first | omega | (simp only [List.length_append, List.length_cons, List.length_nil] <;> omega), by first | omega | (simp only [List.length_append, List.length_cons, List.length_nil] <;> omega), (Ty.mono _ h25_4 ((x43.vis.trans x44.vis).trans x45.vis)), by first | omega | (simp only [List.length_append, List.length_cons, List.length_nil] <;> omega), by first | omega | (simp only [List.length_append, List.length_cons, List.length_nil] <;> omega), rfl⟩ (by omega) ⟨rfl, rfl, rfl, rfl, rfl, rfl, trivial⟩
    ·
      have h19' := h19
      try simp only [decide_eq_false_iff_not, Int.not_lt] at h19'
      have hE := (hR.done (by have := h19'; omega)).1
      refine Js.exit (fun _ _ => rfl) ?_
      refine Js.seq ?_
      refine Js.region ?_
      refine JL.q (OpP.q (p_move rfl)) ?_
      refine JL.q (OpP.q (p_move rfl)) ?_
      refine JL.q (OpP.q (p_assign rfl)) ?_
      refine JL.q (OpP.q (p_assign rfl)) ?_
      refine JL.nil ?_
      refine Js.ret (R := RO w (Ty.tup [Ty.sl 33 3 (M.hist p (M.runs r p moves)).length (lPosition (M.hist p (M.runs r p moves))), Ty.ints 2 (M.gains (M.runs r p moves))])) @Try.results75 (fun _ _ => rfl) (ResOk.tmp rfl (ResOk.tmp rfl ResOk.nil)) (fun w1 hw => ?_)
      have hx := hw.ext ((x13.trans x16))
      exact ret_own (ps := [(3, (Value.ownBlock (.slice A16_8 out.length c16_8)).toList), (0, fl16_8), (2, (Value.ownBlock (.slice A16_9 gains.length c16_9)).toList)]) hw hx ⟨_, rfl, ⟨_, _, rfl, (srow_own lPosition (hw.pr (i := 3) rfl) (hw.pr (i := 0) rfl) (lPosition_length _) (show out = M.hist p (M.runs r p moves) by first | (rw [hE]; exact hO) | (rw [hE]; exact hGn))), ⟨_, _, rfl, (ints_row (xs := gains) (hw.pr (i := 2) rfl) (show gains = M.gains (M.runs r p moves) by first | (rw [hE]; exact hO) | (rw [hE]; exact hGn))), rfl⟩⟩⟩ (Pick.cons (j := 3) rfl (List.sublist_append_left _ _) rfl (Pick.cons (j := 0) rfl (List.Sublist.refl _) rfl (Pick.cons (j := 2) rfl (List.sublist_append_left _ _) rfl Pick.nil))) (by simp [List.flatten, outV])

set_option maxRecDepth 100000 in
set_option maxHeartbeats 400000 in
theorem c_spec_l08Ok (g : M.Gam) (v_g : Value) (w : World) (h_g : (Ty.ref (cGame g)).ok w v_g) (r0 : g.start.pits.length ≤ 4194304) (r1 : g.start.stores.length ≤ 4194304) (r2 : g.moves.length ≤ 4194304) (r3 : g.now.pits.length ≤ 4194304) (r4 : g.now.stores.length ≤ 4194304) : RetV Try.prog 68 [v_g] w (.bool (M.okG g)) := by
  obtain ⟨b1, o1, A1_9, c1_9, A1_10, c1_10, A1_12, c1_12, A1_13, c1_13, A1_14, c1_14, rfl, hr1, h1_9, h1_10, h1_12, h1_13, h1_14, bl1_9, bh1_9, bl1_10, bh1_10, bl1_12, bh1_12, bl1_13, bh1_13, bl1_14, bh1_14⟩ := ref_Game h_g
  refine enter @Try.func68 @Try.ntmps68 rfl rfl ?_
  refine Js.seq ?_
  refine Js.region ?_
  refine JL.q (OpP.q (p_assign rfl)) ?_
  refine JL.nil ?_
  refine Js.seq ?_
  refine Js.seq ?_
  refine Js.drawn _ [] mixed_ (fun _ h => h) ?_
  refine JH.p 0 rfl (p_move rfl) ?_
  refine JH.p 1 rfl (p_nilCheck rfl) ?_
  refine JH.p 2 rfl (p_fieldAddr fld_35_0 rfl) ?_
  refine JH.p 3 rfl (p_move rfl) ?_
  refine JH.p 4 rfl (p_nilCheck rfl) ?_
  refine JH.p 5 rfl (p_fieldAddr fld_35_1 rfl) ?_
  refine JH.one (i := 6) (by kernel_rfl) ?_
  refine JHo.e rfl (e_callV fn_103 rfl (fun w hw => c_spec_l04Ok g.rules _ g.start _ w ⟨_, _, [.int .i64 g.rules.pits, .int .i64 g.rules.seeds, .bool g.rules.stores, .bool g.rules.skip, .bool g.rules.relay, .bool g.rules.feed, .bool g.rules.again, .int .i64 g.rules.capture, .int .i64 g.rules.slam], rfl, ⟨rfl, rfl, rfl, rfl, rfl, rfl, rfl, rfl, rfl, trivial⟩, ((hr1.vis hw.vis).sub 0 9)⟩ ⟨_, _, [.slice A1_9 g.start.pits.length c1_9, .slice A1_10 g.start.stores.length c1_10, .int .i64 g.start.player], rfl, ⟨(Ty.mono _ h1_9 hw.vis), (Ty.mono _ h1_10 hw.vis), rfl, trivial⟩, ((hr1.vis hw.vis).sub 9 3)⟩ (by omega) (by omega))) (.inl rfl) ?_
  rintro _ _ _ ⟨rfl, rfl, rfl⟩ _
  refine JH.p 7 rfl (p_not rfl) ?_
  refine JH.p 8 rfl (p_move rfl) ?_
  refine JH.pg 9 rfl (Gd.f1 rfl rfl rfl) (fun hc => p_move rfl) ?_
  refine JH.pg 10 rfl (Gd.f1 rfl rfl rfl) (fun hc => p_nilCheck (gvt rfl hc)) ?_
  refine JH.pg 11 rfl (Gd.f1 rfl rfl rfl) (fun hc => p_fieldAddr fld_35_2 (gvt rfl hc)) ?_
  refine JH.wg 12 rfl (Gd.f1 rfl rfl rfl) (fun hc os' u' hv => q_load1 ty_24 (gvt rfl hc) (Mem.pub ((hr1.vis hv) 12 _ rfl))) ?_
  refine JH.pg 13 rfl (Gd.f1 rfl rfl rfl) (fun hc => p_len el_24 (gvt rfl hc)) ?_
  refine JH.pg 14 rfl (Gd.f1 rfl rfl rfl) (fun hc => p_gtr (gvt rfl hc) rfl) ?_
  refine JH.p 15 rfl (p_pickOr rfl rfl rfl) ?_
  refine JH.p 16 rfl (p_move rfl) ?_
  refine JH.pg 17 rfl (Gd.f1 rfl rfl rfl) (fun hc => p_move rfl) ?_
  refine JH.pg 18 rfl (Gd.f1 rfl rfl rfl) (fun hc => p_nilCheck (gvt rfl hc)) ?_
  refine JH.pg 19 rfl (Gd.f1 rfl rfl rfl) (fun hc => p_fieldAddr fld_35_4 (gvt rfl hc)) ?_
  refine JH.wg 20 rfl (Gd.f1 rfl rfl rfl) (fun hc os' u' hv => q_load1 ty_2 (gvt rfl hc) (Mem.pub ((hr1.vis hv) 16 _ rfl))) ?_
  refine JH.one (i := 21) (by kernel_rfl) ?_
  refine JHo.ge rfl (Gd.f1 rfl rfl rfl) (fun hc => e_callV fn_76 (opds_3 (gvt rfl hc) rfl rfl) (fun w hw => c_spec_l00In g.resigned (-1) 1 w)) ?_
  refine JH.pg 22 rfl (Gd.f1 rfl rfl rfl) (fun hc => p_not (gvt rfl hc)) ?_
  refine JH.p 23 rfl (p_pickOr rfl rfl rfl) ?_
  refine JH.done (by kernel_rfl) ?_
  refine Js.cond rfl (fun h2 => ?_) (fun h2 => ?_)
  ·
    have h2' := h2
    try simp only [Bool.or_eq_true, Bool.not_eq_true', decide_eq_true_eq] at h2'
    refine Js.seq ?_
    refine Js.region ?_
    refine JL.q (OpP.q (p_assign rfl)) ?_
    refine JL.nil ?_
    refine Js.ret (R := RV w (.bool (M.okG g))) @Try.results68 (fun _ _ => rfl) (ResOk.tmp rfl ResOk.nil) (fun w1 hw => ?_)
    refine ⟨?_, hw.ext (Up.refl _ _)⟩
    exact congrArg (fun b => Ending.returned (.bool b)) (M.okG_no (by simpa [or_assoc] using h2)).symm
  ·
    have h2' := h2
    try simp only [Bool.or_eq_false_iff, Bool.not_eq_false', decide_eq_false_iff_not, Int.not_lt] at h2'
    have ho : M.okP g.rules g.start = true ∧ (g.moves.length : Int) ≤ 120 ∧ M.betw g.resigned (-1) 1 = true := by simpa [and_assoc] using h2
    have hl3 := M.okP_len (M.lastPos_ok _ _ ho.1 (M.runs_ok g.moves _ ho.1))
    have hrl := M.runs_len g.rules g.moves g.start
    have hhl := M.hist_length g.start (M.runs g.rules g.start g.moves)
    refine Js.skip ?_
    refine Js.seq ?_
    refine Js.drawn _ [] mixed_ (fun _ h => h) ?_
    refine JH.p 0 rfl (p_move rfl) ?_
    refine JH.p 1 rfl (p_nilCheck rfl) ?_
    refine JH.p 2 rfl (p_fieldAddr fld_35_0 rfl) ?_
    refine JH.p 3 rfl (p_move rfl) ?_
    refine JH.p 4 rfl (p_nilCheck rfl) ?_
    refine JH.p 5 rfl (p_fieldAddr fld_35_1 rfl) ?_
    refine JH.p 6 rfl (p_move rfl) ?_
    refine JH.p 7 rfl (p_nilCheck rfl) ?_
    refine JH.p 8 rfl (p_fieldAddr fld_35_2 rfl) ?_
    refine JH.w 9 rfl (fun os' u' hv => q_load1 ty_24 rfl (Mem.pub ((hr1.vis hv) 12 _ rfl))) ?_
    refine JH.one (i := 10) (by kernel_rfl) ?_
    refine JHo.e rfl (e_callP fn_75 rfl (fun w hw => c_spec_l08Run g.rules _ g.start _ g.moves _ w ⟨_, _, [.int .i64 g.rules.pits, .int .i64 g.rules.seeds, .bool g.rules.stores, .bool g.rules.skip, .bool g.rules.relay, .bool g.rules.feed, .bool g.rules.again, .int .i64 g.rules.capture, .int .i64 g.rules.slam], rfl, ⟨rfl, rfl, rfl, rfl, rfl, rfl, rfl, rfl, rfl, trivial⟩, ((hr1.vis hw.vis).sub 0 9)⟩ ⟨_, _, [.slice A1_9 g.start.pits.length c1_9, .slice A1_10 g.start.stores.length c1_10, .int .i64 g.start.player], rfl, ⟨(Ty.mono _ h1_9 hw.vis), (Ty.mono _ h1_10 hw.vis), rfl, trivial⟩, ((hr1.vis hw.vis).sub 9 3)⟩ (Ty.mono _ h1_12 hw.vis) (by omega) (by omega) (by omega))) (.inl rfl) ?_
    rintro v3 _ u5 ⟨h4, rfl⟩ x5
    obtain ⟨vs6, rfl, hv6⟩ := h4
    obtain ⟨v6_0, vs6, rfl, hw6_0, hv6⟩ := cellsOk_cons hv6
    obtain ⟨v6_1, vs6, rfl, hw6_1, hv6⟩ := cellsOk_cons hv6
    obtain rfl := cellsOk_nil hv6
    obtain ⟨A7, c7, rfl, bl7, bh7⟩ := sl_form hw6_0
    obtain ⟨A8, c8, rfl, bl8, bh8⟩ := sl_form hw6_1
    refine JH.p 11 rfl (p_move rfl) ?_
    refine JH.p 12 rfl (p_extract rfl rfl) ?_
    refine JH.p 13 rfl (p_extract rfl rfl) ?_
    refine JH.p 14 rfl (p_assign rfl) ?_
    refine JH.p 15 rfl (p_assign rfl) ?_
    refine JH.done (by kernel_rfl) ?_
    refine Js.seq ?_
    refine Js.drawn _ [] mixed_ (fun _ h => h) ?_
    refine JH.p 0 rfl (p_move rfl) ?_
    refine JH.p 1 rfl (p_len el_24 rfl) ?_
    refine JH.p 2 rfl (p_move rfl) ?_
    refine JH.p 3 rfl (p_nilCheck rfl) ?_
    refine JH.p 4 rfl (p_fieldAddr fld_35_2 rfl) ?_
    refine JH.w 5 rfl (fun os' u' hv => q_load1 ty_24 rfl (Mem.pub ((hr1.vis (x5.vis.trans hv)) 12 _ rfl))) ?_
    refine JH.p 6 rfl (p_len el_24 rfl) ?_
    refine JH.p 7 rfl (p_eql rfl rfl) ?_
    refine JH.p 8 rfl (p_move rfl) ?_
    refine JH.pg 9 rfl (Gd.t1 rfl rfl rfl) (fun hc => p_move rfl) ?_
    refine JH.pg 10 rfl (Gd.t1 rfl rfl rfl) (fun hc => p_move rfl) ?_
    refine JH.pg 11 rfl (Gd.t1 rfl rfl rfl) (fun hc => p_len el_44 (gvt rfl hc)) ?_
    refine JH.pg 12 rfl (Gd.t1 rfl rfl rfl) (fun hc => p_sub (gvt rfl hc) rfl (IntWalk.i64_in _ (by have hc9 := hc; (try simp only [decide_eq_true_eq] at hc9); omega))) ?_
    obtain ⟨y9, hy9⟩ : ∃ x, (M.hist g.start (M.runs g.rules g.start g.moves))[((((M.hist g.start (M.runs g.rules g.start g.moves)).length) : Int) - 1).toNat]? = some x := ⟨_, List.getElem?_eq_getElem (by omega)⟩
    obtain ⟨b9, o9, A9_0, c9_0, A9_1, c9_1, he9, hr9, h9_0, h9_1, bl9_0, bh9_0, bl9_1, bh9_1⟩ := elem_Position hw6_0 hy9
    refine JH.pg 13 rfl (Gd.t1 rfl rfl rfl) (fun hc => p_indexAddr el_44 (gvt rfl hc) (gvt rfl hc) (by omega) (by omega) he9) ?_
    refine JH.pg 14 rfl (Gd.t1 rfl rfl rfl) (fun hc => p_move rfl) ?_
    refine JH.pg 15 rfl (Gd.t1 rfl rfl rfl) (fun hc => p_nilCheck (gvt rfl hc)) ?_
    refine JH.pg 16 rfl (Gd.t1 rfl rfl rfl) (fun hc => p_fieldAddr fld_35_3 (gvt rfl hc)) ?_
    refine JH.one (i := 17) (by kernel_rfl) ?_
    refine JHo.ge rfl (Gd.t1 rfl rfl rfl) (fun hc => e_callV fn_97 (opds_2 (gvt rfl hc) (gvt rfl hc)) (fun w hw => c_spec_l04Same y9 _ g.now _ w ⟨_, _, [.slice A9_0 y9.pits.length c9_0, .slice A9_1 y9.stores.length c9_1, .int .i64 y9.player], rfl, ⟨(Ty.mono _ h9_0 hw.vis), (Ty.mono _ h9_1 hw.vis), rfl, trivial⟩, (hr9.vis hw.vis)⟩ ⟨_, _, [.slice A1_13 g.now.pits.length c1_13, .slice A1_14 g.now.stores.length c1_14, .int .i64 g.now.player], rfl, ⟨(Ty.mono _ h1_13 (x5.vis.trans hw.vis)), (Ty.mono _ h1_14 (x5.vis.trans hw.vis)), rfl, trivial⟩, ((hr1.vis (x5.vis.trans hw.vis)).sub 13 3)⟩ (M.last_len (M.hist_last g.start (M.runs g.rules g.start g.moves)) hy9 (by omega) hl3).1 (M.last_len (M.hist_last g.start (M.runs g.rules g.start g.moves)) hy9 (by omega) hl3).2 (by have hc9 := hc; (try simp only [decide_eq_true_eq] at hc9); omega) (by have hc9 := hc; (try simp only [decide_eq_true_eq] at hc9); omega))) ?_
    refine JH.p 18 rfl (p_pickAnd rfl rfl rfl) ?_
    refine JH.p 19 rfl (p_assign rfl) ?_
    refine JH.done (by kernel_rfl) ?_
    refine Js.ret (R := RV w (.bool (M.okG g))) @Try.results68 (fun _ _ => rfl) (ResOk.tmp rfl ResOk.nil) (fun w1 hw => ?_)
    refine ⟨?_, hw.ext (x5)⟩
    simp only [outV, M.gains_length]; rw [M.okG_spec ho.1 ho.2.1 ho.2.2 (by assumption) (by omega)]

set_option maxRecDepth 100000 in
set_option maxHeartbeats 400000 in
theorem c_spec_l08Repeats (g : M.Gam) (v_g : Value) (w : World) (h_g : (Ty.ref (cGame g)).ok w v_g) (r0 : g.start.pits.length ≤ 4194304) (r1 : g.start.stores.length ≤ 4194304) (r2 : g.moves.length ≤ 4194304) (r3 : g.now.pits.length ≤ 4194304) (r4 : g.now.stores.length ≤ 4194304) (r5 : M.okG g = true) : RetV Try.prog 69 [v_g] w (.int .i64 (M.count g.now (M.hist g.start (M.runs g.rules g.start g.moves)))) := by
  obtain ⟨k1, k2, k3, k4, k5, k6, k7, k8, k9⟩ := M.okG_parts r5
  have hhl := M.hist_length g.start (M.runs g.rules g.start g.moves)
  obtain ⟨b1, o1, A1_9, c1_9, A1_10, c1_10, A1_12, c1_12, A1_13, c1_13, A1_14, c1_14, rfl, hr1, h1_9, h1_10, h1_12, h1_13, h1_14, bl1_9, bh1_9, bl1_10, bh1_10, bl1_12, bh1_12, bl1_13, bh1_13, bl1_14, bh1_14⟩ := ref_Game h_g
  refine enter @Try.func69 @Try.ntmps69 rfl rfl ?_
  refine Js.seq ?_
  refine Js.region ?_
  refine JL.q (OpP.q (p_assign rfl)) ?_
  refine JL.nil ?_
  refine Js.seq ?_
  refine Js.drawn _ [] mixed_ (fun _ h => h) ?_
  refine JH.p 0 rfl (p_move rfl) ?_
  refine JH.p 1 rfl (p_nilCheck rfl) ?_
  refine JH.p 2 rfl (p_fieldAddr fld_35_0 rfl) ?_
  refine JH.p 3 rfl (p_move rfl) ?_
  refine JH.p 4 rfl (p_nilCheck rfl) ?_
  refine JH.p 5 rfl (p_fieldAddr fld_35_1 rfl) ?_
  refine JH.p 6 rfl (p_move rfl) ?_
  refine JH.p 7 rfl (p_nilCheck rfl) ?_
  refine JH.p 8 rfl (p_fieldAddr fld_35_2 rfl) ?_
  refine JH.w 9 rfl (fun os' u' hv => q_load1 ty_24 rfl (Mem.pub ((hr1.vis hv) 12 _ rfl))) ?_
  refine JH.one (i := 10) (by kernel_rfl) ?_
  refine JHo.e rfl (e_callP fn_75 rfl (fun w hw => c_spec_l08Run g.rules _ g.start _ g.moves _ w ⟨_, _, [.int .i64 g.rules.pits, .int .i64 g.rules.seeds, .bool g.rules.stores, .bool g.rules.skip, .bool g.rules.relay, .bool g.rules.feed, .bool g.rules.again, .int .i64 g.rules.capture, .int .i64 g.rules.slam], rfl, ⟨rfl, rfl, rfl, rfl, rfl, rfl, rfl, rfl, rfl, trivial⟩, ((hr1.vis hw.vis).sub 0 9)⟩ ⟨_, _, [.slice A1_9 g.start.pits.length c1_9, .slice A1_10 g.start.stores.length c1_10, .int .i64 g.start.player], rfl, ⟨(Ty.mono _ h1_9 hw.vis), (Ty.mono _ h1_10 hw.vis), rfl, trivial⟩, ((hr1.vis hw.vis).sub 9 3)⟩ (Ty.mono _ h1_12 hw.vis) (by omega) (by omega) (by omega))) (.inl rfl) ?_
  rintro v2 _ u4 ⟨h3, rfl⟩ x4
  obtain ⟨vs5, rfl, hv5⟩ := h3
  obtain ⟨v5_0, vs5, rfl, hw5_0, hv5⟩ := cellsOk_cons hv5
  obtain ⟨v5_1, vs5, rfl, hw5_1, hv5⟩ := cellsOk_cons hv5
  obtain rfl := cellsOk_nil hv5
  obtain ⟨A6, c6, rfl, bl6, bh6⟩ := sl_form hw5_0
  obtain ⟨A7, c7, rfl, bl7, bh7⟩ := sl_form hw5_1
  refine JH.p 11 rfl (p_move rfl) ?_
  refine JH.p 12 rfl (p_extract rfl rfl) ?_
  refine JH.p 13 rfl (p_extract rfl rfl) ?_
  refine JH.p 14 rfl (p_assign rfl) ?_
  refine JH.p 15 rfl (p_assign rfl) ?_
  refine JH.done (by kernel_rfl) ?_
  refine Js.seq ?_
  refine Js.region ?_
  refine JL.q (OpP.q (p_assign rfl)) ?_
  refine JL.nil ?_
  refine Js.seq ?_
  refine Js.seq ?_
  refine Js.region ?_
  refine JL.q (OpP.q (p_assign rfl)) ?_
  refine JL.nil ?_
  refine Js.block ?_
  refine Js.loop (fun l os u m => ∃ (k : Nat) (n : Int), l = [(0, .pointer (some ⟨b1, o1, none⟩)), (3, .slice A6 ((M.hist g.start (M.runs g.rules g.start g.moves)).length) c6), (5, .int .i64 n), (6, .int .i64 (k : Int))] ∧ os = [] ∧ Up w.heap.size u4 u ∧ (n = M.count g.now ((M.hist g.start (M.runs g.rules g.start g.moves)).take k)) ∧ (k ≤ (M.runs g.rules g.start g.moves).length + 1) ∧ (0 ≤ n) ∧ (n ≤ k) ∧ m = (M.runs g.rules g.start g.moves).length + 1 - k) ⟨0, 0, rfl, rfl, Up.refl _ _, by rfl, by first | assumption | omega | rfl | (simp; done), by first | assumption | omega | rfl | (simp; done), by first | assumption | omega | rfl | (simp; done), rfl⟩ ⟨rfl, rfl, rfl, rfl, trivial⟩ ?_
  · rintro _ _ u8 _ ⟨k, n, rfl, rfl, x8, hn, hk, n0, n1, rfl⟩
    refine Js.seq ?_
    refine Js.seq ?_
    refine Js.region ?_
    refine JL.q (OpP.q (p_move rfl)) ?_
    refine JL.q (OpP.q (p_move rfl)) ?_
    refine JL.q (OpP.q (p_len el_44 rfl)) ?_
    refine JL.q (OpP.q (p_lss rfl rfl)) ?_
    refine JL.nil ?_
    refine Js.cond rfl (fun h9 => ?_) (fun h9 => ?_)
    ·
      have h9' := h9
      try simp only [decide_eq_true_eq] at h9'
      refine Js.skip ?_
      refine Js.seq ?_
      refine Js.block ?_
      refine Js.seq ?_
      refine Js.drawn _ [] mixed_ (fun _ h => h) ?_
      refine JH.p 0 rfl (p_move rfl) ?_
      refine JH.p 1 rfl (p_move rfl) ?_
      obtain ⟨y10, hy10⟩ : ∃ x, (M.hist g.start (M.runs g.rules g.start g.moves))[k]? = some x := ⟨_, List.getElem?_eq_getElem (by omega)⟩
      obtain ⟨b10, o10, A10_0, c10_0, A10_1, c10_1, he10, hr10, h10_0, h10_1, bl10_0, bh10_0, bl10_1, bh10_1⟩ := elem_Position (Ty.mono _ hw5_0 x8.vis) hy10
      refine JH.p 2 rfl (p_indexAddr el_44 rfl rfl (by omega) (by omega) he10) ?_
      refine JH.p 3 rfl (p_move rfl) ?_
      refine JH.p 4 rfl (p_nilCheck rfl) ?_
      refine JH.p 5 rfl (p_fieldAddr fld_35_3 rfl) ?_
      refine JH.one (i := 6) (by kernel_rfl) ?_
      refine JHo.e rfl (e_callV fn_97 rfl (fun w hw => c_spec_l04Same y10 _ g.now _ w ⟨_, _, [.slice A10_0 y10.pits.length c10_0, .slice A10_1 y10.stores.length c10_1, .int .i64 y10.player], rfl, ⟨(Ty.mono _ h10_0 hw.vis), (Ty.mono _ h10_1 hw.vis), rfl, trivial⟩, (hr10.vis hw.vis)⟩ ⟨_, _, [.slice A1_13 g.now.pits.length c1_13, .slice A1_14 g.now.stores.length c1_14, .int .i64 g.now.player], rfl, ⟨(Ty.mono _ h1_13 ((x4.vis.trans x8.vis).trans hw.vis)), (Ty.mono _ h1_14 ((x4.vis.trans x8.vis).trans hw.vis)), rfl, trivial⟩, ((hr1.vis ((x4.vis.trans x8.vis).trans hw.vis)).sub 13 3)⟩ (M.okP_len (M.hist_ok r5 hy10)).1 (M.okP_len (M.hist_ok r5 hy10)).2 (by omega) (by omega))) (.inl rfl) ?_
      rintro _ _ _ ⟨rfl, rfl, rfl⟩ _
      refine JH.done (by kernel_rfl) ?_
      refine Js.cond rfl (fun h11 => ?_) (fun h11 => ?_)
      ·
        have h11' := h11
        have hs : M.sameP _ _ = true := h11
        refine Js.region ?_
        refine JL.q (OpP.q (p_move rfl)) ?_
        refine JL.q (OpP.q (p_add rfl rfl (IntWalk.i64_in _ (by omega)))) ?_
        refine JL.q (OpP.q (p_assign rfl)) ?_
        refine JL.nil ?_
        refine Js.blockEnd ?_
        refine Js.region ?_
        refine JL.q (OpP.q (p_move rfl)) ?_
        refine JL.q (OpP.q (p_add rfl rfl (IntWalk.i64_in _ (by omega)))) ?_
        refine JL.q (OpP.q (p_assign rfl)) ?_
        refine JL.nil ?_
        exact Js.again ⟨k + 1, n + 1, rfl, rfl, x8, by rw [M.count_step (by assumption)]; simp [hs, hn], by first | assumption | omega | rfl | (simp; done), by first | assumption | omega | rfl | (simp; done), by first | assumption | omega | rfl | (simp; done), rfl⟩ (by omega) ⟨rfl, rfl, rfl, rfl, trivial⟩
      ·
        have h11' := h11
        have hs : M.sameP _ _ = false := h11
        refine Js.skip ?_
        refine Js.blockEnd ?_
        refine Js.region ?_
        refine JL.q (OpP.q (p_move rfl)) ?_
        refine JL.q (OpP.q (p_add rfl rfl (IntWalk.i64_in _ (by omega)))) ?_
        refine JL.q (OpP.q (p_assign rfl)) ?_
        refine JL.nil ?_
        exact Js.again ⟨k + 1, n, rfl, rfl, x8, by rw [M.count_step (by assumption)]; simp [hs, hn], by first | assumption | omega | rfl | (simp; done), by first | assumption | omega | rfl | (simp; done), by first | assumption | omega | rfl | (simp; done), rfl⟩ (by omega) ⟨rfl, rfl, rfl, rfl, trivial⟩
    ·
      have h9' := h9
      try simp only [decide_eq_false_iff_not, Int.not_lt] at h9'
      have hE : M.count g.now (M.hist g.start (M.runs g.rules g.start g.moves)) = n := by rw [hn, List.take_of_length_le (by have := h9'; omega)]
      refine Js.exit (fun _ _ => rfl) ?_
      refine Js.seq ?_
      refine Js.region ?_
      refine JL.q (OpP.q (p_move rfl)) ?_
      refine JL.q (OpP.q (p_assign rfl)) ?_
      refine JL.nil ?_
      refine Js.ret (R := RV w (.int .i64 (M.count g.now (M.hist g.start (M.runs g.rules g.start g.moves))))) @Try.results69 (fun _ _ => rfl) (ResOk.tmp rfl ResOk.nil) (fun w1 hw => ?_)
      refine ⟨?_, hw.ext ((x4.trans x8))⟩
      rw [hE]; rfl

end Go.Proofs.Ytejnmechnhgmfaa

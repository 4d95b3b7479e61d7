/- Walks: G2. -/
import Derived.Test.YtejnmechnhgmfaaZaTy
import Derived.Test.YtejnmechnhgmfaaZaG1
set_option linter.unusedSimpArgs false
set_option linter.unusedVariables false
namespace Go.Proofs.Ytejnmechnhgmfaa
open Go.RowKit

set_option maxRecDepth 100000 in
set_option maxHeartbeats 400000 in
theorem c_impl_newSowing (r : M.Rul) (v_r : Value) (p : M.Pos) (v_p : Value) (w : World) (h_r : (Ty.agg (cRules r)).ok w v_r) (h_p : (Ty.agg (cPosition p)).ok w v_p) (r0 : p.pits.length ≤ 4194304) (r1 : p.stores.length ≤ 4194304) : Ret Try.prog 155 [v_r, v_p] w (Ty.box 160 (csowing (M.Sow.mk r p.player (M.Sw.mk p.pits p.stores 0 0) []))) := by
  obtain rfl := open_Rules h_r
  obtain ⟨A2_0, c2_0, A2_1, c2_1, rfl, h2_0, h2_1, bl2_0, bh2_0, bl2_1, bh2_1⟩ := open_Position h_p
  refine enter @Try.func155 @Try.ntmps155 rfl rfl ?_
  refine Js.seq ?_
  refine Js.region ?_
  refine JL.e (e_box (c := [.int .i64 r.pits, .int .i64 r.seeds, .bool r.stores, .bool r.skip, .bool r.relay, .bool r.feed, .bool r.again, .int .i64 r.capture, .int .i64 r.slam]) rfl rfl) ?_
  rintro _ _ _ ⟨b3, rfl, rfl, rfl⟩ _
  refine JL.e (e_box (c := [.slice A2_0 p.pits.length c2_0, .slice A2_1 p.stores.length c2_1, .int .i64 p.player]) rfl rfl) ?_
  rintro _ _ _ ⟨b4, rfl, rfl, rfl⟩ _
  refine JL.q (OpP.q (p_assign rfl)) ?_
  refine JL.nil ?_
  refine Js.seq ?_
  refine Js.region ?_
  refine JL.q (q_loadN ty_33 rfl (Mem.boxR (i := 0) rfl 0 3) rfl rfl) ?_
  refine JL.e (e_callO fn_104 rfl (Spl.agg (Spls.cons (Spl.ints _ _) (Spls.cons (Spl.ints _ _) (Spls.cons (Spl.val _) Spls.nil)))) (fun w hw => c_impl_Position_copied p _ w ⟨_, rfl, ⟨(Ty.mono _ h2_0 hw.vis), (Ty.mono _ h2_1 hw.vis), rfl, trivial⟩⟩ (by omega) (by omega))) ?_
  rintro v5 _ _ ⟨_, hR6, rfl, rfl⟩ _
  obtain ⟨vs7, rfl, hr7⟩ := hR6
  obtain ⟨v7_0, vs7_0, o7_0, ow7_0, rfl, hR7_0, hs7_0, rfl⟩ := RL_cons hr7
  obtain ⟨v7_1, vs7_1, o7_1, ow7_1, rfl, hR7_1, hs7_1, rfl⟩ := RL_cons hs7_0
  obtain ⟨v7_2, vs7_2, o7_2, ow7_2, rfl, hR7_2, hs7_2, rfl⟩ := RL_cons hs7_1
  obtain ⟨rfl, rfl⟩ := RL_nil hs7_2
  obtain ⟨A8, c8, rfl, rfl, bl8, bh8⟩ := hR7_0
  obtain ⟨A9, c9, rfl, rfl, bl9, bh9⟩ := hR7_1
  obtain ⟨rfl, rfl⟩ : v7_2 = .int .i64 p.player ∧ _ := hR7_2
  refine JL.e (e_alloc zero_33) ?_
  rintro _ _ _ ⟨b10, rfl, rfl, rfl⟩ _
  refine JL.s (e_store (i := 0) (c' := [.slice A8 p.pits.length c8, .slice A9 p.stores.length c9, .int .i64 p.player]) ty_33 rfl rfl rfl rfl rfl rfl rfl rfl) ?_
  rintro _ _ _ ⟨rfl, rfl⟩ _
  refine JL.nil ?_
  refine Js.seq ?_
  refine Js.region ?_
  refine JL.q (q_loadN ty_32 rfl (Mem.boxR (i := 4) rfl 0 9) rfl rfl) ?_
  refine JL.q (OpP.q (p_fieldAddr fld_33_2 rfl)) ?_
  refine JL.q (q_load1 ty_2 rfl (Mem.box (i := 3) rfl rfl)) ?_
  refine JL.q (OpP.q (p_fieldAddr fld_33_0 rfl)) ?_
  refine JL.q (q_load1 ty_24 rfl (Mem.box (i := 0) rfl rfl)) ?_
  refine JL.q (OpP.q (p_fieldAddr fld_33_1 rfl)) ?_
  refine JL.q (q_load1 ty_24 rfl (Mem.box (i := 0) rfl rfl)) ?_
  refine JL.q (OpP.q (p_build zero_129 flds_129 rfl rfl)) ?_
  refine JL.e (e_buildSlice (vs := []) el_24 rfl rfl rfl rfl rfl rfl) ?_
  rintro _ _ _ ⟨b11, rfl, rfl, hl12, rfl⟩ _
  refine JL.q (OpP.q (p_build zero_160 flds_160 rfl rfl)) ?_
  refine JL.e (e_box (c := [.int .i64 r.pits, .int .i64 r.seeds, .bool r.stores, .bool r.skip, .bool r.relay, .bool r.feed, .bool r.again, .int .i64 r.capture, .int .i64 r.slam, .int .i64 p.player, .slice A8 p.pits.length c8, .slice A9 p.stores.length c9, .int .i64 0, .int .i64 0, .slice (some ⟨b11, 0, none⟩) 0 0]) rfl rfl) ?_
  rintro _ _ _ ⟨b13, rfl, rfl, rfl⟩ _
  refine JL.q (OpP.q (p_assign rfl)) ?_
  refine JL.nil ?_
  refine Js.ret (R := RO w (Ty.box 160 (csowing (M.Sow.mk r p.player (M.Sw.mk p.pits p.stores 0 0) [])))) @Try.results155 (fun _ _ => rfl) (ResOk.tmp rfl ResOk.nil) (fun w1 hw => ?_)
  have hx := hw.ext (Up.refl _ _)
  exact ret_own (ps := [(0, [b13]), (3, (Value.ownBlock (.slice A8 p.pits.length c8)).toList), (4, (Value.ownBlock (.slice A9 p.stores.length c9)).toList), (1, (Value.ownBlock (.slice (some ⟨b11, 0, none⟩) 0 0)).toList)]) hw hx (box_own (hw.pr (i := 0) rfl) ⟨_, _, rfl, ⟨rfl, rfl⟩, ⟨_, _, rfl, ⟨rfl, rfl⟩, ⟨_, _, rfl, ⟨rfl, rfl⟩, ⟨_, _, rfl, ⟨rfl, rfl⟩, ⟨_, _, rfl, ⟨rfl, rfl⟩, ⟨_, _, rfl, ⟨rfl, rfl⟩, ⟨_, _, rfl, ⟨rfl, rfl⟩, ⟨_, _, rfl, ⟨rfl, rfl⟩, ⟨_, _, rfl, ⟨rfl, rfl⟩, ⟨_, _, rfl, ⟨rfl, rfl⟩, ⟨_, _, rfl, (ints_row (xs := p.pits) (hw.pr (i := 3) rfl) rfl), ⟨_, _, rfl, (ints_row (xs := p.stores) (hw.pr (i := 4) rfl) rfl), ⟨_, _, rfl, ⟨rfl, rfl⟩, ⟨_, _, rfl, ⟨rfl, rfl⟩, ⟨_, _, rfl, (ints_row (xs := []) (hw.pr (i := 1) rfl) rfl), rfl⟩⟩⟩⟩⟩⟩⟩⟩⟩⟩⟩⟩⟩⟩⟩) (Pick.cons (j := 0) rfl (List.Sublist.refl _) rfl (Pick.cons (j := 3) rfl (List.sublist_append_left _ _) rfl (Pick.cons (j := 4) rfl (List.sublist_append_left _ _) rfl (Pick.cons (j := 1) rfl (List.sublist_append_left _ _) rfl Pick.nil)))) (by simp [List.flatten, outV])

set_option maxRecDepth 100000 in
set_option maxHeartbeats 400000 in
theorem c_impl_sowing_lap (s_rules : M.Rul) (s_player : Int) (s_sown : M.Sw) (s_path : List Int) (As_10 : Option Addr) (cs_10 : Nat) (gs_10 : List Nat) (As_11 : Option Addr) (cs_11 : Nat) (gs_11 : List Nat) (As_14 : Option Addr) (cs_14 : Nat) (gs_14 : List Nat) (from_ : Int) (bs : Nat) (w : World) (hb : Bw w [boxO bs [.int .i64 s_rules.pits, .int .i64 s_rules.seeds, .bool s_rules.stores, .bool s_rules.skip, .bool s_rules.relay, .bool s_rules.feed, .bool s_rules.again, .int .i64 s_rules.capture, .int .i64 s_rules.slam, .int .i64 s_player, .slice As_10 s_sown.pits.length cs_10, .slice As_11 s_sown.stores.length cs_11, .int .i64 s_sown.last, .int .i64 s_sown.laps, .slice As_14 s_path.length cs_14] 160, rowO 2 1 (.slice As_10 s_sown.pits.length cs_10) s_sown.pits.length (ints_ s_sown.pits) gs_10, rowO 2 1 (.slice As_11 s_sown.stores.length cs_11) s_sown.stores.length (ints_ s_sown.stores) gs_11, rowO 2 1 (.slice As_14 s_path.length cs_14) s_path.length (ints_ s_path) gs_14]) (bd0 : s_sown.pits.length ≤ cs_10) (bd1 : cs_10 ≤ 9223372036854775807) (bd2 : s_sown.stores.length ≤ cs_11) (bd3 : cs_11 ≤ 9223372036854775807) (bd4 : s_path.length ≤ cs_14) (bd5 : cs_14 ≤ 9223372036854775807) (r0 : 2 ≤ s_rules.pits) (r1 : s_rules.pits ≤ 8) (r2 : s_player = 0 ∨ s_player = 1) (r3 : 0 ≤ from_) (r4 : from_ < 2 * s_rules.pits) (r5 : M.Good s_rules s_sown.pits s_sown.stores 0) (r6 : 0 < (M.getI s_sown.pits from_)) (r7 : 0 ≤ s_sown.laps) (r8 : s_sown.laps ≤ 99) (r9 : s_path.length ≤ 10000) : RetB Try.prog 163 [.pointer (some ⟨bs, 0, none⟩), .int .i64 from_] w [boxO bs [.int .i64 s_rules.pits, .int .i64 s_rules.seeds, .bool s_rules.stores, .bool s_rules.skip, .bool s_rules.relay, .bool s_rules.feed, .bool s_rules.again, .int .i64 s_rules.capture, .int .i64 s_rules.slam, .int .i64 s_player, .slice As_10 s_sown.pits.length cs_10, .slice As_11 s_sown.stores.length cs_11, .int .i64 s_sown.last, .int .i64 s_sown.laps, .slice As_14 s_path.length cs_14] 160, rowO 2 1 (.slice As_10 s_sown.pits.length cs_10) s_sown.pits.length (ints_ s_sown.pits) gs_10, rowO 2 1 (.slice As_11 s_sown.stores.length cs_11) s_sown.stores.length (ints_ s_sown.stores) gs_11, rowO 2 1 (.slice As_14 s_path.length cs_14) s_path.length (ints_ s_path) gs_14] (fun v bs' => ∃ Axs_10 cxs_10 gxs_10 Axs_11 cxs_11 gxs_11 Axs_14 cxs_14 gxs_14, v = .bool (M.more s_rules (M.lap s_rules s_player from_ s_sown s_path).1) ∧ bs' = [boxO bs [.int .i64 s_rules.pits, .int .i64 s_rules.seeds, .bool s_rules.stores, .bool s_rules.skip, .bool s_rules.relay, .bool s_rules.feed, .bool s_rules.again, .int .i64 s_rules.capture, .int .i64 s_rules.slam, .int .i64 s_player, .slice Axs_10 ((((M.lap s_rules s_player from_ s_sown s_path).1).pits).length) cxs_10, .slice Axs_11 ((((M.lap s_rules s_player from_ s_sown s_path).1).stores).length) cxs_11, .int .i64 (((M.lap s_rules s_player from_ s_sown s_path).1).last), .int .i64 (((M.lap s_rules s_player from_ s_sown s_path).1).laps), .slice Axs_14 (((M.lap s_rules s_player from_ s_sown s_path).2).length) cxs_14] 160, rowO 2 1 (.slice Axs_10 ((((M.lap s_rules s_player from_ s_sown s_path).1).pits).length) cxs_10) ((((M.lap s_rules s_player from_ s_sown s_path).1).pits).length) (ints_ (((M.lap s_rules s_player from_ s_sown s_path).1).pits)) gxs_10, rowO 2 1 (.slice Axs_11 ((((M.lap s_rules s_player from_ s_sown s_path).1).stores).length) cxs_11) ((((M.lap s_rules s_player from_ s_sown s_path).1).stores).length) (ints_ (((M.lap s_rules s_player from_ s_sown s_path).1).stores)) gxs_11, rowO 2 1 (.slice Axs_14 (((M.lap s_rules s_player from_ s_sown s_path).2).length) cxs_14) (((M.lap s_rules s_player from_ s_sown s_path).2).length) (ints_ ((M.lap s_rules s_player from_ s_sown s_path).2)) gxs_14] ∧ (((M.lap s_rules s_player from_ s_sown s_path).1).pits).length ≤ cxs_10 ∧ cxs_10 ≤ 9223372036854775807 ∧ (((M.lap s_rules s_player from_ s_sown s_path).1).stores).length ≤ cxs_11 ∧ cxs_11 ≤ 9223372036854775807 ∧ ((M.lap s_rules s_player from_ s_sown s_path).2).length ≤ cxs_14 ∧ cxs_14 ≤ 9223372036854775807) := by
  have l1 := r5.lp
  have l2 := r5.ls
  have hk0 := r5.pit from_
  refine enterB hb @Try.func163 @Try.ntmps163 rfl rfl ?_
  refine Js.trashE ?_
  refine Js.fact (row_some (i := 1) rfl (by omega)) (fun hf1 => ?_)
  obtain ⟨b1, rfl⟩ := hf1
  refine Js.fact (row_some (i := 2) rfl (by omega)) (fun hf2 => ?_)
  obtain ⟨b2, rfl⟩ := hf2
  refine Js.seq ?_
  refine Js.region ?_
  refine JL.q (OpP.q (p_assign rfl)) ?_
  refine JL.nil ?_
  refine Js.seq ?_
  refine Js.region ?_
  refine JL.q (OpP.q (p_move rfl)) ?_
  refine JL.q (OpP.q (p_nilCheck rfl)) ?_
  refine JL.q (OpP.q (p_fieldAddr fld_160_2 rfl)) ?_
  refine JL.q (OpP.q (p_fieldAddr fld_129_0 rfl)) ?_
  refine JL.q (q_load1 ty_24 rfl (Mem.box (i := 0) rfl rfl)) ?_
  refine JL.q (OpP.q (p_move rfl)) ?_
  refine JL.q (OpP.q (p_indexAddr el_24 rfl rfl (by omega) (by omega) rfl)) ?_
  refine JL.q (q_load1 ty_2 rfl (Mem.row (i := 1) rfl (ints_getI (i := from_) (by omega)))) ?_
  refine JL.q (OpP.q (p_move rfl)) ?_
  refine JL.q (OpP.q (p_assign rfl)) ?_
  refine JL.q (OpP.q (p_assign rfl)) ?_
  refine JL.q (OpP.q (p_assign rfl)) ?_
  refine JL.nil ?_
  refine Js.seq ?_
  refine Js.region ?_
  refine JL.q (OpP.q (p_move rfl)) ?_
  refine JL.q (OpP.q (p_nilCheck rfl)) ?_
  refine JL.q (OpP.q (p_fieldAddr fld_160_2 rfl)) ?_
  refine JL.q (OpP.q (p_fieldAddr fld_129_0 rfl)) ?_
  refine JL.q (q_load1 ty_24 rfl (Mem.box (i := 0) rfl rfl)) ?_
  refine JL.q (OpP.q (p_move rfl)) ?_
  refine JL.q (OpP.q (p_indexAddr el_24 rfl rfl (by omega) (by omega) rfl)) ?_
  refine JL.s (e_storeRow (i := 1) (xs' := ints_ (M.setI s_sown.pits from_ 0)) ty_2 rfl rfl rfl rfl rfl rfl (ints_lt (i := from_.toNat) (by omega)) (ints_setL (i := from_.toNat) (by omega))) ?_
  rintro _ _ _ ⟨rfl, rfl⟩ _
  refine JL.nil ?_
  refine Js.seq ?_
  refine Js.block ?_
  refine Js.loop (fun l os u m => ∃ (k place before : Int) (ps ss path : List Int) (A5_0_14 : Option Addr) (c5_0_14 : Nat) (g5_0_14 : List Nat) (G5_4 : List Nat), l = [(0, .pointer (some ⟨bs, 0, none⟩)), (1, .int .i64 from_), (5, .int .i64 k), (6, .int .i64 place), (7, .int .i64 before)] ∧ os = [boxO bs [.int .i64 s_rules.pits, .int .i64 s_rules.seeds, .bool s_rules.stores, .bool s_rules.skip, .bool s_rules.relay, .bool s_rules.feed, .bool s_rules.again, .int .i64 s_rules.capture, .int .i64 s_rules.slam, .int .i64 s_player, .slice (some ⟨b1, 0, none⟩) s_sown.pits.length cs_10, .slice (some ⟨b2, 0, none⟩) s_sown.stores.length cs_11, .int .i64 s_sown.last, .int .i64 s_sown.laps, .slice A5_0_14 path.length c5_0_14] 160, rowO 2 1 (.slice (some ⟨b1, 0, none⟩) s_sown.pits.length cs_10) s_sown.pits.length (ints_ ps) gs_10, rowO 2 1 (.slice (some ⟨b2, 0, none⟩) s_sown.stores.length cs_11) s_sown.stores.length (ints_ ss) gs_11, rowO 2 1 (.slice A5_0_14 path.length c5_0_14) path.length (ints_ path) g5_0_14, anyO G5_4] ∧ Up w.heap.size (offW w (([boxO bs [.int .i64 s_rules.pits, .int .i64 s_rules.seeds, .bool s_rules.stores, .bool s_rules.skip, .bool s_rules.relay, .bool s_rules.feed, .bool s_rules.again, .int .i64 s_rules.capture, .int .i64 s_rules.slam, .int .i64 s_player, .slice (some ⟨b1, 0, none⟩) s_sown.pits.length cs_10, .slice (some ⟨b2, 0, none⟩) s_sown.stores.length cs_11, .int .i64 s_sown.last, .int .i64 s_sown.laps, .slice As_14 s_path.length cs_14] 160, rowO 2 1 (.slice (some ⟨b1, 0, none⟩) s_sown.pits.length cs_10) s_sown.pits.length (ints_ s_sown.pits) gs_10, rowO 2 1 (.slice (some ⟨b2, 0, none⟩) s_sown.stores.length cs_11) s_sown.stores.length (ints_ s_sown.stores) gs_11, rowO 2 1 (.slice As_14 s_path.length cs_14) s_path.length (ints_ s_path) gs_14] : List Own).flatMap (·.fp))) u ∧ (M.sow s_rules s_player from_ k.toNat place ps ss path = M.sow s_rules s_player from_ (M.getI s_sown.pits from_).toNat from_ (M.setI s_sown.pits from_ 0) s_sown.stores s_path) ∧ (M.Good s_rules ps ss k) ∧ (-1 ≤ place) ∧ (place < 2 * s_rules.pits) ∧ ((path.length : Int) + k = s_path.length + (M.getI s_sown.pits from_)) ∧ (k = (M.getI s_sown.pits from_) ∨ (0 ≤ place → M.getI ps place = before + 1)) ∧ (path.length ≤ c5_0_14) ∧ (c5_0_14 ≤ 9223372036854775807) ∧ m = k.toNat) ⟨M.getI s_sown.pits from_, from_, 0, M.setI s_sown.pits from_ 0, s_sown.stores, s_path, _, _, _, _, rfl, rfl, Up.refl _ _, by rfl, by exact r5.takeUp r3 r4, by first | assumption | omega | rfl | (simp; done), by first | assumption | omega | rfl | (simp; done), by first | assumption | omega | rfl | (simp; done), by exact .inl rfl, by first | omega | (simp only [List.length_append, List.length_cons, List.length_nil] <;> omega), by first | omega | (simp only [List.length_append, List.length_cons, List.length_nil] <;> omega), rfl⟩ ⟨rfl, rfl, rfl, rfl, rfl, trivial⟩ ?_
  · rintro _ _ u5 _ ⟨k, place, before, ps, ss, path, A5_0_14, c5_0_14, g5_0_14, G5_4, rfl, rfl, x5, hS, hG, p0, p1, hl, hB, f5_6, f5_7, rfl⟩
    have l3 := hG.lp
    have l4 := hG.ls
    have hs0 := hG.store s_player
    have k0 := hG.n0
    refine Js.seq ?_
    refine Js.seq ?_
    refine Js.region ?_
    refine JL.q (OpP.q (p_move rfl)) ?_
    refine JL.q (OpP.q (p_gtr rfl rfl)) ?_
    refine JL.nil ?_
    refine Js.cond rfl (fun h6 => ?_) (fun h6 => ?_)
    ·
      have h6' := h6
      try simp only [decide_eq_true_eq] at h6'
      refine Js.skip ?_
      refine Js.seq ?_
      refine Js.block ?_
      refine Js.seq ?_
      refine Js.drawn _ [] mixed_ (fun _ h => h) ?_
      refine JH.p 0 rfl (p_move rfl) ?_
      refine JH.p 1 rfl (p_nilCheck rfl) ?_
      refine JH.p 2 rfl (p_fieldAddr fld_160_0 rfl) ?_
      refine JH.q 3 rfl (q_loadN ty_32 rfl (Mem.boxR (i := 0) rfl 0 9) rfl rfl) ?_
      refine JH.p 4 rfl (p_move rfl) ?_
      refine JH.p 5 rfl (p_nilCheck rfl) ?_
      refine JH.p 6 rfl (p_fieldAddr fld_160_1 rfl) ?_
      refine JH.q 7 rfl (q_load1 ty_2 rfl (Mem.box (i := 0) rfl rfl)) ?_
      refine JH.p 8 rfl (p_move rfl) ?_
      refine JH.one (i := 9) (by kernel_rfl) ?_
      refine JHo.e rfl (e_callV fn_166 rfl (fun w hw => c_impl_Rules_after s_rules _ s_player place w ⟨_, rfl, ⟨rfl, rfl, rfl, rfl, rfl, rfl, rfl, rfl, rfl, trivial⟩⟩ (by omega) (by omega) (by omega) (by omega) (by omega))) (.inl rfl) ?_
      rintro _ _ _ ⟨rfl, rfl, rfl⟩ _
      refine JH.p 10 rfl (p_assign rfl) ?_
      refine JH.done (by kernel_rfl) ?_
      refine Js.seq ?_
      refine Js.seq ?_
      refine Js.region ?_
      refine JL.q (OpP.q (p_move rfl)) ?_
      refine JL.q (OpP.q (p_nilCheck rfl)) ?_
      refine JL.q (OpP.q (p_fieldAddr fld_160_0 rfl)) ?_
      refine JL.q (OpP.q (p_fieldAddr fld_32_3 rfl)) ?_
      refine JL.q (q_load1 ty_4 rfl (Mem.box (i := 0) rfl rfl)) ?_
      refine JL.q (OpP.q (p_move rfl)) ?_
      refine JL.g (Gd.t1 rfl rfl rfl) (fun hc => OpP.q (p_move rfl)) ?_
      refine JL.g (Gd.t1 rfl rfl rfl) (fun hc => OpP.q (p_move rfl)) ?_
      refine JL.g (Gd.t1 rfl rfl rfl) (fun hc => OpP.q (p_eql (gvt rfl hc) (gvt rfl hc))) ?_
      refine JL.q (OpP.q (p_pickAnd rfl rfl rfl)) ?_
      refine JL.nil ?_
      refine Js.cond rfl (fun h7 => ?_) (fun h7 => ?_)
      ·
        have h7' := h7
        try simp only [Bool.and_eq_true, decide_eq_true_eq] at h7'
        have hc : s_rules.skip = true ∧ M.after s_rules s_player place = from_ := by simpa using h7
        have hq : M.nxt s_rules s_player from_ place = M.after s_rules s_player (M.after s_rules s_player place) := by rw [M.nxt_yes hc, hc.2]
        have ha := M.after_bd s_rules r1 r0 r2 p0
        refine Js.drawn _ [] mixed_ (fun _ h => h) ?_
        refine JH.p 0 rfl (p_move rfl) ?_
        refine JH.p 1 rfl (p_nilCheck rfl) ?_
        refine JH.p 2 rfl (p_fieldAddr fld_160_0 rfl) ?_
        refine JH.q 3 rfl (q_loadN ty_32 rfl (Mem.boxR (i := 0) rfl 0 9) rfl rfl) ?_
        refine JH.p 4 rfl (p_move rfl) ?_
        refine JH.p 5 rfl (p_nilCheck rfl) ?_
        refine JH.p 6 rfl (p_fieldAddr fld_160_1 rfl) ?_
        refine JH.q 7 rfl (q_load1 ty_2 rfl (Mem.box (i := 0) rfl rfl)) ?_
        refine JH.p 8 rfl (p_move rfl) ?_
        refine JH.one (i := 9) (by kernel_rfl) ?_
        refine JHo.e rfl (e_callV fn_166 rfl (fun w hw => c_impl_Rules_after s_rules _ s_player (M.after s_rules s_player place) w ⟨_, rfl, ⟨rfl, rfl, rfl, rfl, rfl, rfl, rfl, rfl, rfl, trivial⟩⟩ (by omega) (by omega) (by omega) (by omega) (by omega))) (.inl rfl) ?_
        rintro _ _ _ ⟨rfl, rfl, rfl⟩ _
        refine JH.p 10 rfl (p_assign rfl) ?_
        refine JH.done (by kernel_rfl) ?_
        refine Js.seq ?_
        refine Js.seq ?_
        have hqb := M.nxt_bd s_rules (frm := from_) r1 r0 r2 p0 r3
        rw [hq] at hqb
        refine Js.region ?_
        refine JL.q (OpP.q (p_move rfl)) ?_
        refine JL.q (OpP.q (p_lss rfl rfl)) ?_
        refine JL.nil ?_
        refine Js.cond rfl (fun h8 => ?_) (fun h8 => ?_)
        ·
          have h8' := h8
          try simp only [decide_eq_true_eq] at h8'
          have hS2 : M.sow s_rules s_player from_ (k - 1).toNat (M.after s_rules s_player (M.after s_rules s_player place)) ps (M.setI ss s_player (M.getI ss s_player + 1)) (path ++ [(M.after s_rules s_player (M.after s_rules s_player place))]) = M.sow s_rules s_player from_ (M.getI s_sown.pits from_).toNat from_ (M.setI s_sown.pits from_ 0) s_sown.stores s_path := by rw [← hS, show k.toNat = (k - 1).toNat + 1 by omega, M.sow_succ hq, if_pos (by omega)]
          have hG2 := hG.putStore (k := s_player) (by omega) (by omega) (by omega)
          have hB2 : 0 ≤ (M.after s_rules s_player (M.after s_rules s_player place)) → M.getI ps (M.after s_rules s_player (M.after s_rules s_player place)) = before + 1 := fun h => by omega
          refine Js.drawn _ [13] mixed_ (fun _ h => h) ?_
          refine JH.p 0 rfl (p_move rfl) ?_
          refine JH.p 1 rfl (p_nilCheck rfl) ?_
          refine JH.p 2 rfl (p_fieldAddr fld_160_2 rfl) ?_
          refine JH.p 3 rfl (p_fieldAddr fld_129_1 rfl) ?_
          refine JH.q 4 rfl (q_load1 ty_24 rfl (Mem.box (i := 0) rfl rfl)) ?_
          refine JH.p 5 rfl (p_move rfl) ?_
          refine JH.p 6 rfl (p_nilCheck rfl) ?_
          refine JH.p 7 rfl (p_fieldAddr fld_160_1 rfl) ?_
          refine JH.q 8 rfl (q_load1 ty_2 rfl (Mem.box (i := 0) rfl rfl)) ?_
          refine JH.p 9 rfl (p_indexAddr el_24 rfl rfl (by omega) (by omega) rfl) ?_
          refine JH.q 10 rfl (q_load1 ty_2 rfl (Mem.row (i := 2) rfl (ints_getI (i := s_player) (by omega)))) ?_
          refine JH.p 11 rfl (p_add rfl rfl (IntWalk.i64_in _ (by omega))) ?_
          refine JH.p 12 rfl (p_indexAddr el_24 rfl rfl (by omega) (by omega) rfl) ?_
          refine JH.one (i := 13) (by kernel_rfl) ?_
          refine JHo.s rfl (e_storeRow (i := 2) (xs' := ints_ (M.setI ss s_player ((M.getI ss s_player) + 1))) ty_2 rfl rfl rfl rfl rfl rfl (ints_lt (i := s_player.toNat) (by omega)) (ints_setL (i := s_player.toNat) (by omega))) (.inr rfl) ?_
          rintro _ _ _ ⟨rfl, rfl⟩ _
          refine JH.done (by kernel_rfl) ?_
          refine Js.region ?_
          refine JL.q (OpP.q (p_move rfl)) ?_
          refine JL.q (OpP.q (p_move rfl)) ?_
          refine JL.q (OpP.q (p_nilCheck rfl)) ?_
          refine JL.q (OpP.q (p_fieldAddr fld_160_3 rfl)) ?_
          refine JL.q (q_load1 ty_24 rfl (Mem.box (i := 0) rfl rfl)) ?_
          refine JL.q (OpP.q (p_move rfl)) ?_
          refine JL.e (e_buildSlice (vs := [.int .i64 (M.after s_rules s_player (M.after s_rules s_player place))]) el_24 rfl rfl rfl rfl rfl rfl) ?_
          rintro _ _ _ ⟨b11, rfl, rfl, hl12, rfl⟩ _
          refine JL.e (e_append (i := 4) (n' := (path ++ [(M.after s_rules s_player (M.after s_rules s_player place))]).length) (vs' := ints_ (path ++ [(M.after s_rules s_player (M.after s_rules s_player place))])) el_24 rfl rfl rfl rfl (src_row (i := 0) und_24 rfl rfl) (by omega) (by omega) (by first | omega | (simp only [List.length_append, List.length_cons, List.length_nil] <;> omega)) (by simp [ints_])) ?_
          rintro v13 _ _ ⟨⟨g14, rfl⟩, rfl⟩ _
          refine JL.fact (row_form' (i := 4) rfl) (fun hf15 => ?_)
          obtain ⟨A15, c15, rfl, bl15, bh15⟩ := hf15
          refine JL.q (OpP.q (p_nilCheck rfl)) ?_
          refine JL.q (OpP.q (p_fieldAddr fld_160_3 rfl)) ?_
          refine JL.s (e_store (i := 1) (c' := [.int .i64 s_rules.pits, .int .i64 s_rules.seeds, .bool s_rules.stores, .bool s_rules.skip, .bool s_rules.relay, .bool s_rules.feed, .bool s_rules.again, .int .i64 s_rules.capture, .int .i64 s_rules.slam, .int .i64 s_player, .slice (some ⟨b1, 0, none⟩) s_sown.pits.length cs_10, .slice (some ⟨b2, 0, none⟩) s_sown.stores.length cs_11, .int .i64 s_sown.last, .int .i64 s_sown.laps, .slice A15 ((path ++ [(M.after s_rules s_player (M.after s_rules s_player place))]).length) c15]) ty_24 rfl rfl rfl rfl rfl rfl rfl rfl) ?_
          rintro _ _ _ ⟨rfl, rfl⟩ _
          refine JL.nil ?_
          refine Js.blockEnd ?_
          refine Js.region ?_
          refine JL.q (OpP.q (p_move rfl)) ?_
          refine JL.q (OpP.q (p_sub rfl rfl (IntWalk.i64_in _ (by omega)))) ?_
          refine JL.q (OpP.q (p_assign rfl)) ?_
          refine JL.nil ?_
          refine Js.eat (i := 0) (j := 5) rfl rfl rfl ?_
          exact Js.again ⟨k - 1, M.after s_rules s_player (M.after s_rules s_player place), before, ps, M.setI ss s_player ((M.getI ss s_player) + 1), path ++ [(M.after s_rules s_player (M.after s_rules s_player place))], _, _, _, _, rfl, rfl, x5, by exact hS2, by exact hG2, by first | assumption | omega | rfl | (simp; done), by first | assumption | omega | rfl | (simp; done), by simp only [List.length_append, List.length_cons, List.length_nil]; omega, by exact .inr hB2, by first | omega | (simp only [List.length_append, List.length_cons, List.length_nil] <;> omega), by first | omega | (simp only [List.length_append, List.length_cons, List.length_nil] <;> omega), rfl⟩ (by omega) ⟨rfl, rfl, rfl, rfl, rfl, trivial⟩
        ·
          have h8' := h8
          try simp only [decide_eq_false_iff_not, Int.not_lt] at h8'
          have hS2 : M.sow s_rules s_player from_ (k - 1).toNat (M.after s_rules s_player (M.after s_rules s_player place)) (M.setI ps (M.after s_rules s_player (M.after s_rules s_player place)) (M.getI ps (M.after s_rules s_player (M.after s_rules s_player place)) + 1)) ss (path ++ [(M.after s_rules s_player (M.after s_rules s_player place))]) = M.sow s_rules s_player from_ (M.getI s_sown.pits from_).toNat from_ (M.setI s_sown.pits from_ 0) s_sown.stores s_path := by rw [← hS, show k.toNat = (k - 1).toNat + 1 by omega, M.sow_succ hq, if_neg (by omega)]
          have hG2 := hG.putPit (k := (M.after s_rules s_player (M.after s_rules s_player place))) (by omega) (by omega) hqb.2
          have hpq := hG.pit (M.after s_rules s_player (M.after s_rules s_player place))
          have hB2 : 0 ≤ (M.after s_rules s_player (M.after s_rules s_player place)) → M.getI (M.setI ps (M.after s_rules s_player (M.after s_rules s_player place)) (M.getI ps (M.after s_rules s_player (M.after s_rules s_player place)) + 1)) (M.after s_rules s_player (M.after s_rules s_player place)) = M.getI ps (M.after s_rules s_player (M.after s_rules s_player place)) + 1 := fun h => M.getI_setI_same h (by omega) _
          refine Js.seq ?_
          refine Js.region ?_
          refine JL.q (OpP.q (p_move rfl)) ?_
          refine JL.q (OpP.q (p_nilCheck rfl)) ?_
          refine JL.q (OpP.q (p_fieldAddr fld_160_2 rfl)) ?_
          refine JL.q (OpP.q (p_fieldAddr fld_129_0 rfl)) ?_
          refine JL.q (q_load1 ty_24 rfl (Mem.box (i := 0) rfl rfl)) ?_
          refine JL.q (OpP.q (p_move rfl)) ?_
          refine JL.q (OpP.q (p_indexAddr el_24 rfl rfl (by omega) (by omega) rfl)) ?_
          refine JL.q (q_load1 ty_2 rfl (Mem.row (i := 1) rfl (ints_getI (i := M.after s_rules s_player (M.after s_rules s_player place)) (by omega)))) ?_
          refine JL.q (OpP.q (p_assign rfl)) ?_
          refine JL.nil ?_
          refine Js.region ?_
          refine JL.q (OpP.q (p_move rfl)) ?_
          refine JL.q (OpP.q (p_nilCheck rfl)) ?_
          refine JL.q (OpP.q (p_fieldAddr fld_160_2 rfl)) ?_
          refine JL.q (OpP.q (p_fieldAddr fld_129_0 rfl)) ?_
          refine JL.q (q_load1 ty_24 rfl (Mem.box (i := 0) rfl rfl)) ?_
          refine JL.q (OpP.q (p_move rfl)) ?_
          refine JL.q (OpP.q (p_indexAddr el_24 rfl rfl (by omega) (by omega) rfl)) ?_
          refine JL.q (q_load1 ty_2 rfl (Mem.row (i := 1) rfl (ints_getI (i := M.after s_rules s_player (M.after s_rules s_player place)) (by omega)))) ?_
          refine JL.q (OpP.q (p_add rfl rfl (IntWalk.i64_in _ (by omega)))) ?_
          refine JL.q (OpP.q (p_indexAddr el_24 rfl rfl (by omega) (by omega) rfl)) ?_
          refine JL.s (e_storeRow (i := 1) (xs' := ints_ (M.setI ps (M.after s_rules s_player (M.after s_rules s_player place)) ((M.getI ps (M.after s_rules s_player (M.after s_rules s_player place))) + 1))) ty_2 rfl rfl rfl rfl rfl rfl (ints_lt (i := (M.after s_rules s_player (M.after s_rules s_player place)).toNat) (by omega)) (ints_setL (i := (M.after s_rules s_player (M.after s_rules s_player place)).toNat) (by omega))) ?_
          rintro _ _ _ ⟨rfl, rfl⟩ _
          refine JL.nil ?_
          refine Js.region ?_
          refine JL.q (OpP.q (p_move rfl)) ?_
          refine JL.q (OpP.q (p_move rfl)) ?_
          refine JL.q (OpP.q (p_nilCheck rfl)) ?_
          refine JL.q (OpP.q (p_fieldAddr fld_160_3 rfl)) ?_
          refine JL.q (q_load1 ty_24 rfl (Mem.box (i := 0) rfl rfl)) ?_
          refine JL.q (OpP.q (p_move rfl)) ?_
          refine JL.e (e_buildSlice (vs := [.int .i64 (M.after s_rules s_player (M.after s_rules s_player place))]) el_24 rfl rfl rfl rfl rfl rfl) ?_
          rintro _ _ _ ⟨b19, rfl, rfl, hl20, rfl⟩ _
          refine JL.e (e_append (i := 4) (n' := (path ++ [(M.after s_rules s_player (M.after s_rules s_player place))]).length) (vs' := ints_ (path ++ [(M.after s_rules s_player (M.after s_rules s_player place))])) el_24 rfl rfl rfl rfl (src_row (i := 0) und_24 rfl rfl) (by omega) (by omega) (by first | omega | (simp only [List.length_append, List.length_cons, List.length_nil] <;> omega)) (by simp [ints_])) ?_
          rintro v21 _ _ ⟨⟨g22, rfl⟩, rfl⟩ _
          refine JL.fact (row_form' (i := 4) rfl) (fun hf23 => ?_)
          obtain ⟨A23, c23, rfl, bl23, bh23⟩ := hf23
          refine JL.q (OpP.q (p_nilCheck rfl)) ?_
          refine JL.q (OpP.q (p_fieldAddr fld_160_3 rfl)) ?_
          refine JL.s (e_store (i := 1) (c' := [.int .i64 s_rules.pits, .int .i64 s_rules.seeds, .bool s_rules.stores, .bool s_rules.skip, .bool s_rules.relay, .bool s_rules.feed, .bool s_rules.again, .int .i64 s_rules.capture, .int .i64 s_rules.slam, .int .i64 s_player, .slice (some ⟨b1, 0, none⟩) s_sown.pits.length cs_10, .slice (some ⟨b2, 0, none⟩) s_sown.stores.length cs_11, .int .i64 s_sown.last, .int .i64 s_sown.laps, .slice A23 ((path ++ [(M.after s_rules s_player (M.after s_rules s_player place))]).length) c23]) ty_24 rfl rfl rfl rfl rfl rfl rfl rfl) ?_
          rintro _ _ _ ⟨rfl, rfl⟩ _
          refine JL.nil ?_
          refine Js.blockEnd ?_
          refine Js.region ?_
          refine JL.q (OpP.q (p_move rfl)) ?_
          refine JL.q (OpP.q (p_sub rfl rfl (IntWalk.i64_in _ (by omega)))) ?_
          refine JL.q (OpP.q (p_assign rfl)) ?_
          refine JL.nil ?_
          refine Js.eat (i := 0) (j := 5) rfl rfl rfl ?_
          exact Js.again ⟨k - 1, M.after s_rules s_player (M.after s_rules s_player place), M.getI ps (M.after s_rules s_player (M.after s_rules s_player place)), M.setI ps (M.after s_rules s_player (M.after s_rules s_player place)) ((M.getI ps (M.after s_rules s_player (M.after s_rules s_player place))) + 1), ss, path ++ [(M.after s_rules s_player (M.after s_rules s_player place))], _, _, _, _, rfl, rfl, x5, by exact hS2, by exact hG2, by first | assumption | omega | rfl | (simp; done), by first | assumption | omega | rfl | (simp; done), by simp only [List.length_append, List.length_cons, List.length_nil]; omega, by exact .inr hB2, by first | omega | (simp only [List.length_append, List.length_cons, List.length_nil] <;> omega), by first | omega | (simp only [List.length_append, List.length_cons, List.length_nil] <;> omega), rfl⟩ (by omega) ⟨rfl, rfl, rfl, rfl, rfl, trivial⟩
      ·
        have h7' := h7
        try simp only [Bool.and_eq_false_iff, decide_eq_false_iff_not] at h7'
        have hc : ¬(s_rules.skip = true ∧ M.after s_rules s_player place = from_) := by simpa using h7
        have hq := M.nxt_no hc
        refine Js.skip ?_
        refine Js.seq ?_
        refine Js.seq ?_
        have hqb := M.nxt_bd s_rules (frm := from_) r1 r0 r2 p0 r3
        rw [hq] at hqb
        refine Js.region ?_
        refine JL.q (OpP.q (p_move rfl)) ?_
        refine JL.q (OpP.q (p_lss rfl rfl)) ?_
        refine JL.nil ?_
        refine Js.cond rfl (fun h24 => ?_) (fun h24 => ?_)
        ·
          have h24' := h24
          try simp only [decide_eq_true_eq] at h24'
          have hS2 : M.sow s_rules s_player from_ (k - 1).toNat (M.after s_rules s_player place) ps (M.setI ss s_player (M.getI ss s_player + 1)) (path ++ [(M.after s_rules s_player place)]) = M.sow s_rules s_player from_ (M.getI s_sown.pits from_).toNat from_ (M.setI s_sown.pits from_ 0) s_sown.stores s_path := by rw [← hS, show k.toNat = (k - 1).toNat + 1 by omega, M.sow_succ hq, if_pos (by omega)]
          have hG2 := hG.putStore (k := s_player) (by omega) (by omega) (by omega)
          have hB2 : 0 ≤ (M.after s_rules s_player place) → M.getI ps (M.after s_rules s_player place) = before + 1 := fun h => by omega
          refine Js.drawn _ [13] mixed_ (fun _ h => h) ?_
          refine JH.p 0 rfl (p_move rfl) ?_
          refine JH.p 1 rfl (p_nilCheck rfl) ?_
          refine JH.p 2 rfl (p_fieldAddr fld_160_2 rfl) ?_
          refine JH.p 3 rfl (p_fieldAddr fld_129_1 rfl) ?_
          refine JH.q 4 rfl (q_load1 ty_24 rfl (Mem.box (i := 0) rfl rfl)) ?_
          refine JH.p 5 rfl (p_move rfl) ?_
          refine JH.p 6 rfl (p_nilCheck rfl) ?_
          refine JH.p 7 rfl (p_fieldAddr fld_160_1 rfl) ?_
          refine JH.q 8 rfl (q_load1 ty_2 rfl (Mem.box (i := 0) rfl rfl)) ?_
          refine JH.p 9 rfl (p_indexAddr el_24 rfl rfl (by omega) (by omega) rfl) ?_
          refine JH.q 10 rfl (q_load1 ty_2 rfl (Mem.row (i := 2) rfl (ints_getI (i := s_player) (by omega)))) ?_
          refine JH.p 11 rfl (p_add rfl rfl (IntWalk.i64_in _ (by omega))) ?_
          refine JH.p 12 rfl (p_indexAddr el_24 rfl rfl (by omega) (by omega) rfl) ?_
          refine JH.one (i := 13) (by kernel_rfl) ?_
          refine JHo.s rfl (e_storeRow (i := 2) (xs' := ints_ (M.setI ss s_player ((M.getI ss s_player) + 1))) ty_2 rfl rfl rfl rfl rfl rfl (ints_lt (i := s_player.toNat) (by omega)) (ints_setL (i := s_player.toNat) (by omega))) (.inr rfl) ?_
          rintro _ _ _ ⟨rfl, rfl⟩ _
          refine JH.done (by kernel_rfl) ?_
          refine Js.region ?_
          refine JL.q (OpP.q (p_move rfl)) ?_
          refine JL.q (OpP.q (p_move rfl)) ?_
          refine JL.q (OpP.q (p_nilCheck rfl)) ?_
          refine JL.q (OpP.q (p_fieldAddr fld_160_3 rfl)) ?_
          refine JL.q (q_load1 ty_24 rfl (Mem.box (i := 0) rfl rfl)) ?_
          refine JL.q (OpP.q (p_move rfl)) ?_
          refine JL.e (e_buildSlice (vs := [.int .i64 (M.after s_rules s_player place)]) el_24 rfl rfl rfl rfl rfl rfl) ?_
          rintro _ _ _ ⟨b27, rfl, rfl, hl28, rfl⟩ _
          refine JL.e (e_append (i := 4) (n' := (path ++ [(M.after s_rules s_player place)]).length) (vs' := ints_ (path ++ [(M.after s_rules s_player place)])) el_24 rfl rfl rfl rfl (src_row (i := 0) und_24 rfl rfl) (by omega) (by omega) (by first | omega | (simp only [List.length_append, List.length_cons, List.length_nil] <;> omega)) (by simp [ints_])) ?_
          rintro v29 _ _ ⟨⟨g30, rfl⟩, rfl⟩ _
          refine JL.fact (row_form' (i := 4) rfl) (fun hf31 => ?_)
          obtain ⟨A31, c31, rfl, bl31, bh31⟩ := hf31
          refine JL.q (OpP.q (p_nilCheck rfl)) ?_
          refine JL.q (OpP.q (p_fieldAddr fld_160_3 rfl)) ?_
          refine JL.s (e_store (i := 1) (c' := [.int .i64 s_rules.pits, .int .i64 s_rules.seeds, .bool s_rules.stores, .bool s_rules.skip, .bool s_rules.relay, .bool s_rules.feed, .bool s_rules.again, .int .i64 s_rules.capture, .int .i64 s_rules.slam, .int .i64 s_player, .slice (some ⟨b1, 0, none⟩) s_sown.pits.length cs_10, .slice (some ⟨b2, 0, none⟩) s_sown.stores.length cs_11, .int .i64 s_sown.last, .int .i64 s_sown.laps, .slice A31 ((path ++ [(M.after s_rules s_player place)]).length) c31]) ty_24 rfl rfl rfl rfl rfl rfl rfl rfl) ?_
          rintro _ _ _ ⟨rfl, rfl⟩ _
          refine JL.nil ?_
          refine Js.blockEnd ?_
          refine Js.region ?_
          refine JL.q (OpP.q (p_move rfl)) ?_
          refine JL.q (OpP.q (p_sub rfl rfl (IntWalk.i64_in _ (by omega)))) ?_
          refine JL.q (OpP.q (p_assign rfl)) ?_
          refine JL.nil ?_
          refine Js.eat (i := 0) (j := 5) rfl rfl rfl ?_
          exact Js.again ⟨k - 1, M.after s_rules s_player place, before, ps, M.setI ss s_player ((M.getI ss s_player) + 1), path ++ [(M.after s_rules s_player place)], _, _, _, _, rfl, rfl, x5, by exact hS2, by exact hG2, by first | assumption | omega | rfl | (simp; done), by first | assumption | omega | rfl | (simp; done), by simp only [List.length_append, List.length_cons, List.length_nil]; omega, by exact .inr hB2, by first | omega | (simp only [List.length_append, List.length_cons, List.length_nil] <;> omega), by first | omega | (simp only [List.length_append, List.length_cons, List.length_nil] <;> omega), rfl⟩ (by omega) ⟨rfl, rfl, rfl, rfl, rfl, trivial⟩
        ·
          have h24' := h24
          try simp only [decide_eq_false_iff_not, Int.not_lt] at h24'
          have hS2 : M.sow s_rules s_player from_ (k - 1).toNat (M.after s_rules s_player place) (M.setI ps (M.after s_rules s_player place) (M.getI ps (M.after s_rules s_player place) + 1)) ss (path ++ [(M.after s_rules s_player place)]) = M.sow s_rules s_player from_ (M.getI s_sown.pits from_).toNat from_ (M.setI s_sown.pits from_ 0) s_sown.stores s_path := by rw [← hS, show k.toNat = (k - 1).toNat + 1 by omega, M.sow_succ hq, if_neg (by omega)]
          have hG2 := hG.putPit (k := (M.after s_rules s_player place)) (by omega) (by omega) hqb.2
          have hpq := hG.pit (M.after s_rules s_player place)
          have hB2 : 0 ≤ (M.after s_rules s_player place) → M.getI (M.setI ps (M.after s_rules s_player place) (M.getI ps (M.after s_rules s_player place) + 1)) (M.after s_rules s_player place) = M.getI ps (M.after s_rules s_player place) + 1 := fun h => M.getI_setI_same h (by omega) _
          refine Js.seq ?_
          refine Js.region ?_
          refine JL.q (OpP.q (p_move rfl)) ?_
          refine JL.q (OpP.q (p_nilCheck rfl)) ?_
          refine JL.q (OpP.q (p_fieldAddr fld_160_2 rfl)) ?_
          refine JL.q (OpP.q (p_fieldAddr fld_129_0 rfl)) ?_
          refine JL.q (q_load1 ty_24 rfl (Mem.box (i := 0) rfl rfl)) ?_
          refine JL.q (OpP.q (p_move rfl)) ?_
          refine JL.q (OpP.q (p_indexAddr el_24 rfl rfl (by omega) (by omega) rfl)) ?_
          refine JL.q (q_load1 ty_2 rfl (Mem.row (i := 1) rfl (ints_getI (i := M.after s_rules s_player place) (by omega)))) ?_
          refine JL.q (OpP.q (p_assign rfl)) ?_
          refine JL.nil ?_
          refine Js.region ?_
          refine JL.q (OpP.q (p_move rfl)) ?_
          refine JL.q (OpP.q (p_nilCheck rfl)) ?_
          refine JL.q (OpP.q (p_fieldAddr fld_160_2 rfl)) ?_
          refine JL.q (OpP.q (p_fieldAddr fld_129_0 rfl)) ?_
          refine JL.q (q_load1 ty_24 rfl (Mem.box (i := 0) rfl rfl)) ?_
          refine JL.q (OpP.q (p_move rfl)) ?_
          refine JL.q (OpP.q (p_indexAddr el_24 rfl rfl (by omega) (by omega) rfl)) ?_
          refine JL.q (q_load1 ty_2 rfl (Mem.row (i := 1) rfl (ints_getI (i := M.after s_rules s_player place) (by omega)))) ?_
          refine JL.q (OpP.q (p_add rfl rfl (IntWalk.i64_in _ (by omega)))) ?_
          refine JL.q (OpP.q (p_indexAddr el_24 rfl rfl (by omega) (by omega) rfl)) ?_
          refine JL.s (e_storeRow (i := 1) (xs' := ints_ (M.setI ps (M.after s_rules s_player place) ((M.getI ps (M.after s_rules s_player place)) + 1))) ty_2 rfl rfl rfl rfl rfl rfl (ints_lt (i := (M.after s_rules s_player place).toNat) (by omega)) (ints_setL (i := (M.after s_rules s_player place).toNat) (by omega))) ?_
          rintro _ _ _ ⟨rfl, rfl⟩ _
          refine JL.nil ?_
          refine Js.region ?_
          refine JL.q (OpP.q (p_move rfl)) ?_
          refine JL.q (OpP.q (p_move rfl)) ?_
          refine JL.q (OpP.q (p_nilCheck rfl)) ?_
          refine JL.q (OpP.q (p_fieldAddr fld_160_3 rfl)) ?_
          refine JL.q (q_load1 ty_24 rfl (Mem.box (i := 0) rfl rfl)) ?_
          refine JL.q (OpP.q (p_move rfl)) ?_
          refine JL.e (e_buildSlice (vs := [.int .i64 (M.after s_rules s_player place)]) el_24 rfl rfl rfl rfl rfl rfl) ?_
          rintro _ _ _ ⟨b35, rfl, rfl, hl36, rfl⟩ _
          refine JL.e (e_append (i := 4) (n' := (path ++ [(M.after s_rules s_player place)]).length) (vs' := ints_ (path ++ [(M.after s_rules s_player place)])) el_24 rfl rfl rfl rfl (src_row (i := 0) und_24 rfl rfl) (by omega) (by omega) (by first | omega | (simp only [List.length_append, List.length_cons, List.length_nil] <;> omega)) (by simp [ints_])) ?_
          rintro v37 _ _ ⟨⟨g38, rfl⟩, rfl⟩ _
          refine JL.fact (row_form' (i := 4) rfl) (fun hf39 => ?_)
          obtain ⟨A39, c39, rfl, bl39, bh39⟩ := hf39
          refine JL.q (OpP.q (p_nilCheck rfl)) ?_
          refine JL.q (OpP.q (p_fieldAddr fld_160_3 rfl)) ?_
          refine JL.s (e_store (i := 1) (c' := [.int .i64 s_rules.pits, .int .i64 s_rules.seeds, .bool s_rules.stores, .bool s_rules.skip, .bool s_rules.relay, .bool s_rules.feed, .bool s_rules.again, .int .i64 s_rules.capture, .int .i64 s_rules.slam, .int .i64 s_player, .slice (some ⟨b1, 0, none⟩) s_sown.pits.length cs_10, .slice (some ⟨b2, 0, none⟩) s_sown.stores.length cs_11, .int .i64 s_sown.last, .int .i64 s_sown.laps, .slice A39 ((path ++ [(M.after s_rules s_player place)]).length) c39]) ty_24 rfl rfl rfl rfl rfl rfl rfl rfl) ?_
          rintro _ _ _ ⟨rfl, rfl⟩ _
          refine JL.nil ?_
          refine Js.blockEnd ?_
          refine Js.region ?_
          refine JL.q (OpP.q (p_move rfl)) ?_
          refine JL.q (OpP.q (p_sub rfl rfl (IntWalk.i64_in _ (by omega)))) ?_
          refine JL.q (OpP.q (p_assign rfl)) ?_
          refine JL.nil ?_
          refine Js.eat (i := 0) (j := 5) rfl rfl rfl ?_
          exact Js.again ⟨k - 1, M.after s_rules s_player place, M.getI ps (M.after s_rules s_player place), M.setI ps (M.after s_rules s_player place) ((M.getI ps (M.after s_rules s_player place)) + 1), ss, path ++ [(M.after s_rules s_player place)], _, _, _, _, rfl, rfl, x5, by exact hS2, by exact hG2, by first | assumption | omega | rfl | (simp; done), by first | assumption | omega | rfl | (simp; done), by simp only [List.length_append, List.length_cons, List.length_nil]; omega, by exact .inr hB2, by first | omega | (simp only [List.length_append, List.length_cons, List.length_nil] <;> omega), by first | omega | (simp only [List.length_append, List.length_cons, List.length_nil] <;> omega), rfl⟩ (by omega) ⟨rfl, rfl, rfl, rfl, rfl, trivial⟩
    ·
      have h6' := h6
      try simp only [decide_eq_false_iff_not, Int.not_lt] at h6'
      have hL : M.lap s_rules s_player from_ s_sown s_path = (⟨ps, ss, place, s_sown.laps + 1⟩, path) := by unfold M.lap; rw [← hS]; simp [show k.toNat = 0 by omega, M.sow]
      have hB3 := hB.resolve_left (by omega)
      refine Js.exit (fun _ _ => rfl) ?_
      refine Js.seq ?_
      refine Js.region ?_
      refine JL.q (OpP.q (p_move rfl)) ?_
      refine JL.q (OpP.q (p_move rfl)) ?_
      refine JL.q (OpP.q (p_nilCheck rfl)) ?_
      refine JL.q (OpP.q (p_fieldAddr fld_160_2 rfl)) ?_
      refine JL.q (OpP.q (p_fieldAddr fld_129_2 rfl)) ?_
      refine JL.s (e_store (i := 0) (c' := [.int .i64 s_rules.pits, .int .i64 s_rules.seeds, .bool s_rules.stores, .bool s_rules.skip, .bool s_rules.relay, .bool s_rules.feed, .bool s_rules.again, .int .i64 s_rules.capture, .int .i64 s_rules.slam, .int .i64 s_player, .slice (some ⟨b1, 0, none⟩) s_sown.pits.length cs_10, .slice (some ⟨b2, 0, none⟩) s_sown.stores.length cs_11, .int .i64 place, .int .i64 s_sown.laps, .slice A5_0_14 path.length c5_0_14]) ty_2 rfl rfl rfl rfl rfl rfl rfl rfl) ?_
      rintro _ _ _ ⟨rfl, rfl⟩ _
      refine JL.nil ?_
      refine Js.seq ?_
      refine Js.region ?_
      refine JL.q (OpP.q (p_move rfl)) ?_
      refine JL.q (OpP.q (p_nilCheck rfl)) ?_
      refine JL.q (OpP.q (p_fieldAddr fld_160_2 rfl)) ?_
      refine JL.q (OpP.q (p_fieldAddr fld_129_3 rfl)) ?_
      refine JL.q (q_load1 ty_2 rfl (Mem.box (i := 0) rfl rfl)) ?_
      refine JL.q (OpP.q (p_add rfl rfl (IntWalk.i64_in _ (by omega)))) ?_
      refine JL.q (OpP.q (p_nilCheck rfl)) ?_
      refine JL.q (OpP.q (p_fieldAddr fld_160_2 rfl)) ?_
      refine JL.q (OpP.q (p_fieldAddr fld_129_3 rfl)) ?_
      refine JL.s (e_store (i := 0) (c' := [.int .i64 s_rules.pits, .int .i64 s_rules.seeds, .bool s_rules.stores, .bool s_rules.skip, .bool s_rules.relay, .bool s_rules.feed, .bool s_rules.again, .int .i64 s_rules.capture, .int .i64 s_rules.slam, .int .i64 s_player, .slice (some ⟨b1, 0, none⟩) s_sown.pits.length cs_10, .slice (some ⟨b2, 0, none⟩) s_sown.stores.length cs_11, .int .i64 place, .int .i64 (s_sown.laps + 1), .slice A5_0_14 path.length c5_0_14]) ty_2 rfl rfl rfl rfl rfl rfl rfl rfl) ?_
      rintro _ _ _ ⟨rfl, rfl⟩ _
      refine JL.nil ?_
      refine Js.seq ?_
      refine Js.region ?_
      refine JL.q (OpP.q (p_move rfl)) ?_
      refine JL.q (OpP.q (p_nilCheck rfl)) ?_
      refine JL.q (OpP.q (p_fieldAddr fld_160_0 rfl)) ?_
      refine JL.q (OpP.q (p_fieldAddr fld_32_4 rfl)) ?_
      refine JL.q (q_load1 ty_4 rfl (Mem.box (i := 0) rfl rfl)) ?_
      refine JL.q (OpP.q (p_move rfl)) ?_
      refine JL.g (Gd.t1 rfl rfl rfl) (fun hc => OpP.q (p_move rfl)) ?_
      refine JL.g (Gd.t1 rfl rfl rfl) (fun hc => OpP.q (p_geq (gvt rfl hc) rfl)) ?_
      refine JL.q (OpP.q (p_pickAnd rfl rfl rfl)) ?_
      refine JL.q (OpP.q (p_move rfl)) ?_
      refine JL.g (Gd.t1 rfl rfl rfl) (fun hc => OpP.q (p_move rfl)) ?_
      refine JL.g (Gd.t1 rfl rfl rfl) (fun hc => OpP.q (p_gtr (gvt rfl hc) rfl)) ?_
      refine JL.q (OpP.q (p_pickAnd rfl rfl rfl)) ?_
      refine JL.q (OpP.q (p_assign rfl)) ?_
      refine JL.nil ?_
      refine Js.ret (R := RB w [boxO bs [.int .i64 s_rules.pits, .int .i64 s_rules.seeds, .bool s_rules.stores, .bool s_rules.skip, .bool s_rules.relay, .bool s_rules.feed, .bool s_rules.again, .int .i64 s_rules.capture, .int .i64 s_rules.slam, .int .i64 s_player, .slice (some ⟨b1, 0, none⟩) s_sown.pits.length cs_10, .slice (some ⟨b2, 0, none⟩) s_sown.stores.length cs_11, .int .i64 s_sown.last, .int .i64 s_sown.laps, .slice As_14 s_path.length cs_14] 160, rowO 2 1 (.slice (some ⟨b1, 0, none⟩) s_sown.pits.length cs_10) s_sown.pits.length (ints_ s_sown.pits) gs_10, rowO 2 1 (.slice (some ⟨b2, 0, none⟩) s_sown.stores.length cs_11) s_sown.stores.length (ints_ s_sown.stores) gs_11, rowO 2 1 (.slice As_14 s_path.length cs_14) s_path.length (ints_ s_path) gs_14] (fun v bs' => ∃ Axs_10 cxs_10 gxs_10 Axs_11 cxs_11 gxs_11 Axs_14 cxs_14 gxs_14, v = .bool (M.more s_rules (M.lap s_rules s_player from_ s_sown s_path).1) ∧ bs' = [boxO bs [.int .i64 s_rules.pits, .int .i64 s_rules.seeds, .bool s_rules.stores, .bool s_rules.skip, .bool s_rules.relay, .bool s_rules.feed, .bool s_rules.again, .int .i64 s_rules.capture, .int .i64 s_rules.slam, .int .i64 s_player, .slice Axs_10 ((((M.lap s_rules s_player from_ s_sown s_path).1).pits).length) cxs_10, .slice Axs_11 ((((M.lap s_rules s_player from_ s_sown s_path).1).stores).length) cxs_11, .int .i64 (((M.lap s_rules s_player from_ s_sown s_path).1).last), .int .i64 (((M.lap s_rules s_player from_ s_sown s_path).1).laps), .slice Axs_14 (((M.lap s_rules s_player from_ s_sown s_path).2).length) cxs_14] 160, rowO 2 1 (.slice Axs_10 ((((M.lap s_rules s_player from_ s_sown s_path).1).pits).length) cxs_10) ((((M.lap s_rules s_player from_ s_sown s_path).1).pits).length) (ints_ (((M.lap s_rules s_player from_ s_sown s_path).1).pits)) gxs_10, rowO 2 1 (.slice Axs_11 ((((M.lap s_rules s_player from_ s_sown s_path).1).stores).length) cxs_11) ((((M.lap s_rules s_player from_ s_sown s_path).1).stores).length) (ints_ (((M.lap s_rules s_player from_ s_sown s_path).1).stores)) gxs_11, rowO 2 1 (.slice Axs_14 (((M.lap s_rules s_player from_ s_sown s_path).2).length) cxs_14) (((M.lap s_rules s_player from_ s_sown s_path).2).length) (ints_ ((M.lap s_rules s_player from_ s_sown s_path).2)) gxs_14] ∧ (((M.lap s_rules s_player from_ s_sown s_path).1).pits).length ≤ cxs_10 ∧ cxs_10 ≤ 9223372036854775807 ∧ (((M.lap s_rules s_player from_ s_sown s_path).1).stores).length ≤ cxs_11 ∧ cxs_11 ≤ 9223372036854775807 ∧ ((M.lap s_rules s_player from_ s_sown s_path).2).length ≤ cxs_14 ∧ cxs_14 ≤ 9223372036854775807)) @Try.results163 (fun _ _ => rfl) (ResOk.tmp rfl ResOk.nil) (fun w1 hw => ?_)
      have e5 : 0 ≤ place → (1 < M.getI ps place ↔ 0 < before) := fun h => by rw [hB3 h]; omega
      clear hS
      have hE : (.bool ((s_rules.relay && (decide (0 ≤ place))) && (decide (0 < before))) : Value) = .bool (M.more s_rules (M.lap s_rules s_player from_ s_sown s_path).1) := by rw [hL]; by_cases hp : 0 ≤ place <;> simp [M.more, hp, e5]
      have hN11 : (((M.lap s_rules s_player from_ s_sown s_path).1).pits).length = s_sown.pits.length := by first | (rw [hL]; done) | (rw [hL]; show ps.length = _; omega) | (rw [hL]; show ss.length = _; omega)
      have hE11 : ((M.lap s_rules s_player from_ s_sown s_path).1).pits = ps := by rw [hL]
      have hN12 : (((M.lap s_rules s_player from_ s_sown s_path).1).stores).length = s_sown.stores.length := by first | (rw [hL]; done) | (rw [hL]; show ps.length = _; omega) | (rw [hL]; show ss.length = _; omega)
      have hE12 : ((M.lap s_rules s_player from_ s_sown s_path).1).stores = ss := by rw [hL]
      have hE13 : ((M.lap s_rules s_player from_ s_sown s_path).1).last = place := by rw [hL]
      have hE14 : ((M.lap s_rules s_player from_ s_sown s_path).1).laps = (s_sown.laps + 1) := by rw [hL]
      have hN15 : ((M.lap s_rules s_player from_ s_sown s_path).2).length = path.length := by first | (rw [hL]; done) | (rw [hL]; show ps.length = _; omega) | (rw [hL]; show ss.length = _; omega)
      have hE15 : (M.lap s_rules s_player from_ s_sown s_path).2 = path := by rw [hL]
      refine ⟨_, [boxO bs [.int .i64 s_rules.pits, .int .i64 s_rules.seeds, .bool s_rules.stores, .bool s_rules.skip, .bool s_rules.relay, .bool s_rules.feed, .bool s_rules.again, .int .i64 s_rules.capture, .int .i64 s_rules.slam, .int .i64 s_player, .slice (some ⟨b1, 0, none⟩) s_sown.pits.length cs_10, .slice (some ⟨b2, 0, none⟩) s_sown.stores.length cs_11, .int .i64 place, .int .i64 (s_sown.laps + 1), .slice A5_0_14 path.length c5_0_14] 160, rowO 2 1 (.slice (some ⟨b1, 0, none⟩) s_sown.pits.length cs_10) s_sown.pits.length (ints_ ps) gs_10, rowO 2 1 (.slice (some ⟨b2, 0, none⟩) s_sown.stores.length cs_11) s_sown.stores.length (ints_ ss) gs_11, rowO 2 1 (.slice A5_0_14 path.length c5_0_14) path.length (ints_ path) g5_0_14], _, rfl, ⟨(some ⟨b1, 0, none⟩), cs_10, gs_10, (some ⟨b2, 0, none⟩), cs_11, gs_11, A5_0_14, c5_0_14, g5_0_14, hE, ?_, ?_, ?_, ?_, ?_, ?_, ?_⟩, hw.giveBack hb (x5)⟩
      · rw [hN11, hE11, hN12, hE12, hE13, hE14, hN15, hE15]
      all_goals (first | (rw [hN11, hE11, hN12, hE12, hE13, hE14, hN15, hE15]; omega) | omega | (simp only [*]; omega))

set_option maxRecDepth 100000 in
set_option maxHeartbeats 400000 in
theorem c_impl_sowing_move (s_rules : M.Rul) (s_player : Int) (s_sown : M.Sw) (s_path : List Int) (As_10 : Option Addr) (cs_10 : Nat) (gs_10 : List Nat) (As_11 : Option Addr) (cs_11 : Nat) (gs_11 : List Nat) (As_14 : Option Addr) (cs_14 : Nat) (gs_14 : List Nat) (from_ : Int) (bs : Nat) (w : World) (hb : Bw w [boxO bs [.int .i64 s_rules.pits, .int .i64 s_rules.seeds, .bool s_rules.stores, .bool s_rules.skip, .bool s_rules.relay, .bool s_rules.feed, .bool s_rules.again, .int .i64 s_rules.capture, .int .i64 s_rules.slam, .int .i64 s_player, .slice As_10 s_sown.pits.length cs_10, .slice As_11 s_sown.stores.length cs_11, .int .i64 s_sown.last, .int .i64 s_sown.laps, .slice As_14 s_path.length cs_14] 160, rowO 2 1 (.slice As_10 s_sown.pits.length cs_10) s_sown.pits.length (ints_ s_sown.pits) gs_10, rowO 2 1 (.slice As_11 s_sown.stores.length cs_11) s_sown.stores.length (ints_ s_sown.stores) gs_11, rowO 2 1 (.slice As_14 s_path.length cs_14) s_path.length (ints_ s_path) gs_14]) (bd0 : s_sown.pits.length ≤ cs_10) (bd1 : cs_10 ≤ 9223372036854775807) (bd2 : s_sown.stores.length ≤ cs_11) (bd3 : cs_11 ≤ 9223372036854775807) (bd4 : s_path.length ≤ cs_14) (bd5 : cs_14 ≤ 9223372036854775807) (r0 : 2 ≤ s_rules.pits) (r1 : s_rules.pits ≤ 8) (r2 : s_player = 0 ∨ s_player = 1) (r3 : 0 ≤ from_) (r4 : from_ < 2 * s_rules.pits) (r5 : M.Good s_rules s_sown.pits s_sown.stores 0) (r6 : 0 < (M.getI s_sown.pits from_)) (r7 : s_sown.laps = 0) (r8 : s_path.length = 0) : RetB Try.prog 156 [.pointer (some ⟨bs, 0, none⟩), .int .i64 from_] w [boxO bs [.int .i64 s_rules.pits, .int .i64 s_rules.seeds, .bool s_rules.stores, .bool s_rules.skip, .bool s_rules.relay, .bool s_rules.feed, .bool s_rules.again, .int .i64 s_rules.capture, .int .i64 s_rules.slam, .int .i64 s_player, .slice As_10 s_sown.pits.length cs_10, .slice As_11 s_sown.stores.length cs_11, .int .i64 s_sown.last, .int .i64 s_sown.laps, .slice As_14 s_path.length cs_14] 160, rowO 2 1 (.slice As_10 s_sown.pits.length cs_10) s_sown.pits.length (ints_ s_sown.pits) gs_10, rowO 2 1 (.slice As_11 s_sown.stores.length cs_11) s_sown.stores.length (ints_ s_sown.stores) gs_11, rowO 2 1 (.slice As_14 s_path.length cs_14) s_path.length (ints_ s_path) gs_14] (fun v bs' => ∃ Axs_10 cxs_10 gxs_10 Axs_11 cxs_11 gxs_11 Axs_14 cxs_14 gxs_14, v = .bool ((M.mvT s_rules s_player 100 from_ s_sown s_path).1) ∧ bs' = [boxO bs [.int .i64 s_rules.pits, .int .i64 s_rules.seeds, .bool s_rules.stores, .bool s_rules.skip, .bool s_rules.relay, .bool s_rules.feed, .bool s_rules.again, .int .i64 s_rules.capture, .int .i64 s_rules.slam, .int .i64 s_player, .slice Axs_10 ((((M.mvT s_rules s_player 100 from_ s_sown s_path).2.1).pits).length) cxs_10, .slice Axs_11 ((((M.mvT s_rules s_player 100 from_ s_sown s_path).2.1).stores).length) cxs_11, .int .i64 (((M.mvT s_rules s_player 100 from_ s_sown s_path).2.1).last), .int .i64 (((M.mvT s_rules s_player 100 from_ s_sown s_path).2.1).laps), .slice Axs_14 (((M.mvT s_rules s_player 100 from_ s_sown s_path).2.2).length) cxs_14] 160, rowO 2 1 (.slice Axs_10 ((((M.mvT s_rules s_player 100 from_ s_sown s_path).2.1).pits).length) cxs_10) ((((M.mvT s_rules s_player 100 from_ s_sown s_path).2.1).pits).length) (ints_ (((M.mvT s_rules s_player 100 from_ s_sown s_path).2.1).pits)) gxs_10, rowO 2 1 (.slice Axs_11 ((((M.mvT s_rules s_player 100 from_ s_sown s_path).2.1).stores).length) cxs_11) ((((M.mvT s_rules s_player 100 from_ s_sown s_path).2.1).stores).length) (ints_ (((M.mvT s_rules s_player 100 from_ s_sown s_path).2.1).stores)) gxs_11, rowO 2 1 (.slice Axs_14 (((M.mvT s_rules s_player 100 from_ s_sown s_path).2.2).length) cxs_14) (((M.mvT s_rules s_player 100 from_ s_sown s_path).2.2).length) (ints_ ((M.mvT s_rules s_player 100 from_ s_sown s_path).2.2)) gxs_14] ∧ (((M.mvT s_rules s_player 100 from_ s_sown s_path).2.1).pits).length ≤ cxs_10 ∧ cxs_10 ≤ 9223372036854775807 ∧ (((M.mvT s_rules s_player 100 from_ s_sown s_path).2.1).stores).length ≤ cxs_11 ∧ cxs_11 ≤ 9223372036854775807 ∧ ((M.mvT s_rules s_player 100 from_ s_sown s_path).2.2).length ≤ cxs_14 ∧ cxs_14 ≤ 9223372036854775807) := by
  refine enterB hb @Try.func156 @Try.ntmps156 rfl rfl ?_
  refine Js.trashE ?_
  refine Js.seq ?_
  refine Js.region ?_
  refine JL.q (OpP.q (p_assign rfl)) ?_
  refine JL.nil ?_
  refine Js.seq ?_
  refine Js.block ?_
  refine Js.loop (fun l os u m => ∃ (frm : Int) (sw : M.Sw) (path : List Int) (A1_0_10 : Option Addr) (c1_0_10 : Nat) (g1_0_10 : List Nat) (A1_0_11 : Option Addr) (c1_0_11 : Nat) (g1_0_11 : List Nat) (A1_0_14 : Option Addr) (c1_0_14 : Nat) (g1_0_14 : List Nat) (G1_4 : List Nat), l = [(0, .pointer (some ⟨bs, 0, none⟩)), (1, .int .i64 frm)] ∧ os = [boxO bs [.int .i64 s_rules.pits, .int .i64 s_rules.seeds, .bool s_rules.stores, .bool s_rules.skip, .bool s_rules.relay, .bool s_rules.feed, .bool s_rules.again, .int .i64 s_rules.capture, .int .i64 s_rules.slam, .int .i64 s_player, .slice A1_0_10 sw.pits.length c1_0_10, .slice A1_0_11 sw.stores.length c1_0_11, .int .i64 sw.last, .int .i64 sw.laps, .slice A1_0_14 path.length c1_0_14] 160, rowO 2 1 (.slice A1_0_10 sw.pits.length c1_0_10) sw.pits.length (ints_ sw.pits) g1_0_10, rowO 2 1 (.slice A1_0_11 sw.stores.length c1_0_11) sw.stores.length (ints_ sw.stores) g1_0_11, rowO 2 1 (.slice A1_0_14 path.length c1_0_14) path.length (ints_ path) g1_0_14, anyO G1_4] ∧ Up w.heap.size (offW w (([boxO bs [.int .i64 s_rules.pits, .int .i64 s_rules.seeds, .bool s_rules.stores, .bool s_rules.skip, .bool s_rules.relay, .bool s_rules.feed, .bool s_rules.again, .int .i64 s_rules.capture, .int .i64 s_rules.slam, .int .i64 s_player, .slice As_10 s_sown.pits.length cs_10, .slice As_11 s_sown.stores.length cs_11, .int .i64 s_sown.last, .int .i64 s_sown.laps, .slice As_14 s_path.length cs_14] 160, rowO 2 1 (.slice As_10 s_sown.pits.length cs_10) s_sown.pits.length (ints_ s_sown.pits) gs_10, rowO 2 1 (.slice As_11 s_sown.stores.length cs_11) s_sown.stores.length (ints_ s_sown.stores) gs_11, rowO 2 1 (.slice As_14 s_path.length cs_14) s_path.length (ints_ s_path) gs_14] : List Own).flatMap (·.fp))) u ∧ (M.mvT s_rules s_player (100 - sw.laps).toNat frm sw path = M.mvT s_rules s_player 100 from_ s_sown s_path) ∧ (M.Good s_rules sw.pits sw.stores 0) ∧ (0 ≤ frm) ∧ (frm < 2 * s_rules.pits) ∧ (0 < M.getI sw.pits frm) ∧ (0 ≤ sw.laps) ∧ (sw.laps ≤ 99) ∧ (path.length ≤ 96 * sw.laps) ∧ (sw.pits.length ≤ c1_0_10) ∧ (c1_0_10 ≤ 9223372036854775807) ∧ (sw.stores.length ≤ c1_0_11) ∧ (c1_0_11 ≤ 9223372036854775807) ∧ (path.length ≤ c1_0_14) ∧ (c1_0_14 ≤ 9223372036854775807) ∧ m = (100 - sw.laps).toNat) ⟨from_, s_sown, s_path, _, _, _, _, _, _, _, _, _, _, rfl, rfl, Up.refl _ _, by rw [r7]; rfl, by exact r5, by first | assumption | omega | rfl | (simp; done), by first | assumption | omega | rfl | (simp; done), by exact r6, by first | assumption | omega | rfl | (simp; done), by first | assumption | omega | rfl | (simp; done), by first | assumption | omega | rfl | (simp; done), by first | omega | (simp only [List.length_append, List.length_cons, List.length_nil] <;> omega), by first | omega | (simp only [List.length_append, List.length_cons, List.length_nil] <;> omega), by first | omega | (simp only [List.length_append, List.length_cons, List.length_nil] <;> omega), by first | omega | (simp only [List.length_append, List.length_cons, List.length_nil] <;> omega), by first | omega | (simp only [List.length_append, List.length_cons, List.length_nil] <;> omega), by first | omega | (simp only [List.length_append, List.length_cons, List.length_nil] <;> omega), rfl⟩ ⟨rfl, rfl, trivial⟩ ?_
  · rintro _ _ u1 _ ⟨frm, sw, path, A1_0_10, c1_0_10, g1_0_10, A1_0_11, c1_0_11, g1_0_11, A1_0_14, c1_0_14, g1_0_14, G1_4, rfl, rfl, x1, hS, hG, f0, f1, hg, la0, la1, hl, f1_8, f1_9, f1_10, f1_11, f1_12, f1_13, rfl⟩
    obtain ⟨ha, hb1, hc, hd, he, hf⟩ := M.lap_keeps s_rules path r1 r0 r2 f0 f1 hG
    refine Js.seq ?_
    refine Js.seq ?_
    refine Js.region ?_
    refine JL.q (OpP.q (p_move rfl)) ?_
    refine JL.q (OpP.q (p_move rfl)) ?_
    refine JL.e (e_callBB (bs := [boxO bs [.int .i64 s_rules.pits, .int .i64 s_rules.seeds, .bool s_rules.stores, .bool s_rules.skip, .bool s_rules.relay, .bool s_rules.feed, .bool s_rules.again, .int .i64 s_rules.capture, .int .i64 s_rules.slam, .int .i64 s_player, .slice A1_0_10 sw.pits.length c1_0_10, .slice A1_0_11 sw.stores.length c1_0_11, .int .i64 sw.last, .int .i64 sw.laps, .slice A1_0_14 path.length c1_0_14] 160, rowO 2 1 (.slice A1_0_10 sw.pits.length c1_0_10) sw.pits.length (ints_ sw.pits) g1_0_10, rowO 2 1 (.slice A1_0_11 sw.stores.length c1_0_11) sw.stores.length (ints_ sw.stores) g1_0_11, rowO 2 1 (.slice A1_0_14 path.length c1_0_14) path.length (ints_ path) g1_0_14]) (rest := [anyO G1_4]) fn_163 rfl (fun w hb ⟨_, hw⟩ => c_impl_sowing_lap s_rules s_player sw path A1_0_10 c1_0_10 g1_0_10 A1_0_11 c1_0_11 g1_0_11 A1_0_14 c1_0_14 g1_0_14 frm bs w hb (by omega) (by omega) (by omega) (by omega) (by omega) (by omega) (by omega) (by omega) (by omega) (by omega) (by omega) (by omega) (by omega) (by omega) (by omega) (by omega))) ?_
    rintro _ _ _ ⟨_, G2, ⟨A2s_10, c2s_10, g2s_10, A2s_11, c2s_11, g2s_11, A2s_14, c2s_14, g2s_14, rfl, rfl, bl2_0, bl2_1, bl2_2, bl2_3, bl2_4, bl2_5⟩, rfl, rfl⟩ _
    refine JL.nil ?_
    refine Js.cond rfl (fun h3 => ?_) (fun h3 => ?_)
    ·
      have h3' := h3
      have hm2 := M.more_get h3
      refine Js.skip ?_
      refine Js.block ?_
      refine Js.seq ?_
      refine Js.seq ?_
      refine Js.region ?_
      refine JL.q (OpP.q (p_move rfl)) ?_
      refine JL.q (OpP.q (p_nilCheck rfl)) ?_
      refine JL.q (OpP.q (p_fieldAddr fld_160_2 rfl)) ?_
      refine JL.q (OpP.q (p_fieldAddr fld_129_3 rfl)) ?_
      refine JL.q (q_load1 ty_2 rfl (Mem.box (i := 0) rfl rfl)) ?_
      refine JL.q (OpP.q (p_eql rfl rfl)) ?_
      refine JL.nil ?_
      refine Js.cond rfl (fun h4 => ?_) (fun h4 => ?_)
      ·
        have h4' := h4
        try simp only [decide_eq_true_eq] at h4'
        have hL : M.mvT s_rules s_player 100 from_ s_sown s_path = (false, (M.lap s_rules s_player frm sw path).1, (M.lap s_rules s_player frm sw path).2) := by rw [← hS, show (100 - sw.laps).toNat = 0 + 1 by omega, M.mvT_yes (by assumption)]; rfl
        refine Js.seq ?_
        refine Js.region ?_
        refine JL.q (OpP.q (p_assign rfl)) ?_
        refine JL.nil ?_
        refine Js.eat (i := 4) (j := 5) rfl rfl rfl ?_
        refine Js.ret (R := RB w [boxO bs [.int .i64 s_rules.pits, .int .i64 s_rules.seeds, .bool s_rules.stores, .bool s_rules.skip, .bool s_rules.relay, .bool s_rules.feed, .bool s_rules.again, .int .i64 s_rules.capture, .int .i64 s_rules.slam, .int .i64 s_player, .slice As_10 s_sown.pits.length cs_10, .slice As_11 s_sown.stores.length cs_11, .int .i64 s_sown.last, .int .i64 s_sown.laps, .slice As_14 s_path.length cs_14] 160, rowO 2 1 (.slice As_10 s_sown.pits.length cs_10) s_sown.pits.length (ints_ s_sown.pits) gs_10, rowO 2 1 (.slice As_11 s_sown.stores.length cs_11) s_sown.stores.length (ints_ s_sown.stores) gs_11, rowO 2 1 (.slice As_14 s_path.length cs_14) s_path.length (ints_ s_path) gs_14] (fun v bs' => ∃ Axs_10 cxs_10 gxs_10 Axs_11 cxs_11 gxs_11 Axs_14 cxs_14 gxs_14, v = .bool ((M.mvT s_rules s_player 100 from_ s_sown s_path).1) ∧ bs' = [boxO bs [.int .i64 s_rules.pits, .int .i64 s_rules.seeds, .bool s_rules.stores, .bool s_rules.skip, .bool s_rules.relay, .bool s_rules.feed, .bool s_rules.again, .int .i64 s_rules.capture, .int .i64 s_rules.slam, .int .i64 s_player, .slice Axs_10 ((((M.mvT s_rules s_player 100 from_ s_sown s_path).2.1).pits).length) cxs_10, .slice Axs_11 ((((M.mvT s_rules s_player 100 from_ s_sown s_path).2.1).stores).length) cxs_11, .int .i64 (((M.mvT s_rules s_player 100 from_ s_sown s_path).2.1).last), .int .i64 (((M.mvT s_rules s_player 100 from_ s_sown s_path).2.1).laps), .slice Axs_14 (((M.mvT s_rules s_player 100 from_ s_sown s_path).2.2).length) cxs_14] 160, rowO 2 1 (.slice Axs_10 ((((M.mvT s_rules s_player 100 from_ s_sown s_path).2.1).pits).length) cxs_10) ((((M.mvT s_rules s_player 100 from_ s_sown s_path).2.1).pits).length) (ints_ (((M.mvT s_rules s_player 100 from_ s_sown s_path).2.1).pits)) gxs_10, rowO 2 1 (.slice Axs_11 ((((M.mvT s_rules s_player 100 from_ s_sown s_path).2.1).stores).length) cxs_11) ((((M.mvT s_rules s_player 100 from_ s_sown s_path).2.1).stores).length) (ints_ (((M.mvT s_rules s_player 100 from_ s_sown s_path).2.1).stores)) gxs_11, rowO 2 1 (.slice Axs_14 (((M.mvT s_rules s_player 100 from_ s_sown s_path).2.2).length) cxs_14) (((M.mvT s_rules s_player 100 from_ s_sown s_path).2.2).length) (ints_ ((M.mvT s_rules s_player 100 from_ s_sown s_path).2.2)) gxs_14] ∧ (((M.mvT s_rules s_player 100 from_ s_sown s_path).2.1).pits).length ≤ cxs_10 ∧ cxs_10 ≤ 9223372036854775807 ∧ (((M.mvT s_rules s_player 100 from_ s_sown s_path).2.1).stores).length ≤ cxs_11 ∧ cxs_11 ≤ 9223372036854775807 ∧ ((M.mvT s_rules s_player 100 from_ s_sown s_path).2.2).length ≤ cxs_14 ∧ cxs_14 ≤ 9223372036854775807)) @Try.results156 (fun _ _ => rfl) (ResOk.tmp rfl ResOk.nil) (fun w1 hw => ?_)
        have hE : (.bool false : Value) = .bool ((M.mvT s_rules s_player 100 from_ s_sown s_path).1) := by rw [hL]
        have hN11 : (((M.mvT s_rules s_player 100 from_ s_sown s_path).2.1).pits).length = (((M.lap s_rules s_player frm sw path).1).pits).length := by rw [hL]
        have hE11 : ((M.mvT s_rules s_player 100 from_ s_sown s_path).2.1).pits = (((M.lap s_rules s_player frm sw path).1).pits) := by rw [hL]
        have hN12 : (((M.mvT s_rules s_player 100 from_ s_sown s_path).2.1).stores).length = (((M.lap s_rules s_player frm sw path).1).stores).length := by rw [hL]
        have hE12 : ((M.mvT s_rules s_player 100 from_ s_sown s_path).2.1).stores = (((M.lap s_rules s_player frm sw path).1).stores) := by rw [hL]
        have hE13 : ((M.mvT s_rules s_player 100 from_ s_sown s_path).2.1).last = (((M.lap s_rules s_player frm sw path).1).last) := by rw [hL]
        have hE14 : ((M.mvT s_rules s_player 100 from_ s_sown s_path).2.1).laps = (((M.lap s_rules s_player frm sw path).1).laps) := by rw [hL]
        have hN15 : ((M.mvT s_rules s_player 100 from_ s_sown s_path).2.2).length = ((M.lap s_rules s_player frm sw path).2).length := by rw [hL]
        have hE15 : (M.mvT s_rules s_player 100 from_ s_sown s_path).2.2 = ((M.lap s_rules s_player frm sw path).2) := by rw [hL]
        refine ⟨_, [boxO bs [.int .i64 s_rules.pits, .int .i64 s_rules.seeds, .bool s_rules.stores, .bool s_rules.skip, .bool s_rules.relay, .bool s_rules.feed, .bool s_rules.again, .int .i64 s_rules.capture, .int .i64 s_rules.slam, .int .i64 s_player, .slice A2s_10 ((((M.lap s_rules s_player frm sw path).1).pits).length) c2s_10, .slice A2s_11 ((((M.lap s_rules s_player frm sw path).1).stores).length) c2s_11, .int .i64 (((M.lap s_rules s_player frm sw path).1).last), .int .i64 (((M.lap s_rules s_player frm sw path).1).laps), .slice A2s_14 (((M.lap s_rules s_player frm sw path).2).length) c2s_14] 160, rowO 2 1 (.slice A2s_10 ((((M.lap s_rules s_player frm sw path).1).pits).length) c2s_10) ((((M.lap s_rules s_player frm sw path).1).pits).length) (ints_ (((M.lap s_rules s_player frm sw path).1).pits)) g2s_10, rowO 2 1 (.slice A2s_11 ((((M.lap s_rules s_player frm sw path).1).stores).length) c2s_11) ((((M.lap s_rules s_player frm sw path).1).stores).length) (ints_ (((M.lap s_rules s_player frm sw path).1).stores)) g2s_11, rowO 2 1 (.slice A2s_14 (((M.lap s_rules s_player frm sw path).2).length) c2s_14) (((M.lap s_rules s_player frm sw path).2).length) (ints_ ((M.lap s_rules s_player frm sw path).2)) g2s_14], _, rfl, ⟨A2s_10, c2s_10, g2s_10, A2s_11, c2s_11, g2s_11, A2s_14, c2s_14, g2s_14, hE, ?_, ?_, ?_, ?_, ?_, ?_, ?_⟩, hw.giveBack hb (x1)⟩
        · rw [hN11, hE11, hN12, hE12, hE13, hE14, hN15, hE15]
        all_goals (first | (rw [hN11, hE11, hN12, hE12, hE13, hE14, hN15, hE15]; omega) | omega | (simp only [*]; omega))
      ·
        have h4' := h4
        try simp only [decide_eq_false_iff_not] at h4'
        have hS2 : M.mvT s_rules s_player (100 - (M.lap s_rules s_player frm sw path).1.laps).toNat (M.lap s_rules s_player frm sw path).1.last (M.lap s_rules s_player frm sw path).1 (M.lap s_rules s_player frm sw path).2 = M.mvT s_rules s_player 100 from_ s_sown s_path := by rw [← hS, hf, show (100 - sw.laps).toNat = (100 - (sw.laps + 1)).toNat + 1 by omega, M.mvT_yes (by assumption)]
        refine Js.skip ?_
        refine Js.region ?_
        refine JL.q (OpP.q (p_move rfl)) ?_
        refine JL.q (OpP.q (p_nilCheck rfl)) ?_
        refine JL.q (OpP.q (p_fieldAddr fld_160_2 rfl)) ?_
        refine JL.q (OpP.q (p_fieldAddr fld_129_2 rfl)) ?_
        refine JL.q (q_load1 ty_2 rfl (Mem.box (i := 0) rfl rfl)) ?_
        refine JL.q (OpP.q (p_assign rfl)) ?_
        refine JL.nil ?_
        refine Js.blockEnd ?_
        refine Js.eat (i := 4) (j := 5) rfl rfl rfl ?_
        exact Js.again ⟨((M.lap s_rules s_player frm sw path).1).last, (M.lap s_rules s_player frm sw path).1, (M.lap s_rules s_player frm sw path).2, _, _, _, _, _, _, _, _, _, _, rfl, rfl, x1, by exact hS2, by exact ha, by exact hm2.1, by exact hc, by omega, by omega, by omega, by omega, by first | omega | (simp only [List.length_append, List.length_cons, List.length_nil] <;> omega), by first | omega | (simp only [List.length_append, List.length_cons, List.length_nil] <;> omega), by first | omega | (simp only [List.length_append, List.length_cons, List.length_nil] <;> omega), by first | omega | (simp only [List.length_append, List.length_cons, List.length_nil] <;> omega), by first | omega | (simp only [List.length_append, List.length_cons, List.length_nil] <;> omega), by first | omega | (simp only [List.length_append, List.length_cons, List.length_nil] <;> omega), rfl⟩ (by omega) ⟨rfl, rfl, trivial⟩
    ·
      have h3' := h3
      have hL : M.mvT s_rules s_player 100 from_ s_sown s_path = (true, (M.lap s_rules s_player frm sw path).1, (M.lap s_rules s_player frm sw path).2) := by rw [← hS, show (100 - sw.laps).toNat = (99 - sw.laps).toNat + 1 by omega, M.mvT_no h3]
      refine Js.exit (fun _ _ => rfl) ?_
      refine Js.seq ?_
      refine Js.region ?_
      refine JL.q (OpP.q (p_assign rfl)) ?_
      refine JL.nil ?_
      refine Js.eat (i := 4) (j := 5) rfl rfl rfl ?_
      refine Js.ret (R := RB w [boxO bs [.int .i64 s_rules.pits, .int .i64 s_rules.seeds, .bool s_rules.stores, .bool s_rules.skip, .bool s_rules.relay, .bool s_rules.feed, .bool s_rules.again, .int .i64 s_rules.capture, .int .i64 s_rules.slam, .int .i64 s_player, .slice As_10 s_sown.pits.length cs_10, .slice As_11 s_sown.stores.length cs_11, .int .i64 s_sown.last, .int .i64 s_sown.laps, .slice As_14 s_path.length cs_14] 160, rowO 2 1 (.slice As_10 s_sown.pits.length cs_10) s_sown.pits.length (ints_ s_sown.pits) gs_10, rowO 2 1 (.slice As_11 s_sown.stores.length cs_11) s_sown.stores.length (ints_ s_sown.stores) gs_11, rowO 2 1 (.slice As_14 s_path.length cs_14) s_path.length (ints_ s_path) gs_14] (fun v bs' => ∃ Axs_10 cxs_10 gxs_10 Axs_11 cxs_11 gxs_11 Axs_14 cxs_14 gxs_14, v = .bool ((M.mvT s_rules s_player 100 from_ s_sown s_path).1) ∧ bs' = [boxO bs [.int .i64 s_rules.pits, .int .i64 s_rules.seeds, .bool s_rules.stores, .bool s_rules.skip, .bool s_rules.relay, .bool s_rules.feed, .bool s_rules.again, .int .i64 s_rules.capture, .int .i64 s_rules.slam, .int .i64 s_player, .slice Axs_10 ((((M.mvT s_rules s_player 100 from_ s_sown s_path).2.1).pits).length) cxs_10, .slice Axs_11 ((((M.mvT s_rules s_player 100 from_ s_sown s_path).2.1).stores).length) cxs_11, .int .i64 (((M.mvT s_rules s_player 100 from_ s_sown s_path).2.1).last), .int .i64 (((M.mvT s_rules s_player 100 from_ s_sown s_path).2.1).laps), .slice Axs_14 (((M.mvT s_rules s_player 100 from_ s_sown s_path).2.2).length) cxs_14] 160, rowO 2 1 (.slice Axs_10 ((((M.mvT s_rules s_player 100 from_ s_sown s_path).2.1).pits).length) cxs_10) ((((M.mvT s_rules s_player 100 from_ s_sown s_path).2.1).pits).length) (ints_ (((M.mvT s_rules s_player 100 from_ s_sown s_path).2.1).pits)) gxs_10, rowO 2 1 (.slice Axs_11 ((((M.mvT s_rules s_player 100 from_ s_sown s_path).2.1).stores).length) cxs_11) ((((M.mvT s_rules s_player 100 from_ s_sown s_path).2.1).stores).length) (ints_ (((M.mvT s_rules s_player 100 from_ s_sown s_path).2.1).stores)) gxs_11, rowO 2 1 (.slice Axs_14 (((M.mvT s_rules s_player 100 from_ s_sown s_path).2.2).length) cxs_14) (((M.mvT s_rules s_player 100 from_ s_sown s_path).2.2).length) (ints_ ((M.mvT s_rules s_player 100 from_ s_sown s_path).2.2)) gxs_14] ∧ (((M.mvT s_rules s_player 100 from_ s_sown s_path).2.1).pits).length ≤ cxs_10 ∧ cxs_10 ≤ 9223372036854775807 ∧ (((M.mvT s_rules s_player 100 from_ s_sown s_path).2.1).stores).length ≤ cxs_11 ∧ cxs_11 ≤ 9223372036854775807 ∧ ((M.mvT s_rules s_player 100 from_ s_sown s_path).2.2).length ≤ cxs_14 ∧ cxs_14 ≤ 9223372036854775807)) @Try.results156 (fun _ _ => rfl) (ResOk.tmp rfl ResOk.nil) (fun w1 hw => ?_)
      have hE : (.bool true : Value) = .bool ((M.mvT s_rules s_player 100 from_ s_sown s_path).1) := by rw [hL]
      have hN11 : (((M.mvT s_rules s_player 100 from_ s_sown s_path).2.1).pits).length = (((M.lap s_rules s_player frm sw path).1).pits).length := by rw [hL]
      have hE11 : ((M.mvT s_rules s_player 100 from_ s_sown s_path).2.1).pits = (((M.lap s_rules s_player frm sw path).1).pits) := by rw [hL]
      have hN12 : (((M.mvT s_rules s_player 100 from_ s_sown s_path).2.1).stores).length = (((M.lap s_rules s_player frm sw path).1).stores).length := by rw [hL]
      have hE12 : ((M.mvT s_rules s_player 100 from_ s_sown s_path).2.1).stores = (((M.lap s_rules s_player frm sw path).1).stores) := by rw [hL]
      have hE13 : ((M.mvT s_rules s_player 100 from_ s_sown s_path).2.1).last = (((M.lap s_rules s_player frm sw path).1).last) := by rw [hL]
      have hE14 : ((M.mvT s_rules s_player 100 from_ s_sown s_path).2.1).laps = (((M.lap s_rules s_player frm sw path).1).laps) := by rw [hL]
      have hN15 : ((M.mvT s_rules s_player 100 from_ s_sown s_path).2.2).length = ((M.lap s_rules s_player frm sw path).2).length := by rw [hL]
      have hE15 : (M.mvT s_rules s_player 100 from_ s_sown s_path).2.2 = ((M.lap s_rules s_player frm sw path).2) := by rw [hL]
      refine ⟨_, [boxO bs [.int .i64 s_rules.pits, .int .i64 s_rules.seeds, .bool s_rules.stores, .bool s_rules.skip, .bool s_rules.relay, .bool s_rules.feed, .bool s_rules.again, .int .i64 s_rules.capture, .int .i64 s_rules.slam, .int .i64 s_player, .slice A2s_10 ((((M.lap s_rules s_player frm sw path).1).pits).length) c2s_10, .slice A2s_11 ((((M.lap s_rules s_player frm sw path).1).stores).length) c2s_11, .int .i64 (((M.lap s_rules s_player frm sw path).1).last), .int .i64 (((M.lap s_rules s_player frm sw path).1).laps), .slice A2s_14 (((M.lap s_rules s_player frm sw path).2).length) c2s_14] 160, rowO 2 1 (.slice A2s_10 ((((M.lap s_rules s_player frm sw path).1).pits).length) c2s_10) ((((M.lap s_rules s_player frm sw path).1).pits).length) (ints_ (((M.lap s_rules s_player frm sw path).1).pits)) g2s_10, rowO 2 1 (.slice A2s_11 ((((M.lap s_rules s_player frm sw path).1).stores).length) c2s_11) ((((M.lap s_rules s_player frm sw path).1).stores).length) (ints_ (((M.lap s_rules s_player frm sw path).1).stores)) g2s_11, rowO 2 1 (.slice A2s_14 (((M.lap s_rules s_player frm sw path).2).length) c2s_14) (((M.lap s_rules s_player frm sw path).2).length) (ints_ ((M.lap s_rules s_player frm sw path).2)) g2s_14], _, rfl, ⟨A2s_10, c2s_10, g2s_10, A2s_11, c2s_11, g2s_11, A2s_14, c2s_14, g2s_14, hE, ?_, ?_, ?_, ?_, ?_, ?_, ?_⟩, hw.giveBack hb (x1)⟩
      · rw [hN11, hE11, hN12, hE12, hE13, hE14, hN15, hE15]
      all_goals (first | (rw [hN11, hE11, hN12, hE12, hE13, hE14, hN15, hE15]; omega) | omega | (simp only [*]; omega))

set_option maxRecDepth 100000 in
set_option maxHeartbeats 400000 in
theorem c_impl_sowMove (r : M.Rul) (v_r : Value) (p : M.Pos) (v_p : Value) (move : Int) (w : World) (h_r : (Ty.agg (cRules r)).ok w v_r) (h_p : (Ty.agg (cPosition p)).ok w v_p) (r0 : p.pits.length ≤ 4194304) (r1 : p.stores.length ≤ 4194304) : Ret Try.prog 148 [v_r, v_p, .int .i64 move] w (Ty.tup [Ty.opt (decide ((M.sowMove r p move).1 = 0)) (Ty.box 160 (csowing (M.Sow.mk r p.player (M.sowMove r p move).2.1 (M.sowMove r p move).2.2))), Ty.int ((M.sowMove r p move).1)]) := by
  obtain rfl := open_Rules h_r
  obtain ⟨A2_0, c2_0, A2_1, c2_1, rfl, h2_0, h2_1, bl2_0, bh2_0, bl2_1, bh2_1⟩ := open_Position h_p
  refine enter @Try.func148 @Try.ntmps148 rfl rfl ?_
  refine Js.seq ?_
  refine Js.region ?_
  refine JL.e (e_box (c := [.int .i64 r.pits, .int .i64 r.seeds, .bool r.stores, .bool r.skip, .bool r.relay, .bool r.feed, .bool r.again, .int .i64 r.capture, .int .i64 r.slam]) rfl rfl) ?_
  rintro _ _ _ ⟨b3, rfl, rfl, rfl⟩ _
  refine JL.e (e_box (c := [.slice A2_0 p.pits.length c2_0, .slice A2_1 p.stores.length c2_1, .int .i64 p.player]) rfl rfl) ?_
  rintro _ _ _ ⟨b4, rfl, rfl, rfl⟩ _
  refine JL.q (OpP.q (p_assign rfl)) ?_
  refine JL.q (OpP.q (p_assign rfl)) ?_
  refine JL.nil ?_
  refine Js.seq ?_
  refine Js.seq ?_
  refine Js.region ?_
  refine JL.q (q_loadN ty_32 rfl (Mem.boxR (i := 1) rfl 0 9) rfl rfl) ?_
  refine JL.q (q_loadN ty_33 rfl (Mem.boxR (i := 0) rfl 0 3) rfl rfl) ?_
  refine JL.q (OpP.q (p_move rfl)) ?_
  refine JL.e (e_callV fn_154 rfl (fun w hw => c_impl_sowCode r _ p _ move w ⟨_, rfl, ⟨rfl, rfl, rfl, rfl, rfl, rfl, rfl, rfl, rfl, trivial⟩⟩ ⟨_, rfl, ⟨(Ty.mono _ h2_0 hw.vis), (Ty.mono _ h2_1 hw.vis), rfl, trivial⟩⟩ (by omega) (by omega))) ?_
  rintro _ _ _ ⟨rfl, rfl, rfl⟩ _
  refine JL.q (OpP.q (p_assign rfl)) ?_
  refine JL.nil ?_
  refine Js.seq ?_
  refine Js.region ?_
  refine JL.q (OpP.q (p_move rfl)) ?_
  refine JL.q (OpP.q (p_neq rfl rfl)) ?_
  refine JL.nil ?_
  refine Js.cond rfl (fun h5 => ?_) (fun h5 => ?_)
  ·
    have h5' := h5
    try simp only [Bool.not_eq_true', decide_eq_false_iff_not] at h5'
    have hn : M.sowCode r p move ≠ 0 := by simpa using h5
    have hM := M.sowMove_code hn
    have hM0 : ¬ M.sowCode r p move = 0 := hn
    refine Js.seq ?_
    refine Js.region ?_
    refine JL.q (OpP.q (p_move rfl)) ?_
    refine JL.q (OpP.q (p_assign rfl)) ?_
    refine JL.q (OpP.q (p_assign rfl)) ?_
    refine JL.nil ?_
    refine Js.ret (R := RO w (Ty.tup [Ty.opt (decide ((M.sowMove r p move).1 = 0)) (Ty.box 160 (csowing (M.Sow.mk r p.player (M.sowMove r p move).2.1 (M.sowMove r p move).2.2))), Ty.int ((M.sowMove r p move).1)])) @Try.results148 (fun _ _ => rfl) (ResOk.tmp rfl (ResOk.tmp rfl ResOk.nil)) (fun w1 hw => ?_)
    have hx := hw.ext (Up.refl _ _)
    exact ret_own (ps := []) hw hx ⟨_, rfl, ⟨_, _, rfl, (opt_nil (by rw [hM]; simpa using hM0)), ⟨_, _, rfl, ⟨by rw [hM], rfl⟩, rfl⟩⟩⟩ Pick.nil (by simp [List.flatten, outV])
  ·
    have h5' := h5
    try simp only [Bool.not_eq_false', decide_eq_true_eq] at h5'
    have hc0 : M.sowCode r p move = 0 := by simpa using h5
    obtain ⟨hok, m0, m1, hg0⟩ := M.sowCode_ok hc0
    obtain ⟨g1, g2, g3, g4, g5, g6, g7⟩ := M.okP_bd hok
    have hq := M.mul_bd g7 g1 g2
    have hG := M.Good.of_ok hok
    refine Js.skip ?_
    refine Js.seq ?_
    refine Js.region ?_
    refine JL.q (q_loadN ty_32 rfl (Mem.boxR (i := 1) rfl 0 9) rfl rfl) ?_
    refine JL.q (q_loadN ty_33 rfl (Mem.boxR (i := 0) rfl 0 3) rfl rfl) ?_
    refine JL.e (e_callO fn_155 rfl (Spl.box (Spls.cons (Spl.val _) (Spls.cons (Spl.val _) (Spls.cons (Spl.val _) (Spls.cons (Spl.val _) (Spls.cons (Spl.val _) (Spls.cons (Spl.val _) (Spls.cons (Spl.val _) (Spls.cons (Spl.val _) (Spls.cons (Spl.val _) (Spls.cons (Spl.val _) (Spls.cons (Spl.ints _ _) (Spls.cons (Spl.ints _ _) (Spls.cons (Spl.val _) (Spls.cons (Spl.val _) (Spls.cons (Spl.ints _ _) Spls.nil)))))))))))))))) (fun w hw => c_impl_newSowing r _ p _ w ⟨_, rfl, ⟨rfl, rfl, rfl, rfl, rfl, rfl, rfl, rfl, rfl, trivial⟩⟩ ⟨_, rfl, ⟨(Ty.mono _ h2_0 hw.vis), (Ty.mono _ h2_1 hw.vis), rfl, trivial⟩⟩ (by omega) (by omega))) ?_
    rintro v6 _ _ ⟨_, hR7, rfl, rfl⟩ _
    obtain ⟨b8, vs8, os8, rfl, hr8, rfl⟩ := hR7
    obtain ⟨v8_0, vs8_0, o8_0, ow8_0, rfl, hR8_0, hs8_0, rfl⟩ := RL_cons hr8
    obtain ⟨v8_1, vs8_1, o8_1, ow8_1, rfl, hR8_1, hs8_1, rfl⟩ := RL_cons hs8_0
    obtain ⟨v8_2, vs8_2, o8_2, ow8_2, rfl, hR8_2, hs8_2, rfl⟩ := RL_cons hs8_1
    obtain ⟨v8_3, vs8_3, o8_3, ow8_3, rfl, hR8_3, hs8_3, rfl⟩ := RL_cons hs8_2
    obtain ⟨v8_4, vs8_4, o8_4, ow8_4, rfl, hR8_4, hs8_4, rfl⟩ := RL_cons hs8_3
    obtain ⟨v8_5, vs8_5, o8_5, ow8_5, rfl, hR8_5, hs8_5, rfl⟩ := RL_cons hs8_4
    obtain ⟨v8_6, vs8_6, o8_6, ow8_6, rfl, hR8_6, hs8_6, rfl⟩ := RL_cons hs8_5
    obtain ⟨v8_7, vs8_7, o8_7, ow8_7, rfl, hR8_7, hs8_7, rfl⟩ := RL_cons hs8_6
    obtain ⟨v8_8, vs8_8, o8_8, ow8_8, rfl, hR8_8, hs8_8, rfl⟩ := RL_cons hs8_7
    obtain ⟨v8_9, vs8_9, o8_9, ow8_9, rfl, hR8_9, hs8_9, rfl⟩ := RL_cons hs8_8
    obtain ⟨v8_10, vs8_10, o8_10, ow8_10, rfl, hR8_10, hs8_10, rfl⟩ := RL_cons hs8_9
    obtain ⟨v8_11, vs8_11, o8_11, ow8_11, rfl, hR8_11, hs8_11, rfl⟩ := RL_cons hs8_10
    obtain ⟨v8_12, vs8_12, o8_12, ow8_12, rfl, hR8_12, hs8_12, rfl⟩ := RL_cons hs8_11
    obtain ⟨v8_13, vs8_13, o8_13, ow8_13, rfl, hR8_13, hs8_13, rfl⟩ := RL_cons hs8_12
    obtain ⟨v8_14, vs8_14, o8_14, ow8_14, rfl, hR8_14, hs8_14, rfl⟩ := RL_cons hs8_13
    obtain ⟨rfl, rfl⟩ := RL_nil hs8_14
    obtain ⟨rfl, rfl⟩ : v8_0 = .int .i64 r.pits ∧ _ := hR8_0
    obtain ⟨rfl, rfl⟩ : v8_1 = .int .i64 r.seeds ∧ _ := hR8_1
    obtain ⟨rfl, rfl⟩ : v8_2 = .bool r.stores ∧ _ := hR8_2
    obtain ⟨rfl, rfl⟩ : v8_3 = .bool r.skip ∧ _ := hR8_3
    obtain ⟨rfl, rfl⟩ : v8_4 = .bool r.relay ∧ _ := hR8_4
    obtain ⟨rfl, rfl⟩ : v8_5 = .bool r.feed ∧ _ := hR8_5
    obtain ⟨rfl, rfl⟩ : v8_6 = .bool r.again ∧ _ := hR8_6
    obtain ⟨rfl, rfl⟩ : v8_7 = .int .i64 r.capture ∧ _ := hR8_7
    obtain ⟨rfl, rfl⟩ : v8_8 = .int .i64 r.slam ∧ _ := hR8_8
    obtain ⟨rfl, rfl⟩ : v8_9 = .int .i64 p.player ∧ _ := hR8_9
    obtain ⟨A9, c9, rfl, rfl, bl9, bh9⟩ := hR8_10
    obtain ⟨A10, c10, rfl, rfl, bl10, bh10⟩ := hR8_11
    obtain ⟨rfl, rfl⟩ : v8_12 = .int .i64 0 ∧ _ := hR8_12
    obtain ⟨rfl, rfl⟩ : v8_13 = .int .i64 0 ∧ _ := hR8_13
    obtain ⟨A11, c11, rfl, rfl, bl11, bh11⟩ := hR8_14
    refine JL.q (OpP.q (p_assign rfl)) ?_
    refine JL.nil ?_
    refine Js.seq ?_
    refine Js.seq ?_
    refine Js.region ?_
    refine JL.q (OpP.q (p_move rfl)) ?_
    refine JL.q (q_loadN ty_32 rfl (Mem.boxR (i := 5) rfl 0 9) rfl rfl) ?_
    refine JL.q (OpP.q (p_fieldAddr fld_33_2 rfl)) ?_
    refine JL.q (q_load1 ty_2 rfl (Mem.box (i := 4) rfl rfl)) ?_
    refine JL.q (OpP.q (p_move rfl)) ?_
    refine JL.e (e_callV fn_157 rfl (fun w hw => c_impl_Rules_pitOf r _ p.player move w ⟨_, rfl, ⟨rfl, rfl, rfl, rfl, rfl, rfl, rfl, rfl, rfl, trivial⟩⟩ (by omega) (by omega) (by omega) (by omega) (by omega))) ?_
    rintro _ _ _ ⟨rfl, rfl, rfl⟩ _
    refine JL.e (e_callB (bs := [boxO b8 [.int .i64 r.pits, .int .i64 r.seeds, .bool r.stores, .bool r.skip, .bool r.relay, .bool r.feed, .bool r.again, .int .i64 r.capture, .int .i64 r.slam, .int .i64 p.player, .slice A9 p.pits.length c9, .slice A10 p.stores.length c10, .int .i64 0, .int .i64 0, .slice A11 0 c11] 160, rowO 2 1 (.slice A9 p.pits.length c9) p.pits.length (ints_ p.pits) [], rowO 2 1 (.slice A10 p.stores.length c10) p.stores.length (ints_ p.stores) [], rowO 2 1 (.slice A11 0 c11) 0 (ints_ []) []]) (rest := [boxO b4 [.slice A2_0 p.pits.length c2_0, .slice A2_1 p.stores.length c2_1, .int .i64 p.player] 33, boxO b3 [.int .i64 r.pits, .int .i64 r.seeds, .bool r.stores, .bool r.skip, .bool r.relay, .bool r.feed, .bool r.again, .int .i64 r.capture, .int .i64 r.slam] 32]) fn_156 rfl (fun w hb hw => c_impl_sowing_move r p.player (M.Sw.mk p.pits p.stores 0 0) [] A9 c9 [] A10 c10 [] A11 c11 [] (p.player * r.pits + move) b8 w hb (by omega) (by omega) (by omega) (by omega) (by omega) (by omega) (by omega) (by omega) (by omega) (by omega) (by omega) hG hg0 rfl rfl) rfl) ?_
    rintro _ _ _ ⟨_, G12, ⟨A12s_10, c12s_10, g12s_10, A12s_11, c12s_11, g12s_11, A12s_14, c12s_14, g12s_14, rfl, rfl, bl12_0, bl12_1, bl12_2, bl12_3, bl12_4, bl12_5⟩, rfl, rfl⟩ _
    refine JL.q (OpP.q (p_not rfl)) ?_
    refine JL.nil ?_
    refine Js.cond rfl (fun h13 => ?_) (fun h13 => ?_)
    ·
      have h13' := h13
      try simp only [Bool.not_eq_true'] at h13'
      have hM := M.sowMove_end hc0 (by simpa using h13)
      refine Js.seq ?_
      refine Js.region ?_
      refine JL.q (OpP.q (p_assign rfl)) ?_
      refine JL.q (OpP.q (p_assign rfl)) ?_
      refine JL.nil ?_
      refine Js.ret (R := RO w (Ty.tup [Ty.opt (decide ((M.sowMove r p move).1 = 0)) (Ty.box 160 (csowing (M.Sow.mk r p.player (M.sowMove r p move).2.1 (M.sowMove r p move).2.2))), Ty.int ((M.sowMove r p move).1)])) @Try.results148 (fun _ _ => rfl) (ResOk.tmp rfl (ResOk.tmp rfl ResOk.nil)) (fun w1 hw => ?_)
      have hx := hw.ext (Up.refl _ _)
      exact ret_own (ps := []) hw hx ⟨_, rfl, ⟨_, _, rfl, (opt_nil (by rw [hM]; rfl)), ⟨_, _, rfl, ⟨by rw [hM], rfl⟩, rfl⟩⟩⟩ Pick.nil (by simp [List.flatten, outV])
    ·
      have h13' := h13
      try simp only [Bool.not_eq_false'] at h13'
      have hM := M.sowMove_yes hc0 (by simpa using h13)
      refine Js.skip ?_
      refine Js.seq ?_
      refine Js.region ?_
      refine JL.q (OpP.q (p_move rfl)) ?_
      refine JL.q (OpP.q (p_assign rfl)) ?_
      refine JL.q (OpP.q (p_assign rfl)) ?_
      refine JL.nil ?_
      refine Js.ret (R := RO w (Ty.tup [Ty.opt (decide ((M.sowMove r p move).1 = 0)) (Ty.box 160 (csowing (M.Sow.mk r p.player (M.sowMove r p move).2.1 (M.sowMove r p move).2.2))), Ty.int ((M.sowMove r p move).1)])) @Try.results148 (fun _ _ => rfl) (ResOk.tmp rfl (ResOk.tmp rfl ResOk.nil)) (fun w1 hw => ?_)
      have hx := hw.ext (Up.refl _ _)
      exact ret_own (ps := [(0, [b8]), (1, (Value.ownBlock (.slice A12s_10 ((((M.mvT r p.player 100 (p.player * r.pits + move) (M.Sw.mk p.pits p.stores 0 0) []).2.1).pits).length) c12s_10)).toList), (2, (Value.ownBlock (.slice A12s_11 ((((M.mvT r p.player 100 (p.player * r.pits + move) (M.Sw.mk p.pits p.stores 0 0) []).2.1).stores).length) c12s_11)).toList), (3, (Value.ownBlock (.slice A12s_14 (((M.mvT r p.player 100 (p.player * r.pits + move) (M.Sw.mk p.pits p.stores 0 0) []).2.2).length) c12s_14)).toList)]) hw hx ⟨_, rfl, ⟨_, _, rfl, (opt_own (box_own (hw.pr (i := 0) rfl) ⟨_, _, rfl, ⟨rfl, rfl⟩, ⟨_, _, rfl, ⟨rfl, rfl⟩, ⟨_, _, rfl, ⟨rfl, rfl⟩, ⟨_, _, rfl, ⟨rfl, rfl⟩, ⟨_, _, rfl, ⟨rfl, rfl⟩, ⟨_, _, rfl, ⟨rfl, rfl⟩, ⟨_, _, rfl, ⟨rfl, rfl⟩, ⟨_, _, rfl, ⟨rfl, rfl⟩, ⟨_, _, rfl, ⟨rfl, rfl⟩, ⟨_, _, rfl, ⟨rfl, rfl⟩, ⟨_, _, rfl, (ints_row (xs := (((M.mvT r p.player 100 (p.player * r.pits + move) (M.Sw.mk p.pits p.stores 0 0) []).2.1).pits)) (hw.pr (i := 1) rfl) (show ((M.mvT r p.player 100 (p.player * r.pits + move) (M.Sw.mk p.pits p.stores 0 0) []).2.1).pits = ((M.sowMove r p move).2.1).pits by rw [hM])), ⟨_, _, rfl, (ints_row (xs := (((M.mvT r p.player 100 (p.player * r.pits + move) (M.Sw.mk p.pits p.stores 0 0) []).2.1).stores)) (hw.pr (i := 2) rfl) (show ((M.mvT r p.player 100 (p.player * r.pits + move) (M.Sw.mk p.pits p.stores 0 0) []).2.1).stores = ((M.sowMove r p move).2.1).stores by rw [hM])), ⟨_, _, rfl, ⟨by rw [hM], rfl⟩, ⟨_, _, rfl, ⟨by rw [hM], rfl⟩, ⟨_, _, rfl, (ints_row (xs := ((M.mvT r p.player 100 (p.player * r.pits + move) (M.Sw.mk p.pits p.stores 0 0) []).2.2)) (hw.pr (i := 3) rfl) (show (M.mvT r p.player 100 (p.player * r.pits + move) (M.Sw.mk p.pits p.stores 0 0) []).2.2 = (M.sowMove r p move).2.2 by rw [hM])), rfl⟩⟩⟩⟩⟩⟩⟩⟩⟩⟩⟩⟩⟩⟩⟩) (by rw [hM]; rfl)), ⟨_, _, rfl, ⟨by rw [hM], rfl⟩, rfl⟩⟩⟩ (Pick.cons (j := 0) rfl (List.Sublist.refl _) rfl (Pick.cons (j := 1) rfl (List.sublist_append_left _ _) rfl (Pick.cons (j := 2) rfl (List.sublist_append_left _ _) rfl (Pick.cons (j := 3) rfl (List.sublist_append_left _ _) rfl Pick.nil)))) (by simp [List.flatten, outV])

end Go.Proofs.Ytejnmechnhgmfaa

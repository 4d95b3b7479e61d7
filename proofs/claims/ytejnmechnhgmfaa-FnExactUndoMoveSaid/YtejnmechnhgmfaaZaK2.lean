/- Walks: K2. -/
import Derived.Test.YtejnmechnhgmfaaZaTy
import Derived.Test.YtejnmechnhgmfaaZaK1
set_option linter.unusedSimpArgs false
set_option linter.unusedVariables false
namespace Go.Proofs.Ytejnmechnhgmfaa
open Go.RowKit

set_option maxRecDepth 100000 in
set_option maxHeartbeats 400000 in
theorem c_spec_l05Lap (r : M.Rul) (v_r : Value) (s_pits : List Int) (s_stores : List Int) (s_last : Int) (s_laps : Int) (As_0 : Option Addr) (cs_0 : Nat) (gs_0 : List Nat) (As_1 : Option Addr) (cs_1 : Nat) (gs_1 : List Nat) (player : Int) (from_ : Int) (path : List Int) (Apath_0 : Option Addr) (cpath_0 : Nat) (gpath_0 : List Nat) (bs : Nat) (w : World) (hb : Bw w [boxO bs [.slice As_0 s_pits.length cs_0, .slice As_1 s_stores.length cs_1, .int .i64 s_last, .int .i64 s_laps] 129, rowO 2 1 (.slice As_0 s_pits.length cs_0) s_pits.length (ints_ s_pits) gs_0, rowO 2 1 (.slice As_1 s_stores.length cs_1) s_stores.length (ints_ s_stores) gs_1, rowO 2 1 (.slice Apath_0 path.length cpath_0) path.length (ints_ path) gpath_0]) (bd0 : s_pits.length ≤ cs_0) (bd1 : cs_0 ≤ 9223372036854775807) (bd2 : s_stores.length ≤ cs_1) (bd3 : cs_1 ≤ 9223372036854775807) (bd4 : path.length ≤ cpath_0) (bd5 : cpath_0 ≤ 9223372036854775807) (h_r : (Ty.ref (cRules r)).ok (offW w (([boxO bs [.slice As_0 s_pits.length cs_0, .slice As_1 s_stores.length cs_1, .int .i64 s_last, .int .i64 s_laps] 129, rowO 2 1 (.slice As_0 s_pits.length cs_0) s_pits.length (ints_ s_pits) gs_0, rowO 2 1 (.slice As_1 s_stores.length cs_1) s_stores.length (ints_ s_stores) gs_1, rowO 2 1 (.slice Apath_0 path.length cpath_0) path.length (ints_ path) gpath_0] : List Own).flatMap (·.fp))) v_r) (r0 : 2 ≤ r.pits) (r1 : r.pits ≤ 8) (r2 : player = 0 ∨ player = 1) (r3 : 0 ≤ from_) (r4 : from_ < 2 * r.pits) (r5 : M.Good r s_pits s_stores 0) (r6 : 0 < (M.getI s_pits from_)) (r7 : 0 ≤ s_laps) (r8 : s_laps ≤ 99) (r9 : path.length ≤ 10000) : RetB Try.prog 152 [v_r, .pointer (some ⟨bs, 0, none⟩), .int .i64 player, .int .i64 from_, .slice Apath_0 path.length cpath_0] w [boxO bs [.slice As_0 s_pits.length cs_0, .slice As_1 s_stores.length cs_1, .int .i64 s_last, .int .i64 s_laps] 129, rowO 2 1 (.slice As_0 s_pits.length cs_0) s_pits.length (ints_ s_pits) gs_0, rowO 2 1 (.slice As_1 s_stores.length cs_1) s_stores.length (ints_ s_stores) gs_1, rowO 2 1 (.slice Apath_0 path.length cpath_0) path.length (ints_ path) gpath_0] (fun v bs' => ∃ Axs_0 cxs_0 gxs_0 Axs_1 cxs_1 gxs_1 Axr cxr gxr, v = .slice Axr (((M.lap r player from_ (M.Sw.mk s_pits s_stores s_last s_laps) path).2).length) cxr ∧ bs' = [boxO bs [.slice Axs_0 (((M.lap r player from_ (M.Sw.mk s_pits s_stores s_last s_laps) path).1.pits).length) cxs_0, .slice Axs_1 (((M.lap r player from_ (M.Sw.mk s_pits s_stores s_last s_laps) path).1.stores).length) cxs_1, .int .i64 ((M.lap r player from_ (M.Sw.mk s_pits s_stores s_last s_laps) path).1.last), .int .i64 ((M.lap r player from_ (M.Sw.mk s_pits s_stores s_last s_laps) path).1.laps)] 129, rowO 2 1 (.slice Axs_0 (((M.lap r player from_ (M.Sw.mk s_pits s_stores s_last s_laps) path).1.pits).length) cxs_0) (((M.lap r player from_ (M.Sw.mk s_pits s_stores s_last s_laps) path).1.pits).length) (ints_ ((M.lap r player from_ (M.Sw.mk s_pits s_stores s_last s_laps) path).1.pits)) gxs_0, rowO 2 1 (.slice Axs_1 (((M.lap r player from_ (M.Sw.mk s_pits s_stores s_last s_laps) path).1.stores).length) cxs_1) (((M.lap r player from_ (M.Sw.mk s_pits s_stores s_last s_laps) path).1.stores).length) (ints_ ((M.lap r player from_ (M.Sw.mk s_pits s_stores s_last s_laps) path).1.stores)) gxs_1, rowO 2 1 (.slice Axr (((M.lap r player from_ (M.Sw.mk s_pits s_stores s_last s_laps) path).2).length) cxr) (((M.lap r player from_ (M.Sw.mk s_pits s_stores s_last s_laps) path).2).length) (ints_ ((M.lap r player from_ (M.Sw.mk s_pits s_stores s_last s_laps) path).2)) gxr] ∧ ((M.lap r player from_ (M.Sw.mk s_pits s_stores s_last s_laps) path).1.pits).length ≤ cxs_0 ∧ cxs_0 ≤ 9223372036854775807 ∧ ((M.lap r player from_ (M.Sw.mk s_pits s_stores s_last s_laps) path).1.stores).length ≤ cxs_1 ∧ cxs_1 ≤ 9223372036854775807 ∧ ((M.lap r player from_ (M.Sw.mk s_pits s_stores s_last s_laps) path).2).length ≤ cxr ∧ cxr ≤ 9223372036854775807) := by
  have l1 := r5.lp
  have l2 := r5.ls
  have hk0 := r5.pit from_
  obtain ⟨b1, o1, rfl, hr1⟩ := ref_Rules h_r
  refine enterB hb @Try.func152 @Try.ntmps152 rfl rfl ?_
  refine Js.trashE ?_
  refine Js.fact (row_some (i := 1) rfl (by omega)) (fun hf2 => ?_)
  obtain ⟨b2, rfl⟩ := hf2
  refine Js.fact (row_some (i := 2) rfl (by omega)) (fun hf3 => ?_)
  obtain ⟨b3, rfl⟩ := hf3
  refine Js.seq ?_
  refine Js.region ?_
  refine JL.q (OpP.q (p_assign rfl)) ?_
  refine JL.nil ?_
  refine Js.seq ?_
  refine Js.region ?_
  refine JL.q (OpP.q (p_move rfl)) ?_
  refine JL.q (OpP.q (p_nilCheck rfl)) ?_
  refine JL.q (OpP.q (p_fieldAddr fld_129_0 rfl)) ?_
  refine JL.q (q_load1 ty_24 rfl (Mem.box (i := 0) rfl rfl)) ?_
  refine JL.q (OpP.q (p_move rfl)) ?_
  refine JL.q (OpP.q (p_indexAddr el_24 rfl rfl (by omega) (by omega) rfl)) ?_
  refine JL.q (q_load1 ty_2 rfl (Mem.row (i := 1) rfl (ints_getI (i := from_) (by omega)))) ?_
  refine JL.q (OpP.q (p_assign rfl)) ?_
  refine JL.nil ?_
  refine Js.seq ?_
  refine Js.region ?_
  refine JL.q (OpP.q (p_move rfl)) ?_
  refine JL.q (OpP.q (p_nilCheck rfl)) ?_
  refine JL.q (OpP.q (p_fieldAddr fld_129_0 rfl)) ?_
  refine JL.q (q_load1 ty_24 rfl (Mem.box (i := 0) rfl rfl)) ?_
  refine JL.q (OpP.q (p_move rfl)) ?_
  refine JL.q (OpP.q (p_indexAddr el_24 rfl rfl (by omega) (by omega) rfl)) ?_
  refine JL.s (e_storeRow (i := 1) (xs' := ints_ (M.setI s_pits from_ 0)) ty_2 rfl rfl rfl rfl rfl rfl (ints_lt (i := from_.toNat) (by omega)) (ints_setL (i := from_.toNat) (by omega))) ?_
  rintro _ _ _ ⟨rfl, rfl⟩ _
  refine JL.nil ?_
  refine Js.seq ?_
  refine Js.region ?_
  refine JL.q (OpP.q (p_move rfl)) ?_
  refine JL.q (OpP.q (p_assign rfl)) ?_
  refine JL.nil ?_
  refine Js.seq ?_
  refine Js.block ?_
  refine Js.loop (fun l os u m => ∃ (k place : Int) (ps ss pth : List Int) (A6_4 : Option Addr) (c6_4 : Nat) (g6_4 : List Nat) (G6_4 : List Nat), l = [(0, .pointer (some ⟨b1, o1, none⟩)), (1, .pointer (some ⟨bs, 0, none⟩)), (2, .int .i64 player), (3, .int .i64 from_), (4, .slice A6_4 pth.length c6_4), (11, .int .i64 k), (12, .int .i64 place)] ∧ os = [boxO bs [.slice (some ⟨b2, 0, none⟩) s_pits.length cs_0, .slice (some ⟨b3, 0, none⟩) s_stores.length cs_1, .int .i64 s_last, .int .i64 s_laps] 129, rowO 2 1 (.slice (some ⟨b2, 0, none⟩) s_pits.length cs_0) s_pits.length (ints_ ps) gs_0, rowO 2 1 (.slice (some ⟨b3, 0, none⟩) s_stores.length cs_1) s_stores.length (ints_ ss) gs_1, rowO 2 1 (.slice A6_4 pth.length c6_4) pth.length (ints_ pth) g6_4, anyO G6_4] ∧ Up w.heap.size (offW w (([boxO bs [.slice (some ⟨b2, 0, none⟩) s_pits.length cs_0, .slice (some ⟨b3, 0, none⟩) s_stores.length cs_1, .int .i64 s_last, .int .i64 s_laps] 129, rowO 2 1 (.slice (some ⟨b2, 0, none⟩) s_pits.length cs_0) s_pits.length (ints_ s_pits) gs_0, rowO 2 1 (.slice (some ⟨b3, 0, none⟩) s_stores.length cs_1) s_stores.length (ints_ s_stores) gs_1, rowO 2 1 (.slice Apath_0 path.length cpath_0) path.length (ints_ path) gpath_0] : List Own).flatMap (·.fp))) u ∧ (M.sow r player from_ k.toNat place ps ss pth = M.sow r player from_ (M.getI s_pits from_).toNat from_ (M.setI s_pits from_ 0) s_stores path) ∧ (M.Good r ps ss k) ∧ (-1 ≤ place) ∧ (place < 2 * r.pits) ∧ ((pth.length : Int) + k = path.length + (M.getI s_pits from_)) ∧ (0 ≤ k) ∧ (pth.length ≤ c6_4) ∧ (c6_4 ≤ 9223372036854775807) ∧ m = M.ms k place from_) ⟨M.getI s_pits from_, from_, M.setI s_pits from_ 0, s_stores, path, _, _, _, _, rfl, rfl, Up.refl _ _, by rfl, by exact r5.takeUp r3 r4, by first | assumption | omega | rfl | (simp; done), by first | assumption | omega | rfl | (simp; done), by first | assumption | omega | rfl | (simp; done), by first | assumption | omega | rfl | (simp; done), by first | omega | (simp only [List.length_append, List.length_cons, List.length_nil] <;> omega), by first | omega | (simp only [List.length_append, List.length_cons, List.length_nil] <;> omega), rfl⟩ ⟨rfl, rfl, rfl, rfl, rfl, rfl, rfl, trivial⟩ ?_
  · rintro _ _ u6 _ ⟨k, place, ps, ss, pth, A6_4, c6_4, g6_4, G6_4, rfl, rfl, x6, hS, hG, p0, p1, hl, hk, f6_6, f6_7, rfl⟩
    have l3 := hG.lp
    have l4 := hG.ls
    have hs0 := hG.store player
    have ha := M.after_bd r (player := player) (n := place) r1 r0 r2 p0
    refine Js.seq ?_
    refine Js.seq ?_
    refine Js.region ?_
    refine JL.q (OpP.q (p_move rfl)) ?_
    refine JL.q (OpP.q (p_gtr rfl rfl)) ?_
    refine JL.nil ?_
    refine Js.cond rfl (fun h7 => ?_) (fun h7 => ?_)
    ·
      have h7' := h7
      try simp only [decide_eq_true_eq] at h7'
      refine Js.skip ?_
      refine Js.block ?_
      refine Js.seq ?_
      refine Js.region ?_
      refine JL.q (OpP.q (p_move rfl)) ?_
      refine JL.q (OpP.q (p_move rfl)) ?_
      refine JL.q (OpP.q (p_move rfl)) ?_
      refine JL.e (e_callV fn_161 rfl (fun w hw => c_spec_l05Next r _ player place w ⟨_, _, [.int .i64 r.pits, .int .i64 r.seeds, .bool r.stores, .bool r.skip, .bool r.relay, .bool r.feed, .bool r.again, .int .i64 r.capture, .int .i64 r.slam], rfl, ⟨rfl, rfl, rfl, rfl, rfl, rfl, rfl, rfl, rfl, trivial⟩, (hr1.vis (x6.vis.trans hw.vis))⟩ (by omega) (by omega) (by omega) (by omega) (by omega))) ?_
      rintro _ _ _ ⟨rfl, rfl, rfl⟩ _
      refine JL.q (OpP.q (p_assign rfl)) ?_
      refine JL.nil ?_
      refine Js.seq ?_
      refine Js.seq ?_
      refine Js.region ?_
      refine JL.q (OpP.q (p_move rfl)) ?_
      refine JL.q (OpP.q (p_nilCheck rfl)) ?_
      refine JL.q (OpP.q (p_fieldAddr fld_32_3 rfl)) ?_
      refine JL.q (q_load1 ty_4 rfl (Mem.pub ((hr1.vis x6.vis) 3 _ rfl))) ?_
      refine JL.q (OpP.q (p_move rfl)) ?_
      refine JL.g (Gd.t1 rfl rfl rfl) (fun hc => OpP.q (p_move rfl)) ?_
      refine JL.g (Gd.t1 rfl rfl rfl) (fun hc => OpP.q (p_move rfl)) ?_
      refine JL.g (Gd.t1 rfl rfl rfl) (fun hc => OpP.q (p_eql (gvt rfl hc) (gvt rfl hc))) ?_
      refine JL.q (OpP.q (p_pickAnd rfl rfl rfl)) ?_
      refine JL.nil ?_
      refine Js.cond rfl (fun h8 => ?_) (fun h8 => ?_)
      ·
        have h8' := h8
        try simp only [Bool.and_eq_true, decide_eq_true_eq] at h8'
        have hc : r.skip = true ∧ M.after r player place = from_ := by simpa using h8
        have hS2 : M.sow r player from_ k.toNat (M.after r player place) ps ss pth = M.sow r player from_ (M.getI s_pits from_).toNat from_ (M.setI s_pits from_ 0) s_stores path := by rw [hc.2, ← M.sow_skip r1 r0 r3 r4 hc (by omega)]; exact hS
        have hm2 := M.ms_skip (k := k) r1 r0 r3 r4 hc.2
        refine Js.exit (fun _ _ => rfl) ?_
        exact Js.again ⟨k, M.after r player place, ps, ss, pth, _, _, _, _, rfl, rfl, x6, by exact hS2, by first | exact hG2 | exact hG, by first | assumption | omega | rfl | (simp; done), by first | assumption | omega | rfl | (simp; done), by first | omega | (simp only [List.length_append, List.length_cons, List.length_nil]; omega), by first | assumption | omega | rfl | (simp; done), by first | omega | (simp only [List.length_append, List.length_cons, List.length_nil] <;> omega), by first | omega | (simp only [List.length_append, List.length_cons, List.length_nil] <;> omega), rfl⟩ (by exact hm2) ⟨rfl, rfl, rfl, rfl, rfl, rfl, rfl, trivial⟩
      ·
        have h8' := h8
        try simp only [Bool.and_eq_false_iff, decide_eq_false_iff_not] at h8'
        have hc : ¬(r.skip = true ∧ M.after r player place = from_) := by simpa using h8
        have hq := M.nxt_no hc
        have hm2 := M.ms_lt (a := (M.after r player place)) (b := place) (frm := from_) (show 0 < k by omega)
        refine Js.skip ?_
        refine Js.seq ?_
        refine Js.seq ?_
        refine Js.region ?_
        refine JL.q (OpP.q (p_move rfl)) ?_
        refine JL.q (OpP.q (p_eql rfl rfl)) ?_
        refine JL.nil ?_
        refine Js.cond rfl (fun h9 => ?_) (fun h9 => ?_)
        ·
          have h9' := h9
          try simp only [decide_eq_true_eq] at h9'
          have hq0 : (M.after r player place) = -1 := by simpa using h9
          have hS2 : M.sow r player from_ (k - 1).toNat (M.after r player place) ps (M.setI ss player (M.getI ss player + 1)) (pth ++ [(M.after r player place)]) = M.sow r player from_ (M.getI s_pits from_).toNat from_ (M.setI s_pits from_ 0) s_stores path := by rw [← hS, show k.toNat = (k - 1).toNat + 1 by omega, M.sow_succ hq, if_pos (by omega)]
          have hG2 := hG.putStore (k := player) (by omega) (by omega) (by omega)
          refine Js.region ?_
          refine JL.q (OpP.q (p_move rfl)) ?_
          refine JL.q (OpP.q (p_nilCheck rfl)) ?_
          refine JL.q (OpP.q (p_fieldAddr fld_129_1 rfl)) ?_
          refine JL.q (q_load1 ty_24 rfl (Mem.box (i := 0) rfl rfl)) ?_
          refine JL.q (OpP.q (p_move rfl)) ?_
          refine JL.q (OpP.q (p_indexAddr el_24 rfl rfl (by omega) (by omega) rfl)) ?_
          refine JL.q (q_load1 ty_2 rfl (Mem.row (i := 2) rfl (ints_getI (i := player) (by omega)))) ?_
          refine JL.q (OpP.q (p_add rfl rfl (IntWalk.i64_in _ (by omega)))) ?_
          refine JL.q (OpP.q (p_indexAddr el_24 rfl rfl (by omega) (by omega) rfl)) ?_
          refine JL.s (e_storeRow (i := 2) (xs' := ints_ (M.setI ss player ((M.getI ss player) + 1))) ty_2 rfl rfl rfl rfl rfl rfl (ints_lt (i := player.toNat) (by omega)) (ints_setL (i := player.toNat) (by omega))) ?_
          rintro _ _ _ ⟨rfl, rfl⟩ _
          refine JL.nil ?_
          refine Js.seq ?_
          refine Js.region ?_
          refine JL.q (OpP.q (p_move rfl)) ?_
          refine JL.q (OpP.q (p_move rfl)) ?_
          refine JL.e (e_buildSlice (vs := [.int .i64 (M.after r player place)]) el_24 rfl rfl rfl rfl rfl rfl) ?_
          rintro _ _ _ ⟨b12, rfl, rfl, hl13, rfl⟩ _
          refine JL.e (e_append (i := 4) (n' := (pth ++ [(M.after r player place)]).length) (vs' := ints_ (pth ++ [(M.after r player place)])) el_24 rfl rfl rfl rfl (src_row (i := 0) und_24 rfl rfl) (by omega) (by omega) (by first | omega | (simp only [List.length_append, List.length_cons, List.length_nil] <;> omega)) (by simp [ints_])) ?_
          rintro v14 _ _ ⟨⟨g15, rfl⟩, rfl⟩ _
          refine JL.fact (row_form' (i := 4) rfl) (fun hf16 => ?_)
          obtain ⟨A16, c16, rfl, bl16, bh16⟩ := hf16
          refine JL.q (OpP.q (p_assign rfl)) ?_
          refine JL.nil ?_
          refine Js.region ?_
          refine JL.q (OpP.q (p_move rfl)) ?_
          refine JL.q (OpP.q (p_sub rfl rfl (IntWalk.i64_in _ (by omega)))) ?_
          refine JL.q (OpP.q (p_assign rfl)) ?_
          refine JL.nil ?_
          refine Js.blockEnd ?_
          refine Js.eat (i := 0) (j := 5) rfl rfl rfl ?_
          exact Js.again ⟨k - 1, M.after r player place, ps, M.setI ss player ((M.getI ss player) + 1), pth ++ [(M.after r player place)], _, _, _, _, rfl, rfl, x6, by exact hS2, by first | exact hG2 | exact hG, by first | assumption | omega | rfl | (simp; done), by first | assumption | omega | rfl | (simp; done), by first | omega | (simp only [List.length_append, List.length_cons, List.length_nil]; omega), by first | assumption | omega | rfl | (simp; done), by first | omega | (simp only [List.length_append, List.length_cons, List.length_nil] <;> omega), by first | omega | (simp only [List.length_append, List.length_cons, List.length_nil] <;> omega), rfl⟩ (by exact hm2) ⟨rfl, rfl, rfl, rfl, rfl, rfl, rfl, trivial⟩
        ·
          have h9' := h9
          try simp only [decide_eq_false_iff_not] at h9'
          have hq0 : ¬ (M.after r player place) = -1 := by simpa using h9
          have hS2 : M.sow r player from_ (k - 1).toNat (M.after r player place) (M.setI ps (M.after r player place) (M.getI ps (M.after r player place) + 1)) ss (pth ++ [(M.after r player place)]) = M.sow r player from_ (M.getI s_pits from_).toNat from_ (M.setI s_pits from_ 0) s_stores path := by rw [← hS, show k.toNat = (k - 1).toNat + 1 by omega, M.sow_succ hq, if_neg (by omega)]
          have hG2 := hG.putPit (k := (M.after r player place)) (by omega) (by omega) ha.2
          have hpq := hG.pit (M.after r player place)
          refine Js.region ?_
          refine JL.q (OpP.q (p_move rfl)) ?_
          refine JL.q (OpP.q (p_nilCheck rfl)) ?_
          refine JL.q (OpP.q (p_fieldAddr fld_129_0 rfl)) ?_
          refine JL.q (q_load1 ty_24 rfl (Mem.box (i := 0) rfl rfl)) ?_
          refine JL.q (OpP.q (p_move rfl)) ?_
          refine JL.q (OpP.q (p_indexAddr el_24 rfl rfl (by omega) (by omega) rfl)) ?_
          refine JL.q (q_load1 ty_2 rfl (Mem.row (i := 1) rfl (ints_getI (i := M.after r player place) (by omega)))) ?_
          refine JL.q (OpP.q (p_add rfl rfl (IntWalk.i64_in _ (by omega)))) ?_
          refine JL.q (OpP.q (p_indexAddr el_24 rfl rfl (by omega) (by omega) rfl)) ?_
          refine JL.s (e_storeRow (i := 1) (xs' := ints_ (M.setI ps (M.after r player place) ((M.getI ps (M.after r player place)) + 1))) ty_2 rfl rfl rfl rfl rfl rfl (ints_lt (i := (M.after r player place).toNat) (by omega)) (ints_setL (i := (M.after r player place).toNat) (by omega))) ?_
          rintro _ _ _ ⟨rfl, rfl⟩ _
          refine JL.nil ?_
          refine Js.seq ?_
          refine Js.region ?_
          refine JL.q (OpP.q (p_move rfl)) ?_
          refine JL.q (OpP.q (p_move rfl)) ?_
          refine JL.e (e_buildSlice (vs := [.int .i64 (M.after r player place)]) el_24 rfl rfl rfl rfl rfl rfl) ?_
          rintro _ _ _ ⟨b19, rfl, rfl, hl20, rfl⟩ _
          refine JL.e (e_append (i := 4) (n' := (pth ++ [(M.after r player place)]).length) (vs' := ints_ (pth ++ [(M.after r player place)])) el_24 rfl rfl rfl rfl (src_row (i := 0) und_24 rfl rfl) (by omega) (by omega) (by first | omega | (simp only [List.length_append, List.length_cons, List.length_nil] <;> omega)) (by simp [ints_])) ?_
          rintro v21 _ _ ⟨⟨g22, rfl⟩, rfl⟩ _
          refine JL.fact (row_form' (i := 4) rfl) (fun hf23 => ?_)
          obtain ⟨A23, c23, rfl, bl23, bh23⟩ := hf23
          refine JL.q (OpP.q (p_assign rfl)) ?_
          refine JL.nil ?_
          refine Js.region ?_
          refine JL.q (OpP.q (p_move rfl)) ?_
          refine JL.q (OpP.q (p_sub rfl rfl (IntWalk.i64_in _ (by omega)))) ?_
          refine JL.q (OpP.q (p_assign rfl)) ?_
          refine JL.nil ?_
          refine Js.blockEnd ?_
          refine Js.eat (i := 0) (j := 5) rfl rfl rfl ?_
          exact Js.again ⟨k - 1, M.after r player place, M.setI ps (M.after r player place) ((M.getI ps (M.after r player place)) + 1), ss, pth ++ [(M.after r player place)], _, _, _, _, rfl, rfl, x6, by exact hS2, by first | exact hG2 | exact hG, by first | assumption | omega | rfl | (simp; done), by first | assumption | omega | rfl | (simp; done), by first | omega | (simp only [List.length_append, List.length_cons, List.length_nil]; omega), by first | assumption | omega | rfl | (simp; done), by first | omega | (simp only [List.length_append, List.length_cons, List.length_nil] <;> omega), by first | omega | (simp only [List.length_append, List.length_cons, List.length_nil] <;> omega), rfl⟩ (by exact hm2) ⟨rfl, rfl, rfl, rfl, rfl, rfl, rfl, trivial⟩
    ·
      have h7' := h7
      try simp only [decide_eq_false_iff_not, Int.not_lt] at h7'
      have hL : M.lap r player from_ (M.Sw.mk s_pits s_stores s_last s_laps) path = (⟨ps, ss, place, s_laps + 1⟩, pth) := by unfold M.lap; dsimp only; rw [← hS]; simp [show k.toNat = 0 by omega, M.sow]
      clear hS
      refine Js.exit (fun _ _ => rfl) ?_
      refine Js.seq ?_
      refine Js.region ?_
      refine JL.q (OpP.q (p_move rfl)) ?_
      refine JL.q (OpP.q (p_move rfl)) ?_
      refine JL.q (OpP.q (p_nilCheck rfl)) ?_
      refine JL.q (OpP.q (p_fieldAddr fld_129_2 rfl)) ?_
      refine JL.s (e_store (i := 0) (c' := [.slice (some ⟨b2, 0, none⟩) s_pits.length cs_0, .slice (some ⟨b3, 0, none⟩) s_stores.length cs_1, .int .i64 place, .int .i64 s_laps]) ty_2 rfl rfl rfl rfl rfl rfl rfl rfl) ?_
      rintro _ _ _ ⟨rfl, rfl⟩ _
      refine JL.nil ?_
      refine Js.seq ?_
      refine Js.region ?_
      refine JL.q (OpP.q (p_move rfl)) ?_
      refine JL.q (OpP.q (p_nilCheck rfl)) ?_
      refine JL.q (OpP.q (p_fieldAddr fld_129_3 rfl)) ?_
      refine JL.q (q_load1 ty_2 rfl (Mem.box (i := 0) rfl rfl)) ?_
      refine JL.q (OpP.q (p_add rfl rfl (IntWalk.i64_in _ (by omega)))) ?_
      refine JL.q (OpP.q (p_nilCheck rfl)) ?_
      refine JL.q (OpP.q (p_fieldAddr fld_129_3 rfl)) ?_
      refine JL.s (e_store (i := 0) (c' := [.slice (some ⟨b2, 0, none⟩) s_pits.length cs_0, .slice (some ⟨b3, 0, none⟩) s_stores.length cs_1, .int .i64 place, .int .i64 (s_laps + 1)]) ty_2 rfl rfl rfl rfl rfl rfl rfl rfl) ?_
      rintro _ _ _ ⟨rfl, rfl⟩ _
      refine JL.nil ?_
      refine Js.seq ?_
      refine Js.region ?_
      refine JL.q (OpP.q (p_move rfl)) ?_
      refine JL.q (OpP.q (p_assign rfl)) ?_
      refine JL.nil ?_
      refine Js.ret (R := RB w [boxO bs [.slice (some ⟨b2, 0, none⟩) s_pits.length cs_0, .slice (some ⟨b3, 0, none⟩) s_stores.length cs_1, .int .i64 s_last, .int .i64 s_laps] 129, rowO 2 1 (.slice (some ⟨b2, 0, none⟩) s_pits.length cs_0) s_pits.length (ints_ s_pits) gs_0, rowO 2 1 (.slice (some ⟨b3, 0, none⟩) s_stores.length cs_1) s_stores.length (ints_ s_stores) gs_1, rowO 2 1 (.slice Apath_0 path.length cpath_0) path.length (ints_ path) gpath_0] (fun v bs' => ∃ Axs_0 cxs_0 gxs_0 Axs_1 cxs_1 gxs_1 Axr cxr gxr, v = .slice Axr (((M.lap r player from_ (M.Sw.mk s_pits s_stores s_last s_laps) path).2).length) cxr ∧ bs' = [boxO bs [.slice Axs_0 (((M.lap r player from_ (M.Sw.mk s_pits s_stores s_last s_laps) path).1.pits).length) cxs_0, .slice Axs_1 (((M.lap r player from_ (M.Sw.mk s_pits s_stores s_last s_laps) path).1.stores).length) cxs_1, .int .i64 ((M.lap r player from_ (M.Sw.mk s_pits s_stores s_last s_laps) path).1.last), .int .i64 ((M.lap r player from_ (M.Sw.mk s_pits s_stores s_last s_laps) path).1.laps)] 129, rowO 2 1 (.slice Axs_0 (((M.lap r player from_ (M.Sw.mk s_pits s_stores s_last s_laps) path).1.pits).length) cxs_0) (((M.lap r player from_ (M.Sw.mk s_pits s_stores s_last s_laps) path).1.pits).length) (ints_ ((M.lap r player from_ (M.Sw.mk s_pits s_stores s_last s_laps) path).1.pits)) gxs_0, rowO 2 1 (.slice Axs_1 (((M.lap r player from_ (M.Sw.mk s_pits s_stores s_last s_laps) path).1.stores).length) cxs_1) (((M.lap r player from_ (M.Sw.mk s_pits s_stores s_last s_laps) path).1.stores).length) (ints_ ((M.lap r player from_ (M.Sw.mk s_pits s_stores s_last s_laps) path).1.stores)) gxs_1, rowO 2 1 (.slice Axr (((M.lap r player from_ (M.Sw.mk s_pits s_stores s_last s_laps) path).2).length) cxr) (((M.lap r player from_ (M.Sw.mk s_pits s_stores s_last s_laps) path).2).length) (ints_ ((M.lap r player from_ (M.Sw.mk s_pits s_stores s_last s_laps) path).2)) gxr] ∧ ((M.lap r player from_ (M.Sw.mk s_pits s_stores s_last s_laps) path).1.pits).length ≤ cxs_0 ∧ cxs_0 ≤ 9223372036854775807 ∧ ((M.lap r player from_ (M.Sw.mk s_pits s_stores s_last s_laps) path).1.stores).length ≤ cxs_1 ∧ cxs_1 ≤ 9223372036854775807 ∧ ((M.lap r player from_ (M.Sw.mk s_pits s_stores s_last s_laps) path).2).length ≤ cxr ∧ cxr ≤ 9223372036854775807)) @Try.results152 (fun _ _ => rfl) (ResOk.tmp rfl ResOk.nil) (fun w1 hw => ?_)
      have hN1 : ((M.lap r player from_ (M.Sw.mk s_pits s_stores s_last s_laps) path).1.pits).length = s_pits.length := by first | (rw [hL]; done) | (rw [hL]; show ps.length = _; omega) | (rw [hL]; show ss.length = _; omega)
      have hE1 : (M.lap r player from_ (M.Sw.mk s_pits s_stores s_last s_laps) path).1.pits = ps := by rw [hL]
      have hN2 : ((M.lap r player from_ (M.Sw.mk s_pits s_stores s_last s_laps) path).1.stores).length = s_stores.length := by first | (rw [hL]; done) | (rw [hL]; show ps.length = _; omega) | (rw [hL]; show ss.length = _; omega)
      have hE2 : (M.lap r player from_ (M.Sw.mk s_pits s_stores s_last s_laps) path).1.stores = ss := by rw [hL]
      have hE3 : (M.lap r player from_ (M.Sw.mk s_pits s_stores s_last s_laps) path).1.last = place := by rw [hL]
      have hE4 : (M.lap r player from_ (M.Sw.mk s_pits s_stores s_last s_laps) path).1.laps = (s_laps + 1) := by rw [hL]
      have hN5 : ((M.lap r player from_ (M.Sw.mk s_pits s_stores s_last s_laps) path).2).length = pth.length := by first | (rw [hL]; done) | (rw [hL]; show ps.length = _; omega) | (rw [hL]; show ss.length = _; omega)
      have hE5 : (M.lap r player from_ (M.Sw.mk s_pits s_stores s_last s_laps) path).2 = pth := by rw [hL]
      refine ⟨_, [boxO bs [.slice (some ⟨b2, 0, none⟩) s_pits.length cs_0, .slice (some ⟨b3, 0, none⟩) s_stores.length cs_1, .int .i64 place, .int .i64 (s_laps + 1)] 129, rowO 2 1 (.slice (some ⟨b2, 0, none⟩) s_pits.length cs_0) s_pits.length (ints_ ps) gs_0, rowO 2 1 (.slice (some ⟨b3, 0, none⟩) s_stores.length cs_1) s_stores.length (ints_ ss) gs_1, rowO 2 1 (.slice A6_4 pth.length c6_4) pth.length (ints_ pth) g6_4], _, rfl, ⟨(some ⟨b2, 0, none⟩), cs_0, gs_0, (some ⟨b3, 0, none⟩), cs_1, gs_1, A6_4, c6_4, g6_4, (by first | rfl | (rw [hN5]; rfl) | (rw [hE5]; rfl)), ?_, ?_, ?_, ?_, ?_, ?_, ?_⟩, hw.giveBack hb (x6)⟩
      · rw [hN1, hE1, hN2, hE2, hE3, hE4, hN5, hE5]
      all_goals (first | (rw [hN1, hE1, hN2, hE2, hE3, hE4, hN5, hE5]; omega) | omega | (simp only [*]; omega))

set_option maxRecDepth 100000 in
set_option maxHeartbeats 400000 in
theorem c_spec_l05Sow (r : M.Rul) (v_r : Value) (p : M.Pos) (v_p : Value) (from_ : Int) (w : World) (h_r : (Ty.ref (cRules r)).ok w v_r) (h_p : (Ty.ref (cPosition p)).ok w v_p) (r0 : 2 ≤ r.pits) (r1 : r.pits ≤ 8) (r2 : p.player = 0 ∨ p.player = 1) (r3 : 0 ≤ from_) (r4 : from_ < 2 * r.pits) (r5 : M.Good r p.pits p.stores 0) (r6 : 0 < M.getI p.pits from_) : Ret Try.prog 143 [v_r, v_p, .int .i64 from_] w (Ty.tup [Ty.agg (cSown ((M.sowT r p from_).1)), Ty.ints 2 ((M.sowT r p from_).2.1), Ty.bool ((M.sowT r p from_).2.2)]) := by
  have l1 := r5.lp
  have l2 := r5.ls
  obtain ⟨ha, hb1, hc1, hd, he, hf⟩ := M.lap_keeps (s := ⟨p.pits, p.stores, 0, 0⟩) r [] r1 r0 r2 r3 r4 r5
  replace hf : (M.lap r p.player from_ (M.Sw.mk p.pits p.stores 0 0) []).1.laps = 1 := hf
  replace hd : (M.lap r p.player from_ (M.Sw.mk p.pits p.stores 0 0) []).2.length ≤ 96 := by simpa using hd
  obtain ⟨b1, o1, rfl, hr1⟩ := ref_Rules h_r
  obtain ⟨b2, o2, A2_0, c2_0, A2_1, c2_1, rfl, hr2, h2_0, h2_1, bl2_0, bh2_0, bl2_1, bh2_1⟩ := ref_Position h_p
  refine enter @Try.func143 @Try.ntmps143 rfl rfl ?_
  refine Js.seq ?_
  refine Js.region ?_
  refine JL.e (e_alloc zero_129) ?_
  rintro _ _ _ ⟨b3, rfl, rfl, rfl⟩ _
  refine JL.q (OpP.q (p_assign rfl)) ?_
  refine JL.q (OpP.q (p_assign rfl)) ?_
  refine JL.nil ?_
  refine Js.seq ?_
  refine Js.cut (fun l os u => ∃ (b10 : Nat) (A6 : Option Addr) (c6 : Nat) (A9 : Option Addr) (c9 : Nat), l = [(0, .pointer (some ⟨b1, o1, none⟩)), (1, .pointer (some ⟨b2, o2, none⟩)), (2, .int .i64 from_), (6, .pointer (some ⟨b3, 0, none⟩)), (9, .pointer (some ⟨b10, 0, none⟩))] ∧ os = [boxO b10 [.slice A6 p.pits.length c6, .slice A9 p.stores.length c9, .int .i64 0, .int .i64 0] 129, rowO 2 1 (.slice A9 p.stores.length c9) p.stores.length (ints_ p.stores) [], rowO 2 1 (.slice A6 p.pits.length c6) p.pits.length (ints_ p.pits) [], boxO b3 [.slice none 0 0, .slice none 0 0, .int .i64 0, .int .i64 0] 129] ∧ Up w.heap.size w u ∧ (p.pits.length ≤ c6) ∧ (c6 ≤ 9223372036854775807) ∧ (p.stores.length ≤ c9) ∧ (c9 ≤ 9223372036854775807)) ?_ ?_
  ·
    refine Js.drawn _ [12] mixed_ (fun _ h => h) ?_
    refine JH.p 0 rfl (p_move rfl) ?_
    refine JH.p 1 rfl (p_nilCheck rfl) ?_
    refine JH.p 2 rfl (p_fieldAddr fld_33_0 rfl) ?_
    refine JH.w 3 rfl (fun os' u' hv => q_load1 ty_24 rfl (Mem.pub ((hr2.vis hv) 0 _ rfl))) ?_
    refine JH.p 5 rfl (p_move rfl) ?_
    refine JH.p 6 rfl (p_nilCheck rfl) ?_
    refine JH.p 7 rfl (p_fieldAddr fld_33_1 rfl) ?_
    refine JH.w 8 rfl (fun os' u' hv => q_load1 ty_24 rfl (Mem.pub ((hr2.vis hv) 1 _ rfl))) ?_
    refine JH.all (rs := [4, 11]) (by kernel_rfl) rfl ⟨?_, ?_, trivial⟩
    ·
      refine JHo.e rfl (e_callO fn_80 rfl (Spl.ints _ _) (fun w hw => c_spec_l00Own p.pits _ w (Ty.mono _ h2_0 hw.vis) (by omega))) (.inl rfl) ?_
      rintro v23 _ _ ⟨_, hR24, rfl, rfl⟩ _
      obtain ⟨A25, c25, rfl, rfl, bl25, bh25⟩ := hR24
      refine JH.all (rs := [9, 11]) (by kernel_rfl) rfl ⟨?_, ?_, trivial⟩
      ·
        refine JHo.e rfl (e_callO fn_80 rfl (Spl.ints _ _) (fun w hw => c_spec_l00Own p.stores _ w (Ty.mono _ h2_1 hw.vis) (by omega))) (.inl rfl) ?_
        rintro v26 _ _ ⟨_, hR27, rfl, rfl⟩ _
        obtain ⟨A28, c28, rfl, rfl, bl28, bh28⟩ := hR27
        refine JH.p 10 rfl (p_build zero_129 flds_129 rfl rfl) ?_
        refine JH.one (i := 11) (by kernel_rfl) ?_
        refine JHo.e rfl (e_alloc zero_129) (.inl rfl) ?_
        rintro _ _ _ ⟨b29, rfl, rfl, rfl⟩ _
        refine JH.one (i := 12) (by kernel_rfl) ?_
        refine JHo.s rfl (e_store (i := 0) (c' := [.slice A25 p.pits.length c25, .slice A28 p.stores.length c28, .int .i64 0, .int .i64 0]) ty_129 rfl rfl rfl rfl rfl rfl rfl rfl) (.inr rfl) ?_
        rintro _ _ _ ⟨rfl, rfl⟩ _
        refine JH.done (by kernel_rfl) ?_
        exact Js.meet ⟨_, _, _, _, _, rfl, rfl, Up.refl _ _, by omega, by omega, by omega, by omega⟩ ⟨rfl, rfl, rfl, rfl, rfl, trivial⟩
      ·
        refine JHo.e rfl (e_alloc zero_129) (.inl rfl) ?_
        rintro _ _ _ ⟨b30, rfl, rfl, rfl⟩ _
        refine JH.one (i := 9) (by kernel_rfl) ?_
        refine JHo.e rfl (e_callO fn_80 rfl (Spl.ints _ _) (fun w hw => c_spec_l00Own p.stores _ w (Ty.mono _ h2_1 hw.vis) (by omega))) (.inl rfl) ?_
        rintro v31 _ _ ⟨_, hR32, rfl, rfl⟩ _
        obtain ⟨A33, c33, rfl, rfl, bl33, bh33⟩ := hR32
        refine JH.p 10 rfl (p_build zero_129 flds_129 rfl rfl) ?_
        refine JH.one (i := 12) (by kernel_rfl) ?_
        refine JHo.s rfl (e_store (i := 1) (c' := [.slice A25 p.pits.length c25, .slice A33 p.stores.length c33, .int .i64 0, .int .i64 0]) ty_129 rfl rfl rfl rfl rfl rfl rfl rfl) (.inr rfl) ?_
        rintro _ _ _ ⟨rfl, rfl⟩ _
        refine JH.done (by kernel_rfl) ?_
        refine Js.front (i := 3) rfl ?_
        refine Js.front (i := 3) rfl ?_
        refine Js.front (i := 2) rfl ?_
        refine Js.front (i := 3) rfl ?_
        exact Js.meet ⟨_, _, _, _, _, rfl, rfl, Up.refl _ _, by omega, by omega, by omega, by omega⟩ ⟨rfl, rfl, rfl, rfl, rfl, trivial⟩
    ·
      refine JHo.e rfl (e_alloc zero_129) (.inl rfl) ?_
      rintro _ _ _ ⟨b34, rfl, rfl, rfl⟩ _
      refine JH.one (i := 4) (by kernel_rfl) ?_
      refine JHo.e rfl (e_callO fn_80 rfl (Spl.ints _ _) (fun w hw => c_spec_l00Own p.pits _ w (Ty.mono _ h2_0 hw.vis) (by omega))) (.inl rfl) ?_
      rintro v35 _ _ ⟨_, hR36, rfl, rfl⟩ _
      obtain ⟨A37, c37, rfl, rfl, bl37, bh37⟩ := hR36
      refine JH.one (i := 9) (by kernel_rfl) ?_
      refine JHo.e rfl (e_callO fn_80 rfl (Spl.ints _ _) (fun w hw => c_spec_l00Own p.stores _ w (Ty.mono _ h2_1 hw.vis) (by omega))) (.inl rfl) ?_
      rintro v38 _ _ ⟨_, hR39, rfl, rfl⟩ _
      obtain ⟨A40, c40, rfl, rfl, bl40, bh40⟩ := hR39
      refine JH.p 10 rfl (p_build zero_129 flds_129 rfl rfl) ?_
      refine JH.one (i := 12) (by kernel_rfl) ?_
      refine JHo.s rfl (e_store (i := 2) (c' := [.slice A37 p.pits.length c37, .slice A40 p.stores.length c40, .int .i64 0, .int .i64 0]) ty_129 rfl rfl rfl rfl rfl rfl rfl rfl) (.inr rfl) ?_
      rintro _ _ _ ⟨rfl, rfl⟩ _
      refine JH.done (by kernel_rfl) ?_
      refine Js.front (i := 3) rfl ?_
      refine Js.front (i := 2) rfl ?_
      refine Js.front (i := 2) rfl ?_
      refine Js.front (i := 3) rfl ?_
      exact Js.meet ⟨_, _, _, _, _, rfl, rfl, Up.refl _ _, by omega, by omega, by omega, by omega⟩ ⟨rfl, rfl, rfl, rfl, rfl, trivial⟩
  · rintro _ _ u22 ⟨b10, A6, c6, A9, c9, rfl, rfl, x22, f22_0, f22_1, f22_2, f22_3⟩
    refine Js.seq ?_
    refine Js.region ?_
    refine JL.q (OpP.q (p_move rfl)) ?_
    refine JL.q (OpP.q (p_move rfl)) ?_
    refine JL.q (OpP.q (p_nilCheck rfl)) ?_
    refine JL.q (OpP.q (p_fieldAddr fld_33_2 rfl)) ?_
    refine JL.q (q_load1 ty_2 rfl (Mem.pub ((hr2.vis x22.vis) 2 _ rfl))) ?_
    refine JL.q (OpP.q (p_move rfl)) ?_
    refine JL.e (e_buildSlice (vs := []) el_24 rfl rfl rfl rfl rfl rfl) ?_
    rintro _ _ _ ⟨b41, rfl, rfl, hl42, rfl⟩ _
    refine JL.conv (fun _ h => h.front (i := 0) rfl) ?_
    refine JL.conv (fun _ h => h.front (i := 2) rfl) ?_
    refine JL.conv (fun _ h => h.front (i := 3) rfl) ?_
    refine JL.conv (fun _ h => h.front (i := 3) rfl) ?_
    refine JL.e (e_callB (bs := [boxO b10 [.slice A6 p.pits.length c6, .slice A9 p.stores.length c9, .int .i64 0, .int .i64 0] 129, rowO 2 1 (.slice A6 p.pits.length c6) p.pits.length (ints_ p.pits) [], rowO 2 1 (.slice A9 p.stores.length c9) p.stores.length (ints_ p.stores) [], rowO 2 1 (.slice (some ⟨b41, 0, none⟩) 0 0) 0 [] []]) (rest := [boxO b3 [.slice none 0 0, .slice none 0 0, .int .i64 0, .int .i64 0] 129]) fn_152 rfl (fun w hb hw => c_spec_l05Lap r _ p.pits p.stores 0 0 A6 c6 [] A9 c9 [] p.player from_ [] (some ⟨b41, 0, none⟩) 0 [] b10 w hb (by omega) (by omega) (by omega) (by omega) (by omega) (by omega) ⟨_, _, [.int .i64 r.pits, .int .i64 r.seeds, .bool r.stores, .bool r.skip, .bool r.relay, .bool r.feed, .bool r.again, .int .i64 r.capture, .int .i64 r.slam], rfl, ⟨rfl, rfl, rfl, rfl, rfl, rfl, rfl, rfl, rfl, trivial⟩, (hr1.vis (x22.vis.trans hw.vis))⟩ (by omega) (by omega) (by omega) r3 (by omega) r5 r6 (by omega) (by omega) (by simp)) rfl) ?_
    rintro _ _ _ ⟨_, G43, ⟨A43s_0, c43s_0, g43s_0, A43s_1, c43s_1, g43s_1, A43_r, c43_r, g43_r, rfl, rfl, bl43_0, bl43_1, bl43_2, bl43_3, bl43_4, bl43_5⟩, rfl, rfl⟩ _
    refine JL.q (OpP.q (p_assign rfl)) ?_
    refine JL.nil ?_
    refine Js.seq ?_
    refine Js.block ?_
    refine Js.loop (fun l os u m => ∃ (sw : M.Sw) (path : List Int) (A44_10 : Option Addr) (c44_10 : Nat) (g44_10 : List Nat) (A44_9_0 : Option Addr) (c44_9_0 : Nat) (g44_9_0 : List Nat) (A44_9_1 : Option Addr) (c44_9_1 : Nat) (g44_9_1 : List Nat) (G44_4 : List Nat), l = [(0, .pointer (some ⟨b1, o1, none⟩)), (1, .pointer (some ⟨b2, o2, none⟩)), (6, .pointer (some ⟨b3, 0, none⟩)), (9, .pointer (some ⟨b10, 0, none⟩)), (10, .slice A44_10 path.length c44_10)] ∧ os = [boxO b10 [.slice A44_9_0 sw.pits.length c44_9_0, .slice A44_9_1 sw.stores.length c44_9_1, .int .i64 sw.last, .int .i64 sw.laps] 129, rowO 2 1 (.slice A44_9_0 sw.pits.length c44_9_0) sw.pits.length (ints_ sw.pits) g44_9_0, rowO 2 1 (.slice A44_9_1 sw.stores.length c44_9_1) sw.stores.length (ints_ sw.stores) g44_9_1, rowO 2 1 (.slice A44_10 path.length c44_10) path.length (ints_ path) g44_10, anyO G44_4, boxO b3 [.slice none 0 0, .slice none 0 0, .int .i64 0, .int .i64 0] 129] ∧ Up w.heap.size u22 u ∧ (M.moreT r p.player sw path = (M.mvT r p.player 100 from_ ⟨p.pits, p.stores, 0, 0⟩ [])) ∧ (M.Good r sw.pits sw.stores 0) ∧ (-1 ≤ sw.last) ∧ (sw.last < 2 * r.pits) ∧ (1 ≤ sw.laps) ∧ (sw.laps ≤ 100) ∧ (path.length ≤ 96 * sw.laps) ∧ (path.length ≤ c44_10) ∧ (c44_10 ≤ 9223372036854775807) ∧ (sw.pits.length ≤ c44_9_0) ∧ (c44_9_0 ≤ 9223372036854775807) ∧ (sw.stores.length ≤ c44_9_1) ∧ (c44_9_1 ≤ 9223372036854775807) ∧ m = (101 - sw.laps).toNat) ⟨(M.lap r p.player from_ (M.Sw.mk p.pits p.stores 0 0) []).1, (M.lap r p.player from_ (M.Sw.mk p.pits p.stores 0 0) []).2, _, _, _, _, _, _, _, _, _, _, rfl, rfl, Up.refl _ _, by exact (M.mvT_moreT (s := ⟨p.pits, p.stores, 0, 0⟩) (Int.le_refl 0) (show (0 : Int) ≤ 99 by decide)).symm, by exact ha, by first | assumption | omega | rfl | (simp; done), by first | assumption | omega | rfl | (simp; done), by first | assumption | omega | rfl | (simp; done), by first | assumption | omega | rfl | (simp; done), by omega, by first | omega | (simp only [List.length_append, List.length_cons, List.length_nil] <;> omega), by first | omega | (simp only [List.length_append, List.length_cons, List.length_nil] <;> omega), by first | omega | (simp only [List.length_append, List.length_cons, List.length_nil] <;> omega), by first | omega | (simp only [List.length_append, List.length_cons, List.length_nil] <;> omega), by first | omega | (simp only [List.length_append, List.length_cons, List.length_nil] <;> omega), by first | omega | (simp only [List.length_append, List.length_cons, List.length_nil] <;> omega), rfl⟩ ⟨rfl, rfl, rfl, rfl, rfl, trivial⟩ ?_
    · rintro _ _ u44 _ ⟨sw, path, A44_10, c44_10, g44_10, A44_9_0, c44_9_0, g44_9_0, A44_9_1, c44_9_1, g44_9_1, G44_4, rfl, rfl, x44, hS, hG, q0, q1, la0, la1, hl, f44_7, f44_8, f44_9, f44_10, f44_11, f44_12, rfl⟩
      have l3 := hG.lp
      have l4 := hG.ls
      refine Js.seq ?_
      refine Js.seq ?_
      refine Js.region ?_
      refine JL.q (OpP.q (p_move rfl)) ?_
      refine JL.q (OpP.q (p_nilCheck rfl)) ?_
      refine JL.q (OpP.q (p_fieldAddr fld_32_4 rfl)) ?_
      refine JL.q (q_load1 ty_4 rfl (Mem.pub ((hr1.vis (x22.vis.trans x44.vis)) 4 _ rfl))) ?_
      refine JL.q (OpP.q (p_move rfl)) ?_
      refine JL.g (Gd.t1 rfl rfl rfl) (fun hc => OpP.q (p_fieldAddr fld_129_2 rfl)) ?_
      refine JL.g (Gd.t1 rfl rfl rfl) (fun hc => q_load1 ty_2 (gvt rfl hc) (Mem.box (i := 0) rfl rfl)) ?_
      refine JL.g (Gd.t1 rfl rfl rfl) (fun hc => OpP.q (p_geq (gvt rfl hc) rfl)) ?_
      refine JL.q (OpP.q (p_pickAnd rfl rfl rfl)) ?_
      refine JL.q (OpP.q (p_move rfl)) ?_
      refine JL.g (Gd.t1 rfl rfl rfl) (fun hc => OpP.q (p_fieldAddr fld_129_0 rfl)) ?_
      refine JL.g (Gd.t1 rfl rfl rfl) (fun hc => q_load1 ty_24 (gvt rfl hc) (Mem.box (i := 0) rfl rfl)) ?_
      refine JL.g (Gd.t1 rfl rfl rfl) (fun hc => OpP.q (p_fieldAddr fld_129_2 rfl)) ?_
      refine JL.g (Gd.t1 rfl rfl rfl) (fun hc => q_load1 ty_2 (gvt rfl hc) (Mem.box (i := 0) rfl rfl)) ?_
      refine JL.fact (row_some (i := 1) rfl (by omega)) (fun hf46 => ?_)
      obtain ⟨b46, rfl⟩ := hf46
      refine JL.g (Gd.t1 rfl rfl rfl) (fun hc => OpP.q (p_indexAddr el_24 (gvt rfl hc) (gvt rfl hc) (by have hc9 := hc; (try simp only [Bool.and_eq_true, decide_eq_true_eq] at hc9); omega) (by have hc9 := hc; (try simp only [Bool.and_eq_true, decide_eq_true_eq] at hc9); omega) rfl)) ?_
      refine JL.g (Gd.t1 rfl rfl rfl) (fun hc => q_load1 ty_2 (gvt rfl hc) (Mem.row (i := 1) rfl (ints_getI (i := sw.last) (by have hc9 := hc; (try simp only [Bool.and_eq_true, decide_eq_true_eq] at hc9); omega)))) ?_
      refine JL.g (Gd.t1 rfl rfl rfl) (fun hc => OpP.q (p_gtr (gvt rfl hc) rfl)) ?_
      refine JL.q (OpP.q (p_pickAnd rfl rfl rfl)) ?_
      refine JL.nil ?_
      refine Js.cond rfl (fun h47 => ?_) (fun h47 => ?_)
      ·
        have h47' := h47
        try simp only [Bool.and_eq_true, decide_eq_true_eq] at h47'
        have hm : M.more r sw = true := h47
        have hmm := M.more_get hm
        obtain ⟨ka, kb, kc, kd, ke, kf⟩ := M.lap_keeps r path r1 r0 r2 hmm.1 q1 hG
        have hgp := hmm.2
        refine Js.skip ?_
        refine Js.block ?_
        refine Js.seq ?_
        refine Js.seq ?_
        refine Js.region ?_
        refine JL.q (OpP.q (p_fieldAddr fld_129_3 rfl)) ?_
        refine JL.q (q_load1 ty_2 rfl (Mem.box (i := 0) rfl rfl)) ?_
        refine JL.q (OpP.q (p_geq rfl rfl)) ?_
        refine JL.nil ?_
        refine Js.cond rfl (fun h48 => ?_) (fun h48 => ?_)
        ·
          have h48' := h48
          try simp only [decide_eq_true_eq] at h48'
          have hT := M.sowT_no (r := r) (p := p) (frm := from_) (by rw [← hS, M.moreT_yes hm, show (100 - sw.laps).toNat = 0 by omega]; rfl)
          refine Js.seq ?_
          refine Js.region ?_
          refine JL.q (OpP.q (p_build zero_129 flds_129 rfl rfl)) ?_
          refine JL.s (e_store (i := 5) (c' := [.slice none 0 0, .slice none 0 0, .int .i64 0, .int .i64 0]) ty_129 rfl rfl rfl rfl rfl rfl rfl rfl) ?_
          rintro _ _ _ ⟨rfl, rfl⟩ _
          refine JL.q (OpP.q (p_assign rfl)) ?_
          refine JL.q (OpP.q (p_assign rfl)) ?_
          refine JL.nil ?_
          refine Js.ret (R := RO w (Ty.tup [Ty.agg (cSown ((M.sowT r p from_).1)), Ty.ints 2 ((M.sowT r p from_).2.1), Ty.bool ((M.sowT r p from_).2.2)])) @Try.results143 (fun _ _ => rfl) (ResOk.cell (res_box (i := 5) ty_129 rfl rfl rfl rfl rfl) (ResOk.tmp rfl (ResOk.tmp rfl ResOk.nil))) (fun w1 hw => ?_)
          have hx := hw.ext ((x22.trans x44))
          exact ret_own (ps := []) hw hx ⟨_, rfl, ⟨_, _, rfl, ⟨_, rfl, ⟨_, _, rfl, (ints_cast (show [] = ((M.sowT r p from_).1).pits by first | (rw [hT]; done) | (rw [hT]; rfl)) nil_own), ⟨_, _, rfl, (ints_cast (show [] = ((M.sowT r p from_).1).stores by first | (rw [hT]; done) | (rw [hT]; rfl)) nil_own), ⟨_, _, rfl, ⟨by first | (rw [hT]; done) | (rw [hT]; rfl), rfl⟩, ⟨_, _, rfl, ⟨by first | (rw [hT]; done) | (rw [hT]; rfl), rfl⟩, rfl⟩⟩⟩⟩⟩, ⟨_, _, rfl, (ints_cast (show [] = (M.sowT r p from_).2.1 by first | (rw [hT]; done) | (rw [hT]; rfl)) nil_own), ⟨_, _, rfl, ⟨by first | (rw [hT]; done) | (rw [hT]; rfl), rfl⟩, rfl⟩⟩⟩⟩ Pick.nil (by simp [List.flatten, outV])
        ·
          have h48' := h48
          try simp only [decide_eq_false_iff_not, Int.not_le] at h48'
          have hS2 : M.moreT r p.player (M.lap r p.player sw.last sw path).1 (M.lap r p.player sw.last sw path).2 = (M.mvT r p.player 100 from_ ⟨p.pits, p.stores, 0, 0⟩ []) := by rw [← hS, M.moreT_yes hm, M.mvT_moreT (by omega) (by omega)]
          refine Js.skip ?_
          refine Js.drawn _ [8] mixed_ (fun _ h => h) ?_
          refine JH.p 0 rfl (p_move rfl) ?_
          refine JH.p 1 rfl (p_move rfl) ?_
          refine JH.p 2 rfl (p_nilCheck rfl) ?_
          refine JH.p 3 rfl (p_fieldAddr fld_33_2 rfl) ?_
          refine JH.w 4 rfl (fun os' u' hv => q_load1 ty_2 rfl (Mem.pub ((hr2.vis ((x22.vis.trans x44.vis).trans hv)) 2 _ rfl))) ?_
          refine JH.p 5 rfl (p_fieldAddr fld_129_2 rfl) ?_
          refine JH.q 6 rfl (q_load1 ty_2 rfl (Mem.box (i := 0) rfl rfl)) ?_
          refine JH.p 7 rfl (p_move rfl) ?_
          refine JH.one (i := 8) (by kernel_rfl) ?_
          refine JHo.e rfl (e_callB (bs := [boxO b10 [.slice (some ⟨b46, 0, none⟩) sw.pits.length c44_9_0, .slice A44_9_1 sw.stores.length c44_9_1, .int .i64 sw.last, .int .i64 sw.laps] 129, rowO 2 1 (.slice (some ⟨b46, 0, none⟩) sw.pits.length c44_9_0) sw.pits.length (ints_ sw.pits) g44_9_0, rowO 2 1 (.slice A44_9_1 sw.stores.length c44_9_1) sw.stores.length (ints_ sw.stores) g44_9_1, rowO 2 1 (.slice A44_10 path.length c44_10) path.length (ints_ path) g44_10]) (rest := [anyO G44_4, boxO b3 [.slice none 0 0, .slice none 0 0, .int .i64 0, .int .i64 0] 129]) fn_152 rfl (fun w hb hw => c_spec_l05Lap r _ sw.pits sw.stores sw.last sw.laps (some ⟨b46, 0, none⟩) c44_9_0 g44_9_0 A44_9_1 c44_9_1 g44_9_1 p.player sw.last path A44_10 c44_10 g44_10 b10 w hb (by omega) (by omega) (by omega) (by omega) (by omega) (by omega) ⟨_, _, [.int .i64 r.pits, .int .i64 r.seeds, .bool r.stores, .bool r.skip, .bool r.relay, .bool r.feed, .bool r.again, .int .i64 r.capture, .int .i64 r.slam], rfl, ⟨rfl, rfl, rfl, rfl, rfl, rfl, rfl, rfl, rfl, trivial⟩, (hr1.vis ((x22.vis.trans x44.vis).trans hw.vis))⟩ (by omega) (by omega) (by omega) hmm.1 (by omega) hG (by omega) (by omega) (by omega) (by omega)) rfl) (.inr rfl) ?_
          rintro _ _ _ ⟨_, G49, ⟨A49s_0, c49s_0, g49s_0, A49s_1, c49s_1, g49s_1, A49_r, c49_r, g49_r, rfl, rfl, bl49_0, bl49_1, bl49_2, bl49_3, bl49_4, bl49_5⟩, rfl, rfl⟩ _
          refine JH.p 9 rfl (p_assign rfl) ?_
          refine JH.done (by kernel_rfl) ?_
          refine Js.blockEnd ?_
          refine Js.drop (i := 4) rfl rfl (fun u50 x50 => ?_)
          exact Js.again ⟨(M.lap r p.player sw.last sw path).1, (M.lap r p.player sw.last sw path).2, _, _, _, _, _, _, _, _, _, _, rfl, rfl, (x44.trans x50), by exact hS2, by exact ka, by first | assumption | omega | rfl | (simp; done), by first | assumption | omega | rfl | (simp; done), by first | assumption | omega | rfl | (simp; done), by first | assumption | omega | rfl | (simp; done), by first | assumption | omega | rfl | (simp; done), by first | omega | (simp only [List.length_append, List.length_cons, List.length_nil] <;> omega), by first | omega | (simp only [List.length_append, List.length_cons, List.length_nil] <;> omega), by first | omega | (simp only [List.length_append, List.length_cons, List.length_nil] <;> omega), by first | omega | (simp only [List.length_append, List.length_cons, List.length_nil] <;> omega), by first | omega | (simp only [List.length_append, List.length_cons, List.length_nil] <;> omega), by first | omega | (simp only [List.length_append, List.length_cons, List.length_nil] <;> omega), rfl⟩ (by omega) ⟨rfl, rfl, rfl, rfl, rfl, trivial⟩
      ·
        have h47' := h47
        try simp only [Bool.and_eq_false_iff, decide_eq_false_iff_not, Int.not_le, Int.not_lt] at h47'
        have hm : M.more r sw = false := h47
        have hT := M.sowT_done (by rw [← hS]; exact M.moreT_no hm)
        refine Js.exit (fun _ _ => rfl) ?_
        refine Js.seq ?_
        refine Js.region ?_
        refine JL.q (q_loadN ty_129 rfl (Mem.boxR (i := 0) rfl 0 4) rfl rfl) ?_
        refine JL.q (OpP.q (p_move rfl)) ?_
        refine JL.s (e_store (i := 5) (c' := [.slice (some ⟨b46, 0, none⟩) sw.pits.length c44_9_0, .slice A44_9_1 sw.stores.length c44_9_1, .int .i64 sw.last, .int .i64 sw.laps]) ty_129 rfl rfl rfl rfl rfl rfl rfl rfl) ?_
        rintro _ _ _ ⟨rfl, rfl⟩ _
        refine JL.q (OpP.q (p_assign rfl)) ?_
        refine JL.q (OpP.q (p_assign rfl)) ?_
        refine JL.nil ?_
        refine Js.ret (R := RO w (Ty.tup [Ty.agg (cSown ((M.sowT r p from_).1)), Ty.ints 2 ((M.sowT r p from_).2.1), Ty.bool ((M.sowT r p from_).2.2)])) @Try.results143 (fun _ _ => rfl) (ResOk.cell (res_box (i := 5) ty_129 rfl rfl rfl rfl rfl) (ResOk.tmp rfl (ResOk.tmp rfl ResOk.nil))) (fun w1 hw => ?_)
        have hx := hw.ext ((x22.trans x44))
        exact ret_own (ps := [(1, (Value.ownBlock (.slice (some ⟨b46, 0, none⟩) sw.pits.length c44_9_0)).toList), (2, (Value.ownBlock (.slice A44_9_1 sw.stores.length c44_9_1)).toList), (3, (Value.ownBlock (.slice A44_10 path.length c44_10)).toList)]) hw hx ⟨_, rfl, ⟨_, _, rfl, ⟨_, rfl, ⟨_, _, rfl, (ints_row (xs := sw.pits) (hw.pr (i := 1) rfl) (show sw.pits = ((M.sowT r p from_).1).pits by first | (rw [hT]; done) | (rw [hT]; rfl))), ⟨_, _, rfl, (ints_row (xs := sw.stores) (hw.pr (i := 2) rfl) (show sw.stores = ((M.sowT r p from_).1).stores by first | (rw [hT]; done) | (rw [hT]; rfl))), ⟨_, _, rfl, ⟨by first | (rw [hT]; done) | (rw [hT]; rfl), rfl⟩, ⟨_, _, rfl, ⟨by first | (rw [hT]; done) | (rw [hT]; rfl), rfl⟩, rfl⟩⟩⟩⟩⟩, ⟨_, _, rfl, (ints_row (xs := path) (hw.pr (i := 3) rfl) (show path = (M.sowT r p from_).2.1 by first | (rw [hT]; done) | (rw [hT]; rfl))), ⟨_, _, rfl, ⟨by first | (rw [hT]; done) | (rw [hT]; rfl), rfl⟩, rfl⟩⟩⟩⟩ (Pick.cons (j := 1) rfl (List.sublist_append_left _ _) rfl (Pick.cons (j := 2) rfl (List.sublist_append_left _ _) rfl (Pick.cons (j := 3) rfl (List.sublist_append_left _ _) rfl Pick.nil))) (by simp [List.flatten, outV])

set_option maxRecDepth 100000 in
set_option maxHeartbeats 400000 in
theorem c_spec_l05Move (r : M.Rul) (v_r : Value) (p : M.Pos) (v_p : Value) (move : Int) (w : World) (h_r : (Ty.ref (cRules r)).ok w v_r) (h_p : (Ty.ref (cPosition p)).ok w v_p) (r0 : p.pits.length ≤ 4194304) (r1 : p.stores.length ≤ 4194304) : Ret Try.prog 126 [v_r, v_p, .int .i64 move] w (Ty.tup [Ty.agg (cSown ((M.sowMove r p move).2.1)), Ty.ints 2 ((M.sowMove r p move).2.2), Ty.int ((M.sowMove r p move).1)]) := by
  obtain ⟨b1, o1, rfl, hr1⟩ := ref_Rules h_r
  obtain ⟨b2, o2, A2_0, c2_0, A2_1, c2_1, rfl, hr2, h2_0, h2_1, bl2_0, bh2_0, bl2_1, bh2_1⟩ := ref_Position h_p
  refine enter @Try.func126 @Try.ntmps126 rfl rfl ?_
  refine Js.seq ?_
  refine Js.region ?_
  refine JL.e (e_alloc zero_129) ?_
  rintro _ _ _ ⟨b3, rfl, rfl, rfl⟩ _
  refine JL.q (OpP.q (p_assign rfl)) ?_
  refine JL.q (OpP.q (p_assign rfl)) ?_
  refine JL.nil ?_
  refine Js.seq ?_
  refine Js.region ?_
  refine JL.q (OpP.q (p_move rfl)) ?_
  refine JL.q (OpP.q (p_move rfl)) ?_
  refine JL.q (OpP.q (p_move rfl)) ?_
  refine JL.e (e_callV fn_142 rfl (fun w hw => c_spec_l05Code r _ p _ move w ⟨_, _, [.int .i64 r.pits, .int .i64 r.seeds, .bool r.stores, .bool r.skip, .bool r.relay, .bool r.feed, .bool r.again, .int .i64 r.capture, .int .i64 r.slam], rfl, ⟨rfl, rfl, rfl, rfl, rfl, rfl, rfl, rfl, rfl, trivial⟩, (hr1.vis hw.vis)⟩ ⟨_, _, [.slice A2_0 p.pits.length c2_0, .slice A2_1 p.stores.length c2_1, .int .i64 p.player], rfl, ⟨(Ty.mono _ h2_0 hw.vis), (Ty.mono _ h2_1 hw.vis), rfl, trivial⟩, (hr2.vis hw.vis)⟩ (by omega) (by omega))) ?_
  rintro _ _ _ ⟨rfl, rfl, rfl⟩ _
  refine JL.q (OpP.q (p_assign rfl)) ?_
  refine JL.nil ?_
  refine Js.seq ?_
  refine Js.seq ?_
  refine Js.region ?_
  refine JL.q (OpP.q (p_move rfl)) ?_
  refine JL.q (OpP.q (p_neq rfl rfl)) ?_
  refine JL.nil ?_
  refine Js.cond rfl (fun h4 => ?_) (fun h4 => ?_)
  ·
    have h4' := h4
    try simp only [Bool.not_eq_true', decide_eq_false_iff_not] at h4'
    have hT := M.sowMove_code (r := r) (p := p) (move := move) (by simpa using h4)
    refine Js.seq ?_
    refine Js.region ?_
    refine JL.q (OpP.q (p_build zero_129 flds_129 rfl rfl)) ?_
    refine JL.q (OpP.q (p_move rfl)) ?_
    refine JL.s (e_store (i := 0) (c' := [.slice none 0 0, .slice none 0 0, .int .i64 0, .int .i64 0]) ty_129 rfl rfl rfl rfl rfl rfl rfl rfl) ?_
    rintro _ _ _ ⟨rfl, rfl⟩ _
    refine JL.q (OpP.q (p_assign rfl)) ?_
    refine JL.q (OpP.q (p_assign rfl)) ?_
    refine JL.nil ?_
    refine Js.ret (R := RO w (Ty.tup [Ty.agg (cSown ((M.sowMove r p move).2.1)), Ty.ints 2 ((M.sowMove r p move).2.2), Ty.int ((M.sowMove r p move).1)])) @Try.results126 (fun _ _ => rfl) (ResOk.cell (res_box (i := 0) ty_129 rfl rfl rfl rfl rfl) (ResOk.tmp rfl (ResOk.tmp rfl ResOk.nil))) (fun w1 hw => ?_)
    have hx := hw.ext (Up.refl _ _)
    exact ret_own (ps := []) hw hx ⟨_, rfl, ⟨_, _, rfl, ⟨_, rfl, ⟨_, _, rfl, (ints_cast (show [] = ((M.sowMove r p move).2.1).pits by first | (rw [hT]; done) | (rw [hT]; rfl)) nil_own), ⟨_, _, rfl, (ints_cast (show [] = ((M.sowMove r p move).2.1).stores by first | (rw [hT]; done) | (rw [hT]; rfl)) nil_own), ⟨_, _, rfl, ⟨by first | (rw [hT]; done) | (rw [hT]; rfl), rfl⟩, ⟨_, _, rfl, ⟨by first | (rw [hT]; done) | (rw [hT]; rfl), rfl⟩, rfl⟩⟩⟩⟩⟩, ⟨_, _, rfl, (ints_cast (show [] = (M.sowMove r p move).2.2 by first | (rw [hT]; done) | (rw [hT]; rfl)) nil_own), ⟨_, _, rfl, ⟨by first | (rw [hT]; done) | (rw [hT]; rfl), rfl⟩, rfl⟩⟩⟩⟩ Pick.nil (by simp [List.flatten, outV])
  ·
    have h4' := h4
    try simp only [Bool.not_eq_false', decide_eq_true_eq] at h4'
    have hc : M.sowCode r p move = 0 := by simpa using h4
    obtain ⟨hok, m0, m1, hg⟩ := M.sowCode_ok hc
    obtain ⟨g1, g2, g3, g4, g5, g6, g7⟩ := M.okP_bd hok
    have hq := M.mul_bd g7 g1 g2
    have hG := M.Good.of_ok hok
    refine Js.skip ?_
    refine Js.seq ?_
    refine Js.cut (fun l os u => ∃ (b12 : Nat) (A11 : Option Addr) (c11 : Nat) (A9 : Option Addr) (c9 : Nat) (A10 : Option Addr) (c10 : Nat), l = [(6, .pointer (some ⟨b3, 0, none⟩)), (10, .pointer (some ⟨b12, 0, none⟩)), (11, .slice A11 (((M.sowT r p ((p.player * r.pits) + move)).2.1).length) c11), (12, .bool ((M.sowT r p ((p.player * r.pits) + move)).2.2))] ∧ os = [boxO b12 [.slice A9 ((((M.sowT r p ((p.player * r.pits) + move)).1).pits).length) c9, .slice A10 ((((M.sowT r p ((p.player * r.pits) + move)).1).stores).length) c10, .int .i64 (((M.sowT r p ((p.player * r.pits) + move)).1).last), .int .i64 (((M.sowT r p ((p.player * r.pits) + move)).1).laps)] 129, rowO 2 1 (.slice A9 ((((M.sowT r p ((p.player * r.pits) + move)).1).pits).length) c9) ((((M.sowT r p ((p.player * r.pits) + move)).1).pits).length) (ints_ (((M.sowT r p ((p.player * r.pits) + move)).1).pits)) [], rowO 2 1 (.slice A10 ((((M.sowT r p ((p.player * r.pits) + move)).1).stores).length) c10) ((((M.sowT r p ((p.player * r.pits) + move)).1).stores).length) (ints_ (((M.sowT r p ((p.player * r.pits) + move)).1).stores)) [], rowO 2 1 (.slice A11 (((M.sowT r p ((p.player * r.pits) + move)).2.1).length) c11) (((M.sowT r p ((p.player * r.pits) + move)).2.1).length) (ints_ ((M.sowT r p ((p.player * r.pits) + move)).2.1)) [], boxO b3 [.slice none 0 0, .slice none 0 0, .int .i64 0, .int .i64 0] 129] ∧ Up w.heap.size w u ∧ (((M.sowT r p ((p.player * r.pits) + move)).2.1).length ≤ c11) ∧ (c11 ≤ 9223372036854775807) ∧ ((((M.sowT r p ((p.player * r.pits) + move)).1).pits).length ≤ c9) ∧ (c9 ≤ 9223372036854775807) ∧ ((((M.sowT r p ((p.player * r.pits) + move)).1).stores).length ≤ c10) ∧ (c10 ≤ 9223372036854775807)) ?_ ?_
    ·
      refine Js.drawn _ [19] mixed_ (fun _ h => h) ?_
      refine JH.p 0 rfl (p_move rfl) ?_
      refine JH.p 1 rfl (p_move rfl) ?_
      refine JH.p 2 rfl (p_move rfl) ?_
      refine JH.p 3 rfl (p_nilCheck rfl) ?_
      refine JH.p 4 rfl (p_fieldAddr fld_33_2 rfl) ?_
      refine JH.w 5 rfl (fun os' u' hv => q_load1 ty_2 rfl (Mem.pub ((hr2.vis hv) 2 _ rfl))) ?_
      refine JH.p 6 rfl (p_move rfl) ?_
      refine JH.p 7 rfl (p_nilCheck rfl) ?_
      refine JH.p 8 rfl (p_fieldAddr fld_32_0 rfl) ?_
      refine JH.w 9 rfl (fun os' u' hv => q_load1 ty_2 rfl (Mem.pub ((hr1.vis hv) 0 _ rfl))) ?_
      refine JH.p 10 rfl (p_mul rfl rfl (IntWalk.i64_in _ (by omega))) ?_
      refine JH.p 11 rfl (p_move rfl) ?_
      refine JH.p 12 rfl (p_add rfl rfl (IntWalk.i64_in _ (by omega))) ?_
      refine JH.all (rs := [13, 18]) (by kernel_rfl) rfl ⟨?_, ?_, trivial⟩
      ·
        refine JHo.e rfl (e_callO fn_143 rfl (Spl.tup (Spls.cons (Spl.agg (Spls.cons (Spl.ints _ _) (Spls.cons (Spl.ints _ _) (Spls.cons (Spl.val _) (Spls.cons (Spl.val _) Spls.nil))))) (Spls.cons (Spl.ints _ _) (Spls.cons (Spl.val _) Spls.nil)))) (fun w hw => c_spec_l05Sow r _ p _ ((p.player * r.pits) + move) w ⟨_, _, [.int .i64 r.pits, .int .i64 r.seeds, .bool r.stores, .bool r.skip, .bool r.relay, .bool r.feed, .bool r.again, .int .i64 r.capture, .int .i64 r.slam], rfl, ⟨rfl, rfl, rfl, rfl, rfl, rfl, rfl, rfl, rfl, trivial⟩, (hr1.vis hw.vis)⟩ ⟨_, _, [.slice A2_0 p.pits.length c2_0, .slice A2_1 p.stores.length c2_1, .int .i64 p.player], rfl, ⟨(Ty.mono _ h2_0 hw.vis), (Ty.mono _ h2_1 hw.vis), rfl, trivial⟩, (hr2.vis hw.vis)⟩ (by omega) (by omega) (by omega) (by omega) (by omega) hG hg)) (.inl rfl) ?_
        rintro v22 _ _ ⟨_, hR23, rfl, rfl⟩ _
        obtain ⟨vs24, rfl, hr24⟩ := hR23
        obtain ⟨v24_0, vs24_0, o24_0, ow24_0, rfl, hR24_0, hs24_0, rfl⟩ := RL_cons hr24
        obtain ⟨v24_1, vs24_1, o24_1, ow24_1, rfl, hR24_1, hs24_1, rfl⟩ := RL_cons hs24_0
        obtain ⟨v24_2, vs24_2, o24_2, ow24_2, rfl, hR24_2, hs24_2, rfl⟩ := RL_cons hs24_1
        obtain ⟨rfl, rfl⟩ := RL_nil hs24_2
        obtain ⟨vs25, rfl, hr25⟩ := hR24_0
        obtain ⟨v25_0, vs25_0, o25_0, ow25_0, rfl, hR25_0, hs25_0, rfl⟩ := RL_cons hr25
        obtain ⟨v25_1, vs25_1, o25_1, ow25_1, rfl, hR25_1, hs25_1, rfl⟩ := RL_cons hs25_0
        obtain ⟨v25_2, vs25_2, o25_2, ow25_2, rfl, hR25_2, hs25_2, rfl⟩ := RL_cons hs25_1
        obtain ⟨v25_3, vs25_3, o25_3, ow25_3, rfl, hR25_3, hs25_3, rfl⟩ := RL_cons hs25_2
        obtain ⟨rfl, rfl⟩ := RL_nil hs25_3
        obtain ⟨A26, c26, rfl, rfl, bl26, bh26⟩ := hR25_0
        obtain ⟨A27, c27, rfl, rfl, bl27, bh27⟩ := hR25_1
        obtain ⟨rfl, rfl⟩ : v25_2 = .int .i64 (((M.sowT r p ((p.player * r.pits) + move)).1).last) ∧ _ := hR25_2
        obtain ⟨rfl, rfl⟩ : v25_3 = .int .i64 (((M.sowT r p ((p.player * r.pits) + move)).1).laps) ∧ _ := hR25_3
        obtain ⟨A28, c28, rfl, rfl, bl28, bh28⟩ := hR24_1
        obtain ⟨rfl, rfl⟩ : v24_2 = .bool ((M.sowT r p ((p.player * r.pits) + move)).2.2) ∧ _ := hR24_2
        refine JH.p 14 rfl (p_move rfl) ?_
        refine JH.p 15 rfl (p_extract rfl rfl) ?_
        refine JH.p 16 rfl (p_extract rfl rfl) ?_
        refine JH.p 17 rfl (p_extract rfl rfl) ?_
        refine JH.one (i := 18) (by kernel_rfl) ?_
        refine JHo.e rfl (e_alloc zero_129) (.inl rfl) ?_
        rintro _ _ _ ⟨b29, rfl, rfl, rfl⟩ _
        refine JH.one (i := 19) (by kernel_rfl) ?_
        refine JHo.s rfl (e_store (i := 0) (c' := [.slice A26 ((((M.sowT r p ((p.player * r.pits) + move)).1).pits).length) c26, .slice A27 ((((M.sowT r p ((p.player * r.pits) + move)).1).stores).length) c27, .int .i64 (((M.sowT r p ((p.player * r.pits) + move)).1).last), .int .i64 (((M.sowT r p ((p.player * r.pits) + move)).1).laps)]) ty_129 rfl rfl rfl rfl rfl rfl rfl rfl) (.inr rfl) ?_
        rintro _ _ _ ⟨rfl, rfl⟩ _
        refine JH.p 20 rfl (p_assign rfl) ?_
        refine JH.p 21 rfl (p_assign rfl) ?_
        refine JH.done (by kernel_rfl) ?_
        exact Js.meet ⟨_, _, _, _, _, _, _, rfl, rfl, Up.refl _ _, by omega, by omega, by omega, by omega, by omega, by omega⟩ ⟨rfl, rfl, rfl, rfl, trivial⟩
      ·
        refine JHo.e rfl (e_alloc zero_129) (.inl rfl) ?_
        rintro _ _ _ ⟨b30, rfl, rfl, rfl⟩ _
        refine JH.one (i := 13) (by kernel_rfl) ?_
        refine JHo.e rfl (e_callO fn_143 rfl (Spl.tup (Spls.cons (Spl.agg (Spls.cons (Spl.ints _ _) (Spls.cons (Spl.ints _ _) (Spls.cons (Spl.val _) (Spls.cons (Spl.val _) Spls.nil))))) (Spls.cons (Spl.ints _ _) (Spls.cons (Spl.val _) Spls.nil)))) (fun w hw => c_spec_l05Sow r _ p _ ((p.player * r.pits) + move) w ⟨_, _, [.int .i64 r.pits, .int .i64 r.seeds, .bool r.stores, .bool r.skip, .bool r.relay, .bool r.feed, .bool r.again, .int .i64 r.capture, .int .i64 r.slam], rfl, ⟨rfl, rfl, rfl, rfl, rfl, rfl, rfl, rfl, rfl, trivial⟩, (hr1.vis hw.vis)⟩ ⟨_, _, [.slice A2_0 p.pits.length c2_0, .slice A2_1 p.stores.length c2_1, .int .i64 p.player], rfl, ⟨(Ty.mono _ h2_0 hw.vis), (Ty.mono _ h2_1 hw.vis), rfl, trivial⟩, (hr2.vis hw.vis)⟩ (by omega) (by omega) (by omega) (by omega) (by omega) hG hg)) (.inl rfl) ?_
        rintro v31 _ _ ⟨_, hR32, rfl, rfl⟩ _
        obtain ⟨vs33, rfl, hr33⟩ := hR32
        obtain ⟨v33_0, vs33_0, o33_0, ow33_0, rfl, hR33_0, hs33_0, rfl⟩ := RL_cons hr33
        obtain ⟨v33_1, vs33_1, o33_1, ow33_1, rfl, hR33_1, hs33_1, rfl⟩ := RL_cons hs33_0
        obtain ⟨v33_2, vs33_2, o33_2, ow33_2, rfl, hR33_2, hs33_2, rfl⟩ := RL_cons hs33_1
        obtain ⟨rfl, rfl⟩ := RL_nil hs33_2
        obtain ⟨vs34, rfl, hr34⟩ := hR33_0
        obtain ⟨v34_0, vs34_0, o34_0, ow34_0, rfl, hR34_0, hs34_0, rfl⟩ := RL_cons hr34
        obtain ⟨v34_1, vs34_1, o34_1, ow34_1, rfl, hR34_1, hs34_1, rfl⟩ := RL_cons hs34_0
        obtain ⟨v34_2, vs34_2, o34_2, ow34_2, rfl, hR34_2, hs34_2, rfl⟩ := RL_cons hs34_1
        obtain ⟨v34_3, vs34_3, o34_3, ow34_3, rfl, hR34_3, hs34_3, rfl⟩ := RL_cons hs34_2
        obtain ⟨rfl, rfl⟩ := RL_nil hs34_3
        obtain ⟨A35, c35, rfl, rfl, bl35, bh35⟩ := hR34_0
        obtain ⟨A36, c36, rfl, rfl, bl36, bh36⟩ := hR34_1
        obtain ⟨rfl, rfl⟩ : v34_2 = .int .i64 (((M.sowT r p ((p.player * r.pits) + move)).1).last) ∧ _ := hR34_2
        obtain ⟨rfl, rfl⟩ : v34_3 = .int .i64 (((M.sowT r p ((p.player * r.pits) + move)).1).laps) ∧ _ := hR34_3
        obtain ⟨A37, c37, rfl, rfl, bl37, bh37⟩ := hR33_1
        obtain ⟨rfl, rfl⟩ : v33_2 = .bool ((M.sowT r p ((p.player * r.pits) + move)).2.2) ∧ _ := hR33_2
        refine JH.p 14 rfl (p_move rfl) ?_
        refine JH.p 15 rfl (p_extract rfl rfl) ?_
        refine JH.p 16 rfl (p_extract rfl rfl) ?_
        refine JH.p 17 rfl (p_extract rfl rfl) ?_
        refine JH.one (i := 19) (by kernel_rfl) ?_
        refine JHo.s rfl (e_store (i := 3) (c' := [.slice A35 ((((M.sowT r p ((p.player * r.pits) + move)).1).pits).length) c35, .slice A36 ((((M.sowT r p ((p.player * r.pits) + move)).1).stores).length) c36, .int .i64 (((M.sowT r p ((p.player * r.pits) + move)).1).last), .int .i64 (((M.sowT r p ((p.player * r.pits) + move)).1).laps)]) ty_129 rfl rfl rfl rfl rfl rfl rfl rfl) (.inr rfl) ?_
        rintro _ _ _ ⟨rfl, rfl⟩ _
        refine JH.p 20 rfl (p_assign rfl) ?_
        refine JH.p 21 rfl (p_assign rfl) ?_
        refine JH.done (by kernel_rfl) ?_
        refine Js.front (i := 4) rfl ?_
        refine Js.front (i := 3) rfl ?_
        refine Js.front (i := 3) rfl ?_
        refine Js.front (i := 3) rfl ?_
        refine Js.front (i := 4) rfl ?_
        exact Js.meet ⟨_, _, _, _, _, _, _, rfl, rfl, Up.refl _ _, by omega, by omega, by omega, by omega, by omega, by omega⟩ ⟨rfl, rfl, rfl, rfl, trivial⟩
    · rintro _ _ u21 ⟨b12, A11, c11, A9, c9, A10, c10, rfl, rfl, x21, f21_0, f21_1, f21_2, f21_3, f21_4, f21_5⟩
      refine Js.seq ?_
      refine Js.seq ?_
      refine Js.region ?_
      refine JL.q (OpP.q (p_move rfl)) ?_
      refine JL.q (OpP.q (p_not rfl)) ?_
      refine JL.nil ?_
      refine Js.cond rfl (fun h38 => ?_) (fun h38 => ?_)
      ·
        have h38' := h38
        try simp only [Bool.not_eq_true'] at h38'
        have hT := M.sowMove_fail hc (by simpa using h38)
        refine Js.seq ?_
        refine Js.region ?_
        refine JL.q (OpP.q (p_build zero_129 flds_129 rfl rfl)) ?_
        refine JL.s (e_store (i := 4) (c' := [.slice none 0 0, .slice none 0 0, .int .i64 0, .int .i64 0]) ty_129 rfl rfl rfl rfl rfl rfl rfl rfl) ?_
        rintro _ _ _ ⟨rfl, rfl⟩ _
        refine JL.q (OpP.q (p_assign rfl)) ?_
        refine JL.q (OpP.q (p_assign rfl)) ?_
        refine JL.nil ?_
        refine Js.ret (R := RO w (Ty.tup [Ty.agg (cSown ((M.sowMove r p move).2.1)), Ty.ints 2 ((M.sowMove r p move).2.2), Ty.int ((M.sowMove r p move).1)])) @Try.results126 (fun _ _ => rfl) (ResOk.cell (res_box (i := 4) ty_129 rfl rfl rfl rfl rfl) (ResOk.tmp rfl (ResOk.tmp rfl ResOk.nil))) (fun w1 hw => ?_)
        have hx := hw.ext (x21)
        exact ret_own (ps := []) hw hx ⟨_, rfl, ⟨_, _, rfl, ⟨_, rfl, ⟨_, _, rfl, (ints_cast (show [] = ((M.sowMove r p move).2.1).pits by first | (rw [hT]; done) | (rw [hT]; rfl)) nil_own), ⟨_, _, rfl, (ints_cast (show [] = ((M.sowMove r p move).2.1).stores by first | (rw [hT]; done) | (rw [hT]; rfl)) nil_own), ⟨_, _, rfl, ⟨by first | (rw [hT]; done) | (rw [hT]; rfl), rfl⟩, ⟨_, _, rfl, ⟨by first | (rw [hT]; done) | (rw [hT]; rfl), rfl⟩, rfl⟩⟩⟩⟩⟩, ⟨_, _, rfl, (ints_cast (show [] = (M.sowMove r p move).2.2 by first | (rw [hT]; done) | (rw [hT]; rfl)) nil_own), ⟨_, _, rfl, ⟨by first | (rw [hT]; done) | (rw [hT]; rfl), rfl⟩, rfl⟩⟩⟩⟩ Pick.nil (by simp [List.flatten, outV])
      ·
        have h38' := h38
        try simp only [Bool.not_eq_false'] at h38'
        have hT := M.sowMove_T2 hc (by simpa using h38)
        refine Js.skip ?_
        refine Js.seq ?_
        refine Js.region ?_
        refine JL.q (q_loadN ty_129 rfl (Mem.boxR (i := 0) rfl 0 4) rfl rfl) ?_
        refine JL.q (OpP.q (p_move rfl)) ?_
        refine JL.s (e_store (i := 4) (c' := [.slice A9 ((((M.sowT r p ((p.player * r.pits) + move)).1).pits).length) c9, .slice A10 ((((M.sowT r p ((p.player * r.pits) + move)).1).stores).length) c10, .int .i64 (((M.sowT r p ((p.player * r.pits) + move)).1).last), .int .i64 (((M.sowT r p ((p.player * r.pits) + move)).1).laps)]) ty_129 rfl rfl rfl rfl rfl rfl rfl rfl) ?_
        rintro _ _ _ ⟨rfl, rfl⟩ _
        refine JL.q (OpP.q (p_assign rfl)) ?_
        refine JL.q (OpP.q (p_assign rfl)) ?_
        refine JL.nil ?_
        refine Js.ret (R := RO w (Ty.tup [Ty.agg (cSown ((M.sowMove r p move).2.1)), Ty.ints 2 ((M.sowMove r p move).2.2), Ty.int ((M.sowMove r p move).1)])) @Try.results126 (fun _ _ => rfl) (ResOk.cell (res_box (i := 4) ty_129 rfl rfl rfl rfl rfl) (ResOk.tmp rfl (ResOk.tmp rfl ResOk.nil))) (fun w1 hw => ?_)
        have hx := hw.ext (x21)
        exact ret_own (ps := [(1, (Value.ownBlock (.slice A9 ((((M.sowT r p ((p.player * r.pits) + move)).1).pits).length) c9)).toList), (2, (Value.ownBlock (.slice A10 ((((M.sowT r p ((p.player * r.pits) + move)).1).stores).length) c10)).toList), (3, (Value.ownBlock (.slice A11 (((M.sowT r p ((p.player * r.pits) + move)).2.1).length) c11)).toList)]) hw hx ⟨_, rfl, ⟨_, _, rfl, ⟨_, rfl, ⟨_, _, rfl, (ints_row (xs := (((M.sowT r p ((p.player * r.pits) + move)).1).pits)) (hw.pr (i := 1) rfl) (show ((M.sowT r p ((p.player * r.pits) + move)).1).pits = ((M.sowMove r p move).2.1).pits by first | (rw [hT]; done) | (rw [hT]; rfl))), ⟨_, _, rfl, (ints_row (xs := (((M.sowT r p ((p.player * r.pits) + move)).1).stores)) (hw.pr (i := 2) rfl) (show ((M.sowT r p ((p.player * r.pits) + move)).1).stores = ((M.sowMove r p move).2.1).stores by first | (rw [hT]; done) | (rw [hT]; rfl))), ⟨_, _, rfl, ⟨by first | (rw [hT]; done) | (rw [hT]; rfl), rfl⟩, ⟨_, _, rfl, ⟨by first | (rw [hT]; done) | (rw [hT]; rfl), rfl⟩, rfl⟩⟩⟩⟩⟩, ⟨_, _, rfl, (ints_row (xs := ((M.sowT r p ((p.player * r.pits) + move)).2.1)) (hw.pr (i := 3) rfl) (show (M.sowT r p ((p.player * r.pits) + move)).2.1 = (M.sowMove r p move).2.2 by first | (rw [hT]; done) | (rw [hT]; rfl))), ⟨_, _, rfl, ⟨by first | (rw [hT]; done) | (rw [hT]; rfl), rfl⟩, rfl⟩⟩⟩⟩ (Pick.cons (j := 1) rfl (List.sublist_append_left _ _) rfl (Pick.cons (j := 2) rfl (List.sublist_append_left _ _) rfl (Pick.cons (j := 3) rfl (List.sublist_append_left _ _) rfl Pick.nil))) (by simp [List.flatten, outV])

end Go.Proofs.Ytejnmechnhgmfaa

/- Walks: G4. -/
import Derived.Test.YtejnmechnhgmfaaZaTy
import Derived.Test.YtejnmechnhgmfaaZaG3
set_option linter.unusedSimpArgs false
set_option linter.unusedVariables false
namespace Go.Proofs.Ytejnmechnhgmfaa
open Go.RowKit

set_option maxRecDepth 100000 in
set_option maxHeartbeats 400000 in
theorem c_impl_Rules_results (r : M.Rul) (v_r : Value) (p : M.Pos) (v_p : Value) (w : World) (h_r : (Ty.agg (cRules r)).ok w v_r) (h_p : (Ty.agg (cPosition p)).ok w v_p) (r0 : M.okP r p = true) : Ret Try.prog 110 [v_r, v_p] w (Ty.sl 84 6 (M.results r p).length (lResult (M.results r p))) := by
  obtain ⟨g1, g2, g3, g4, g5, g6, g7⟩ := M.okP_bd r0
  obtain rfl := open_Rules h_r
  obtain ⟨A2_0, c2_0, A2_1, c2_1, rfl, h2_0, h2_1, bl2_0, bh2_0, bl2_1, bh2_1⟩ := open_Position h_p
  obtain ⟨b3, o3, rfl⟩ := ints_some h2_1 (by omega)
  refine enter @Try.func110 @Try.ntmps110 rfl rfl ?_
  refine Js.seq ?_
  refine Js.region ?_
  refine JL.e (e_box (c := [.int .i64 r.pits, .int .i64 r.seeds, .bool r.stores, .bool r.skip, .bool r.relay, .bool r.feed, .bool r.again, .int .i64 r.capture, .int .i64 r.slam]) rfl rfl) ?_
  rintro _ _ _ ⟨b4, rfl, rfl, rfl⟩ _
  refine JL.e (e_box (c := [.slice A2_0 p.pits.length c2_0, .slice (some ⟨b3, o3, none⟩) p.stores.length c2_1, .int .i64 p.player]) rfl rfl) ?_
  rintro _ _ _ ⟨b5, rfl, rfl, rfl⟩ _
  refine JL.q (OpP.q (p_assign rfl)) ?_
  refine JL.nil ?_
  refine Js.seq ?_
  refine Js.region ?_
  refine JL.e (e_buildSlice (vs := []) el_74 rfl rfl rfl rfl rfl rfl) ?_
  rintro _ _ _ ⟨b6, rfl, rfl, hl7, rfl⟩ _
  refine JL.q (OpP.q (p_assign rfl)) ?_
  refine JL.nil ?_
  refine Js.seq ?_
  refine Js.seq ?_
  refine Js.region ?_
  refine JL.q (OpP.q (p_fieldAddr fld_32_0 rfl)) ?_
  refine JL.q (q_load1 ty_2 rfl (Mem.box (i := 2) rfl rfl)) ?_
  refine JL.q (OpP.q (p_move rfl)) ?_
  refine JL.nil ?_
  refine Js.block ?_
  refine Js.vals (Ts := lResult []) (vs := []) (fun w => rfl) ?_
  refine Js.loop (fun l os u m => ∃ (k : Nat) (acc : List M.Res) (A8_5 : Option Addr) (c8_5 : Nat) (g8_5 : List Nat) (vs8_5 : List Value) (fl8_5 : List Nat), l = [(2, .pointer (some ⟨b4, 0, none⟩)), (3, .pointer (some ⟨b5, 0, none⟩)), (5, .slice A8_5 acc.length c8_5), (13, .int .i64 r.pits), (14, .int .i64 (k : Int))] ∧ os = [ownC (lResult acc) vs8_5 fl8_5, rowO 84 6 (.slice A8_5 acc.length c8_5) acc.length vs8_5 g8_5, boxO b5 [.slice A2_0 p.pits.length c2_0, .slice (some ⟨b3, o3, none⟩) p.stores.length c2_1, .int .i64 p.player] 33, boxO b4 [.int .i64 r.pits, .int .i64 r.seeds, .bool r.stores, .bool r.skip, .bool r.relay, .bool r.feed, .bool r.again, .int .i64 r.capture, .int .i64 r.slam] 32] ∧ Up w.heap.size w u ∧ (acc = M.resultsTo r p k) ∧ (k ≤ r.pits) ∧ (acc.length ≤ c8_5) ∧ (c8_5 ≤ 9223372036854775807) ∧ m = (r.pits - k).toNat) ⟨0, [], _, _, _, _, _, rfl, rfl, Up.refl _ _, by rfl, by first | assumption | omega | rfl | (simp; done), by first | omega | (simp only [List.length_append, List.length_cons, List.length_nil] <;> omega), by first | omega | (simp only [List.length_append, List.length_cons, List.length_nil] <;> omega), rfl⟩ ⟨rfl, rfl, rfl, rfl, rfl, trivial⟩ ?_
  · rintro _ _ u8 _ ⟨k, acc, A8_5, c8_5, g8_5, vs8_5, fl8_5, rfl, rfl, x8, hacc, hk, f8_2, f8_3, rfl⟩
    have hlen := M.resultsTo_len (r := r) (p := p) k
    have hlacc : acc.length ≤ k := by rw [hacc]; exact hlen
    refine Js.seq ?_
    refine Js.region ?_
    refine JL.q (OpP.q (p_lss rfl rfl)) ?_
    refine JL.nil ?_
    refine Js.seq ?_
    refine Js.cond rfl (fun h9 => ?_) (fun h9 => ?_)
    ·
      have h9' := h9
      try simp only [decide_eq_true_eq] at h9'
      refine Js.skip ?_
      refine Js.seq ?_
      refine Js.block ?_
      refine Js.seq ?_
      refine Js.region ?_
      refine JL.q (OpP.q (p_move rfl)) ?_
      refine JL.q (OpP.q (p_assign rfl)) ?_
      refine JL.nil ?_
      refine Js.seq ?_
      refine Js.region ?_
      refine JL.q (q_loadN ty_32 rfl (Mem.boxR (i := 3) rfl 0 9) rfl rfl) ?_
      refine JL.q (q_loadN ty_33 rfl (Mem.boxR (i := 2) rfl 0 3) rfl rfl) ?_
      refine JL.q (OpP.q (p_move rfl)) ?_
      refine JL.e (e_callO fn_134 rfl (Spl.tup (Spls.cons (Spl.agg (Spls.cons (Spl.ints _ _) (Spls.cons (Spl.ints _ _) (Spls.cons (Spl.val _) (Spls.cons (Spl.val _) Spls.nil))))) (Spls.cons (Spl.val _) Spls.nil))) (fun w hw => c_impl_Rules_done r _ p _ (k : Int) w ⟨_, rfl, ⟨rfl, rfl, rfl, rfl, rfl, rfl, rfl, rfl, rfl, trivial⟩⟩ ⟨_, rfl, ⟨(Ty.mono _ h2_0 (x8.vis.trans hw.vis)), (Ty.mono _ h2_1 (x8.vis.trans hw.vis)), rfl, trivial⟩⟩ (by omega) (by omega))) ?_
      rintro v10 _ _ ⟨_, hR11, rfl, rfl⟩ _
      obtain ⟨vs12, rfl, hr12⟩ := hR11
      obtain ⟨v12_0, vs12_0, o12_0, ow12_0, rfl, hR12_0, hs12_0, rfl⟩ := RL_cons hr12
      obtain ⟨v12_1, vs12_1, o12_1, ow12_1, rfl, hR12_1, hs12_1, rfl⟩ := RL_cons hs12_0
      obtain ⟨rfl, rfl⟩ := RL_nil hs12_1
      obtain ⟨vs13, rfl, hr13⟩ := hR12_0
      obtain ⟨v13_0, vs13_0, o13_0, ow13_0, rfl, hR13_0, hs13_0, rfl⟩ := RL_cons hr13
      obtain ⟨v13_1, vs13_1, o13_1, ow13_1, rfl, hR13_1, hs13_1, rfl⟩ := RL_cons hs13_0
      obtain ⟨v13_2, vs13_2, o13_2, ow13_2, rfl, hR13_2, hs13_2, rfl⟩ := RL_cons hs13_1
      obtain ⟨v13_3, vs13_3, o13_3, ow13_3, rfl, hR13_3, hs13_3, rfl⟩ := RL_cons hs13_2
      obtain ⟨rfl, rfl⟩ := RL_nil hs13_3
      obtain ⟨A14, c14, rfl, rfl, bl14, bh14⟩ := hR13_0
      obtain ⟨A15, c15, rfl, rfl, bl15, bh15⟩ := hR13_1
      obtain ⟨rfl, rfl⟩ : v13_2 = .int .i64 (((M.done r p (k : Int)).1).last) ∧ _ := hR13_2
      obtain ⟨rfl, rfl⟩ : v13_3 = .int .i64 (((M.done r p (k : Int)).1).laps) ∧ _ := hR13_3
      obtain ⟨rfl, rfl⟩ : v12_1 = .int .i64 ((M.done r p (k : Int)).2) ∧ _ := hR12_1
      refine JL.q (OpP.q (p_move rfl)) ?_
      refine JL.q (OpP.q (p_extract rfl rfl)) ?_
      refine JL.q (OpP.q (p_extract rfl rfl)) ?_
      refine JL.e (e_alloc zero_129) ?_
      rintro _ _ _ ⟨b16, rfl, rfl, rfl⟩ _
      refine JL.s (e_store (i := 0) (c' := [.slice A14 ((((M.done r p (k : Int)).1).pits).length) c14, .slice A15 ((((M.done r p (k : Int)).1).stores).length) c15, .int .i64 (((M.done r p (k : Int)).1).last), .int .i64 (((M.done r p (k : Int)).1).laps)]) ty_129 rfl rfl rfl rfl rfl rfl rfl rfl) ?_
      rintro _ _ _ ⟨rfl, rfl⟩ _
      refine JL.q (OpP.q (p_assign rfl)) ?_
      refine JL.nil ?_
      refine Js.seq ?_
      refine Js.seq ?_
      refine Js.region ?_
      refine JL.q (OpP.q (p_move rfl)) ?_
      refine JL.q (OpP.q (p_neq rfl rfl)) ?_
      refine JL.nil ?_
      refine Js.cond rfl (fun h17 => ?_) (fun h17 => ?_)
      ·
        have h17' := h17
        try simp only [Bool.not_eq_true', decide_eq_false_iff_not] at h17'
        have hacc2 := (M.resultsTo_no (r := r) (p := p) (k := k) (by simpa using h17)).symm
        refine Js.exit (fun _ _ => rfl) ?_
        refine Js.region ?_
        refine JL.q (OpP.q (p_add rfl rfl (IntWalk.i64_in _ (by omega)))) ?_
        refine JL.q (OpP.q (p_move rfl)) ?_
        refine JL.nil ?_
        refine Js.drop (i := 0) rfl rfl (fun u18 x18 => ?_)
        refine Js.drop (i := 0) rfl rfl (fun u19 x19 => ?_)
        refine Js.drop (i := 0) rfl rfl (fun u20 x20 => ?_)
        exact Js.again ⟨k + 1, acc, _, _, _, _, _, rfl, rfl, (((x8.trans x18).trans x19).trans x20), by rw [hacc]; exact hacc2, by first | assumption | omega | rfl | (simp; done), by first | omega | (simp only [List.length_append, List.length_cons, List.length_nil] <;> omega), by first | omega | (simp only [List.length_append, List.length_cons, List.length_nil] <;> omega), rfl⟩ (by omega) ⟨rfl, rfl, rfl, rfl, rfl, trivial⟩
      ·
        have h17' := h17
        try simp only [Bool.not_eq_false', decide_eq_true_eq] at h17'
        have hz : (M.done r p k).2 = 0 := by simpa using h17
        obtain ⟨_, _, _, hG⟩ := M.done_good hz
        have l3 := hG.ls
        have hs1 := hG.store p.player
        have hs2 := (M.Good.of_ok r0).store p.player
        refine Js.fact (row_some (i := 2) rfl (by omega)) (fun hf21 => ?_)
        obtain ⟨b21, rfl⟩ := hf21
        refine Js.skip ?_
        refine Js.seq ?_
        refine Js.region ?_
        refine JL.q (OpP.q (p_fieldAddr fld_32_6 rfl)) ?_
        refine JL.q (q_load1 ty_4 rfl (Mem.box (i := 6) rfl rfl)) ?_
        refine JL.q (OpP.q (p_move rfl)) ?_
        refine JL.g (Gd.t1 rfl rfl rfl) (fun hc => OpP.q (p_fieldAddr fld_129_2 rfl)) ?_
        refine JL.g (Gd.t1 rfl rfl rfl) (fun hc => q_load1 ty_2 (gvt rfl hc) (Mem.box (i := 0) rfl rfl)) ?_
        refine JL.g (Gd.t1 rfl rfl rfl) (fun hc => OpP.q (p_eql (gvt rfl hc) rfl)) ?_
        refine JL.q (OpP.q (p_pickAnd rfl rfl rfl)) ?_
        refine JL.q (OpP.q (p_assign rfl)) ?_
        refine JL.nil ?_
        refine Js.seq ?_
        refine Js.region ?_
        refine JL.q (OpP.q (p_fieldAddr fld_129_0 rfl)) ?_
        refine JL.q (q_load1 ty_24 rfl (Mem.box (i := 0) rfl rfl)) ?_
        refine JL.q (OpP.q (p_fieldAddr fld_129_1 rfl)) ?_
        refine JL.q (q_load1 ty_24 rfl (Mem.box (i := 0) rfl rfl)) ?_
        refine JL.q (OpP.q (p_fieldAddr fld_33_2 rfl)) ?_
        refine JL.q (q_load1 ty_2 rfl (Mem.box (i := 5) rfl rfl)) ?_
        refine JL.q (OpP.q (p_sub rfl rfl (IntWalk.i64_in _ (by omega)))) ?_
        refine JL.q (OpP.q (p_build zero_33 flds_33 rfl rfl)) ?_
        refine JL.e (e_alloc zero_33) ?_
        rintro _ _ _ ⟨b22, rfl, rfl, rfl⟩ _
        refine JL.s (e_store (i := 0) (c' := [.slice A14 ((((M.done r p (k : Int)).1).pits).length) c14, .slice (some ⟨b21, 0, none⟩) ((((M.done r p (k : Int)).1).stores).length) c15, .int .i64 (1 - p.player)]) ty_33 rfl rfl rfl rfl rfl rfl rfl rfl) ?_
        rintro _ _ _ ⟨rfl, rfl⟩ _
        refine JL.nil ?_
        refine Js.seq ?_
        refine Js.seq ?_
        refine Js.region ?_
        refine JL.q (OpP.q (p_move rfl)) ?_
        refine JL.nil ?_
        refine Js.cond rfl (fun h23 => ?_) (fun h23 => ?_)
        ·
          have h23' := h23
          try simp only [Bool.and_eq_true, decide_eq_true_eq] at h23'
          have hacc2 := (M.resultsTo_yes hz).symm
          unfold M.resOf at hacc2
          rw [if_pos h23] at hacc2
          refine Js.region ?_
          refine JL.q (OpP.q (p_fieldAddr fld_33_2 rfl)) ?_
          refine JL.q (q_load1 ty_2 rfl (Mem.box (i := 6) rfl rfl)) ?_
          refine JL.q (OpP.q (p_fieldAddr fld_33_2 rfl)) ?_
          refine JL.s (e_store (i := 0) (c' := [.slice A14 ((((M.done r p (k : Int)).1).pits).length) c14, .slice (some ⟨b21, 0, none⟩) ((((M.done r p (k : Int)).1).stores).length) c15, .int .i64 p.player]) ty_2 rfl rfl rfl rfl rfl rfl rfl rfl) ?_
          rintro _ _ _ ⟨rfl, rfl⟩ _
          refine JL.nil ?_
          refine Js.drawn _ [19] mixed_ (fun _ h => h) ?_
          refine JH.p 0 rfl (p_move rfl) ?_
          refine JH.p 1 rfl (p_move rfl) ?_
          refine JH.p 2 rfl (p_fieldAddr fld_129_1 rfl) ?_
          refine JH.q 3 rfl (q_load1 ty_24 rfl (Mem.box (i := 1) rfl rfl)) ?_
          refine JH.p 4 rfl (p_fieldAddr fld_33_2 rfl) ?_
          refine JH.q 5 rfl (q_load1 ty_2 rfl (Mem.box (i := 6) rfl rfl)) ?_
          refine JH.p 6 rfl (p_indexAddr el_24 rfl rfl (by omega) (by omega) rfl) ?_
          refine JH.q 7 rfl (q_load1 ty_2 rfl (Mem.row (i := 3) rfl (ints_getI (i := p.player) (by omega)))) ?_
          refine JH.p 8 rfl (p_fieldAddr fld_33_1 rfl) ?_
          refine JH.q 9 rfl (q_load1 ty_24 rfl (Mem.box (i := 6) rfl rfl)) ?_
          refine JH.p 10 rfl (p_fieldAddr fld_33_2 rfl) ?_
          refine JH.q 11 rfl (q_load1 ty_2 rfl (Mem.box (i := 6) rfl rfl)) ?_
          refine JH.p 12 rfl (p_indexAddr el_24 rfl rfl (by omega) (by omega) rfl) ?_
          refine JH.w 13 rfl (fun os' u' hv => q_load1 ty_2 rfl (Mem.pub (ints_cellI (i := p.player) (Ty.mono _ h2_1 (x8.vis.trans hv)) (by omega)))) ?_
          refine JH.p 14 rfl (p_sub rfl rfl (IntWalk.i64_in _ (by omega))) ?_
          refine JH.p 15 rfl (p_move rfl) ?_
          refine JH.q 16 rfl (q_loadN ty_33 rfl (Mem.boxR (i := 0) rfl 0 3) rfl rfl) ?_
          refine JH.p 17 rfl (p_build zero_84 flds_84 rfl rfl) ?_
          refine JH.one (i := 18) (by kernel_rfl) ?_
          refine JHo.e rfl (e_buildSlice (vs := [.int .i64 (k : Int), .int .i64 ((M.getI (((M.done r p (k : Int)).1).stores) p.player) - (M.getI p.stores p.player)), .bool (r.again && (decide (((M.done r p (k : Int)).1).last = (-1)))), .slice A14 ((((M.done r p (k : Int)).1).pits).length) c14, .slice (some ⟨b21, 0, none⟩) ((((M.done r p (k : Int)).1).stores).length) c15, .int .i64 p.player]) el_74 rfl rfl rfl rfl rfl rfl) (.inl rfl) ?_
          rintro _ _ _ ⟨b26, rfl, rfl, hl27, rfl⟩ _
          refine JH.one (i := 19) (by kernel_rfl) ?_
          refine JHo.e rfl (e_append (i := 6) (n' := (acc ++ [(M.Res.mk (k : Int) ((M.getI (((M.done r p (k : Int)).1).stores) p.player) - (M.getI p.stores p.player)) (r.again && (decide (((M.done r p (k : Int)).1).last = (-1)))) (M.Pos.mk (((M.done r p (k : Int)).1).pits) (((M.done r p (k : Int)).1).stores) p.player))]).length) (vs' := vs8_5 ++ [.int .i64 (k : Int), .int .i64 ((M.getI (((M.done r p (k : Int)).1).stores) p.player) - (M.getI p.stores p.player)), .bool (r.again && (decide (((M.done r p (k : Int)).1).last = (-1)))), .slice A14 ((((M.done r p (k : Int)).1).pits).length) c14, .slice (some ⟨b21, 0, none⟩) ((((M.done r p (k : Int)).1).stores).length) c15, .int .i64 p.player]) el_74 rfl rfl rfl rfl (src_row (i := 0) und_74 rfl rfl) (by omega) (by omega) (by first | omega | (simp only [List.length_append, List.length_cons, List.length_nil] <;> omega)) (rfl)) (.inr rfl) ?_
          rintro v28 _ _ ⟨⟨g29, rfl⟩, rfl⟩ _
          refine JH.fact (row_form' (i := 6) rfl) (fun hf30 => ?_)
          obtain ⟨A30, c30, rfl, bl30, bh30⟩ := hf30
          refine JH.p 20 rfl (p_assign rfl) ?_
          refine JH.done (by kernel_rfl) ?_
          refine Js.pack2 (i := 3) (j := 3) (cResult (M.Res.mk (k : Int) ((M.getI (((M.done r p (k : Int)).1).stores) p.player) - (M.getI p.stores p.player)) (r.again && (decide (((M.done r p (k : Int)).1).last = (-1)))) (M.Pos.mk (((M.done r p (k : Int)).1).pits) (((M.done r p (k : Int)).1).stores) p.player))) [.int .i64 (k : Int), .int .i64 ((M.getI (((M.done r p (k : Int)).1).stores) p.player) - (M.getI p.stores p.player)), .bool (r.again && (decide (((M.done r p (k : Int)).1).last = (-1)))), .slice A14 ((((M.done r p (k : Int)).1).pits).length) c14, .slice (some ⟨b21, 0, none⟩) ((((M.done r p (k : Int)).1).stores).length) c15, .int .i64 p.player] rfl rfl (fun w h1 h2 => pack_Result (ints_row h1 rfl) (ints_row h2 rfl)) (fun f31 => ?_)
          refine Js.joinL (i := 4) (j := 0) (Vs := lResult (acc ++ [(M.Res.mk (k : Int) ((M.getI (((M.done r p (k : Int)).1).stores) p.player) - (M.getI p.stores p.player)) (r.again && (decide (((M.done r p (k : Int)).1).last = (-1)))) (M.Pos.mk (((M.done r p (k : Int)).1).pits) (((M.done r p (k : Int)).1).stores) p.player))])) rfl rfl (lResult_snoc _ _) (fun f32 => ?_)
          refine Js.blockEnd ?_
          refine Js.region ?_
          refine JL.q (OpP.q (p_add rfl rfl (IntWalk.i64_in _ (by omega)))) ?_
          refine JL.q (OpP.q (p_move rfl)) ?_
          refine JL.nil ?_
          refine Js.drop (i := 1) rfl rfl (fun u33 x33 => ?_)
          refine Js.drop (i := 1) rfl rfl (fun u34 x34 => ?_)
          refine Js.drop (i := 1) rfl rfl (fun u35 x35 => ?_)
          exact Js.again ⟨k + 1, acc ++ [(M.Res.mk (k : Int) ((M.getI (((M.done r p (k : Int)).1).stores) p.player) - (M.getI p.stores p.player)) (r.again && (decide (((M.done r p (k : Int)).1).last = (-1)))) (M.Pos.mk (((M.done r p (k : Int)).1).pits) (((M.done r p (k : Int)).1).stores) p.player))], _, _, _, _, _, rfl, rfl, (((x8.trans x33).trans x34).trans x35), by rw [hacc]; exact hacc2, by first | assumption | omega | rfl | (simp; done), by first | omega | (simp only [List.length_append, List.length_cons, List.length_nil] <;> omega), by first | omega | (simp only [List.length_append, List.length_cons, List.length_nil] <;> omega), rfl⟩ (by omega) ⟨rfl, rfl, rfl, rfl, rfl, trivial⟩
        ·
          have h23' := h23
          try simp only [Bool.and_eq_false_iff, decide_eq_false_iff_not] at h23'
          have hacc2 := (M.resultsTo_yes hz).symm
          unfold M.resOf at hacc2
          rw [if_neg (by simpa using h23)] at hacc2
          refine Js.skip ?_
          refine Js.drawn _ [19] mixed_ (fun _ h => h) ?_
          refine JH.p 0 rfl (p_move rfl) ?_
          refine JH.p 1 rfl (p_move rfl) ?_
          refine JH.p 2 rfl (p_fieldAddr fld_129_1 rfl) ?_
          refine JH.q 3 rfl (q_load1 ty_24 rfl (Mem.box (i := 1) rfl rfl)) ?_
          refine JH.p 4 rfl (p_fieldAddr fld_33_2 rfl) ?_
          refine JH.q 5 rfl (q_load1 ty_2 rfl (Mem.box (i := 6) rfl rfl)) ?_
          refine JH.p 6 rfl (p_indexAddr el_24 rfl rfl (by omega) (by omega) rfl) ?_
          refine JH.q 7 rfl (q_load1 ty_2 rfl (Mem.row (i := 3) rfl (ints_getI (i := p.player) (by omega)))) ?_
          refine JH.p 8 rfl (p_fieldAddr fld_33_1 rfl) ?_
          refine JH.q 9 rfl (q_load1 ty_24 rfl (Mem.box (i := 6) rfl rfl)) ?_
          refine JH.p 10 rfl (p_fieldAddr fld_33_2 rfl) ?_
          refine JH.q 11 rfl (q_load1 ty_2 rfl (Mem.box (i := 6) rfl rfl)) ?_
          refine JH.p 12 rfl (p_indexAddr el_24 rfl rfl (by omega) (by omega) rfl) ?_
          refine JH.w 13 rfl (fun os' u' hv => q_load1 ty_2 rfl (Mem.pub (ints_cellI (i := p.player) (Ty.mono _ h2_1 (x8.vis.trans hv)) (by omega)))) ?_
          refine JH.p 14 rfl (p_sub rfl rfl (IntWalk.i64_in _ (by omega))) ?_
          refine JH.p 15 rfl (p_move rfl) ?_
          refine JH.q 16 rfl (q_loadN ty_33 rfl (Mem.boxR (i := 0) rfl 0 3) rfl rfl) ?_
          refine JH.p 17 rfl (p_build zero_84 flds_84 rfl rfl) ?_
          refine JH.one (i := 18) (by kernel_rfl) ?_
          refine JHo.e rfl (e_buildSlice (vs := [.int .i64 (k : Int), .int .i64 ((M.getI (((M.done r p (k : Int)).1).stores) p.player) - (M.getI p.stores p.player)), .bool (r.again && (decide (((M.done r p (k : Int)).1).last = (-1)))), .slice A14 ((((M.done r p (k : Int)).1).pits).length) c14, .slice (some ⟨b21, 0, none⟩) ((((M.done r p (k : Int)).1).stores).length) c15, .int .i64 (1 - p.player)]) el_74 rfl rfl rfl rfl rfl rfl) (.inl rfl) ?_
          rintro _ _ _ ⟨b38, rfl, rfl, hl39, rfl⟩ _
          refine JH.one (i := 19) (by kernel_rfl) ?_
          refine JHo.e rfl (e_append (i := 6) (n' := (acc ++ [(M.Res.mk (k : Int) ((M.getI (((M.done r p (k : Int)).1).stores) p.player) - (M.getI p.stores p.player)) (r.again && (decide (((M.done r p (k : Int)).1).last = (-1)))) (M.Pos.mk (((M.done r p (k : Int)).1).pits) (((M.done r p (k : Int)).1).stores) (1 - p.player)))]).length) (vs' := vs8_5 ++ [.int .i64 (k : Int), .int .i64 ((M.getI (((M.done r p (k : Int)).1).stores) p.player) - (M.getI p.stores p.player)), .bool (r.again && (decide (((M.done r p (k : Int)).1).last = (-1)))), .slice A14 ((((M.done r p (k : Int)).1).pits).length) c14, .slice (some ⟨b21, 0, none⟩) ((((M.done r p (k : Int)).1).stores).length) c15, .int .i64 (1 - p.player)]) el_74 rfl rfl rfl rfl (src_row (i := 0) und_74 rfl rfl) (by omega) (by omega) (by first | omega | (simp only [List.length_append, List.length_cons, List.length_nil] <;> omega)) (rfl)) (.inr rfl) ?_
          rintro v40 _ _ ⟨⟨g41, rfl⟩, rfl⟩ _
          refine JH.fact (row_form' (i := 6) rfl) (fun hf42 => ?_)
          obtain ⟨A42, c42, rfl, bl42, bh42⟩ := hf42
          refine JH.p 20 rfl (p_assign rfl) ?_
          refine JH.done (by kernel_rfl) ?_
          refine Js.pack2 (i := 3) (j := 3) (cResult (M.Res.mk (k : Int) ((M.getI (((M.done r p (k : Int)).1).stores) p.player) - (M.getI p.stores p.player)) (r.again && (decide (((M.done r p (k : Int)).1).last = (-1)))) (M.Pos.mk (((M.done r p (k : Int)).1).pits) (((M.done r p (k : Int)).1).stores) (1 - p.player)))) [.int .i64 (k : Int), .int .i64 ((M.getI (((M.done r p (k : Int)).1).stores) p.player) - (M.getI p.stores p.player)), .bool (r.again && (decide (((M.done r p (k : Int)).1).last = (-1)))), .slice A14 ((((M.done r p (k : Int)).1).pits).length) c14, .slice (some ⟨b21, 0, none⟩) ((((M.done r p (k : Int)).1).stores).length) c15, .int .i64 (1 - p.player)] rfl rfl (fun w h1 h2 => pack_Result (ints_row h1 rfl) (ints_row h2 rfl)) (fun f43 => ?_)
          refine Js.joinL (i := 4) (j := 0) (Vs := lResult (acc ++ [(M.Res.mk (k : Int) ((M.getI (((M.done r p (k : Int)).1).stores) p.player) - (M.getI p.stores p.player)) (r.again && (decide (((M.done r p (k : Int)).1).last = (-1)))) (M.Pos.mk (((M.done r p (k : Int)).1).pits) (((M.done r p (k : Int)).1).stores) (1 - p.player)))])) rfl rfl (lResult_snoc _ _) (fun f44 => ?_)
          refine Js.blockEnd ?_
          refine Js.region ?_
          refine JL.q (OpP.q (p_add rfl rfl (IntWalk.i64_in _ (by omega)))) ?_
          refine JL.q (OpP.q (p_move rfl)) ?_
          refine JL.nil ?_
          refine Js.drop (i := 1) rfl rfl (fun u45 x45 => ?_)
          refine Js.drop (i := 1) rfl rfl (fun u46 x46 => ?_)
          refine Js.drop (i := 1) rfl rfl (fun u47 x47 => ?_)
          exact Js.again ⟨k + 1, acc ++ [(M.Res.mk (k : Int) ((M.getI (((M.done r p (k : Int)).1).stores) p.player) - (M.getI p.stores p.player)) (r.again && (decide (((M.done r p (k : Int)).1).last = (-1)))) (M.Pos.mk (((M.done r p (k : Int)).1).pits) (((M.done r p (k : Int)).1).stores) (1 - p.player)))], _, _, _, _, _, rfl, rfl, (((x8.trans x45).trans x46).trans x47), by rw [hacc]; exact hacc2, by first | assumption | omega | rfl | (simp; done), by first | omega | (simp only [List.length_append, List.length_cons, List.length_nil] <;> omega), by first | omega | (simp only [List.length_append, List.length_cons, List.length_nil] <;> omega), rfl⟩ (by omega) ⟨rfl, rfl, rfl, rfl, rfl, trivial⟩
    ·
      have h9' := h9
      try simp only [decide_eq_false_iff_not, Int.not_lt] at h9'
      have hR : acc = M.results r p := by rw [hacc]; unfold M.results; rw [show k = r.pits.toNat by omega]
      refine Js.exit (fun _ _ => rfl) ?_
      refine Js.seq ?_
      refine Js.region ?_
      refine JL.q (OpP.q (p_move rfl)) ?_
      refine JL.q (OpP.q (p_assign rfl)) ?_
      refine JL.nil ?_
      refine Js.ret (R := RO w (Ty.sl 84 6 (M.results r p).length (lResult (M.results r p)))) @Try.results110 (fun _ _ => rfl) (ResOk.tmp rfl ResOk.nil) (fun w1 hw => ?_)
      have hx := hw.ext (x8)
      exact ret_own (ps := [(1, (Value.ownBlock (.slice A8_5 acc.length c8_5)).toList), (0, fl8_5)]) hw hx (srow_own lResult (hw.pr (i := 1) rfl) (hw.pr (i := 0) rfl) (lResult_length _) (show acc = M.results r p by exact hR)) (Pick.cons (j := 1) rfl (List.sublist_append_left _ _) rfl (Pick.cons (j := 0) rfl (List.Sublist.refl _) rfl Pick.nil)) (by simp [List.flatten, outV])

set_option maxRecDepth 100000 in
set_option maxHeartbeats 400000 in
theorem c_impl_Rules_resultOf (r : M.Rul) (v_r : Value) (p : M.Pos) (v_p : Value) (move : Int) (w : World) (h_r : (Ty.agg (cRules r)).ok w v_r) (h_p : (Ty.agg (cPosition p)).ok w v_p) (r0 : p.pits.length ≤ 4194304) (r1 : p.stores.length ≤ 4194304) : Ret Try.prog 102 [v_r, v_p, .int .i64 move] w (Ty.tup [Ty.agg (cResult ((M.make r p move).1)), Ty.int ((M.make r p move).2)]) := by
  obtain rfl := open_Rules h_r
  obtain ⟨A2_0, c2_0, A2_1, c2_1, rfl, h2_0, h2_1, bl2_0, bh2_0, bl2_1, bh2_1⟩ := open_Position h_p
  refine enter @Try.func102 @Try.ntmps102 rfl rfl ?_
  refine Js.seq ?_
  refine Js.region ?_
  refine JL.e (e_box (c := [.int .i64 r.pits, .int .i64 r.seeds, .bool r.stores, .bool r.skip, .bool r.relay, .bool r.feed, .bool r.again, .int .i64 r.capture, .int .i64 r.slam]) rfl rfl) ?_
  rintro _ _ _ ⟨b3, rfl, rfl, rfl⟩ _
  refine JL.e (e_box (c := [.slice A2_0 p.pits.length c2_0, .slice A2_1 p.stores.length c2_1, .int .i64 p.player]) rfl rfl) ?_
  rintro _ _ _ ⟨b4, rfl, rfl, rfl⟩ _
  refine JL.e (e_alloc zero_84) ?_
  rintro _ _ _ ⟨b5, rfl, rfl, rfl⟩ _
  refine JL.q (OpP.q (p_assign rfl)) ?_
  refine JL.nil ?_
  refine Js.seq ?_
  refine Js.seq ?_
  refine Js.region ?_
  refine JL.q (q_loadN ty_32 rfl (Mem.boxR (i := 2) rfl 0 9) rfl rfl) ?_
  refine JL.q (q_loadN ty_33 rfl (Mem.boxR (i := 1) rfl 0 3) rfl rfl) ?_
  refine JL.q (OpP.q (p_move rfl)) ?_
  refine JL.e (e_callV fn_123 rfl (fun w hw => c_impl_MoveFault r _ p _ move w ⟨_, rfl, ⟨rfl, rfl, rfl, rfl, rfl, rfl, rfl, rfl, rfl, trivial⟩⟩ ⟨_, rfl, ⟨(Ty.mono _ h2_0 hw.vis), (Ty.mono _ h2_1 hw.vis), rfl, trivial⟩⟩ (by omega) (by omega))) ?_
  rintro _ _ _ ⟨rfl, rfl, rfl⟩ _
  refine JL.q (OpP.q (p_assign rfl)) ?_
  refine JL.nil ?_
  refine Js.seq ?_
  refine Js.region ?_
  refine JL.q (OpP.q (p_move rfl)) ?_
  refine JL.q (OpP.q (p_neq rfl rfl)) ?_
  refine JL.nil ?_
  refine Js.cond rfl (fun h6 => ?_) (fun h6 => ?_)
  ·
    have h6' := h6
    try simp only [Bool.not_eq_true', decide_eq_false_iff_not] at h6'
    have hD := M.make_no (r := r) (p := p) (move := move) (by simpa using h6)
    refine Js.seq ?_
    refine Js.region ?_
    refine JL.q (OpP.q (p_build zero_84 flds_84 rfl rfl)) ?_
    refine JL.q (OpP.q (p_move rfl)) ?_
    refine JL.s (e_store (i := 0) (c' := [.int .i64 0, .int .i64 0, .bool false, .slice none 0 0, .slice none 0 0, .int .i64 0]) ty_84 rfl rfl rfl rfl rfl rfl rfl rfl) ?_
    rintro _ _ _ ⟨rfl, rfl⟩ _
    refine JL.q (OpP.q (p_assign rfl)) ?_
    refine JL.nil ?_
    refine Js.ret (R := RO w (Ty.tup [Ty.agg (cResult ((M.make r p move).1)), Ty.int ((M.make r p move).2)])) @Try.results102 (fun _ _ => rfl) (ResOk.cell (res_box (i := 0) ty_84 rfl rfl rfl rfl rfl) (ResOk.tmp rfl ResOk.nil)) (fun w1 hw => ?_)
    have hx := hw.ext (Up.refl _ _)
    exact ret_own (ps := []) hw hx ⟨_, rfl, ⟨_, _, rfl, ⟨_, rfl, ⟨_, _, rfl, ⟨by first | exact hE | (rw [hm]; done) | (rw [hD]; done) | (rw [hD]; rfl), rfl⟩, ⟨_, _, rfl, ⟨by first | exact hE | (rw [hm]; done) | (rw [hD]; done) | (rw [hD]; rfl), rfl⟩, ⟨_, _, rfl, ⟨by first | exact hE | (rw [hm]; done) | (rw [hD]; done) | (rw [hD]; rfl), rfl⟩, ⟨_, _, rfl, (ints_cast (show [] = (((M.make r p move).1).next).pits by first | exact hE | (rw [hm]; done) | (rw [hD]; done) | (rw [hD]; rfl)) nil_own), ⟨_, _, rfl, (ints_cast (show [] = (((M.make r p move).1).next).stores by first | exact hE | (rw [hm]; done) | (rw [hD]; done) | (rw [hD]; rfl)) nil_own), ⟨_, _, rfl, ⟨by first | exact hE | (rw [hm]; done) | (rw [hD]; done) | (rw [hD]; rfl), rfl⟩, rfl⟩⟩⟩⟩⟩⟩⟩, ⟨_, _, rfl, ⟨by first | exact hE | (rw [hm]; done) | (rw [hD]; done) | (rw [hD]; rfl), rfl⟩, rfl⟩⟩⟩ Pick.nil (by simp [List.flatten, outV])
  ·
    have h6' := h6
    try simp only [Bool.not_eq_false', decide_eq_true_eq] at h6'
    have hz : (M.done r p move).2 = 0 := by simpa using h6
    have hm : (M.make r p move).2 = 0 := by rw [M.make_code]; exact hz
    have hok := (M.make_ok hm).1
    refine Js.skip ?_
    refine Js.seq ?_
    refine Js.seq ?_
    refine Js.region ?_
    refine JL.q (q_loadN ty_32 rfl (Mem.boxR (i := 2) rfl 0 9) rfl rfl) ?_
    refine JL.q (q_loadN ty_33 rfl (Mem.boxR (i := 1) rfl 0 3) rfl rfl) ?_
    refine JL.e (e_callO fn_110 rfl (Spl.sl _ _ _ _) (fun w hw => c_impl_Rules_results r _ p _ w ⟨_, rfl, ⟨rfl, rfl, rfl, rfl, rfl, rfl, rfl, rfl, rfl, trivial⟩⟩ ⟨_, rfl, ⟨(Ty.mono _ h2_0 hw.vis), (Ty.mono _ h2_1 hw.vis), rfl, trivial⟩⟩ hok)) ?_
    rintro v7 _ _ ⟨_, hR8, rfl, rfl⟩ _
    obtain ⟨A9, c9, vs9, f9, rfl, rfl, bl9, bh9⟩ := hR8
    refine JL.q (OpP.q (p_len el_74 rfl)) ?_
    refine JL.q (OpP.q (p_move rfl)) ?_
    refine JL.nil ?_
    refine Js.block ?_
    refine Js.loop (fun l os u m => ∃ (k : Nat), l = [(2, .int .i64 move), (6, .pointer (some ⟨b5, 0, none⟩)), (21, .slice A9 ((M.results r p).length) c9), (22, .int .i64 (((M.results r p).length) : Int)), (23, .int .i64 (k : Int))] ∧ os = [rowO 84 6 (.slice A9 ((M.results r p).length) c9) ((M.results r p).length) vs9 [], ownC (lResult (M.results r p)) vs9 f9, boxO b5 [.int .i64 0, .int .i64 0, .bool false, .slice none 0 0, .slice none 0 0, .int .i64 0] 84, boxO b4 [.slice A2_0 p.pits.length c2_0, .slice A2_1 p.stores.length c2_1, .int .i64 p.player] 33, boxO b3 [.int .i64 r.pits, .int .i64 r.seeds, .bool r.stores, .bool r.skip, .bool r.relay, .bool r.feed, .bool r.again, .int .i64 r.capture, .int .i64 r.slam] 32] ∧ Up w.heap.size w u ∧ (k ≤ (M.results r p).length) ∧ (∀ (j : Nat) (x : M.Res), j < k → (M.results r p)[j]? = some x → x.move ≠ move) ∧ m = (M.results r p).length - k) ⟨0, rfl, rfl, Up.refl _ _, by first | assumption | omega | rfl | (simp; done), by exact fun j x hj => absurd hj (by omega), rfl⟩ ⟨rfl, rfl, rfl, rfl, rfl, trivial⟩ ?_
    · rintro _ _ u10 _ ⟨k, rfl, rfl, x10, hk, hn, rfl⟩
      refine Js.seq ?_
      refine Js.region ?_
      refine JL.q (OpP.q (p_lss rfl rfl)) ?_
      refine JL.nil ?_
      refine Js.seq ?_
      refine Js.cond rfl (fun h11 => ?_) (fun h11 => ?_)
      ·
        have h11' := h11
        try simp only [decide_eq_true_eq] at h11'
        refine Js.skip ?_
        refine Js.seq ?_
        refine Js.block ?_
        refine Js.seq ?_
        refine Js.region ?_
        refine JL.fact (row_some (i := 0) rfl (by omega)) (fun hf13 => ?_)
        obtain ⟨b13, rfl⟩ := hf13
        obtain ⟨y12, hy12⟩ : ∃ x, (M.results r p)[k]? = some x := ⟨_, List.getElem?_eq_getElem (by omega)⟩
        refine JL.fact (fun w hw => elemv_Result (Mem.ownC (i := 1) rfl w hw) hy12) (fun hf12 => ?_)
        obtain ⟨A12_3, c12_3, A12_4, c12_4, he12, bl12_3, bh12_3, bl12_4, bh12_4⟩ := hf12
        refine JL.q (OpP.q (p_indexAddr el_74 rfl rfl (by omega) (by omega) rfl)) ?_
        refine JL.q (q_loadN ty_84 rfl (Mem.rowR' (i := 0) rfl he12) rfl rfl) ?_
        refine JL.e (e_alloc zero_84) ?_
        rintro _ _ _ ⟨b14, rfl, rfl, rfl⟩ _
        refine JL.s (e_store (i := 0) (c' := [.int .i64 y12.move, .int .i64 y12.gain, .bool y12.again, .slice A12_3 y12.next.pits.length c12_3, .slice A12_4 y12.next.stores.length c12_4, .int .i64 y12.next.player]) ty_84 rfl rfl rfl rfl rfl rfl rfl rfl) ?_
        rintro _ _ _ ⟨rfl, rfl⟩ _
        refine JL.nil ?_
        refine Js.seq ?_
        refine Js.region ?_
        refine JL.q (OpP.q (p_fieldAddr fld_84_0 rfl)) ?_
        refine JL.q (q_load1 ty_2 rfl (Mem.box (i := 0) rfl rfl)) ?_
        refine JL.q (OpP.q (p_move rfl)) ?_
        refine JL.q (OpP.q (p_eql rfl rfl)) ?_
        refine JL.nil ?_
        refine Js.cond rfl (fun h15 => ?_) (fun h15 => ?_)
        ·
          have h15' := h15
          try simp only [decide_eq_true_eq] at h15'
          have hE := M.results_get hy12 (by simpa using h15)
          have hm2 := hm.symm
          refine Js.seq ?_
          refine Js.region ?_
          refine JL.q (q_loadN ty_84 rfl (Mem.boxR (i := 0) rfl 0 6) rfl rfl) ?_
          refine JL.s (e_store (i := 3) (c' := [.int .i64 y12.move, .int .i64 y12.gain, .bool y12.again, .slice A12_3 y12.next.pits.length c12_3, .slice A12_4 y12.next.stores.length c12_4, .int .i64 y12.next.player]) ty_84 rfl rfl rfl rfl rfl rfl rfl rfl) ?_
          rintro _ _ _ ⟨rfl, rfl⟩ _
          refine JL.q (OpP.q (p_assign rfl)) ?_
          refine JL.nil ?_
          refine Js.elemO cResult (i := 2) (xs := (M.results r p)) (fun _ => rfl) rfl hy12 he12 (fun f16 f16a f16b => ?_)
          refine Js.ret (R := RO w (Ty.tup [Ty.agg (cResult ((M.make r p move).1)), Ty.int ((M.make r p move).2)])) @Try.results102 (fun _ _ => rfl) (ResOk.cell (res_box (i := 5) ty_84 rfl rfl rfl rfl rfl) (ResOk.tmp rfl ResOk.nil)) (fun w1 hw => ?_)
          have hx := hw.ext (x10)
          exact ret_own (ps := [(0, f16)]) hw hx ⟨_, rfl, ⟨_, _, rfl, (own_cast cResult (show y12 = (M.make r p move).1 by first | exact hE | (rw [hm]; done) | (rw [hD]; done) | (rw [hD]; rfl)) ⟨_, rfl, hw.pr (i := 0) rfl⟩), ⟨_, _, rfl, ⟨by first | exact hE | (rw [hm]; done) | (rw [hD]; done) | (rw [hD]; rfl), rfl⟩, rfl⟩⟩⟩ (Pick.cons (j := 0) rfl (List.Sublist.refl _) rfl Pick.nil) (by simp [List.flatten, outV])
        ·
          have h15' := h15
          try simp only [decide_eq_false_iff_not] at h15'
          have hn2 := M.none_step hn hy12 (by simpa using h15)
          refine Js.skip ?_
          refine Js.blockEnd ?_
          refine Js.region ?_
          refine JL.q (OpP.q (p_add rfl rfl (IntWalk.i64_in _ (by omega)))) ?_
          refine JL.q (OpP.q (p_move rfl)) ?_
          refine JL.nil ?_
          refine Js.drop (i := 0) rfl rfl (fun u17 x17 => ?_)
          exact Js.again ⟨k + 1, rfl, rfl, (x10.trans x17), by first | assumption | omega | rfl | (simp; done), by exact hn2, rfl⟩ (by omega) ⟨rfl, rfl, rfl, rfl, rfl, trivial⟩
      ·
        obtain ⟨j, hj, hx, hmv⟩ := M.results_has hm; have h9 := h11; simp at h9; exact absurd hmv (hn j _ (by omega) hx)

end Go.Proofs.Ytejnmechnhgmfaa

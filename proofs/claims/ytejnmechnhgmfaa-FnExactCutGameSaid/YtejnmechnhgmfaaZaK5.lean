/- Walks: K5. -/
import Derived.Test.YtejnmechnhgmfaaZaTy
import Derived.Test.YtejnmechnhgmfaaZaK4
set_option linter.unusedSimpArgs false
set_option linter.unusedVariables false
namespace Go.Proofs.Ytejnmechnhgmfaa
open Go.RowKit

set_option maxRecDepth 100000 in
set_option maxHeartbeats 400000 in
theorem c_spec_l07All (r : M.Rul) (v_r : Value) (p : M.Pos) (v_p : Value) (w : World) (h_r : (Ty.ref (cRules r)).ok w v_r) (h_p : (Ty.ref (cPosition p)).ok w v_p) (r0 : M.okP r p = true) : Ret Try.prog 132 [v_r, v_p] w (Ty.sl 84 6 (M.results r p).length (lResult (M.results r p))) := by
  obtain ⟨g1, g2, g3, g4, g5, g6, g7⟩ := M.okP_bd r0
  obtain ⟨b1, o1, rfl, hr1⟩ := ref_Rules h_r
  obtain ⟨b2, o2, A2_0, c2_0, A2_1, c2_1, rfl, hr2, h2_0, h2_1, bl2_0, bh2_0, bl2_1, bh2_1⟩ := ref_Position h_p
  refine enter @Try.func132 @Try.ntmps132 rfl rfl ?_
  refine Js.seq ?_
  refine Js.region ?_
  refine JL.q (OpP.q (p_assign rfl)) ?_
  refine JL.nil ?_
  refine Js.seq ?_
  refine Js.region ?_
  refine JL.e (e_buildSlice (vs := []) el_74 rfl rfl rfl rfl rfl rfl) ?_
  rintro _ _ _ ⟨b3, rfl, rfl, hl4, rfl⟩ _
  refine JL.q (OpP.q (p_assign rfl)) ?_
  refine JL.nil ?_
  refine Js.seq ?_
  refine Js.seq ?_
  refine Js.region ?_
  refine JL.q (OpP.q (p_assign rfl)) ?_
  refine JL.nil ?_
  refine Js.block ?_
  refine Js.vals (Ts := lResult []) (vs := []) (fun w => rfl) ?_
  refine Js.loop (fun l os u m => ∃ (k : Nat) (acc : List M.Res) (A5_5 : Option Addr) (c5_5 : Nat) (g5_5 : List Nat) (vs5_5 : List Value) (fl5_5 : List Nat), l = [(0, .pointer (some ⟨b1, o1, none⟩)), (1, .pointer (some ⟨b2, o2, none⟩)), (5, .slice A5_5 acc.length c5_5), (6, .int .i64 (k : Int))] ∧ os = [ownC (lResult acc) vs5_5 fl5_5, rowO 84 6 (.slice A5_5 acc.length c5_5) acc.length vs5_5 g5_5] ∧ Up w.heap.size w u ∧ (acc = M.resultsTo r p k) ∧ (k ≤ r.pits) ∧ (acc.length ≤ c5_5) ∧ (c5_5 ≤ 9223372036854775807) ∧ m = (r.pits - k).toNat) ⟨0, [], _, _, _, _, _, rfl, rfl, Up.refl _ _, by rfl, by first | assumption | omega | rfl | (simp; done), by first | omega | (simp only [List.length_append, List.length_cons, List.length_nil] <;> omega), by first | omega | (simp only [List.length_append, List.length_cons, List.length_nil] <;> omega), rfl⟩ ⟨rfl, rfl, rfl, rfl, trivial⟩ ?_
  · rintro _ _ u5 _ ⟨k, acc, A5_5, c5_5, g5_5, vs5_5, fl5_5, rfl, rfl, x5, hacc, hk, f5_2, f5_3, rfl⟩
    have hlen := M.resultsTo_len (r := r) (p := p) k
    have hlacc : acc.length ≤ k := by rw [hacc]; exact hlen
    refine Js.seq ?_
    refine Js.seq ?_
    refine Js.region ?_
    refine JL.q (OpP.q (p_move rfl)) ?_
    refine JL.q (OpP.q (p_move rfl)) ?_
    refine JL.q (OpP.q (p_nilCheck rfl)) ?_
    refine JL.q (OpP.q (p_fieldAddr fld_32_0 rfl)) ?_
    refine JL.q (q_load1 ty_2 rfl (Mem.pub ((hr1.vis x5.vis) 0 _ rfl))) ?_
    refine JL.q (OpP.q (p_lss rfl rfl)) ?_
    refine JL.nil ?_
    refine Js.cond rfl (fun h6 => ?_) (fun h6 => ?_)
    ·
      have h6' := h6
      try simp only [decide_eq_true_eq] at h6'
      refine Js.skip ?_
      refine Js.seq ?_
      refine Js.block ?_
      refine Js.seq ?_
      refine Js.region ?_
      refine JL.q (OpP.q (p_move rfl)) ?_
      refine JL.q (OpP.q (p_move rfl)) ?_
      refine JL.q (OpP.q (p_move rfl)) ?_
      refine JL.e (e_callO fn_105 rfl (Spl.tup (Spls.cons (Spl.agg (Spls.cons (Spl.val _) (Spls.cons (Spl.val _) (Spls.cons (Spl.val _) (Spls.cons (Spl.ints _ _) (Spls.cons (Spl.ints _ _) (Spls.cons (Spl.val _) Spls.nil))))))) (Spls.cons (Spl.val _) Spls.nil))) (fun w hw => c_spec_l07Make r _ p _ (k : Int) w ⟨_, _, [.int .i64 r.pits, .int .i64 r.seeds, .bool r.stores, .bool r.skip, .bool r.relay, .bool r.feed, .bool r.again, .int .i64 r.capture, .int .i64 r.slam], rfl, ⟨rfl, rfl, rfl, rfl, rfl, rfl, rfl, rfl, rfl, trivial⟩, (hr1.vis (x5.vis.trans hw.vis))⟩ ⟨_, _, [.slice A2_0 p.pits.length c2_0, .slice A2_1 p.stores.length c2_1, .int .i64 p.player], rfl, ⟨(Ty.mono _ h2_0 (x5.vis.trans hw.vis)), (Ty.mono _ h2_1 (x5.vis.trans hw.vis)), rfl, trivial⟩, (hr2.vis (x5.vis.trans hw.vis))⟩ (by omega) (by omega))) ?_
      rintro v7 _ _ ⟨_, hR8, rfl, rfl⟩ _
      obtain ⟨vs9, rfl, hr9⟩ := hR8
      obtain ⟨v9_0, vs9_0, o9_0, ow9_0, rfl, hR9_0, hs9_0, rfl⟩ := RL_cons hr9
      obtain ⟨v9_1, vs9_1, o9_1, ow9_1, rfl, hR9_1, hs9_1, rfl⟩ := RL_cons hs9_0
      obtain ⟨rfl, rfl⟩ := RL_nil hs9_1
      obtain ⟨vs10, rfl, hr10⟩ := hR9_0
      obtain ⟨v10_0, vs10_0, o10_0, ow10_0, rfl, hR10_0, hs10_0, rfl⟩ := RL_cons hr10
      obtain ⟨v10_1, vs10_1, o10_1, ow10_1, rfl, hR10_1, hs10_1, rfl⟩ := RL_cons hs10_0
      obtain ⟨v10_2, vs10_2, o10_2, ow10_2, rfl, hR10_2, hs10_2, rfl⟩ := RL_cons hs10_1
      obtain ⟨v10_3, vs10_3, o10_3, ow10_3, rfl, hR10_3, hs10_3, rfl⟩ := RL_cons hs10_2
      obtain ⟨v10_4, vs10_4, o10_4, ow10_4, rfl, hR10_4, hs10_4, rfl⟩ := RL_cons hs10_3
      obtain ⟨v10_5, vs10_5, o10_5, ow10_5, rfl, hR10_5, hs10_5, rfl⟩ := RL_cons hs10_4
      obtain ⟨rfl, rfl⟩ := RL_nil hs10_5
      obtain ⟨rfl, rfl⟩ : v10_0 = .int .i64 (((M.make r p (k : Int)).1).move) ∧ _ := hR10_0
      obtain ⟨rfl, rfl⟩ : v10_1 = .int .i64 (((M.make r p (k : Int)).1).gain) ∧ _ := hR10_1
      obtain ⟨rfl, rfl⟩ : v10_2 = .bool (((M.make r p (k : Int)).1).again) ∧ _ := hR10_2
      obtain ⟨A11, c11, rfl, rfl, bl11, bh11⟩ := hR10_3
      obtain ⟨A12, c12, rfl, rfl, bl12, bh12⟩ := hR10_4
      obtain ⟨rfl, rfl⟩ : v10_5 = .int .i64 ((((M.make r p (k : Int)).1).next).player) ∧ _ := hR10_5
      obtain ⟨rfl, rfl⟩ : v9_1 = .int .i64 ((M.make r p (k : Int)).2) ∧ _ := hR9_1
      refine JL.q (OpP.q (p_move rfl)) ?_
      refine JL.q (OpP.q (p_extract rfl rfl)) ?_
      refine JL.q (OpP.q (p_extract rfl rfl)) ?_
      refine JL.e (e_alloc zero_84) ?_
      rintro _ _ _ ⟨b13, rfl, rfl, rfl⟩ _
      refine JL.s (e_store (i := 0) (c' := [.int .i64 (((M.make r p (k : Int)).1).move), .int .i64 (((M.make r p (k : Int)).1).gain), .bool (((M.make r p (k : Int)).1).again), .slice A11 (((((M.make r p (k : Int)).1).next).pits).length) c11, .slice A12 (((((M.make r p (k : Int)).1).next).stores).length) c12, .int .i64 ((((M.make r p (k : Int)).1).next).player)]) ty_84 rfl rfl rfl rfl rfl rfl rfl rfl) ?_
      rintro _ _ _ ⟨rfl, rfl⟩ _
      refine JL.q (OpP.q (p_assign rfl)) ?_
      refine JL.nil ?_
      refine Js.seq ?_
      refine Js.region ?_
      refine JL.q (OpP.q (p_move rfl)) ?_
      refine JL.q (OpP.q (p_eql rfl rfl)) ?_
      refine JL.nil ?_
      refine Js.cond rfl (fun h14 => ?_) (fun h14 => ?_)
      ·
        have h14' := h14
        try simp only [decide_eq_true_eq] at h14'
        have hacc2 := (M.resultsTo_yes2 (r := r) (p := p) (k := k) (by simpa using h14)).symm
        refine Js.region ?_
        refine JL.q (OpP.q (p_move rfl)) ?_
        refine JL.q (q_loadN ty_84 rfl (Mem.boxR (i := 0) rfl 0 6) rfl rfl) ?_
        refine JL.e (e_buildSlice (vs := [.int .i64 (((M.make r p (k : Int)).1).move), .int .i64 (((M.make r p (k : Int)).1).gain), .bool (((M.make r p (k : Int)).1).again), .slice A11 (((((M.make r p (k : Int)).1).next).pits).length) c11, .slice A12 (((((M.make r p (k : Int)).1).next).stores).length) c12, .int .i64 ((((M.make r p (k : Int)).1).next).player)]) el_74 rfl rfl rfl rfl rfl rfl) ?_
        rintro _ _ _ ⟨b15, rfl, rfl, hl16, rfl⟩ _
        refine JL.e (e_append (i := 5) (n' := (acc ++ [((M.make r p (k : Int)).1)]).length) (vs' := vs5_5 ++ [.int .i64 (((M.make r p (k : Int)).1).move), .int .i64 (((M.make r p (k : Int)).1).gain), .bool (((M.make r p (k : Int)).1).again), .slice A11 (((((M.make r p (k : Int)).1).next).pits).length) c11, .slice A12 (((((M.make r p (k : Int)).1).next).stores).length) c12, .int .i64 ((((M.make r p (k : Int)).1).next).player)]) el_74 rfl rfl rfl rfl (src_row (i := 0) und_74 rfl rfl) (by omega) (by omega) (by first | omega | (simp only [List.length_append, List.length_cons, List.length_nil] <;> omega)) (rfl)) ?_
        rintro v17 _ _ ⟨⟨g18, rfl⟩, rfl⟩ _
        refine JL.fact (row_form' (i := 5) rfl) (fun hf19 => ?_)
        obtain ⟨A19, c19, rfl, bl19, bh19⟩ := hf19
        refine JL.q (OpP.q (p_assign rfl)) ?_
        refine JL.nil ?_
        refine Js.pack2 (i := 2) (j := 2) (cResult ((M.make r p (k : Int)).1)) [.int .i64 (((M.make r p (k : Int)).1).move), .int .i64 (((M.make r p (k : Int)).1).gain), .bool (((M.make r p (k : Int)).1).again), .slice A11 (((((M.make r p (k : Int)).1).next).pits).length) c11, .slice A12 (((((M.make r p (k : Int)).1).next).stores).length) c12, .int .i64 ((((M.make r p (k : Int)).1).next).player)] rfl rfl (fun w h1 h2 => pack_Result (ints_row h1 rfl) (ints_row h2 rfl)) (fun f20 => ?_)
        refine Js.joinL (i := 3) (j := 0) (Vs := lResult (acc ++ [((M.make r p (k : Int)).1)])) rfl rfl (lResult_snoc _ _) (fun f21 => ?_)
        refine Js.blockEnd ?_
        refine Js.region ?_
        refine JL.q (OpP.q (p_move rfl)) ?_
        refine JL.q (OpP.q (p_add rfl rfl (IntWalk.i64_in _ (by omega)))) ?_
        refine JL.q (OpP.q (p_assign rfl)) ?_
        refine JL.nil ?_
        refine Js.drop (i := 1) rfl rfl (fun u22 x22 => ?_)
        refine Js.drop (i := 1) rfl rfl (fun u23 x23 => ?_)
        exact Js.again ⟨k + 1, acc ++ [((M.make r p (k : Int)).1)], _, _, _, _, _, rfl, rfl, ((x5.trans x22).trans x23), by rw [hacc]; exact hacc2, by first | assumption | omega | rfl | (simp; done), by first | omega | (simp only [List.length_append, List.length_cons, List.length_nil] <;> omega), by first | omega | (simp only [List.length_append, List.length_cons, List.length_nil] <;> omega), rfl⟩ (by omega) ⟨rfl, rfl, rfl, rfl, trivial⟩
      ·
        have h14' := h14
        try simp only [decide_eq_false_iff_not] at h14'
        have hacc2 := (M.resultsTo_no2 (r := r) (p := p) (k := k) (by simpa using h14)).symm
        refine Js.skip ?_
        refine Js.blockEnd ?_
        refine Js.region ?_
        refine JL.q (OpP.q (p_move rfl)) ?_
        refine JL.q (OpP.q (p_add rfl rfl (IntWalk.i64_in _ (by omega)))) ?_
        refine JL.q (OpP.q (p_assign rfl)) ?_
        refine JL.nil ?_
        refine Js.drop (i := 0) rfl rfl (fun u24 x24 => ?_)
        refine Js.drop (i := 0) rfl rfl (fun u25 x25 => ?_)
        refine Js.drop (i := 0) rfl rfl (fun u26 x26 => ?_)
        exact Js.again ⟨k + 1, acc, _, _, _, _, _, rfl, rfl, (((x5.trans x24).trans x25).trans x26), by rw [hacc]; exact hacc2, by first | assumption | omega | rfl | (simp; done), by first | omega | (simp only [List.length_append, List.length_cons, List.length_nil] <;> omega), by first | omega | (simp only [List.length_append, List.length_cons, List.length_nil] <;> omega), rfl⟩ (by omega) ⟨rfl, rfl, rfl, rfl, trivial⟩
    ·
      have h6' := h6
      try simp only [decide_eq_false_iff_not, Int.not_lt] at h6'
      have hR : acc = M.results r p := by rw [hacc]; unfold M.results; rw [show k = r.pits.toNat by have := h6'; omega]
      refine Js.exit (fun _ _ => rfl) ?_
      refine Js.seq ?_
      refine Js.region ?_
      refine JL.q (OpP.q (p_move rfl)) ?_
      refine JL.q (OpP.q (p_assign rfl)) ?_
      refine JL.nil ?_
      refine Js.ret (R := RO w (Ty.sl 84 6 (M.results r p).length (lResult (M.results r p)))) @Try.results132 (fun _ _ => rfl) (ResOk.tmp rfl ResOk.nil) (fun w1 hw => ?_)
      have hx := hw.ext (x5)
      exact ret_own (ps := [(1, (Value.ownBlock (.slice A5_5 acc.length c5_5)).toList), (0, fl5_5)]) hw hx (srow_own lResult (hw.pr (i := 1) rfl) (hw.pr (i := 0) rfl) (lResult_length _) (show acc = M.results r p by exact hR)) (Pick.cons (j := 1) rfl (List.sublist_append_left _ _) rfl (Pick.cons (j := 0) rfl (List.Sublist.refl _) rfl Pick.nil)) (by simp [List.flatten, outV])

set_option maxRecDepth 100000 in
set_option maxHeartbeats 400000 in
theorem c_spec_CanMove (r : M.Rul) (v_r : Value) (p : M.Pos) (v_p : Value) (w : World) (h_r : (Ty.agg (cRules r)).ok w v_r) (h_p : (Ty.agg (cPosition p)).ok w v_p) (r0 : p.pits.length ≤ 4194304) (r1 : p.stores.length ≤ 4194304) (r2 : M.okP r p = true) : RetV Try.prog 108 [v_r, v_p] w (.bool (M.okP r p && decide (0 < (M.results r p).length))) := by
  obtain rfl := open_Rules h_r
  obtain ⟨A2_0, c2_0, A2_1, c2_1, rfl, h2_0, h2_1, bl2_0, bh2_0, bl2_1, bh2_1⟩ := open_Position h_p
  refine enter @Try.func108 @Try.ntmps108 rfl rfl ?_
  refine Js.seq ?_
  refine Js.region ?_
  refine JL.e (e_box (c := [.int .i64 r.pits, .int .i64 r.seeds, .bool r.stores, .bool r.skip, .bool r.relay, .bool r.feed, .bool r.again, .int .i64 r.capture, .int .i64 r.slam]) rfl rfl) ?_
  rintro _ _ _ ⟨b3, rfl, rfl, rfl⟩ _
  refine JL.e (e_box (c := [.slice A2_0 p.pits.length c2_0, .slice A2_1 p.stores.length c2_1, .int .i64 p.player]) rfl rfl) ?_
  rintro _ _ _ ⟨b4, rfl, rfl, rfl⟩ _
  refine JL.q (OpP.q (p_assign rfl)) ?_
  refine JL.nil ?_
  refine Js.seq ?_
  refine Js.region ?_
  refine JL.e (e_callV fn_103 rfl (fun w hw => c_spec_l04Ok r _ p _ w ⟨_, _, [.int .i64 r.pits, .int .i64 r.seeds, .bool r.stores, .bool r.skip, .bool r.relay, .bool r.feed, .bool r.again, .int .i64 r.capture, .int .i64 r.slam], rfl, ⟨rfl, rfl, rfl, rfl, rfl, rfl, rfl, rfl, rfl, trivial⟩, Mem.boxR (i := 1) rfl 0 9 w hw⟩ ⟨_, _, [.slice A2_0 p.pits.length c2_0, .slice A2_1 p.stores.length c2_1, .int .i64 p.player], rfl, ⟨(Ty.mono _ h2_0 hw.vis), (Ty.mono _ h2_1 hw.vis), rfl, trivial⟩, Mem.boxR (i := 0) rfl 0 3 w hw⟩ (by omega) (by omega))) ?_
  rintro _ _ _ ⟨rfl, rfl, rfl⟩ _
  refine JL.q (OpP.q (p_move rfl)) ?_
  refine JL.eT (Gd.t1 rfl rfl rfl) (show (M.okP r p) = true by simp [r2]) (e_callP fn_132 rfl (fun w hw => c_spec_l07All r _ p _ w ⟨_, _, [.int .i64 r.pits, .int .i64 r.seeds, .bool r.stores, .bool r.skip, .bool r.relay, .bool r.feed, .bool r.again, .int .i64 r.capture, .int .i64 r.slam], rfl, ⟨rfl, rfl, rfl, rfl, rfl, rfl, rfl, rfl, rfl, trivial⟩, Mem.boxR (i := 1) rfl 0 9 w hw⟩ ⟨_, _, [.slice A2_0 p.pits.length c2_0, .slice A2_1 p.stores.length c2_1, .int .i64 p.player], rfl, ⟨(Ty.mono _ h2_0 hw.vis), (Ty.mono _ h2_1 hw.vis), rfl, trivial⟩, Mem.boxR (i := 0) rfl 0 3 w hw⟩ r2)) ?_
  rintro v5 _ u7 ⟨h6, rfl⟩ x7
  obtain ⟨A8, c8, rfl, bl8, bh8⟩ := sl_form h6
  refine JL.gT (Gd.t1 rfl rfl rfl) (show (M.okP r p) = true by simp [r2]) (OpP.q (p_len el_74 rfl)) ?_
  refine JL.gT (Gd.t1 rfl rfl rfl) (show (M.okP r p) = true by simp [r2]) (OpP.q (p_gtr rfl rfl)) ?_
  refine JL.q (OpP.q (p_pickAnd2 rfl rfl rfl)) ?_
  refine JL.q (OpP.q (p_assign rfl)) ?_
  refine JL.nil ?_
  refine Js.ret (R := RV w (.bool (M.okP r p && decide (0 < (M.results r p).length)))) @Try.results108 (fun _ _ => rfl) (ResOk.tmp rfl ResOk.nil) (fun w1 hw => ?_)
  refine ⟨?_, hw.ext (x7)⟩
  simp [outV]

set_option maxRecDepth 100000 in
set_option maxHeartbeats 400000 in
theorem c_spec_l09All (p : M.Pos) (v_p : Value) (w : World) (h_p : (Ty.ref (cPosition p)).ok w v_p) (r0 : p.pits.length ≤ 4194304) (r1 : p.stores.length ≤ 4194304) (r2 : M.sum4 p.pits = M.isum p.pits) (r3 : M.sum4 p.stores = M.isum p.stores) : RetV Try.prog 131 [v_p] w (.int .i64 (M.all p)) := by
  have b1 := M.sum4_bd p.pits
  have b2 := M.sum4_bd p.stores
  obtain ⟨b1, o1, A1_0, c1_0, A1_1, c1_1, rfl, hr1, h1_0, h1_1, bl1_0, bh1_0, bl1_1, bh1_1⟩ := ref_Position h_p
  refine enter @Try.func131 @Try.ntmps131 rfl rfl ?_
  refine Js.seq ?_
  refine Js.region ?_
  refine JL.q (OpP.q (p_assign rfl)) ?_
  refine JL.nil ?_
  refine Js.seq ?_
  refine Js.drawn _ [] mixed_ (fun _ h => h) ?_
  refine JH.p 0 rfl (p_move rfl) ?_
  refine JH.p 1 rfl (p_nilCheck rfl) ?_
  refine JH.p 2 rfl (p_fieldAddr fld_33_0 rfl) ?_
  refine JH.w 3 rfl (fun os' u' hv => q_load1 ty_24 rfl (Mem.pub ((hr1.vis hv) 0 _ rfl))) ?_
  refine JH.p 5 rfl (p_move rfl) ?_
  refine JH.p 6 rfl (p_nilCheck rfl) ?_
  refine JH.p 7 rfl (p_fieldAddr fld_33_1 rfl) ?_
  refine JH.w 8 rfl (fun os' u' hv => q_load1 ty_24 rfl (Mem.pub ((hr1.vis hv) 1 _ rfl))) ?_
  refine JH.one (i := 4) (by kernel_rfl) ?_
  refine JHo.e rfl (e_callV fn_125 rfl (fun w hw => c_spec_l04Sum p.pits _ w (Ty.mono _ h1_0 hw.vis) (by omega))) (.inl rfl) ?_
  rintro _ _ _ ⟨rfl, rfl, rfl⟩ _
  refine JH.one (i := 9) (by kernel_rfl) ?_
  refine JHo.e rfl (e_callV fn_125 rfl (fun w hw => c_spec_l04Sum p.stores _ w (Ty.mono _ h1_1 hw.vis) (by omega))) (.inl rfl) ?_
  rintro _ _ _ ⟨rfl, rfl, rfl⟩ _
  refine JH.p 10 rfl (p_add rfl rfl (IntWalk.i64_in _ (by omega))) ?_
  refine JH.p 11 rfl (p_assign rfl) ?_
  refine JH.done (by kernel_rfl) ?_
  refine Js.ret (R := RV w (.int .i64 (M.all p))) @Try.results131 (fun _ _ => rfl) (ResOk.tmp rfl ResOk.nil) (fun w1 hw => ?_)
  refine ⟨?_, hw.ext (Up.refl _ _)⟩
  rw [r2, r3]; rfl

set_option maxRecDepth 100000 in
set_option maxHeartbeats 400000 in
theorem c_spec_l09Majority (p : M.Pos) (v_p : Value) (w : World) (h_p : (Ty.ref (cPosition p)).ok w v_p) (r0 : p.pits.length ≤ 4194304) (r1 : p.stores.length = 2) (r2 : M.sum4 p.pits = M.isum p.pits) (r3 : M.sum4 p.stores = M.isum p.stores) (r4 : ∀ k : Int, 0 ≤ M.getI p.stores k ∧ M.getI p.stores k ≤ 96) : RetV Try.prog 107 [v_p] w (.int .i64 (M.majority p)) := by
  obtain ⟨b1, o1, A1_0, c1_0, A1_1, c1_1, rfl, hr1, h1_0, h1_1, bl1_0, bh1_0, bl1_1, bh1_1⟩ := ref_Position h_p
  refine enter @Try.func107 @Try.ntmps107 rfl rfl ?_
  refine Js.seq ?_
  refine Js.region ?_
  refine JL.q (OpP.q (p_assign rfl)) ?_
  refine JL.nil ?_
  refine Js.seq ?_
  refine Js.seq ?_
  refine Js.region ?_
  refine JL.q (OpP.q (p_assign rfl)) ?_
  refine JL.nil ?_
  refine Js.block ?_
  refine Js.loop (fun l os u m => ∃ (k : Nat), l = [(0, .pointer (some ⟨b1, o1, none⟩)), (3, .int .i64 (k : Int))] ∧ os = [] ∧ Up w.heap.size w u ∧ (k ≤ 2) ∧ (M.noMaj p (k : Int)) ∧ m = 2 - k) ⟨0, rfl, rfl, Up.refl _ _, by first | assumption | omega | rfl | (simp; done), by exact M.noMaj_zero p, rfl⟩ ⟨rfl, rfl, trivial⟩ ?_
  · rintro _ _ u2 _ ⟨k, rfl, rfl, x2, hk, hN, rfl⟩
    have hv := r4 (k : Int)
    rw [M.nth_getI] at hv
    refine Js.seq ?_
    refine Js.seq ?_
    refine Js.region ?_
    refine JL.q (OpP.q (p_move rfl)) ?_
    refine JL.q (OpP.q (p_lss rfl rfl)) ?_
    refine JL.nil ?_
    refine Js.cond rfl (fun h3 => ?_) (fun h3 => ?_)
    ·
      have h3' := h3
      try simp only [decide_eq_true_eq] at h3'
      refine Js.skip ?_
      refine Js.seq ?_
      refine Js.block ?_
      refine Js.seq ?_
      refine Js.drawn _ [] mixed_ (fun _ h => h) ?_
      refine JH.p 0 rfl (p_move rfl) ?_
      refine JH.p 1 rfl (p_nilCheck rfl) ?_
      refine JH.p 2 rfl (p_fieldAddr fld_33_1 rfl) ?_
      refine JH.w 3 rfl (fun os' u' hv => q_load1 ty_24 rfl (Mem.pub ((hr1.vis (x2.vis.trans hv)) 1 _ rfl))) ?_
      refine JH.p 4 rfl (p_move rfl) ?_
      obtain ⟨b4, o4, he4, hc4⟩ := ints_elem (Ty.mono _ h1_1 x2.vis) (i := k) (by omega)
      refine JH.p 5 rfl (p_indexAddr el_24 rfl rfl (by omega) (by omega) he4) ?_
      refine JH.w 6 rfl (fun os' u' hv => q_load1 ty_2 rfl (Mem.pub (hc4.vis hv))) ?_
      refine JH.p 7 rfl (p_mul rfl rfl (IntWalk.i64_in _ (by omega))) ?_
      refine JH.p 8 rfl (p_move rfl) ?_
      refine JH.one (i := 9) (by kernel_rfl) ?_
      refine JHo.e rfl (e_callV fn_131 rfl (fun w hw => c_spec_l09All p _ w ⟨_, _, [.slice A1_0 p.pits.length c1_0, .slice A1_1 p.stores.length c1_1, .int .i64 p.player], rfl, ⟨(Ty.mono _ h1_0 (x2.vis.trans hw.vis)), (Ty.mono _ h1_1 (x2.vis.trans hw.vis)), rfl, trivial⟩, (hr1.vis (x2.vis.trans hw.vis))⟩ (by omega) (by omega) r2 r3)) (.inl rfl) ?_
      rintro _ _ _ ⟨rfl, rfl, rfl⟩ _
      refine JH.p 10 rfl (p_gtr rfl rfl) ?_
      refine JH.done (by kernel_rfl) ?_
      refine Js.cond rfl (fun h5 => ?_) (fun h5 => ?_)
      ·
        have h5' := h5
        try simp only [decide_eq_true_eq] at h5'
        have hj : M.all p < 2 * M.getI p.stores (k : Int) := by rw [M.nth_getI]; simpa using h5
        have hE := M.majority_at hN (by omega) (by omega) hj
        refine Js.seq ?_
        refine Js.region ?_
        refine JL.q (OpP.q (p_move rfl)) ?_
        refine JL.q (OpP.q (p_assign rfl)) ?_
        refine JL.nil ?_
        refine Js.ret (R := RV w (.int .i64 (M.majority p))) @Try.results107 (fun _ _ => rfl) (ResOk.tmp rfl ResOk.nil) (fun w1 hw => ?_)
        refine ⟨?_, hw.ext (x2)⟩
        rw [hE]; rfl
      ·
        have h5' := h5
        try simp only [decide_eq_false_iff_not, Int.not_lt] at h5'
        have hj : ¬ M.all p < 2 * M.getI p.stores (k : Int) := by rw [M.nth_getI]; simpa using h5
        refine Js.skip ?_
        refine Js.blockEnd ?_
        refine Js.region ?_
        refine JL.q (OpP.q (p_move rfl)) ?_
        refine JL.q (OpP.q (p_add rfl rfl (IntWalk.i64_in _ (by omega)))) ?_
        refine JL.q (OpP.q (p_assign rfl)) ?_
        refine JL.nil ?_
        exact Js.again ⟨k + 1, rfl, rfl, x2, by first | assumption | omega | rfl | (simp; done), by exact M.noMaj_step hN hj, rfl⟩ (by omega) ⟨rfl, rfl, trivial⟩
    ·
      have h3' := h3
      try simp only [decide_eq_false_iff_not, Int.not_lt] at h3'
      have hE := M.majority_no hN (by have := h3'; omega)
      refine Js.exit (fun _ _ => rfl) ?_
      refine Js.seq ?_
      refine Js.region ?_
      refine JL.q (OpP.q (p_assign rfl)) ?_
      refine JL.nil ?_
      refine Js.ret (R := RV w (.int .i64 (M.majority p))) @Try.results107 (fun _ _ => rfl) (ResOk.tmp rfl ResOk.nil) (fun w1 hw => ?_)
      refine ⟨?_, hw.ext (x2)⟩
      rw [hE]; rfl

set_option maxRecDepth 100000 in
set_option maxHeartbeats 400000 in
theorem c_spec_l09End (g : M.Gam) (v_g : Value) (w : World) (h_g : (Ty.ref (cGame g)).ok w v_g) (r0 : g.start.pits.length ≤ 4194304) (r1 : g.start.stores.length ≤ 4194304) (r2 : g.moves.length ≤ 4194304) (r3 : g.now.pits.length ≤ 4194304) (r4 : g.now.stores.length ≤ 4194304) (r5 : M.okG g = true) : RetV Try.prog 83 [v_g] w (.int .i64 (M.endOf g)) := by
  have hok := r5
  obtain ⟨k1, k2, k3, k4, k5, k6, k7, k8, k9⟩ := M.okG_parts hok
  have hnow := M.okG_now hok
  have k10 := M.okP_len hnow
  have k11 := M.okP_len k1
  (have k12 : (M.playedP g).length = g.moves.length + 1 := by rw [k6, M.hist_length, k8])
  have k13 : (M.playedR g).length = g.moves.length := by rw [k7, k8]
  have hC := M.okC_yes hok
  obtain ⟨g1, g2, g3, g4, g5, g6, g7⟩ := M.okP_bd hnow
  obtain ⟨s1, s2⟩ := M.sum4_V hnow
  obtain ⟨b1, o1, A1_9, c1_9, A1_10, c1_10, A1_12, c1_12, A1_13, c1_13, A1_14, c1_14, rfl, hr1, h1_9, h1_10, h1_12, h1_13, h1_14, bl1_9, bh1_9, bl1_10, bh1_10, bl1_12, bh1_12, bl1_13, bh1_13, bl1_14, bh1_14⟩ := ref_Game h_g
  refine enter @Try.func83 @Try.ntmps83 rfl rfl ?_
  refine Js.seq ?_
  refine Js.region ?_
  refine JL.q (OpP.q (p_assign rfl)) ?_
  refine JL.nil ?_
  refine Js.seq ?_
  refine Js.block ?_
  refine Js.seq ?_
  refine Js.region ?_
  refine JL.q (OpP.q (p_move rfl)) ?_
  refine JL.q (OpP.q (p_nilCheck rfl)) ?_
  refine JL.q (OpP.q (p_fieldAddr fld_35_4 rfl)) ?_
  refine JL.q (q_load1 ty_2 rfl (Mem.pub (hr1 16 _ rfl))) ?_
  refine JL.q (OpP.q (p_geq rfl rfl)) ?_
  refine JL.q (OpP.q (p_assign rfl)) ?_
  refine JL.nil ?_
  refine Js.cond rfl (fun h2 => ?_) (fun h2 => ?_)
  ·
    have h2' := h2
    try simp only [decide_eq_true_eq] at h2'
    have hE := M.endOf_1 (g := g) (by simpa using h2)
    refine Js.seq ?_
    refine Js.region ?_
    refine JL.q (OpP.q (p_assign rfl)) ?_
    refine JL.nil ?_
    refine Js.ret (R := RV w (.int .i64 (M.endOf g))) @Try.results83 (fun _ _ => rfl) (ResOk.tmp rfl ResOk.nil) (fun w1 hw => ?_)
    refine ⟨?_, hw.ext (Up.refl _ _)⟩
    rw [hE]; rfl
  ·
    have h2' := h2
    try simp only [decide_eq_false_iff_not, Int.not_le] at h2'
    have q1 : ¬ 0 ≤ g.resigned := by simpa using h2
    refine Js.seq ?_
    refine Js.region ?_
    refine JL.q (OpP.q (p_move rfl)) ?_
    refine JL.q (OpP.q (p_nilCheck rfl)) ?_
    refine JL.q (OpP.q (p_fieldAddr fld_35_3 rfl)) ?_
    refine JL.e (e_callV fn_107 rfl (fun w hw => c_spec_l09Majority g.now _ w ⟨_, _, [.slice A1_13 g.now.pits.length c1_13, .slice A1_14 g.now.stores.length c1_14, .int .i64 g.now.player], rfl, ⟨(Ty.mono _ h1_13 hw.vis), (Ty.mono _ h1_14 hw.vis), rfl, trivial⟩, ((hr1.vis hw.vis).sub 13 3)⟩ (by omega) (by omega) s1 s2 (fun k => M.allOk_getI g6 k))) ?_
    rintro _ _ _ ⟨rfl, rfl, rfl⟩ _
    refine JL.q (OpP.q (p_geq rfl rfl)) ?_
    refine JL.q (OpP.q (p_assign rfl)) ?_
    refine JL.nil ?_
    refine Js.cond rfl (fun h3 => ?_) (fun h3 => ?_)
    ·
      have h3' := h3
      try simp only [decide_eq_true_eq] at h3'
      have hE := M.endOf_2 q1 (by simpa using h3)
      refine Js.seq ?_
      refine Js.region ?_
      refine JL.q (OpP.q (p_assign rfl)) ?_
      refine JL.nil ?_
      refine Js.ret (R := RV w (.int .i64 (M.endOf g))) @Try.results83 (fun _ _ => rfl) (ResOk.tmp rfl ResOk.nil) (fun w1 hw => ?_)
      refine ⟨?_, hw.ext (Up.refl _ _)⟩
      rw [hE]; rfl
    ·
      have h3' := h3
      try simp only [decide_eq_false_iff_not, Int.not_le] at h3'
      have q2 : ¬ 0 ≤ M.majority g.now := by simpa using h3
      refine Js.seq ?_
      refine Js.drawn _ [] mixed_ (fun _ h => h) ?_
      refine JH.p 0 rfl (p_move rfl) ?_
      refine JH.p 1 rfl (p_nilCheck rfl) ?_
      refine JH.p 2 rfl (p_fieldAddr fld_35_0 rfl) ?_
      refine JH.w 3 rfl (fun os' u' hv => q_loadN ty_32 rfl (Mem.pubR ((hr1.vis hv).sub 0 9)) rfl rfl) ?_
      refine JH.p 4 rfl (p_move rfl) ?_
      refine JH.p 5 rfl (p_nilCheck rfl) ?_
      refine JH.p 6 rfl (p_fieldAddr fld_35_3 rfl) ?_
      refine JH.w 7 rfl (fun os' u' hv => q_loadN ty_33 rfl (Mem.pubR ((hr1.vis hv).sub 13 3)) rfl rfl) ?_
      refine JH.one (i := 8) (by kernel_rfl) ?_
      refine JHo.e rfl (e_callV fn_108 rfl (fun w hw => c_spec_CanMove g.rules _ g.now _ w ⟨_, rfl, ⟨rfl, rfl, rfl, rfl, rfl, rfl, rfl, rfl, rfl, trivial⟩⟩ ⟨_, rfl, ⟨(Ty.mono _ h1_13 hw.vis), (Ty.mono _ h1_14 hw.vis), rfl, trivial⟩⟩ (by omega) (by omega) hnow)) (.inl rfl) ?_
      rintro _ _ _ ⟨rfl, rfl, rfl⟩ _
      refine JH.p 9 rfl (p_not rfl) ?_
      refine JH.p 10 rfl (p_assign rfl) ?_
      refine JH.done (by kernel_rfl) ?_
      refine Js.cond rfl (fun h4 => ?_) (fun h4 => ?_)
      ·
        have h4' := h4
        try simp only [Bool.not_eq_true', Bool.and_eq_false_iff, decide_eq_false_iff_not, Int.not_lt] at h4'
        have hE := M.endOf_3 q1 q2 (by have h9 := h4; simp only [hnow, Bool.true_and, Bool.not_eq_true', decide_eq_false_iff_not] at h9; omega)
        refine Js.seq ?_
        refine Js.region ?_
        refine JL.q (OpP.q (p_assign rfl)) ?_
        refine JL.nil ?_
        refine Js.ret (R := RV w (.int .i64 (M.endOf g))) @Try.results83 (fun _ _ => rfl) (ResOk.tmp rfl ResOk.nil) (fun w1 hw => ?_)
        refine ⟨?_, hw.ext (Up.refl _ _)⟩
        rw [hE]; rfl
      ·
        have h4' := h4
        try simp only [Bool.not_eq_false', Bool.and_eq_true, decide_eq_true_eq] at h4'
        have q3 : (M.results g.rules g.now).length ≠ 0 := by have h9 := h4; simp only [hnow, Bool.true_and, Bool.not_eq_false', decide_eq_true_eq] at h9; omega
        refine Js.seq ?_
        refine Js.region ?_
        refine JL.q (OpP.q (p_move rfl)) ?_
        refine JL.e (e_callV fn_69 rfl (fun w hw => c_spec_l08Repeats g _ w ⟨_, _, [.int .i64 g.rules.pits, .int .i64 g.rules.seeds, .bool g.rules.stores, .bool g.rules.skip, .bool g.rules.relay, .bool g.rules.feed, .bool g.rules.again, .int .i64 g.rules.capture, .int .i64 g.rules.slam, .slice A1_9 g.start.pits.length c1_9, .slice A1_10 g.start.stores.length c1_10, .int .i64 g.start.player, .slice A1_12 g.moves.length c1_12, .slice A1_13 g.now.pits.length c1_13, .slice A1_14 g.now.stores.length c1_14, .int .i64 g.now.player, .int .i64 g.resigned], rfl, ⟨rfl, rfl, rfl, rfl, rfl, rfl, rfl, rfl, rfl, (Ty.mono _ h1_9 hw.vis), (Ty.mono _ h1_10 hw.vis), rfl, (Ty.mono _ h1_12 hw.vis), (Ty.mono _ h1_13 hw.vis), (Ty.mono _ h1_14 hw.vis), rfl, rfl, trivial⟩, (hr1.vis hw.vis)⟩ (by omega) (by omega) (by omega) (by omega) (by omega) hok)) ?_
        rintro _ _ _ ⟨rfl, rfl, rfl⟩ _
        refine JL.q (OpP.q (p_geq rfl rfl)) ?_
        refine JL.q (OpP.q (p_assign rfl)) ?_
        refine JL.nil ?_
        refine Js.cond rfl (fun h5 => ?_) (fun h5 => ?_)
        ·
          have h5' := h5
          try simp only [decide_eq_true_eq] at h5'
          have hE := M.endOf_4 q1 q2 q3 (by rw [k6]; simpa using h5)
          refine Js.seq ?_
          refine Js.region ?_
          refine JL.q (OpP.q (p_assign rfl)) ?_
          refine JL.nil ?_
          refine Js.ret (R := RV w (.int .i64 (M.endOf g))) @Try.results83 (fun _ _ => rfl) (ResOk.tmp rfl ResOk.nil) (fun w1 hw => ?_)
          refine ⟨?_, hw.ext (Up.refl _ _)⟩
          rw [hE]; rfl
        ·
          have h5' := h5
          try simp only [decide_eq_false_iff_not, Int.not_le] at h5'
          have q4 : ¬ 3 ≤ M.count g.now (M.playedP g) := by rw [k6]; simpa using h5
          refine Js.seq ?_
          refine Js.region ?_
          refine JL.q (OpP.q (p_move rfl)) ?_
          refine JL.q (OpP.q (p_nilCheck rfl)) ?_
          refine JL.q (OpP.q (p_fieldAddr fld_35_2 rfl)) ?_
          refine JL.q (q_load1 ty_24 rfl (Mem.pub (hr1 12 _ rfl))) ?_
          refine JL.q (OpP.q (p_len el_24 rfl)) ?_
          refine JL.q (OpP.q (p_geq rfl rfl)) ?_
          refine JL.q (OpP.q (p_assign rfl)) ?_
          refine JL.nil ?_
          refine Js.cond rfl (fun h6 => ?_) (fun h6 => ?_)
          ·
            have h6' := h6
            try simp only [decide_eq_true_eq] at h6'
            have hE := M.endOf_5 q1 q2 q3 q4 (by have := h6'; omega)
            refine Js.seq ?_
            refine Js.region ?_
            refine JL.q (OpP.q (p_assign rfl)) ?_
            refine JL.nil ?_
            refine Js.ret (R := RV w (.int .i64 (M.endOf g))) @Try.results83 (fun _ _ => rfl) (ResOk.tmp rfl ResOk.nil) (fun w1 hw => ?_)
            refine ⟨?_, hw.ext (Up.refl _ _)⟩
            rw [hE]; rfl
          ·
            have h6' := h6
            try simp only [decide_eq_false_iff_not, Int.not_le] at h6'
            have hE := M.endOf_0 q1 q2 q3 q4 (by have := h6'; omega)
            refine Js.skip ?_
            refine Js.blockEnd ?_
            refine Js.seq ?_
            refine Js.region ?_
            refine JL.q (OpP.q (p_assign rfl)) ?_
            refine JL.nil ?_
            refine Js.ret (R := RV w (.int .i64 (M.endOf g))) @Try.results83 (fun _ _ => rfl) (ResOk.tmp rfl ResOk.nil) (fun w1 hw => ?_)
            refine ⟨?_, hw.ext (Up.refl _ _)⟩
            rw [hE]; rfl

end Go.Proofs.Ytejnmechnhgmfaa

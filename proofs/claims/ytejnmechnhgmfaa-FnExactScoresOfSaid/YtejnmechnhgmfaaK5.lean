/- Walks: K5. -/
import Derived.Test.YtejnmechnhgmfaaTy
import Derived.Test.YtejnmechnhgmfaaK4
set_option linter.unusedSimpArgs false
set_option linter.unusedVariables false
namespace Go.Proofs.Ytejnmechnhgmfaa
open Go.RowKit

set_option maxRecDepth 100000 in
set_option maxHeartbeats 400000 in
theorem c_spec_l07All (r : M.Rul) (v_r : Value) (p : M.Pos) (v_p : Value) (w : World) (h_r : (Ty.ref (cRules r)).ok w v_r) (h_p : (Ty.ref (cPosition p)).ok w v_p) (r0 : M.okP r p = true) : Ret Try.prog 132 [v_r, v_p] w (Ty.sl 84 6 (M.results r p).length (lResult (M.results r p))) := by
  obtain ⟨g1, g2, g3, g4, g5, g6, g7⟩ := M.okP_bd r0
  obtain ⟨b1, o1, rfl, hr1⟩ := ref_Rules h_r
  obtain ⟨b2, o2, A2_0, c2_0, A2_1, c2_1, rfl, hr2, h2_0, h2_1, bl2_0, bh2_0, bl2_1, bh2_1⟩ := ref_Position h_p
  refine enter @Try.func132 @Try.ntmps132 rfl rfl ?_
  refine Js.seq ?_
  refine Js.region ?_
  refine JL.q (OpP.q (p_assign rfl)) ?_
  refine JL.nil ?_
  refine Js.seq ?_
  refine Js.region ?_
  refine JL.e (e_buildSlice (vs := []) el_74 rfl rfl rfl rfl rfl rfl) ?_
  rintro _ _ _ ⟨b3, rfl, rfl, hl4, rfl⟩ _
  refine JL.q (OpP.q (p_assign rfl)) ?_
  refine JL.nil ?_
  refine Js.seq ?_
  refine Js.seq ?_
  refine Js.region ?_
  refine JL.q (OpP.q (p_assign rfl)) ?_
  refine JL.nil ?_
  refine Js.block ?_
  refine Js.vals (Ts := lResult []) (vs := []) (fun w => rfl) ?_
  refine Js.loop (fun l os u m => ∃ (k : Nat) (acc : List M.Res) (A5_5 : Option Addr) (c5_5 : Nat) (g5_5 : List Nat) (vs5_5 : List Value) (fl5_5 : List Nat), l = [(0, .pointer (some ⟨b1, o1, none⟩)), (1, .pointer (some ⟨b2, o2, none⟩)), (5, .slice A5_5 acc.length c5_5), (6, .int .i64 (k : Int))] ∧ os = [ownC (lResult acc) vs5_5 fl5_5, rowO 84 6 (.slice A5_5 acc.length c5_5) acc.length vs5_5 g5_5] ∧ Up w.heap.size w u ∧ (acc = M.resultsTo r p k) ∧ (k ≤ r.pits) ∧ (acc.length ≤ c5_5) ∧ (c5_5 ≤ 9223372036854775807) ∧ m = (r.pits - k).toNat) ⟨0, [], _, _, _, _, _, rfl, rfl, Up.refl _ _, by rfl, by first | assumption | omega | rfl | (simp; done), by first | omega | (simp only [List.length_append, List.length_cons, List.length_nil] <;> omega), by first | omega | (simp only [List.length_append, List.length_cons, List.length_nil] <;> omega), rfl⟩ ⟨rfl, rfl, rfl, rfl, trivial⟩ ?_
  · rintro _ _ u5 _ ⟨k, acc, A5_5, c5_5, g5_5, vs5_5, fl5_5, rfl, rfl, x5, hacc, hk, f5_2, f5_3, rfl⟩
    have hlen := M.resultsTo_len (r := r) (p := p) k
    have hlacc : acc.length ≤ k := by rw [hacc]; exact hlen
    refine Js.seq ?_
    refine Js.seq ?_
    refine Js.region ?_
    refine JL.q (OpP.q (p_move rfl)) ?_
    refine JL.q (OpP.q (p_move rfl)) ?_
    refine JL.q (OpP.q (p_nilCheck rfl)) ?_
    refine JL.q (OpP.q (p_fieldAddr fld_32_0 rfl)) ?_
    refine JL.q (q_load1 ty_2 rfl (Mem.pub ((hr1.vis x5.vis) 0 _ rfl))) ?_
    refine JL.q (OpP.q (p_lss rfl rfl)) ?_
    refine JL.nil ?_
    refine Js.cond rfl (fun h6 => ?_) (fun h6 => ?_)
    ·
      have h6' := h6
      try simp only [decide_eq_true_eq] at h6'
      refine Js.skip ?_
      refine Js.seq ?_
      refine Js.block ?_
      refine Js.seq ?_
      refine Js.region ?_
      refine JL.q (OpP.q (p_move rfl)) ?_
      refine JL.q (OpP.q (p_move rfl)) ?_
      refine JL.q (OpP.q (p_move rfl)) ?_
      refine JL.e (e_callO fn_105 rfl (Spl.tup (Spls.cons (Spl.agg (Spls.cons (Spl.val _) (Spls.cons (Spl.val _) (Spls.cons (Spl.val _) (Spls.cons (Spl.ints _ _) (Spls.cons (Spl.ints _ _) (Spls.cons (Spl.val _) Spls.nil))))))) (Spls.cons (Spl.val _) Spls.nil))) (fun w hw => c_spec_l07Make r _ p _ (k : Int) w ⟨_, _, [.int .i64 r.pits, .int .i64 r.seeds, .bool r.stores, .bool r.skip, .bool r.relay, .bool r.feed, .bool r.again, .int .i64 r.capture, .int .i64 r.slam], rfl, ⟨rfl, rfl, rfl, rfl, rfl, rfl, rfl, rfl, rfl, trivial⟩, (hr1.vis (x5.vis.trans hw.vis))⟩ ⟨_, _, [.slice A2_0 p.pits.length c2_0, .slice A2_1 p.stores.length c2_1, .int .i64 p.player], rfl, ⟨(Ty.mono _ h2_0 (x5.vis.trans hw.vis)), (Ty.mono _ h2_1 (x5.vis.trans hw.vis)), rfl, trivial⟩, (hr2.vis (x5.vis.trans hw.vis))⟩ (by omega) (by omega))) ?_
      rintro v7 _ _ ⟨_, hR8, rfl, rfl⟩ _
      obtain ⟨vs9, rfl, hr9⟩ := hR8
      obtain ⟨v9_0, vs9_0, o9_0, ow9_0, rfl, hR9_0, hs9_0, rfl⟩ := RL_cons hr9
      obtain ⟨v9_1, vs9_1, o9_1, ow9_1, rfl, hR9_1, hs9_1, rfl⟩ := RL_cons hs9_0
      obtain ⟨rfl, rfl⟩ := RL_nil hs9_1
      obtain ⟨vs10, rfl, hr10⟩ := hR9_0
      obtain ⟨v10_0, vs10_0, o10_0, ow10_0, rfl, hR10_0, hs10_0, rfl⟩ := RL_cons hr10
      obtain ⟨v10_1, vs10_1, o10_1, ow10_1, rfl, hR10_1, hs10_1, rfl⟩ := RL_cons hs10_0
      obtain ⟨v10_2, vs10_2, o10_2, ow10_2, rfl, hR10_2, hs10_2, rfl⟩ := RL_cons hs10_1
      obtain ⟨v10_3, vs10_3, o10_3, ow10_3, rfl, hR10_3, hs10_3, rfl⟩ := RL_cons hs10_2
      obtain ⟨v10_4, vs10_4, o10_4, ow10_4, rfl, hR10_4, hs10_4, rfl⟩ := RL_cons hs10_3
      obtain ⟨v10_5, vs10_5, o10_5, ow10_5, rfl, hR10_5, hs10_5, rfl⟩ := RL_cons hs10_4
      obtain ⟨rfl, rfl⟩ := RL_nil hs10_5
      obtain ⟨rfl, rfl⟩ : v10_0 = .int .i64 (((M.make r p (k : Int)).1).move) ∧ _ := hR10_0
      obtain ⟨rfl, rfl⟩ : v10_1 = .int .i64 (((M.make r p (k : Int)).1).gain) ∧ _ := hR10_1
      obtain ⟨rfl, rfl⟩ : v10_2 = .bool (((M.make r p (k : Int)).1).again) ∧ _ := hR10_2
      obtain ⟨A11, c11, rfl, rfl, bl11, bh11⟩ := hR10_3
      obtain ⟨A12, c12, rfl, rfl, bl12, bh12⟩ := hR10_4
      obtain ⟨rfl, rfl⟩ : v10_5 = .int .i64 ((((M.make r p (k : Int)).1).next).player) ∧ _ := hR10_5
      obtain ⟨rfl, rfl⟩ : v9_1 = .int .i64 ((M.make r p (k : Int)).2) ∧ _ := hR9_1
      refine JL.q (OpP.q (p_move rfl)) ?_
      refine JL.q (OpP.q (p_extract rfl rfl)) ?_
      refine JL.q (OpP.q (p_extract rfl rfl)) ?_
      refine JL.e (e_alloc zero_84) ?_
      rintro _ _ _ ⟨b13, rfl, rfl, rfl⟩ _
      refine JL.s (e_store (i := 0) (c' := [.int .i64 (((M.make r p (k : Int)).1).move), .int .i64 (((M.make r p (k : Int)).1).gain), .bool (((M.make r p (k : Int)).1).again), .slice A11 (((((M.make r p (k : Int)).1).next).pits).length) c11, .slice A12 (((((M.make r p (k : Int)).1).next).stores).length) c12, .int .i64 ((((M.make r p (k : Int)).1).next).player)]) ty_84 rfl rfl rfl rfl rfl rfl rfl rfl) ?_
      rintro _ _ _ ⟨rfl, rfl⟩ _
      refine JL.q (OpP.q (p_assign rfl)) ?_
      refine JL.nil ?_
      refine Js.seq ?_
      refine Js.region ?_
      refine JL.q (OpP.q (p_move rfl)) ?_
      refine JL.q (OpP.q (p_eql rfl rfl)) ?_
      refine JL.nil ?_
      refine Js.cond rfl (fun h14 => ?_) (fun h14 => ?_)
      ·
        have h14' := h14
        try simp only [decide_eq_true_eq] at h14'
        have hacc2 := (M.resultsTo_yes2 (r := r) (p := p) (k := k) (by simpa using h14)).symm
        refine Js.region ?_
        refine JL.q (OpP.q (p_move rfl)) ?_
        refine JL.q (q_loadN ty_84 rfl (Mem.boxR (i := 0) rfl 0 6) rfl rfl) ?_
        refine JL.e (e_buildSlice (vs := [.int .i64 (((M.make r p (k : Int)).1).move), .int .i64 (((M.make r p (k : Int)).1).gain), .bool (((M.make r p (k : Int)).1).again), .slice A11 (((((M.make r p (k : Int)).1).next).pits).length) c11, .slice A12 (((((M.make r p (k : Int)).1).next).stores).length) c12, .int .i64 ((((M.make r p (k : Int)).1).next).player)]) el_74 rfl rfl rfl rfl rfl rfl) ?_
        rintro _ _ _ ⟨b15, rfl, rfl, hl16, rfl⟩ _
        refine JL.e (e_append (i := 5) (n' := (acc ++ [((M.make r p (k : Int)).1)]).length) (vs' := vs5_5 ++ [.int .i64 (((M.make r p (k : Int)).1).move), .int .i64 (((M.make r p (k : Int)).1).gain), .bool (((M.make r p (k : Int)).1).again), .slice A11 (((((M.make r p (k : Int)).1).next).pits).length) c11, .slice A12 (((((M.make r p (k : Int)).1).next).stores).length) c12, .int .i64 ((((M.make r p (k : Int)).1).next).player)]) el_74 rfl rfl rfl rfl (src_row (i := 0) und_74 rfl rfl) (by omega) (by omega) (by first | omega | (simp only [List.length_append, List.length_cons, List.length_nil] <;> omega)) (rfl)) ?_
        rintro v17 _ _ ⟨⟨g18, rfl⟩, rfl⟩ _
        refine JL.fact (row_form' (i := 5) rfl) (fun hf19 => ?_)
        obtain ⟨A19, c19, rfl, bl19, bh19⟩ := hf19
        refine JL.q (OpP.q (p_assign rfl)) ?_
        refine JL.nil ?_
        refine Js.pack2 (i := 2) (j := 2) (cResult ((M.make r p (k : Int)).1)) [.int .i64 (((M.make r p (k : Int)).1).move), .int .i64 (((M.make r p (k : Int)).1).gain), .bool (((M.make r p (k : Int)).1).again), .slice A11 (((((M.make r p (k : Int)).1).next).pits).length) c11, .slice A12 (((((M.make r p (k : Int)).1).next).stores).length) c12, .int .i64 ((((M.make r p (k : Int)).1).next).player)] rfl rfl (fun w h1 h2 => pack_Result (ints_row h1 rfl) (ints_row h2 rfl)) (fun f20 => ?_)
        refine Js.joinL (i := 3) (j := 0) (Vs := lResult (acc ++ [((M.make r p (k : Int)).1)])) rfl rfl (lResult_snoc _ _) (fun f21 => ?_)
        refine Js.blockEnd ?_
        refine Js.region ?_
        refine JL.q (OpP.q (p_move rfl)) ?_
        refine JL.q (OpP.q (p_add rfl rfl (IntWalk.i64_in _ (by omega)))) ?_
        refine JL.q (OpP.q (p_assign rfl)) ?_
        refine JL.nil ?_
        refine Js.drop (i := 1) rfl rfl (fun u22 x22 => ?_)
        refine Js.drop (i := 1) rfl rfl (fun u23 x23 => ?_)
        exact Js.again ⟨k + 1, acc ++ [((M.make r p (k : Int)).1)], _, _, _, _, _, rfl, rfl, ((x5.trans x22).trans x23), by rw [hacc]; exact hacc2, by first | assumption | omega | rfl | (simp; done), by first | omega | (simp only [List.length_append, List.length_cons, List.length_nil] <;> omega), by first | omega | (simp only [List.length_append, List.length_cons, List.length_nil] <;> omega), rfl⟩ (by omega) ⟨rfl, rfl, rfl, rfl, trivial⟩
      ·
        have h14' := h14
        try simp only [decide_eq_false_iff_not] at h14'
        have hacc2 := (M.resultsTo_no2 (r := r) (p := p) (k := k) (by simpa using h14)).symm
        refine Js.skip ?_
        refine Js.blockEnd ?_
        refine Js.region ?_
        refine JL.q (OpP.q (p_move rfl)) ?_
        refine JL.q (OpP.q (p_add rfl rfl (IntWalk.i64_in _ (by omega)))) ?_
        refine JL.q (OpP.q (p_assign rfl)) ?_
        refine JL.nil ?_
        refine Js.drop (i := 0) rfl rfl (fun u24 x24 => ?_)
        refine Js.drop (i := 0) rfl rfl (fun u25 x25 => ?_)
        refine Js.drop (i := 0) rfl rfl (fun u26 x26 => ?_)
        exact Js.again ⟨k + 1, acc, _, _, _, _, _, rfl, rfl, (((x5.trans x24).trans x25).trans x26), by rw [hacc]; exact hacc2, by first | assumption | omega | rfl | (simp; done), by first | omega | (simp only [List.length_append, List.length_cons, List.length_nil] <;> omega), by first | omega | (simp only [List.length_append, List.length_cons, List.length_nil] <;> omega), rfl⟩ (by omega) ⟨rfl, rfl, rfl, rfl, trivial⟩
    ·
      have h6' := h6
      try simp only [decide_eq_false_iff_not, Int.not_lt] at h6'
      have hR : acc = M.results r p := by rw [hacc]; unfold M.results; rw [show k = r.pits.toNat by have := h6'; omega]
      refine Js.exit (fun _ _ => rfl) ?_
      refine Js.seq ?_
      refine Js.region ?_
      refine JL.q (OpP.q (p_move rfl)) ?_
      refine JL.q (OpP.q (p_assign rfl)) ?_
      refine JL.nil ?_
      refine Js.ret (R := RO w (Ty.sl 84 6 (M.results r p).length (lResult (M.results r p)))) @Try.results132 (fun _ _ => rfl) (ResOk.tmp rfl ResOk.nil) (fun w1 hw => ?_)
      have hx := hw.ext (x5)
      exact ret_own (ps := [(1, (Value.ownBlock (.slice A5_5 acc.length c5_5)).toList), (0, fl5_5)]) hw hx (srow_own lResult (hw.pr (i := 1) rfl) (hw.pr (i := 0) rfl) (lResult_length _) (show acc = M.results r p by exact hR)) (Pick.cons (j := 1) rfl (List.sublist_append_left _ _) rfl (Pick.cons (j := 0) rfl (List.Sublist.refl _) rfl Pick.nil)) (by simp [List.flatten, outV])

set_option maxRecDepth 100000 in
set_option maxHeartbeats 400000 in
theorem c_spec_CanMove (r : M.Rul) (v_r : Value) (p : M.Pos) (v_p : Value) (w : World) (h_r : (Ty.agg (cRules r)).ok w v_r) (h_p : (Ty.agg (cPosition p)).ok w v_p) (r0 : p.pits.length ≤ 4194304) (r1 : p.stores.length ≤ 4194304) (r2 : M.okP r p = true) : RetV Try.prog 108 [v_r, v_p] w (.bool (M.okP r p && decide (0 < (M.results r p).length))) := by
  obtain rfl := open_Rules h_r
  obtain ⟨A2_0, c2_0, A2_1, c2_1, rfl, h2_0, h2_1, bl2_0, bh2_0, bl2_1, bh2_1⟩ := open_Position h_p
  refine enter @Try.func108 @Try.ntmps108 rfl rfl ?_
  refine Js.seq ?_
  refine Js.region ?_
  refine JL.e (e_box (c := [.int .i64 r.pits, .int .i64 r.seeds, .bool r.stores, .bool r.skip, .bool r.relay, .bool r.feed, .bool r.again, .int .i64 r.capture, .int .i64 r.slam]) rfl rfl) ?_
  rintro _ _ _ ⟨b3, rfl, rfl, rfl⟩ _
  refine JL.e (e_box (c := [.slice A2_0 p.pits.length c2_0, .slice A2_1 p.stores.length c2_1, .int .i64 p.player]) rfl rfl) ?_
  rintro _ _ _ ⟨b4, rfl, rfl, rfl⟩ _
  refine JL.q (OpP.q (p_assign rfl)) ?_
  refine JL.nil ?_
  refine Js.seq ?_
  refine Js.region ?_
  refine JL.e (e_callV fn_103 rfl (fun w hw => c_spec_l04Ok r _ p _ w ⟨_, _, [.int .i64 r.pits, .int .i64 r.seeds, .bool r.stores, .bool r.skip, .bool r.relay, .bool r.feed, .bool r.again, .int .i64 r.capture, .int .i64 r.slam], rfl, ⟨rfl, rfl, rfl, rfl, rfl, rfl, rfl, rfl, rfl, trivial⟩, Mem.boxR (i := 1) rfl 0 9 w hw⟩ ⟨_, _, [.slice A2_0 p.pits.length c2_0, .slice A2_1 p.stores.length c2_1, .int .i64 p.player], rfl, ⟨(Ty.mono _ h2_0 hw.vis), (Ty.mono _ h2_1 hw.vis), rfl, trivial⟩, Mem.boxR (i := 0) rfl 0 3 w hw⟩ (by omega) (by omega))) ?_
  rintro _ _ _ ⟨rfl, rfl, rfl⟩ _
  refine JL.q (OpP.q (p_move rfl)) ?_
  refine JL.eT (Gd.t1 rfl rfl rfl) (show (M.okP r p) = true by simp [r2]) (e_callP fn_132 rfl (fun w hw => c_spec_l07All r _ p _ w ⟨_, _, [.int .i64 r.pits, .int .i64 r.seeds, .bool r.stores, .bool r.skip, .bool r.relay, .bool r.feed, .bool r.again, .int .i64 r.capture, .int .i64 r.slam], rfl, ⟨rfl, rfl, rfl, rfl, rfl, rfl, rfl, rfl, rfl, trivial⟩, Mem.boxR (i := 1) rfl 0 9 w hw⟩ ⟨_, _, [.slice A2_0 p.pits.length c2_0, .slice A2_1 p.stores.length c2_1, .int .i64 p.player], rfl, ⟨(Ty.mono _ h2_0 hw.vis), (Ty.mono _ h2_1 hw.vis), rfl, trivial⟩, Mem.boxR (i := 0) rfl 0 3 w hw⟩ r2)) ?_
  rintro v5 _ u7 ⟨h6, rfl⟩ x7
  obtain ⟨A8, c8, rfl, bl8, bh8⟩ := sl_form h6
  refine JL.gT (Gd.t1 rfl rfl rfl) (show (M.okP r p) = true by simp [r2]) (OpP.q (p_len el_74 rfl)) ?_
  refine JL.gT (Gd.t1 rfl rfl rfl) (show (M.okP r p) = true by simp [r2]) (OpP.q (p_gtr rfl rfl)) ?_
  refine JL.q (OpP.q (p_pickAnd2 rfl rfl rfl)) ?_
  refine JL.q (OpP.q (p_assign rfl)) ?_
  refine JL.nil ?_
  refine Js.ret (R := RV w (.bool (M.okP r p && decide (0 < (M.results r p).length)))) @Try.results108 (fun _ _ => rfl) (ResOk.tmp rfl ResOk.nil) (fun w1 hw => ?_)
  refine ⟨?_, hw.ext (x7)⟩
  simp [outV]

set_option maxRecDepth 100000 in
set_option maxHeartbeats 400000 in
theorem c_spec_l09All (p : M.Pos) (v_p : Value) (w : World) (h_p : (Ty.ref (cPosition p)).ok w v_p) (r0 : p.pits.length ≤ 4194304) (r1 : p.stores.length ≤ 4194304) (r2 : M.sum4 p.pits = M.isum p.pits) (r3 : M.sum4 p.stores = M.isum p.stores) : RetV Try.prog 131 [v_p] w (.int .i64 (M.all p)) := by
  have b1 := M.sum4_bd p.pits
  have b2 := M.sum4_bd p.stores
  obtain ⟨b1, o1, A1_0, c1_0, A1_1, c1_1, rfl, hr1, h1_0, h1_1, bl1_0, bh1_0, bl1_1, bh1_1⟩ := ref_Position h_p
  refine enter @Try.func131 @Try.ntmps131 rfl rfl ?_
  refine Js.seq ?_
  refine Js.region ?_
  refine JL.q (OpP.q (p_assign rfl)) ?_
  refine JL.nil ?_
  refine Js.seq ?_
  refine Js.drawn _ [] mixed_ (fun _ h => h) ?_
  refine JH.p 0 rfl (p_move rfl) ?_
  refine JH.p 1 rfl (p_nilCheck rfl) ?_
  refine JH.p 2 rfl (p_fieldAddr fld_33_0 rfl) ?_
  refine JH.q 3 rfl (q_load1 ty_24 rfl (Mem.pub (hr1 0 _ rfl))) ?_
  refine JH.p 5 rfl (p_move rfl) ?_
  refine JH.p 6 rfl (p_nilCheck rfl) ?_
  refine JH.p 7 rfl (p_fieldAddr fld_33_1 rfl) ?_
  refine JH.q 8 rfl (q_load1 ty_24 rfl (Mem.pub (hr1 1 _ rfl))) ?_
  refine JH.one (i := 4) (by kernel_rfl) ?_
  refine JHo.e rfl (e_callV fn_125 rfl (fun w hw => c_spec_l04Sum p.pits _ w (Ty.mono _ h1_0 hw.vis) (by omega))) (.inl rfl) ?_
  rintro _ _ _ ⟨rfl, rfl, rfl⟩ _
  refine JH.one (i := 9) (by kernel_rfl) ?_
  refine JHo.e rfl (e_callV fn_125 rfl (fun w hw => c_spec_l04Sum p.stores _ w (Ty.mono _ h1_1 hw.vis) (by omega))) (.inl rfl) ?_
  rintro _ _ _ ⟨rfl, rfl, rfl⟩ _
  refine JH.p 10 rfl (p_add rfl rfl (IntWalk.i64_in _ (by omega))) ?_
  refine JH.p 11 rfl (p_assign rfl) ?_
  refine JH.done (by kernel_rfl) ?_
  refine Js.ret (R := RV w (.int .i64 (M.all p))) @Try.results131 (fun _ _ => rfl) (ResOk.tmp rfl ResOk.nil) (fun w1 hw => ?_)
  refine ⟨?_, hw.ext (Up.refl _ _)⟩
  rw [r2, r3]; rfl

set_option maxRecDepth 100000 in
set_option maxHeartbeats 400000 in
theorem c_spec_l09Majority (p : M.Pos) (v_p : Value) (w : World) (h_p : (Ty.ref (cPosition p)).ok w v_p) (r0 : p.pits.length ≤ 4194304) (r1 : p.stores.length = 2) (r2 : M.sum4 p.pits = M.isum p.pits) (r3 : M.sum4 p.stores = M.isum p.stores) (r4 : ∀ k : Int, 0 ≤ M.getI p.stores k ∧ M.getI p.stores k ≤ 96) : RetV Try.prog 107 [v_p] w (.int .i64 (M.majority p)) := by
  obtain ⟨b1, o1, A1_0, c1_0, A1_1, c1_1, rfl, hr1, h1_0, h1_1, bl1_0, bh1_0, bl1_1, bh1_1⟩ := ref_Position h_p
  refine enter @Try.func107 @Try.ntmps107 rfl rfl ?_
  refine Js.seq ?_
  refine Js.region ?_
  refine JL.q (OpP.q (p_assign rfl)) ?_
  refine JL.nil ?_
  refine Js.seq ?_
  refine Js.seq ?_
  refine Js.region ?_
  refine JL.q (OpP.q (p_assign rfl)) ?_
  refine JL.nil ?_
  refine Js.block ?_
  refine Js.loop (fun l os u m => ∃ (k : Nat), l = [(0, .pointer (some ⟨b1, o1, none⟩)), (3, .int .i64 (k : Int))] ∧ os = [] ∧ Up w.heap.size w u ∧ (k ≤ 2) ∧ (M.noMaj p (k : Int)) ∧ m = 2 - k) ⟨0, rfl, rfl, Up.refl _ _, by first | assumption | omega | rfl | (simp; done), by exact M.noMaj_zero p, rfl⟩ ⟨rfl, rfl, trivial⟩ ?_
  · rintro _ _ u2 _ ⟨k, rfl, rfl, x2, hk, hN, rfl⟩
    have hv := r4 (k : Int)
    rw [M.nth_getI] at hv
    refine Js.seq ?_
    refine Js.seq ?_
    refine Js.region ?_
    refine JL.q (OpP.q (p_move rfl)) ?_
    refine JL.q (OpP.q (p_lss rfl rfl)) ?_
    refine JL.nil ?_
    refine Js.cond rfl (fun h3 => ?_) (fun h3 => ?_)
    ·
      have h3' := h3
      try simp only [decide_eq_true_eq] at h3'
      refine Js.skip ?_
      refine Js.seq ?_
      refine Js.block ?_
      refine Js.seq ?_
      refine Js.drawn _ [] mixed_ (fun _ h => h) ?_
      refine JH.p 0 rfl (p_move rfl) ?_
      refine JH.p 1 rfl (p_nilCheck rfl) ?_
      refine JH.p 2 rfl (p_fieldAddr fld_33_1 rfl) ?_
      refine JH.q 3 rfl (q_load1 ty_24 rfl (Mem.pub ((hr1.vis x2.vis) 1 _ rfl))) ?_
      refine JH.p 4 rfl (p_move rfl) ?_
      obtain ⟨b4, o4, he4, hc4⟩ := ints_elem (Ty.mono _ h1_1 x2.vis) (i := k) (by omega)
      refine JH.p 5 rfl (p_indexAddr el_24 rfl rfl (by omega) (by omega) he4) ?_
      refine JH.q 6 rfl (q_load1 ty_2 rfl (Mem.pub hc4)) ?_
      refine JH.p 7 rfl (p_mul rfl rfl (IntWalk.i64_in _ (by omega))) ?_
      refine JH.p 8 rfl (p_move rfl) ?_
      refine JH.one (i := 9) (by kernel_rfl) ?_
      refine JHo.e rfl (e_callV fn_131 rfl (fun w hw => c_spec_l09All p _ w ⟨_, _, [.slice A1_0 p.pits.length c1_0, .slice A1_1 p.stores.length c1_1, .int .i64 p.player], rfl, ⟨(Ty.mono _ h1_0 (x2.vis.trans hw.vis)), (Ty.mono _ h1_1 (x2.vis.trans hw.vis)), rfl, trivial⟩, (hr1.vis (x2.vis.trans hw.vis))⟩ (by omega) (by omega) r2 r3)) (.inl rfl) ?_
      rintro _ _ _ ⟨rfl, rfl, rfl⟩ _
      refine JH.p 10 rfl (p_gtr rfl rfl) ?_
      refine JH.done (by kernel_rfl) ?_
      refine Js.cond rfl (fun h5 => ?_) (fun h5 => ?_)
      ·
        have h5' := h5
        try simp only [decide_eq_true_eq] at h5'
        have hj : M.all p < 2 * M.getI p.stores (k : Int) := by rw [M.nth_getI]; simpa using h5
        have hE := M.majority_at hN (by omega) (by omega) hj
        refine Js.seq ?_
        refine Js.region ?_
        refine JL.q (OpP.q (p_move rfl)) ?_
        refine JL.q (OpP.q (p_assign rfl)) ?_
        refine JL.nil ?_
        refine Js.ret (R := RV w (.int .i64 (M.majority p))) @Try.results107 (fun _ _ => rfl) (ResOk.tmp rfl ResOk.nil) (fun w1 hw => ?_)
        refine ⟨?_, hw.ext (x2)⟩
        rw [hE]; rfl
      ·
        have h5' := h5
        try simp only [decide_eq_false_iff_not, Int.not_lt] at h5'
        have hj : ¬ M.all p < 2 * M.getI p.stores (k : Int) := by rw [M.nth_getI]; simpa using h5
        refine Js.skip ?_
        refine Js.blockEnd ?_
        refine Js.region ?_
        refine JL.q (OpP.q (p_move rfl)) ?_
        refine JL.q (OpP.q (p_add rfl rfl (IntWalk.i64_in _ (by omega)))) ?_
        refine JL.q (OpP.q (p_assign rfl)) ?_
        refine JL.nil ?_
        exact Js.again ⟨k + 1, rfl, rfl, x2, by first | assumption | omega | rfl | (simp; done), by exact M.noMaj_step hN hj, rfl⟩ (by omega) ⟨rfl, rfl, trivial⟩
    ·
      have h3' := h3
      try simp only [decide_eq_false_iff_not, Int.not_lt] at h3'
      have hE := M.majority_no hN (by have := h3'; omega)
      refine Js.exit (fun _ _ => rfl) ?_
      refine Js.seq ?_
      refine Js.region ?_
      refine JL.q (OpP.q (p_assign rfl)) ?_
      refine JL.nil ?_
      refine Js.ret (R := RV w (.int .i64 (M.majority p))) @Try.results107 (fun _ _ => rfl) (ResOk.tmp rfl ResOk.nil) (fun w1 hw => ?_)
      refine ⟨?_, hw.ext (x2)⟩
      rw [hE]; rfl

set_option maxRecDepth 100000 in
set_option maxHeartbeats 400000 in
theorem c_spec_l09Settle (r : M.Rul) (v_r : Value) (p : M.Pos) (v_p : Value) (w : World) (h_r : (Ty.ref (cRules r)).ok w v_r) (h_p : (Ty.ref (cPosition p)).ok w v_p) (r0 : M.okP r p = true) : Ret Try.prog 112 [v_r, v_p] w (Ty.agg (cPosition (M.settle r p))) := by
  obtain ⟨g1, g2, g3, g4, g5, g6, g7⟩ := M.okP_bd r0
  obtain ⟨b1, o1, rfl, hr1⟩ := ref_Rules h_r
  obtain ⟨b2, o2, A2_0, c2_0, A2_1, c2_1, rfl, hr2, h2_0, h2_1, bl2_0, bh2_0, bl2_1, bh2_1⟩ := ref_Position h_p
  refine enter @Try.func112 @Try.ntmps112 rfl rfl ?_
  refine Js.seq ?_
  refine Js.region ?_
  refine JL.e (e_alloc zero_33) ?_
  rintro _ _ _ ⟨b3, rfl, rfl, rfl⟩ _
  refine JL.nil ?_
  refine Js.seq ?_
  refine Js.cut (fun l os u => ∃ (b8 : Nat) (b4 : Nat) (A7 : Option Addr) (c7 : Nat), l = [(0, .pointer (some ⟨b1, o1, none⟩)), (1, .pointer (some ⟨b2, o2, none⟩)), (4, .pointer (some ⟨b3, 0, none⟩)), (5, .pointer (some ⟨b8, 0, none⟩))] ∧ os = [boxO b8 [.slice (some ⟨b4, 0, none⟩) p.pits.length p.pits.length, .slice A7 p.stores.length c7, .int .i64 p.player] 33, rowO 2 1 (.slice A7 p.stores.length c7) p.stores.length (ints_ p.stores) [], rowO 2 1 (.slice (some ⟨b4, 0, none⟩) p.pits.length p.pits.length) p.pits.length (ints_ (List.replicate p.pits.length 0)) [], boxO b3 [.slice none 0 0, .slice none 0 0, .int .i64 0] 33] ∧ Up w.heap.size w u ∧ (p.stores.length ≤ c7) ∧ (c7 ≤ 9223372036854775807)) ?_ ?_
  ·
    refine Js.drawn _ [17] mixed_ (fun _ h => h) ?_
    refine JH.p 0 rfl (p_move rfl) ?_
    refine JH.p 1 rfl (p_nilCheck rfl) ?_
    refine JH.p 2 rfl (p_fieldAddr fld_33_0 rfl) ?_
    refine JH.q 3 rfl (q_load1 ty_24 rfl (Mem.pub (hr2 0 _ rfl))) ?_
    refine JH.p 4 rfl (p_len el_24 rfl) ?_
    refine JH.p 6 rfl (p_move rfl) ?_
    refine JH.p 7 rfl (p_nilCheck rfl) ?_
    refine JH.p 8 rfl (p_fieldAddr fld_33_1 rfl) ?_
    refine JH.q 9 rfl (q_load1 ty_24 rfl (Mem.pub (hr2 1 _ rfl))) ?_
    refine JH.p 11 rfl (p_move rfl) ?_
    refine JH.p 12 rfl (p_nilCheck rfl) ?_
    refine JH.p 13 rfl (p_fieldAddr fld_33_2 rfl) ?_
    refine JH.q 14 rfl (q_load1 ty_2 rfl (Mem.pub (hr2 2 _ rfl))) ?_
    refine JH.all (rs := [5, 10, 16]) (by kernel_rfl) rfl ⟨?_, ?_, ?_, trivial⟩
    ·
      refine JHo.e rfl (e_makeI (m := p.pits.length) el_24 rfl rfl rfl (by omega) (by omega)) (.inl rfl) ?_
      rintro _ _ _ ⟨b30, rfl, rfl, rfl⟩ _
      refine JH.all (rs := [10, 16]) (by kernel_rfl) rfl ⟨?_, ?_, trivial⟩
      ·
        refine JHo.e rfl (e_callO fn_80 rfl (Spl.ints _ _) (fun w hw => c_spec_l00Own p.stores _ w (Ty.mono _ h2_1 hw.vis) (by omega))) (.inl rfl) ?_
        rintro v31 _ _ ⟨_, hR32, rfl, rfl⟩ _
        obtain ⟨A33, c33, rfl, rfl, bl33, bh33⟩ := hR32
        refine JH.p 15 rfl (p_build zero_33 flds_33 rfl rfl) ?_
        refine JH.one (i := 16) (by kernel_rfl) ?_
        refine JHo.e rfl (e_alloc zero_33) (.inl rfl) ?_
        rintro _ _ _ ⟨b34, rfl, rfl, rfl⟩ _
        refine JH.one (i := 17) (by kernel_rfl) ?_
        refine JHo.s rfl (e_store (i := 0) (c' := [.slice (some ⟨b30, 0, none⟩) p.pits.length p.pits.length, .slice A33 p.stores.length c33, .int .i64 p.player]) ty_33 rfl rfl rfl rfl rfl rfl rfl rfl) (.inr rfl) ?_
        rintro _ _ _ ⟨rfl, rfl⟩ _
        refine JH.done (by kernel_rfl) ?_
        exact Js.meet ⟨_, _, _, _, rfl, rfl, Up.refl _ _, by omega, by omega⟩ ⟨rfl, rfl, rfl, rfl, trivial⟩
      ·
        refine JHo.e rfl (e_alloc zero_33) (.inl rfl) ?_
        rintro _ _ _ ⟨b35, rfl, rfl, rfl⟩ _
        refine JH.one (i := 10) (by kernel_rfl) ?_
        refine JHo.e rfl (e_callO fn_80 rfl (Spl.ints _ _) (fun w hw => c_spec_l00Own p.stores _ w (Ty.mono _ h2_1 hw.vis) (by omega))) (.inl rfl) ?_
        rintro v36 _ _ ⟨_, hR37, rfl, rfl⟩ _
        obtain ⟨A38, c38, rfl, rfl, bl38, bh38⟩ := hR37
        refine JH.p 15 rfl (p_build zero_33 flds_33 rfl rfl) ?_
        refine JH.one (i := 17) (by kernel_rfl) ?_
        refine JHo.s rfl (e_store (i := 1) (c' := [.slice (some ⟨b30, 0, none⟩) p.pits.length p.pits.length, .slice A38 p.stores.length c38, .int .i64 p.player]) ty_33 rfl rfl rfl rfl rfl rfl rfl rfl) (.inr rfl) ?_
        rintro _ _ _ ⟨rfl, rfl⟩ _
        refine JH.done (by kernel_rfl) ?_
        refine Js.front (i := 3) rfl ?_
        refine Js.front (i := 3) rfl ?_
        refine Js.front (i := 2) rfl ?_
        refine Js.front (i := 3) rfl ?_
        exact Js.meet ⟨_, _, _, _, rfl, rfl, Up.refl _ _, by omega, by omega⟩ ⟨rfl, rfl, rfl, rfl, trivial⟩
    ·
      refine JHo.e rfl (e_callO fn_80 rfl (Spl.ints _ _) (fun w hw => c_spec_l00Own p.stores _ w (Ty.mono _ h2_1 hw.vis) (by omega))) (.inl rfl) ?_
      rintro v39 _ _ ⟨_, hR40, rfl, rfl⟩ _
      obtain ⟨A41, c41, rfl, rfl, bl41, bh41⟩ := hR40
      refine JH.all (rs := [5, 16]) (by kernel_rfl) rfl ⟨?_, ?_, trivial⟩
      ·
        refine JHo.e rfl (e_makeI (m := p.pits.length) el_24 rfl rfl rfl (by omega) (by omega)) (.inl rfl) ?_
        rintro _ _ _ ⟨b42, rfl, rfl, rfl⟩ _
        refine JH.p 15 rfl (p_build zero_33 flds_33 rfl rfl) ?_
        refine JH.one (i := 16) (by kernel_rfl) ?_
        refine JHo.e rfl (e_alloc zero_33) (.inl rfl) ?_
        rintro _ _ _ ⟨b43, rfl, rfl, rfl⟩ _
        refine JH.one (i := 17) (by kernel_rfl) ?_
        refine JHo.s rfl (e_store (i := 0) (c' := [.slice (some ⟨b42, 0, none⟩) p.pits.length p.pits.length, .slice A41 p.stores.length c41, .int .i64 p.player]) ty_33 rfl rfl rfl rfl rfl rfl rfl rfl) (.inr rfl) ?_
        rintro _ _ _ ⟨rfl, rfl⟩ _
        refine JH.done (by kernel_rfl) ?_
        refine Js.front (i := 3) rfl ?_
        refine Js.front (i := 2) rfl ?_
        refine Js.front (i := 3) rfl ?_
        refine Js.front (i := 3) rfl ?_
        exact Js.meet ⟨_, _, _, _, rfl, rfl, Up.refl _ _, by omega, by omega⟩ ⟨rfl, rfl, rfl, rfl, trivial⟩
      ·
        refine JHo.e rfl (e_alloc zero_33) (.inl rfl) ?_
        rintro _ _ _ ⟨b44, rfl, rfl, rfl⟩ _
        refine JH.one (i := 5) (by kernel_rfl) ?_
        refine JHo.e rfl (e_makeI (m := p.pits.length) el_24 rfl rfl rfl (by omega) (by omega)) (.inl rfl) ?_
        rintro _ _ _ ⟨b45, rfl, rfl, rfl⟩ _
        refine JH.p 15 rfl (p_build zero_33 flds_33 rfl rfl) ?_
        refine JH.one (i := 17) (by kernel_rfl) ?_
        refine JHo.s rfl (e_store (i := 1) (c' := [.slice (some ⟨b45, 0, none⟩) p.pits.length p.pits.length, .slice A41 p.stores.length c41, .int .i64 p.player]) ty_33 rfl rfl rfl rfl rfl rfl rfl rfl) (.inr rfl) ?_
        rintro _ _ _ ⟨rfl, rfl⟩ _
        refine JH.done (by kernel_rfl) ?_
        refine Js.front (i := 3) rfl ?_
        refine Js.front (i := 1) rfl ?_
        refine Js.front (i := 3) rfl ?_
        refine Js.front (i := 3) rfl ?_
        exact Js.meet ⟨_, _, _, _, rfl, rfl, Up.refl _ _, by omega, by omega⟩ ⟨rfl, rfl, rfl, rfl, trivial⟩
    ·
      refine JHo.e rfl (e_alloc zero_33) (.inl rfl) ?_
      rintro _ _ _ ⟨b46, rfl, rfl, rfl⟩ _
      refine JH.all (rs := [5, 10]) (by kernel_rfl) rfl ⟨?_, ?_, trivial⟩
      ·
        refine JHo.e rfl (e_makeI (m := p.pits.length) el_24 rfl rfl rfl (by omega) (by omega)) (.inl rfl) ?_
        rintro _ _ _ ⟨b47, rfl, rfl, rfl⟩ _
        refine JH.one (i := 10) (by kernel_rfl) ?_
        refine JHo.e rfl (e_callO fn_80 rfl (Spl.ints _ _) (fun w hw => c_spec_l00Own p.stores _ w (Ty.mono _ h2_1 hw.vis) (by omega))) (.inl rfl) ?_
        rintro v48 _ _ ⟨_, hR49, rfl, rfl⟩ _
        obtain ⟨A50, c50, rfl, rfl, bl50, bh50⟩ := hR49
        refine JH.p 15 rfl (p_build zero_33 flds_33 rfl rfl) ?_
        refine JH.one (i := 17) (by kernel_rfl) ?_
        refine JHo.s rfl (e_store (i := 2) (c' := [.slice (some ⟨b47, 0, none⟩) p.pits.length p.pits.length, .slice A50 p.stores.length c50, .int .i64 p.player]) ty_33 rfl rfl rfl rfl rfl rfl rfl rfl) (.inr rfl) ?_
        rintro _ _ _ ⟨rfl, rfl⟩ _
        refine JH.done (by kernel_rfl) ?_
        refine Js.front (i := 3) rfl ?_
        refine Js.front (i := 2) rfl ?_
        refine Js.front (i := 2) rfl ?_
        refine Js.front (i := 3) rfl ?_
        exact Js.meet ⟨_, _, _, _, rfl, rfl, Up.refl _ _, by omega, by omega⟩ ⟨rfl, rfl, rfl, rfl, trivial⟩
      ·
        refine JHo.e rfl (e_callO fn_80 rfl (Spl.ints _ _) (fun w hw => c_spec_l00Own p.stores _ w (Ty.mono _ h2_1 hw.vis) (by omega))) (.inl rfl) ?_
        rintro v51 _ _ ⟨_, hR52, rfl, rfl⟩ _
        obtain ⟨A53, c53, rfl, rfl, bl53, bh53⟩ := hR52
        refine JH.one (i := 5) (by kernel_rfl) ?_
        refine JHo.e rfl (e_makeI (m := p.pits.length) el_24 rfl rfl rfl (by omega) (by omega)) (.inl rfl) ?_
        rintro _ _ _ ⟨b54, rfl, rfl, rfl⟩ _
        refine JH.p 15 rfl (p_build zero_33 flds_33 rfl rfl) ?_
        refine JH.one (i := 17) (by kernel_rfl) ?_
        refine JHo.s rfl (e_store (i := 2) (c' := [.slice (some ⟨b54, 0, none⟩) p.pits.length p.pits.length, .slice A53 p.stores.length c53, .int .i64 p.player]) ty_33 rfl rfl rfl rfl rfl rfl rfl rfl) (.inr rfl) ?_
        rintro _ _ _ ⟨rfl, rfl⟩ _
        refine JH.done (by kernel_rfl) ?_
        refine Js.front (i := 3) rfl ?_
        refine Js.front (i := 1) rfl ?_
        refine Js.front (i := 2) rfl ?_
        refine Js.front (i := 3) rfl ?_
        exact Js.meet ⟨_, _, _, _, rfl, rfl, Up.refl _ _, by omega, by omega⟩ ⟨rfl, rfl, rfl, rfl, trivial⟩
  · rintro _ _ u29 ⟨b8, b4, A7, c7, rfl, rfl, x29, f29_0, f29_1⟩
    refine Js.seq ?_
    refine Js.seq ?_
    refine Js.region ?_
    refine JL.q (OpP.q (p_assign rfl)) ?_
    refine JL.nil ?_
    refine Js.block ?_
    refine Js.loop (fun l os u m => ∃ (k : Nat) (ss : List Int), l = [(0, .pointer (some ⟨b1, o1, none⟩)), (1, .pointer (some ⟨b2, o2, none⟩)), (4, .pointer (some ⟨b3, 0, none⟩)), (5, .pointer (some ⟨b8, 0, none⟩)), (6, .int .i64 (k : Int))] ∧ os = [boxO b8 [.slice (some ⟨b4, 0, none⟩) p.pits.length p.pits.length, .slice A7 p.stores.length c7, .int .i64 p.player] 33, rowO 2 1 (.slice A7 p.stores.length c7) p.stores.length (ints_ ss) [], rowO 2 1 (.slice (some ⟨b4, 0, none⟩) p.pits.length p.pits.length) p.pits.length (ints_ (List.replicate p.pits.length 0)) [], boxO b3 [.slice none 0 0, .slice none 0 0, .int .i64 0] 33] ∧ Up w.heap.size u29 u ∧ (ss = M.setT r p k) ∧ (k ≤ 2) ∧ (ss.length = p.stores.length) ∧ m = 2 - k) ⟨0, p.stores, rfl, rfl, Up.refl _ _, by rfl, by first | assumption | omega | rfl | (simp; done), by rfl, rfl⟩ ⟨rfl, rfl, rfl, rfl, rfl, trivial⟩ ?_
    · rintro _ _ u55 _ ⟨k, ss, rfl, rfl, x55, hX, hk, hl, rfl⟩
      have hv := M.setT_bd r0 k (k : Int)
      rw [← hX, M.nth_getI] at hv
      have hw9 := M.side_bd g5 g2 (k : Int)
      refine Js.seq ?_
      refine Js.seq ?_
      refine Js.region ?_
      refine JL.q (OpP.q (p_move rfl)) ?_
      refine JL.q (OpP.q (p_lss rfl rfl)) ?_
      refine JL.nil ?_
      refine Js.cond rfl (fun h56 => ?_) (fun h56 => ?_)
      ·
        have h56' := h56
        try simp only [decide_eq_true_eq] at h56'
        refine Js.skip ?_
        refine Js.seq ?_
        refine Js.block ?_
        refine Js.drawn _ [14] mixed_ (fun _ h => h) ?_
        refine JH.p 0 rfl (p_fieldAddr fld_33_1 rfl) ?_
        refine JH.q 1 rfl (q_load1 ty_24 rfl (Mem.box (i := 0) rfl rfl)) ?_
        refine JH.p 2 rfl (p_move rfl) ?_
        refine JH.fact (row_some (i := 1) rfl (by omega)) (fun hf58 => ?_)
        obtain ⟨b58, rfl⟩ := hf58
        refine JH.p 3 rfl (p_indexAddr el_24 rfl rfl (by omega) (by omega) rfl) ?_
        refine JH.q 4 rfl (q_load1 ty_2 rfl (Mem.row (i := 1) rfl (ints_get (i := k) (by omega)))) ?_
        refine JH.p 5 rfl (p_move rfl) ?_
        refine JH.p 6 rfl (p_move rfl) ?_
        refine JH.p 7 rfl (p_nilCheck rfl) ?_
        refine JH.p 8 rfl (p_fieldAddr fld_33_0 rfl) ?_
        refine JH.q 9 rfl (q_load1 ty_24 rfl (Mem.pub ((hr2.vis (x29.vis.trans x55.vis)) 0 _ rfl))) ?_
        refine JH.p 10 rfl (p_move rfl) ?_
        refine JH.one (i := 11) (by kernel_rfl) ?_
        refine JHo.e rfl (e_callV fn_130 rfl (fun w hw => c_spec_l04Side r _ p.pits _ (k : Int) w ⟨_, _, [.int .i64 r.pits, .int .i64 r.seeds, .bool r.stores, .bool r.skip, .bool r.relay, .bool r.feed, .bool r.again, .int .i64 r.capture, .int .i64 r.slam], rfl, ⟨rfl, rfl, rfl, rfl, rfl, rfl, rfl, rfl, rfl, trivial⟩, (hr1.vis ((x29.vis.trans x55.vis).trans hw.vis))⟩ (Ty.mono _ h2_0 ((x29.vis.trans x55.vis).trans hw.vis)) (by omega) (by omega) (by omega) (by omega) g5)) (.inl rfl) ?_
        rintro _ _ _ ⟨rfl, rfl, rfl⟩ _
        refine JH.p 12 rfl (p_add rfl rfl (IntWalk.i64_in _ (by omega))) ?_
        refine JH.p 13 rfl (p_indexAddr el_24 rfl rfl (by omega) (by omega) rfl) ?_
        refine JH.one (i := 14) (by kernel_rfl) ?_
        refine JHo.s rfl (e_storeRow (i := 1) (xs' := ints_ (ss.set k ((M.nth ss k) + (M.side r p.pits (k : Int))))) ty_2 rfl rfl rfl rfl rfl rfl (ints_lt (i := k) (by omega)) (ints_setL (i := k) (by omega))) (.inr rfl) ?_
        rintro _ _ _ ⟨rfl, rfl⟩ _
        refine JH.done (by kernel_rfl) ?_
        refine Js.blockEnd ?_
        refine Js.region ?_
        refine JL.q (OpP.q (p_move rfl)) ?_
        refine JL.q (OpP.q (p_add rfl rfl (IntWalk.i64_in _ (by omega)))) ?_
        refine JL.q (OpP.q (p_assign rfl)) ?_
        refine JL.nil ?_
        exact Js.again ⟨k + 1, ss.set k ((M.nth ss k) + (M.side r p.pits (k : Int))), rfl, rfl, x55, by rw [hX]; simp [M.setT, M.setI, M.getI], by first | assumption | omega | rfl | (simp; done), by rw [List.length_set]; exact hl, rfl⟩ (by omega) ⟨rfl, rfl, rfl, rfl, rfl, trivial⟩
      ·
        have h56' := h56
        try simp only [decide_eq_false_iff_not, Int.not_lt] at h56'
        have hE : ss = (M.settle r p).stores := by rw [hX, show k = 2 by have := h56'; omega]; rfl
        refine Js.exit (fun _ _ => rfl) ?_
        refine Js.seq ?_
        refine Js.region ?_
        refine JL.q (q_loadN ty_33 rfl (Mem.boxR (i := 0) rfl 0 3) rfl rfl) ?_
        refine JL.s (e_store (i := 3) (c' := [.slice (some ⟨b4, 0, none⟩) p.pits.length p.pits.length, .slice A7 p.stores.length c7, .int .i64 p.player]) ty_33 rfl rfl rfl rfl rfl rfl rfl rfl) ?_
        rintro _ _ _ ⟨rfl, rfl⟩ _
        refine JL.nil ?_
        refine Js.ret (R := RO w (Ty.agg (cPosition (M.settle r p)))) @Try.results112 (fun _ _ => rfl) (ResOk.cell (res_box (i := 3) ty_33 rfl rfl rfl rfl rfl) ResOk.nil) (fun w1 hw => ?_)
        have hx := hw.ext ((x29.trans x55))
        exact ret_own (ps := [(2, (Value.ownBlock (.slice (some ⟨b4, 0, none⟩) p.pits.length p.pits.length)).toList), (1, (Value.ownBlock (.slice A7 p.stores.length c7)).toList)]) hw hx ⟨_, rfl, ⟨_, _, rfl, (ints_row (xs := (List.replicate p.pits.length 0)) (hw.pr (i := 2) rfl) (show List.replicate p.pits.length 0 = (M.settle r p).pits by first | exact hE | rfl)), ⟨_, _, rfl, (ints_row (xs := ss) (hw.pr (i := 1) rfl) (show ss = (M.settle r p).stores by first | exact hE | rfl)), ⟨_, _, rfl, ⟨by first | exact hE | rfl, rfl⟩, rfl⟩⟩⟩⟩ (Pick.cons (j := 2) rfl (List.sublist_append_left _ _) rfl (Pick.cons (j := 1) rfl (List.sublist_append_left _ _) rfl Pick.nil)) (by simp [List.flatten, outV])

set_option maxRecDepth 100000 in
set_option maxHeartbeats 400000 in
theorem c_spec_l09Give (p : M.Pos) (v_p : Value) (player : Int) (w : World) (h_p : (Ty.ref (cPosition p)).ok w v_p) (r0 : p.pits.length ≤ 4194304) (r1 : p.stores.length = 2) (r2 : player = 0 ∨ player = 1) (r3 : M.sum4 p.pits = M.isum p.pits) (r4 : M.allOk p.stores = true) : Ret Try.prog 111 [v_p, .int .i64 player] w (Ty.agg (cPosition (M.give p player))) := by
  have b1 := M.sum4_bd p.pits
  have hv2 := M.allOk_getI r4 player
  obtain ⟨b1, o1, A1_0, c1_0, A1_1, c1_1, rfl, hr1, h1_0, h1_1, bl1_0, bh1_0, bl1_1, bh1_1⟩ := ref_Position h_p
  refine enter @Try.func111 @Try.ntmps111 rfl rfl ?_
  refine Js.seq ?_
  refine Js.region ?_
  refine JL.e (e_alloc zero_33) ?_
  rintro _ _ _ ⟨b2, rfl, rfl, rfl⟩ _
  refine JL.nil ?_
  refine Js.seq ?_
  refine Js.cut (fun l os u => ∃ (b7 : Nat) (b3 : Nat) (A6 : Option Addr) (c6 : Nat), l = [(0, .pointer (some ⟨b1, o1, none⟩)), (1, .int .i64 player), (4, .pointer (some ⟨b2, 0, none⟩)), (5, .pointer (some ⟨b7, 0, none⟩))] ∧ os = [boxO b7 [.slice (some ⟨b3, 0, none⟩) p.pits.length p.pits.length, .slice A6 p.stores.length c6, .int .i64 p.player] 33, rowO 2 1 (.slice A6 p.stores.length c6) p.stores.length (ints_ p.stores) [], rowO 2 1 (.slice (some ⟨b3, 0, none⟩) p.pits.length p.pits.length) p.pits.length (ints_ (List.replicate p.pits.length 0)) [], boxO b2 [.slice none 0 0, .slice none 0 0, .int .i64 0] 33] ∧ Up w.heap.size w u ∧ (p.stores.length ≤ c6) ∧ (c6 ≤ 9223372036854775807)) ?_ ?_
  ·
    refine Js.drawn _ [17] mixed_ (fun _ h => h) ?_
    refine JH.p 0 rfl (p_move rfl) ?_
    refine JH.p 1 rfl (p_nilCheck rfl) ?_
    refine JH.p 2 rfl (p_fieldAddr fld_33_0 rfl) ?_
    refine JH.q 3 rfl (q_load1 ty_24 rfl (Mem.pub (hr1 0 _ rfl))) ?_
    refine JH.p 4 rfl (p_len el_24 rfl) ?_
    refine JH.p 6 rfl (p_move rfl) ?_
    refine JH.p 7 rfl (p_nilCheck rfl) ?_
    refine JH.p 8 rfl (p_fieldAddr fld_33_1 rfl) ?_
    refine JH.q 9 rfl (q_load1 ty_24 rfl (Mem.pub (hr1 1 _ rfl))) ?_
    refine JH.p 11 rfl (p_move rfl) ?_
    refine JH.p 12 rfl (p_nilCheck rfl) ?_
    refine JH.p 13 rfl (p_fieldAddr fld_33_2 rfl) ?_
    refine JH.q 14 rfl (q_load1 ty_2 rfl (Mem.pub (hr1 2 _ rfl))) ?_
    refine JH.all (rs := [5, 10, 16]) (by kernel_rfl) rfl ⟨?_, ?_, ?_, trivial⟩
    ·
      refine JHo.e rfl (e_makeI (m := p.pits.length) el_24 rfl rfl rfl (by omega) (by omega)) (.inl rfl) ?_
      rintro _ _ _ ⟨b29, rfl, rfl, rfl⟩ _
      refine JH.all (rs := [10, 16]) (by kernel_rfl) rfl ⟨?_, ?_, trivial⟩
      ·
        refine JHo.e rfl (e_callO fn_80 rfl (Spl.ints _ _) (fun w hw => c_spec_l00Own p.stores _ w (Ty.mono _ h1_1 hw.vis) (by omega))) (.inl rfl) ?_
        rintro v30 _ _ ⟨_, hR31, rfl, rfl⟩ _
        obtain ⟨A32, c32, rfl, rfl, bl32, bh32⟩ := hR31
        refine JH.p 15 rfl (p_build zero_33 flds_33 rfl rfl) ?_
        refine JH.one (i := 16) (by kernel_rfl) ?_
        refine JHo.e rfl (e_alloc zero_33) (.inl rfl) ?_
        rintro _ _ _ ⟨b33, rfl, rfl, rfl⟩ _
        refine JH.one (i := 17) (by kernel_rfl) ?_
        refine JHo.s rfl (e_store (i := 0) (c' := [.slice (some ⟨b29, 0, none⟩) p.pits.length p.pits.length, .slice A32 p.stores.length c32, .int .i64 p.player]) ty_33 rfl rfl rfl rfl rfl rfl rfl rfl) (.inr rfl) ?_
        rintro _ _ _ ⟨rfl, rfl⟩ _
        refine JH.done (by kernel_rfl) ?_
        exact Js.meet ⟨_, _, _, _, rfl, rfl, Up.refl _ _, by omega, by omega⟩ ⟨rfl, rfl, rfl, rfl, trivial⟩
      ·
        refine JHo.e rfl (e_alloc zero_33) (.inl rfl) ?_
        rintro _ _ _ ⟨b34, rfl, rfl, rfl⟩ _
        refine JH.one (i := 10) (by kernel_rfl) ?_
        refine JHo.e rfl (e_callO fn_80 rfl (Spl.ints _ _) (fun w hw => c_spec_l00Own p.stores _ w (Ty.mono _ h1_1 hw.vis) (by omega))) (.inl rfl) ?_
        rintro v35 _ _ ⟨_, hR36, rfl, rfl⟩ _
        obtain ⟨A37, c37, rfl, rfl, bl37, bh37⟩ := hR36
        refine JH.p 15 rfl (p_build zero_33 flds_33 rfl rfl) ?_
        refine JH.one (i := 17) (by kernel_rfl) ?_
        refine JHo.s rfl (e_store (i := 1) (c' := [.slice (some ⟨b29, 0, none⟩) p.pits.length p.pits.length, .slice A37 p.stores.length c37, .int .i64 p.player]) ty_33 rfl rfl rfl rfl rfl rfl rfl rfl) (.inr rfl) ?_
        rintro _ _ _ ⟨rfl, rfl⟩ _
        refine JH.done (by kernel_rfl) ?_
        refine Js.front (i := 3) rfl ?_
        refine Js.front (i := 3) rfl ?_
        refine Js.front (i := 2) rfl ?_
        refine Js.front (i := 3) rfl ?_
        exact Js.meet ⟨_, _, _, _, rfl, rfl, Up.refl _ _, by omega, by omega⟩ ⟨rfl, rfl, rfl, rfl, trivial⟩
    ·
      refine JHo.e rfl (e_callO fn_80 rfl (Spl.ints _ _) (fun w hw => c_spec_l00Own p.stores _ w (Ty.mono _ h1_1 hw.vis) (by omega))) (.inl rfl) ?_
      rintro v38 _ _ ⟨_, hR39, rfl, rfl⟩ _
      obtain ⟨A40, c40, rfl, rfl, bl40, bh40⟩ := hR39
      refine JH.all (rs := [5, 16]) (by kernel_rfl) rfl ⟨?_, ?_, trivial⟩
      ·
        refine JHo.e rfl (e_makeI (m := p.pits.length) el_24 rfl rfl rfl (by omega) (by omega)) (.inl rfl) ?_
        rintro _ _ _ ⟨b41, rfl, rfl, rfl⟩ _
        refine JH.p 15 rfl (p_build zero_33 flds_33 rfl rfl) ?_
        refine JH.one (i := 16) (by kernel_rfl) ?_
        refine JHo.e rfl (e_alloc zero_33) (.inl rfl) ?_
        rintro _ _ _ ⟨b42, rfl, rfl, rfl⟩ _
        refine JH.one (i := 17) (by kernel_rfl) ?_
        refine JHo.s rfl (e_store (i := 0) (c' := [.slice (some ⟨b41, 0, none⟩) p.pits.length p.pits.length, .slice A40 p.stores.length c40, .int .i64 p.player]) ty_33 rfl rfl rfl rfl rfl rfl rfl rfl) (.inr rfl) ?_
        rintro _ _ _ ⟨rfl, rfl⟩ _
        refine JH.done (by kernel_rfl) ?_
        refine Js.front (i := 3) rfl ?_
        refine Js.front (i := 2) rfl ?_
        refine Js.front (i := 3) rfl ?_
        refine Js.front (i := 3) rfl ?_
        exact Js.meet ⟨_, _, _, _, rfl, rfl, Up.refl _ _, by omega, by omega⟩ ⟨rfl, rfl, rfl, rfl, trivial⟩
      ·
        refine JHo.e rfl (e_alloc zero_33) (.inl rfl) ?_
        rintro _ _ _ ⟨b43, rfl, rfl, rfl⟩ _
        refine JH.one (i := 5) (by kernel_rfl) ?_
        refine JHo.e rfl (e_makeI (m := p.pits.length) el_24 rfl rfl rfl (by omega) (by omega)) (.inl rfl) ?_
        rintro _ _ _ ⟨b44, rfl, rfl, rfl⟩ _
        refine JH.p 15 rfl (p_build zero_33 flds_33 rfl rfl) ?_
        refine JH.one (i := 17) (by kernel_rfl) ?_
        refine JHo.s rfl (e_store (i := 1) (c' := [.slice (some ⟨b44, 0, none⟩) p.pits.length p.pits.length, .slice A40 p.stores.length c40, .int .i64 p.player]) ty_33 rfl rfl rfl rfl rfl rfl rfl rfl) (.inr rfl) ?_
        rintro _ _ _ ⟨rfl, rfl⟩ _
        refine JH.done (by kernel_rfl) ?_
        refine Js.front (i := 3) rfl ?_
        refine Js.front (i := 1) rfl ?_
        refine Js.front (i := 3) rfl ?_
        refine Js.front (i := 3) rfl ?_
        exact Js.meet ⟨_, _, _, _, rfl, rfl, Up.refl _ _, by omega, by omega⟩ ⟨rfl, rfl, rfl, rfl, trivial⟩
    ·
      refine JHo.e rfl (e_alloc zero_33) (.inl rfl) ?_
      rintro _ _ _ ⟨b45, rfl, rfl, rfl⟩ _
      refine JH.all (rs := [5, 10]) (by kernel_rfl) rfl ⟨?_, ?_, trivial⟩
      ·
        refine JHo.e rfl (e_makeI (m := p.pits.length) el_24 rfl rfl rfl (by omega) (by omega)) (.inl rfl) ?_
        rintro _ _ _ ⟨b46, rfl, rfl, rfl⟩ _
        refine JH.one (i := 10) (by kernel_rfl) ?_
        refine JHo.e rfl (e_callO fn_80 rfl (Spl.ints _ _) (fun w hw => c_spec_l00Own p.stores _ w (Ty.mono _ h1_1 hw.vis) (by omega))) (.inl rfl) ?_
        rintro v47 _ _ ⟨_, hR48, rfl, rfl⟩ _
        obtain ⟨A49, c49, rfl, rfl, bl49, bh49⟩ := hR48
        refine JH.p 15 rfl (p_build zero_33 flds_33 rfl rfl) ?_
        refine JH.one (i := 17) (by kernel_rfl) ?_
        refine JHo.s rfl (e_store (i := 2) (c' := [.slice (some ⟨b46, 0, none⟩) p.pits.length p.pits.length, .slice A49 p.stores.length c49, .int .i64 p.player]) ty_33 rfl rfl rfl rfl rfl rfl rfl rfl) (.inr rfl) ?_
        rintro _ _ _ ⟨rfl, rfl⟩ _
        refine JH.done (by kernel_rfl) ?_
        refine Js.front (i := 3) rfl ?_
        refine Js.front (i := 2) rfl ?_
        refine Js.front (i := 2) rfl ?_
        refine Js.front (i := 3) rfl ?_
        exact Js.meet ⟨_, _, _, _, rfl, rfl, Up.refl _ _, by omega, by omega⟩ ⟨rfl, rfl, rfl, rfl, trivial⟩
      ·
        refine JHo.e rfl (e_callO fn_80 rfl (Spl.ints _ _) (fun w hw => c_spec_l00Own p.stores _ w (Ty.mono _ h1_1 hw.vis) (by omega))) (.inl rfl) ?_
        rintro v50 _ _ ⟨_, hR51, rfl, rfl⟩ _
        obtain ⟨A52, c52, rfl, rfl, bl52, bh52⟩ := hR51
        refine JH.one (i := 5) (by kernel_rfl) ?_
        refine JHo.e rfl (e_makeI (m := p.pits.length) el_24 rfl rfl rfl (by omega) (by omega)) (.inl rfl) ?_
        rintro _ _ _ ⟨b53, rfl, rfl, rfl⟩ _
        refine JH.p 15 rfl (p_build zero_33 flds_33 rfl rfl) ?_
        refine JH.one (i := 17) (by kernel_rfl) ?_
        refine JHo.s rfl (e_store (i := 2) (c' := [.slice (some ⟨b53, 0, none⟩) p.pits.length p.pits.length, .slice A52 p.stores.length c52, .int .i64 p.player]) ty_33 rfl rfl rfl rfl rfl rfl rfl rfl) (.inr rfl) ?_
        rintro _ _ _ ⟨rfl, rfl⟩ _
        refine JH.done (by kernel_rfl) ?_
        refine Js.front (i := 3) rfl ?_
        refine Js.front (i := 1) rfl ?_
        refine Js.front (i := 2) rfl ?_
        refine Js.front (i := 3) rfl ?_
        exact Js.meet ⟨_, _, _, _, rfl, rfl, Up.refl _ _, by omega, by omega⟩ ⟨rfl, rfl, rfl, rfl, trivial⟩
  · rintro _ _ u28 ⟨b7, b3, A6, c6, rfl, rfl, x28, f28_0, f28_1⟩
    refine Js.seq ?_
    refine Js.drawn _ [12] mixed_ (fun _ h => h) ?_
    refine JH.p 0 rfl (p_fieldAddr fld_33_1 rfl) ?_
    refine JH.q 1 rfl (q_load1 ty_24 rfl (Mem.box (i := 0) rfl rfl)) ?_
    refine JH.p 2 rfl (p_move rfl) ?_
    refine JH.fact (row_some (i := 1) rfl (by omega)) (fun hf55 => ?_)
    obtain ⟨b55, rfl⟩ := hf55
    refine JH.p 3 rfl (p_indexAddr el_24 rfl rfl (by omega) (by omega) rfl) ?_
    refine JH.q 4 rfl (q_load1 ty_2 rfl (Mem.row (i := 1) rfl (ints_getI (i := player) (by omega)))) ?_
    refine JH.p 5 rfl (p_move rfl) ?_
    refine JH.p 6 rfl (p_nilCheck rfl) ?_
    refine JH.p 7 rfl (p_fieldAddr fld_33_0 rfl) ?_
    refine JH.q 8 rfl (q_load1 ty_24 rfl (Mem.pub ((hr1.vis x28.vis) 0 _ rfl))) ?_
    refine JH.one (i := 9) (by kernel_rfl) ?_
    refine JHo.e rfl (e_callV fn_125 rfl (fun w hw => c_spec_l04Sum p.pits _ w (Ty.mono _ h1_0 (x28.vis.trans hw.vis)) (by omega))) (.inl rfl) ?_
    rintro _ _ _ ⟨rfl, rfl, rfl⟩ _
    refine JH.p 10 rfl (p_add rfl rfl (IntWalk.i64_in _ (by omega))) ?_
    refine JH.p 11 rfl (p_indexAddr el_24 rfl rfl (by omega) (by omega) rfl) ?_
    refine JH.one (i := 12) (by kernel_rfl) ?_
    refine JHo.s rfl (e_storeRow (i := 1) (xs' := ints_ (M.setI p.stores player ((M.getI p.stores player) + (M.sum4 p.pits)))) ty_2 rfl rfl rfl rfl rfl rfl (ints_lt (i := player.toNat) (by omega)) (ints_setL (i := player.toNat) (by omega))) (.inr rfl) ?_
    rintro _ _ _ ⟨rfl, rfl⟩ _
    refine JH.done (by kernel_rfl) ?_
    refine Js.seq ?_
    refine Js.region ?_
    refine JL.q (q_loadN ty_33 rfl (Mem.boxR (i := 0) rfl 0 3) rfl rfl) ?_
    refine JL.s (e_store (i := 3) (c' := [.slice (some ⟨b3, 0, none⟩) p.pits.length p.pits.length, .slice (some ⟨b55, 0, none⟩) p.stores.length c6, .int .i64 p.player]) ty_33 rfl rfl rfl rfl rfl rfl rfl rfl) ?_
    rintro _ _ _ ⟨rfl, rfl⟩ _
    refine JL.nil ?_
    refine Js.ret (R := RO w (Ty.agg (cPosition (M.give p player)))) @Try.results111 (fun _ _ => rfl) (ResOk.cell (res_box (i := 3) ty_33 rfl rfl rfl rfl rfl) ResOk.nil) (fun w1 hw => ?_)
    have hx := hw.ext (x28)
    exact ret_own (ps := [(2, (Value.ownBlock (.slice (some ⟨b3, 0, none⟩) p.pits.length p.pits.length)).toList), (1, (Value.ownBlock (.slice (some ⟨b55, 0, none⟩) p.stores.length c6)).toList)]) hw hx ⟨_, rfl, ⟨_, _, rfl, (ints_row (xs := (List.replicate p.pits.length 0)) (hw.pr (i := 2) rfl) (show List.replicate p.pits.length 0 = (M.give p player).pits by first | rfl | (rw [r3]; rfl))), ⟨_, _, rfl, (ints_row (xs := (M.setI p.stores player ((M.getI p.stores player) + (M.sum4 p.pits)))) (hw.pr (i := 1) rfl) (show M.setI p.stores player ((M.getI p.stores player) + (M.sum4 p.pits)) = (M.give p player).stores by first | rfl | (rw [r3]; rfl))), ⟨_, _, rfl, ⟨by first | rfl | (rw [r3]; rfl), rfl⟩, rfl⟩⟩⟩⟩ (Pick.cons (j := 2) rfl (List.sublist_append_left _ _) rfl (Pick.cons (j := 1) rfl (List.sublist_append_left _ _) rfl Pick.nil)) (by simp [List.flatten, outV])

set_option maxRecDepth 100000 in
set_option maxHeartbeats 400000 in
theorem c_spec_l09End (g : M.Gam) (v_g : Value) (w : World) (h_g : (Ty.ref (cGame g)).ok w v_g) (r0 : g.start.pits.length ≤ 4194304) (r1 : g.start.stores.length ≤ 4194304) (r2 : g.moves.length ≤ 4194304) (r3 : g.now.pits.length ≤ 4194304) (r4 : g.now.stores.length ≤ 4194304) (r5 : M.okG g = true) : RetV Try.prog 83 [v_g] w (.int .i64 (M.endOf g)) := by
  have hok := r5
  obtain ⟨k1, k2, k3, k4, k5, k6, k7, k8, k9⟩ := M.okG_parts hok
  have hnow := M.okG_now hok
  have k10 := M.okP_len hnow
  have k11 := M.okP_len k1
  (have k12 : (M.playedP g).length = g.moves.length + 1 := by rw [k6, M.hist_length, k8])
  have k13 : (M.playedR g).length = g.moves.length := by rw [k7, k8]
  have hC := M.okC_yes hok
  obtain ⟨g1, g2, g3, g4, g5, g6, g7⟩ := M.okP_bd hnow
  obtain ⟨s1, s2⟩ := M.sum4_V hnow
  obtain ⟨b1, o1, A1_9, c1_9, A1_10, c1_10, A1_12, c1_12, A1_13, c1_13, A1_14, c1_14, rfl, hr1, h1_9, h1_10, h1_12, h1_13, h1_14, bl1_9, bh1_9, bl1_10, bh1_10, bl1_12, bh1_12, bl1_13, bh1_13, bl1_14, bh1_14⟩ := ref_Game h_g
  refine enter @Try.func83 @Try.ntmps83 rfl rfl ?_
  refine Js.seq ?_
  refine Js.region ?_
  refine JL.q (OpP.q (p_assign rfl)) ?_
  refine JL.nil ?_
  refine Js.seq ?_
  refine Js.block ?_
  refine Js.seq ?_
  refine Js.region ?_
  refine JL.q (OpP.q (p_move rfl)) ?_
  refine JL.q (OpP.q (p_nilCheck rfl)) ?_
  refine JL.q (OpP.q (p_fieldAddr fld_35_4 rfl)) ?_
  refine JL.q (q_load1 ty_2 rfl (Mem.pub (hr1 16 _ rfl))) ?_
  refine JL.q (OpP.q (p_geq rfl rfl)) ?_
  refine JL.q (OpP.q (p_assign rfl)) ?_
  refine JL.nil ?_
  refine Js.cond rfl (fun h2 => ?_) (fun h2 => ?_)
  ·
    have h2' := h2
    try simp only [decide_eq_true_eq] at h2'
    have hE := M.endOf_1 (g := g) (by simpa using h2)
    refine Js.seq ?_
    refine Js.region ?_
    refine JL.q (OpP.q (p_assign rfl)) ?_
    refine JL.nil ?_
    refine Js.ret (R := RV w (.int .i64 (M.endOf g))) @Try.results83 (fun _ _ => rfl) (ResOk.tmp rfl ResOk.nil) (fun w1 hw => ?_)
    refine ⟨?_, hw.ext (Up.refl _ _)⟩
    rw [hE]; rfl
  ·
    have h2' := h2
    try simp only [decide_eq_false_iff_not, Int.not_le] at h2'
    have q1 : ¬ 0 ≤ g.resigned := by simpa using h2
    refine Js.seq ?_
    refine Js.region ?_
    refine JL.q (OpP.q (p_move rfl)) ?_
    refine JL.q (OpP.q (p_nilCheck rfl)) ?_
    refine JL.q (OpP.q (p_fieldAddr fld_35_3 rfl)) ?_
    refine JL.e (e_callV fn_107 rfl (fun w hw => c_spec_l09Majority g.now _ w ⟨_, _, [.slice A1_13 g.now.pits.length c1_13, .slice A1_14 g.now.stores.length c1_14, .int .i64 g.now.player], rfl, ⟨(Ty.mono _ h1_13 hw.vis), (Ty.mono _ h1_14 hw.vis), rfl, trivial⟩, ((hr1.vis hw.vis).sub 13 3)⟩ (by omega) (by omega) s1 s2 (fun k => M.allOk_getI g6 k))) ?_
    rintro _ _ _ ⟨rfl, rfl, rfl⟩ _
    refine JL.q (OpP.q (p_geq rfl rfl)) ?_
    refine JL.q (OpP.q (p_assign rfl)) ?_
    refine JL.nil ?_
    refine Js.cond rfl (fun h3 => ?_) (fun h3 => ?_)
    ·
      have h3' := h3
      try simp only [decide_eq_true_eq] at h3'
      have hE := M.endOf_2 q1 (by simpa using h3)
      refine Js.seq ?_
      refine Js.region ?_
      refine JL.q (OpP.q (p_assign rfl)) ?_
      refine JL.nil ?_
      refine Js.ret (R := RV w (.int .i64 (M.endOf g))) @Try.results83 (fun _ _ => rfl) (ResOk.tmp rfl ResOk.nil) (fun w1 hw => ?_)
      refine ⟨?_, hw.ext (Up.refl _ _)⟩
      rw [hE]; rfl
    ·
      have h3' := h3
      try simp only [decide_eq_false_iff_not, Int.not_le] at h3'
      have q2 : ¬ 0 ≤ M.majority g.now := by simpa using h3
      refine Js.seq ?_
      refine Js.drawn _ [] mixed_ (fun _ h => h) ?_
      refine JH.p 0 rfl (p_move rfl) ?_
      refine JH.p 1 rfl (p_nilCheck rfl) ?_
      refine JH.p 2 rfl (p_fieldAddr fld_35_0 rfl) ?_
      refine JH.q 3 rfl (q_loadN ty_32 rfl (Mem.pubR (hr1.sub 0 9)) rfl rfl) ?_
      refine JH.p 4 rfl (p_move rfl) ?_
      refine JH.p 5 rfl (p_nilCheck rfl) ?_
      refine JH.p 6 rfl (p_fieldAddr fld_35_3 rfl) ?_
      refine JH.q 7 rfl (q_loadN ty_33 rfl (Mem.pubR (hr1.sub 13 3)) rfl rfl) ?_
      refine JH.one (i := 8) (by kernel_rfl) ?_
      refine JHo.e rfl (e_callV fn_108 rfl (fun w hw => c_spec_CanMove g.rules _ g.now _ w ⟨_, rfl, ⟨rfl, rfl, rfl, rfl, rfl, rfl, rfl, rfl, rfl, trivial⟩⟩ ⟨_, rfl, ⟨(Ty.mono _ h1_13 hw.vis), (Ty.mono _ h1_14 hw.vis), rfl, trivial⟩⟩ (by omega) (by omega) hnow)) (.inl rfl) ?_
      rintro _ _ _ ⟨rfl, rfl, rfl⟩ _
      refine JH.p 9 rfl (p_not rfl) ?_
      refine JH.p 10 rfl (p_assign rfl) ?_
      refine JH.done (by kernel_rfl) ?_
      refine Js.cond rfl (fun h4 => ?_) (fun h4 => ?_)
      ·
        have h4' := h4
        try simp only [Bool.not_eq_true', Bool.and_eq_false_iff, decide_eq_false_iff_not, Int.not_lt] at h4'
        have hE := M.endOf_3 q1 q2 (by have h9 := h4; simp only [hnow, Bool.true_and, Bool.not_eq_true', decide_eq_false_iff_not] at h9; omega)
        refine Js.seq ?_
        refine Js.region ?_
        refine JL.q (OpP.q (p_assign rfl)) ?_
        refine JL.nil ?_
        refine Js.ret (R := RV w (.int .i64 (M.endOf g))) @Try.results83 (fun _ _ => rfl) (ResOk.tmp rfl ResOk.nil) (fun w1 hw => ?_)
        refine ⟨?_, hw.ext (Up.refl _ _)⟩
        rw [hE]; rfl
      ·
        have h4' := h4
        try simp only [Bool.not_eq_false', Bool.and_eq_true, decide_eq_true_eq] at h4'
        have q3 : (M.results g.rules g.now).length ≠ 0 := by have h9 := h4; simp only [hnow, Bool.true_and, Bool.not_eq_false', decide_eq_true_eq] at h9; omega
        refine Js.seq ?_
        refine Js.region ?_
        refine JL.q (OpP.q (p_move rfl)) ?_
        refine JL.e (e_callV fn_69 rfl (fun w hw => c_spec_l08Repeats g _ w ⟨_, _, [.int .i64 g.rules.pits, .int .i64 g.rules.seeds, .bool g.rules.stores, .bool g.rules.skip, .bool g.rules.relay, .bool g.rules.feed, .bool g.rules.again, .int .i64 g.rules.capture, .int .i64 g.rules.slam, .slice A1_9 g.start.pits.length c1_9, .slice A1_10 g.start.stores.length c1_10, .int .i64 g.start.player, .slice A1_12 g.moves.length c1_12, .slice A1_13 g.now.pits.length c1_13, .slice A1_14 g.now.stores.length c1_14, .int .i64 g.now.player, .int .i64 g.resigned], rfl, ⟨rfl, rfl, rfl, rfl, rfl, rfl, rfl, rfl, rfl, (Ty.mono _ h1_9 hw.vis), (Ty.mono _ h1_10 hw.vis), rfl, (Ty.mono _ h1_12 hw.vis), (Ty.mono _ h1_13 hw.vis), (Ty.mono _ h1_14 hw.vis), rfl, rfl, trivial⟩, (hr1.vis hw.vis)⟩ (by omega) (by omega) (by omega) (by omega) (by omega) hok)) ?_
        rintro _ _ _ ⟨rfl, rfl, rfl⟩ _
        refine JL.q (OpP.q (p_geq rfl rfl)) ?_
        refine JL.q (OpP.q (p_assign rfl)) ?_
        refine JL.nil ?_
        refine Js.cond rfl (fun h5 => ?_) (fun h5 => ?_)
        ·
          have h5' := h5
          try simp only [decide_eq_true_eq] at h5'
          have hE := M.endOf_4 q1 q2 q3 (by rw [k6]; simpa using h5)
          refine Js.seq ?_
          refine Js.region ?_
          refine JL.q (OpP.q (p_assign rfl)) ?_
          refine JL.nil ?_
          refine Js.ret (R := RV w (.int .i64 (M.endOf g))) @Try.results83 (fun _ _ => rfl) (ResOk.tmp rfl ResOk.nil) (fun w1 hw => ?_)
          refine ⟨?_, hw.ext (Up.refl _ _)⟩
          rw [hE]; rfl
        ·
          have h5' := h5
          try simp only [decide_eq_false_iff_not, Int.not_le] at h5'
          have q4 : ¬ 3 ≤ M.count g.now (M.playedP g) := by rw [k6]; simpa using h5
          refine Js.seq ?_
          refine Js.region ?_
          refine JL.q (OpP.q (p_move rfl)) ?_
          refine JL.q (OpP.q (p_nilCheck rfl)) ?_
          refine JL.q (OpP.q (p_fieldAddr fld_35_2 rfl)) ?_
          refine JL.q (q_load1 ty_24 rfl (Mem.pub (hr1 12 _ rfl))) ?_
          refine JL.q (OpP.q (p_len el_24 rfl)) ?_
          refine JL.q (OpP.q (p_geq rfl rfl)) ?_
          refine JL.q (OpP.q (p_assign rfl)) ?_
          refine JL.nil ?_
          refine Js.cond rfl (fun h6 => ?_) (fun h6 => ?_)
          ·
            have h6' := h6
            try simp only [decide_eq_true_eq] at h6'
            have hE := M.endOf_5 q1 q2 q3 q4 (by have := h6'; omega)
            refine Js.seq ?_
            refine Js.region ?_
            refine JL.q (OpP.q (p_assign rfl)) ?_
            refine JL.nil ?_
            refine Js.ret (R := RV w (.int .i64 (M.endOf g))) @Try.results83 (fun _ _ => rfl) (ResOk.tmp rfl ResOk.nil) (fun w1 hw => ?_)
            refine ⟨?_, hw.ext (Up.refl _ _)⟩
            rw [hE]; rfl
          ·
            have h6' := h6
            try simp only [decide_eq_false_iff_not, Int.not_le] at h6'
            have hE := M.endOf_0 q1 q2 q3 q4 (by have := h6'; omega)
            refine Js.skip ?_
            refine Js.blockEnd ?_
            refine Js.seq ?_
            refine Js.region ?_
            refine JL.q (OpP.q (p_assign rfl)) ?_
            refine JL.nil ?_
            refine Js.ret (R := RV w (.int .i64 (M.endOf g))) @Try.results83 (fun _ _ => rfl) (ResOk.tmp rfl ResOk.nil) (fun w1 hw => ?_)
            refine ⟨?_, hw.ext (Up.refl _ _)⟩
            rw [hE]; rfl

set_option maxRecDepth 100000 in
set_option maxHeartbeats 400000 in
theorem c_spec_EndOf (g : M.Gam) (v_g : Value) (w : World) (h_g : (Ty.agg (cGame g)).ok w v_g) (r0 : g.start.pits.length ≤ 4194304) (r1 : g.start.stores.length ≤ 4194304) (r2 : g.moves.length ≤ 4194304) (r3 : g.now.pits.length ≤ 4194304) (r4 : g.now.stores.length ≤ 4194304) : RetV Try.prog 40 [v_g] w (.tuple #[.int .i64 (M.endOfR g), .int .i64 (M.okC g)]) := by
  obtain ⟨A1_9, c1_9, A1_10, c1_10, A1_12, c1_12, A1_13, c1_13, A1_14, c1_14, rfl, h1_9, h1_10, h1_12, h1_13, h1_14, bl1_9, bh1_9, bl1_10, bh1_10, bl1_12, bh1_12, bl1_13, bh1_13, bl1_14, bh1_14⟩ := open_Game h_g
  refine enter @Try.func40 @Try.ntmps40 rfl rfl ?_
  refine Js.seq ?_
  refine Js.region ?_
  refine JL.e (e_box (c := [.int .i64 g.rules.pits, .int .i64 g.rules.seeds, .bool g.rules.stores, .bool g.rules.skip, .bool g.rules.relay, .bool g.rules.feed, .bool g.rules.again, .int .i64 g.rules.capture, .int .i64 g.rules.slam, .slice A1_9 g.start.pits.length c1_9, .slice A1_10 g.start.stores.length c1_10, .int .i64 g.start.player, .slice A1_12 g.moves.length c1_12, .slice A1_13 g.now.pits.length c1_13, .slice A1_14 g.now.stores.length c1_14, .int .i64 g.now.player, .int .i64 g.resigned]) rfl rfl) ?_
  rintro _ _ _ ⟨b2, rfl, rfl, rfl⟩ _
  refine JL.q (OpP.q (p_assign rfl)) ?_
  refine JL.q (OpP.q (p_assign rfl)) ?_
  refine JL.nil ?_
  refine Js.seq ?_
  refine Js.seq ?_
  refine Js.region ?_
  refine JL.e (e_callV fn_68 rfl (fun w hw => c_spec_l08Ok g _ w ⟨_, _, [.int .i64 g.rules.pits, .int .i64 g.rules.seeds, .bool g.rules.stores, .bool g.rules.skip, .bool g.rules.relay, .bool g.rules.feed, .bool g.rules.again, .int .i64 g.rules.capture, .int .i64 g.rules.slam, .slice A1_9 g.start.pits.length c1_9, .slice A1_10 g.start.stores.length c1_10, .int .i64 g.start.player, .slice A1_12 g.moves.length c1_12, .slice A1_13 g.now.pits.length c1_13, .slice A1_14 g.now.stores.length c1_14, .int .i64 g.now.player, .int .i64 g.resigned], rfl, ⟨rfl, rfl, rfl, rfl, rfl, rfl, rfl, rfl, rfl, (Ty.mono _ h1_9 hw.vis), (Ty.mono _ h1_10 hw.vis), rfl, (Ty.mono _ h1_12 hw.vis), (Ty.mono _ h1_13 hw.vis), (Ty.mono _ h1_14 hw.vis), rfl, rfl, trivial⟩, Mem.boxR (i := 0) rfl 0 17 w hw⟩ (by omega) (by omega) (by omega) (by omega) (by omega))) ?_
  rintro _ _ _ ⟨rfl, rfl, rfl⟩ _
  refine JL.q (OpP.q (p_not rfl)) ?_
  refine JL.nil ?_
  refine Js.cond rfl (fun h3 => ?_) (fun h3 => ?_)
  ·
    have h3' := h3
    try simp only [Bool.not_eq_true'] at h3'
    have hno : M.okG g = false := by simpa using h3
    have hC := M.okC_no hno
    have hE := M.endOfR_no hno
    refine Js.seq ?_
    refine Js.region ?_
    refine JL.q (OpP.q (p_assign rfl)) ?_
    refine JL.q (OpP.q (p_assign rfl)) ?_
    refine JL.nil ?_
    refine Js.ret (R := RV w (.tuple #[.int .i64 (M.endOfR g), .int .i64 (M.okC g)])) @Try.results40 (fun _ _ => rfl) (ResOk.tmp rfl (ResOk.tmp rfl ResOk.nil)) (fun w1 hw => ?_)
    refine ⟨?_, hw.ext (Up.refl _ _)⟩
    rw [hC, hE]; rfl
  ·
    have h3' := h3
    try simp only [Bool.not_eq_false'] at h3'
    have hok : M.okG g = true := by simpa using h3
    obtain ⟨k1, k2, k3, k4, k5, k6, k7, k8, k9⟩ := M.okG_parts hok
    have hnow := M.okG_now hok
    have k10 := M.okP_len hnow
    have k11 := M.okP_len k1
    (have k12 : (M.playedP g).length = g.moves.length + 1 := by rw [k6, M.hist_length, k8])
    have k13 : (M.playedR g).length = g.moves.length := by rw [k7, k8]
    have hC := M.okC_yes hok
    obtain ⟨g1, g2, g3, g4, g5, g6, g7⟩ := M.okP_bd hnow
    have hE := M.endOfR_yes hok
    refine Js.skip ?_
    refine Js.seq ?_
    refine Js.region ?_
    refine JL.e (e_callV fn_83 rfl (fun w hw => c_spec_l09End g _ w ⟨_, _, [.int .i64 g.rules.pits, .int .i64 g.rules.seeds, .bool g.rules.stores, .bool g.rules.skip, .bool g.rules.relay, .bool g.rules.feed, .bool g.rules.again, .int .i64 g.rules.capture, .int .i64 g.rules.slam, .slice A1_9 g.start.pits.length c1_9, .slice A1_10 g.start.stores.length c1_10, .int .i64 g.start.player, .slice A1_12 g.moves.length c1_12, .slice A1_13 g.now.pits.length c1_13, .slice A1_14 g.now.stores.length c1_14, .int .i64 g.now.player, .int .i64 g.resigned], rfl, ⟨rfl, rfl, rfl, rfl, rfl, rfl, rfl, rfl, rfl, (Ty.mono _ h1_9 hw.vis), (Ty.mono _ h1_10 hw.vis), rfl, (Ty.mono _ h1_12 hw.vis), (Ty.mono _ h1_13 hw.vis), (Ty.mono _ h1_14 hw.vis), rfl, rfl, trivial⟩, Mem.boxR (i := 0) rfl 0 17 w hw⟩ (by omega) (by omega) (by omega) (by omega) (by omega) hok)) ?_
    rintro _ _ _ ⟨rfl, rfl, rfl⟩ _
    refine JL.q (OpP.q (p_assign rfl)) ?_
    refine JL.q (OpP.q (p_assign rfl)) ?_
    refine JL.nil ?_
    refine Js.ret (R := RV w (.tuple #[.int .i64 (M.endOfR g), .int .i64 (M.okC g)])) @Try.results40 (fun _ _ => rfl) (ResOk.tmp rfl (ResOk.tmp rfl ResOk.nil)) (fun w1 hw => ?_)
    refine ⟨?_, hw.ext (Up.refl _ _)⟩
    rw [hC, hE]; rfl

set_option maxRecDepth 100000 in
set_option maxHeartbeats 400000 in
theorem c_spec_l09Final (g : M.Gam) (v_g : Value) (w : World) (h_g : (Ty.ref (cGame g)).ok w v_g) (r0 : M.okP g.rules g.now = true) (r1 : -1 ≤ g.resigned) (r2 : g.resigned ≤ 1) : Ret Try.prog 88 [v_g] w (Ty.agg (cPosition (M.final g))) := by
  obtain ⟨g1, g2, g3, g4, g5, g6, g7⟩ := M.okP_bd r0
  obtain ⟨s1, s2⟩ := M.sum4_V r0
  obtain ⟨b1, o1, A1_9, c1_9, A1_10, c1_10, A1_12, c1_12, A1_13, c1_13, A1_14, c1_14, rfl, hr1, h1_9, h1_10, h1_12, h1_13, h1_14, bl1_9, bh1_9, bl1_10, bh1_10, bl1_12, bh1_12, bl1_13, bh1_13, bl1_14, bh1_14⟩ := ref_Game h_g
  refine enter @Try.func88 @Try.ntmps88 rfl rfl ?_
  refine Js.seq ?_
  refine Js.region ?_
  refine JL.e (e_alloc zero_33) ?_
  rintro _ _ _ ⟨b2, rfl, rfl, rfl⟩ _
  refine JL.nil ?_
  refine Js.seq ?_
  refine Js.seq ?_
  refine Js.region ?_
  refine JL.q (OpP.q (p_move rfl)) ?_
  refine JL.q (OpP.q (p_nilCheck rfl)) ?_
  refine JL.q (OpP.q (p_fieldAddr fld_35_4 rfl)) ?_
  refine JL.q (q_load1 ty_2 rfl (Mem.pub (hr1 16 _ rfl))) ?_
  refine JL.q (OpP.q (p_geq rfl rfl)) ?_
  refine JL.nil ?_
  refine Js.cond rfl (fun h3 => ?_) (fun h3 => ?_)
  ·
    have h3' := h3
    try simp only [decide_eq_true_eq] at h3'
    have hF := M.final_yes (g := g) (by simpa using h3)
    refine Js.seq ?_
    refine Js.drawn _ [9] mixed_ (fun _ h => h) ?_
    refine JH.p 0 rfl (p_move rfl) ?_
    refine JH.p 1 rfl (p_nilCheck rfl) ?_
    refine JH.p 2 rfl (p_fieldAddr fld_35_3 rfl) ?_
    refine JH.p 3 rfl (p_move rfl) ?_
    refine JH.p 4 rfl (p_nilCheck rfl) ?_
    refine JH.p 5 rfl (p_fieldAddr fld_35_4 rfl) ?_
    refine JH.q 6 rfl (q_load1 ty_2 rfl (Mem.pub (hr1 16 _ rfl))) ?_
    refine JH.p 7 rfl (p_sub rfl rfl (IntWalk.i64_in _ (by omega))) ?_
    refine JH.one (i := 8) (by kernel_rfl) ?_
    refine JHo.e rfl (e_callO fn_111 rfl (Spl_Position _) (fun w hw => c_spec_l09Give g.now _ (1 - g.resigned) w ⟨_, _, [.slice A1_13 g.now.pits.length c1_13, .slice A1_14 g.now.stores.length c1_14, .int .i64 g.now.player], rfl, ⟨(Ty.mono _ h1_13 hw.vis), (Ty.mono _ h1_14 hw.vis), rfl, trivial⟩, ((hr1.vis hw.vis).sub 13 3)⟩ (by omega) (by omega) (by omega) s1 g6)) (.inl rfl) ?_
    rintro v4 _ _ ⟨_, hR5, rfl, rfl⟩ _
    obtain ⟨A6_0, c6_0, A6_1, c6_1, f6, rfl, rfl, bl6_0, bh6_0, bl6_1, bh6_1⟩ := hR5
    refine JH.one (i := 9) (by kernel_rfl) ?_
    refine JHo.s rfl (e_store (i := 1) (c' := [.slice A6_0 (((M.give g.now (1 - g.resigned)).pits).length) c6_0, .slice A6_1 (((M.give g.now (1 - g.resigned)).stores).length) c6_1, .int .i64 ((M.give g.now (1 - g.resigned)).player)]) ty_33 rfl rfl rfl rfl rfl rfl rfl rfl) (.inr rfl) ?_
    rintro _ _ _ ⟨rfl, rfl⟩ _
    refine JH.done (by kernel_rfl) ?_
    refine Js.ret (R := RO w (Ty.agg (cPosition (M.final g)))) @Try.results88 (fun _ _ => rfl) (ResOk.cell (res_box (i := 1) ty_33 rfl rfl rfl rfl rfl) ResOk.nil) (fun w1 hw => ?_)
    have hx := hw.ext (Up.refl _ _)
    exact ret_own (ps := [(0, f6)]) hw hx (own_cast cPosition (show M.give g.now (1 - g.resigned) = M.final g by rw [hF]) ⟨_, rfl, hw.pr (i := 0) rfl⟩) (Pick.cons (j := 0) rfl (List.Sublist.refl _) rfl Pick.nil) (by simp [List.flatten, outV])
  ·
    have h3' := h3
    try simp only [decide_eq_false_iff_not, Int.not_le] at h3'
    have hF := M.final_no (g := g) (by simpa using h3)
    refine Js.skip ?_
    refine Js.seq ?_
    refine Js.drawn _ [7] mixed_ (fun _ h => h) ?_
    refine JH.p 0 rfl (p_move rfl) ?_
    refine JH.p 1 rfl (p_nilCheck rfl) ?_
    refine JH.p 2 rfl (p_fieldAddr fld_35_0 rfl) ?_
    refine JH.p 3 rfl (p_move rfl) ?_
    refine JH.p 4 rfl (p_nilCheck rfl) ?_
    refine JH.p 5 rfl (p_fieldAddr fld_35_3 rfl) ?_
    refine JH.one (i := 6) (by kernel_rfl) ?_
    refine JHo.e rfl (e_callO fn_112 rfl (Spl_Position _) (fun w hw => c_spec_l09Settle g.rules _ g.now _ w ⟨_, _, [.int .i64 g.rules.pits, .int .i64 g.rules.seeds, .bool g.rules.stores, .bool g.rules.skip, .bool g.rules.relay, .bool g.rules.feed, .bool g.rules.again, .int .i64 g.rules.capture, .int .i64 g.rules.slam], rfl, ⟨rfl, rfl, rfl, rfl, rfl, rfl, rfl, rfl, rfl, trivial⟩, ((hr1.vis hw.vis).sub 0 9)⟩ ⟨_, _, [.slice A1_13 g.now.pits.length c1_13, .slice A1_14 g.now.stores.length c1_14, .int .i64 g.now.player], rfl, ⟨(Ty.mono _ h1_13 hw.vis), (Ty.mono _ h1_14 hw.vis), rfl, trivial⟩, ((hr1.vis hw.vis).sub 13 3)⟩ r0)) (.inl rfl) ?_
    rintro v7 _ _ ⟨_, hR8, rfl, rfl⟩ _
    obtain ⟨A9_0, c9_0, A9_1, c9_1, f9, rfl, rfl, bl9_0, bh9_0, bl9_1, bh9_1⟩ := hR8
    refine JH.one (i := 7) (by kernel_rfl) ?_
    refine JHo.s rfl (e_store (i := 1) (c' := [.slice A9_0 (((M.settle g.rules g.now).pits).length) c9_0, .slice A9_1 (((M.settle g.rules g.now).stores).length) c9_1, .int .i64 ((M.settle g.rules g.now).player)]) ty_33 rfl rfl rfl rfl rfl rfl rfl rfl) (.inr rfl) ?_
    rintro _ _ _ ⟨rfl, rfl⟩ _
    refine JH.done (by kernel_rfl) ?_
    refine Js.ret (R := RO w (Ty.agg (cPosition (M.final g)))) @Try.results88 (fun _ _ => rfl) (ResOk.cell (res_box (i := 1) ty_33 rfl rfl rfl rfl rfl) ResOk.nil) (fun w1 hw => ?_)
    have hx := hw.ext (Up.refl _ _)
    exact ret_own (ps := [(0, f9)]) hw hx (own_cast cPosition (show M.settle g.rules g.now = M.final g by rw [hF]) ⟨_, rfl, hw.pr (i := 0) rfl⟩) (Pick.cons (j := 0) rfl (List.Sublist.refl _) rfl Pick.nil) (by simp [List.flatten, outV])

set_option maxRecDepth 100000 in
set_option maxHeartbeats 400000 in
theorem c_spec_l09Code (g : M.Gam) (v_g : Value) (w : World) (h_g : (Ty.ref (cGame g)).ok w v_g) (r0 : g.start.pits.length ≤ 4194304) (r1 : g.start.stores.length ≤ 4194304) (r2 : g.moves.length ≤ 4194304) (r3 : g.now.pits.length ≤ 4194304) (r4 : g.now.stores.length ≤ 4194304) : RetV Try.prog 87 [v_g] w (.int .i64 (M.endC g)) := by
  obtain ⟨b1, o1, A1_9, c1_9, A1_10, c1_10, A1_12, c1_12, A1_13, c1_13, A1_14, c1_14, rfl, hr1, h1_9, h1_10, h1_12, h1_13, h1_14, bl1_9, bh1_9, bl1_10, bh1_10, bl1_12, bh1_12, bl1_13, bh1_13, bl1_14, bh1_14⟩ := ref_Game h_g
  refine enter @Try.func87 @Try.ntmps87 rfl rfl ?_
  refine Js.seq ?_
  refine Js.region ?_
  refine JL.q (OpP.q (p_assign rfl)) ?_
  refine JL.nil ?_
  refine Js.seq ?_
  refine Js.seq ?_
  refine Js.region ?_
  refine JL.q (OpP.q (p_move rfl)) ?_
  refine JL.e (e_callV fn_68 rfl (fun w hw => c_spec_l08Ok g _ w ⟨_, _, [.int .i64 g.rules.pits, .int .i64 g.rules.seeds, .bool g.rules.stores, .bool g.rules.skip, .bool g.rules.relay, .bool g.rules.feed, .bool g.rules.again, .int .i64 g.rules.capture, .int .i64 g.rules.slam, .slice A1_9 g.start.pits.length c1_9, .slice A1_10 g.start.stores.length c1_10, .int .i64 g.start.player, .slice A1_12 g.moves.length c1_12, .slice A1_13 g.now.pits.length c1_13, .slice A1_14 g.now.stores.length c1_14, .int .i64 g.now.player, .int .i64 g.resigned], rfl, ⟨rfl, rfl, rfl, rfl, rfl, rfl, rfl, rfl, rfl, (Ty.mono _ h1_9 hw.vis), (Ty.mono _ h1_10 hw.vis), rfl, (Ty.mono _ h1_12 hw.vis), (Ty.mono _ h1_13 hw.vis), (Ty.mono _ h1_14 hw.vis), rfl, rfl, trivial⟩, (hr1.vis hw.vis)⟩ (by omega) (by omega) (by omega) (by omega) (by omega))) ?_
  rintro _ _ _ ⟨rfl, rfl, rfl⟩ _
  refine JL.q (OpP.q (p_not rfl)) ?_
  refine JL.nil ?_
  refine Js.cond rfl (fun h2 => ?_) (fun h2 => ?_)
  ·
    have h2' := h2
    try simp only [Bool.not_eq_true'] at h2'
    have hno : M.okG g = false := by simpa using h2
    have hC := M.okC_no hno
    have hE := M.endC_no hno
    refine Js.seq ?_
    refine Js.region ?_
    refine JL.q (OpP.q (p_assign rfl)) ?_
    refine JL.nil ?_
    refine Js.ret (R := RV w (.int .i64 (M.endC g))) @Try.results87 (fun _ _ => rfl) (ResOk.tmp rfl ResOk.nil) (fun w1 hw => ?_)
    refine ⟨?_, hw.ext (Up.refl _ _)⟩
    rw [hE]; rfl
  ·
    have h2' := h2
    try simp only [Bool.not_eq_false'] at h2'
    have hok : M.okG g = true := by simpa using h2
    obtain ⟨k1, k2, k3, k4, k5, k6, k7, k8, k9⟩ := M.okG_parts hok
    have hnow := M.okG_now hok
    have k10 := M.okP_len hnow
    have k11 := M.okP_len k1
    (have k12 : (M.playedP g).length = g.moves.length + 1 := by rw [k6, M.hist_length, k8])
    have k13 : (M.playedR g).length = g.moves.length := by rw [k7, k8]
    have hC := M.okC_yes hok
    obtain ⟨g1, g2, g3, g4, g5, g6, g7⟩ := M.okP_bd hnow
    refine Js.skip ?_
    refine Js.seq ?_
    refine Js.seq ?_
    refine Js.region ?_
    refine JL.q (OpP.q (p_move rfl)) ?_
    refine JL.e (e_callV fn_83 rfl (fun w hw => c_spec_l09End g _ w ⟨_, _, [.int .i64 g.rules.pits, .int .i64 g.rules.seeds, .bool g.rules.stores, .bool g.rules.skip, .bool g.rules.relay, .bool g.rules.feed, .bool g.rules.again, .int .i64 g.rules.capture, .int .i64 g.rules.slam, .slice A1_9 g.start.pits.length c1_9, .slice A1_10 g.start.stores.length c1_10, .int .i64 g.start.player, .slice A1_12 g.moves.length c1_12, .slice A1_13 g.now.pits.length c1_13, .slice A1_14 g.now.stores.length c1_14, .int .i64 g.now.player, .int .i64 g.resigned], rfl, ⟨rfl, rfl, rfl, rfl, rfl, rfl, rfl, rfl, rfl, (Ty.mono _ h1_9 hw.vis), (Ty.mono _ h1_10 hw.vis), rfl, (Ty.mono _ h1_12 hw.vis), (Ty.mono _ h1_13 hw.vis), (Ty.mono _ h1_14 hw.vis), rfl, rfl, trivial⟩, (hr1.vis hw.vis)⟩ (by omega) (by omega) (by omega) (by omega) (by omega) hok)) ?_
    rintro _ _ _ ⟨rfl, rfl, rfl⟩ _
    refine JL.q (OpP.q (p_eql rfl rfl)) ?_
    refine JL.nil ?_
    refine Js.cond rfl (fun h3 => ?_) (fun h3 => ?_)
    ·
      have h3' := h3
      try simp only [decide_eq_true_eq] at h3'
      have hE := M.endC_6 hok (by simpa using h3)
      refine Js.seq ?_
      refine Js.region ?_
      refine JL.q (OpP.q (p_assign rfl)) ?_
      refine JL.nil ?_
      refine Js.ret (R := RV w (.int .i64 (M.endC g))) @Try.results87 (fun _ _ => rfl) (ResOk.tmp rfl ResOk.nil) (fun w1 hw => ?_)
      refine ⟨?_, hw.ext (Up.refl _ _)⟩
      rw [hE]; rfl
    ·
      have h3' := h3
      try simp only [decide_eq_false_iff_not] at h3'
      have hE := M.endC_0 hok (by simpa using h3)
      refine Js.skip ?_
      refine Js.seq ?_
      refine Js.region ?_
      refine JL.q (OpP.q (p_assign rfl)) ?_
      refine JL.nil ?_
      refine Js.ret (R := RV w (.int .i64 (M.endC g))) @Try.results87 (fun _ _ => rfl) (ResOk.tmp rfl ResOk.nil) (fun w1 hw => ?_)
      refine ⟨?_, hw.ext (Up.refl _ _)⟩
      rw [hE]; rfl

set_option maxRecDepth 100000 in
set_option maxHeartbeats 400000 in
theorem c_spec_FinalPosition (g : M.Gam) (v_g : Value) (w : World) (h_g : (Ty.agg (cGame g)).ok w v_g) (r0 : g.start.pits.length ≤ 4194304) (r1 : g.start.stores.length ≤ 4194304) (r2 : g.moves.length ≤ 4194304) (r3 : g.now.pits.length ≤ 4194304) (r4 : g.now.stores.length ≤ 4194304) : Ret Try.prog 51 [v_g] w (Ty.tup [Ty.agg (cPosition (M.finalR g)), Ty.int (M.endC g)]) := by
  obtain ⟨A1_9, c1_9, A1_10, c1_10, A1_12, c1_12, A1_13, c1_13, A1_14, c1_14, rfl, h1_9, h1_10, h1_12, h1_13, h1_14, bl1_9, bh1_9, bl1_10, bh1_10, bl1_12, bh1_12, bl1_13, bh1_13, bl1_14, bh1_14⟩ := open_Game h_g
  refine enter @Try.func51 @Try.ntmps51 rfl rfl ?_
  refine Js.seq ?_
  refine Js.region ?_
  refine JL.e (e_box (c := [.int .i64 g.rules.pits, .int .i64 g.rules.seeds, .bool g.rules.stores, .bool g.rules.skip, .bool g.rules.relay, .bool g.rules.feed, .bool g.rules.again, .int .i64 g.rules.capture, .int .i64 g.rules.slam, .slice A1_9 g.start.pits.length c1_9, .slice A1_10 g.start.stores.length c1_10, .int .i64 g.start.player, .slice A1_12 g.moves.length c1_12, .slice A1_13 g.now.pits.length c1_13, .slice A1_14 g.now.stores.length c1_14, .int .i64 g.now.player, .int .i64 g.resigned]) rfl rfl) ?_
  rintro _ _ _ ⟨b2, rfl, rfl, rfl⟩ _
  refine JL.e (e_alloc zero_33) ?_
  rintro _ _ _ ⟨b3, rfl, rfl, rfl⟩ _
  refine JL.q (OpP.q (p_assign rfl)) ?_
  refine JL.nil ?_
  refine Js.seq ?_
  refine Js.region ?_
  refine JL.e (e_callV fn_87 rfl (fun w hw => c_spec_l09Code g _ w ⟨_, _, [.int .i64 g.rules.pits, .int .i64 g.rules.seeds, .bool g.rules.stores, .bool g.rules.skip, .bool g.rules.relay, .bool g.rules.feed, .bool g.rules.again, .int .i64 g.rules.capture, .int .i64 g.rules.slam, .slice A1_9 g.start.pits.length c1_9, .slice A1_10 g.start.stores.length c1_10, .int .i64 g.start.player, .slice A1_12 g.moves.length c1_12, .slice A1_13 g.now.pits.length c1_13, .slice A1_14 g.now.stores.length c1_14, .int .i64 g.now.player, .int .i64 g.resigned], rfl, ⟨rfl, rfl, rfl, rfl, rfl, rfl, rfl, rfl, rfl, (Ty.mono _ h1_9 hw.vis), (Ty.mono _ h1_10 hw.vis), rfl, (Ty.mono _ h1_12 hw.vis), (Ty.mono _ h1_13 hw.vis), (Ty.mono _ h1_14 hw.vis), rfl, rfl, trivial⟩, Mem.boxR (i := 1) rfl 0 17 w hw⟩ (by omega) (by omega) (by omega) (by omega) (by omega))) ?_
  rintro _ _ _ ⟨rfl, rfl, rfl⟩ _
  refine JL.q (OpP.q (p_assign rfl)) ?_
  refine JL.nil ?_
  refine Js.seq ?_
  refine Js.seq ?_
  refine Js.region ?_
  refine JL.q (OpP.q (p_move rfl)) ?_
  refine JL.q (OpP.q (p_neq rfl rfl)) ?_
  refine JL.nil ?_
  refine Js.cond rfl (fun h4 => ?_) (fun h4 => ?_)
  ·
    have h4' := h4
    try simp only [Bool.not_eq_true', decide_eq_false_iff_not] at h4'
    have hz : M.endC g ≠ 0 := by simpa using h4
    have hE := M.finalR_no hz
    refine Js.seq ?_
    refine Js.region ?_
    refine JL.q (OpP.q (p_build zero_33 flds_33 rfl rfl)) ?_
    refine JL.q (OpP.q (p_move rfl)) ?_
    refine JL.s (e_store (i := 0) (c' := [.slice none 0 0, .slice none 0 0, .int .i64 0]) ty_33 rfl rfl rfl rfl rfl rfl rfl rfl) ?_
    rintro _ _ _ ⟨rfl, rfl⟩ _
    refine JL.q (OpP.q (p_assign rfl)) ?_
    refine JL.nil ?_
    refine Js.ret (R := RO w (Ty.tup [Ty.agg (cPosition (M.finalR g)), Ty.int (M.endC g)])) @Try.results51 (fun _ _ => rfl) (ResOk.cell (res_box (i := 0) ty_33 rfl rfl rfl rfl rfl) (ResOk.tmp rfl ResOk.nil)) (fun w1 hw => ?_)
    have hx := hw.ext (Up.refl _ _)
    exact ret_own (ps := []) hw hx ⟨_, rfl, ⟨_, _, rfl, ⟨_, rfl, ⟨_, _, rfl, (ints_cast (show [] = (M.finalR g).pits by first | (rw [hz]; done) | (rw [hE]; done) | (rw [hE]; rfl)) nil_own), ⟨_, _, rfl, (ints_cast (show [] = (M.finalR g).stores by first | (rw [hz]; done) | (rw [hE]; done) | (rw [hE]; rfl)) nil_own), ⟨_, _, rfl, ⟨by first | (rw [hz]; done) | (rw [hE]; done) | (rw [hE]; rfl), rfl⟩, rfl⟩⟩⟩⟩, ⟨_, _, rfl, ⟨rfl, rfl⟩, rfl⟩⟩⟩ Pick.nil (by simp [List.flatten, outV])
  ·
    have h4' := h4
    try simp only [Bool.not_eq_false', decide_eq_true_eq] at h4'
    have hz : M.endC g = 0 := by simpa using h4
    have hok := M.endC_ok hz
    obtain ⟨k1, k2, k3, k4, k5, k6, k7, k8, k9⟩ := M.okG_parts hok
    have hnow := M.okG_now hok
    have k10 := M.okP_len hnow
    have k11 := M.okP_len k1
    (have k12 : (M.playedP g).length = g.moves.length + 1 := by rw [k6, M.hist_length, k8])
    have k13 : (M.playedR g).length = g.moves.length := by rw [k7, k8]
    have hC := M.okC_yes hok
    obtain ⟨g1, g2, g3, g4, g5, g6, g7⟩ := M.okP_bd hnow
    have hE := M.finalR_yes hz
    have hfs := M.final_stores g
    refine Js.skip ?_
    refine Js.seq ?_
    refine Js.region ?_
    refine JL.e (e_callO fn_88 rfl (Spl_Position _) (fun w hw => c_spec_l09Final g _ w ⟨_, _, [.int .i64 g.rules.pits, .int .i64 g.rules.seeds, .bool g.rules.stores, .bool g.rules.skip, .bool g.rules.relay, .bool g.rules.feed, .bool g.rules.again, .int .i64 g.rules.capture, .int .i64 g.rules.slam, .slice A1_9 g.start.pits.length c1_9, .slice A1_10 g.start.stores.length c1_10, .int .i64 g.start.player, .slice A1_12 g.moves.length c1_12, .slice A1_13 g.now.pits.length c1_13, .slice A1_14 g.now.stores.length c1_14, .int .i64 g.now.player, .int .i64 g.resigned], rfl, ⟨rfl, rfl, rfl, rfl, rfl, rfl, rfl, rfl, rfl, (Ty.mono _ h1_9 hw.vis), (Ty.mono _ h1_10 hw.vis), rfl, (Ty.mono _ h1_12 hw.vis), (Ty.mono _ h1_13 hw.vis), (Ty.mono _ h1_14 hw.vis), rfl, rfl, trivial⟩, Mem.boxR (i := 1) rfl 0 17 w hw⟩ hnow (by omega) (by omega))) ?_
    rintro v5 _ _ ⟨_, hR6, rfl, rfl⟩ _
    obtain ⟨A7_0, c7_0, A7_1, c7_1, f7, rfl, rfl, bl7_0, bh7_0, bl7_1, bh7_1⟩ := hR6
    refine JL.s (e_store (i := 1) (c' := [.slice A7_0 (((M.final g).pits).length) c7_0, .slice A7_1 (((M.final g).stores).length) c7_1, .int .i64 ((M.final g).player)]) ty_33 rfl rfl rfl rfl rfl rfl rfl rfl) ?_
    rintro _ _ _ ⟨rfl, rfl⟩ _
    refine JL.q (OpP.q (p_assign rfl)) ?_
    refine JL.nil ?_
    refine Js.ret (R := RO w (Ty.tup [Ty.agg (cPosition (M.finalR g)), Ty.int (M.endC g)])) @Try.results51 (fun _ _ => rfl) (ResOk.cell (res_box (i := 1) ty_33 rfl rfl rfl rfl rfl) (ResOk.tmp rfl ResOk.nil)) (fun w1 hw => ?_)
    have hx := hw.ext (Up.refl _ _)
    exact ret_own (ps := [(0, f7)]) hw hx ⟨_, rfl, ⟨_, _, rfl, (own_cast cPosition (show M.final g = M.finalR g by first | (rw [hz]; done) | (rw [hE]; done) | (rw [hE]; rfl)) ⟨_, rfl, hw.pr (i := 0) rfl⟩), ⟨_, _, rfl, ⟨by first | (rw [hz]; done) | (rw [hE]; done) | (rw [hE]; rfl), rfl⟩, rfl⟩⟩⟩ (Pick.cons (j := 0) rfl (List.Sublist.refl _) rfl Pick.nil) (by simp [List.flatten, outV])

set_option maxRecDepth 100000 in
set_option maxHeartbeats 400000 in
theorem c_spec_ScoresOf (g : M.Gam) (v_g : Value) (w : World) (h_g : (Ty.agg (cGame g)).ok w v_g) (r0 : g.start.pits.length ≤ 4194304) (r1 : g.start.stores.length ≤ 4194304) (r2 : g.moves.length ≤ 4194304) (r3 : g.now.pits.length ≤ 4194304) (r4 : g.now.stores.length ≤ 4194304) : Ret Try.prog 49 [v_g] w (Ty.tup [Ty.ints 2 (M.scoresR g), Ty.int (M.endC g)]) := by
  obtain ⟨A1_9, c1_9, A1_10, c1_10, A1_12, c1_12, A1_13, c1_13, A1_14, c1_14, rfl, h1_9, h1_10, h1_12, h1_13, h1_14, bl1_9, bh1_9, bl1_10, bh1_10, bl1_12, bh1_12, bl1_13, bh1_13, bl1_14, bh1_14⟩ := open_Game h_g
  refine enter @Try.func49 @Try.ntmps49 rfl rfl ?_
  refine Js.seq ?_
  refine Js.region ?_
  refine JL.e (e_box (c := [.int .i64 g.rules.pits, .int .i64 g.rules.seeds, .bool g.rules.stores, .bool g.rules.skip, .bool g.rules.relay, .bool g.rules.feed, .bool g.rules.again, .int .i64 g.rules.capture, .int .i64 g.rules.slam, .slice A1_9 g.start.pits.length c1_9, .slice A1_10 g.start.stores.length c1_10, .int .i64 g.start.player, .slice A1_12 g.moves.length c1_12, .slice A1_13 g.now.pits.length c1_13, .slice A1_14 g.now.stores.length c1_14, .int .i64 g.now.player, .int .i64 g.resigned]) rfl rfl) ?_
  rintro _ _ _ ⟨b2, rfl, rfl, rfl⟩ _
  refine JL.q (OpP.q (p_assign rfl)) ?_
  refine JL.q (OpP.q (p_assign rfl)) ?_
  refine JL.nil ?_
  refine Js.seq ?_
  refine Js.region ?_
  refine JL.e (e_callV fn_87 rfl (fun w hw => c_spec_l09Code g _ w ⟨_, _, [.int .i64 g.rules.pits, .int .i64 g.rules.seeds, .bool g.rules.stores, .bool g.rules.skip, .bool g.rules.relay, .bool g.rules.feed, .bool g.rules.again, .int .i64 g.rules.capture, .int .i64 g.rules.slam, .slice A1_9 g.start.pits.length c1_9, .slice A1_10 g.start.stores.length c1_10, .int .i64 g.start.player, .slice A1_12 g.moves.length c1_12, .slice A1_13 g.now.pits.length c1_13, .slice A1_14 g.now.stores.length c1_14, .int .i64 g.now.player, .int .i64 g.resigned], rfl, ⟨rfl, rfl, rfl, rfl, rfl, rfl, rfl, rfl, rfl, (Ty.mono _ h1_9 hw.vis), (Ty.mono _ h1_10 hw.vis), rfl, (Ty.mono _ h1_12 hw.vis), (Ty.mono _ h1_13 hw.vis), (Ty.mono _ h1_14 hw.vis), rfl, rfl, trivial⟩, Mem.boxR (i := 0) rfl 0 17 w hw⟩ (by omega) (by omega) (by omega) (by omega) (by omega))) ?_
  rintro _ _ _ ⟨rfl, rfl, rfl⟩ _
  refine JL.q (OpP.q (p_assign rfl)) ?_
  refine JL.nil ?_
  refine Js.seq ?_
  refine Js.seq ?_
  refine Js.region ?_
  refine JL.q (OpP.q (p_move rfl)) ?_
  refine JL.q (OpP.q (p_neq rfl rfl)) ?_
  refine JL.nil ?_
  refine Js.cond rfl (fun h3 => ?_) (fun h3 => ?_)
  ·
    have h3' := h3
    try simp only [Bool.not_eq_true', decide_eq_false_iff_not] at h3'
    have hz : M.endC g ≠ 0 := by simpa using h3
    have hE := M.scoresR_no hz
    refine Js.seq ?_
    refine Js.region ?_
    refine JL.q (OpP.q (p_move rfl)) ?_
    refine JL.q (OpP.q (p_assign rfl)) ?_
    refine JL.q (OpP.q (p_assign rfl)) ?_
    refine JL.nil ?_
    refine Js.ret (R := RO w (Ty.tup [Ty.ints 2 (M.scoresR g), Ty.int (M.endC g)])) @Try.results49 (fun _ _ => rfl) (ResOk.tmp rfl (ResOk.tmp rfl ResOk.nil)) (fun w1 hw => ?_)
    have hx := hw.ext (Up.refl _ _)
    exact ret_own (ps := []) hw hx ⟨_, rfl, ⟨_, _, rfl, (ints_cast (show [] = M.scoresR g by first | (rw [hz]; done) | (rw [hE]; done)) nil_own), ⟨_, _, rfl, ⟨rfl, rfl⟩, rfl⟩⟩⟩ Pick.nil (by simp [List.flatten, outV])
  ·
    have h3' := h3
    try simp only [Bool.not_eq_false', decide_eq_true_eq] at h3'
    have hz : M.endC g = 0 := by simpa using h3
    have hok := M.endC_ok hz
    obtain ⟨k1, k2, k3, k4, k5, k6, k7, k8, k9⟩ := M.okG_parts hok
    have hnow := M.okG_now hok
    have k10 := M.okP_len hnow
    have k11 := M.okP_len k1
    (have k12 : (M.playedP g).length = g.moves.length + 1 := by rw [k6, M.hist_length, k8])
    have k13 : (M.playedR g).length = g.moves.length := by rw [k7, k8]
    have hC := M.okC_yes hok
    obtain ⟨g1, g2, g3, g4, g5, g6, g7⟩ := M.okP_bd hnow
    have hE := M.scoresR_yes hz
    have hfs := M.final_stores g
    refine Js.skip ?_
    refine Js.seq ?_
    refine Js.region ?_
    refine JL.e (e_callO fn_88 rfl (Spl.agg (Spls.cons (Spl.ints _ _) (Spls.cons (Spl.ints _ _) (Spls.cons (Spl.val _) Spls.nil)))) (fun w hw => c_spec_l09Final g _ w ⟨_, _, [.int .i64 g.rules.pits, .int .i64 g.rules.seeds, .bool g.rules.stores, .bool g.rules.skip, .bool g.rules.relay, .bool g.rules.feed, .bool g.rules.again, .int .i64 g.rules.capture, .int .i64 g.rules.slam, .slice A1_9 g.start.pits.length c1_9, .slice A1_10 g.start.stores.length c1_10, .int .i64 g.start.player, .slice A1_12 g.moves.length c1_12, .slice A1_13 g.now.pits.length c1_13, .slice A1_14 g.now.stores.length c1_14, .int .i64 g.now.player, .int .i64 g.resigned], rfl, ⟨rfl, rfl, rfl, rfl, rfl, rfl, rfl, rfl, rfl, (Ty.mono _ h1_9 hw.vis), (Ty.mono _ h1_10 hw.vis), rfl, (Ty.mono _ h1_12 hw.vis), (Ty.mono _ h1_13 hw.vis), (Ty.mono _ h1_14 hw.vis), rfl, rfl, trivial⟩, Mem.boxR (i := 0) rfl 0 17 w hw⟩ hnow (by omega) (by omega))) ?_
    rintro v4 _ _ ⟨_, hR5, rfl, rfl⟩ _
    obtain ⟨vs6, rfl, hr6⟩ := hR5
    obtain ⟨v6_0, vs6_0, o6_0, ow6_0, rfl, hR6_0, hs6_0, rfl⟩ := RL_cons hr6
    obtain ⟨v6_1, vs6_1, o6_1, ow6_1, rfl, hR6_1, hs6_1, rfl⟩ := RL_cons hs6_0
    obtain ⟨v6_2, vs6_2, o6_2, ow6_2, rfl, hR6_2, hs6_2, rfl⟩ := RL_cons hs6_1
    obtain ⟨rfl, rfl⟩ := RL_nil hs6_2
    obtain ⟨A7, c7, rfl, rfl, bl7, bh7⟩ := hR6_0
    obtain ⟨A8, c8, rfl, rfl, bl8, bh8⟩ := hR6_1
    obtain ⟨rfl, rfl⟩ : v6_2 = .int .i64 ((M.final g).player) ∧ _ := hR6_2
    refine JL.q (OpP.q (p_field fld_33_1 rfl rfl)) ?_
    refine JL.q (OpP.q (p_assign rfl)) ?_
    refine JL.q (OpP.q (p_assign rfl)) ?_
    refine JL.nil ?_
    refine Js.ret (R := RO w (Ty.tup [Ty.ints 2 (M.scoresR g), Ty.int (M.endC g)])) @Try.results49 (fun _ _ => rfl) (ResOk.tmp rfl (ResOk.tmp rfl ResOk.nil)) (fun w1 hw => ?_)
    have hx := hw.ext (Up.refl _ _)
    exact ret_own (ps := [(1, (Value.ownBlock (.slice A8 (((M.final g).stores).length) c8)).toList)]) hw hx ⟨_, rfl, ⟨_, _, rfl, (ints_row (xs := ((M.final g).stores)) (hw.pr (i := 1) rfl) (show (M.final g).stores = M.scoresR g by first | (rw [hz]; done) | (rw [hE]; done))), ⟨_, _, rfl, ⟨by first | (rw [hz]; done) | (rw [hE]; done), rfl⟩, rfl⟩⟩⟩ (Pick.cons (j := 1) rfl (List.sublist_append_left _ _) rfl Pick.nil) (by simp [List.flatten, outV])

set_option maxRecDepth 100000 in
set_option maxHeartbeats 400000 in
theorem c_spec_WinnerOf (g : M.Gam) (v_g : Value) (w : World) (h_g : (Ty.agg (cGame g)).ok w v_g) (r0 : g.start.pits.length ≤ 4194304) (r1 : g.start.stores.length ≤ 4194304) (r2 : g.moves.length ≤ 4194304) (r3 : g.now.pits.length ≤ 4194304) (r4 : g.now.stores.length ≤ 4194304) : RetV Try.prog 47 [v_g] w (.tuple #[.int .i64 (M.winner g), .int .i64 (M.endC g)]) := by
  obtain ⟨A1_9, c1_9, A1_10, c1_10, A1_12, c1_12, A1_13, c1_13, A1_14, c1_14, rfl, h1_9, h1_10, h1_12, h1_13, h1_14, bl1_9, bh1_9, bl1_10, bh1_10, bl1_12, bh1_12, bl1_13, bh1_13, bl1_14, bh1_14⟩ := open_Game h_g
  refine enter @Try.func47 @Try.ntmps47 rfl rfl ?_
  refine Js.seq ?_
  refine Js.region ?_
  refine JL.e (e_box (c := [.int .i64 g.rules.pits, .int .i64 g.rules.seeds, .bool g.rules.stores, .bool g.rules.skip, .bool g.rules.relay, .bool g.rules.feed, .bool g.rules.again, .int .i64 g.rules.capture, .int .i64 g.rules.slam, .slice A1_9 g.start.pits.length c1_9, .slice A1_10 g.start.stores.length c1_10, .int .i64 g.start.player, .slice A1_12 g.moves.length c1_12, .slice A1_13 g.now.pits.length c1_13, .slice A1_14 g.now.stores.length c1_14, .int .i64 g.now.player, .int .i64 g.resigned]) rfl rfl) ?_
  rintro _ _ _ ⟨b2, rfl, rfl, rfl⟩ _
  refine JL.q (OpP.q (p_assign rfl)) ?_
  refine JL.q (OpP.q (p_assign rfl)) ?_
  refine JL.nil ?_
  refine Js.seq ?_
  refine Js.region ?_
  refine JL.e (e_callV fn_87 rfl (fun w hw => c_spec_l09Code g _ w ⟨_, _, [.int .i64 g.rules.pits, .int .i64 g.rules.seeds, .bool g.rules.stores, .bool g.rules.skip, .bool g.rules.relay, .bool g.rules.feed, .bool g.rules.again, .int .i64 g.rules.capture, .int .i64 g.rules.slam, .slice A1_9 g.start.pits.length c1_9, .slice A1_10 g.start.stores.length c1_10, .int .i64 g.start.player, .slice A1_12 g.moves.length c1_12, .slice A1_13 g.now.pits.length c1_13, .slice A1_14 g.now.stores.length c1_14, .int .i64 g.now.player, .int .i64 g.resigned], rfl, ⟨rfl, rfl, rfl, rfl, rfl, rfl, rfl, rfl, rfl, (Ty.mono _ h1_9 hw.vis), (Ty.mono _ h1_10 hw.vis), rfl, (Ty.mono _ h1_12 hw.vis), (Ty.mono _ h1_13 hw.vis), (Ty.mono _ h1_14 hw.vis), rfl, rfl, trivial⟩, Mem.boxR (i := 0) rfl 0 17 w hw⟩ (by omega) (by omega) (by omega) (by omega) (by omega))) ?_
  rintro _ _ _ ⟨rfl, rfl, rfl⟩ _
  refine JL.q (OpP.q (p_assign rfl)) ?_
  refine JL.nil ?_
  refine Js.seq ?_
  refine Js.seq ?_
  refine Js.region ?_
  refine JL.q (OpP.q (p_move rfl)) ?_
  refine JL.q (OpP.q (p_neq rfl rfl)) ?_
  refine JL.nil ?_
  refine Js.cond rfl (fun h3 => ?_) (fun h3 => ?_)
  ·
    have h3' := h3
    try simp only [Bool.not_eq_true', decide_eq_false_iff_not] at h3'
    have hz : M.endC g ≠ 0 := by simpa using h3
    have hE := M.winner_no hz
    refine Js.seq ?_
    refine Js.region ?_
    refine JL.q (OpP.q (p_move rfl)) ?_
    refine JL.q (OpP.q (p_assign rfl)) ?_
    refine JL.q (OpP.q (p_assign rfl)) ?_
    refine JL.nil ?_
    refine Js.ret (R := RV w (.tuple #[.int .i64 (M.winner g), .int .i64 (M.endC g)])) @Try.results47 (fun _ _ => rfl) (ResOk.tmp rfl (ResOk.tmp rfl ResOk.nil)) (fun w1 hw => ?_)
    refine ⟨?_, hw.ext (Up.refl _ _)⟩
    first | (rw [hE2, hz]; rfl) | (rw [hE]; rfl)
  ·
    have h3' := h3
    try simp only [Bool.not_eq_false', decide_eq_true_eq] at h3'
    have hz : M.endC g = 0 := by simpa using h3
    have hok := M.endC_ok hz
    obtain ⟨k1, k2, k3, k4, k5, k6, k7, k8, k9⟩ := M.okG_parts hok
    have hnow := M.okG_now hok
    have k10 := M.okP_len hnow
    have k11 := M.okP_len k1
    (have k12 : (M.playedP g).length = g.moves.length + 1 := by rw [k6, M.hist_length, k8])
    have k13 : (M.playedR g).length = g.moves.length := by rw [k7, k8]
    have hC := M.okC_yes hok
    obtain ⟨g1, g2, g3, g4, g5, g6, g7⟩ := M.okP_bd hnow
    have hE := trivial
    have hfs := M.final_stores g
    refine Js.skip ?_
    refine Js.seq ?_
    refine Js.seq ?_
    refine Js.region ?_
    refine JL.q (OpP.q (p_fieldAddr fld_35_4 rfl)) ?_
    refine JL.q (q_load1 ty_2 rfl (Mem.box (i := 0) rfl rfl)) ?_
    refine JL.q (OpP.q (p_geq rfl rfl)) ?_
    refine JL.nil ?_
    refine Js.cond rfl (fun h4 => ?_) (fun h4 => ?_)
    ·
      have h4' := h4
      try simp only [decide_eq_true_eq] at h4'
      have hE2 := M.winner_r hz (by simpa using h4)
      refine Js.seq ?_
      refine Js.region ?_
      refine JL.q (OpP.q (p_fieldAddr fld_35_4 rfl)) ?_
      refine JL.q (q_load1 ty_2 rfl (Mem.box (i := 0) rfl rfl)) ?_
      refine JL.q (OpP.q (p_sub rfl rfl (IntWalk.i64_in _ (by omega)))) ?_
      refine JL.q (OpP.q (p_assign rfl)) ?_
      refine JL.q (OpP.q (p_assign rfl)) ?_
      refine JL.nil ?_
      refine Js.ret (R := RV w (.tuple #[.int .i64 (M.winner g), .int .i64 (M.endC g)])) @Try.results47 (fun _ _ => rfl) (ResOk.tmp rfl (ResOk.tmp rfl ResOk.nil)) (fun w1 hw => ?_)
      refine ⟨?_, hw.ext (Up.refl _ _)⟩
      first | (rw [hE2, hz]; rfl) | (rw [hE]; rfl)
    ·
      have h4' := h4
      try simp only [decide_eq_false_iff_not, Int.not_le] at h4'
      have q1 : ¬ 0 ≤ g.resigned := by simpa using h4
      refine Js.skip ?_
      refine Js.seq ?_
      refine Js.region ?_
      refine JL.e (e_callP fn_88 rfl (fun w hw => c_spec_l09Final g _ w ⟨_, _, [.int .i64 g.rules.pits, .int .i64 g.rules.seeds, .bool g.rules.stores, .bool g.rules.skip, .bool g.rules.relay, .bool g.rules.feed, .bool g.rules.again, .int .i64 g.rules.capture, .int .i64 g.rules.slam, .slice A1_9 g.start.pits.length c1_9, .slice A1_10 g.start.stores.length c1_10, .int .i64 g.start.player, .slice A1_12 g.moves.length c1_12, .slice A1_13 g.now.pits.length c1_13, .slice A1_14 g.now.stores.length c1_14, .int .i64 g.now.player, .int .i64 g.resigned], rfl, ⟨rfl, rfl, rfl, rfl, rfl, rfl, rfl, rfl, rfl, (Ty.mono _ h1_9 hw.vis), (Ty.mono _ h1_10 hw.vis), rfl, (Ty.mono _ h1_12 hw.vis), (Ty.mono _ h1_13 hw.vis), (Ty.mono _ h1_14 hw.vis), rfl, rfl, trivial⟩, Mem.boxR (i := 0) rfl 0 17 w hw⟩ hnow (by omega) (by omega))) ?_
      rintro v5 _ u7 ⟨h6, rfl⟩ x7
      obtain ⟨A8_0, c8_0, A8_1, c8_1, rfl, h8_0, h8_1, bl8_0, bh8_0, bl8_1, bh8_1⟩ := open_Position h6
      refine JL.e (e_alloc zero_33) ?_
      rintro _ _ _ ⟨b9, rfl, rfl, rfl⟩ _
      refine JL.s (e_store (i := 0) (c' := [.slice A8_0 (((M.final g).pits).length) c8_0, .slice A8_1 (((M.final g).stores).length) c8_1, .int .i64 ((M.final g).player)]) ty_33 rfl rfl rfl rfl rfl rfl rfl rfl) ?_
      rintro _ _ _ ⟨rfl, rfl⟩ _
      refine JL.nil ?_
      refine Js.seq ?_
      refine Js.block ?_
      refine Js.seq ?_
      refine Js.drawn _ [] mixed_ (fun _ h => h) ?_
      refine JH.p 0 rfl (p_fieldAddr fld_33_1 rfl) ?_
      refine JH.q 1 rfl (q_load1 ty_24 rfl (Mem.box (i := 0) rfl rfl)) ?_
      obtain ⟨b10, o10, he10, hc10⟩ := ints_elem h8_1 (i := 0) (by omega)
      refine JH.p 2 rfl (p_indexAddr el_24 rfl rfl (by omega) (by omega) he10) ?_
      refine JH.q 3 rfl (q_load1 ty_2 rfl (Mem.pub hc10)) ?_
      refine JH.p 4 rfl (p_fieldAddr fld_33_1 rfl) ?_
      refine JH.q 5 rfl (q_load1 ty_24 rfl (Mem.box (i := 0) rfl rfl)) ?_
      obtain ⟨b11, o11, he11, hc11⟩ := ints_elem h8_1 (i := 1) (by omega)
      refine JH.p 6 rfl (p_indexAddr el_24 rfl rfl (by omega) (by omega) he11) ?_
      refine JH.q 7 rfl (q_load1 ty_2 rfl (Mem.pub hc11)) ?_
      refine JH.p 8 rfl (p_gtr rfl rfl) ?_
      refine JH.p 9 rfl (p_assign rfl) ?_
      refine JH.done (by kernel_rfl) ?_
      refine Js.cond rfl (fun h12 => ?_) (fun h12 => ?_)
      ·
        have h12' := h12
        try simp only [decide_eq_true_eq] at h12'
        have hE2 := M.winner_0 hz q1 (by simpa using h12)
        refine Js.seq ?_
        refine Js.region ?_
        refine JL.q (OpP.q (p_assign rfl)) ?_
        refine JL.q (OpP.q (p_assign rfl)) ?_
        refine JL.nil ?_
        refine Js.ret (R := RV w (.tuple #[.int .i64 (M.winner g), .int .i64 (M.endC g)])) @Try.results47 (fun _ _ => rfl) (ResOk.tmp rfl (ResOk.tmp rfl ResOk.nil)) (fun w1 hw => ?_)
        refine ⟨?_, hw.ext (x7)⟩
        first | (rw [hE2, hz]; rfl) | (rw [hE]; rfl)
      ·
        have h12' := h12
        try simp only [decide_eq_false_iff_not, Int.not_lt] at h12'
        have q2 : ¬ M.nth (M.final g).stores 1 < M.nth (M.final g).stores 0 := by simpa using h12
        refine Js.seq ?_
        refine Js.drawn _ [] mixed_ (fun _ h => h) ?_
        refine JH.p 0 rfl (p_fieldAddr fld_33_1 rfl) ?_
        refine JH.q 1 rfl (q_load1 ty_24 rfl (Mem.box (i := 0) rfl rfl)) ?_
        obtain ⟨b13, o13, he13, hc13⟩ := ints_elem h8_1 (i := 0) (by omega)
        refine JH.p 2 rfl (p_indexAddr el_24 rfl rfl (by omega) (by omega) he13) ?_
        refine JH.q 3 rfl (q_load1 ty_2 rfl (Mem.pub hc13)) ?_
        refine JH.p 4 rfl (p_fieldAddr fld_33_1 rfl) ?_
        refine JH.q 5 rfl (q_load1 ty_24 rfl (Mem.box (i := 0) rfl rfl)) ?_
        obtain ⟨b14, o14, he14, hc14⟩ := ints_elem h8_1 (i := 1) (by omega)
        refine JH.p 6 rfl (p_indexAddr el_24 rfl rfl (by omega) (by omega) he14) ?_
        refine JH.q 7 rfl (q_load1 ty_2 rfl (Mem.pub hc14)) ?_
        refine JH.p 8 rfl (p_lss rfl rfl) ?_
        refine JH.p 9 rfl (p_assign rfl) ?_
        refine JH.done (by kernel_rfl) ?_
        refine Js.cond rfl (fun h15 => ?_) (fun h15 => ?_)
        ·
          have h15' := h15
          try simp only [decide_eq_true_eq] at h15'
          have hE2 := M.winner_1 hz q1 q2 (by simpa using h15)
          refine Js.seq ?_
          refine Js.region ?_
          refine JL.q (OpP.q (p_assign rfl)) ?_
          refine JL.q (OpP.q (p_assign rfl)) ?_
          refine JL.nil ?_
          refine Js.ret (R := RV w (.tuple #[.int .i64 (M.winner g), .int .i64 (M.endC g)])) @Try.results47 (fun _ _ => rfl) (ResOk.tmp rfl (ResOk.tmp rfl ResOk.nil)) (fun w1 hw => ?_)
          refine ⟨?_, hw.ext (x7)⟩
          first | (rw [hE2, hz]; rfl) | (rw [hE]; rfl)
        ·
          have h15' := h15
          try simp only [decide_eq_false_iff_not, Int.not_lt] at h15'
          have hE2 := M.winner_n hz q1 q2 (by simpa using h15)
          refine Js.skip ?_
          refine Js.blockEnd ?_
          refine Js.seq ?_
          refine Js.region ?_
          refine JL.q (OpP.q (p_assign rfl)) ?_
          refine JL.q (OpP.q (p_assign rfl)) ?_
          refine JL.nil ?_
          refine Js.ret (R := RV w (.tuple #[.int .i64 (M.winner g), .int .i64 (M.endC g)])) @Try.results47 (fun _ _ => rfl) (ResOk.tmp rfl (ResOk.tmp rfl ResOk.nil)) (fun w1 hw => ?_)
          refine ⟨?_, hw.ext (x7)⟩
          first | (rw [hE2, hz]; rfl) | (rw [hE]; rfl)

end Go.Proofs.Ytejnmechnhgmfaa

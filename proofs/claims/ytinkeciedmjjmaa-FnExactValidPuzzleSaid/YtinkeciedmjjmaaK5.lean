/- Walks: K5. -/
import Derived.Test.YtinkeciedmjjmaaTy
import Derived.Test.YtinkeciedmjjmaaK4
set_option linter.unusedSimpArgs false
set_option linter.unusedVariables false
namespace Go.Proofs.Ytinkeciedmjjmaa
open Go.RowKit

set_option maxRecDepth 100000 in
set_option maxHeartbeats 400000 in
theorem c_spec_l07All (r : M.Rul) (v_r : Value) (p : M.Pos) (v_p : Value) (w : World) (h_r : (Ty.ref (cRules r)).ok w v_r) (h_p : (Ty.ref (cPosition p)).ok w v_p) (r0 : M.okP r p = true) : Ret Try.prog 64 [v_r, v_p] w (Ty.sl 74 6 (M.results r p).length (lResult (M.results r p))) := by
  obtain ⟨g1, g2, g3, g4, g5, g6, g7⟩ := M.okP_bd r0
  obtain ⟨b1, o1, rfl, hr1⟩ := ref_Rules h_r
  obtain ⟨b2, o2, A2_0, c2_0, A2_1, c2_1, rfl, hr2, h2_0, h2_1, bl2_0, bh2_0, bl2_1, bh2_1⟩ := ref_Position h_p
  refine enter @Try.func64 @Try.ntmps64 rfl rfl ?_
  refine Js.seq ?_
  refine Js.region ?_
  refine JL.q (OpP.q (p_assign rfl)) ?_
  refine JL.nil ?_
  refine Js.seq ?_
  refine Js.region ?_
  refine JL.e (e_buildSlice (vs := []) el_90 rfl rfl rfl rfl rfl rfl) ?_
  rintro _ _ _ ⟨b3, rfl, rfl, hl4, rfl⟩ _
  refine JL.q (OpP.q (p_assign rfl)) ?_
  refine JL.nil ?_
  refine Js.seq ?_
  refine Js.seq ?_
  refine Js.region ?_
  refine JL.q (OpP.q (p_assign rfl)) ?_
  refine JL.nil ?_
  refine Js.block ?_
  refine Js.vals (Ts := lResult []) (vs := []) (fun w => rfl) ?_
  refine Js.loop (fun l os u m => ∃ (k : Nat) (acc : List M.Res) (A5_5 : Option Addr) (c5_5 : Nat) (g5_5 : List Nat) (vs5_5 : List Value) (fl5_5 : List Nat), l = [(0, .pointer (some ⟨b1, o1, none⟩)), (1, .pointer (some ⟨b2, o2, none⟩)), (5, .slice A5_5 acc.length c5_5), (6, .int .i64 (k : Int))] ∧ os = [ownC (lResult acc) vs5_5 fl5_5, rowO 74 6 (.slice A5_5 acc.length c5_5) acc.length vs5_5 g5_5] ∧ Up w.heap.size w u ∧ (acc = M.resultsTo r p k) ∧ (k ≤ r.pits) ∧ (acc.length ≤ c5_5) ∧ (c5_5 ≤ 9223372036854775807) ∧ m = (r.pits - k).toNat) ⟨0, [], _, _, _, _, _, rfl, rfl, Up.refl _ _, by rfl, by first | assumption | omega | rfl | (simp; done), by first | omega | (simp only [List.length_append, List.length_cons, List.length_nil] <;> omega), by first | omega | (simp only [List.length_append, List.length_cons, List.length_nil] <;> omega), rfl⟩ ⟨rfl, rfl, rfl, rfl, trivial⟩ ?_
  · rintro _ _ u5 _ ⟨k, acc, A5_5, c5_5, g5_5, vs5_5, fl5_5, rfl, rfl, x5, hacc, hk, f5_2, f5_3, rfl⟩
    have hlen := M.resultsTo_len (r := r) (p := p) k
    have hlacc : acc.length ≤ k := by rw [hacc]; exact hlen
    refine Js.seq ?_
    refine Js.seq ?_
    refine Js.region ?_
    refine JL.q (OpP.q (p_move rfl)) ?_
    refine JL.q (OpP.q (p_move rfl)) ?_
    refine JL.q (OpP.q (p_nilCheck rfl)) ?_
    refine JL.q (OpP.q (p_fieldAddr fld_31_0 rfl)) ?_
    refine JL.q (q_load1 ty_2 rfl (Mem.pub ((hr1.vis x5.vis) 0 _ rfl))) ?_
    refine JL.q (OpP.q (p_lss rfl rfl)) ?_
    refine JL.nil ?_
    refine Js.cond rfl (fun h6 => ?_) (fun h6 => ?_)
    ·
      have h6' := h6
      try simp only [decide_eq_true_eq] at h6'
      refine Js.skip ?_
      refine Js.seq ?_
      refine Js.block ?_
      refine Js.seq ?_
      refine Js.region ?_
      refine JL.q (OpP.q (p_move rfl)) ?_
      refine JL.q (OpP.q (p_move rfl)) ?_
      refine JL.q (OpP.q (p_move rfl)) ?_
      refine JL.e (e_callO fn_48 rfl (Spl.tup (Spls.cons (Spl.agg (Spls.cons (Spl.val _) (Spls.cons (Spl.val _) (Spls.cons (Spl.val _) (Spls.cons (Spl.ints _ _) (Spls.cons (Spl.ints _ _) (Spls.cons (Spl.val _) Spls.nil))))))) (Spls.cons (Spl.val _) Spls.nil))) (fun w hw => c_spec_l07Make r _ p _ (k : Int) w ⟨_, _, [.int .i64 r.pits, .int .i64 r.seeds, .bool r.stores, .bool r.skip, .bool r.relay, .bool r.feed, .bool r.again, .int .i64 r.capture, .int .i64 r.slam], rfl, ⟨rfl, rfl, rfl, rfl, rfl, rfl, rfl, rfl, rfl, trivial⟩, (hr1.vis (x5.vis.trans hw.vis))⟩ ⟨_, _, [.slice A2_0 p.pits.length c2_0, .slice A2_1 p.stores.length c2_1, .int .i64 p.player], rfl, ⟨(Ty.mono _ h2_0 (x5.vis.trans hw.vis)), (Ty.mono _ h2_1 (x5.vis.trans hw.vis)), rfl, trivial⟩, (hr2.vis (x5.vis.trans hw.vis))⟩ (by omega) (by omega))) ?_
      rintro v7 _ _ ⟨_, hR8, rfl, rfl⟩ _
      obtain ⟨vs9, rfl, hr9⟩ := hR8
      obtain ⟨v9_0, vs9_0, o9_0, ow9_0, rfl, hR9_0, hs9_0, rfl⟩ := RL_cons hr9
      obtain ⟨v9_1, vs9_1, o9_1, ow9_1, rfl, hR9_1, hs9_1, rfl⟩ := RL_cons hs9_0
      obtain ⟨rfl, rfl⟩ := RL_nil hs9_1
      obtain ⟨vs10, rfl, hr10⟩ := hR9_0
      obtain ⟨v10_0, vs10_0, o10_0, ow10_0, rfl, hR10_0, hs10_0, rfl⟩ := RL_cons hr10
      obtain ⟨v10_1, vs10_1, o10_1, ow10_1, rfl, hR10_1, hs10_1, rfl⟩ := RL_cons hs10_0
      obtain ⟨v10_2, vs10_2, o10_2, ow10_2, rfl, hR10_2, hs10_2, rfl⟩ := RL_cons hs10_1
      obtain ⟨v10_3, vs10_3, o10_3, ow10_3, rfl, hR10_3, hs10_3, rfl⟩ := RL_cons hs10_2
      obtain ⟨v10_4, vs10_4, o10_4, ow10_4, rfl, hR10_4, hs10_4, rfl⟩ := RL_cons hs10_3
      obtain ⟨v10_5, vs10_5, o10_5, ow10_5, rfl, hR10_5, hs10_5, rfl⟩ := RL_cons hs10_4
      obtain ⟨rfl, rfl⟩ := RL_nil hs10_5
      obtain ⟨rfl, rfl⟩ : v10_0 = .int .i64 (((M.make r p (k : Int)).1).move) ∧ _ := hR10_0
      obtain ⟨rfl, rfl⟩ : v10_1 = .int .i64 (((M.make r p (k : Int)).1).gain) ∧ _ := hR10_1
      obtain ⟨rfl, rfl⟩ : v10_2 = .bool (((M.make r p (k : Int)).1).again) ∧ _ := hR10_2
      obtain ⟨A11, c11, rfl, rfl, bl11, bh11⟩ := hR10_3
      obtain ⟨A12, c12, rfl, rfl, bl12, bh12⟩ := hR10_4
      obtain ⟨rfl, rfl⟩ : v10_5 = .int .i64 ((((M.make r p (k : Int)).1).next).player) ∧ _ := hR10_5
      obtain ⟨rfl, rfl⟩ : v9_1 = .int .i64 ((M.make r p (k : Int)).2) ∧ _ := hR9_1
      refine JL.q (OpP.q (p_move rfl)) ?_
      refine JL.q (OpP.q (p_extract rfl rfl)) ?_
      refine JL.q (OpP.q (p_extract rfl rfl)) ?_
      refine JL.e (e_alloc zero_74) ?_
      rintro _ _ _ ⟨b13, rfl, rfl, rfl⟩ _
      refine JL.s (e_store (i := 0) (c' := [.int .i64 (((M.make r p (k : Int)).1).move), .int .i64 (((M.make r p (k : Int)).1).gain), .bool (((M.make r p (k : Int)).1).again), .slice A11 (((((M.make r p (k : Int)).1).next).pits).length) c11, .slice A12 (((((M.make r p (k : Int)).1).next).stores).length) c12, .int .i64 ((((M.make r p (k : Int)).1).next).player)]) ty_74 rfl rfl rfl rfl rfl rfl rfl rfl) ?_
      rintro _ _ _ ⟨rfl, rfl⟩ _
      refine JL.q (OpP.q (p_assign rfl)) ?_
      refine JL.nil ?_
      refine Js.seq ?_
      refine Js.region ?_
      refine JL.q (OpP.q (p_move rfl)) ?_
      refine JL.q (OpP.q (p_eql rfl rfl)) ?_
      refine JL.nil ?_
      refine Js.cond rfl (fun h14 => ?_) (fun h14 => ?_)
      ·
        have h14' := h14
        try simp only [decide_eq_true_eq] at h14'
        have hacc2 := (M.resultsTo_yes2 (r := r) (p := p) (k := k) (by simpa using h14)).symm
        refine Js.region ?_
        refine JL.q (OpP.q (p_move rfl)) ?_
        refine JL.q (q_loadN ty_74 rfl (Mem.boxR (i := 0) rfl 0 6) rfl rfl) ?_
        refine JL.e (e_buildSlice (vs := [.int .i64 (((M.make r p (k : Int)).1).move), .int .i64 (((M.make r p (k : Int)).1).gain), .bool (((M.make r p (k : Int)).1).again), .slice A11 (((((M.make r p (k : Int)).1).next).pits).length) c11, .slice A12 (((((M.make r p (k : Int)).1).next).stores).length) c12, .int .i64 ((((M.make r p (k : Int)).1).next).player)]) el_90 rfl rfl rfl rfl rfl rfl) ?_
        rintro _ _ _ ⟨b15, rfl, rfl, hl16, rfl⟩ _
        refine JL.e (e_append (i := 5) (n' := (acc ++ [((M.make r p (k : Int)).1)]).length) (vs' := vs5_5 ++ [.int .i64 (((M.make r p (k : Int)).1).move), .int .i64 (((M.make r p (k : Int)).1).gain), .bool (((M.make r p (k : Int)).1).again), .slice A11 (((((M.make r p (k : Int)).1).next).pits).length) c11, .slice A12 (((((M.make r p (k : Int)).1).next).stores).length) c12, .int .i64 ((((M.make r p (k : Int)).1).next).player)]) el_90 rfl rfl rfl rfl (src_row (i := 0) und_90 rfl rfl) (by omega) (by omega) (by first | omega | (simp only [List.length_append, List.length_cons, List.length_nil] <;> omega)) (rfl)) ?_
        rintro v17 _ _ ⟨⟨g18, rfl⟩, rfl⟩ _
        refine JL.fact (row_form' (i := 5) rfl) (fun hf19 => ?_)
        obtain ⟨A19, c19, rfl, bl19, bh19⟩ := hf19
        refine JL.q (OpP.q (p_assign rfl)) ?_
        refine JL.nil ?_
        refine Js.pack2 (i := 2) (j := 2) (cResult ((M.make r p (k : Int)).1)) [.int .i64 (((M.make r p (k : Int)).1).move), .int .i64 (((M.make r p (k : Int)).1).gain), .bool (((M.make r p (k : Int)).1).again), .slice A11 (((((M.make r p (k : Int)).1).next).pits).length) c11, .slice A12 (((((M.make r p (k : Int)).1).next).stores).length) c12, .int .i64 ((((M.make r p (k : Int)).1).next).player)] rfl rfl (fun w h1 h2 => pack_Result (ints_row h1 rfl) (ints_row h2 rfl)) (fun f20 => ?_)
        refine Js.joinL (i := 3) (j := 0) (Vs := lResult (acc ++ [((M.make r p (k : Int)).1)])) rfl rfl (lResult_snoc _ _) (fun f21 => ?_)
        refine Js.blockEnd ?_
        refine Js.region ?_
        refine JL.q (OpP.q (p_move rfl)) ?_
        refine JL.q (OpP.q (p_add rfl rfl (IntWalk.i64_in _ (by omega)))) ?_
        refine JL.q (OpP.q (p_assign rfl)) ?_
        refine JL.nil ?_
        refine Js.drop (i := 1) rfl rfl (fun u22 x22 => ?_)
        refine Js.drop (i := 1) rfl rfl (fun u23 x23 => ?_)
        exact Js.again ⟨k + 1, acc ++ [((M.make r p (k : Int)).1)], _, _, _, _, _, rfl, rfl, ((x5.trans x22).trans x23), by rw [hacc]; exact hacc2, by first | assumption | omega | rfl | (simp; done), by first | omega | (simp only [List.length_append, List.length_cons, List.length_nil] <;> omega), by first | omega | (simp only [List.length_append, List.length_cons, List.length_nil] <;> omega), rfl⟩ (by omega) ⟨rfl, rfl, rfl, rfl, trivial⟩
      ·
        have h14' := h14
        try simp only [decide_eq_false_iff_not] at h14'
        have hacc2 := (M.resultsTo_no2 (r := r) (p := p) (k := k) (by simpa using h14)).symm
        refine Js.skip ?_
        refine Js.blockEnd ?_
        refine Js.region ?_
        refine JL.q (OpP.q (p_move rfl)) ?_
        refine JL.q (OpP.q (p_add rfl rfl (IntWalk.i64_in _ (by omega)))) ?_
        refine JL.q (OpP.q (p_assign rfl)) ?_
        refine JL.nil ?_
        refine Js.drop (i := 0) rfl rfl (fun u24 x24 => ?_)
        refine Js.drop (i := 0) rfl rfl (fun u25 x25 => ?_)
        refine Js.drop (i := 0) rfl rfl (fun u26 x26 => ?_)
        exact Js.again ⟨k + 1, acc, _, _, _, _, _, rfl, rfl, (((x5.trans x24).trans x25).trans x26), by rw [hacc]; exact hacc2, by first | assumption | omega | rfl | (simp; done), by first | omega | (simp only [List.length_append, List.length_cons, List.length_nil] <;> omega), by first | omega | (simp only [List.length_append, List.length_cons, List.length_nil] <;> omega), rfl⟩ (by omega) ⟨rfl, rfl, rfl, rfl, trivial⟩
    ·
      have h6' := h6
      try simp only [decide_eq_false_iff_not, Int.not_lt] at h6'
      have hR : acc = M.results r p := by rw [hacc]; unfold M.results; rw [show k = r.pits.toNat by have := h6'; omega]
      refine Js.exit (fun _ _ => rfl) ?_
      refine Js.seq ?_
      refine Js.region ?_
      refine JL.q (OpP.q (p_move rfl)) ?_
      refine JL.q (OpP.q (p_assign rfl)) ?_
      refine JL.nil ?_
      refine Js.ret (R := RO w (Ty.sl 74 6 (M.results r p).length (lResult (M.results r p)))) @Try.results64 (fun _ _ => rfl) (ResOk.tmp rfl ResOk.nil) (fun w1 hw => ?_)
      have hx := hw.ext (x5)
      exact ret_own (ps := [(1, (Value.ownBlock (.slice A5_5 acc.length c5_5)).toList), (0, fl5_5)]) hw hx (srow_own lResult (hw.pr (i := 1) rfl) (hw.pr (i := 0) rfl) (lResult_length _) (show acc = M.results r p by exact hR)) (Pick.cons (j := 1) rfl (List.sublist_append_left _ _) rfl (Pick.cons (j := 0) rfl (List.Sublist.refl _) rfl Pick.nil)) (by simp [List.flatten, outV])

end Go.Proofs.Ytinkeciedmjjmaa

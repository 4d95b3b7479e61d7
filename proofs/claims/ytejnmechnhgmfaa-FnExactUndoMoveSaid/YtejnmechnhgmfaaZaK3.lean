/- Walks: K3. -/
import Derived.Test.YtejnmechnhgmfaaZaTy
import Derived.Test.YtejnmechnhgmfaaZaK2
set_option linter.unusedSimpArgs false
set_option linter.unusedVariables false
namespace Go.Proofs.Ytejnmechnhgmfaa
open Go.RowKit

set_option maxRecDepth 100000 in
set_option maxHeartbeats 400000 in
theorem c_spec_l06Raw (r : M.Rul) (v_r : Value) (s : M.Sw) (v_s : Value) (player : Int) (w : World) (h_r : (Ty.ref (cRules r)).ok w v_r) (h_s : (Ty.ref (cSown s)).ok w v_s) (r0 : 2 ≤ r.pits) (r1 : r.pits ≤ 8) (r2 : player = 0 ∨ player = 1) (r3 : M.Good r s.pits s.stores 0) (r4 : -1 ≤ s.last) (r5 : s.last < 2 * r.pits) : Ret Try.prog 144 [v_r, v_s, .int .i64 player] w (Ty.ints 2 (M.taken r s player)) := by
  have l1 := r3.lp
  have l2 := r3.ls
  have hv9 := r3.pit s.last
  obtain ⟨b1, o1, rfl, hr1⟩ := ref_Rules h_r
  obtain ⟨b2, o2, A2_0, c2_0, A2_1, c2_1, rfl, hr2, h2_0, h2_1, bl2_0, bh2_0, bl2_1, bh2_1⟩ := ref_Sown h_s
  obtain ⟨b3, o3, rfl⟩ := ints_some h2_0 (by omega)
  refine enter @Try.func144 @Try.ntmps144 rfl rfl ?_
  refine Js.seq ?_
  refine Js.region ?_
  refine JL.q (OpP.q (p_assign rfl)) ?_
  refine JL.nil ?_
  refine Js.seq ?_
  refine Js.region ?_
  refine JL.e (e_buildSlice (vs := []) el_24 rfl rfl rfl rfl rfl rfl) ?_
  rintro _ _ _ ⟨b4, rfl, rfl, hl5, rfl⟩ _
  refine JL.q (OpP.q (p_assign rfl)) ?_
  refine JL.nil ?_
  refine Js.seq ?_
  refine Js.region ?_
  refine JL.q (OpP.q (p_move rfl)) ?_
  refine JL.q (OpP.q (p_nilCheck rfl)) ?_
  refine JL.q (OpP.q (p_fieldAddr fld_129_2 rfl)) ?_
  refine JL.q (q_load1 ty_2 rfl (Mem.pub (hr2 2 _ rfl))) ?_
  refine JL.q (OpP.q (p_assign rfl)) ?_
  refine JL.nil ?_
  refine Js.seq ?_
  refine Js.seq ?_
  refine Js.region ?_
  refine JL.q (OpP.q (p_move rfl)) ?_
  refine JL.q (OpP.q (p_lss rfl rfl)) ?_
  refine JL.nil ?_
  refine Js.cond rfl (fun h6 => ?_) (fun h6 => ?_)
  ·
    have h6' := h6
    try simp only [decide_eq_true_eq] at h6'
    have hR : M.taken r s player = [] := by unfold M.taken; rw [if_pos (by simpa using h6)]
    refine Js.seq ?_
    refine Js.region ?_
    refine JL.q (OpP.q (p_move rfl)) ?_
    refine JL.q (OpP.q (p_assign rfl)) ?_
    refine JL.nil ?_
    refine Js.ret (R := RO w (Ty.ints 2 (M.taken r s player))) @Try.results144 (fun _ _ => rfl) (ResOk.tmp rfl ResOk.nil) (fun w1 hw => ?_)
    have hx := hw.ext (Up.refl _ _)
    exact ret_own (ps := [(0, (Value.ownBlock (.slice (some ⟨b4, 0, none⟩) 0 0)).toList)]) hw hx (ints_row (xs := []) (hw.pr (i := 0) rfl) (show [] = M.taken r s player by rw [hR])) (Pick.cons (j := 0) rfl (List.sublist_append_left _ _) rfl Pick.nil) (by simp [List.flatten, outV])
  ·
    have h6' := h6
    try simp only [decide_eq_false_iff_not, Int.not_lt] at h6'
    have hl0 : ¬ s.last < 0 := by simpa using h6
    refine Js.skip ?_
    refine Js.seq ?_
    refine Js.region ?_
    refine JL.q (OpP.q (p_move rfl)) ?_
    refine JL.q (OpP.q (p_move rfl)) ?_
    refine JL.e (e_callV fn_145 rfl (fun w hw => c_spec_l02Owner r _ s.last w ⟨_, _, [.int .i64 r.pits, .int .i64 r.seeds, .bool r.stores, .bool r.skip, .bool r.relay, .bool r.feed, .bool r.again, .int .i64 r.capture, .int .i64 r.slam], rfl, ⟨rfl, rfl, rfl, rfl, rfl, rfl, rfl, rfl, rfl, trivial⟩, (hr1.vis hw.vis)⟩ (by omega) (by omega) (by omega) (by omega))) ?_
    rintro _ _ _ ⟨rfl, rfl, rfl⟩ _
    refine JL.q (OpP.q (p_move rfl)) ?_
    refine JL.q (OpP.q (p_eql rfl rfl)) ?_
    refine JL.q (OpP.q (p_assign rfl)) ?_
    refine JL.nil ?_
    refine Js.seq ?_
    refine Js.seq ?_
    refine Js.region ?_
    refine JL.q (OpP.q (p_move rfl)) ?_
    refine JL.q (OpP.q (p_nilCheck rfl)) ?_
    refine JL.q (OpP.q (p_fieldAddr fld_32_7 rfl)) ?_
    refine JL.q (q_load1 ty_2 rfl (Mem.pub (hr1 7 _ rfl))) ?_
    refine JL.nil ?_
    refine Js.block ?_
    refine Js.seq ?_
    refine Js.region ?_
    refine JL.q (OpP.q (p_eql rfl rfl)) ?_
    refine JL.q (OpP.q (p_assign rfl)) ?_
    refine JL.nil ?_
    refine Js.cond rfl (fun h7 => ?_) (fun h7 => ?_)
    ·
      have h7' := h7
      try simp only [decide_eq_true_eq] at h7'
      have hcap : r.capture = 1 := by simpa using h7
      refine Js.block ?_
      refine Js.loop (fun l os u m => ∃ (k : Int) (out : List Int) (A8_7 : Option Addr) (c8_7 : Nat) (g8_7 : List Nat), l = [(0, .pointer (some ⟨b1, o1, none⟩)), (1, .pointer (some ⟨b2, o2, none⟩)), (2, .int .i64 player), (7, .slice A8_7 out.length c8_7), (8, .int .i64 k)] ∧ os = [rowO 2 1 (.slice A8_7 out.length c8_7) out.length (ints_ out) g8_7] ∧ Up w.heap.size w u ∧ (out ++ M.ttI r player s.pits k = M.ttI r player s.pits s.last) ∧ (-1 ≤ k) ∧ (k < 2 * r.pits) ∧ ((out.length : Int) + k = s.last) ∧ (out.length ≤ c8_7) ∧ (c8_7 ≤ 9223372036854775807) ∧ m = (k + 1).toNat) ⟨s.last, [], _, _, _, rfl, rfl, Up.refl _ _, by rfl, by first | assumption | omega | rfl | (simp; done), by first | assumption | omega | rfl | (simp; done), by simp, by first | omega | (simp only [List.length_append, List.length_cons, List.length_nil] <;> omega), by first | omega | (simp only [List.length_append, List.length_cons, List.length_nil] <;> omega), rfl⟩ ⟨rfl, rfl, rfl, rfl, rfl, trivial⟩ ?_
      · rintro _ _ u8 _ ⟨k, out, A8_7, c8_7, g8_7, rfl, rfl, x8, hS, k0, k1, hl, f8_4, f8_5, rfl⟩
        refine Js.seq ?_
        refine Js.seq ?_
        refine Js.region ?_
        refine JL.q (OpP.q (p_move rfl)) ?_
        refine JL.q (OpP.q (p_geq rfl rfl)) ?_
        refine JL.q (OpP.q (p_move rfl)) ?_
        refine JL.g (Gd.t1 rfl rfl rfl) (fun hc => OpP.q (p_move rfl)) ?_
        refine JL.g (Gd.t1 rfl rfl rfl) (fun hc => OpP.q (p_move rfl)) ?_
        refine JL.ge (Gd.t1 rfl rfl rfl) (fun hc => e_callV fn_145 (opds_2 (gvt rfl hc) (gvt rfl hc)) (fun w hw => c_spec_l02Owner r _ k w ⟨_, _, [.int .i64 r.pits, .int .i64 r.seeds, .bool r.stores, .bool r.skip, .bool r.relay, .bool r.feed, .bool r.again, .int .i64 r.capture, .int .i64 r.slam], rfl, ⟨rfl, rfl, rfl, rfl, rfl, rfl, rfl, rfl, rfl, trivial⟩, (hr1.vis (x8.vis.trans hw.vis))⟩ (by have hc9 := hc; (try simp only [decide_eq_true_eq] at hc9); omega) (by have hc9 := hc; (try simp only [decide_eq_true_eq] at hc9); omega) (by have hc9 := hc; (try simp only [decide_eq_true_eq] at hc9); omega) (by have hc9 := hc; (try simp only [decide_eq_true_eq] at hc9); omega))) ?_
        refine JL.g (Gd.t1 rfl rfl rfl) (fun hc => OpP.q (p_move rfl)) ?_
        refine JL.g (Gd.t1 rfl rfl rfl) (fun hc => OpP.q (p_neq (gvt rfl hc) (gvt rfl hc))) ?_
        refine JL.q (OpP.q (p_pickAnd rfl rfl rfl)) ?_
        refine JL.q (OpP.q (p_move rfl)) ?_
        refine JL.g (Gd.t1 rfl rfl rfl) (fun hc => OpP.q (p_move rfl)) ?_
        refine JL.g (Gd.t1 rfl rfl rfl) (fun hc => OpP.q (p_nilCheck (gvt rfl hc))) ?_
        refine JL.g (Gd.t1 rfl rfl rfl) (fun hc => OpP.q (p_fieldAddr fld_129_0 (gvt rfl hc))) ?_
        refine JL.g (Gd.t1 rfl rfl rfl) (fun hc => q_load1 ty_24 (gvt rfl hc) (Mem.pub ((hr2.vis x8.vis) 0 _ rfl))) ?_
        refine JL.g (Gd.t1 rfl rfl rfl) (fun hc => OpP.q (p_move rfl)) ?_
        refine JL.g (Gd.t1 rfl rfl rfl) (fun hc => OpP.q (p_indexAddr el_24 (gvt rfl hc) (gvt rfl hc) (by have hc9 := hc; (try simp only [Bool.and_eq_true, decide_eq_true_eq, Bool.not_eq_true', decide_eq_false_iff_not] at hc9); omega) (by have hc9 := hc; (try simp only [Bool.and_eq_true, decide_eq_true_eq, Bool.not_eq_true', decide_eq_false_iff_not] at hc9); omega) rfl)) ?_
        refine JL.g (Gd.t1 rfl rfl rfl) (fun hc => q_load1 ty_2 (gvt rfl hc) (Mem.pub (ints_cellI (i := k) (Ty.mono _ h2_0 x8.vis) (by have hc9 := hc; (try simp only [Bool.and_eq_true, decide_eq_true_eq, Bool.not_eq_true', decide_eq_false_iff_not] at hc9); omega)))) ?_
        refine JL.ge (Gd.t1 rfl rfl rfl) (fun hc => e_callV fn_76 (opds_3 (gvt rfl hc) rfl rfl) (fun w hw => c_spec_l00In (M.getI s.pits k) 2 3 w)) ?_
        refine JL.q (OpP.q (p_pickAnd rfl rfl rfl)) ?_
        refine JL.nil ?_
        refine Js.cond rfl (fun h10 => ?_) (fun h10 => ?_)
        ·
          have h10' := h10
          try simp only [Bool.and_eq_true, decide_eq_true_eq, Bool.not_eq_true', decide_eq_false_iff_not] at h10'
          obtain ⟨⟨c0, c1⟩, c2⟩ : (0 ≤ k ∧ ¬ M.owner r k = player) ∧ M.betw (M.getI s.pits k) 2 3 = true := by simpa using h10
          have hS2 : (out ++ [k]) ++ M.ttI r player s.pits (k - 1) = M.ttI r player s.pits s.last := by rw [← hS, M.ttI_yes c0 c1 c2]; simp
          refine Js.skip ?_
          refine Js.block ?_
          refine Js.seq ?_
          refine Js.region ?_
          refine JL.q (OpP.q (p_move rfl)) ?_
          refine JL.q (OpP.q (p_move rfl)) ?_
          refine JL.e (e_buildSlice (vs := [.int .i64 k]) el_24 rfl rfl rfl rfl rfl rfl) ?_
          rintro _ _ _ ⟨b11, rfl, rfl, hl12, rfl⟩ _
          refine JL.e (e_append (i := 1) (n' := (out ++ [k]).length) (vs' := ints_ (out ++ [k])) el_24 rfl rfl rfl rfl (src_row (i := 0) und_24 rfl rfl) (by omega) (by omega) (by first | omega | (simp only [List.length_append, List.length_cons, List.length_nil] <;> omega)) (by simp [ints_])) ?_
          rintro v13 _ _ ⟨⟨g14, rfl⟩, rfl⟩ _
          refine JL.fact (row_form' (i := 1) rfl) (fun hf15 => ?_)
          obtain ⟨A15, c15, rfl, bl15, bh15⟩ := hf15
          refine JL.q (OpP.q (p_assign rfl)) ?_
          refine JL.nil ?_
          refine Js.region ?_
          refine JL.q (OpP.q (p_move rfl)) ?_
          refine JL.q (OpP.q (p_sub rfl rfl (IntWalk.i64_in _ (by omega)))) ?_
          refine JL.q (OpP.q (p_assign rfl)) ?_
          refine JL.nil ?_
          refine Js.blockEnd ?_
          refine Js.drop (i := 0) rfl rfl (fun u16 x16 => ?_)
          exact Js.again ⟨k - 1, out ++ [k], _, _, _, rfl, rfl, (x8.trans x16), by exact hS2, by first | assumption | omega | rfl | (simp; done), by first | assumption | omega | rfl | (simp; done), by simp only [List.length_append, List.length_cons, List.length_nil]; omega, by first | omega | (simp only [List.length_append, List.length_cons, List.length_nil] <;> omega), by first | omega | (simp only [List.length_append, List.length_cons, List.length_nil] <;> omega), rfl⟩ (by omega) ⟨rfl, rfl, rfl, rfl, rfl, trivial⟩
        ·
          have h10' := h10
          try simp only [Bool.and_eq_false_iff, decide_eq_false_iff_not, Int.not_le, Bool.not_eq_false', decide_eq_true_eq] at h10'
          have hF : M.ttI r player s.pits k = [] := by rcases h10' with (h | h) | h; exact M.ttI_neg h; exact M.ttI_no (.inl h); exact M.ttI_no (.inr h)
          rw [hF, List.append_nil] at hS
          have hR : M.taken r s player = out := by unfold M.taken; rw [if_neg hl0, if_pos hcap, hS]; simp [M.ttI, hl0]
          refine Js.exit (fun _ _ => rfl) ?_
          refine Js.blockEnd ?_
          refine Js.seq ?_
          refine Js.region ?_
          refine JL.q (OpP.q (p_move rfl)) ?_
          refine JL.q (OpP.q (p_assign rfl)) ?_
          refine JL.nil ?_
          refine Js.ret (R := RO w (Ty.ints 2 (M.taken r s player))) @Try.results144 (fun _ _ => rfl) (ResOk.tmp rfl ResOk.nil) (fun w1 hw => ?_)
          have hx := hw.ext (x8)
          exact ret_own (ps := [(0, (Value.ownBlock (.slice A8_7 out.length c8_7)).toList)]) hw hx (ints_row (xs := out) (hw.pr (i := 0) rfl) (show out = M.taken r s player by rw [hR])) (Pick.cons (j := 0) rfl (List.sublist_append_left _ _) rfl Pick.nil) (by simp [List.flatten, outV])
    ·
      have h7' := h7
      try simp only [decide_eq_false_iff_not] at h7'
      have hcap1 : ¬ r.capture = 1 := by simpa using h7
      refine Js.seq ?_
      refine Js.region ?_
      refine JL.q (OpP.q (p_eql rfl rfl)) ?_
      refine JL.q (OpP.q (p_assign rfl)) ?_
      refine JL.nil ?_
      refine Js.cond rfl (fun h17 => ?_) (fun h17 => ?_)
      ·
        have h17' := h17
        try simp only [decide_eq_true_eq] at h17'
        have hcap : r.capture = 2 := by simpa using h17
        refine Js.seq ?_
        have ho : M.opp r s.last = 2 * r.pits - 1 - s.last := rfl
        refine Js.drawn _ [] mixed_ (fun _ h => h) ?_
        refine JH.p 0 rfl (p_move rfl) ?_
        refine JH.p 1 rfl (p_move rfl) ?_
        refine JH.pg 2 rfl (Gd.t1 rfl rfl rfl) (fun hc => p_move rfl) ?_
        refine JH.pg 3 rfl (Gd.t1 rfl rfl rfl) (fun hc => p_nilCheck (gvt rfl hc)) ?_
        refine JH.pg 4 rfl (Gd.t1 rfl rfl rfl) (fun hc => p_fieldAddr fld_129_0 (gvt rfl hc)) ?_
        refine JH.wg 5 rfl (Gd.t1 rfl rfl rfl) (fun hc os' u' hv => q_load1 ty_24 (gvt rfl hc) (Mem.pub ((hr2.vis hv) 0 _ rfl))) ?_
        refine JH.pg 6 rfl (Gd.t1 rfl rfl rfl) (fun hc => p_move rfl) ?_
        refine JH.pg 7 rfl (Gd.t1 rfl rfl rfl) (fun hc => p_indexAddr el_24 (gvt rfl hc) (gvt rfl hc) (by have hc9 := hc; (try simp only [decide_eq_true_eq] at hc9); omega) (by have hc9 := hc; (try simp only [decide_eq_true_eq] at hc9); omega) rfl) ?_
        refine JH.wg 8 rfl (Gd.t1 rfl rfl rfl) (fun hc os' u' hv => q_load1 ty_2 (gvt rfl hc) (Mem.pub (ints_cellI (i := s.last) (Ty.mono _ h2_0 hv) (by have hc9 := hc; (try simp only [decide_eq_true_eq] at hc9); omega)))) ?_
        refine JH.pg 9 rfl (Gd.t1 rfl rfl rfl) (fun hc => p_eql (gvt rfl hc) rfl) ?_
        refine JH.p 10 rfl (p_pickAnd rfl rfl rfl) ?_
        refine JH.p 11 rfl (p_move rfl) ?_
        refine JH.pg 12 rfl (Gd.t1 rfl rfl rfl) (fun hc => p_move rfl) ?_
        refine JH.pg 13 rfl (Gd.t1 rfl rfl rfl) (fun hc => p_nilCheck (gvt rfl hc)) ?_
        refine JH.pg 14 rfl (Gd.t1 rfl rfl rfl) (fun hc => p_fieldAddr fld_129_0 (gvt rfl hc)) ?_
        refine JH.wg 15 rfl (Gd.t1 rfl rfl rfl) (fun hc os' u' hv => q_load1 ty_24 (gvt rfl hc) (Mem.pub ((hr2.vis hv) 0 _ rfl))) ?_
        refine JH.pg 16 rfl (Gd.t1 rfl rfl rfl) (fun hc => p_move rfl) ?_
        refine JH.pg 17 rfl (Gd.t1 rfl rfl rfl) (fun hc => p_move rfl) ?_
        refine JH.one (i := 18) (by kernel_rfl) ?_
        refine JHo.ge rfl (Gd.t1 rfl rfl rfl) (fun hc => e_callV fn_153 (opds_2 (gvt rfl hc) (gvt rfl hc)) (fun w hw => c_spec_l02Opposite r _ s.last w ⟨_, _, [.int .i64 r.pits, .int .i64 r.seeds, .bool r.stores, .bool r.skip, .bool r.relay, .bool r.feed, .bool r.again, .int .i64 r.capture, .int .i64 r.slam], rfl, ⟨rfl, rfl, rfl, rfl, rfl, rfl, rfl, rfl, rfl, trivial⟩, (hr1.vis hw.vis)⟩ (by have hc9 := hc; (try simp only [Bool.and_eq_true, decide_eq_true_eq] at hc9); omega) (by have hc9 := hc; (try simp only [Bool.and_eq_true, decide_eq_true_eq] at hc9); omega) (by have hc9 := hc; (try simp only [Bool.and_eq_true, decide_eq_true_eq] at hc9); omega) (by have hc9 := hc; (try simp only [Bool.and_eq_true, decide_eq_true_eq] at hc9); omega))) ?_
        refine JH.pg 19 rfl (Gd.t1 rfl rfl rfl) (fun hc => p_indexAddr el_24 (gvt rfl hc) (gvt rfl hc) (by have hc9 := hc; (try simp only [Bool.and_eq_true, decide_eq_true_eq] at hc9); omega) (by have hc9 := hc; (try simp only [Bool.and_eq_true, decide_eq_true_eq] at hc9); omega) rfl) ?_
        refine JH.wg 20 rfl (Gd.t1 rfl rfl rfl) (fun hc os' u' hv => q_load1 ty_2 (gvt rfl hc) (Mem.pub (ints_cellI (i := M.opp r s.last) (Ty.mono _ h2_0 hv) (by have hc9 := hc; (try simp only [Bool.and_eq_true, decide_eq_true_eq] at hc9); omega)))) ?_
        refine JH.pg 21 rfl (Gd.t1 rfl rfl rfl) (fun hc => p_gtr (gvt rfl hc) rfl) ?_
        refine JH.p 22 rfl (p_pickAnd rfl rfl rfl) ?_
        refine JH.done (by kernel_rfl) ?_
        refine Js.cond rfl (fun h20 => ?_) (fun h20 => ?_)
        ·
          have h20' := h20
          try simp only [Bool.and_eq_true, decide_eq_true_eq] at h20'
          have hR : M.taken r s player = [s.last, M.opp r s.last] := by unfold M.taken; rw [if_neg hl0, if_neg hcap1, if_pos hcap, if_pos (by simpa [and_assoc] using h20)]
          refine Js.region ?_
          refine JL.q (OpP.q (p_move rfl)) ?_
          refine JL.q (OpP.q (p_move rfl)) ?_
          refine JL.q (OpP.q (p_move rfl)) ?_
          refine JL.q (OpP.q (p_move rfl)) ?_
          refine JL.e (e_callV fn_153 rfl (fun w hw => c_spec_l02Opposite r _ s.last w ⟨_, _, [.int .i64 r.pits, .int .i64 r.seeds, .bool r.stores, .bool r.skip, .bool r.relay, .bool r.feed, .bool r.again, .int .i64 r.capture, .int .i64 r.slam], rfl, ⟨rfl, rfl, rfl, rfl, rfl, rfl, rfl, rfl, rfl, trivial⟩, (hr1.vis hw.vis)⟩ (by omega) (by omega) (by omega) (by omega))) ?_
          rintro _ _ _ ⟨rfl, rfl, rfl⟩ _
          refine JL.e (e_buildSlice (vs := [.int .i64 s.last, .int .i64 (M.opp r s.last)]) el_24 rfl rfl rfl rfl rfl rfl) ?_
          rintro _ _ _ ⟨b21, rfl, rfl, hl22, rfl⟩ _
          refine JL.e (e_append (i := 1) (n' := 2) (vs' := ints_ [s.last, (M.opp r s.last)]) el_24 rfl rfl rfl rfl (src_row (i := 0) und_24 rfl rfl) (by omega) (by omega) (by first | omega | (simp only [List.length_append, List.length_cons, List.length_nil] <;> omega)) (by simp [ints_])) ?_
          rintro v23 _ _ ⟨⟨g24, rfl⟩, rfl⟩ _
          refine JL.fact (row_form' (i := 1) rfl) (fun hf25 => ?_)
          obtain ⟨A25, c25, rfl, bl25, bh25⟩ := hf25
          refine JL.q (OpP.q (p_assign rfl)) ?_
          refine JL.nil ?_
          refine Js.blockEnd ?_
          refine Js.seq ?_
          refine Js.region ?_
          refine JL.q (OpP.q (p_move rfl)) ?_
          refine JL.q (OpP.q (p_assign rfl)) ?_
          refine JL.nil ?_
          refine Js.ret (R := RO w (Ty.ints 2 (M.taken r s player))) @Try.results144 (fun _ _ => rfl) (ResOk.tmp rfl ResOk.nil) (fun w1 hw => ?_)
          have hx := hw.ext (Up.refl _ _)
          exact ret_own (ps := [(1, (Value.ownBlock (.slice A25 2 c25)).toList)]) hw hx (ints_row (xs := [s.last, (M.opp r s.last)]) (hw.pr (i := 1) rfl) (show [s.last, (M.opp r s.last)] = M.taken r s player by rw [hR])) (Pick.cons (j := 1) rfl (List.sublist_append_left _ _) rfl Pick.nil) (by simp [List.flatten, outV])
        ·
          have h20' := h20
          try simp only [Bool.and_eq_false_iff, decide_eq_false_iff_not, Int.not_lt] at h20'
          have hR : M.taken r s player = [] := by unfold M.taken; rw [if_neg hl0, if_neg hcap1, if_pos hcap, if_neg (by simpa [and_assoc] using h20)]
          refine Js.skip ?_
          refine Js.blockEnd ?_
          refine Js.seq ?_
          refine Js.region ?_
          refine JL.q (OpP.q (p_move rfl)) ?_
          refine JL.q (OpP.q (p_assign rfl)) ?_
          refine JL.nil ?_
          refine Js.ret (R := RO w (Ty.ints 2 (M.taken r s player))) @Try.results144 (fun _ _ => rfl) (ResOk.tmp rfl ResOk.nil) (fun w1 hw => ?_)
          have hx := hw.ext (Up.refl _ _)
          exact ret_own (ps := [(0, (Value.ownBlock (.slice (some ⟨b4, 0, none⟩) 0 0)).toList)]) hw hx (ints_row (xs := []) (hw.pr (i := 0) rfl) (show [] = M.taken r s player by rw [hR])) (Pick.cons (j := 0) rfl (List.sublist_append_left _ _) rfl Pick.nil) (by simp [List.flatten, outV])
      ·
        have h17' := h17
        try simp only [decide_eq_false_iff_not] at h17'
        have hcap2 : ¬ r.capture = 2 := by simpa using h17
        refine Js.seq ?_
        refine Js.region ?_
        refine JL.q (OpP.q (p_eql rfl rfl)) ?_
        refine JL.q (OpP.q (p_assign rfl)) ?_
        refine JL.nil ?_
        refine Js.cond rfl (fun h26 => ?_) (fun h26 => ?_)
        ·
          have h26' := h26
          try simp only [decide_eq_true_eq] at h26'
          have hcap : r.capture = 3 := by simpa using h26
          refine Js.seq ?_
          refine Js.region ?_
          refine JL.q (OpP.q (p_move rfl)) ?_
          refine JL.q (OpP.q (p_not rfl)) ?_
          refine JL.q (OpP.q (p_move rfl)) ?_
          refine JL.g (Gd.t1 rfl rfl rfl) (fun hc => OpP.q (p_move rfl)) ?_
          refine JL.g (Gd.t1 rfl rfl rfl) (fun hc => OpP.q (p_nilCheck (gvt rfl hc))) ?_
          refine JL.g (Gd.t1 rfl rfl rfl) (fun hc => OpP.q (p_fieldAddr fld_129_0 (gvt rfl hc))) ?_
          refine JL.g (Gd.t1 rfl rfl rfl) (fun hc => q_load1 ty_24 (gvt rfl hc) (Mem.pub (hr2 0 _ rfl))) ?_
          refine JL.g (Gd.t1 rfl rfl rfl) (fun hc => OpP.q (p_move rfl)) ?_
          refine JL.g (Gd.t1 rfl rfl rfl) (fun hc => OpP.q (p_indexAddr el_24 (gvt rfl hc) (gvt rfl hc) (by have hc9 := hc; (try simp only [Bool.not_eq_true', decide_eq_false_iff_not] at hc9); omega) (by have hc9 := hc; (try simp only [Bool.not_eq_true', decide_eq_false_iff_not] at hc9); omega) rfl)) ?_
          refine JL.g (Gd.t1 rfl rfl rfl) (fun hc => q_load1 ty_2 (gvt rfl hc) (Mem.pub (ints_cellI (i := s.last) h2_0 (by have hc9 := hc; (try simp only [Bool.not_eq_true', decide_eq_false_iff_not] at hc9); omega)))) ?_
          refine JL.g (Gd.t1 rfl rfl rfl) (fun hc => OpP.q (p_rem (gvt rfl hc) rfl (by have hc9 := hc; (try simp only [Bool.not_eq_true', decide_eq_false_iff_not] at hc9); omega) (Int.tmod_eq_emod_of_nonneg (by have hc9 := hc; (try simp only [Bool.not_eq_true', decide_eq_false_iff_not] at hc9); omega)))) ?_
          refine JL.g (Gd.t1 rfl rfl rfl) (fun hc => OpP.q (p_eql (gvt rfl hc) rfl)) ?_
          refine JL.q (OpP.q (p_pickAnd rfl rfl rfl)) ?_
          refine JL.nil ?_
          refine Js.cond rfl (fun h28 => ?_) (fun h28 => ?_)
          ·
            have h28' := h28
            try simp only [Bool.and_eq_true, Bool.not_eq_true', decide_eq_false_iff_not, decide_eq_true_eq] at h28'
            have hR : M.taken r s player = [s.last] := by unfold M.taken; rw [if_neg hl0, if_neg hcap1, if_neg hcap2, if_pos hcap, if_pos (by simpa using h28)]
            refine Js.region ?_
            refine JL.q (OpP.q (p_move rfl)) ?_
            refine JL.q (OpP.q (p_move rfl)) ?_
            refine JL.e (e_buildSlice (vs := [.int .i64 s.last]) el_24 rfl rfl rfl rfl rfl rfl) ?_
            rintro _ _ _ ⟨b29, rfl, rfl, hl30, rfl⟩ _
            refine JL.e (e_append (i := 1) (n' := 1) (vs' := ints_ [s.last]) el_24 rfl rfl rfl rfl (src_row (i := 0) und_24 rfl rfl) (by omega) (by omega) (by first | omega | (simp only [List.length_append, List.length_cons, List.length_nil] <;> omega)) (by simp [ints_])) ?_
            rintro v31 _ _ ⟨⟨g32, rfl⟩, rfl⟩ _
            refine JL.fact (row_form' (i := 1) rfl) (fun hf33 => ?_)
            obtain ⟨A33, c33, rfl, bl33, bh33⟩ := hf33
            refine JL.q (OpP.q (p_assign rfl)) ?_
            refine JL.nil ?_
            refine Js.blockEnd ?_
            refine Js.seq ?_
            refine Js.region ?_
            refine JL.q (OpP.q (p_move rfl)) ?_
            refine JL.q (OpP.q (p_assign rfl)) ?_
            refine JL.nil ?_
            refine Js.ret (R := RO w (Ty.ints 2 (M.taken r s player))) @Try.results144 (fun _ _ => rfl) (ResOk.tmp rfl ResOk.nil) (fun w1 hw => ?_)
            have hx := hw.ext (Up.refl _ _)
            exact ret_own (ps := [(1, (Value.ownBlock (.slice A33 1 c33)).toList)]) hw hx (ints_row (xs := [s.last]) (hw.pr (i := 1) rfl) (show [s.last] = M.taken r s player by rw [hR])) (Pick.cons (j := 1) rfl (List.sublist_append_left _ _) rfl Pick.nil) (by simp [List.flatten, outV])
          ·
            have h28' := h28
            try simp only [Bool.and_eq_false_iff, Bool.not_eq_false', decide_eq_true_eq, decide_eq_false_iff_not] at h28'
            have hR : M.taken r s player = [] := by unfold M.taken; rw [if_neg hl0, if_neg hcap1, if_neg hcap2, if_pos hcap, if_neg (by simpa using h28)]
            refine Js.skip ?_
            refine Js.blockEnd ?_
            refine Js.seq ?_
            refine Js.region ?_
            refine JL.q (OpP.q (p_move rfl)) ?_
            refine JL.q (OpP.q (p_assign rfl)) ?_
            refine JL.nil ?_
            refine Js.ret (R := RO w (Ty.ints 2 (M.taken r s player))) @Try.results144 (fun _ _ => rfl) (ResOk.tmp rfl ResOk.nil) (fun w1 hw => ?_)
            have hx := hw.ext (Up.refl _ _)
            exact ret_own (ps := [(0, (Value.ownBlock (.slice (some ⟨b4, 0, none⟩) 0 0)).toList)]) hw hx (ints_row (xs := []) (hw.pr (i := 0) rfl) (show [] = M.taken r s player by rw [hR])) (Pick.cons (j := 0) rfl (List.sublist_append_left _ _) rfl Pick.nil) (by simp [List.flatten, outV])
        ·
          have h26' := h26
          try simp only [decide_eq_false_iff_not] at h26'
          have hcap3 : ¬ r.capture = 3 := by simpa using h26
          have hR : M.taken r s player = [] := by unfold M.taken; rw [if_neg hl0, if_neg hcap1, if_neg hcap2, if_neg hcap3]
          refine Js.skip ?_
          refine Js.blockEnd ?_
          refine Js.seq ?_
          refine Js.region ?_
          refine JL.q (OpP.q (p_move rfl)) ?_
          refine JL.q (OpP.q (p_assign rfl)) ?_
          refine JL.nil ?_
          refine Js.ret (R := RO w (Ty.ints 2 (M.taken r s player))) @Try.results144 (fun _ _ => rfl) (ResOk.tmp rfl ResOk.nil) (fun w1 hw => ?_)
          have hx := hw.ext (Up.refl _ _)
          exact ret_own (ps := [(0, (Value.ownBlock (.slice (some ⟨b4, 0, none⟩) 0 0)).toList)]) hw hx (ints_row (xs := []) (hw.pr (i := 0) rfl) (show [] = M.taken r s player by rw [hR])) (Pick.cons (j := 0) rfl (List.sublist_append_left _ _) rfl Pick.nil) (by simp [List.flatten, outV])

set_option maxRecDepth 100000 in
set_option maxHeartbeats 400000 in
theorem c_spec_l06Sum (s : M.Sw) (v_s : Value) (list : List Int) (v_list : Value) (w : World) (h_s : (Ty.ref (cSown s)).ok w v_s) (h_list : (Ty.ints 2 list).ok w v_list) (r0 : s.pits.length ≤ 16) (r1 : list.length ≤ 16) (r2 : ∀ x ∈ list, 0 ≤ x ∧ x < s.pits.length) (r3 : ∀ k : Int, 0 ≤ M.getI s.pits k ∧ M.getI s.pits k ≤ 96) : RetV Try.prog 147 [v_s, v_list] w (.int .i64 (M.isum (list.map (M.getI s.pits)))) := by
  obtain ⟨b1, o1, A1_0, c1_0, A1_1, c1_1, rfl, hr1, h1_0, h1_1, bl1_0, bh1_0, bl1_1, bh1_1⟩ := ref_Sown h_s
  obtain ⟨A2, c2, rfl, bl2, bh2⟩ := sl_form h_list
  refine enter @Try.func147 @Try.ntmps147 rfl rfl ?_
  refine Js.seq ?_
  refine Js.region ?_
  refine JL.q (OpP.q (p_assign rfl)) ?_
  refine JL.nil ?_
  refine Js.seq ?_
  refine Js.region ?_
  refine JL.q (OpP.q (p_assign rfl)) ?_
  refine JL.nil ?_
  refine Js.seq ?_
  refine Js.seq ?_
  refine Js.region ?_
  refine JL.q (OpP.q (p_assign rfl)) ?_
  refine JL.nil ?_
  refine Js.block ?_
  refine Js.loop (fun l os u m => ∃ (k : Nat) (t : Int), l = [(0, .pointer (some ⟨b1, o1, none⟩)), (1, .slice A2 list.length c2), (5, .int .i64 t), (6, .int .i64 (k : Int))] ∧ os = [] ∧ Up w.heap.size w u ∧ (t + M.isum ((list.drop k).map (M.getI s.pits)) = M.isum (list.map (M.getI s.pits))) ∧ (k ≤ list.length) ∧ (0 ≤ t) ∧ (t ≤ 96 * k) ∧ m = list.length - k) ⟨0, 0, rfl, rfl, Up.refl _ _, by simp, by first | assumption | omega | rfl | (simp; done), by first | assumption | omega | rfl | (simp; done), by first | assumption | omega | rfl | (simp; done), rfl⟩ ⟨rfl, rfl, rfl, rfl, trivial⟩ ?_
  · rintro _ _ u3 _ ⟨k, t, rfl, rfl, x3, hS, hk, t0, t1, rfl⟩
    refine Js.seq ?_
    refine Js.seq ?_
    refine Js.region ?_
    refine JL.q (OpP.q (p_move rfl)) ?_
    refine JL.q (OpP.q (p_move rfl)) ?_
    refine JL.q (OpP.q (p_len el_24 rfl)) ?_
    refine JL.q (OpP.q (p_lss rfl rfl)) ?_
    refine JL.nil ?_
    refine Js.cond rfl (fun h4 => ?_) (fun h4 => ?_)
    ·
      have h4' := h4
      try simp only [decide_eq_true_eq] at h4'
      have hk2 : k < list.length := by have := h4'; omega
      have hx := r2 _ (M.nth_mem hk2)
      have hv := r3 (M.nth list k)
      simp only [M.getI] at hv
      have hS2 := hS
      rw [M.drop_nth hk2, List.map_cons, M.isum_cons, ← Int.add_assoc] at hS2
      refine Js.skip ?_
      refine Js.seq ?_
      refine Js.block ?_
      refine Js.drawn _ [] mixed_ (fun _ h => h) ?_
      refine JH.p 0 rfl (p_move rfl) ?_
      refine JH.p 1 rfl (p_move rfl) ?_
      refine JH.p 2 rfl (p_nilCheck rfl) ?_
      refine JH.p 3 rfl (p_fieldAddr fld_129_0 rfl) ?_
      refine JH.w 4 rfl (fun os' u' hv => q_load1 ty_24 rfl (Mem.pub ((hr1.vis (x3.vis.trans hv)) 0 _ rfl))) ?_
      refine JH.p 5 rfl (p_move rfl) ?_
      refine JH.p 6 rfl (p_move rfl) ?_
      obtain ⟨b5, o5, he5, hc5⟩ := ints_elem (Ty.mono _ h_list x3.vis) (i := k) (by omega)
      refine JH.p 7 rfl (p_indexAddr el_24 rfl rfl (by omega) (by omega) he5) ?_
      refine JH.w 8 rfl (fun os' u' hv => q_load1 ty_2 rfl (Mem.pub (hc5.vis hv))) ?_
      obtain ⟨b6, o6, he6, hc6⟩ := ints_elem (Ty.mono _ h1_0 x3.vis) (i := (M.nth list k).toNat) (by omega)
      refine JH.p 9 rfl (p_indexAddr el_24 rfl rfl (by omega) (by omega) he6) ?_
      refine JH.w 10 rfl (fun os' u' hv => q_load1 ty_2 rfl (Mem.pub (hc6.vis hv))) ?_
      refine JH.p 11 rfl (p_add rfl rfl (IntWalk.i64_in _ (by omega))) ?_
      refine JH.p 12 rfl (p_assign rfl) ?_
      refine JH.done (by kernel_rfl) ?_
      refine Js.blockEnd ?_
      refine Js.region ?_
      refine JL.q (OpP.q (p_move rfl)) ?_
      refine JL.q (OpP.q (p_add rfl rfl (IntWalk.i64_in _ (by omega)))) ?_
      refine JL.q (OpP.q (p_assign rfl)) ?_
      refine JL.nil ?_
      exact Js.again ⟨k + 1, t + (M.nth s.pits ((M.nth list k).toNat)), rfl, rfl, x3, by exact hS2, by first | assumption | omega | rfl | (simp; done), by first | assumption | omega | rfl | (simp; done), by first | assumption | omega | rfl | (simp; done), rfl⟩ (by omega) ⟨rfl, rfl, rfl, rfl, trivial⟩
    ·
      have h4' := h4
      try simp only [decide_eq_false_iff_not, Int.not_lt] at h4'
      have hT : M.isum (list.map (M.getI s.pits)) = t := by rw [← hS, List.drop_eq_nil_of_le (by have := h4'; omega)]; simp
      refine Js.exit (fun _ _ => rfl) ?_
      refine Js.seq ?_
      refine Js.region ?_
      refine JL.q (OpP.q (p_move rfl)) ?_
      refine JL.q (OpP.q (p_assign rfl)) ?_
      refine JL.nil ?_
      refine Js.ret (R := RV w (.int .i64 (M.isum (list.map (M.getI s.pits))))) @Try.results147 (fun _ _ => rfl) (ResOk.tmp rfl ResOk.nil) (fun w1 hw => ?_)
      refine ⟨?_, hw.ext (x3)⟩
      rw [hT]; rfl

set_option maxRecDepth 100000 in
set_option maxHeartbeats 400000 in
theorem c_spec_l06Slam (r : M.Rul) (v_r : Value) (s : M.Sw) (v_s : Value) (player : Int) (w : World) (h_r : (Ty.ref (cRules r)).ok w v_r) (h_s : (Ty.ref (cSown s)).ok w v_s) (r0 : 2 ≤ r.pits) (r1 : r.pits ≤ 8) (r2 : player = 0 ∨ player = 1) (r3 : M.Good r s.pits s.stores 0) (r4 : -1 ≤ s.last) (r5 : s.last < 2 * r.pits) : RetV Try.prog 127 [v_r, v_s, .int .i64 player] w (.bool (M.slams r s player)) := by
  have l1 := r3.lp
  have l2 := r3.ls
  have hao := M.Good.ok r3
  have hlen := M.taken_len (s := s) (player := player) r5 r1
  obtain ⟨b1, o1, rfl, hr1⟩ := ref_Rules h_r
  obtain ⟨b2, o2, A2_0, c2_0, A2_1, c2_1, rfl, hr2, h2_0, h2_1, bl2_0, bh2_0, bl2_1, bh2_1⟩ := ref_Sown h_s
  obtain ⟨b3, o3, rfl⟩ := ints_some h2_0 (by omega)
  refine enter @Try.func127 @Try.ntmps127 rfl rfl ?_
  refine Js.seq ?_
  refine Js.region ?_
  refine JL.q (OpP.q (p_assign rfl)) ?_
  refine JL.nil ?_
  refine Js.seq ?_
  refine Js.region ?_
  refine JL.q (OpP.q (p_move rfl)) ?_
  refine JL.q (OpP.q (p_move rfl)) ?_
  refine JL.q (OpP.q (p_move rfl)) ?_
  refine JL.e (e_callP fn_144 rfl (fun w hw => c_spec_l06Raw r _ s _ player w ⟨_, _, [.int .i64 r.pits, .int .i64 r.seeds, .bool r.stores, .bool r.skip, .bool r.relay, .bool r.feed, .bool r.again, .int .i64 r.capture, .int .i64 r.slam], rfl, ⟨rfl, rfl, rfl, rfl, rfl, rfl, rfl, rfl, rfl, trivial⟩, (hr1.vis hw.vis)⟩ ⟨_, _, [.slice (some ⟨b3, o3, none⟩) s.pits.length c2_0, .slice A2_1 s.stores.length c2_1, .int .i64 s.last, .int .i64 s.laps], rfl, ⟨(Ty.mono _ h2_0 hw.vis), (Ty.mono _ h2_1 hw.vis), rfl, rfl, trivial⟩, (hr2.vis hw.vis)⟩ (by omega) (by omega) (by omega) r3 (by omega) (by omega))) ?_
  rintro v4 _ u6 ⟨h5, rfl⟩ x6
  obtain ⟨A7, c7, rfl, bl7, bh7⟩ := sl_form h5
  refine JL.q (OpP.q (p_assign rfl)) ?_
  refine JL.nil ?_
  refine Js.seq ?_
  refine Js.region ?_
  refine JL.q (OpP.q (p_assign rfl)) ?_
  refine JL.nil ?_
  refine Js.seq ?_
  refine Js.seq ?_
  refine Js.region ?_
  refine JL.q (OpP.q (p_assign rfl)) ?_
  refine JL.nil ?_
  refine Js.block ?_
  refine Js.loop (fun l os u m => ∃ (k : Nat) (g : Int), l = [(0, .pointer (some ⟨b1, o1, none⟩)), (1, .pointer (some ⟨b2, o2, none⟩)), (2, .int .i64 player), (7, .slice A7 ((M.taken r s player).length) c7), (8, .int .i64 g), (9, .int .i64 (k : Int))] ∧ os = [] ∧ Up w.heap.size u6 u ∧ (g + M.gone r s player ((M.taken r s player).drop k) = M.gone r s player (M.taken r s player)) ∧ (k ≤ (M.taken r s player).length) ∧ (0 ≤ g) ∧ (g ≤ 96 * k) ∧ m = (M.taken r s player).length - k) ⟨0, 0, rfl, rfl, Up.refl _ _, by simp, by first | assumption | omega | rfl | (simp; done), by first | assumption | omega | rfl | (simp; done), by first | assumption | omega | rfl | (simp; done), rfl⟩ ⟨rfl, rfl, rfl, rfl, rfl, rfl, trivial⟩ ?_
  · rintro _ _ u8 _ ⟨k, g, rfl, rfl, x8, hS, hk, g0, g1, rfl⟩
    refine Js.seq ?_
    refine Js.seq ?_
    refine Js.region ?_
    refine JL.q (OpP.q (p_move rfl)) ?_
    refine JL.q (OpP.q (p_move rfl)) ?_
    refine JL.q (OpP.q (p_len el_24 rfl)) ?_
    refine JL.q (OpP.q (p_lss rfl rfl)) ?_
    refine JL.nil ?_
    refine Js.cond rfl (fun h9 => ?_) (fun h9 => ?_)
    ·
      have h9' := h9
      try simp only [decide_eq_true_eq] at h9'
      have hk2 : k < (M.taken r s player).length := by have := h9'; omega
      have hx := M.taken_mem (r := r) (s := s) (player := player) r5 (M.nth_mem hk2)
      have hvx := r3.pit (M.nth (M.taken r s player) k)
      have hS1 := hS
      rw [M.drop_nth hk2, M.gone_cons] at hS1
      refine Js.skip ?_
      refine Js.seq ?_
      refine Js.block ?_
      refine Js.seq ?_
      refine Js.region ?_
      refine JL.q (OpP.q (p_move rfl)) ?_
      refine JL.q (OpP.q (p_move rfl)) ?_
      refine JL.q (OpP.q (p_move rfl)) ?_
      obtain ⟨b10, o10, he10, hc10⟩ := ints_elem (Ty.mono _ h5 x8.vis) (i := k) (by omega)
      refine JL.q (OpP.q (p_indexAddr el_24 rfl rfl (by omega) (by omega) he10)) ?_
      refine JL.q (q_load1 ty_2 rfl (Mem.pub hc10)) ?_
      refine JL.e (e_callV fn_145 rfl (fun w hw => c_spec_l02Owner r _ (M.nth (M.taken r s player) k) w ⟨_, _, [.int .i64 r.pits, .int .i64 r.seeds, .bool r.stores, .bool r.skip, .bool r.relay, .bool r.feed, .bool r.again, .int .i64 r.capture, .int .i64 r.slam], rfl, ⟨rfl, rfl, rfl, rfl, rfl, rfl, rfl, rfl, rfl, trivial⟩, (hr1.vis ((x6.vis.trans x8.vis).trans hw.vis))⟩ (by omega) (by omega) (by omega) (by omega))) ?_
      rintro _ _ _ ⟨rfl, rfl, rfl⟩ _
      refine JL.q (OpP.q (p_move rfl)) ?_
      refine JL.q (OpP.q (p_neq rfl rfl)) ?_
      refine JL.nil ?_
      refine Js.cond rfl (fun h11 => ?_) (fun h11 => ?_)
      ·
        have h11' := h11
        try simp only [Bool.not_eq_true', decide_eq_false_iff_not] at h11'
        have hS2 : (g + M.getI s.pits (M.nth (M.taken r s player) k)) + M.gone r s player ((M.taken r s player).drop (k + 1)) = M.gone r s player (M.taken r s player) := by rw [if_neg (by simpa using h11)] at hS1; omega
        refine Js.drawn _ [] mixed_ (fun _ h => h) ?_
        refine JH.p 0 rfl (p_move rfl) ?_
        refine JH.p 1 rfl (p_move rfl) ?_
        refine JH.p 2 rfl (p_nilCheck rfl) ?_
        refine JH.p 3 rfl (p_fieldAddr fld_129_0 rfl) ?_
        refine JH.w 4 rfl (fun os' u' hv => q_load1 ty_24 rfl (Mem.pub ((hr2.vis ((x6.vis.trans x8.vis).trans hv)) 0 _ rfl))) ?_
        refine JH.p 5 rfl (p_move rfl) ?_
        refine JH.p 6 rfl (p_move rfl) ?_
        obtain ⟨b12, o12, he12, hc12⟩ := ints_elem (Ty.mono _ h5 x8.vis) (i := k) (by omega)
        refine JH.p 7 rfl (p_indexAddr el_24 rfl rfl (by omega) (by omega) he12) ?_
        refine JH.w 8 rfl (fun os' u' hv => q_load1 ty_2 rfl (Mem.pub (hc12.vis hv))) ?_
        refine JH.p 9 rfl (p_indexAddr el_24 rfl rfl (by omega) (by omega) rfl) ?_
        refine JH.w 10 rfl (fun os' u' hv => q_load1 ty_2 rfl (Mem.pub (ints_cellI (i := M.nth (M.taken r s player) k) (Ty.mono _ h2_0 ((x6.vis.trans x8.vis).trans hv)) (by omega)))) ?_
        refine JH.p 11 rfl (p_add rfl rfl (IntWalk.i64_in _ (by omega))) ?_
        refine JH.p 12 rfl (p_assign rfl) ?_
        refine JH.done (by kernel_rfl) ?_
        refine Js.blockEnd ?_
        refine Js.region ?_
        refine JL.q (OpP.q (p_move rfl)) ?_
        refine JL.q (OpP.q (p_add rfl rfl (IntWalk.i64_in _ (by omega)))) ?_
        refine JL.q (OpP.q (p_assign rfl)) ?_
        refine JL.nil ?_
        exact Js.again ⟨k + 1, g + (M.getI s.pits (M.nth (M.taken r s player) k)), rfl, rfl, x8, by exact hS2, by first | assumption | omega | rfl | (simp; done), by first | assumption | omega | rfl | (simp; done), by first | assumption | omega | rfl | (simp; done), rfl⟩ (by omega) ⟨rfl, rfl, rfl, rfl, rfl, rfl, trivial⟩
      ·
        have h11' := h11
        try simp only [Bool.not_eq_false', decide_eq_true_eq] at h11'
        have hS2 : g + M.gone r s player ((M.taken r s player).drop (k + 1)) = M.gone r s player (M.taken r s player) := by rw [if_pos (by simpa using h11)] at hS1; omega
        refine Js.skip ?_
        refine Js.blockEnd ?_
        refine Js.region ?_
        refine JL.q (OpP.q (p_move rfl)) ?_
        refine JL.q (OpP.q (p_add rfl rfl (IntWalk.i64_in _ (by omega)))) ?_
        refine JL.q (OpP.q (p_assign rfl)) ?_
        refine JL.nil ?_
        exact Js.again ⟨k + 1, g, rfl, rfl, x8, by exact hS2, by first | assumption | omega | rfl | (simp; done), by first | assumption | omega | rfl | (simp; done), by first | assumption | omega | rfl | (simp; done), rfl⟩ (by omega) ⟨rfl, rfl, rfl, rfl, rfl, rfl, trivial⟩
    ·
      have h9' := h9
      try simp only [decide_eq_false_iff_not, Int.not_lt] at h9'
      have hg : g = M.gone r s player (M.taken r s player) := by rw [← hS, List.drop_eq_nil_of_le (by have := h9'; omega), M.gone_nil]; omega
      refine Js.exit (fun _ _ => rfl) ?_
      refine Js.seq ?_
      refine Js.region ?_
      refine JL.q (OpP.q (p_move rfl)) ?_
      refine JL.q (OpP.q (p_gtr rfl rfl)) ?_
      refine JL.q (OpP.q (p_move rfl)) ?_
      refine JL.g (Gd.t1 rfl rfl rfl) (fun hc => OpP.q (p_move rfl)) ?_
      refine JL.g (Gd.t1 rfl rfl rfl) (fun hc => OpP.q (p_move rfl)) ?_
      refine JL.g (Gd.t1 rfl rfl rfl) (fun hc => OpP.q (p_move rfl)) ?_
      refine JL.g (Gd.t1 rfl rfl rfl) (fun hc => OpP.q (p_nilCheck (gvt rfl hc))) ?_
      refine JL.g (Gd.t1 rfl rfl rfl) (fun hc => OpP.q (p_fieldAddr fld_129_0 (gvt rfl hc))) ?_
      refine JL.g (Gd.t1 rfl rfl rfl) (fun hc => q_load1 ty_24 (gvt rfl hc) (Mem.pub ((hr2.vis (x6.vis.trans x8.vis)) 0 _ rfl))) ?_
      refine JL.g (Gd.t1 rfl rfl rfl) (fun hc => OpP.q (p_move rfl)) ?_
      refine JL.g (Gd.t1 rfl rfl rfl) (fun hc => OpP.q (p_sub rfl (gvt rfl hc) (IntWalk.i64_in _ (by have hc9 := hc; (try simp only [decide_eq_true_eq] at hc9); omega)))) ?_
      refine JL.ge (Gd.t1 rfl rfl rfl) (fun hc => e_callV fn_130 (opds_3 (gvt rfl hc) (gvt rfl hc) (gvt rfl hc)) (fun w hw => c_spec_l04Side r _ s.pits _ (1 - player) w ⟨_, _, [.int .i64 r.pits, .int .i64 r.seeds, .bool r.stores, .bool r.skip, .bool r.relay, .bool r.feed, .bool r.again, .int .i64 r.capture, .int .i64 r.slam], rfl, ⟨rfl, rfl, rfl, rfl, rfl, rfl, rfl, rfl, rfl, trivial⟩, (hr1.vis ((x6.vis.trans x8.vis).trans hw.vis))⟩ (Ty.mono _ h2_0 ((x6.vis.trans x8.vis).trans hw.vis)) (by have hc9 := hc; (try simp only [decide_eq_true_eq] at hc9); omega) (by have hc9 := hc; (try simp only [decide_eq_true_eq] at hc9); omega) (by have hc9 := hc; (try simp only [decide_eq_true_eq] at hc9); omega) (by have hc9 := hc; (try simp only [decide_eq_true_eq] at hc9); omega) hao.1)) ?_
      refine JL.g (Gd.t1 rfl rfl rfl) (fun hc => OpP.q (p_eql (gvt rfl hc) (gvt rfl hc))) ?_
      refine JL.q (OpP.q (p_pickAnd rfl rfl rfl)) ?_
      refine JL.q (OpP.q (p_assign rfl)) ?_
      refine JL.nil ?_
      refine Js.ret (R := RV w (.bool (M.slams r s player))) @Try.results127 (fun _ _ => rfl) (ResOk.tmp rfl ResOk.nil) (fun w1 hw => ?_)
      refine ⟨?_, hw.ext ((x6.trans x8))⟩
      subst hg; simp [outV, M.slams, eq_comm]

set_option maxRecDepth 100000 in
set_option maxHeartbeats 400000 in
theorem c_spec_l06Pits (r : M.Rul) (v_r : Value) (s : M.Sw) (v_s : Value) (player : Int) (w : World) (h_r : (Ty.ref (cRules r)).ok w v_r) (h_s : (Ty.ref (cSown s)).ok w v_s) (r0 : 2 ≤ r.pits) (r1 : r.pits ≤ 8) (r2 : player = 0 ∨ player = 1) (r3 : M.Good r s.pits s.stores 0) (r4 : -1 ≤ s.last) (r5 : s.last < 2 * r.pits) : Ret Try.prog 146 [v_r, v_s, .int .i64 player] w (Ty.ints 2 (M.captured r s player)) := by
  obtain ⟨b1, o1, rfl, hr1⟩ := ref_Rules h_r
  obtain ⟨b2, o2, A2_0, c2_0, A2_1, c2_1, rfl, hr2, h2_0, h2_1, bl2_0, bh2_0, bl2_1, bh2_1⟩ := ref_Sown h_s
  refine enter @Try.func146 @Try.ntmps146 rfl rfl ?_
  refine Js.seq ?_
  refine Js.region ?_
  refine JL.q (OpP.q (p_assign rfl)) ?_
  refine JL.nil ?_
  refine Js.seq ?_
  refine Js.seq ?_
  refine Js.region ?_
  refine JL.q (OpP.q (p_move rfl)) ?_
  refine JL.q (OpP.q (p_nilCheck rfl)) ?_
  refine JL.q (OpP.q (p_fieldAddr fld_32_8 rfl)) ?_
  refine JL.q (q_load1 ty_2 rfl (Mem.pub (hr1 8 _ rfl))) ?_
  refine JL.q (OpP.q (p_eql rfl rfl)) ?_
  refine JL.q (OpP.q (p_move rfl)) ?_
  refine JL.g (Gd.t1 rfl rfl rfl) (fun hc => OpP.q (p_move rfl)) ?_
  refine JL.g (Gd.t1 rfl rfl rfl) (fun hc => OpP.q (p_move rfl)) ?_
  refine JL.g (Gd.t1 rfl rfl rfl) (fun hc => OpP.q (p_move rfl)) ?_
  refine JL.ge (Gd.t1 rfl rfl rfl) (fun hc => e_callV fn_127 (opds_3 (gvt rfl hc) (gvt rfl hc) (gvt rfl hc)) (fun w hw => c_spec_l06Slam r _ s _ player w ⟨_, _, [.int .i64 r.pits, .int .i64 r.seeds, .bool r.stores, .bool r.skip, .bool r.relay, .bool r.feed, .bool r.again, .int .i64 r.capture, .int .i64 r.slam], rfl, ⟨rfl, rfl, rfl, rfl, rfl, rfl, rfl, rfl, rfl, trivial⟩, (hr1.vis hw.vis)⟩ ⟨_, _, [.slice A2_0 s.pits.length c2_0, .slice A2_1 s.stores.length c2_1, .int .i64 s.last, .int .i64 s.laps], rfl, ⟨(Ty.mono _ h2_0 hw.vis), (Ty.mono _ h2_1 hw.vis), rfl, rfl, trivial⟩, (hr2.vis hw.vis)⟩ (by have hc9 := hc; (try simp only [decide_eq_true_eq] at hc9); omega) (by have hc9 := hc; (try simp only [decide_eq_true_eq] at hc9); omega) (by have hc9 := hc; (try simp only [decide_eq_true_eq] at hc9); omega) r3 (by have hc9 := hc; (try simp only [decide_eq_true_eq] at hc9); omega) (by have hc9 := hc; (try simp only [decide_eq_true_eq] at hc9); omega))) ?_
  refine JL.q (OpP.q (p_pickAnd rfl rfl rfl)) ?_
  refine JL.nil ?_
  refine Js.cond rfl (fun h3 => ?_) (fun h3 => ?_)
  ·
    have h3' := h3
    try simp only [Bool.and_eq_true, decide_eq_true_eq] at h3'
    have hR : M.captured r s player = [] := by unfold M.captured; rw [if_pos (by simpa using h3)]
    refine Js.seq ?_
    refine Js.region ?_
    refine JL.e (e_buildSlice (vs := []) el_24 rfl rfl rfl rfl rfl rfl) ?_
    rintro _ _ _ ⟨b4, rfl, rfl, hl5, rfl⟩ _
    refine JL.q (OpP.q (p_assign rfl)) ?_
    refine JL.nil ?_
    refine Js.ret (R := RO w (Ty.ints 2 (M.captured r s player))) @Try.results146 (fun _ _ => rfl) (ResOk.tmp rfl ResOk.nil) (fun w1 hw => ?_)
    have hx := hw.ext (Up.refl _ _)
    exact ret_own (ps := [(0, (Value.ownBlock (.slice (some ⟨b4, 0, none⟩) 0 0)).toList)]) hw hx (ints_row (xs := []) (hw.pr (i := 0) rfl) (show [] = M.captured r s player by rw [hR])) (Pick.cons (j := 0) rfl (List.sublist_append_left _ _) rfl Pick.nil) (by simp [List.flatten, outV])
  ·
    have h3' := h3
    try simp only [Bool.and_eq_false_iff, decide_eq_false_iff_not] at h3'
    have hR : M.captured r s player = M.taken r s player := by unfold M.captured; rw [if_neg (by simpa using h3)]
    refine Js.skip ?_
    refine Js.seq ?_
    refine Js.region ?_
    refine JL.q (OpP.q (p_move rfl)) ?_
    refine JL.q (OpP.q (p_move rfl)) ?_
    refine JL.q (OpP.q (p_move rfl)) ?_
    refine JL.e (e_callO fn_144 rfl (Spl.ints _ _) (fun w hw => c_spec_l06Raw r _ s _ player w ⟨_, _, [.int .i64 r.pits, .int .i64 r.seeds, .bool r.stores, .bool r.skip, .bool r.relay, .bool r.feed, .bool r.again, .int .i64 r.capture, .int .i64 r.slam], rfl, ⟨rfl, rfl, rfl, rfl, rfl, rfl, rfl, rfl, rfl, trivial⟩, (hr1.vis hw.vis)⟩ ⟨_, _, [.slice A2_0 s.pits.length c2_0, .slice A2_1 s.stores.length c2_1, .int .i64 s.last, .int .i64 s.laps], rfl, ⟨(Ty.mono _ h2_0 hw.vis), (Ty.mono _ h2_1 hw.vis), rfl, rfl, trivial⟩, (hr2.vis hw.vis)⟩ (by omega) (by omega) (by omega) r3 (by omega) (by omega))) ?_
    rintro v6 _ _ ⟨_, hR7, rfl, rfl⟩ _
    obtain ⟨A8, c8, rfl, rfl, bl8, bh8⟩ := hR7
    refine JL.q (OpP.q (p_assign rfl)) ?_
    refine JL.nil ?_
    refine Js.ret (R := RO w (Ty.ints 2 (M.captured r s player))) @Try.results146 (fun _ _ => rfl) (ResOk.tmp rfl ResOk.nil) (fun w1 hw => ?_)
    have hx := hw.ext (Up.refl _ _)
    exact ret_own (ps := [(0, (Value.ownBlock (.slice A8 ((M.taken r s player).length) c8)).toList)]) hw hx (ints_row (xs := (M.taken r s player)) (hw.pr (i := 0) rfl) (show M.taken r s player = M.captured r s player by rw [hR])) (Pick.cons (j := 0) rfl (List.sublist_append_left _ _) rfl Pick.nil) (by simp [List.flatten, outV])

set_option maxRecDepth 100000 in
set_option maxHeartbeats 400000 in
theorem c_spec_l06Take (r : M.Rul) (v_r : Value) (s : M.Sw) (v_s : Value) (player : Int) (w : World) (h_r : (Ty.ref (cRules r)).ok w v_r) (h_s : (Ty.ref (cSown s)).ok w v_s) (r0 : 2 ≤ r.pits) (r1 : r.pits ≤ 8) (r2 : player = 0 ∨ player = 1) (r3 : M.Good r s.pits s.stores 0) (r4 : -1 ≤ s.last) (r5 : s.last < 2 * r.pits) : Ret Try.prog 128 [v_r, v_s, .int .i64 player] w (Ty.agg (cSown (M.take r s player))) := by
  have l1 := r3.lp
  have l2 := r3.ls
  have hlen := M.captured_len (s := s) (player := player) r5 r1
  have hmem : ∀ x ∈ (M.captured r s player), 0 ≤ x ∧ x < s.pits.length := fun x hx => by have := M.captured_mem r5 hx; omega
  have hbs := r3.store player
  have hbi := M.cap_sum (r := r) (s := s) (player := player) r3 r5
  obtain ⟨b1, o1, rfl, hr1⟩ := ref_Rules h_r
  obtain ⟨b2, o2, A2_0, c2_0, A2_1, c2_1, rfl, hr2, h2_0, h2_1, bl2_0, bh2_0, bl2_1, bh2_1⟩ := ref_Sown h_s
  obtain ⟨b3, o3, rfl⟩ := ints_some h2_0 (by omega)
  obtain ⟨b4, o4, rfl⟩ := ints_some h2_1 (by omega)
  refine enter @Try.func128 @Try.ntmps128 rfl rfl ?_
  refine Js.seq ?_
  refine Js.region ?_
  refine JL.e (e_alloc zero_129) ?_
  rintro _ _ _ ⟨b5, rfl, rfl, rfl⟩ _
  refine JL.nil ?_
  refine Js.seq ?_
  refine Js.region ?_
  refine JL.q (OpP.q (p_move rfl)) ?_
  refine JL.q (OpP.q (p_move rfl)) ?_
  refine JL.q (OpP.q (p_move rfl)) ?_
  refine JL.e (e_callP fn_146 rfl (fun w hw => c_spec_l06Pits r _ s _ player w ⟨_, _, [.int .i64 r.pits, .int .i64 r.seeds, .bool r.stores, .bool r.skip, .bool r.relay, .bool r.feed, .bool r.again, .int .i64 r.capture, .int .i64 r.slam], rfl, ⟨rfl, rfl, rfl, rfl, rfl, rfl, rfl, rfl, rfl, trivial⟩, (hr1.vis hw.vis)⟩ ⟨_, _, [.slice (some ⟨b3, o3, none⟩) s.pits.length c2_0, .slice (some ⟨b4, o4, none⟩) s.stores.length c2_1, .int .i64 s.last, .int .i64 s.laps], rfl, ⟨(Ty.mono _ h2_0 hw.vis), (Ty.mono _ h2_1 hw.vis), rfl, rfl, trivial⟩, (hr2.vis hw.vis)⟩ (by omega) (by omega) (by omega) r3 (by omega) (by omega))) ?_
  rintro v6 _ u8 ⟨h7, rfl⟩ x8
  obtain ⟨A9, c9, rfl, bl9, bh9⟩ := sl_form h7
  refine JL.q (OpP.q (p_assign rfl)) ?_
  refine JL.nil ?_
  refine Js.seq ?_
  refine Js.cut (fun l os u => ∃ (b16 : Nat) (A12 : Option Addr) (c12 : Nat) (A15 : Option Addr) (c15 : Nat), l = [(1, .pointer (some ⟨b2, o2, none⟩)), (2, .int .i64 player), (6, .pointer (some ⟨b5, 0, none⟩)), (7, .slice A9 ((M.captured r s player).length) c9), (8, .pointer (some ⟨b16, 0, none⟩))] ∧ os = [boxO b16 [.slice A12 s.pits.length c12, .slice A15 s.stores.length c15, .int .i64 s.last, .int .i64 s.laps] 129, rowO 2 1 (.slice A15 s.stores.length c15) s.stores.length (ints_ s.stores) [], rowO 2 1 (.slice A12 s.pits.length c12) s.pits.length (ints_ s.pits) [], boxO b5 [.slice none 0 0, .slice none 0 0, .int .i64 0, .int .i64 0] 129] ∧ Up w.heap.size u8 u ∧ (s.pits.length ≤ c12) ∧ (c12 ≤ 9223372036854775807) ∧ (s.stores.length ≤ c15) ∧ (c15 ≤ 9223372036854775807)) ?_ ?_
  ·
    refine Js.drawn _ [20] mixed_ (fun _ h => h) ?_
    refine JH.p 0 rfl (p_move rfl) ?_
    refine JH.p 1 rfl (p_nilCheck rfl) ?_
    refine JH.p 2 rfl (p_fieldAddr fld_129_0 rfl) ?_
    refine JH.w 3 rfl (fun os' u' hv => q_load1 ty_24 rfl (Mem.pub ((hr2.vis (x8.vis.trans hv)) 0 _ rfl))) ?_
    refine JH.p 5 rfl (p_move rfl) ?_
    refine JH.p 6 rfl (p_nilCheck rfl) ?_
    refine JH.p 7 rfl (p_fieldAddr fld_129_1 rfl) ?_
    refine JH.w 8 rfl (fun os' u' hv => q_load1 ty_24 rfl (Mem.pub ((hr2.vis (x8.vis.trans hv)) 1 _ rfl))) ?_
    refine JH.p 10 rfl (p_move rfl) ?_
    refine JH.p 11 rfl (p_nilCheck rfl) ?_
    refine JH.p 12 rfl (p_fieldAddr fld_129_2 rfl) ?_
    refine JH.w 13 rfl (fun os' u' hv => q_load1 ty_2 rfl (Mem.pub ((hr2.vis (x8.vis.trans hv)) 2 _ rfl))) ?_
    refine JH.p 14 rfl (p_move rfl) ?_
    refine JH.p 15 rfl (p_nilCheck rfl) ?_
    refine JH.p 16 rfl (p_fieldAddr fld_129_3 rfl) ?_
    refine JH.w 17 rfl (fun os' u' hv => q_load1 ty_2 rfl (Mem.pub ((hr2.vis (x8.vis.trans hv)) 3 _ rfl))) ?_
    refine JH.all (rs := [4, 19]) (by kernel_rfl) rfl ⟨?_, ?_, trivial⟩
    ·
      refine JHo.e rfl (e_callO fn_80 rfl (Spl.ints _ _) (fun w hw => c_spec_l00Own s.pits _ w (Ty.mono _ h2_0 (x8.vis.trans hw.vis)) (by omega))) (.inl rfl) ?_
      rintro v29 _ _ ⟨_, hR30, rfl, rfl⟩ _
      obtain ⟨A31, c31, rfl, rfl, bl31, bh31⟩ := hR30
      refine JH.all (rs := [9, 19]) (by kernel_rfl) rfl ⟨?_, ?_, trivial⟩
      ·
        refine JHo.e rfl (e_callO fn_80 rfl (Spl.ints _ _) (fun w hw => c_spec_l00Own s.stores _ w (Ty.mono _ h2_1 (x8.vis.trans hw.vis)) (by omega))) (.inl rfl) ?_
        rintro v32 _ _ ⟨_, hR33, rfl, rfl⟩ _
        obtain ⟨A34, c34, rfl, rfl, bl34, bh34⟩ := hR33
        refine JH.p 18 rfl (p_build zero_129 flds_129 rfl rfl) ?_
        refine JH.one (i := 19) (by kernel_rfl) ?_
        refine JHo.e rfl (e_alloc zero_129) (.inl rfl) ?_
        rintro _ _ _ ⟨b35, rfl, rfl, rfl⟩ _
        refine JH.one (i := 20) (by kernel_rfl) ?_
        refine JHo.s rfl (e_store (i := 0) (c' := [.slice A31 s.pits.length c31, .slice A34 s.stores.length c34, .int .i64 s.last, .int .i64 s.laps]) ty_129 rfl rfl rfl rfl rfl rfl rfl rfl) (.inr rfl) ?_
        rintro _ _ _ ⟨rfl, rfl⟩ _
        refine JH.done (by kernel_rfl) ?_
        exact Js.meet ⟨_, _, _, _, _, rfl, rfl, Up.refl _ _, by omega, by omega, by omega, by omega⟩ ⟨rfl, rfl, rfl, rfl, rfl, trivial⟩
      ·
        refine JHo.e rfl (e_alloc zero_129) (.inl rfl) ?_
        rintro _ _ _ ⟨b36, rfl, rfl, rfl⟩ _
        refine JH.one (i := 9) (by kernel_rfl) ?_
        refine JHo.e rfl (e_callO fn_80 rfl (Spl.ints _ _) (fun w hw => c_spec_l00Own s.stores _ w (Ty.mono _ h2_1 (x8.vis.trans hw.vis)) (by omega))) (.inl rfl) ?_
        rintro v37 _ _ ⟨_, hR38, rfl, rfl⟩ _
        obtain ⟨A39, c39, rfl, rfl, bl39, bh39⟩ := hR38
        refine JH.p 18 rfl (p_build zero_129 flds_129 rfl rfl) ?_
        refine JH.one (i := 20) (by kernel_rfl) ?_
        refine JHo.s rfl (e_store (i := 1) (c' := [.slice A31 s.pits.length c31, .slice A39 s.stores.length c39, .int .i64 s.last, .int .i64 s.laps]) ty_129 rfl rfl rfl rfl rfl rfl rfl rfl) (.inr rfl) ?_
        rintro _ _ _ ⟨rfl, rfl⟩ _
        refine JH.done (by kernel_rfl) ?_
        refine Js.front (i := 3) rfl ?_
        refine Js.front (i := 3) rfl ?_
        refine Js.front (i := 2) rfl ?_
        refine Js.front (i := 3) rfl ?_
        exact Js.meet ⟨_, _, _, _, _, rfl, rfl, Up.refl _ _, by omega, by omega, by omega, by omega⟩ ⟨rfl, rfl, rfl, rfl, rfl, trivial⟩
    ·
      refine JHo.e rfl (e_alloc zero_129) (.inl rfl) ?_
      rintro _ _ _ ⟨b40, rfl, rfl, rfl⟩ _
      refine JH.one (i := 4) (by kernel_rfl) ?_
      refine JHo.e rfl (e_callO fn_80 rfl (Spl.ints _ _) (fun w hw => c_spec_l00Own s.pits _ w (Ty.mono _ h2_0 (x8.vis.trans hw.vis)) (by omega))) (.inl rfl) ?_
      rintro v41 _ _ ⟨_, hR42, rfl, rfl⟩ _
      obtain ⟨A43, c43, rfl, rfl, bl43, bh43⟩ := hR42
      refine JH.one (i := 9) (by kernel_rfl) ?_
      refine JHo.e rfl (e_callO fn_80 rfl (Spl.ints _ _) (fun w hw => c_spec_l00Own s.stores _ w (Ty.mono _ h2_1 (x8.vis.trans hw.vis)) (by omega))) (.inl rfl) ?_
      rintro v44 _ _ ⟨_, hR45, rfl, rfl⟩ _
      obtain ⟨A46, c46, rfl, rfl, bl46, bh46⟩ := hR45
      refine JH.p 18 rfl (p_build zero_129 flds_129 rfl rfl) ?_
      refine JH.one (i := 20) (by kernel_rfl) ?_
      refine JHo.s rfl (e_store (i := 2) (c' := [.slice A43 s.pits.length c43, .slice A46 s.stores.length c46, .int .i64 s.last, .int .i64 s.laps]) ty_129 rfl rfl rfl rfl rfl rfl rfl rfl) (.inr rfl) ?_
      rintro _ _ _ ⟨rfl, rfl⟩ _
      refine JH.done (by kernel_rfl) ?_
      refine Js.front (i := 3) rfl ?_
      refine Js.front (i := 2) rfl ?_
      refine Js.front (i := 2) rfl ?_
      refine Js.front (i := 3) rfl ?_
      exact Js.meet ⟨_, _, _, _, _, rfl, rfl, Up.refl _ _, by omega, by omega, by omega, by omega⟩ ⟨rfl, rfl, rfl, rfl, rfl, trivial⟩
  · rintro _ _ u28 ⟨b16, A12, c12, A15, c15, rfl, rfl, x28, f28_0, f28_1, f28_2, f28_3⟩
    refine Js.fact (row_some (i := 1) rfl (by omega)) (fun hf47 => ?_)
    obtain ⟨b47, rfl⟩ := hf47
    refine Js.fact (row_some (i := 2) rfl (by omega)) (fun hf48 => ?_)
    obtain ⟨b48, rfl⟩ := hf48
    refine Js.seq ?_
    refine Js.drawn _ [10] mixed_ (fun _ h => h) ?_
    refine JH.p 0 rfl (p_fieldAddr fld_129_1 rfl) ?_
    refine JH.q 1 rfl (q_load1 ty_24 rfl (Mem.box (i := 0) rfl rfl)) ?_
    refine JH.p 2 rfl (p_move rfl) ?_
    refine JH.p 3 rfl (p_indexAddr el_24 rfl rfl (by omega) (by omega) rfl) ?_
    refine JH.q 4 rfl (q_load1 ty_2 rfl (Mem.row (i := 1) rfl (ints_getI (i := player) (by omega)))) ?_
    refine JH.p 5 rfl (p_move rfl) ?_
    refine JH.p 6 rfl (p_move rfl) ?_
    refine JH.one (i := 7) (by kernel_rfl) ?_
    refine JHo.e rfl (e_callV fn_147 rfl (fun w hw => c_spec_l06Sum s _ (M.captured r s player) _ w ⟨_, _, [.slice (some ⟨b3, o3, none⟩) s.pits.length c2_0, .slice (some ⟨b4, o4, none⟩) s.stores.length c2_1, .int .i64 s.last, .int .i64 s.laps], rfl, ⟨(Ty.mono _ h2_0 ((x8.vis.trans x28.vis).trans hw.vis)), (Ty.mono _ h2_1 ((x8.vis.trans x28.vis).trans hw.vis)), rfl, rfl, trivial⟩, (hr2.vis ((x8.vis.trans x28.vis).trans hw.vis))⟩ (Ty.mono _ h7 (x28.vis.trans hw.vis)) (by omega) (by omega) hmem r3.pit)) (.inl rfl) ?_
    rintro _ _ _ ⟨rfl, rfl, rfl⟩ _
    refine JH.p 8 rfl (p_add rfl rfl (IntWalk.i64_in _ (by omega))) ?_
    refine JH.p 9 rfl (p_indexAddr el_24 rfl rfl (by omega) (by omega) rfl) ?_
    refine JH.one (i := 10) (by kernel_rfl) ?_
    refine JHo.s rfl (e_storeRow (i := 1) (xs' := ints_ (M.setI s.stores player ((M.getI s.stores player) + (M.isum ((M.captured r s player).map (M.getI s.pits)))))) ty_2 rfl rfl rfl rfl rfl rfl (ints_lt (i := player.toNat) (by omega)) (ints_setL (i := player.toNat) (by omega))) (.inr rfl) ?_
    rintro _ _ _ ⟨rfl, rfl⟩ _
    refine JH.done (by kernel_rfl) ?_
    refine Js.seq ?_
    refine Js.seq ?_
    refine Js.region ?_
    refine JL.q (OpP.q (p_assign rfl)) ?_
    refine JL.nil ?_
    refine Js.block ?_
    refine Js.loop (fun l os u m => ∃ (k : Nat) (ps : List Int), l = [(6, .pointer (some ⟨b5, 0, none⟩)), (7, .slice A9 ((M.captured r s player).length) c9), (8, .pointer (some ⟨b16, 0, none⟩)), (9, .int .i64 (k : Int))] ∧ os = [boxO b16 [.slice (some ⟨b48, 0, none⟩) s.pits.length c12, .slice (some ⟨b47, 0, none⟩) s.stores.length c15, .int .i64 s.last, .int .i64 s.laps] 129, rowO 2 1 (.slice (some ⟨b47, 0, none⟩) s.stores.length c15) s.stores.length (ints_ (M.setI s.stores player ((M.getI s.stores player) + (M.isum ((M.captured r s player).map (M.getI s.pits)))))) [], rowO 2 1 (.slice (some ⟨b48, 0, none⟩) s.pits.length c12) s.pits.length (ints_ ps) [], boxO b5 [.slice none 0 0, .slice none 0 0, .int .i64 0, .int .i64 0] 129] ∧ Up w.heap.size u28 u ∧ (ps = M.zeros ((M.captured r s player).take k) s.pits) ∧ (k ≤ (M.captured r s player).length) ∧ (ps.length = s.pits.length) ∧ m = (M.captured r s player).length - k) ⟨0, s.pits, rfl, rfl, Up.refl _ _, by rfl, by first | assumption | omega | rfl | (simp; done), by rfl, rfl⟩ ⟨rfl, rfl, rfl, rfl, trivial⟩ ?_
    · rintro _ _ u51 _ ⟨k, ps, rfl, rfl, x51, hP, hk, hpl, rfl⟩
      refine Js.seq ?_
      refine Js.seq ?_
      refine Js.region ?_
      refine JL.q (OpP.q (p_move rfl)) ?_
      refine JL.q (OpP.q (p_move rfl)) ?_
      refine JL.q (OpP.q (p_len el_24 rfl)) ?_
      refine JL.q (OpP.q (p_lss rfl rfl)) ?_
      refine JL.nil ?_
      refine Js.cond rfl (fun h52 => ?_) (fun h52 => ?_)
      ·
        have h52' := h52
        try simp only [decide_eq_true_eq] at h52'
        have hk2 : k < (M.captured r s player).length := by have := h52'; omega
        have hx := hmem _ (M.nth_mem hk2)
        refine Js.skip ?_
        refine Js.seq ?_
        refine Js.block ?_
        refine Js.drawn _ [7] mixed_ (fun _ h => h) ?_
        refine JH.p 0 rfl (p_fieldAddr fld_129_0 rfl) ?_
        refine JH.q 1 rfl (q_load1 ty_24 rfl (Mem.box (i := 0) rfl rfl)) ?_
        refine JH.p 2 rfl (p_move rfl) ?_
        refine JH.p 3 rfl (p_move rfl) ?_
        obtain ⟨b53, o53, he53, hc53⟩ := ints_elem (Ty.mono _ h7 (x28.vis.trans x51.vis)) (i := k) (by omega)
        refine JH.p 4 rfl (p_indexAddr el_24 rfl rfl (by omega) (by omega) he53) ?_
        refine JH.w 5 rfl (fun os' u' hv => q_load1 ty_2 rfl (Mem.pub (hc53.vis hv))) ?_
        refine JH.p 6 rfl (p_indexAddr el_24 rfl rfl (by omega) (by omega) rfl) ?_
        refine JH.one (i := 7) (by kernel_rfl) ?_
        refine JHo.s rfl (e_storeRow (i := 2) (xs' := ints_ (M.setI ps (M.nth (M.captured r s player) k) 0)) ty_2 rfl rfl rfl rfl rfl rfl (ints_lt (i := (M.nth (M.captured r s player) k).toNat) (by omega)) (ints_setL (i := (M.nth (M.captured r s player) k).toNat) (by omega))) (.inr rfl) ?_
        rintro _ _ _ ⟨rfl, rfl⟩ _
        refine JH.done (by kernel_rfl) ?_
        refine Js.blockEnd ?_
        refine Js.region ?_
        refine JL.q (OpP.q (p_move rfl)) ?_
        refine JL.q (OpP.q (p_add rfl rfl (IntWalk.i64_in _ (by omega)))) ?_
        refine JL.q (OpP.q (p_assign rfl)) ?_
        refine JL.nil ?_
        exact Js.again ⟨k + 1, M.setI ps (M.nth (M.captured r s player) k) 0, rfl, rfl, x51, by rw [hP]; exact (M.zeros_step hk2 _).symm, by first | assumption | omega | rfl | (simp; done), by rw [M.setI_length]; exact hpl, rfl⟩ (by omega) ⟨rfl, rfl, rfl, rfl, trivial⟩
      ·
        have h52' := h52
        try simp only [decide_eq_false_iff_not, Int.not_lt] at h52'
        have hR : ps = (M.take r s player).pits := by rw [hP, List.take_of_length_le (by have := h52'; omega)]; rfl
        refine Js.exit (fun _ _ => rfl) ?_
        refine Js.seq ?_
        refine Js.region ?_
        refine JL.q (q_loadN ty_129 rfl (Mem.boxR (i := 0) rfl 0 4) rfl rfl) ?_
        refine JL.s (e_store (i := 3) (c' := [.slice (some ⟨b48, 0, none⟩) s.pits.length c12, .slice (some ⟨b47, 0, none⟩) s.stores.length c15, .int .i64 s.last, .int .i64 s.laps]) ty_129 rfl rfl rfl rfl rfl rfl rfl rfl) ?_
        rintro _ _ _ ⟨rfl, rfl⟩ _
        refine JL.nil ?_
        refine Js.ret (R := RO w (Ty.agg (cSown (M.take r s player)))) @Try.results128 (fun _ _ => rfl) (ResOk.cell (res_box (i := 3) ty_129 rfl rfl rfl rfl rfl) ResOk.nil) (fun w1 hw => ?_)
        have hx := hw.ext (((x8.trans x28).trans x51))
        exact ret_own (ps := [(2, (Value.ownBlock (.slice (some ⟨b48, 0, none⟩) s.pits.length c12)).toList), (1, (Value.ownBlock (.slice (some ⟨b47, 0, none⟩) s.stores.length c15)).toList)]) hw hx ⟨_, rfl, ⟨_, _, rfl, (ints_row (xs := ps) (hw.pr (i := 2) rfl) (show ps = (M.take r s player).pits by first | exact hR | rfl)), ⟨_, _, rfl, (ints_row (xs := (M.setI s.stores player ((M.getI s.stores player) + (M.isum ((M.captured r s player).map (M.getI s.pits)))))) (hw.pr (i := 1) rfl) (show M.setI s.stores player ((M.getI s.stores player) + (M.isum ((M.captured r s player).map (M.getI s.pits)))) = (M.take r s player).stores by first | exact hR | rfl)), ⟨_, _, rfl, ⟨by first | exact hR | rfl, rfl⟩, ⟨_, _, rfl, ⟨by first | exact hR | rfl, rfl⟩, rfl⟩⟩⟩⟩⟩ (Pick.cons (j := 2) rfl (List.sublist_append_left _ _) rfl (Pick.cons (j := 1) rfl (List.sublist_append_left _ _) rfl Pick.nil)) (by simp [List.flatten, outV])

set_option maxRecDepth 100000 in
set_option maxHeartbeats 400000 in
theorem c_spec_l07Feed (r : M.Rul) (v_r : Value) (p : M.Pos) (v_p : Value) (w : World) (h_r : (Ty.ref (cRules r)).ok w v_r) (h_p : (Ty.ref (cPosition p)).ok w v_p) (r0 : M.okP r p = true) : RetV Try.prog 129 [v_r, v_p] w (.bool (M.mustFeed r p)) := by
  obtain ⟨g1, g2, g3, g4, g5, g6, g7⟩ := M.okP_bd r0
  obtain ⟨b1, o1, rfl, hr1⟩ := ref_Rules h_r
  obtain ⟨b2, o2, A2_0, c2_0, A2_1, c2_1, rfl, hr2, h2_0, h2_1, bl2_0, bh2_0, bl2_1, bh2_1⟩ := ref_Position h_p
  refine enter @Try.func129 @Try.ntmps129 rfl rfl ?_
  refine Js.seq ?_
  refine Js.region ?_
  refine JL.q (OpP.q (p_assign rfl)) ?_
  refine JL.nil ?_
  refine Js.seq ?_
  refine Js.drawn _ [] mixed_ (fun _ h => h) ?_
  refine JH.p 0 rfl (p_move rfl) ?_
  refine JH.p 1 rfl (p_nilCheck rfl) ?_
  refine JH.p 2 rfl (p_fieldAddr fld_32_5 rfl) ?_
  refine JH.w 3 rfl (fun os' u' hv => q_load1 ty_4 rfl (Mem.pub ((hr1.vis hv) 5 _ rfl))) ?_
  refine JH.p 4 rfl (p_move rfl) ?_
  refine JH.pg 5 rfl (Gd.t1 rfl rfl rfl) (fun hc => p_move rfl) ?_
  refine JH.pg 6 rfl (Gd.t1 rfl rfl rfl) (fun hc => p_move rfl) ?_
  refine JH.pg 7 rfl (Gd.t1 rfl rfl rfl) (fun hc => p_nilCheck (gvt rfl hc)) ?_
  refine JH.pg 8 rfl (Gd.t1 rfl rfl rfl) (fun hc => p_fieldAddr fld_33_0 (gvt rfl hc)) ?_
  refine JH.wg 9 rfl (Gd.t1 rfl rfl rfl) (fun hc os' u' hv => q_load1 ty_24 (gvt rfl hc) (Mem.pub ((hr2.vis hv) 0 _ rfl))) ?_
  refine JH.pg 10 rfl (Gd.t1 rfl rfl rfl) (fun hc => p_move rfl) ?_
  refine JH.pg 11 rfl (Gd.t1 rfl rfl rfl) (fun hc => p_nilCheck (gvt rfl hc)) ?_
  refine JH.pg 12 rfl (Gd.t1 rfl rfl rfl) (fun hc => p_fieldAddr fld_33_2 (gvt rfl hc)) ?_
  refine JH.wg 13 rfl (Gd.t1 rfl rfl rfl) (fun hc os' u' hv => q_load1 ty_2 (gvt rfl hc) (Mem.pub ((hr2.vis hv) 2 _ rfl))) ?_
  refine JH.pg 14 rfl (Gd.t1 rfl rfl rfl) (fun hc => p_sub rfl (gvt rfl hc) (IntWalk.i64_in _ (by omega))) ?_
  refine JH.one (i := 15) (by kernel_rfl) ?_
  refine JHo.ge rfl (Gd.t1 rfl rfl rfl) (fun hc => e_callV fn_130 (opds_3 (gvt rfl hc) (gvt rfl hc) (gvt rfl hc)) (fun w hw => c_spec_l04Side r _ p.pits _ (1 - p.player) w ⟨_, _, [.int .i64 r.pits, .int .i64 r.seeds, .bool r.stores, .bool r.skip, .bool r.relay, .bool r.feed, .bool r.again, .int .i64 r.capture, .int .i64 r.slam], rfl, ⟨rfl, rfl, rfl, rfl, rfl, rfl, rfl, rfl, rfl, trivial⟩, (hr1.vis hw.vis)⟩ (Ty.mono _ h2_0 hw.vis) (by omega) (by omega) (by omega) (by omega) g5)) ?_
  refine JH.pg 16 rfl (Gd.t1 rfl rfl rfl) (fun hc => p_eql (gvt rfl hc) rfl) ?_
  refine JH.p 17 rfl (p_pickAnd rfl rfl rfl) ?_
  refine JH.p 18 rfl (p_assign rfl) ?_
  refine JH.done (by kernel_rfl) ?_
  refine Js.ret (R := RV w (.bool (M.mustFeed r p))) @Try.results129 (fun _ _ => rfl) (ResOk.tmp rfl ResOk.nil) (fun w1 hw => ?_)
  refine ⟨?_, hw.ext (Up.refl _ _)⟩
  simp [outV, M.mustFeed]

set_option maxRecDepth 100000 in
set_option maxHeartbeats 400000 in
theorem c_spec_l07Make (r : M.Rul) (v_r : Value) (p : M.Pos) (v_p : Value) (move : Int) (w : World) (h_r : (Ty.ref (cRules r)).ok w v_r) (h_p : (Ty.ref (cPosition p)).ok w v_p) (r0 : p.pits.length ≤ 4194304) (r1 : p.stores.length ≤ 4194304) : Ret Try.prog 105 [v_r, v_p, .int .i64 move] w (Ty.tup [Ty.agg (cResult ((M.make r p move).1)), Ty.int ((M.make r p move).2)]) := by
  obtain ⟨b1, o1, rfl, hr1⟩ := ref_Rules h_r
  obtain ⟨b2, o2, A2_0, c2_0, A2_1, c2_1, rfl, hr2, h2_0, h2_1, bl2_0, bh2_0, bl2_1, bh2_1⟩ := ref_Position h_p
  refine enter @Try.func105 @Try.ntmps105 rfl rfl ?_
  refine Js.seq ?_
  refine Js.region ?_
  refine JL.e (e_alloc zero_84) ?_
  rintro _ _ _ ⟨b3, rfl, rfl, rfl⟩ _
  refine JL.q (OpP.q (p_assign rfl)) ?_
  refine JL.nil ?_
  refine Js.seq ?_
  refine Js.region ?_
  refine JL.q (OpP.q (p_move rfl)) ?_
  refine JL.q (OpP.q (p_move rfl)) ?_
  refine JL.q (OpP.q (p_move rfl)) ?_
  refine JL.e (e_callP fn_126 rfl (fun w hw => c_spec_l05Move r _ p _ move w ⟨_, _, [.int .i64 r.pits, .int .i64 r.seeds, .bool r.stores, .bool r.skip, .bool r.relay, .bool r.feed, .bool r.again, .int .i64 r.capture, .int .i64 r.slam], rfl, ⟨rfl, rfl, rfl, rfl, rfl, rfl, rfl, rfl, rfl, trivial⟩, (hr1.vis hw.vis)⟩ ⟨_, _, [.slice A2_0 p.pits.length c2_0, .slice A2_1 p.stores.length c2_1, .int .i64 p.player], rfl, ⟨(Ty.mono _ h2_0 hw.vis), (Ty.mono _ h2_1 hw.vis), rfl, trivial⟩, (hr2.vis hw.vis)⟩ (by omega) (by omega))) ?_
  rintro v4 _ u6 ⟨h5, rfl⟩ x6
  obtain ⟨vs7, rfl, hv7⟩ := h5
  obtain ⟨v7_0, vs7, rfl, hw7_0, hv7⟩ := cellsOk_cons hv7
  obtain ⟨v7_1, vs7, rfl, hw7_1, hv7⟩ := cellsOk_cons hv7
  obtain ⟨v7_2, vs7, rfl, hw7_2, hv7⟩ := cellsOk_cons hv7
  obtain rfl := cellsOk_nil hv7
  obtain ⟨A8_0, c8_0, A8_1, c8_1, rfl, h8_0, h8_1, bl8_0, bh8_0, bl8_1, bh8_1⟩ := open_Sown hw7_0
  obtain ⟨A9, c9, rfl, bl9, bh9⟩ := sl_form hw7_1
  obtain rfl : v7_2 = .int .i64 ((M.sowMove r p move).1) := hw7_2
  refine JL.q (OpP.q (p_move rfl)) ?_
  refine JL.q (OpP.q (p_extract rfl rfl)) ?_
  refine JL.q (OpP.q (p_extract rfl rfl)) ?_
  refine JL.q (OpP.q (p_extract rfl rfl)) ?_
  refine JL.e (e_alloc zero_129) ?_
  rintro _ _ _ ⟨b10, rfl, rfl, rfl⟩ _
  refine JL.s (e_store (i := 0) (c' := [.slice A8_0 ((((M.sowMove r p move).2.1).pits).length) c8_0, .slice A8_1 ((((M.sowMove r p move).2.1).stores).length) c8_1, .int .i64 (((M.sowMove r p move).2.1).last), .int .i64 (((M.sowMove r p move).2.1).laps)]) ty_129 rfl rfl rfl rfl rfl rfl rfl rfl) ?_
  rintro _ _ _ ⟨rfl, rfl⟩ _
  refine JL.q (OpP.q (p_assign rfl)) ?_
  refine JL.q (OpP.q (p_assign rfl)) ?_
  refine JL.nil ?_
  refine Js.seq ?_
  refine Js.seq ?_
  refine Js.region ?_
  refine JL.q (OpP.q (p_move rfl)) ?_
  refine JL.q (OpP.q (p_neq rfl rfl)) ?_
  refine JL.nil ?_
  refine Js.cond rfl (fun h11 => ?_) (fun h11 => ?_)
  ·
    have h11' := h11
    try simp only [Bool.not_eq_true', decide_eq_false_iff_not] at h11'
    have hD := M.make_sow (r := r) (p := p) (move := move) (by simpa using h11)
    refine Js.seq ?_
    refine Js.region ?_
    refine JL.q (OpP.q (p_build zero_84 flds_84 rfl rfl)) ?_
    refine JL.q (OpP.q (p_move rfl)) ?_
    refine JL.s (e_store (i := 1) (c' := [.int .i64 0, .int .i64 0, .bool false, .slice none 0 0, .slice none 0 0, .int .i64 0]) ty_84 rfl rfl rfl rfl rfl rfl rfl rfl) ?_
    rintro _ _ _ ⟨rfl, rfl⟩ _
    refine JL.q (OpP.q (p_assign rfl)) ?_
    refine JL.nil ?_
    refine Js.ret (R := RO w (Ty.tup [Ty.agg (cResult ((M.make r p move).1)), Ty.int ((M.make r p move).2)])) @Try.results105 (fun _ _ => rfl) (ResOk.cell (res_box (i := 1) ty_84 rfl rfl rfl rfl rfl) (ResOk.tmp rfl ResOk.nil)) (fun w1 hw => ?_)
    have hx := hw.ext (x6)
    exact ret_own (ps := []) hw hx ⟨_, rfl, ⟨_, _, rfl, ⟨_, rfl, ⟨_, _, rfl, ⟨by first | (rw [hD]; done) | (rw [hD]; rfl), rfl⟩, ⟨_, _, rfl, ⟨by first | (rw [hD]; done) | (rw [hD]; rfl), rfl⟩, ⟨_, _, rfl, ⟨by first | (rw [hD]; done) | (rw [hD]; rfl), rfl⟩, ⟨_, _, rfl, (ints_cast (show [] = (((M.make r p move).1).next).pits by first | (rw [hD]; done) | (rw [hD]; rfl)) nil_own), ⟨_, _, rfl, (ints_cast (show [] = (((M.make r p move).1).next).stores by first | (rw [hD]; done) | (rw [hD]; rfl)) nil_own), ⟨_, _, rfl, ⟨by first | (rw [hD]; done) | (rw [hD]; rfl), rfl⟩, rfl⟩⟩⟩⟩⟩⟩⟩, ⟨_, _, rfl, ⟨by first | (rw [hD]; done) | (rw [hD]; rfl), rfl⟩, rfl⟩⟩⟩ Pick.nil (by simp [List.flatten, outV])
  ·
    have h11' := h11
    try simp only [Bool.not_eq_false', decide_eq_true_eq] at h11'
    have hz : (M.sowMove r p move).1 = 0 := by simpa using h11
    obtain ⟨hok, m0, m1, hG, q0, q1, hsum⟩ := M.sowMove_ok hz
    obtain ⟨g1, g2, g3, g4, g5, g6, g7⟩ := M.okP_bd hok
    have hG2 := (M.take_keeps g7 hG q1).1
    have hao := M.Good.ok hG2
    have hl2 := hG2.lp
    have hl3 := hG2.ls
    have hs1 := hG2.store p.player
    have hs2 := (M.Good.of_ok hok).store p.player
    simp only [M.getI] at hs2
    refine Js.skip ?_
    refine Js.seq ?_
    refine Js.seq ?_
    refine Js.region ?_
    refine JL.q (OpP.q (p_move rfl)) ?_
    refine JL.q (OpP.q (p_nilCheck rfl)) ?_
    refine JL.q (OpP.q (p_fieldAddr fld_32_8 rfl)) ?_
    refine JL.q (q_load1 ty_2 rfl (Mem.pub ((hr1.vis x6.vis) 8 _ rfl))) ?_
    refine JL.q (OpP.q (p_eql rfl rfl)) ?_
    refine JL.q (OpP.q (p_move rfl)) ?_
    refine JL.g (Gd.t1 rfl rfl rfl) (fun hc => OpP.q (p_move rfl)) ?_
    refine JL.g (Gd.t1 rfl rfl rfl) (fun hc => OpP.q (p_move rfl)) ?_
    refine JL.g (Gd.t1 rfl rfl rfl) (fun hc => OpP.q (p_nilCheck (gvt rfl hc))) ?_
    refine JL.g (Gd.t1 rfl rfl rfl) (fun hc => OpP.q (p_fieldAddr fld_33_2 (gvt rfl hc))) ?_
    refine JL.g (Gd.t1 rfl rfl rfl) (fun hc => q_load1 ty_2 (gvt rfl hc) (Mem.pub ((hr2.vis x6.vis) 2 _ rfl))) ?_
    refine JL.ge (Gd.t1 rfl rfl rfl) (fun hc => e_callV fn_127 (opds_3 (gvt rfl hc) rfl (gvt rfl hc)) (fun w hw => c_spec_l06Slam r _ ((M.sowMove r p move).2.1) _ p.player w ⟨_, _, [.int .i64 r.pits, .int .i64 r.seeds, .bool r.stores, .bool r.skip, .bool r.relay, .bool r.feed, .bool r.again, .int .i64 r.capture, .int .i64 r.slam], rfl, ⟨rfl, rfl, rfl, rfl, rfl, rfl, rfl, rfl, rfl, trivial⟩, (hr1.vis (x6.vis.trans hw.vis))⟩ ⟨_, _, [.slice A8_0 ((((M.sowMove r p move).2.1).pits).length) c8_0, .slice A8_1 ((((M.sowMove r p move).2.1).stores).length) c8_1, .int .i64 (((M.sowMove r p move).2.1).last), .int .i64 (((M.sowMove r p move).2.1).laps)], rfl, ⟨(Ty.mono _ h8_0 hw.vis), (Ty.mono _ h8_1 hw.vis), rfl, rfl, trivial⟩, Mem.boxR (i := 0) rfl 0 4 w hw⟩ (by have hc9 := hc; (try simp only [decide_eq_true_eq] at hc9); omega) (by have hc9 := hc; (try simp only [decide_eq_true_eq] at hc9); omega) (by have hc9 := hc; (try simp only [decide_eq_true_eq] at hc9); omega) hG (by have hc9 := hc; (try simp only [decide_eq_true_eq] at hc9); omega) (by have hc9 := hc; (try simp only [decide_eq_true_eq] at hc9); omega))) ?_
    refine JL.q (OpP.q (p_pickAnd rfl rfl rfl)) ?_
    refine JL.nil ?_
    refine Js.cond rfl (fun h12 => ?_) (fun h12 => ?_)
    ·
      have h12' := h12
      try simp only [Bool.and_eq_true, decide_eq_true_eq] at h12'
      have hD := M.make_slam hz (by simpa using h12)
      refine Js.seq ?_
      refine Js.region ?_
      refine JL.q (OpP.q (p_build zero_84 flds_84 rfl rfl)) ?_
      refine JL.s (e_store (i := 1) (c' := [.int .i64 0, .int .i64 0, .bool false, .slice none 0 0, .slice none 0 0, .int .i64 0]) ty_84 rfl rfl rfl rfl rfl rfl rfl rfl) ?_
      rintro _ _ _ ⟨rfl, rfl⟩ _
      refine JL.q (OpP.q (p_assign rfl)) ?_
      refine JL.nil ?_
      refine Js.ret (R := RO w (Ty.tup [Ty.agg (cResult ((M.make r p move).1)), Ty.int ((M.make r p move).2)])) @Try.results105 (fun _ _ => rfl) (ResOk.cell (res_box (i := 1) ty_84 rfl rfl rfl rfl rfl) (ResOk.tmp rfl ResOk.nil)) (fun w1 hw => ?_)
      have hx := hw.ext (x6)
      exact ret_own (ps := []) hw hx ⟨_, rfl, ⟨_, _, rfl, ⟨_, rfl, ⟨_, _, rfl, ⟨by first | (rw [hD]; done) | (rw [hD]; rfl), rfl⟩, ⟨_, _, rfl, ⟨by first | (rw [hD]; done) | (rw [hD]; rfl), rfl⟩, ⟨_, _, rfl, ⟨by first | (rw [hD]; done) | (rw [hD]; rfl), rfl⟩, ⟨_, _, rfl, (ints_cast (show [] = (((M.make r p move).1).next).pits by first | (rw [hD]; done) | (rw [hD]; rfl)) nil_own), ⟨_, _, rfl, (ints_cast (show [] = (((M.make r p move).1).next).stores by first | (rw [hD]; done) | (rw [hD]; rfl)) nil_own), ⟨_, _, rfl, ⟨by first | (rw [hD]; done) | (rw [hD]; rfl), rfl⟩, rfl⟩⟩⟩⟩⟩⟩⟩, ⟨_, _, rfl, ⟨by first | (rw [hD]; done) | (rw [hD]; rfl), rfl⟩, rfl⟩⟩⟩ Pick.nil (by simp [List.flatten, outV])
    ·
      have h12' := h12
      try simp only [Bool.and_eq_false_iff, decide_eq_false_iff_not] at h12'
      have hns : ¬ (r.slam = 1 ∧ M.slams r (M.sowMove r p move).2.1 p.player = true) := by simpa using h12
      refine Js.skip ?_
      refine Js.seq ?_
      refine Js.region ?_
      refine JL.q (OpP.q (p_move rfl)) ?_
      refine JL.q (OpP.q (p_move rfl)) ?_
      refine JL.q (OpP.q (p_nilCheck rfl)) ?_
      refine JL.q (OpP.q (p_fieldAddr fld_33_2 rfl)) ?_
      refine JL.q (q_load1 ty_2 rfl (Mem.pub ((hr2.vis x6.vis) 2 _ rfl))) ?_
      refine JL.e (e_callO fn_128 rfl (Spl.agg (Spls.cons (Spl.ints _ _) (Spls.cons (Spl.ints _ _) (Spls.cons (Spl.val _) (Spls.cons (Spl.val _) Spls.nil))))) (fun w hw => c_spec_l06Take r _ ((M.sowMove r p move).2.1) _ p.player w ⟨_, _, [.int .i64 r.pits, .int .i64 r.seeds, .bool r.stores, .bool r.skip, .bool r.relay, .bool r.feed, .bool r.again, .int .i64 r.capture, .int .i64 r.slam], rfl, ⟨rfl, rfl, rfl, rfl, rfl, rfl, rfl, rfl, rfl, trivial⟩, (hr1.vis (x6.vis.trans hw.vis))⟩ ⟨_, _, [.slice A8_0 ((((M.sowMove r p move).2.1).pits).length) c8_0, .slice A8_1 ((((M.sowMove r p move).2.1).stores).length) c8_1, .int .i64 (((M.sowMove r p move).2.1).last), .int .i64 (((M.sowMove r p move).2.1).laps)], rfl, ⟨(Ty.mono _ h8_0 hw.vis), (Ty.mono _ h8_1 hw.vis), rfl, rfl, trivial⟩, Mem.boxR (i := 0) rfl 0 4 w hw⟩ (by omega) (by omega) (by omega) hG (by omega) (by omega))) ?_
      rintro v13 _ _ ⟨_, hR14, rfl, rfl⟩ _
      obtain ⟨vs15, rfl, hr15⟩ := hR14
      obtain ⟨v15_0, vs15_0, o15_0, ow15_0, rfl, hR15_0, hs15_0, rfl⟩ := RL_cons hr15
      obtain ⟨v15_1, vs15_1, o15_1, ow15_1, rfl, hR15_1, hs15_1, rfl⟩ := RL_cons hs15_0
      obtain ⟨v15_2, vs15_2, o15_2, ow15_2, rfl, hR15_2, hs15_2, rfl⟩ := RL_cons hs15_1
      obtain ⟨v15_3, vs15_3, o15_3, ow15_3, rfl, hR15_3, hs15_3, rfl⟩ := RL_cons hs15_2
      obtain ⟨rfl, rfl⟩ := RL_nil hs15_3
      obtain ⟨A16, c16, rfl, rfl, bl16, bh16⟩ := hR15_0
      obtain ⟨A17, c17, rfl, rfl, bl17, bh17⟩ := hR15_1
      obtain ⟨rfl, rfl⟩ : v15_2 = .int .i64 ((M.take r ((M.sowMove r p move).2.1) p.player).last) ∧ _ := hR15_2
      obtain ⟨rfl, rfl⟩ : v15_3 = .int .i64 ((M.take r ((M.sowMove r p move).2.1) p.player).laps) ∧ _ := hR15_3
      refine JL.e (e_alloc zero_129) ?_
      rintro _ _ _ ⟨b18, rfl, rfl, rfl⟩ _
      refine JL.s (e_store (i := 0) (c' := [.slice A16 (((M.take r ((M.sowMove r p move).2.1) p.player).pits).length) c16, .slice A17 (((M.take r ((M.sowMove r p move).2.1) p.player).stores).length) c17, .int .i64 ((M.take r ((M.sowMove r p move).2.1) p.player).last), .int .i64 ((M.take r ((M.sowMove r p move).2.1) p.player).laps)]) ty_129 rfl rfl rfl rfl rfl rfl rfl rfl) ?_
      rintro _ _ _ ⟨rfl, rfl⟩ _
      refine JL.nil ?_
      refine Js.seq ?_
      refine Js.seq ?_
      refine Js.drawn _ [] mixed_ (fun _ h => h) ?_
      refine JH.p 0 rfl (p_move rfl) ?_
      refine JH.p 1 rfl (p_move rfl) ?_
      refine JH.one (i := 2) (by kernel_rfl) ?_
      refine JHo.e rfl (e_callV fn_129 rfl (fun w hw => c_spec_l07Feed r _ p _ w ⟨_, _, [.int .i64 r.pits, .int .i64 r.seeds, .bool r.stores, .bool r.skip, .bool r.relay, .bool r.feed, .bool r.again, .int .i64 r.capture, .int .i64 r.slam], rfl, ⟨rfl, rfl, rfl, rfl, rfl, rfl, rfl, rfl, rfl, trivial⟩, (hr1.vis (x6.vis.trans hw.vis))⟩ ⟨_, _, [.slice A2_0 p.pits.length c2_0, .slice A2_1 p.stores.length c2_1, .int .i64 p.player], rfl, ⟨(Ty.mono _ h2_0 (x6.vis.trans hw.vis)), (Ty.mono _ h2_1 (x6.vis.trans hw.vis)), rfl, trivial⟩, (hr2.vis (x6.vis.trans hw.vis))⟩ hok)) (.inl rfl) ?_
      rintro _ _ _ ⟨rfl, rfl, rfl⟩ _
      refine JH.p 3 rfl (p_move rfl) ?_
      refine JH.pg 4 rfl (Gd.t1 rfl rfl rfl) (fun hc => p_move rfl) ?_
      refine JH.pg 5 rfl (Gd.t1 rfl rfl rfl) (fun hc => p_fieldAddr fld_129_0 rfl) ?_
      refine JH.qg 6 rfl (Gd.t1 rfl rfl rfl) (fun hc => q_load1 ty_24 (gvt rfl hc) (Mem.box (i := 0) rfl rfl)) ?_
      refine JH.pg 7 rfl (Gd.t1 rfl rfl rfl) (fun hc => p_move rfl) ?_
      refine JH.pg 8 rfl (Gd.t1 rfl rfl rfl) (fun hc => p_nilCheck (gvt rfl hc)) ?_
      refine JH.pg 9 rfl (Gd.t1 rfl rfl rfl) (fun hc => p_fieldAddr fld_33_2 (gvt rfl hc)) ?_
      refine JH.wg 10 rfl (Gd.t1 rfl rfl rfl) (fun hc os' u' hv => q_load1 ty_2 (gvt rfl hc) (Mem.pub ((hr2.vis (x6.vis.trans hv)) 2 _ rfl))) ?_
      refine JH.pg 11 rfl (Gd.t1 rfl rfl rfl) (fun hc => p_sub rfl (gvt rfl hc) (IntWalk.i64_in _ (by omega))) ?_
      refine JH.one (i := 12) (by kernel_rfl) ?_
      refine JHo.ge rfl (Gd.t1 rfl rfl rfl) (fun hc => e_callV fn_130 (opds_3 (gvt rfl hc) (gvt rfl hc) (gvt rfl hc)) (fun w hw => c_spec_l04Side r _ ((M.take r ((M.sowMove r p move).2.1) p.player).pits) _ (1 - p.player) w ⟨_, _, [.int .i64 r.pits, .int .i64 r.seeds, .bool r.stores, .bool r.skip, .bool r.relay, .bool r.feed, .bool r.again, .int .i64 r.capture, .int .i64 r.slam], rfl, ⟨rfl, rfl, rfl, rfl, rfl, rfl, rfl, rfl, rfl, trivial⟩, (hr1.vis (x6.vis.trans hw.vis))⟩ (ints_rowok (xs := ((M.take r ((M.sowMove r p move).2.1) p.player).pits)) (hw.pr (i := 1) rfl)) (by omega) (by omega) (by omega) (by omega) hao.1)) ?_
      refine JH.pg 13 rfl (Gd.t1 rfl rfl rfl) (fun hc => p_eql (gvt rfl hc) rfl) ?_
      refine JH.p 14 rfl (p_pickAnd rfl rfl rfl) ?_
      refine JH.done (by kernel_rfl) ?_
      refine Js.cond rfl (fun h19 => ?_) (fun h19 => ?_)
      ·
        have h19' := h19
        try simp only [Bool.and_eq_true, decide_eq_true_eq] at h19'
        have hD := M.make_feed hz hns (by simpa using h19)
        refine Js.seq ?_
        refine Js.region ?_
        refine JL.q (OpP.q (p_build zero_84 flds_84 rfl rfl)) ?_
        refine JL.s (e_store (i := 4) (c' := [.int .i64 0, .int .i64 0, .bool false, .slice none 0 0, .slice none 0 0, .int .i64 0]) ty_84 rfl rfl rfl rfl rfl rfl rfl rfl) ?_
        rintro _ _ _ ⟨rfl, rfl⟩ _
        refine JL.q (OpP.q (p_assign rfl)) ?_
        refine JL.nil ?_
        refine Js.ret (R := RO w (Ty.tup [Ty.agg (cResult ((M.make r p move).1)), Ty.int ((M.make r p move).2)])) @Try.results105 (fun _ _ => rfl) (ResOk.cell (res_box (i := 4) ty_84 rfl rfl rfl rfl rfl) (ResOk.tmp rfl ResOk.nil)) (fun w1 hw => ?_)
        have hx := hw.ext (x6)
        exact ret_own (ps := []) hw hx ⟨_, rfl, ⟨_, _, rfl, ⟨_, rfl, ⟨_, _, rfl, ⟨by first | (rw [hD]; done) | (rw [hD]; rfl), rfl⟩, ⟨_, _, rfl, ⟨by first | (rw [hD]; done) | (rw [hD]; rfl), rfl⟩, ⟨_, _, rfl, ⟨by first | (rw [hD]; done) | (rw [hD]; rfl), rfl⟩, ⟨_, _, rfl, (ints_cast (show [] = (((M.make r p move).1).next).pits by first | (rw [hD]; done) | (rw [hD]; rfl)) nil_own), ⟨_, _, rfl, (ints_cast (show [] = (((M.make r p move).1).next).stores by first | (rw [hD]; done) | (rw [hD]; rfl)) nil_own), ⟨_, _, rfl, ⟨by first | (rw [hD]; done) | (rw [hD]; rfl), rfl⟩, rfl⟩⟩⟩⟩⟩⟩⟩, ⟨_, _, rfl, ⟨by first | (rw [hD]; done) | (rw [hD]; rfl), rfl⟩, rfl⟩⟩⟩ Pick.nil (by simp [List.flatten, outV])
      ·
        have h19' := h19
        try simp only [Bool.and_eq_false_iff, decide_eq_false_iff_not] at h19'
        have hD := M.make_go hz hns (by simpa using h19)
        refine Js.skip ?_
        refine Js.seq ?_
        refine Js.cut (fun l os u => ∃ (b23 : Nat) (b21 : Nat), l = [(1, .pointer (some ⟨b2, o2, none⟩)), (6, .pointer (some ⟨b3, 0, none⟩)), (11, .pointer (some ⟨b18, 0, none⟩)), (12, .pointer (some ⟨b23, 0, none⟩))] ∧ os = [boxO b23 [.int .i64 move, .int .i64 ((M.getI ((M.take r ((M.sowMove r p move).2.1) p.player).stores) p.player) - (M.nth p.stores p.player.toNat)), .bool (r.again && (decide ((M.take r ((M.sowMove r p move).2.1) p.player).last = (-1)))), .slice none 0 0, .slice none 0 0, .int .i64 0] 84, boxO b18 [.slice A16 (((M.take r ((M.sowMove r p move).2.1) p.player).pits).length) c16, .slice (some ⟨b21, 0, none⟩) (((M.take r ((M.sowMove r p move).2.1) p.player).stores).length) c17, .int .i64 ((M.take r ((M.sowMove r p move).2.1) p.player).last), .int .i64 ((M.take r ((M.sowMove r p move).2.1) p.player).laps)] 129, rowO 2 1 (.slice A16 (((M.take r ((M.sowMove r p move).2.1) p.player).pits).length) c16) (((M.take r ((M.sowMove r p move).2.1) p.player).pits).length) (ints_ ((M.take r ((M.sowMove r p move).2.1) p.player).pits)) [], rowO 2 1 (.slice (some ⟨b21, 0, none⟩) (((M.take r ((M.sowMove r p move).2.1) p.player).stores).length) c17) (((M.take r ((M.sowMove r p move).2.1) p.player).stores).length) (ints_ ((M.take r ((M.sowMove r p move).2.1) p.player).stores)) [], boxO b10 [.slice A8_0 ((((M.sowMove r p move).2.1).pits).length) c8_0, .slice A8_1 ((((M.sowMove r p move).2.1).stores).length) c8_1, .int .i64 (((M.sowMove r p move).2.1).last), .int .i64 (((M.sowMove r p move).2.1).laps)] 129, boxO b3 [.int .i64 0, .int .i64 0, .bool false, .slice none 0 0, .slice none 0 0, .int .i64 0] 84] ∧ Up w.heap.size u6 u) ?_ ?_
        ·
          refine Js.drawn _ [31] mixed_ (fun _ h => h) ?_
          refine JH.p 0 rfl (p_move rfl) ?_
          refine JH.p 1 rfl (p_fieldAddr fld_129_1 rfl) ?_
          refine JH.q 2 rfl (q_load1 ty_24 rfl (Mem.box (i := 0) rfl rfl)) ?_
          refine JH.p 3 rfl (p_move rfl) ?_
          refine JH.p 4 rfl (p_nilCheck rfl) ?_
          refine JH.p 5 rfl (p_fieldAddr fld_33_2 rfl) ?_
          refine JH.w 6 rfl (fun os' u' hv => q_load1 ty_2 rfl (Mem.pub ((hr2.vis (x6.vis.trans hv)) 2 _ rfl))) ?_
          refine JH.fact (row_some (i := 2) rfl (by omega)) (fun hf27 => ?_)
          obtain ⟨b27, rfl⟩ := hf27
          refine JH.p 7 rfl (p_indexAddr el_24 rfl rfl (by omega) (by omega) rfl) ?_
          refine JH.q 8 rfl (q_load1 ty_2 rfl (Mem.row (i := 2) rfl (ints_getI (i := p.player) (by omega)))) ?_
          refine JH.p 9 rfl (p_move rfl) ?_
          refine JH.p 10 rfl (p_nilCheck rfl) ?_
          refine JH.p 11 rfl (p_fieldAddr fld_33_1 rfl) ?_
          refine JH.w 12 rfl (fun os' u' hv => q_load1 ty_24 rfl (Mem.pub ((hr2.vis (x6.vis.trans hv)) 1 _ rfl))) ?_
          refine JH.p 13 rfl (p_move rfl) ?_
          refine JH.p 14 rfl (p_nilCheck rfl) ?_
          refine JH.p 15 rfl (p_fieldAddr fld_33_2 rfl) ?_
          refine JH.w 16 rfl (fun os' u' hv => q_load1 ty_2 rfl (Mem.pub ((hr2.vis (x6.vis.trans hv)) 2 _ rfl))) ?_
          obtain ⟨b28, o28, he28, hc28⟩ := ints_elem (Ty.mono _ h2_1 x6.vis) (i := p.player.toNat) (by omega)
          refine JH.p 17 rfl (p_indexAddr el_24 rfl rfl (by omega) (by omega) he28) ?_
          refine JH.w 18 rfl (fun os' u' hv => q_load1 ty_2 rfl (Mem.pub (hc28.vis hv))) ?_
          refine JH.p 19 rfl (p_sub rfl rfl (IntWalk.i64_in _ (by omega))) ?_
          refine JH.p 20 rfl (p_move rfl) ?_
          refine JH.p 21 rfl (p_nilCheck rfl) ?_
          refine JH.p 22 rfl (p_fieldAddr fld_32_6 rfl) ?_
          refine JH.w 23 rfl (fun os' u' hv => q_load1 ty_4 rfl (Mem.pub ((hr1.vis (x6.vis.trans hv)) 6 _ rfl))) ?_
          refine JH.p 24 rfl (p_move rfl) ?_
          refine JH.pg 25 rfl (Gd.t1 rfl rfl rfl) (fun hc => p_fieldAddr fld_129_2 rfl) ?_
          refine JH.all (rs := [26, 30]) (by kernel_rfl) rfl ⟨?_, ?_, trivial⟩
          ·
            refine JHo.qg rfl (Gd.t1 rfl rfl rfl) (fun hc => q_load1 ty_2 (gvt rfl hc) (Mem.box (i := 0) rfl rfl)) ?_
            refine JH.pg 27 rfl (Gd.t1 rfl rfl rfl) (fun hc => p_eql (gvt rfl hc) rfl) ?_
            refine JH.p 28 rfl (p_pickAnd rfl rfl rfl) ?_
            refine JH.p 29 rfl (p_build zero_84 flds_84 rfl rfl) ?_
            refine JH.one (i := 30) (by kernel_rfl) ?_
            refine JHo.e rfl (e_alloc zero_84) (.inl rfl) ?_
            rintro _ _ _ ⟨b29, rfl, rfl, rfl⟩ _
            refine JH.one (i := 31) (by kernel_rfl) ?_
            refine JHo.s rfl (e_store (i := 0) (c' := [.int .i64 move, .int .i64 ((M.getI ((M.take r ((M.sowMove r p move).2.1) p.player).stores) p.player) - (M.nth p.stores p.player.toNat)), .bool (r.again && (decide ((M.take r ((M.sowMove r p move).2.1) p.player).last = (-1)))), .slice none 0 0, .slice none 0 0, .int .i64 0]) ty_84 rfl rfl rfl rfl rfl rfl rfl rfl) (.inr rfl) ?_
            rintro _ _ _ ⟨rfl, rfl⟩ _
            refine JH.done (by kernel_rfl) ?_
            exact Js.meet ⟨_, _, rfl, rfl, Up.refl _ _⟩ ⟨rfl, rfl, rfl, rfl, trivial⟩
          ·
            refine JHo.e rfl (e_alloc zero_84) (.inl rfl) ?_
            rintro _ _ _ ⟨b30, rfl, rfl, rfl⟩ _
            refine JH.one (i := 26) (by kernel_rfl) ?_
            refine JHo.qg rfl (Gd.t1 rfl rfl rfl) (fun hc => q_load1 ty_2 (gvt rfl hc) (Mem.box (i := 1) rfl rfl)) ?_
            refine JH.pg 27 rfl (Gd.t1 rfl rfl rfl) (fun hc => p_eql (gvt rfl hc) rfl) ?_
            refine JH.p 28 rfl (p_pickAnd rfl rfl rfl) ?_
            refine JH.p 29 rfl (p_build zero_84 flds_84 rfl rfl) ?_
            refine JH.one (i := 31) (by kernel_rfl) ?_
            refine JHo.s rfl (e_store (i := 0) (c' := [.int .i64 move, .int .i64 ((M.getI ((M.take r ((M.sowMove r p move).2.1) p.player).stores) p.player) - (M.nth p.stores p.player.toNat)), .bool (r.again && (decide ((M.take r ((M.sowMove r p move).2.1) p.player).last = (-1)))), .slice none 0 0, .slice none 0 0, .int .i64 0]) ty_84 rfl rfl rfl rfl rfl rfl rfl rfl) (.inr rfl) ?_
            rintro _ _ _ ⟨rfl, rfl⟩ _
            refine JH.done (by kernel_rfl) ?_
            exact Js.meet ⟨_, _, rfl, rfl, Up.refl _ _⟩ ⟨rfl, rfl, rfl, rfl, trivial⟩
        · rintro _ _ u25 ⟨b23, b21, rfl, rfl, x25⟩
          refine Js.seq ?_
          refine Js.drawn _ [11] mixed_ (fun _ h => h) ?_
          refine JH.p 0 rfl (p_fieldAddr fld_129_0 rfl) ?_
          refine JH.q 1 rfl (q_load1 ty_24 rfl (Mem.box (i := 1) rfl rfl)) ?_
          refine JH.p 2 rfl (p_fieldAddr fld_129_1 rfl) ?_
          refine JH.q 3 rfl (q_load1 ty_24 rfl (Mem.box (i := 1) rfl rfl)) ?_
          refine JH.p 4 rfl (p_move rfl) ?_
          refine JH.p 5 rfl (p_nilCheck rfl) ?_
          refine JH.p 6 rfl (p_fieldAddr fld_33_2 rfl) ?_
          refine JH.w 7 rfl (fun os' u' hv => q_load1 ty_2 rfl (Mem.pub ((hr2.vis ((x6.vis.trans x25.vis).trans hv)) 2 _ rfl))) ?_
          refine JH.p 8 rfl (p_sub rfl rfl (IntWalk.i64_in _ (by omega))) ?_
          refine JH.p 9 rfl (p_build zero_33 flds_33 rfl rfl) ?_
          refine JH.p 10 rfl (p_fieldAddr fld_84_3 rfl) ?_
          refine JH.one (i := 11) (by kernel_rfl) ?_
          refine JHo.s rfl (e_store (i := 0) (c' := [.int .i64 move, .int .i64 ((M.getI ((M.take r ((M.sowMove r p move).2.1) p.player).stores) p.player) - (M.nth p.stores p.player.toNat)), .bool (r.again && (decide ((M.take r ((M.sowMove r p move).2.1) p.player).last = (-1)))), .slice A16 (((M.take r ((M.sowMove r p move).2.1) p.player).pits).length) c16, .slice (some ⟨b21, 0, none⟩) (((M.take r ((M.sowMove r p move).2.1) p.player).stores).length) c17, .int .i64 (1 - p.player)]) ty_33 rfl rfl rfl rfl rfl rfl rfl rfl) (.inr rfl) ?_
          rintro _ _ _ ⟨rfl, rfl⟩ _
          refine JH.done (by kernel_rfl) ?_
          refine Js.seq ?_
          refine Js.seq ?_
          refine Js.region ?_
          refine JL.q (OpP.q (p_fieldAddr fld_84_2 rfl)) ?_
          refine JL.q (q_load1 ty_4 rfl (Mem.box (i := 0) rfl rfl)) ?_
          refine JL.nil ?_
          refine Js.cond rfl (fun h31 => ?_) (fun h31 => ?_)
          ·
            have h31' := h31
            try simp only [Bool.and_eq_true, decide_eq_true_eq] at h31'
            unfold M.resOf at hD
            rw [if_pos h31] at hD
            refine Js.region ?_
            refine JL.q (OpP.q (p_move rfl)) ?_
            refine JL.q (OpP.q (p_nilCheck rfl)) ?_
            refine JL.q (OpP.q (p_fieldAddr fld_33_2 rfl)) ?_
            refine JL.q (q_load1 ty_2 rfl (Mem.pub ((hr2.vis (x6.vis.trans x25.vis)) 2 _ rfl))) ?_
            refine JL.q (OpP.q (p_fieldAddr fld_84_3 rfl)) ?_
            refine JL.q (OpP.q (p_fieldAddr fld_33_2 rfl)) ?_
            refine JL.s (e_store (i := 0) (c' := [.int .i64 move, .int .i64 ((M.getI ((M.take r ((M.sowMove r p move).2.1) p.player).stores) p.player) - (M.nth p.stores p.player.toNat)), .bool (r.again && (decide ((M.take r ((M.sowMove r p move).2.1) p.player).last = (-1)))), .slice A16 (((M.take r ((M.sowMove r p move).2.1) p.player).pits).length) c16, .slice (some ⟨b21, 0, none⟩) (((M.take r ((M.sowMove r p move).2.1) p.player).stores).length) c17, .int .i64 p.player]) ty_2 rfl rfl rfl rfl rfl rfl rfl rfl) ?_
            rintro _ _ _ ⟨rfl, rfl⟩ _
            refine JL.nil ?_
            refine Js.seq ?_
            refine Js.region ?_
            refine JL.q (q_loadN ty_84 rfl (Mem.boxR (i := 0) rfl 0 6) rfl rfl) ?_
            refine JL.s (e_store (i := 5) (c' := [.int .i64 move, .int .i64 ((M.getI ((M.take r ((M.sowMove r p move).2.1) p.player).stores) p.player) - (M.nth p.stores p.player.toNat)), .bool (r.again && (decide ((M.take r ((M.sowMove r p move).2.1) p.player).last = (-1)))), .slice A16 (((M.take r ((M.sowMove r p move).2.1) p.player).pits).length) c16, .slice (some ⟨b21, 0, none⟩) (((M.take r ((M.sowMove r p move).2.1) p.player).stores).length) c17, .int .i64 p.player]) ty_84 rfl rfl rfl rfl rfl rfl rfl rfl) ?_
            rintro _ _ _ ⟨rfl, rfl⟩ _
            refine JL.q (OpP.q (p_assign rfl)) ?_
            refine JL.nil ?_
            refine Js.ret (R := RO w (Ty.tup [Ty.agg (cResult ((M.make r p move).1)), Ty.int ((M.make r p move).2)])) @Try.results105 (fun _ _ => rfl) (ResOk.cell (res_box (i := 5) ty_84 rfl rfl rfl rfl rfl) (ResOk.tmp rfl ResOk.nil)) (fun w1 hw => ?_)
            have hx := hw.ext ((x6.trans x25))
            exact ret_own (ps := [(2, (Value.ownBlock (.slice A16 (((M.take r ((M.sowMove r p move).2.1) p.player).pits).length) c16)).toList), (3, (Value.ownBlock (.slice (some ⟨b21, 0, none⟩) (((M.take r ((M.sowMove r p move).2.1) p.player).stores).length) c17)).toList)]) hw hx ⟨_, rfl, ⟨_, _, rfl, ⟨_, rfl, ⟨_, _, rfl, ⟨by first | (rw [hD]; done) | (rw [hD]; rfl), rfl⟩, ⟨_, _, rfl, ⟨by first | (rw [hD]; done) | (rw [hD]; rfl), rfl⟩, ⟨_, _, rfl, ⟨by first | (rw [hD]; done) | (rw [hD]; rfl), rfl⟩, ⟨_, _, rfl, (ints_row (xs := ((M.take r ((M.sowMove r p move).2.1) p.player).pits)) (hw.pr (i := 2) rfl) (show (M.take r ((M.sowMove r p move).2.1) p.player).pits = (((M.make r p move).1).next).pits by first | (rw [hD]; done) | (rw [hD]; rfl))), ⟨_, _, rfl, (ints_row (xs := ((M.take r ((M.sowMove r p move).2.1) p.player).stores)) (hw.pr (i := 3) rfl) (show (M.take r ((M.sowMove r p move).2.1) p.player).stores = (((M.make r p move).1).next).stores by first | (rw [hD]; done) | (rw [hD]; rfl))), ⟨_, _, rfl, ⟨by first | (rw [hD]; done) | (rw [hD]; rfl), rfl⟩, rfl⟩⟩⟩⟩⟩⟩⟩, ⟨_, _, rfl, ⟨by first | (rw [hD]; done) | (rw [hD]; rfl), rfl⟩, rfl⟩⟩⟩ (Pick.cons (j := 2) rfl (List.sublist_append_left _ _) rfl (Pick.cons (j := 3) rfl (List.sublist_append_left _ _) rfl Pick.nil)) (by simp [List.flatten, outV])
          ·
            have h31' := h31
            try simp only [Bool.and_eq_false_iff, decide_eq_false_iff_not] at h31'
            unfold M.resOf at hD
            rw [if_neg (by simpa using h31)] at hD
            refine Js.skip ?_
            refine Js.seq ?_
            refine Js.region ?_
            refine JL.q (q_loadN ty_84 rfl (Mem.boxR (i := 0) rfl 0 6) rfl rfl) ?_
            refine JL.s (e_store (i := 5) (c' := [.int .i64 move, .int .i64 ((M.getI ((M.take r ((M.sowMove r p move).2.1) p.player).stores) p.player) - (M.nth p.stores p.player.toNat)), .bool (r.again && (decide ((M.take r ((M.sowMove r p move).2.1) p.player).last = (-1)))), .slice A16 (((M.take r ((M.sowMove r p move).2.1) p.player).pits).length) c16, .slice (some ⟨b21, 0, none⟩) (((M.take r ((M.sowMove r p move).2.1) p.player).stores).length) c17, .int .i64 (1 - p.player)]) ty_84 rfl rfl rfl rfl rfl rfl rfl rfl) ?_
            rintro _ _ _ ⟨rfl, rfl⟩ _
            refine JL.q (OpP.q (p_assign rfl)) ?_
            refine JL.nil ?_
            refine Js.ret (R := RO w (Ty.tup [Ty.agg (cResult ((M.make r p move).1)), Ty.int ((M.make r p move).2)])) @Try.results105 (fun _ _ => rfl) (ResOk.cell (res_box (i := 5) ty_84 rfl rfl rfl rfl rfl) (ResOk.tmp rfl ResOk.nil)) (fun w1 hw => ?_)
            have hx := hw.ext ((x6.trans x25))
            exact ret_own (ps := [(2, (Value.ownBlock (.slice A16 (((M.take r ((M.sowMove r p move).2.1) p.player).pits).length) c16)).toList), (3, (Value.ownBlock (.slice (some ⟨b21, 0, none⟩) (((M.take r ((M.sowMove r p move).2.1) p.player).stores).length) c17)).toList)]) hw hx ⟨_, rfl, ⟨_, _, rfl, ⟨_, rfl, ⟨_, _, rfl, ⟨by first | (rw [hD]; done) | (rw [hD]; rfl), rfl⟩, ⟨_, _, rfl, ⟨by first | (rw [hD]; done) | (rw [hD]; rfl), rfl⟩, ⟨_, _, rfl, ⟨by first | (rw [hD]; done) | (rw [hD]; rfl), rfl⟩, ⟨_, _, rfl, (ints_row (xs := ((M.take r ((M.sowMove r p move).2.1) p.player).pits)) (hw.pr (i := 2) rfl) (show (M.take r ((M.sowMove r p move).2.1) p.player).pits = (((M.make r p move).1).next).pits by first | (rw [hD]; done) | (rw [hD]; rfl))), ⟨_, _, rfl, (ints_row (xs := ((M.take r ((M.sowMove r p move).2.1) p.player).stores)) (hw.pr (i := 3) rfl) (show (M.take r ((M.sowMove r p move).2.1) p.player).stores = (((M.make r p move).1).next).stores by first | (rw [hD]; done) | (rw [hD]; rfl))), ⟨_, _, rfl, ⟨by first | (rw [hD]; done) | (rw [hD]; rfl), rfl⟩, rfl⟩⟩⟩⟩⟩⟩⟩, ⟨_, _, rfl, ⟨by first | (rw [hD]; done) | (rw [hD]; rfl), rfl⟩, rfl⟩⟩⟩ (Pick.cons (j := 2) rfl (List.sublist_append_left _ _) rfl (Pick.cons (j := 3) rfl (List.sublist_append_left _ _) rfl Pick.nil)) (by simp [List.flatten, outV])

end Go.Proofs.Ytejnmechnhgmfaa

/- Walks: G3. -/
import Derived.Test.YtejnmechnhgmfaaZaTy
import Derived.Test.YtejnmechnhgmfaaZaG2
set_option linter.unusedSimpArgs false
set_option linter.unusedVariables false
namespace Go.Proofs.Ytejnmechnhgmfaa
open Go.RowKit

set_option maxRecDepth 100000 in
set_option maxHeartbeats 400000 in
theorem c_impl_Rules_taken (r : M.Rul) (v_r : Value) (s : M.Sw) (v_s : Value) (player : Int) (w : World) (h_r : (Ty.agg (cRules r)).ok w v_r) (h_s : (Ty.agg (cSown s)).ok w v_s) (r0 : 2 ≤ r.pits) (r1 : r.pits ≤ 8) (r2 : player = 0 ∨ player = 1) (r3 : M.Good r s.pits s.stores 0) (r4 : -1 ≤ s.last) (r5 : s.last < 2 * r.pits) : Ret Try.prog 159 [v_r, v_s, .int .i64 player] w (Ty.ints 2 (M.taken r s player)) := by
  have l1 := r3.lp
  have l2 := r3.ls
  have hv : 0 ≤ M.getI s.pits s.last := M.nn_nth r3.np _
  have hv9 := r3.pit s.last
  obtain rfl := open_Rules h_r
  obtain ⟨A2_0, c2_0, A2_1, c2_1, rfl, h2_0, h2_1, bl2_0, bh2_0, bl2_1, bh2_1⟩ := open_Sown h_s
  obtain ⟨b3, o3, rfl⟩ := ints_some h2_0 (by omega)
  refine enter @Try.func159 @Try.ntmps159 rfl rfl ?_
  refine Js.seq ?_
  refine Js.region ?_
  refine JL.e (e_box (c := [.int .i64 r.pits, .int .i64 r.seeds, .bool r.stores, .bool r.skip, .bool r.relay, .bool r.feed, .bool r.again, .int .i64 r.capture, .int .i64 r.slam]) rfl rfl) ?_
  rintro _ _ _ ⟨b4, rfl, rfl, rfl⟩ _
  refine JL.e (e_box (c := [.slice (some ⟨b3, o3, none⟩) s.pits.length c2_0, .slice A2_1 s.stores.length c2_1, .int .i64 s.last, .int .i64 s.laps]) rfl rfl) ?_
  rintro _ _ _ ⟨b5, rfl, rfl, rfl⟩ _
  refine JL.q (OpP.q (p_assign rfl)) ?_
  refine JL.nil ?_
  refine Js.seq ?_
  refine Js.region ?_
  refine JL.e (e_buildSlice (vs := []) el_24 rfl rfl rfl rfl rfl rfl) ?_
  rintro _ _ _ ⟨b6, rfl, rfl, hl7, rfl⟩ _
  refine JL.q (OpP.q (p_assign rfl)) ?_
  refine JL.nil ?_
  refine Js.seq ?_
  refine Js.seq ?_
  refine Js.region ?_
  refine JL.q (OpP.q (p_fieldAddr fld_129_2 rfl)) ?_
  refine JL.q (q_load1 ty_2 rfl (Mem.box (i := 1) rfl rfl)) ?_
  refine JL.q (OpP.q (p_lss rfl rfl)) ?_
  refine JL.nil ?_
  refine Js.cond rfl (fun h8 => ?_) (fun h8 => ?_)
  ·
    have h8' := h8
    try simp only [decide_eq_true_eq] at h8'
    have hR : M.taken r s player = [] := by unfold M.taken; rw [if_pos (by simpa using h8)]
    refine Js.seq ?_
    refine Js.region ?_
    refine JL.q (OpP.q (p_move rfl)) ?_
    refine JL.q (OpP.q (p_assign rfl)) ?_
    refine JL.nil ?_
    refine Js.ret (R := RO w (Ty.ints 2 (M.taken r s player))) @Try.results159 (fun _ _ => rfl) (ResOk.tmp rfl ResOk.nil) (fun w1 hw => ?_)
    have hx := hw.ext (Up.refl _ _)
    exact ret_own (ps := [(0, (Value.ownBlock (.slice (some ⟨b6, 0, none⟩) 0 0)).toList)]) hw hx (ints_row (xs := []) (hw.pr (i := 0) rfl) (show [] = M.taken r s player by rw [hR])) (Pick.cons (j := 0) rfl (List.sublist_append_left _ _) rfl Pick.nil) (by simp [List.flatten, outV])
  ·
    have h8' := h8
    try simp only [decide_eq_false_iff_not, Int.not_lt] at h8'
    have hl0 : ¬ s.last < 0 := by simpa using h8
    refine Js.skip ?_
    refine Js.seq ?_
    refine Js.region ?_
    refine JL.q (q_loadN ty_32 rfl (Mem.boxR (i := 2) rfl 0 9) rfl rfl) ?_
    refine JL.q (OpP.q (p_fieldAddr fld_129_2 rfl)) ?_
    refine JL.q (q_load1 ty_2 rfl (Mem.box (i := 1) rfl rfl)) ?_
    refine JL.e (e_callV fn_160 rfl (fun w hw => c_impl_Rules_owner r _ s.last w ⟨_, rfl, ⟨rfl, rfl, rfl, rfl, rfl, rfl, rfl, rfl, rfl, trivial⟩⟩ (by omega) (by omega) (by omega) (by omega))) ?_
    rintro _ _ _ ⟨rfl, rfl, rfl⟩ _
    refine JL.q (OpP.q (p_move rfl)) ?_
    refine JL.q (OpP.q (p_eql rfl rfl)) ?_
    refine JL.q (OpP.q (p_assign rfl)) ?_
    refine JL.nil ?_
    refine Js.seq ?_
    refine Js.seq ?_
    refine Js.region ?_
    refine JL.q (OpP.q (p_fieldAddr fld_32_7 rfl)) ?_
    refine JL.q (q_load1 ty_2 rfl (Mem.box (i := 2) rfl rfl)) ?_
    refine JL.nil ?_
    refine Js.block ?_
    refine Js.seq ?_
    refine Js.region ?_
    refine JL.q (OpP.q (p_eql rfl rfl)) ?_
    refine JL.q (OpP.q (p_assign rfl)) ?_
    refine JL.nil ?_
    refine Js.cond rfl (fun h9 => ?_) (fun h9 => ?_)
    ·
      have h9' := h9
      try simp only [decide_eq_true_eq] at h9'
      have hcap : r.capture = 1 := by simpa using h9
      refine Js.seq ?_
      refine Js.region ?_
      refine JL.q (OpP.q (p_fieldAddr fld_129_2 rfl)) ?_
      refine JL.q (q_load1 ty_2 rfl (Mem.box (i := 1) rfl rfl)) ?_
      refine JL.q (OpP.q (p_assign rfl)) ?_
      refine JL.nil ?_
      refine Js.block ?_
      refine Js.loop (fun l os u m => ∃ (k : Int) (out : List Int) (A10_7 : Option Addr) (c10_7 : Nat) (g10_7 : List Nat), l = [(2, .int .i64 player), (3, .pointer (some ⟨b4, 0, none⟩)), (4, .pointer (some ⟨b5, 0, none⟩)), (7, .slice A10_7 out.length c10_7), (9, .int .i64 k)] ∧ os = [rowO 2 1 (.slice A10_7 out.length c10_7) out.length (ints_ out) g10_7, boxO b5 [.slice (some ⟨b3, o3, none⟩) s.pits.length c2_0, .slice A2_1 s.stores.length c2_1, .int .i64 s.last, .int .i64 s.laps] 129, boxO b4 [.int .i64 r.pits, .int .i64 r.seeds, .bool r.stores, .bool r.skip, .bool r.relay, .bool r.feed, .bool r.again, .int .i64 r.capture, .int .i64 r.slam] 32] ∧ Up w.heap.size w u ∧ (out ++ M.ttI r player s.pits k = M.ttI r player s.pits s.last) ∧ (-1 ≤ k) ∧ (k < 2 * r.pits) ∧ ((out.length : Int) + k = s.last) ∧ (out.length ≤ c10_7) ∧ (c10_7 ≤ 9223372036854775807) ∧ m = (k + 1).toNat) ⟨s.last, [], _, _, _, rfl, rfl, Up.refl _ _, by rfl, by first | assumption | omega | rfl | (simp; done), by first | assumption | omega | rfl | (simp; done), by simp, by first | omega | (simp only [List.length_append, List.length_cons, List.length_nil] <;> omega), by first | omega | (simp only [List.length_append, List.length_cons, List.length_nil] <;> omega), rfl⟩ ⟨rfl, rfl, rfl, rfl, rfl, trivial⟩ ?_
      · rintro _ _ u10 _ ⟨k, out, A10_7, c10_7, g10_7, rfl, rfl, x10, hS, k0, k1, hl, f10_4, f10_5, rfl⟩
        refine Js.seq ?_
        refine Js.seq ?_
        refine Js.region ?_
        refine JL.q (OpP.q (p_move rfl)) ?_
        refine JL.q (OpP.q (p_geq rfl rfl)) ?_
        refine JL.q (OpP.q (p_move rfl)) ?_
        refine JL.g (Gd.t1 rfl rfl rfl) (fun hc => q_loadN ty_32 rfl (Mem.boxR (i := 2) rfl 0 9) rfl rfl) ?_
        refine JL.g (Gd.t1 rfl rfl rfl) (fun hc => OpP.q (p_move rfl)) ?_
        refine JL.ge (Gd.t1 rfl rfl rfl) (fun hc => e_callV fn_160 (opds_2 (gvt rfl hc) (gvt rfl hc)) (fun w hw => c_impl_Rules_owner r _ k w ⟨_, rfl, ⟨rfl, rfl, rfl, rfl, rfl, rfl, rfl, rfl, rfl, trivial⟩⟩ (by have hc9 := hc; (try simp only [decide_eq_true_eq] at hc9); omega) (by have hc9 := hc; (try simp only [decide_eq_true_eq] at hc9); omega) (by have hc9 := hc; (try simp only [decide_eq_true_eq] at hc9); omega) (by have hc9 := hc; (try simp only [decide_eq_true_eq] at hc9); omega))) ?_
        refine JL.g (Gd.t1 rfl rfl rfl) (fun hc => OpP.q (p_move rfl)) ?_
        refine JL.g (Gd.t1 rfl rfl rfl) (fun hc => OpP.q (p_neq (gvt rfl hc) (gvt rfl hc))) ?_
        refine JL.q (OpP.q (p_pickAnd rfl rfl rfl)) ?_
        refine JL.q (OpP.q (p_move rfl)) ?_
        refine JL.g (Gd.t1 rfl rfl rfl) (fun hc => OpP.q (p_fieldAddr fld_129_0 rfl)) ?_
        refine JL.g (Gd.t1 rfl rfl rfl) (fun hc => q_load1 ty_24 (gvt rfl hc) (Mem.box (i := 1) rfl rfl)) ?_
        refine JL.g (Gd.t1 rfl rfl rfl) (fun hc => OpP.q (p_move rfl)) ?_
        refine JL.g (Gd.t1 rfl rfl rfl) (fun hc => OpP.q (p_indexAddr el_24 (gvt rfl hc) (gvt rfl hc) (by have hc9 := hc; (try simp only [Bool.and_eq_true, decide_eq_true_eq, Bool.not_eq_true', decide_eq_false_iff_not] at hc9); omega) (by have hc9 := hc; (try simp only [Bool.and_eq_true, decide_eq_true_eq, Bool.not_eq_true', decide_eq_false_iff_not] at hc9); omega) rfl)) ?_
        refine JL.g (Gd.t1 rfl rfl rfl) (fun hc => q_load1 ty_2 (gvt rfl hc) (Mem.pub (ints_cellI (i := k) (Ty.mono _ h2_0 x10.vis) (by have hc9 := hc; (try simp only [Bool.and_eq_true, decide_eq_true_eq, Bool.not_eq_true', decide_eq_false_iff_not] at hc9); omega)))) ?_
        refine JL.ge (Gd.t1 rfl rfl rfl) (fun hc => e_callV fn_100 (opds_3 (gvt rfl hc) rfl rfl) (fun w hw => c_impl_between (M.getI s.pits k) 2 3 w)) ?_
        refine JL.q (OpP.q (p_pickAnd rfl rfl rfl)) ?_
        refine JL.nil ?_
        refine Js.cond rfl (fun h12 => ?_) (fun h12 => ?_)
        ·
          have h12' := h12
          try simp only [Bool.and_eq_true, decide_eq_true_eq, Bool.not_eq_true', decide_eq_false_iff_not] at h12'
          obtain ⟨⟨c0, c1⟩, c2⟩ : (0 ≤ k ∧ ¬ M.owner r k = player) ∧ M.betw (M.getI s.pits k) 2 3 = true := by simpa using h12
          have hS2 : (out ++ [k]) ++ M.ttI r player s.pits (k - 1) = M.ttI r player s.pits s.last := by rw [← hS, M.ttI_yes c0 c1 c2]; simp
          refine Js.skip ?_
          refine Js.seq ?_
          refine Js.block ?_
          refine Js.region ?_
          refine JL.q (OpP.q (p_move rfl)) ?_
          refine JL.q (OpP.q (p_move rfl)) ?_
          refine JL.e (e_buildSlice (vs := [.int .i64 k]) el_24 rfl rfl rfl rfl rfl rfl) ?_
          rintro _ _ _ ⟨b13, rfl, rfl, hl14, rfl⟩ _
          refine JL.e (e_append (i := 1) (n' := (out ++ [k]).length) (vs' := ints_ (out ++ [k])) el_24 rfl rfl rfl rfl (src_row (i := 0) und_24 rfl rfl) (by omega) (by omega) (by first | omega | (simp only [List.length_append, List.length_cons, List.length_nil] <;> omega)) (by simp [ints_])) ?_
          rintro v15 _ _ ⟨⟨g16, rfl⟩, rfl⟩ _
          refine JL.fact (row_form' (i := 1) rfl) (fun hf17 => ?_)
          obtain ⟨A17, c17, rfl, bl17, bh17⟩ := hf17
          refine JL.q (OpP.q (p_assign rfl)) ?_
          refine JL.nil ?_
          refine Js.blockEnd ?_
          refine Js.region ?_
          refine JL.q (OpP.q (p_move rfl)) ?_
          refine JL.q (OpP.q (p_sub rfl rfl (IntWalk.i64_in _ (by omega)))) ?_
          refine JL.q (OpP.q (p_assign rfl)) ?_
          refine JL.nil ?_
          refine Js.drop (i := 0) rfl rfl (fun u18 x18 => ?_)
          exact Js.again ⟨k - 1, out ++ [k], _, _, _, rfl, rfl, (x10.trans x18), by exact hS2, by first | assumption | omega | rfl | (simp; done), by first | assumption | omega | rfl | (simp; done), by simp only [List.length_append, List.length_cons, List.length_nil]; omega, by first | omega | (simp only [List.length_append, List.length_cons, List.length_nil] <;> omega), by first | omega | (simp only [List.length_append, List.length_cons, List.length_nil] <;> omega), rfl⟩ (by omega) ⟨rfl, rfl, rfl, rfl, rfl, trivial⟩
        ·
          have h12' := h12
          try simp only [Bool.and_eq_false_iff, decide_eq_false_iff_not, Int.not_le, Bool.not_eq_false', decide_eq_true_eq] at h12'
          have hF : M.ttI r player s.pits k = [] := by rcases h12' with (h | h) | h; exact M.ttI_neg h; exact M.ttI_no (.inl h); exact M.ttI_no (.inr h)
          rw [hF, List.append_nil] at hS
          have hR : M.taken r s player = out := by unfold M.taken; rw [if_neg hl0, if_pos hcap, hS]; simp [M.ttI, hl0]
          refine Js.exit (fun _ _ => rfl) ?_
          refine Js.blockEnd ?_
          refine Js.seq ?_
          refine Js.region ?_
          refine JL.q (OpP.q (p_move rfl)) ?_
          refine JL.q (OpP.q (p_assign rfl)) ?_
          refine JL.nil ?_
          refine Js.ret (R := RO w (Ty.ints 2 (M.taken r s player))) @Try.results159 (fun _ _ => rfl) (ResOk.tmp rfl ResOk.nil) (fun w1 hw => ?_)
          have hx := hw.ext (x10)
          exact ret_own (ps := [(0, (Value.ownBlock (.slice A10_7 out.length c10_7)).toList)]) hw hx (ints_row (xs := out) (hw.pr (i := 0) rfl) (show out = M.taken r s player by rw [hR])) (Pick.cons (j := 0) rfl (List.sublist_append_left _ _) rfl Pick.nil) (by simp [List.flatten, outV])
    ·
      have h9' := h9
      try simp only [decide_eq_false_iff_not] at h9'
      have hcap1 : ¬ r.capture = 1 := by simpa using h9
      refine Js.seq ?_
      refine Js.region ?_
      refine JL.q (OpP.q (p_eql rfl rfl)) ?_
      refine JL.q (OpP.q (p_assign rfl)) ?_
      refine JL.nil ?_
      refine Js.cond rfl (fun h19 => ?_) (fun h19 => ?_)
      ·
        have h19' := h19
        try simp only [decide_eq_true_eq] at h19'
        have hcap : r.capture = 2 := by simpa using h19
        refine Js.seq ?_
        have ho : M.opp r s.last = 2 * r.pits - 1 - s.last := rfl
        refine Js.region ?_
        refine JL.q (q_loadN ty_32 rfl (Mem.boxR (i := 2) rfl 0 9) rfl rfl) ?_
        refine JL.q (OpP.q (p_fieldAddr fld_129_2 rfl)) ?_
        refine JL.q (q_load1 ty_2 rfl (Mem.box (i := 1) rfl rfl)) ?_
        refine JL.e (e_callV fn_164 rfl (fun w hw => c_impl_Rules_opposite r _ s.last w ⟨_, rfl, ⟨rfl, rfl, rfl, rfl, rfl, rfl, rfl, rfl, rfl, trivial⟩⟩ (by omega) (by omega) (by omega) (by omega))) ?_
        rintro _ _ _ ⟨rfl, rfl, rfl⟩ _
        refine JL.q (OpP.q (p_assign rfl)) ?_
        refine JL.nil ?_
        refine Js.seq ?_
        have ho : M.opp r s.last = 2 * r.pits - 1 - s.last := rfl
        refine Js.region ?_
        refine JL.q (OpP.q (p_move rfl)) ?_
        refine JL.q (OpP.q (p_move rfl)) ?_
        refine JL.g (Gd.t1 rfl rfl rfl) (fun hc => OpP.q (p_fieldAddr fld_129_0 rfl)) ?_
        refine JL.g (Gd.t1 rfl rfl rfl) (fun hc => q_load1 ty_24 (gvt rfl hc) (Mem.box (i := 1) rfl rfl)) ?_
        refine JL.g (Gd.t1 rfl rfl rfl) (fun hc => OpP.q (p_fieldAddr fld_129_2 rfl)) ?_
        refine JL.g (Gd.t1 rfl rfl rfl) (fun hc => q_load1 ty_2 (gvt rfl hc) (Mem.box (i := 1) rfl rfl)) ?_
        refine JL.g (Gd.t1 rfl rfl rfl) (fun hc => OpP.q (p_indexAddr el_24 (gvt rfl hc) (gvt rfl hc) (by have hc9 := hc; (try simp only [decide_eq_true_eq] at hc9); omega) (by have hc9 := hc; (try simp only [decide_eq_true_eq] at hc9); omega) rfl)) ?_
        refine JL.g (Gd.t1 rfl rfl rfl) (fun hc => q_load1 ty_2 (gvt rfl hc) (Mem.pub (ints_cellI (i := s.last) h2_0 (by have hc9 := hc; (try simp only [decide_eq_true_eq] at hc9); omega)))) ?_
        refine JL.g (Gd.t1 rfl rfl rfl) (fun hc => OpP.q (p_eql (gvt rfl hc) rfl)) ?_
        refine JL.q (OpP.q (p_pickAnd rfl rfl rfl)) ?_
        refine JL.q (OpP.q (p_move rfl)) ?_
        refine JL.g (Gd.t1 rfl rfl rfl) (fun hc => OpP.q (p_fieldAddr fld_129_0 rfl)) ?_
        refine JL.g (Gd.t1 rfl rfl rfl) (fun hc => q_load1 ty_24 (gvt rfl hc) (Mem.box (i := 1) rfl rfl)) ?_
        refine JL.g (Gd.t1 rfl rfl rfl) (fun hc => OpP.q (p_move rfl)) ?_
        refine JL.g (Gd.t1 rfl rfl rfl) (fun hc => OpP.q (p_indexAddr el_24 (gvt rfl hc) (gvt rfl hc) (by have hc9 := hc; (try simp only [Bool.and_eq_true, decide_eq_true_eq] at hc9); omega) (by have hc9 := hc; (try simp only [Bool.and_eq_true, decide_eq_true_eq] at hc9); omega) rfl)) ?_
        refine JL.g (Gd.t1 rfl rfl rfl) (fun hc => q_load1 ty_2 (gvt rfl hc) (Mem.pub (ints_cellI (i := M.opp r s.last) h2_0 (by have hc9 := hc; (try simp only [Bool.and_eq_true, decide_eq_true_eq] at hc9); omega)))) ?_
        refine JL.g (Gd.t1 rfl rfl rfl) (fun hc => OpP.q (p_gtr (gvt rfl hc) rfl)) ?_
        refine JL.q (OpP.q (p_pickAnd rfl rfl rfl)) ?_
        refine JL.nil ?_
        refine Js.cond rfl (fun h22 => ?_) (fun h22 => ?_)
        ·
          have h22' := h22
          try simp only [Bool.and_eq_true, decide_eq_true_eq] at h22'
          have hR : M.taken r s player = [s.last, M.opp r s.last] := by unfold M.taken; rw [if_neg hl0, if_neg hcap1, if_pos hcap, if_pos (by simpa [and_assoc] using h22)]
          refine Js.region ?_
          refine JL.q (OpP.q (p_move rfl)) ?_
          refine JL.q (OpP.q (p_fieldAddr fld_129_2 rfl)) ?_
          refine JL.q (q_load1 ty_2 rfl (Mem.box (i := 1) rfl rfl)) ?_
          refine JL.q (OpP.q (p_move rfl)) ?_
          refine JL.e (e_buildSlice (vs := [.int .i64 s.last, .int .i64 (M.opp r s.last)]) el_24 rfl rfl rfl rfl rfl rfl) ?_
          rintro _ _ _ ⟨b23, rfl, rfl, hl24, rfl⟩ _
          refine JL.e (e_append (i := 1) (n' := 2) (vs' := ints_ [s.last, (M.opp r s.last)]) el_24 rfl rfl rfl rfl (src_row (i := 0) und_24 rfl rfl) (by omega) (by omega) (by first | omega | (simp only [List.length_append, List.length_cons, List.length_nil] <;> omega)) (by simp [ints_])) ?_
          rintro v25 _ _ ⟨⟨g26, rfl⟩, rfl⟩ _
          refine JL.fact (row_form' (i := 1) rfl) (fun hf27 => ?_)
          obtain ⟨A27, c27, rfl, bl27, bh27⟩ := hf27
          refine JL.q (OpP.q (p_assign rfl)) ?_
          refine JL.nil ?_
          refine Js.blockEnd ?_
          refine Js.seq ?_
          refine Js.region ?_
          refine JL.q (OpP.q (p_move rfl)) ?_
          refine JL.q (OpP.q (p_assign rfl)) ?_
          refine JL.nil ?_
          refine Js.ret (R := RO w (Ty.ints 2 (M.taken r s player))) @Try.results159 (fun _ _ => rfl) (ResOk.tmp rfl ResOk.nil) (fun w1 hw => ?_)
          have hx := hw.ext (Up.refl _ _)
          exact ret_own (ps := [(1, (Value.ownBlock (.slice A27 2 c27)).toList)]) hw hx (ints_row (xs := [s.last, (M.opp r s.last)]) (hw.pr (i := 1) rfl) (show [s.last, (M.opp r s.last)] = M.taken r s player by rw [hR])) (Pick.cons (j := 1) rfl (List.sublist_append_left _ _) rfl Pick.nil) (by simp [List.flatten, outV])
        ·
          have h22' := h22
          try simp only [Bool.and_eq_false_iff, decide_eq_false_iff_not, Int.not_lt] at h22'
          have hR : M.taken r s player = [] := by unfold M.taken; rw [if_neg hl0, if_neg hcap1, if_pos hcap, if_neg (by simpa [and_assoc] using h22)]
          refine Js.skip ?_
          refine Js.blockEnd ?_
          refine Js.seq ?_
          refine Js.region ?_
          refine JL.q (OpP.q (p_move rfl)) ?_
          refine JL.q (OpP.q (p_assign rfl)) ?_
          refine JL.nil ?_
          refine Js.ret (R := RO w (Ty.ints 2 (M.taken r s player))) @Try.results159 (fun _ _ => rfl) (ResOk.tmp rfl ResOk.nil) (fun w1 hw => ?_)
          have hx := hw.ext (Up.refl _ _)
          exact ret_own (ps := [(0, (Value.ownBlock (.slice (some ⟨b6, 0, none⟩) 0 0)).toList)]) hw hx (ints_row (xs := []) (hw.pr (i := 0) rfl) (show [] = M.taken r s player by rw [hR])) (Pick.cons (j := 0) rfl (List.sublist_append_left _ _) rfl Pick.nil) (by simp [List.flatten, outV])
      ·
        have h19' := h19
        try simp only [decide_eq_false_iff_not] at h19'
        have hcap2 : ¬ r.capture = 2 := by simpa using h19
        refine Js.seq ?_
        refine Js.region ?_
        refine JL.q (OpP.q (p_eql rfl rfl)) ?_
        refine JL.q (OpP.q (p_assign rfl)) ?_
        refine JL.nil ?_
        refine Js.cond rfl (fun h28 => ?_) (fun h28 => ?_)
        ·
          have h28' := h28
          try simp only [decide_eq_true_eq] at h28'
          have hcap : r.capture = 3 := by simpa using h28
          refine Js.seq ?_
          refine Js.region ?_
          refine JL.q (OpP.q (p_move rfl)) ?_
          refine JL.q (OpP.q (p_not rfl)) ?_
          refine JL.q (OpP.q (p_move rfl)) ?_
          refine JL.g (Gd.t1 rfl rfl rfl) (fun hc => OpP.q (p_fieldAddr fld_129_0 rfl)) ?_
          refine JL.g (Gd.t1 rfl rfl rfl) (fun hc => q_load1 ty_24 (gvt rfl hc) (Mem.box (i := 1) rfl rfl)) ?_
          refine JL.g (Gd.t1 rfl rfl rfl) (fun hc => OpP.q (p_fieldAddr fld_129_2 rfl)) ?_
          refine JL.g (Gd.t1 rfl rfl rfl) (fun hc => q_load1 ty_2 (gvt rfl hc) (Mem.box (i := 1) rfl rfl)) ?_
          refine JL.g (Gd.t1 rfl rfl rfl) (fun hc => OpP.q (p_indexAddr el_24 (gvt rfl hc) (gvt rfl hc) (by have hc9 := hc; (try simp only [Bool.not_eq_true', decide_eq_false_iff_not] at hc9); omega) (by have hc9 := hc; (try simp only [Bool.not_eq_true', decide_eq_false_iff_not] at hc9); omega) rfl)) ?_
          refine JL.g (Gd.t1 rfl rfl rfl) (fun hc => q_load1 ty_2 (gvt rfl hc) (Mem.pub (ints_cellI (i := s.last) h2_0 (by have hc9 := hc; (try simp only [Bool.not_eq_true', decide_eq_false_iff_not] at hc9); omega)))) ?_
          refine JL.g (Gd.t1 rfl rfl rfl) (fun hc => OpP.q (p_rem (gvt rfl hc) rfl (by have hc9 := hc; (try simp only [Bool.not_eq_true', decide_eq_false_iff_not] at hc9); omega) (Int.tmod_eq_emod_of_nonneg (by have hc9 := hc; (try simp only [Bool.not_eq_true', decide_eq_false_iff_not] at hc9); omega)))) ?_
          refine JL.g (Gd.t1 rfl rfl rfl) (fun hc => OpP.q (p_eql (gvt rfl hc) rfl)) ?_
          refine JL.q (OpP.q (p_pickAnd rfl rfl rfl)) ?_
          refine JL.nil ?_
          refine Js.cond rfl (fun h30 => ?_) (fun h30 => ?_)
          ·
            have h30' := h30
            try simp only [Bool.and_eq_true, Bool.not_eq_true', decide_eq_false_iff_not, decide_eq_true_eq] at h30'
            have hR : M.taken r s player = [s.last] := by unfold M.taken; rw [if_neg hl0, if_neg hcap1, if_neg hcap2, if_pos hcap, if_pos (by simpa using h30)]
            refine Js.region ?_
            refine JL.q (OpP.q (p_move rfl)) ?_
            refine JL.q (OpP.q (p_fieldAddr fld_129_2 rfl)) ?_
            refine JL.q (q_load1 ty_2 rfl (Mem.box (i := 1) rfl rfl)) ?_
            refine JL.e (e_buildSlice (vs := [.int .i64 s.last]) el_24 rfl rfl rfl rfl rfl rfl) ?_
            rintro _ _ _ ⟨b31, rfl, rfl, hl32, rfl⟩ _
            refine JL.e (e_append (i := 1) (n' := 1) (vs' := ints_ [s.last]) el_24 rfl rfl rfl rfl (src_row (i := 0) und_24 rfl rfl) (by omega) (by omega) (by first | omega | (simp only [List.length_append, List.length_cons, List.length_nil] <;> omega)) (by simp [ints_])) ?_
            rintro v33 _ _ ⟨⟨g34, rfl⟩, rfl⟩ _
            refine JL.fact (row_form' (i := 1) rfl) (fun hf35 => ?_)
            obtain ⟨A35, c35, rfl, bl35, bh35⟩ := hf35
            refine JL.q (OpP.q (p_assign rfl)) ?_
            refine JL.nil ?_
            refine Js.blockEnd ?_
            refine Js.seq ?_
            refine Js.region ?_
            refine JL.q (OpP.q (p_move rfl)) ?_
            refine JL.q (OpP.q (p_assign rfl)) ?_
            refine JL.nil ?_
            refine Js.ret (R := RO w (Ty.ints 2 (M.taken r s player))) @Try.results159 (fun _ _ => rfl) (ResOk.tmp rfl ResOk.nil) (fun w1 hw => ?_)
            have hx := hw.ext (Up.refl _ _)
            exact ret_own (ps := [(1, (Value.ownBlock (.slice A35 1 c35)).toList)]) hw hx (ints_row (xs := [s.last]) (hw.pr (i := 1) rfl) (show [s.last] = M.taken r s player by rw [hR])) (Pick.cons (j := 1) rfl (List.sublist_append_left _ _) rfl Pick.nil) (by simp [List.flatten, outV])
          ·
            have h30' := h30
            try simp only [Bool.and_eq_false_iff, Bool.not_eq_false', decide_eq_true_eq, decide_eq_false_iff_not] at h30'
            have hR : M.taken r s player = [] := by unfold M.taken; rw [if_neg hl0, if_neg hcap1, if_neg hcap2, if_pos hcap, if_neg (by simpa using h30)]
            refine Js.skip ?_
            refine Js.blockEnd ?_
            refine Js.seq ?_
            refine Js.region ?_
            refine JL.q (OpP.q (p_move rfl)) ?_
            refine JL.q (OpP.q (p_assign rfl)) ?_
            refine JL.nil ?_
            refine Js.ret (R := RO w (Ty.ints 2 (M.taken r s player))) @Try.results159 (fun _ _ => rfl) (ResOk.tmp rfl ResOk.nil) (fun w1 hw => ?_)
            have hx := hw.ext (Up.refl _ _)
            exact ret_own (ps := [(0, (Value.ownBlock (.slice (some ⟨b6, 0, none⟩) 0 0)).toList)]) hw hx (ints_row (xs := []) (hw.pr (i := 0) rfl) (show [] = M.taken r s player by rw [hR])) (Pick.cons (j := 0) rfl (List.sublist_append_left _ _) rfl Pick.nil) (by simp [List.flatten, outV])
        ·
          have h28' := h28
          try simp only [decide_eq_false_iff_not] at h28'
          have hcap3 : ¬ r.capture = 3 := by simpa using h28
          have hR : M.taken r s player = [] := by unfold M.taken; rw [if_neg hl0, if_neg hcap1, if_neg hcap2, if_neg hcap3]
          refine Js.skip ?_
          refine Js.blockEnd ?_
          refine Js.seq ?_
          refine Js.region ?_
          refine JL.q (OpP.q (p_move rfl)) ?_
          refine JL.q (OpP.q (p_assign rfl)) ?_
          refine JL.nil ?_
          refine Js.ret (R := RO w (Ty.ints 2 (M.taken r s player))) @Try.results159 (fun _ _ => rfl) (ResOk.tmp rfl ResOk.nil) (fun w1 hw => ?_)
          have hx := hw.ext (Up.refl _ _)
          exact ret_own (ps := [(0, (Value.ownBlock (.slice (some ⟨b6, 0, none⟩) 0 0)).toList)]) hw hx (ints_row (xs := []) (hw.pr (i := 0) rfl) (show [] = M.taken r s player by rw [hR])) (Pick.cons (j := 0) rfl (List.sublist_append_left _ _) rfl Pick.nil) (by simp [List.flatten, outV])

set_option maxRecDepth 100000 in
set_option maxHeartbeats 400000 in
theorem c_impl_Rules_slams (r : M.Rul) (v_r : Value) (s : M.Sw) (v_s : Value) (player : Int) (w : World) (h_r : (Ty.agg (cRules r)).ok w v_r) (h_s : (Ty.agg (cSown s)).ok w v_s) (r0 : 2 ≤ r.pits) (r1 : r.pits ≤ 8) (r2 : player = 0 ∨ player = 1) (r3 : M.Good r s.pits s.stores 0) (r4 : -1 ≤ s.last) (r5 : s.last < 2 * r.pits) : RetV Try.prog 150 [v_r, v_s, .int .i64 player] w (.bool (M.slams r s player)) := by
  have l1 := r3.lp
  have l2 := r3.ls
  have hao := M.Good.ok r3
  have hlen := M.taken_len (s := s) (player := player) r5 r1
  obtain rfl := open_Rules h_r
  obtain ⟨A2_0, c2_0, A2_1, c2_1, rfl, h2_0, h2_1, bl2_0, bh2_0, bl2_1, bh2_1⟩ := open_Sown h_s
  obtain ⟨b3, o3, rfl⟩ := ints_some h2_0 (by omega)
  refine enter @Try.func150 @Try.ntmps150 rfl rfl ?_
  refine Js.seq ?_
  refine Js.region ?_
  refine JL.e (e_box (c := [.int .i64 r.pits, .int .i64 r.seeds, .bool r.stores, .bool r.skip, .bool r.relay, .bool r.feed, .bool r.again, .int .i64 r.capture, .int .i64 r.slam]) rfl rfl) ?_
  rintro _ _ _ ⟨b4, rfl, rfl, rfl⟩ _
  refine JL.e (e_box (c := [.slice (some ⟨b3, o3, none⟩) s.pits.length c2_0, .slice A2_1 s.stores.length c2_1, .int .i64 s.last, .int .i64 s.laps]) rfl rfl) ?_
  rintro _ _ _ ⟨b5, rfl, rfl, rfl⟩ _
  refine JL.q (OpP.q (p_assign rfl)) ?_
  refine JL.nil ?_
  refine Js.seq ?_
  refine Js.region ?_
  refine JL.q (q_loadN ty_32 rfl (Mem.boxR (i := 1) rfl 0 9) rfl rfl) ?_
  refine JL.q (OpP.q (p_fieldAddr fld_129_0 rfl)) ?_
  refine JL.q (q_load1 ty_24 rfl (Mem.box (i := 0) rfl rfl)) ?_
  refine JL.q (OpP.q (p_move rfl)) ?_
  refine JL.q (OpP.q (p_sub rfl rfl (IntWalk.i64_in _ (by omega)))) ?_
  refine JL.e (e_callV fn_135 rfl (fun w hw => c_impl_Rules_side r _ s.pits _ (1 - player) w ⟨_, rfl, ⟨rfl, rfl, rfl, rfl, rfl, rfl, rfl, rfl, rfl, trivial⟩⟩ (Ty.mono _ h2_0 hw.vis) (by omega) (by omega) (by omega) (by omega) hao.1)) ?_
  rintro _ _ _ ⟨rfl, rfl, rfl⟩ _
  refine JL.q (OpP.q (p_assign rfl)) ?_
  refine JL.q (OpP.q (p_assign rfl)) ?_
  refine JL.nil ?_
  refine Js.seq ?_
  refine Js.seq ?_
  refine Js.region ?_
  refine JL.q (q_loadN ty_32 rfl (Mem.boxR (i := 1) rfl 0 9) rfl rfl) ?_
  refine JL.q (q_loadN ty_129 rfl (Mem.boxR (i := 0) rfl 0 4) rfl rfl) ?_
  refine JL.q (OpP.q (p_move rfl)) ?_
  refine JL.e (e_callP fn_159 rfl (fun w hw => c_impl_Rules_taken r _ s _ player w ⟨_, rfl, ⟨rfl, rfl, rfl, rfl, rfl, rfl, rfl, rfl, rfl, trivial⟩⟩ ⟨_, rfl, ⟨(Ty.mono _ h2_0 hw.vis), (Ty.mono _ h2_1 hw.vis), rfl, rfl, trivial⟩⟩ (by omega) (by omega) (by omega) r3 (by omega) (by omega))) ?_
  rintro v6 _ u8 ⟨h7, rfl⟩ x8
  obtain ⟨A9, c9, rfl, bl9, bh9⟩ := sl_form h7
  refine JL.q (OpP.q (p_len el_24 rfl)) ?_
  refine JL.q (OpP.q (p_move rfl)) ?_
  refine JL.nil ?_
  refine Js.block ?_
  refine Js.loop (fun l os u m => ∃ (k : Nat) (g : Int), l = [(2, .int .i64 player), (3, .pointer (some ⟨b4, 0, none⟩)), (4, .pointer (some ⟨b5, 0, none⟩)), (7, .int .i64 (M.side r s.pits (1 - player))), (8, .int .i64 g), (20, .slice A9 ((M.taken r s player).length) c9), (21, .int .i64 (((M.taken r s player).length) : Int)), (22, .int .i64 (k : Int))] ∧ os = [boxO b5 [.slice (some ⟨b3, o3, none⟩) s.pits.length c2_0, .slice A2_1 s.stores.length c2_1, .int .i64 s.last, .int .i64 s.laps] 129, boxO b4 [.int .i64 r.pits, .int .i64 r.seeds, .bool r.stores, .bool r.skip, .bool r.relay, .bool r.feed, .bool r.again, .int .i64 r.capture, .int .i64 r.slam] 32] ∧ Up w.heap.size u8 u ∧ (g + M.gone r s player ((M.taken r s player).drop k) = M.gone r s player (M.taken r s player)) ∧ (k ≤ (M.taken r s player).length) ∧ (0 ≤ g) ∧ (g ≤ 96 * k) ∧ m = (M.taken r s player).length - k) ⟨0, 0, rfl, rfl, Up.refl _ _, by simp, by first | assumption | omega | rfl | (simp; done), by first | assumption | omega | rfl | (simp; done), by first | assumption | omega | rfl | (simp; done), rfl⟩ ⟨rfl, rfl, rfl, rfl, rfl, rfl, rfl, rfl, trivial⟩ ?_
  · rintro _ _ u10 _ ⟨k, g, rfl, rfl, x10, hS, hk, g0, g1, rfl⟩
    refine Js.seq ?_
    refine Js.region ?_
    refine JL.q (OpP.q (p_lss rfl rfl)) ?_
    refine JL.nil ?_
    refine Js.seq ?_
    refine Js.cond rfl (fun h11 => ?_) (fun h11 => ?_)
    ·
      have h11' := h11
      try simp only [decide_eq_true_eq] at h11'
      have hk2 : k < (M.taken r s player).length := by have := h11; simp at this; omega
      have hx := M.taken_mem (r := r) (s := s) (player := player) r5 (M.nth_mem hk2)
      have hvx := r3.pit (M.nth (M.taken r s player) k)
      have hS1 := hS
      rw [M.drop_nth hk2, M.gone_cons] at hS1
      refine Js.skip ?_
      refine Js.seq ?_
      refine Js.block ?_
      refine Js.seq ?_
      refine Js.region ?_
      obtain ⟨b12, o12, he12, hc12⟩ := ints_elem (Ty.mono _ h7 x10.vis) (i := k) (by omega)
      refine JL.q (OpP.q (p_indexAddr el_24 rfl rfl (by omega) (by omega) he12)) ?_
      refine JL.q (q_load1 ty_2 rfl (Mem.pub hc12)) ?_
      refine JL.q (OpP.q (p_assign rfl)) ?_
      refine JL.nil ?_
      refine Js.seq ?_
      refine Js.region ?_
      refine JL.q (q_loadN ty_32 rfl (Mem.boxR (i := 1) rfl 0 9) rfl rfl) ?_
      refine JL.q (OpP.q (p_move rfl)) ?_
      refine JL.e (e_callV fn_160 rfl (fun w hw => c_impl_Rules_owner r _ (M.nth (M.taken r s player) k) w ⟨_, rfl, ⟨rfl, rfl, rfl, rfl, rfl, rfl, rfl, rfl, rfl, trivial⟩⟩ (by omega) (by omega) (by omega) (by omega))) ?_
      rintro _ _ _ ⟨rfl, rfl, rfl⟩ _
      refine JL.q (OpP.q (p_move rfl)) ?_
      refine JL.q (OpP.q (p_neq rfl rfl)) ?_
      refine JL.nil ?_
      refine Js.cond rfl (fun h13 => ?_) (fun h13 => ?_)
      ·
        have h13' := h13
        try simp only [Bool.not_eq_true', decide_eq_false_iff_not] at h13'
        have hS2 : (g + M.getI s.pits (M.nth (M.taken r s player) k)) + M.gone r s player ((M.taken r s player).drop (k + 1)) = M.gone r s player (M.taken r s player) := by rw [if_neg (by simpa using h13)] at hS1; omega
        refine Js.region ?_
        refine JL.q (OpP.q (p_move rfl)) ?_
        refine JL.q (OpP.q (p_fieldAddr fld_129_0 rfl)) ?_
        refine JL.q (q_load1 ty_24 rfl (Mem.box (i := 0) rfl rfl)) ?_
        refine JL.q (OpP.q (p_move rfl)) ?_
        refine JL.q (OpP.q (p_indexAddr el_24 rfl rfl (by omega) (by omega) rfl)) ?_
        refine JL.q (q_load1 ty_2 rfl (Mem.pub (ints_cellI (i := M.nth (M.taken r s player) k) (Ty.mono _ h2_0 (x8.vis.trans x10.vis)) (by omega)))) ?_
        refine JL.q (OpP.q (p_add rfl rfl (IntWalk.i64_in _ (by omega)))) ?_
        refine JL.q (OpP.q (p_assign rfl)) ?_
        refine JL.nil ?_
        refine Js.blockEnd ?_
        refine Js.region ?_
        refine JL.q (OpP.q (p_add rfl rfl (IntWalk.i64_in _ (by omega)))) ?_
        refine JL.q (OpP.q (p_move rfl)) ?_
        refine JL.nil ?_
        exact Js.again ⟨k + 1, g + (M.getI s.pits (M.nth (M.taken r s player) k)), rfl, rfl, x10, by exact hS2, by first | assumption | omega | rfl | (simp; done), by first | assumption | omega | rfl | (simp; done), by first | assumption | omega | rfl | (simp; done), rfl⟩ (by omega) ⟨rfl, rfl, rfl, rfl, rfl, rfl, rfl, rfl, trivial⟩
      ·
        have h13' := h13
        try simp only [Bool.not_eq_false', decide_eq_true_eq] at h13'
        have hS2 : g + M.gone r s player ((M.taken r s player).drop (k + 1)) = M.gone r s player (M.taken r s player) := by rw [if_pos (by simpa using h13)] at hS1; omega
        refine Js.skip ?_
        refine Js.blockEnd ?_
        refine Js.region ?_
        refine JL.q (OpP.q (p_add rfl rfl (IntWalk.i64_in _ (by omega)))) ?_
        refine JL.q (OpP.q (p_move rfl)) ?_
        refine JL.nil ?_
        exact Js.again ⟨k + 1, g, rfl, rfl, x10, by exact hS2, by first | assumption | omega | rfl | (simp; done), by first | assumption | omega | rfl | (simp; done), by first | assumption | omega | rfl | (simp; done), rfl⟩ (by omega) ⟨rfl, rfl, rfl, rfl, rfl, rfl, rfl, rfl, trivial⟩
    ·
      have h11' := h11
      try simp only [decide_eq_false_iff_not, Int.not_lt] at h11'
      have hg : g = M.gone r s player (M.taken r s player) := by rw [← hS, List.drop_eq_nil_of_le (by omega), M.gone_nil]; omega
      refine Js.exit (fun _ _ => rfl) ?_
      refine Js.seq ?_
      refine Js.region ?_
      refine JL.q (OpP.q (p_move rfl)) ?_
      refine JL.q (OpP.q (p_gtr rfl rfl)) ?_
      refine JL.q (OpP.q (p_move rfl)) ?_
      refine JL.g (Gd.t1 rfl rfl rfl) (fun hc => OpP.q (p_move rfl)) ?_
      refine JL.g (Gd.t1 rfl rfl rfl) (fun hc => OpP.q (p_move rfl)) ?_
      refine JL.g (Gd.t1 rfl rfl rfl) (fun hc => OpP.q (p_eql (gvt rfl hc) (gvt rfl hc))) ?_
      refine JL.q (OpP.q (p_pickAnd rfl rfl rfl)) ?_
      refine JL.q (OpP.q (p_assign rfl)) ?_
      refine JL.nil ?_
      refine Js.ret (R := RV w (.bool (M.slams r s player))) @Try.results150 (fun _ _ => rfl) (ResOk.tmp rfl ResOk.nil) (fun w1 hw => ?_)
      refine ⟨?_, hw.ext ((x8.trans x10))⟩
      subst hg; simp [outV, M.slams]

set_option maxRecDepth 100000 in
set_option maxHeartbeats 400000 in
theorem c_impl_Rules_captured (r : M.Rul) (v_r : Value) (s : M.Sw) (v_s : Value) (player : Int) (w : World) (h_r : (Ty.agg (cRules r)).ok w v_r) (h_s : (Ty.agg (cSown s)).ok w v_s) (r0 : 2 ≤ r.pits) (r1 : r.pits ≤ 8) (r2 : player = 0 ∨ player = 1) (r3 : M.Good r s.pits s.stores 0) (r4 : -1 ≤ s.last) (r5 : s.last < 2 * r.pits) : Ret Try.prog 158 [v_r, v_s, .int .i64 player] w (Ty.ints 2 (M.captured r s player)) := by
  obtain rfl := open_Rules h_r
  obtain ⟨A2_0, c2_0, A2_1, c2_1, rfl, h2_0, h2_1, bl2_0, bh2_0, bl2_1, bh2_1⟩ := open_Sown h_s
  refine enter @Try.func158 @Try.ntmps158 rfl rfl ?_
  refine Js.seq ?_
  refine Js.region ?_
  refine JL.e (e_box (c := [.int .i64 r.pits, .int .i64 r.seeds, .bool r.stores, .bool r.skip, .bool r.relay, .bool r.feed, .bool r.again, .int .i64 r.capture, .int .i64 r.slam]) rfl rfl) ?_
  rintro _ _ _ ⟨b3, rfl, rfl, rfl⟩ _
  refine JL.e (e_box (c := [.slice A2_0 s.pits.length c2_0, .slice A2_1 s.stores.length c2_1, .int .i64 s.last, .int .i64 s.laps]) rfl rfl) ?_
  rintro _ _ _ ⟨b4, rfl, rfl, rfl⟩ _
  refine JL.q (OpP.q (p_assign rfl)) ?_
  refine JL.nil ?_
  refine Js.seq ?_
  refine Js.seq ?_
  refine Js.region ?_
  refine JL.q (OpP.q (p_fieldAddr fld_32_8 rfl)) ?_
  refine JL.q (q_load1 ty_2 rfl (Mem.box (i := 1) rfl rfl)) ?_
  refine JL.q (OpP.q (p_eql rfl rfl)) ?_
  refine JL.q (OpP.q (p_move rfl)) ?_
  refine JL.g (Gd.t1 rfl rfl rfl) (fun hc => q_loadN ty_32 rfl (Mem.boxR (i := 1) rfl 0 9) rfl rfl) ?_
  refine JL.g (Gd.t1 rfl rfl rfl) (fun hc => q_loadN ty_129 rfl (Mem.boxR (i := 0) rfl 0 4) rfl rfl) ?_
  refine JL.g (Gd.t1 rfl rfl rfl) (fun hc => OpP.q (p_move rfl)) ?_
  refine JL.ge (Gd.t1 rfl rfl rfl) (fun hc => e_callV fn_150 (opds_3 (gvt rfl hc) (gvt rfl hc) (gvt rfl hc)) (fun w hw => c_impl_Rules_slams r _ s _ player w ⟨_, rfl, ⟨rfl, rfl, rfl, rfl, rfl, rfl, rfl, rfl, rfl, trivial⟩⟩ ⟨_, rfl, ⟨(Ty.mono _ h2_0 hw.vis), (Ty.mono _ h2_1 hw.vis), rfl, rfl, trivial⟩⟩ (by have hc9 := hc; (try simp only [decide_eq_true_eq] at hc9); omega) (by have hc9 := hc; (try simp only [decide_eq_true_eq] at hc9); omega) (by have hc9 := hc; (try simp only [decide_eq_true_eq] at hc9); omega) r3 (by have hc9 := hc; (try simp only [decide_eq_true_eq] at hc9); omega) (by have hc9 := hc; (try simp only [decide_eq_true_eq] at hc9); omega))) ?_
  refine JL.q (OpP.q (p_pickAnd rfl rfl rfl)) ?_
  refine JL.nil ?_
  refine Js.cond rfl (fun h5 => ?_) (fun h5 => ?_)
  ·
    have h5' := h5
    try simp only [Bool.and_eq_true, decide_eq_true_eq] at h5'
    have hR : M.captured r s player = [] := by unfold M.captured; rw [if_pos (by simpa using h5)]
    refine Js.seq ?_
    refine Js.region ?_
    refine JL.e (e_buildSlice (vs := []) el_24 rfl rfl rfl rfl rfl rfl) ?_
    rintro _ _ _ ⟨b6, rfl, rfl, hl7, rfl⟩ _
    refine JL.q (OpP.q (p_assign rfl)) ?_
    refine JL.nil ?_
    refine Js.ret (R := RO w (Ty.ints 2 (M.captured r s player))) @Try.results158 (fun _ _ => rfl) (ResOk.tmp rfl ResOk.nil) (fun w1 hw => ?_)
    have hx := hw.ext (Up.refl _ _)
    exact ret_own (ps := [(0, (Value.ownBlock (.slice (some ⟨b6, 0, none⟩) 0 0)).toList)]) hw hx (ints_row (xs := []) (hw.pr (i := 0) rfl) (show [] = M.captured r s player by rw [hR])) (Pick.cons (j := 0) rfl (List.sublist_append_left _ _) rfl Pick.nil) (by simp [List.flatten, outV])
  ·
    have h5' := h5
    try simp only [Bool.and_eq_false_iff, decide_eq_false_iff_not] at h5'
    have hR : M.captured r s player = M.taken r s player := by unfold M.captured; rw [if_neg (by simpa using h5)]
    refine Js.skip ?_
    refine Js.seq ?_
    refine Js.region ?_
    refine JL.q (q_loadN ty_32 rfl (Mem.boxR (i := 1) rfl 0 9) rfl rfl) ?_
    refine JL.q (q_loadN ty_129 rfl (Mem.boxR (i := 0) rfl 0 4) rfl rfl) ?_
    refine JL.q (OpP.q (p_move rfl)) ?_
    refine JL.e (e_callO fn_159 rfl (Spl.ints _ _) (fun w hw => c_impl_Rules_taken r _ s _ player w ⟨_, rfl, ⟨rfl, rfl, rfl, rfl, rfl, rfl, rfl, rfl, rfl, trivial⟩⟩ ⟨_, rfl, ⟨(Ty.mono _ h2_0 hw.vis), (Ty.mono _ h2_1 hw.vis), rfl, rfl, trivial⟩⟩ (by omega) (by omega) (by omega) r3 (by omega) (by omega))) ?_
    rintro v8 _ _ ⟨_, hR9, rfl, rfl⟩ _
    obtain ⟨A10, c10, rfl, rfl, bl10, bh10⟩ := hR9
    refine JL.q (OpP.q (p_assign rfl)) ?_
    refine JL.nil ?_
    refine Js.ret (R := RO w (Ty.ints 2 (M.captured r s player))) @Try.results158 (fun _ _ => rfl) (ResOk.tmp rfl ResOk.nil) (fun w1 hw => ?_)
    have hx := hw.ext (Up.refl _ _)
    exact ret_own (ps := [(0, (Value.ownBlock (.slice A10 ((M.taken r s player).length) c10)).toList)]) hw hx (ints_row (xs := (M.taken r s player)) (hw.pr (i := 0) rfl) (show M.taken r s player = M.captured r s player by rw [hR])) (Pick.cons (j := 0) rfl (List.sublist_append_left _ _) rfl Pick.nil) (by simp [List.flatten, outV])

set_option maxRecDepth 100000 in
set_option maxHeartbeats 400000 in
theorem c_impl_Rules_takeCaptures (r : M.Rul) (v_r : Value) (s : M.Sw) (v_s : Value) (player : Int) (w : World) (h_r : (Ty.agg (cRules r)).ok w v_r) (h_s : (Ty.agg (cSown s)).ok w v_s) (r0 : 2 ≤ r.pits) (r1 : r.pits ≤ 8) (r2 : player = 0 ∨ player = 1) (r3 : M.Good r s.pits s.stores 0) (r4 : -1 ≤ s.last) (r5 : s.last < 2 * r.pits) : Ret Try.prog 149 [v_r, v_s, .int .i64 player] w (Ty.agg (cSown (M.take r s player))) := by
  have l1 := r3.lp
  have l2 := r3.ls
  have hlen := M.captured_len (s := s) (player := player) r5 r1
  obtain rfl := open_Rules h_r
  obtain ⟨A2_0, c2_0, A2_1, c2_1, rfl, h2_0, h2_1, bl2_0, bh2_0, bl2_1, bh2_1⟩ := open_Sown h_s
  obtain ⟨b3, o3, rfl⟩ := ints_some h2_0 (by omega)
  obtain ⟨b4, o4, rfl⟩ := ints_some h2_1 (by omega)
  refine enter @Try.func149 @Try.ntmps149 rfl rfl ?_
  refine Js.seq ?_
  refine Js.region ?_
  refine JL.e (e_box (c := [.int .i64 r.pits, .int .i64 r.seeds, .bool r.stores, .bool r.skip, .bool r.relay, .bool r.feed, .bool r.again, .int .i64 r.capture, .int .i64 r.slam]) rfl rfl) ?_
  rintro _ _ _ ⟨b5, rfl, rfl, rfl⟩ _
  refine JL.e (e_box (c := [.slice (some ⟨b3, o3, none⟩) s.pits.length c2_0, .slice (some ⟨b4, o4, none⟩) s.stores.length c2_1, .int .i64 s.last, .int .i64 s.laps]) rfl rfl) ?_
  rintro _ _ _ ⟨b6, rfl, rfl, rfl⟩ _
  refine JL.e (e_alloc zero_129) ?_
  rintro _ _ _ ⟨b7, rfl, rfl, rfl⟩ _
  refine JL.nil ?_
  refine Js.seq ?_
  refine Js.region ?_
  refine JL.q (q_loadN ty_32 rfl (Mem.boxR (i := 2) rfl 0 9) rfl rfl) ?_
  refine JL.q (q_loadN ty_129 rfl (Mem.boxR (i := 1) rfl 0 4) rfl rfl) ?_
  refine JL.q (OpP.q (p_move rfl)) ?_
  refine JL.e (e_callP fn_158 rfl (fun w hw => c_impl_Rules_captured r _ s _ player w ⟨_, rfl, ⟨rfl, rfl, rfl, rfl, rfl, rfl, rfl, rfl, rfl, trivial⟩⟩ ⟨_, rfl, ⟨(Ty.mono _ h2_0 hw.vis), (Ty.mono _ h2_1 hw.vis), rfl, rfl, trivial⟩⟩ (by omega) (by omega) (by omega) r3 (by omega) (by omega))) ?_
  rintro v8 _ u10 ⟨h9, rfl⟩ x10
  obtain ⟨A11, c11, rfl, bl11, bh11⟩ := sl_form h9
  refine JL.q (OpP.q (p_assign rfl)) ?_
  refine JL.nil ?_
  refine Js.seq ?_
  refine Js.drawn _ [7, 9] mixed_ (fun _ h => h) ?_
  refine JH.p 0 rfl (p_fieldAddr fld_129_0 rfl) ?_
  refine JH.q 1 rfl (q_load1 ty_24 rfl (Mem.box (i := 1) rfl rfl)) ?_
  refine JH.p 3 rfl (p_fieldAddr fld_129_1 rfl) ?_
  refine JH.q 4 rfl (q_load1 ty_24 rfl (Mem.box (i := 1) rfl rfl)) ?_
  refine JH.one (i := 2) (by kernel_rfl) ?_
  refine JHo.e rfl (e_callO fn_106 rfl (Spl.ints _ _) (fun w hw => c_impl_copyNumbers s.pits _ w (Ty.mono _ h2_0 (x10.vis.trans hw.vis)) (by omega))) (.inl rfl) ?_
  rintro v12 _ _ ⟨_, hR13, rfl, rfl⟩ _
  obtain ⟨A14, c14, rfl, rfl, bl14, bh14⟩ := hR13
  refine JH.p 6 rfl (p_fieldAddr fld_129_0 rfl) ?_
  refine JH.one (i := 5) (by kernel_rfl) ?_
  refine JHo.e rfl (e_callO fn_106 rfl (Spl.ints _ _) (fun w hw => c_impl_copyNumbers s.stores _ w (Ty.mono _ h2_1 (x10.vis.trans hw.vis)) (by omega))) (.inl rfl) ?_
  rintro v15 _ _ ⟨_, hR16, rfl, rfl⟩ _
  obtain ⟨A17, c17, rfl, rfl, bl17, bh17⟩ := hR16
  refine JH.one (i := 7) (by kernel_rfl) ?_
  refine JHo.s rfl (e_store (i := 3) (c' := [.slice A14 s.pits.length c14, .slice (some ⟨b4, o4, none⟩) s.stores.length c2_1, .int .i64 s.last, .int .i64 s.laps]) ty_24 rfl rfl rfl rfl rfl rfl rfl rfl) (.inr rfl) ?_
  rintro _ _ _ ⟨rfl, rfl⟩ _
  refine JH.p 8 rfl (p_fieldAddr fld_129_1 rfl) ?_
  refine JH.one (i := 9) (by kernel_rfl) ?_
  refine JHo.s rfl (e_store (i := 3) (c' := [.slice A14 s.pits.length c14, .slice A17 s.stores.length c17, .int .i64 s.last, .int .i64 s.laps]) ty_24 rfl rfl rfl rfl rfl rfl rfl rfl) (.inr rfl) ?_
  rintro _ _ _ ⟨rfl, rfl⟩ _
  refine JH.done (by kernel_rfl) ?_
  refine Js.fact (row_some (i := 0) rfl (by omega)) (fun hf18 => ?_)
  obtain ⟨b18, rfl⟩ := hf18
  refine Js.fact (row_some (i := 1) rfl (by omega)) (fun hf19 => ?_)
  obtain ⟨b19, rfl⟩ := hf19
  refine Js.seq ?_
  refine Js.seq ?_
  refine Js.region ?_
  refine JL.q (OpP.q (p_move rfl)) ?_
  refine JL.q (OpP.q (p_len el_24 rfl)) ?_
  refine JL.q (OpP.q (p_move rfl)) ?_
  refine JL.nil ?_
  refine Js.block ?_
  refine Js.loop (fun l os u m => ∃ (k : Nat) (ps ss : List Int), l = [(2, .int .i64 player), (4, .pointer (some ⟨b6, 0, none⟩)), (6, .pointer (some ⟨b7, 0, none⟩)), (22, .slice A11 ((M.captured r s player).length) c11), (23, .int .i64 (((M.captured r s player).length) : Int)), (24, .int .i64 (k : Int))] ∧ os = [rowO 2 1 (.slice (some ⟨b18, 0, none⟩) s.stores.length c17) s.stores.length (ints_ ss) [], rowO 2 1 (.slice (some ⟨b19, 0, none⟩) s.pits.length c14) s.pits.length (ints_ ps) [], boxO b7 [.slice none 0 0, .slice none 0 0, .int .i64 0, .int .i64 0] 129, boxO b6 [.slice (some ⟨b19, 0, none⟩) s.pits.length c14, .slice (some ⟨b18, 0, none⟩) s.stores.length c17, .int .i64 s.last, .int .i64 s.laps] 129, boxO b5 [.int .i64 r.pits, .int .i64 r.seeds, .bool r.stores, .bool r.skip, .bool r.relay, .bool r.feed, .bool r.again, .int .i64 r.capture, .int .i64 r.slam] 32] ∧ Up w.heap.size u10 u ∧ (M.takeL player ((M.captured r s player).drop k) ps ss = M.takeL player (M.captured r s player) s.pits s.stores) ∧ (k ≤ (M.captured r s player).length) ∧ (M.Good r ps ss 0) ∧ m = (M.captured r s player).length - k) ⟨0, s.pits, s.stores, rfl, rfl, Up.refl _ _, by rfl, by first | assumption | omega | rfl | (simp; done), by exact r3, rfl⟩ ⟨rfl, rfl, rfl, rfl, rfl, rfl, trivial⟩ ?_
  · rintro _ _ u20 _ ⟨k, ps, ss, rfl, rfl, x20, hS, hk, hG, rfl⟩
    have l3 := hG.lp
    have l4 := hG.ls
    refine Js.seq ?_
    refine Js.region ?_
    refine JL.q (OpP.q (p_lss rfl rfl)) ?_
    refine JL.nil ?_
    refine Js.seq ?_
    refine Js.cond rfl (fun h21 => ?_) (fun h21 => ?_)
    ·
      have h21' := h21
      try simp only [decide_eq_true_eq] at h21'
      have hk2 : k < (M.captured r s player).length := by have := h21; simp at this; omega
      have hx := M.captured_mem (r := r) (s := s) (player := player) r5 (M.nth_mem hk2)
      have hvx := hG.pit (M.nth (M.captured r s player) k)
      have hvs := hG.store player
      refine Js.skip ?_
      refine Js.seq ?_
      refine Js.block ?_
      refine Js.seq ?_
      refine Js.region ?_
      obtain ⟨b22, o22, he22, hc22⟩ := ints_elem (Ty.mono _ h9 x20.vis) (i := k) (by omega)
      refine JL.q (OpP.q (p_indexAddr el_24 rfl rfl (by omega) (by omega) he22)) ?_
      refine JL.q (q_load1 ty_2 rfl (Mem.pub hc22)) ?_
      refine JL.q (OpP.q (p_assign rfl)) ?_
      refine JL.nil ?_
      refine Js.seq ?_
      refine Js.drawn _ [12] mixed_ (fun _ h => h) ?_
      refine JH.p 0 rfl (p_fieldAddr fld_129_1 rfl) ?_
      refine JH.q 1 rfl (q_load1 ty_24 rfl (Mem.box (i := 3) rfl rfl)) ?_
      refine JH.p 2 rfl (p_move rfl) ?_
      refine JH.p 3 rfl (p_indexAddr el_24 rfl rfl (by omega) (by omega) rfl) ?_
      refine JH.q 4 rfl (q_load1 ty_2 rfl (Mem.row (i := 0) rfl (ints_getI (i := player) (by omega)))) ?_
      refine JH.p 5 rfl (p_fieldAddr fld_129_0 rfl) ?_
      refine JH.q 6 rfl (q_load1 ty_24 rfl (Mem.box (i := 3) rfl rfl)) ?_
      refine JH.p 7 rfl (p_move rfl) ?_
      refine JH.p 8 rfl (p_indexAddr el_24 rfl rfl (by omega) (by omega) rfl) ?_
      refine JH.q 9 rfl (q_load1 ty_2 rfl (Mem.row (i := 1) rfl (ints_getI (i := M.nth (M.captured r s player) k) (by omega)))) ?_
      refine JH.p 10 rfl (p_add rfl rfl (IntWalk.i64_in _ (by omega))) ?_
      refine JH.p 11 rfl (p_indexAddr el_24 rfl rfl (by omega) (by omega) rfl) ?_
      refine JH.one (i := 12) (by kernel_rfl) ?_
      refine JHo.s rfl (e_storeRow (i := 0) (xs' := ints_ (M.setI ss player ((M.getI ss player) + (M.getI ps (M.nth (M.captured r s player) k))))) ty_2 rfl rfl rfl rfl rfl rfl (ints_lt (i := player.toNat) (by omega)) (ints_setL (i := player.toNat) (by omega))) (.inr rfl) ?_
      rintro _ _ _ ⟨rfl, rfl⟩ _
      refine JH.done (by kernel_rfl) ?_
      refine Js.region ?_
      refine JL.q (OpP.q (p_fieldAddr fld_129_0 rfl)) ?_
      refine JL.q (q_load1 ty_24 rfl (Mem.box (i := 3) rfl rfl)) ?_
      refine JL.q (OpP.q (p_move rfl)) ?_
      refine JL.q (OpP.q (p_indexAddr el_24 rfl rfl (by omega) (by omega) rfl)) ?_
      refine JL.s (e_storeRow (i := 1) (xs' := ints_ (M.setI ps (M.nth (M.captured r s player) k) 0)) ty_2 rfl rfl rfl rfl rfl rfl (ints_lt (i := (M.nth (M.captured r s player) k).toNat) (by omega)) (ints_setL (i := (M.nth (M.captured r s player) k).toNat) (by omega))) ?_
      rintro _ _ _ ⟨rfl, rfl⟩ _
      refine JL.nil ?_
      refine Js.blockEnd ?_
      refine Js.region ?_
      refine JL.q (OpP.q (p_add rfl rfl (IntWalk.i64_in _ (by omega)))) ?_
      refine JL.q (OpP.q (p_move rfl)) ?_
      refine JL.nil ?_
      exact Js.again ⟨k + 1, M.setI ps (M.nth (M.captured r s player) k) 0, M.setI ss player ((M.getI ss player) + (M.getI ps (M.nth (M.captured r s player) k))), rfl, rfl, x20, by rw [M.drop_nth hk2, M.takeL] at hS; exact hS, by first | assumption | omega | rfl | (simp; done), by exact hG.takeStep hx.1 hx.2 (by omega) (by omega), rfl⟩ (by omega) ⟨rfl, rfl, rfl, rfl, rfl, rfl, trivial⟩
    ·
      have h21' := h21
      try simp only [decide_eq_false_iff_not, Int.not_lt] at h21'
      rw [List.drop_eq_nil_of_le (by omega), M.take_eq r5 (by omega) (by omega)] at hS
      injection hS with hT1 hT2
      refine Js.exit (fun _ _ => rfl) ?_
      refine Js.seq ?_
      refine Js.region ?_
      refine JL.q (q_loadN ty_129 rfl (Mem.boxR (i := 3) rfl 0 4) rfl rfl) ?_
      refine JL.s (e_store (i := 2) (c' := [.slice (some ⟨b19, 0, none⟩) s.pits.length c14, .slice (some ⟨b18, 0, none⟩) s.stores.length c17, .int .i64 s.last, .int .i64 s.laps]) ty_129 rfl rfl rfl rfl rfl rfl rfl rfl) ?_
      rintro _ _ _ ⟨rfl, rfl⟩ _
      refine JL.nil ?_
      refine Js.ret (R := RO w (Ty.agg (cSown (M.take r s player)))) @Try.results149 (fun _ _ => rfl) (ResOk.cell (res_box (i := 2) ty_129 rfl rfl rfl rfl rfl) ResOk.nil) (fun w1 hw => ?_)
      have hx := hw.ext ((x10.trans x20))
      exact ret_own (ps := [(1, (Value.ownBlock (.slice (some ⟨b19, 0, none⟩) s.pits.length c14)).toList), (0, (Value.ownBlock (.slice (some ⟨b18, 0, none⟩) s.stores.length c17)).toList)]) hw hx ⟨_, rfl, ⟨_, _, rfl, (ints_row (xs := ps) (hw.pr (i := 1) rfl) (show ps = (M.take r s player).pits by first | exact hT1 | exact hT2 | rfl)), ⟨_, _, rfl, (ints_row (xs := ss) (hw.pr (i := 0) rfl) (show ss = (M.take r s player).stores by first | exact hT1 | exact hT2 | rfl)), ⟨_, _, rfl, ⟨by first | exact hT1 | exact hT2 | rfl, rfl⟩, ⟨_, _, rfl, ⟨by first | exact hT1 | exact hT2 | rfl, rfl⟩, rfl⟩⟩⟩⟩⟩ (Pick.cons (j := 1) rfl (List.sublist_append_left _ _) rfl (Pick.cons (j := 0) rfl (List.sublist_append_left _ _) rfl Pick.nil)) (by simp [List.flatten, outV])

set_option maxRecDepth 100000 in
set_option maxHeartbeats 400000 in
theorem c_impl_Rules_mustFeed (r : M.Rul) (v_r : Value) (p : M.Pos) (v_p : Value) (w : World) (h_r : (Ty.agg (cRules r)).ok w v_r) (h_p : (Ty.agg (cPosition p)).ok w v_p) (r0 : M.okP r p = true) : RetV Try.prog 151 [v_r, v_p] w (.bool (M.mustFeed r p)) := by
  obtain ⟨g1, g2, g3, g4, g5, g6, g7⟩ := M.okP_bd r0
  obtain rfl := open_Rules h_r
  obtain ⟨A2_0, c2_0, A2_1, c2_1, rfl, h2_0, h2_1, bl2_0, bh2_0, bl2_1, bh2_1⟩ := open_Position h_p
  refine enter @Try.func151 @Try.ntmps151 rfl rfl ?_
  refine Js.seq ?_
  refine Js.region ?_
  refine JL.e (e_box (c := [.int .i64 r.pits, .int .i64 r.seeds, .bool r.stores, .bool r.skip, .bool r.relay, .bool r.feed, .bool r.again, .int .i64 r.capture, .int .i64 r.slam]) rfl rfl) ?_
  rintro _ _ _ ⟨b3, rfl, rfl, rfl⟩ _
  refine JL.e (e_box (c := [.slice A2_0 p.pits.length c2_0, .slice A2_1 p.stores.length c2_1, .int .i64 p.player]) rfl rfl) ?_
  rintro _ _ _ ⟨b4, rfl, rfl, rfl⟩ _
  refine JL.q (OpP.q (p_assign rfl)) ?_
  refine JL.nil ?_
  refine Js.seq ?_
  refine Js.region ?_
  refine JL.q (OpP.q (p_fieldAddr fld_32_5 rfl)) ?_
  refine JL.q (q_load1 ty_4 rfl (Mem.box (i := 1) rfl rfl)) ?_
  refine JL.q (OpP.q (p_move rfl)) ?_
  refine JL.g (Gd.t1 rfl rfl rfl) (fun hc => q_loadN ty_32 rfl (Mem.boxR (i := 1) rfl 0 9) rfl rfl) ?_
  refine JL.g (Gd.t1 rfl rfl rfl) (fun hc => OpP.q (p_fieldAddr fld_33_0 rfl)) ?_
  refine JL.g (Gd.t1 rfl rfl rfl) (fun hc => q_load1 ty_24 (gvt rfl hc) (Mem.box (i := 0) rfl rfl)) ?_
  refine JL.g (Gd.t1 rfl rfl rfl) (fun hc => OpP.q (p_fieldAddr fld_33_2 rfl)) ?_
  refine JL.g (Gd.t1 rfl rfl rfl) (fun hc => q_load1 ty_2 (gvt rfl hc) (Mem.box (i := 0) rfl rfl)) ?_
  refine JL.g (Gd.t1 rfl rfl rfl) (fun hc => OpP.q (p_sub rfl (gvt rfl hc) (IntWalk.i64_in _ (by omega)))) ?_
  refine JL.ge (Gd.t1 rfl rfl rfl) (fun hc => e_callV fn_135 (opds_3 (gvt rfl hc) (gvt rfl hc) (gvt rfl hc)) (fun w hw => c_impl_Rules_side r _ p.pits _ (1 - p.player) w ⟨_, rfl, ⟨rfl, rfl, rfl, rfl, rfl, rfl, rfl, rfl, rfl, trivial⟩⟩ (Ty.mono _ h2_0 hw.vis) (by omega) (by omega) (by omega) (by omega) g5)) ?_
  refine JL.g (Gd.t1 rfl rfl rfl) (fun hc => OpP.q (p_eql (gvt rfl hc) rfl)) ?_
  refine JL.q (OpP.q (p_pickAnd rfl rfl rfl)) ?_
  refine JL.q (OpP.q (p_assign rfl)) ?_
  refine JL.nil ?_
  refine Js.ret (R := RV w (.bool (M.mustFeed r p))) @Try.results151 (fun _ _ => rfl) (ResOk.tmp rfl ResOk.nil) (fun w1 hw => ?_)
  refine ⟨?_, hw.ext (Up.refl _ _)⟩
  simp [outV, M.mustFeed]

set_option maxRecDepth 100000 in
set_option maxHeartbeats 400000 in
theorem c_impl_Rules_done (r : M.Rul) (v_r : Value) (p : M.Pos) (v_p : Value) (move : Int) (w : World) (h_r : (Ty.agg (cRules r)).ok w v_r) (h_p : (Ty.agg (cPosition p)).ok w v_p) (r0 : p.pits.length ≤ 4194304) (r1 : p.stores.length ≤ 4194304) : Ret Try.prog 134 [v_r, v_p, .int .i64 move] w (Ty.tup [Ty.agg (cSown ((M.done r p move).1)), Ty.int ((M.done r p move).2)]) := by
  obtain rfl := open_Rules h_r
  obtain ⟨A2_0, c2_0, A2_1, c2_1, rfl, h2_0, h2_1, bl2_0, bh2_0, bl2_1, bh2_1⟩ := open_Position h_p
  refine enter @Try.func134 @Try.ntmps134 rfl rfl ?_
  refine Js.seq ?_
  refine Js.region ?_
  refine JL.e (e_box (c := [.int .i64 r.pits, .int .i64 r.seeds, .bool r.stores, .bool r.skip, .bool r.relay, .bool r.feed, .bool r.again, .int .i64 r.capture, .int .i64 r.slam]) rfl rfl) ?_
  rintro _ _ _ ⟨b3, rfl, rfl, rfl⟩ _
  refine JL.e (e_box (c := [.slice A2_0 p.pits.length c2_0, .slice A2_1 p.stores.length c2_1, .int .i64 p.player]) rfl rfl) ?_
  rintro _ _ _ ⟨b4, rfl, rfl, rfl⟩ _
  refine JL.e (e_alloc zero_129) ?_
  rintro _ _ _ ⟨b5, rfl, rfl, rfl⟩ _
  refine JL.q (OpP.q (p_assign rfl)) ?_
  refine JL.nil ?_
  refine Js.seq ?_
  refine Js.region ?_
  refine JL.q (q_loadN ty_32 rfl (Mem.boxR (i := 2) rfl 0 9) rfl rfl) ?_
  refine JL.q (q_loadN ty_33 rfl (Mem.boxR (i := 1) rfl 0 3) rfl rfl) ?_
  refine JL.q (OpP.q (p_move rfl)) ?_
  refine JL.e (e_callP fn_148 rfl (fun w hw => c_impl_sowMove r _ p _ move w ⟨_, rfl, ⟨rfl, rfl, rfl, rfl, rfl, rfl, rfl, rfl, rfl, trivial⟩⟩ ⟨_, rfl, ⟨(Ty.mono _ h2_0 hw.vis), (Ty.mono _ h2_1 hw.vis), rfl, trivial⟩⟩ (by omega) (by omega))) ?_
  rintro v6 _ u8 ⟨h7, rfl⟩ x8
  obtain ⟨vs9, rfl, hv9⟩ := h7
  obtain ⟨v9_0, vs9, rfl, hw9_0, hv9⟩ := cellsOk_cons hv9
  obtain ⟨v9_1, vs9, rfl, hw9_1, hv9⟩ := cellsOk_cons hv9
  obtain rfl := cellsOk_nil hv9
  obtain rfl : v9_1 = .int .i64 ((M.sowMove r p move).1) := hw9_1
  refine JL.q (OpP.q (p_move rfl)) ?_
  refine JL.q (OpP.q (p_extract rfl rfl)) ?_
  refine JL.q (OpP.q (p_extract rfl rfl)) ?_
  refine JL.q (OpP.q (p_assign rfl)) ?_
  refine JL.q (OpP.q (p_assign rfl)) ?_
  refine JL.nil ?_
  refine Js.seq ?_
  refine Js.seq ?_
  refine Js.region ?_
  refine JL.q (OpP.q (p_move rfl)) ?_
  refine JL.q (OpP.q (p_neq rfl rfl)) ?_
  refine JL.nil ?_
  refine Js.cond rfl (fun h10 => ?_) (fun h10 => ?_)
  ·
    have h10' := h10
    try simp only [Bool.not_eq_true', decide_eq_false_iff_not] at h10'
    have hz : ¬ (M.sowMove r p move).1 = 0 := by simpa using h10
    have hD : M.done r p move = (M.Sw.zero, (M.sowMove r p move).1) := by unfold M.done; rw [if_pos hz]
    refine Js.seq ?_
    refine Js.region ?_
    refine JL.q (OpP.q (p_build zero_129 flds_129 rfl rfl)) ?_
    refine JL.q (OpP.q (p_move rfl)) ?_
    refine JL.s (e_store (i := 0) (c' := [.slice none 0 0, .slice none 0 0, .int .i64 0, .int .i64 0]) ty_129 rfl rfl rfl rfl rfl rfl rfl rfl) ?_
    rintro _ _ _ ⟨rfl, rfl⟩ _
    refine JL.q (OpP.q (p_assign rfl)) ?_
    refine JL.nil ?_
    refine Js.ret (R := RO w (Ty.tup [Ty.agg (cSown ((M.done r p move).1)), Ty.int ((M.done r p move).2)])) @Try.results134 (fun _ _ => rfl) (ResOk.cell (res_box (i := 0) ty_129 rfl rfl rfl rfl rfl) (ResOk.tmp rfl ResOk.nil)) (fun w1 hw => ?_)
    have hx := hw.ext (x8)
    exact ret_own (ps := []) hw hx ⟨_, rfl, ⟨_, _, rfl, ⟨_, rfl, ⟨_, _, rfl, (ints_cast (show [] = ((M.done r p move).1).pits by first | (rw [hD]; done) | (rw [hD]; rfl)) nil_own), ⟨_, _, rfl, (ints_cast (show [] = ((M.done r p move).1).stores by first | (rw [hD]; done) | (rw [hD]; rfl)) nil_own), ⟨_, _, rfl, ⟨by first | (rw [hD]; done) | (rw [hD]; rfl), rfl⟩, ⟨_, _, rfl, ⟨by first | (rw [hD]; done) | (rw [hD]; rfl), rfl⟩, rfl⟩⟩⟩⟩⟩, ⟨_, _, rfl, ⟨by first | (rw [hD]; done) | (rw [hD]; rfl), rfl⟩, rfl⟩⟩⟩ Pick.nil (by simp [List.flatten, outV])
  ·
    have h10' := h10
    try simp only [Bool.not_eq_false', decide_eq_true_eq] at h10'
    have hz : (M.sowMove r p move).1 = 0 := by simpa using h10
    obtain ⟨hok, m0, m1, hG, q0, q1, hsum⟩ := M.sowMove_ok hz
    obtain ⟨g1, g2, g3, g4, g5, g6, g7⟩ := M.okP_bd hok
    have hG2 := (M.take_keeps g7 hG q1).1
    have hao := M.Good.ok hG2
    have hl2 := hG2.lp
    have ⟨g8, g9⟩ : p.pits.length ≤ 4194304 ∧ p.stores.length ≤ 4194304 := by omega
    refine Js.skip ?_
    refine Js.seq ?_
    refine Js.cut (fun l os u => ∃ (b11 : Nat) (o11 : Nat) (b15 : Nat) (A14_0 : Option Addr) (c14_0 : Nat) (A14_1 : Option Addr) (c14_1 : Nat) (f14 : List Nat) (A11_10 : Option Addr) (c11_10 : Nat) (A11_11 : Option Addr) (c11_11 : Nat) (A11_14 : Option Addr) (c11_14 : Nat), l = [(3, .pointer (some ⟨b3, 0, none⟩)), (4, .pointer (some ⟨b4, 0, none⟩)), (6, .pointer (some ⟨b5, 0, none⟩)), (8, .pointer (some ⟨b11, o11, none⟩)), (10, .pointer (some ⟨b15, 0, none⟩))] ∧ os = [boxO b15 [.slice A14_0 (((M.take r ((M.sowMove r p move).2.1) p.player).pits).length) c14_0, .slice A14_1 (((M.take r ((M.sowMove r p move).2.1) p.player).stores).length) c14_1, .int .i64 ((M.take r ((M.sowMove r p move).2.1) p.player).last), .int .i64 ((M.take r ((M.sowMove r p move).2.1) p.player).laps)] 129, ownC (cSown (M.take r ((M.sowMove r p move).2.1) p.player)) [.slice A14_0 (((M.take r ((M.sowMove r p move).2.1) p.player).pits).length) c14_0, .slice A14_1 (((M.take r ((M.sowMove r p move).2.1) p.player).stores).length) c14_1, .int .i64 ((M.take r ((M.sowMove r p move).2.1) p.player).last), .int .i64 ((M.take r ((M.sowMove r p move).2.1) p.player).laps)] f14, boxO b5 [.slice none 0 0, .slice none 0 0, .int .i64 0, .int .i64 0] 129, boxO b4 [.slice A2_0 p.pits.length c2_0, .slice A2_1 p.stores.length c2_1, .int .i64 p.player] 33, boxO b3 [.int .i64 r.pits, .int .i64 r.seeds, .bool r.stores, .bool r.skip, .bool r.relay, .bool r.feed, .bool r.again, .int .i64 r.capture, .int .i64 r.slam] 32] ∧ Up w.heap.size u8 u ∧ (RowAt u b11 o11 [.int .i64 r.pits, .int .i64 r.seeds, .bool r.stores, .bool r.skip, .bool r.relay, .bool r.feed, .bool r.again, .int .i64 r.capture, .int .i64 r.slam, .int .i64 p.player, .slice A11_10 ((((M.sowMove r p move).2.1).pits).length) c11_10, .slice A11_11 ((((M.sowMove r p move).2.1).stores).length) c11_11, .int .i64 (((M.sowMove r p move).2.1).last), .int .i64 (((M.sowMove r p move).2.1).laps), .slice A11_14 (((M.sowMove r p move).2.2).length) c11_14]) ∧ ((((M.sowMove r p move).2.1).pits).length ≤ c11_10) ∧ (c11_10 ≤ 9223372036854775807) ∧ ((Ty.ints 2 (((M.sowMove r p move).2.1).pits)).ok u (.slice A11_10 ((((M.sowMove r p move).2.1).pits).length) c11_10)) ∧ ((((M.sowMove r p move).2.1).stores).length ≤ c11_11) ∧ (c11_11 ≤ 9223372036854775807) ∧ ((Ty.ints 2 (((M.sowMove r p move).2.1).stores)).ok u (.slice A11_11 ((((M.sowMove r p move).2.1).stores).length) c11_11)) ∧ (((M.sowMove r p move).2.2).length ≤ c11_14) ∧ (c11_14 ≤ 9223372036854775807) ∧ ((Ty.ints 2 ((M.sowMove r p move).2.2)).ok u (.slice A11_14 (((M.sowMove r p move).2.2).length) c11_14)) ∧ (((M.take r ((M.sowMove r p move).2.1) p.player).pits).length ≤ c14_0) ∧ (c14_0 ≤ 9223372036854775807) ∧ (((M.take r ((M.sowMove r p move).2.1) p.player).stores).length ≤ c14_1) ∧ (c14_1 ≤ 9223372036854775807)) ?_ ?_
    ·
      refine Js.drawn _ [9] mixed_ (fun _ h => h) ?_
      refine JH.q 0 rfl (q_loadN ty_32 rfl (Mem.boxR (i := 2) rfl 0 9) rfl rfl) ?_
      refine JH.p 1 rfl (p_move rfl) ?_
      obtain ⟨b21, o21, A21_10, c21_10, A21_11, c21_11, A21_14, c21_14, rfl, hr21, h21_10, h21_11, h21_14, bl21_10, bh21_10, bl21_11, bh21_11, bl21_14, bh21_14⟩ := ref_sowing (box_ref (opt_yes hw9_0 (by exact decide_eq_true hz)))
      refine JH.p 2 rfl (p_nilCheck rfl) ?_
      refine JH.p 3 rfl (p_fieldAddr fld_160_2 rfl) ?_
      refine JH.w 4 rfl (fun os' u' hv => q_loadN ty_129 rfl (Mem.pubR ((hr21.vis hv).sub 10 4)) rfl rfl) ?_
      refine JH.p 5 rfl (p_fieldAddr fld_33_2 rfl) ?_
      refine JH.q 6 rfl (q_load1 ty_2 rfl (Mem.box (i := 1) rfl rfl)) ?_
      refine JH.all (rs := [7, 8]) (by kernel_rfl) rfl ⟨?_, ?_, trivial⟩
      ·
        refine JHo.e rfl (e_callO fn_149 rfl (Spl_Sown _) (fun w hw => c_impl_Rules_takeCaptures r _ ((M.sowMove r p move).2.1) _ p.player w ⟨_, rfl, ⟨rfl, rfl, rfl, rfl, rfl, rfl, rfl, rfl, rfl, trivial⟩⟩ ⟨_, rfl, ⟨(Ty.mono _ h21_10 hw.vis), (Ty.mono _ h21_11 hw.vis), rfl, rfl, trivial⟩⟩ (by omega) (by omega) (by omega) hG (by omega) (by omega))) (.inl rfl) ?_
        rintro v22 _ _ ⟨_, hR23, rfl, rfl⟩ _
        obtain ⟨A24_0, c24_0, A24_1, c24_1, f24, rfl, rfl, bl24_0, bh24_0, bl24_1, bh24_1⟩ := hR23
        refine JH.one (i := 8) (by kernel_rfl) ?_
        refine JHo.e rfl (e_alloc zero_129) (.inl rfl) ?_
        rintro _ _ _ ⟨b25, rfl, rfl, rfl⟩ _
        refine JH.one (i := 9) (by kernel_rfl) ?_
        refine JHo.s rfl (e_store (i := 0) (c' := [.slice A24_0 (((M.take r ((M.sowMove r p move).2.1) p.player).pits).length) c24_0, .slice A24_1 (((M.take r ((M.sowMove r p move).2.1) p.player).stores).length) c24_1, .int .i64 ((M.take r ((M.sowMove r p move).2.1) p.player).last), .int .i64 ((M.take r ((M.sowMove r p move).2.1) p.player).laps)]) ty_129 rfl rfl rfl rfl rfl rfl rfl rfl) (.inr rfl) ?_
        rintro _ _ _ ⟨rfl, rfl⟩ _
        refine JH.done (by kernel_rfl) ?_
        exact Js.meet ⟨_, _, _, _, _, _, _, _, _, _, _, _, _, _, rfl, rfl, Up.refl _ _, hr21, by omega, by omega, h21_10, by omega, by omega, h21_11, by omega, by omega, h21_14, by omega, by omega, by omega, by omega⟩ ⟨rfl, rfl, rfl, rfl, rfl, trivial⟩
      ·
        refine JHo.e rfl (e_alloc zero_129) (.inl rfl) ?_
        rintro _ _ _ ⟨b26, rfl, rfl, rfl⟩ _
        refine JH.one (i := 7) (by kernel_rfl) ?_
        refine JHo.e rfl (e_callO fn_149 rfl (Spl_Sown _) (fun w hw => c_impl_Rules_takeCaptures r _ ((M.sowMove r p move).2.1) _ p.player w ⟨_, rfl, ⟨rfl, rfl, rfl, rfl, rfl, rfl, rfl, rfl, rfl, trivial⟩⟩ ⟨_, rfl, ⟨(Ty.mono _ h21_10 hw.vis), (Ty.mono _ h21_11 hw.vis), rfl, rfl, trivial⟩⟩ (by omega) (by omega) (by omega) hG (by omega) (by omega))) (.inl rfl) ?_
        rintro v27 _ _ ⟨_, hR28, rfl, rfl⟩ _
        obtain ⟨A29_0, c29_0, A29_1, c29_1, f29, rfl, rfl, bl29_0, bh29_0, bl29_1, bh29_1⟩ := hR28
        refine JH.one (i := 9) (by kernel_rfl) ?_
        refine JHo.s rfl (e_store (i := 1) (c' := [.slice A29_0 (((M.take r ((M.sowMove r p move).2.1) p.player).pits).length) c29_0, .slice A29_1 (((M.take r ((M.sowMove r p move).2.1) p.player).stores).length) c29_1, .int .i64 ((M.take r ((M.sowMove r p move).2.1) p.player).last), .int .i64 ((M.take r ((M.sowMove r p move).2.1) p.player).laps)]) ty_129 rfl rfl rfl rfl rfl rfl rfl rfl) (.inr rfl) ?_
        rintro _ _ _ ⟨rfl, rfl⟩ _
        refine JH.done (by kernel_rfl) ?_
        refine Js.front (i := 4) rfl ?_
        refine Js.front (i := 4) rfl ?_
        refine Js.front (i := 4) rfl ?_
        refine Js.front (i := 3) rfl ?_
        refine Js.front (i := 4) rfl ?_
        exact Js.meet ⟨_, _, _, _, _, _, _, _, _, _, _, _, _, _, rfl, rfl, Up.refl _ _, hr21, by omega, by omega, h21_10, by omega, by omega, h21_11, by omega, by omega, h21_14, by omega, by omega, by omega, by omega⟩ ⟨rfl, rfl, rfl, rfl, rfl, trivial⟩
    · rintro _ _ u20 ⟨b11, o11, b15, A14_0, c14_0, A14_1, c14_1, f14, A11_10, c11_10, A11_11, c11_11, A11_14, c11_14, rfl, rfl, x20, f20_0, f20_1, f20_2, f20_3, f20_4, f20_5, f20_6, f20_7, f20_8, f20_9, f20_10, f20_11, f20_12, f20_13⟩
      refine Js.seq ?_
      refine Js.seq ?_
      refine Js.drawn _ [] mixed_ (fun _ h => h) ?_
      refine JH.p 0 rfl (p_fieldAddr fld_32_8 rfl) ?_
      refine JH.q 1 rfl (q_load1 ty_2 rfl (Mem.box (i := 4) rfl rfl)) ?_
      refine JH.p 2 rfl (p_eql rfl rfl) ?_
      refine JH.p 3 rfl (p_move rfl) ?_
      refine JH.qg 4 rfl (Gd.t1 rfl rfl rfl) (fun hc => q_loadN ty_32 rfl (Mem.boxR (i := 4) rfl 0 9) rfl rfl) ?_
      refine JH.pg 5 rfl (Gd.t1 rfl rfl rfl) (fun hc => p_move rfl) ?_
      refine JH.pg 6 rfl (Gd.t1 rfl rfl rfl) (fun hc => p_nilCheck (gvt rfl hc)) ?_
      refine JH.pg 7 rfl (Gd.t1 rfl rfl rfl) (fun hc => p_fieldAddr fld_160_2 (gvt rfl hc)) ?_
      refine JH.wg 8 rfl (Gd.t1 rfl rfl rfl) (fun hc os' u' hv => q_loadN ty_129 (gvt rfl hc) (Mem.pubR ((f20_0.vis hv).sub 10 4)) rfl rfl) ?_
      refine JH.pg 9 rfl (Gd.t1 rfl rfl rfl) (fun hc => p_fieldAddr fld_33_2 rfl) ?_
      refine JH.qg 10 rfl (Gd.t1 rfl rfl rfl) (fun hc => q_load1 ty_2 (gvt rfl hc) (Mem.box (i := 3) rfl rfl)) ?_
      refine JH.one (i := 11) (by kernel_rfl) ?_
      refine JHo.ge rfl (Gd.t1 rfl rfl rfl) (fun hc => e_callV fn_150 (opds_3 (gvt rfl hc) (gvt rfl hc) (gvt rfl hc)) (fun w hw => c_impl_Rules_slams r _ ((M.sowMove r p move).2.1) _ p.player w ⟨_, rfl, ⟨rfl, rfl, rfl, rfl, rfl, rfl, rfl, rfl, rfl, trivial⟩⟩ ⟨_, rfl, ⟨(Ty.mono _ f20_3 hw.vis), (Ty.mono _ f20_6 hw.vis), rfl, rfl, trivial⟩⟩ (by have hc9 := hc; (try simp only [decide_eq_true_eq] at hc9); omega) (by have hc9 := hc; (try simp only [decide_eq_true_eq] at hc9); omega) (by have hc9 := hc; (try simp only [decide_eq_true_eq] at hc9); omega) hG (by have hc9 := hc; (try simp only [decide_eq_true_eq] at hc9); omega) (by have hc9 := hc; (try simp only [decide_eq_true_eq] at hc9); omega))) ?_
      refine JH.p 12 rfl (p_pickAnd rfl rfl rfl) ?_
      refine JH.p 13 rfl (p_move rfl) ?_
      refine JH.qg 14 rfl (Gd.f1 rfl rfl rfl) (fun hc => q_loadN ty_32 rfl (Mem.boxR (i := 4) rfl 0 9) rfl rfl) ?_
      refine JH.qg 15 rfl (Gd.f1 rfl rfl rfl) (fun hc => q_loadN ty_33 rfl (Mem.boxR (i := 3) rfl 0 3) rfl rfl) ?_
      refine JH.one (i := 16) (by kernel_rfl) ?_
      refine JHo.ge rfl (Gd.f1 rfl rfl rfl) (fun hc => e_callV fn_151 (opds_2 (gvt rfl hc) (gvt rfl hc)) (fun w hw => c_impl_Rules_mustFeed r _ p _ w ⟨_, rfl, ⟨rfl, rfl, rfl, rfl, rfl, rfl, rfl, rfl, rfl, trivial⟩⟩ ⟨_, rfl, ⟨(Ty.mono _ h2_0 ((x8.vis.trans x20.vis).trans hw.vis)), (Ty.mono _ h2_1 ((x8.vis.trans x20.vis).trans hw.vis)), rfl, trivial⟩⟩ hok)) ?_
      refine JH.pg 17 rfl (Gd.f1 rfl rfl rfl) (fun hc => p_move (gvt rfl hc)) ?_
      refine JH.qg 18 rfl (Gd.t2 rfl rfl rfl) (fun hc => q_loadN ty_32 rfl (Mem.boxR (i := 4) rfl 0 9) rfl rfl) ?_
      refine JH.pg 19 rfl (Gd.t2 rfl rfl rfl) (fun hc => p_fieldAddr fld_129_0 rfl) ?_
      refine JH.qg 20 rfl (Gd.t2 rfl rfl rfl) (fun hc => q_load1 ty_24 (gvt rfl hc) (Mem.box (i := 0) rfl rfl)) ?_
      refine JH.pg 21 rfl (Gd.t2 rfl rfl rfl) (fun hc => p_fieldAddr fld_33_2 rfl) ?_
      refine JH.qg 22 rfl (Gd.t2 rfl rfl rfl) (fun hc => q_load1 ty_2 (gvt rfl hc) (Mem.box (i := 3) rfl rfl)) ?_
      refine JH.pg 23 rfl (Gd.t2 rfl rfl rfl) (fun hc => p_sub rfl (gvt rfl hc) (IntWalk.i64_in _ (by have hc9 := hc; (try simp only [Bool.and_eq_true, Bool.not_eq_true', Bool.and_eq_false_iff, decide_eq_false_iff_not] at hc9); omega))) ?_
      refine JH.one (i := 24) (by kernel_rfl) ?_
      refine JHo.ge rfl (Gd.t2 rfl rfl rfl) (fun hc => e_callV fn_135 (opds_3 (gvt rfl hc) (gvt rfl hc) (gvt rfl hc)) (fun w hw => c_impl_Rules_side r _ ((M.take r ((M.sowMove r p move).2.1) p.player).pits) _ (1 - p.player) w ⟨_, rfl, ⟨rfl, rfl, rfl, rfl, rfl, rfl, rfl, rfl, rfl, trivial⟩⟩ (Mem.ownC (i := 1) (Ts := cSown (M.take r ((M.sowMove r p move).2.1) p.player)) (vs := [.slice A14_0 (((M.take r ((M.sowMove r p move).2.1) p.player).pits).length) c14_0, .slice A14_1 (((M.take r ((M.sowMove r p move).2.1) p.player).stores).length) c14_1, .int .i64 ((M.take r ((M.sowMove r p move).2.1) p.player).last), .int .i64 ((M.take r ((M.sowMove r p move).2.1) p.player).laps)]) rfl w hw).1 (by have hc9 := hc; (try simp only [Bool.and_eq_true, Bool.not_eq_true', Bool.and_eq_false_iff, decide_eq_false_iff_not] at hc9); omega) (by have hc9 := hc; (try simp only [Bool.and_eq_true, Bool.not_eq_true', Bool.and_eq_false_iff, decide_eq_false_iff_not] at hc9); omega) (by have hc9 := hc; (try simp only [Bool.and_eq_true, Bool.not_eq_true', Bool.and_eq_false_iff, decide_eq_false_iff_not] at hc9); omega) (by have hc9 := hc; (try simp only [Bool.and_eq_true, Bool.not_eq_true', Bool.and_eq_false_iff, decide_eq_false_iff_not] at hc9); omega) hao.1)) ?_
      refine JH.pg 25 rfl (Gd.t2 rfl rfl rfl) (fun hc => p_eql (gvt rfl hc) rfl) ?_
      refine JH.pg 26 rfl (Gd.f1 rfl rfl rfl) (fun hc => p_pickAnd (gvt rfl hc) (gvl rfl hc) rfl) ?_
      refine JH.p 27 rfl (p_pickOr rfl rfl rfl) ?_
      refine JH.done (by kernel_rfl) ?_
      refine Js.cond rfl (fun h30 => ?_) (fun h30 => ?_)
      ·
        have h30' := h30
        try simp only [Bool.or_eq_true, Bool.and_eq_true, decide_eq_true_eq] at h30'
        have hD : M.done r p move = (M.Sw.zero, 9) := by unfold M.done; rw [if_neg (by simpa using hz), if_pos (by simpa using h30)]
        refine Js.seq ?_
        refine Js.region ?_
        refine JL.q (OpP.q (p_build zero_129 flds_129 rfl rfl)) ?_
        refine JL.s (e_store (i := 2) (c' := [.slice none 0 0, .slice none 0 0, .int .i64 0, .int .i64 0]) ty_129 rfl rfl rfl rfl rfl rfl rfl rfl) ?_
        rintro _ _ _ ⟨rfl, rfl⟩ _
        refine JL.q (OpP.q (p_assign rfl)) ?_
        refine JL.nil ?_
        refine Js.ret (R := RO w (Ty.tup [Ty.agg (cSown ((M.done r p move).1)), Ty.int ((M.done r p move).2)])) @Try.results134 (fun _ _ => rfl) (ResOk.cell (res_box (i := 2) ty_129 rfl rfl rfl rfl rfl) (ResOk.tmp rfl ResOk.nil)) (fun w1 hw => ?_)
        have hx := hw.ext ((x8.trans x20))
        exact ret_own (ps := []) hw hx ⟨_, rfl, ⟨_, _, rfl, ⟨_, rfl, ⟨_, _, rfl, (ints_cast (show [] = ((M.done r p move).1).pits by first | (rw [hD]; done) | (rw [hD]; rfl)) nil_own), ⟨_, _, rfl, (ints_cast (show [] = ((M.done r p move).1).stores by first | (rw [hD]; done) | (rw [hD]; rfl)) nil_own), ⟨_, _, rfl, ⟨by first | (rw [hD]; done) | (rw [hD]; rfl), rfl⟩, ⟨_, _, rfl, ⟨by first | (rw [hD]; done) | (rw [hD]; rfl), rfl⟩, rfl⟩⟩⟩⟩⟩, ⟨_, _, rfl, ⟨by first | (rw [hD]; done) | (rw [hD]; rfl), rfl⟩, rfl⟩⟩⟩ Pick.nil (by simp [List.flatten, outV])
      ·
        have h30' := h30
        try simp only [Bool.or_eq_false_iff, Bool.and_eq_false_iff, decide_eq_false_iff_not] at h30'
        have hD : M.done r p move = (M.take r (M.sowMove r p move).2.1 p.player, 0) := by unfold M.done; rw [if_neg (by simpa using hz), if_neg (by simpa using h30)]
        refine Js.skip ?_
        refine Js.seq ?_
        refine Js.region ?_
        refine JL.q (q_loadN ty_129 rfl (Mem.boxR (i := 0) rfl 0 4) rfl rfl) ?_
        refine JL.s (e_store (i := 2) (c' := [.slice A14_0 (((M.take r ((M.sowMove r p move).2.1) p.player).pits).length) c14_0, .slice A14_1 (((M.take r ((M.sowMove r p move).2.1) p.player).stores).length) c14_1, .int .i64 ((M.take r ((M.sowMove r p move).2.1) p.player).last), .int .i64 ((M.take r ((M.sowMove r p move).2.1) p.player).laps)]) ty_129 rfl rfl rfl rfl rfl rfl rfl rfl) ?_
        rintro _ _ _ ⟨rfl, rfl⟩ _
        refine JL.q (OpP.q (p_assign rfl)) ?_
        refine JL.nil ?_
        refine Js.ret (R := RO w (Ty.tup [Ty.agg (cSown ((M.done r p move).1)), Ty.int ((M.done r p move).2)])) @Try.results134 (fun _ _ => rfl) (ResOk.cell (res_box (i := 2) ty_129 rfl rfl rfl rfl rfl) (ResOk.tmp rfl ResOk.nil)) (fun w1 hw => ?_)
        have hx := hw.ext ((x8.trans x20))
        exact ret_own (ps := [(1, f14)]) hw hx ⟨_, rfl, ⟨_, _, rfl, (own_cast cSown (show M.take r ((M.sowMove r p move).2.1) p.player = (M.done r p move).1 by first | (rw [hD]; done) | (rw [hD]; rfl)) ⟨_, rfl, hw.pr (i := 1) rfl⟩), ⟨_, _, rfl, ⟨by first | (rw [hD]; done) | (rw [hD]; rfl), rfl⟩, rfl⟩⟩⟩ (Pick.cons (j := 1) rfl (List.Sublist.refl _) rfl Pick.nil) (by simp [List.flatten, outV])

set_option maxRecDepth 100000 in
set_option maxHeartbeats 400000 in
theorem c_impl_MoveFault (r : M.Rul) (v_r : Value) (p : M.Pos) (v_p : Value) (move : Int) (w : World) (h_r : (Ty.agg (cRules r)).ok w v_r) (h_p : (Ty.agg (cPosition p)).ok w v_p) (r0 : p.pits.length ≤ 4194304) (r1 : p.stores.length ≤ 4194304) : RetV Try.prog 123 [v_r, v_p, .int .i64 move] w (.int .i64 ((M.done r p move).2)) := by
  obtain rfl := open_Rules h_r
  obtain ⟨A2_0, c2_0, A2_1, c2_1, rfl, h2_0, h2_1, bl2_0, bh2_0, bl2_1, bh2_1⟩ := open_Position h_p
  refine enter @Try.func123 @Try.ntmps123 rfl rfl ?_
  refine Js.seq ?_
  refine Js.region ?_
  refine JL.e (e_box (c := [.int .i64 r.pits, .int .i64 r.seeds, .bool r.stores, .bool r.skip, .bool r.relay, .bool r.feed, .bool r.again, .int .i64 r.capture, .int .i64 r.slam]) rfl rfl) ?_
  rintro _ _ _ ⟨b3, rfl, rfl, rfl⟩ _
  refine JL.e (e_box (c := [.slice A2_0 p.pits.length c2_0, .slice A2_1 p.stores.length c2_1, .int .i64 p.player]) rfl rfl) ?_
  rintro _ _ _ ⟨b4, rfl, rfl, rfl⟩ _
  refine JL.q (OpP.q (p_assign rfl)) ?_
  refine JL.nil ?_
  refine Js.seq ?_
  refine Js.region ?_
  refine JL.q (q_loadN ty_32 rfl (Mem.boxR (i := 1) rfl 0 9) rfl rfl) ?_
  refine JL.q (q_loadN ty_33 rfl (Mem.boxR (i := 0) rfl 0 3) rfl rfl) ?_
  refine JL.q (OpP.q (p_move rfl)) ?_
  refine JL.e (e_callP fn_134 rfl (fun w hw => c_impl_Rules_done r _ p _ move w ⟨_, rfl, ⟨rfl, rfl, rfl, rfl, rfl, rfl, rfl, rfl, rfl, trivial⟩⟩ ⟨_, rfl, ⟨(Ty.mono _ h2_0 hw.vis), (Ty.mono _ h2_1 hw.vis), rfl, trivial⟩⟩ (by omega) (by omega))) ?_
  rintro v5 _ u7 ⟨h6, rfl⟩ x7
  obtain ⟨vs8, rfl, hv8⟩ := h6
  obtain ⟨v8_0, vs8, rfl, hw8_0, hv8⟩ := cellsOk_cons hv8
  obtain ⟨v8_1, vs8, rfl, hw8_1, hv8⟩ := cellsOk_cons hv8
  obtain rfl := cellsOk_nil hv8
  obtain ⟨A9_0, c9_0, A9_1, c9_1, rfl, h9_0, h9_1, bl9_0, bh9_0, bl9_1, bh9_1⟩ := open_Sown hw8_0
  obtain rfl : v8_1 = .int .i64 ((M.done r p move).2) := hw8_1
  refine JL.q (OpP.q (p_move rfl)) ?_
  refine JL.q (OpP.q (p_extract rfl rfl)) ?_
  refine JL.q (OpP.q (p_extract rfl rfl)) ?_
  refine JL.e (e_alloc zero_129) ?_
  rintro _ _ _ ⟨b10, rfl, rfl, rfl⟩ _
  refine JL.s (e_store (i := 0) (c' := [.slice A9_0 ((((M.done r p move).1).pits).length) c9_0, .slice A9_1 ((((M.done r p move).1).stores).length) c9_1, .int .i64 (((M.done r p move).1).last), .int .i64 (((M.done r p move).1).laps)]) ty_129 rfl rfl rfl rfl rfl rfl rfl rfl) ?_
  rintro _ _ _ ⟨rfl, rfl⟩ _
  refine JL.q (OpP.q (p_assign rfl)) ?_
  refine JL.nil ?_
  refine Js.seq ?_
  refine Js.region ?_
  refine JL.q (OpP.q (p_move rfl)) ?_
  refine JL.q (OpP.q (p_assign rfl)) ?_
  refine JL.nil ?_
  refine Js.ret (R := RV w (.int .i64 ((M.done r p move).2))) @Try.results123 (fun _ _ => rfl) (ResOk.tmp rfl ResOk.nil) (fun w1 hw => ?_)
  refine ⟨?_, hw.ext (x7)⟩
  first | rfl | (simp [outV]; done)

end Go.Proofs.Ytejnmechnhgmfaa

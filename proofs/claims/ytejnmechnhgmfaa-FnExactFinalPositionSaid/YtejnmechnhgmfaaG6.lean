/- Walks: G6. -/
import Derived.Test.YtejnmechnhgmfaaTy
import Derived.Test.YtejnmechnhgmfaaG5
set_option linter.unusedSimpArgs false
set_option linter.unusedVariables false
namespace Go.Proofs.Ytejnmechnhgmfaa
open Go.RowKit

set_option maxRecDepth 100000 in
set_option maxHeartbeats 400000 in
theorem c_impl_majority (p : M.Pos) (v_p : Value) (w : World) (h_p : (Ty.agg (cPosition p)).ok w v_p) (r0 : p.pits.length ≤ 4194304) (r1 : p.stores.length = 2) (r2 : M.sumV p.pits + M.sumV p.stores = M.all p) (r3 : ∀ k : Int, 0 ≤ M.getI p.stores k ∧ M.getI p.stores k ≤ 96) : RetV Try.prog 109 [v_p] w (.int .i64 (M.majority p)) := by
  obtain ⟨A1_0, c1_0, A1_1, c1_1, rfl, h1_0, h1_1, bl1_0, bh1_0, bl1_1, bh1_1⟩ := open_Position h_p
  refine enter @Try.func109 @Try.ntmps109 rfl rfl ?_
  refine Js.seq ?_
  refine Js.region ?_
  refine JL.e (e_box (c := [.slice A1_0 p.pits.length c1_0, .slice A1_1 p.stores.length c1_1, .int .i64 p.player]) rfl rfl) ?_
  rintro _ _ _ ⟨b2, rfl, rfl, rfl⟩ _
  refine JL.q (OpP.q (p_assign rfl)) ?_
  refine JL.nil ?_
  refine Js.seq ?_
  refine Js.seq ?_
  refine Js.region ?_
  refine JL.q (OpP.q (p_fieldAddr fld_33_1 rfl)) ?_
  refine JL.q (q_load1 ty_24 rfl (Mem.box (i := 0) rfl rfl)) ?_
  refine JL.q (OpP.q (p_len el_24 rfl)) ?_
  refine JL.q (OpP.q (p_move rfl)) ?_
  refine JL.nil ?_
  refine Js.block ?_
  refine Js.loop (fun l os u m => ∃ (k : Nat), l = [(1, .pointer (some ⟨b2, 0, none⟩)), (6, .slice A1_1 p.stores.length c1_1), (7, .int .i64 (p.stores.length : Int)), (8, .int .i64 (k : Int))] ∧ os = [boxO b2 [.slice A1_0 p.pits.length c1_0, .slice A1_1 p.stores.length c1_1, .int .i64 p.player] 33] ∧ Up w.heap.size w u ∧ (k ≤ 2) ∧ (M.noMaj p (k : Int)) ∧ m = 2 - k) ⟨0, rfl, rfl, Up.refl _ _, by first | assumption | omega | rfl | (simp; done), by exact M.noMaj_zero p, rfl⟩ ⟨rfl, rfl, rfl, rfl, trivial⟩ ?_
  · rintro _ _ u3 _ ⟨k, rfl, rfl, x3, hk, hN, rfl⟩
    have hv := r3 (k : Int)
    rw [M.nth_getI] at hv
    refine Js.seq ?_
    refine Js.region ?_
    refine JL.q (OpP.q (p_lss rfl rfl)) ?_
    refine JL.nil ?_
    refine Js.seq ?_
    refine Js.cond rfl (fun h4 => ?_) (fun h4 => ?_)
    ·
      have h4' := h4
      try simp only [decide_eq_true_eq] at h4'
      refine Js.skip ?_
      refine Js.seq ?_
      refine Js.block ?_
      refine Js.seq ?_
      refine Js.region ?_
      refine JL.q (OpP.q (p_move rfl)) ?_
      obtain ⟨b5, o5, he5, hc5⟩ := ints_elem (Ty.mono _ h1_1 x3.vis) (i := k) (by omega)
      refine JL.q (OpP.q (p_indexAddr el_24 rfl rfl (by omega) (by omega) he5)) ?_
      refine JL.q (q_load1 ty_2 rfl (Mem.pub hc5)) ?_
      refine JL.q (OpP.q (p_assign rfl)) ?_
      refine JL.q (OpP.q (p_assign rfl)) ?_
      refine JL.nil ?_
      refine Js.seq ?_
      refine Js.region ?_
      refine JL.q (OpP.q (p_move rfl)) ?_
      refine JL.q (OpP.q (p_mul rfl rfl (IntWalk.i64_in _ (by omega)))) ?_
      refine JL.q (q_loadN ty_33 rfl (Mem.boxR (i := 0) rfl 0 3) rfl rfl) ?_
      refine JL.e (e_callV fn_133 rfl (fun w hw => c_impl_Position_all p _ w ⟨_, rfl, ⟨(Ty.mono _ h1_0 (x3.vis.trans hw.vis)), (Ty.mono _ h1_1 (x3.vis.trans hw.vis)), rfl, trivial⟩⟩ (by omega) (by omega))) ?_
      rintro _ _ _ ⟨rfl, rfl, rfl⟩ _
      refine JL.q (OpP.q (p_gtr rfl rfl)) ?_
      refine JL.nil ?_
      refine Js.cond rfl (fun h6 => ?_) (fun h6 => ?_)
      ·
        have h6' := h6
        try simp only [decide_eq_true_eq] at h6'
        have hj : M.all p < 2 * M.getI p.stores (k : Int) := by rw [M.nth_getI, ← r2]; simpa using h6
        have hE := M.majority_at hN (by omega) (by omega) hj
        refine Js.seq ?_
        refine Js.region ?_
        refine JL.q (OpP.q (p_move rfl)) ?_
        refine JL.q (OpP.q (p_assign rfl)) ?_
        refine JL.nil ?_
        refine Js.ret (R := RV w (.int .i64 (M.majority p))) @Try.results109 (fun _ _ => rfl) (ResOk.tmp rfl ResOk.nil) (fun w1 hw => ?_)
        refine ⟨?_, hw.ext (x3)⟩
        rw [hE]; rfl
      ·
        have h6' := h6
        try simp only [decide_eq_false_iff_not, Int.not_lt] at h6'
        have hj : ¬ M.all p < 2 * M.getI p.stores (k : Int) := by rw [M.nth_getI, ← r2]; simpa using h6
        refine Js.skip ?_
        refine Js.blockEnd ?_
        refine Js.region ?_
        refine JL.q (OpP.q (p_add rfl rfl (IntWalk.i64_in _ (by omega)))) ?_
        refine JL.q (OpP.q (p_move rfl)) ?_
        refine JL.nil ?_
        exact Js.again ⟨k + 1, rfl, rfl, x3, by first | assumption | omega | rfl | (simp; done), by exact M.noMaj_step hN hj, rfl⟩ (by omega) ⟨rfl, rfl, rfl, rfl, trivial⟩
    ·
      have h4' := h4
      try simp only [decide_eq_false_iff_not, Int.not_lt] at h4'
      have hE := M.majority_no hN (by have := h4'; omega)
      refine Js.exit (fun _ _ => rfl) ?_
      refine Js.seq ?_
      refine Js.region ?_
      refine JL.q (OpP.q (p_assign rfl)) ?_
      refine JL.nil ?_
      refine Js.ret (R := RV w (.int .i64 (M.majority p))) @Try.results109 (fun _ _ => rfl) (ResOk.tmp rfl ResOk.nil) (fun w1 hw => ?_)
      refine ⟨?_, hw.ext (x3)⟩
      rw [hE]; rfl

set_option maxRecDepth 100000 in
set_option maxHeartbeats 400000 in
theorem c_impl_Rules_settled (r : M.Rul) (v_r : Value) (p : M.Pos) (v_p : Value) (w : World) (h_r : (Ty.agg (cRules r)).ok w v_r) (h_p : (Ty.agg (cPosition p)).ok w v_p) (r0 : M.okP r p = true) : Ret Try.prog 114 [v_r, v_p] w (Ty.agg (cPosition (M.settle r p))) := by
  obtain ⟨g1, g2, g3, g4, g5, g6, g7⟩ := M.okP_bd r0
  obtain rfl := open_Rules h_r
  obtain ⟨A2_0, c2_0, A2_1, c2_1, rfl, h2_0, h2_1, bl2_0, bh2_0, bl2_1, bh2_1⟩ := open_Position h_p
  refine enter @Try.func114 @Try.ntmps114 rfl rfl ?_
  refine Js.seq ?_
  refine Js.region ?_
  refine JL.e (e_box (c := [.int .i64 r.pits, .int .i64 r.seeds, .bool r.stores, .bool r.skip, .bool r.relay, .bool r.feed, .bool r.again, .int .i64 r.capture, .int .i64 r.slam]) rfl rfl) ?_
  rintro _ _ _ ⟨b3, rfl, rfl, rfl⟩ _
  refine JL.e (e_box (c := [.slice A2_0 p.pits.length c2_0, .slice A2_1 p.stores.length c2_1, .int .i64 p.player]) rfl rfl) ?_
  rintro _ _ _ ⟨b4, rfl, rfl, rfl⟩ _
  refine JL.e (e_alloc zero_33) ?_
  rintro _ _ _ ⟨b5, rfl, rfl, rfl⟩ _
  refine JL.nil ?_
  refine Js.seq ?_
  refine Js.cut (fun l os u => ∃ (b10 : Nat) (b6 : Nat) (A9 : Option Addr) (c9 : Nat), l = [(2, .pointer (some ⟨b3, 0, none⟩)), (3, .pointer (some ⟨b4, 0, none⟩)), (4, .pointer (some ⟨b5, 0, none⟩)), (5, .pointer (some ⟨b10, 0, none⟩))] ∧ os = [boxO b10 [.slice (some ⟨b6, 0, none⟩) p.pits.length p.pits.length, .slice A9 p.stores.length c9, .int .i64 p.player] 33, rowO 2 1 (.slice A9 p.stores.length c9) p.stores.length (ints_ p.stores) [], rowO 2 1 (.slice (some ⟨b6, 0, none⟩) p.pits.length p.pits.length) p.pits.length (ints_ (List.replicate p.pits.length 0)) [], boxO b5 [.slice none 0 0, .slice none 0 0, .int .i64 0] 33, boxO b4 [.slice A2_0 p.pits.length c2_0, .slice A2_1 p.stores.length c2_1, .int .i64 p.player] 33, boxO b3 [.int .i64 r.pits, .int .i64 r.seeds, .bool r.stores, .bool r.skip, .bool r.relay, .bool r.feed, .bool r.again, .int .i64 r.capture, .int .i64 r.slam] 32] ∧ Up w.heap.size w u ∧ (p.stores.length ≤ c9) ∧ (c9 ≤ 9223372036854775807)) ?_ ?_
  ·
    refine Js.drawn _ [11] mixed_ (fun _ h => h) ?_
    refine JH.p 0 rfl (p_fieldAddr fld_33_0 rfl) ?_
    refine JH.q 1 rfl (q_load1 ty_24 rfl (Mem.box (i := 1) rfl rfl)) ?_
    refine JH.p 2 rfl (p_len el_24 rfl) ?_
    refine JH.p 4 rfl (p_fieldAddr fld_33_1 rfl) ?_
    refine JH.q 5 rfl (q_load1 ty_24 rfl (Mem.box (i := 1) rfl rfl)) ?_
    refine JH.p 7 rfl (p_fieldAddr fld_33_2 rfl) ?_
    refine JH.q 8 rfl (q_load1 ty_2 rfl (Mem.box (i := 1) rfl rfl)) ?_
    refine JH.all (rs := [3, 6, 10]) (by kernel_rfl) rfl ⟨?_, ?_, ?_, trivial⟩
    ·
      refine JHo.e rfl (e_makeI (m := p.pits.length) el_24 rfl rfl rfl (by omega) (by omega)) (.inl rfl) ?_
      rintro _ _ _ ⟨b32, rfl, rfl, rfl⟩ _
      refine JH.all (rs := [6, 10]) (by kernel_rfl) rfl ⟨?_, ?_, trivial⟩
      ·
        refine JHo.e rfl (e_callO fn_106 rfl (Spl.ints _ _) (fun w hw => c_impl_copyNumbers p.stores _ w (Ty.mono _ h2_1 hw.vis) (by omega))) (.inl rfl) ?_
        rintro v33 _ _ ⟨_, hR34, rfl, rfl⟩ _
        obtain ⟨A35, c35, rfl, rfl, bl35, bh35⟩ := hR34
        refine JH.p 9 rfl (p_build zero_33 flds_33 rfl rfl) ?_
        refine JH.one (i := 10) (by kernel_rfl) ?_
        refine JHo.e rfl (e_alloc zero_33) (.inl rfl) ?_
        rintro _ _ _ ⟨b36, rfl, rfl, rfl⟩ _
        refine JH.one (i := 11) (by kernel_rfl) ?_
        refine JHo.s rfl (e_store (i := 0) (c' := [.slice (some ⟨b32, 0, none⟩) p.pits.length p.pits.length, .slice A35 p.stores.length c35, .int .i64 p.player]) ty_33 rfl rfl rfl rfl rfl rfl rfl rfl) (.inr rfl) ?_
        rintro _ _ _ ⟨rfl, rfl⟩ _
        refine JH.done (by kernel_rfl) ?_
        exact Js.meet ⟨_, _, _, _, rfl, rfl, Up.refl _ _, by omega, by omega⟩ ⟨rfl, rfl, rfl, rfl, trivial⟩
      ·
        refine JHo.e rfl (e_alloc zero_33) (.inl rfl) ?_
        rintro _ _ _ ⟨b37, rfl, rfl, rfl⟩ _
        refine JH.one (i := 6) (by kernel_rfl) ?_
        refine JHo.e rfl (e_callO fn_106 rfl (Spl.ints _ _) (fun w hw => c_impl_copyNumbers p.stores _ w (Ty.mono _ h2_1 hw.vis) (by omega))) (.inl rfl) ?_
        rintro v38 _ _ ⟨_, hR39, rfl, rfl⟩ _
        obtain ⟨A40, c40, rfl, rfl, bl40, bh40⟩ := hR39
        refine JH.p 9 rfl (p_build zero_33 flds_33 rfl rfl) ?_
        refine JH.one (i := 11) (by kernel_rfl) ?_
        refine JHo.s rfl (e_store (i := 1) (c' := [.slice (some ⟨b32, 0, none⟩) p.pits.length p.pits.length, .slice A40 p.stores.length c40, .int .i64 p.player]) ty_33 rfl rfl rfl rfl rfl rfl rfl rfl) (.inr rfl) ?_
        rintro _ _ _ ⟨rfl, rfl⟩ _
        refine JH.done (by kernel_rfl) ?_
        refine Js.front (i := 5) rfl ?_
        refine Js.front (i := 5) rfl ?_
        refine Js.front (i := 5) rfl ?_
        refine Js.front (i := 5) rfl ?_
        refine Js.front (i := 4) rfl ?_
        refine Js.front (i := 5) rfl ?_
        exact Js.meet ⟨_, _, _, _, rfl, rfl, Up.refl _ _, by omega, by omega⟩ ⟨rfl, rfl, rfl, rfl, trivial⟩
    ·
      refine JHo.e rfl (e_callO fn_106 rfl (Spl.ints _ _) (fun w hw => c_impl_copyNumbers p.stores _ w (Ty.mono _ h2_1 hw.vis) (by omega))) (.inl rfl) ?_
      rintro v41 _ _ ⟨_, hR42, rfl, rfl⟩ _
      obtain ⟨A43, c43, rfl, rfl, bl43, bh43⟩ := hR42
      refine JH.all (rs := [3, 10]) (by kernel_rfl) rfl ⟨?_, ?_, trivial⟩
      ·
        refine JHo.e rfl (e_makeI (m := p.pits.length) el_24 rfl rfl rfl (by omega) (by omega)) (.inl rfl) ?_
        rintro _ _ _ ⟨b44, rfl, rfl, rfl⟩ _
        refine JH.p 9 rfl (p_build zero_33 flds_33 rfl rfl) ?_
        refine JH.one (i := 10) (by kernel_rfl) ?_
        refine JHo.e rfl (e_alloc zero_33) (.inl rfl) ?_
        rintro _ _ _ ⟨b45, rfl, rfl, rfl⟩ _
        refine JH.one (i := 11) (by kernel_rfl) ?_
        refine JHo.s rfl (e_store (i := 0) (c' := [.slice (some ⟨b44, 0, none⟩) p.pits.length p.pits.length, .slice A43 p.stores.length c43, .int .i64 p.player]) ty_33 rfl rfl rfl rfl rfl rfl rfl rfl) (.inr rfl) ?_
        rintro _ _ _ ⟨rfl, rfl⟩ _
        refine JH.done (by kernel_rfl) ?_
        refine Js.front (i := 5) rfl ?_
        refine Js.front (i := 5) rfl ?_
        refine Js.front (i := 5) rfl ?_
        refine Js.front (i := 4) rfl ?_
        refine Js.front (i := 5) rfl ?_
        refine Js.front (i := 5) rfl ?_
        exact Js.meet ⟨_, _, _, _, rfl, rfl, Up.refl _ _, by omega, by omega⟩ ⟨rfl, rfl, rfl, rfl, trivial⟩
      ·
        refine JHo.e rfl (e_alloc zero_33) (.inl rfl) ?_
        rintro _ _ _ ⟨b46, rfl, rfl, rfl⟩ _
        refine JH.one (i := 3) (by kernel_rfl) ?_
        refine JHo.e rfl (e_makeI (m := p.pits.length) el_24 rfl rfl rfl (by omega) (by omega)) (.inl rfl) ?_
        rintro _ _ _ ⟨b47, rfl, rfl, rfl⟩ _
        refine JH.p 9 rfl (p_build zero_33 flds_33 rfl rfl) ?_
        refine JH.one (i := 11) (by kernel_rfl) ?_
        refine JHo.s rfl (e_store (i := 1) (c' := [.slice (some ⟨b47, 0, none⟩) p.pits.length p.pits.length, .slice A43 p.stores.length c43, .int .i64 p.player]) ty_33 rfl rfl rfl rfl rfl rfl rfl rfl) (.inr rfl) ?_
        rintro _ _ _ ⟨rfl, rfl⟩ _
        refine JH.done (by kernel_rfl) ?_
        refine Js.front (i := 5) rfl ?_
        refine Js.front (i := 5) rfl ?_
        refine Js.front (i := 5) rfl ?_
        refine Js.front (i := 3) rfl ?_
        refine Js.front (i := 5) rfl ?_
        refine Js.front (i := 5) rfl ?_
        exact Js.meet ⟨_, _, _, _, rfl, rfl, Up.refl _ _, by omega, by omega⟩ ⟨rfl, rfl, rfl, rfl, trivial⟩
    ·
      refine JHo.e rfl (e_alloc zero_33) (.inl rfl) ?_
      rintro _ _ _ ⟨b48, rfl, rfl, rfl⟩ _
      refine JH.all (rs := [3, 6]) (by kernel_rfl) rfl ⟨?_, ?_, trivial⟩
      ·
        refine JHo.e rfl (e_makeI (m := p.pits.length) el_24 rfl rfl rfl (by omega) (by omega)) (.inl rfl) ?_
        rintro _ _ _ ⟨b49, rfl, rfl, rfl⟩ _
        refine JH.one (i := 6) (by kernel_rfl) ?_
        refine JHo.e rfl (e_callO fn_106 rfl (Spl.ints _ _) (fun w hw => c_impl_copyNumbers p.stores _ w (Ty.mono _ h2_1 hw.vis) (by omega))) (.inl rfl) ?_
        rintro v50 _ _ ⟨_, hR51, rfl, rfl⟩ _
        obtain ⟨A52, c52, rfl, rfl, bl52, bh52⟩ := hR51
        refine JH.p 9 rfl (p_build zero_33 flds_33 rfl rfl) ?_
        refine JH.one (i := 11) (by kernel_rfl) ?_
        refine JHo.s rfl (e_store (i := 2) (c' := [.slice (some ⟨b49, 0, none⟩) p.pits.length p.pits.length, .slice A52 p.stores.length c52, .int .i64 p.player]) ty_33 rfl rfl rfl rfl rfl rfl rfl rfl) (.inr rfl) ?_
        rintro _ _ _ ⟨rfl, rfl⟩ _
        refine JH.done (by kernel_rfl) ?_
        refine Js.front (i := 5) rfl ?_
        refine Js.front (i := 5) rfl ?_
        refine Js.front (i := 5) rfl ?_
        refine Js.front (i := 4) rfl ?_
        refine Js.front (i := 4) rfl ?_
        refine Js.front (i := 5) rfl ?_
        exact Js.meet ⟨_, _, _, _, rfl, rfl, Up.refl _ _, by omega, by omega⟩ ⟨rfl, rfl, rfl, rfl, trivial⟩
      ·
        refine JHo.e rfl (e_callO fn_106 rfl (Spl.ints _ _) (fun w hw => c_impl_copyNumbers p.stores _ w (Ty.mono _ h2_1 hw.vis) (by omega))) (.inl rfl) ?_
        rintro v53 _ _ ⟨_, hR54, rfl, rfl⟩ _
        obtain ⟨A55, c55, rfl, rfl, bl55, bh55⟩ := hR54
        refine JH.one (i := 3) (by kernel_rfl) ?_
        refine JHo.e rfl (e_makeI (m := p.pits.length) el_24 rfl rfl rfl (by omega) (by omega)) (.inl rfl) ?_
        rintro _ _ _ ⟨b56, rfl, rfl, rfl⟩ _
        refine JH.p 9 rfl (p_build zero_33 flds_33 rfl rfl) ?_
        refine JH.one (i := 11) (by kernel_rfl) ?_
        refine JHo.s rfl (e_store (i := 2) (c' := [.slice (some ⟨b56, 0, none⟩) p.pits.length p.pits.length, .slice A55 p.stores.length c55, .int .i64 p.player]) ty_33 rfl rfl rfl rfl rfl rfl rfl rfl) (.inr rfl) ?_
        rintro _ _ _ ⟨rfl, rfl⟩ _
        refine JH.done (by kernel_rfl) ?_
        refine Js.front (i := 5) rfl ?_
        refine Js.front (i := 5) rfl ?_
        refine Js.front (i := 5) rfl ?_
        refine Js.front (i := 3) rfl ?_
        refine Js.front (i := 4) rfl ?_
        refine Js.front (i := 5) rfl ?_
        exact Js.meet ⟨_, _, _, _, rfl, rfl, Up.refl _ _, by omega, by omega⟩ ⟨rfl, rfl, rfl, rfl, trivial⟩
  · rintro _ _ u31 ⟨b10, b6, A9, c9, rfl, rfl, x31, f31_0, f31_1⟩
    refine Js.seq ?_
    refine Js.seq ?_
    refine Js.region ?_
    refine JL.q (OpP.q (p_move rfl)) ?_
    refine JL.nil ?_
    refine Js.block ?_
    refine Js.loop (fun l os u m => ∃ (k : Nat) (ss : List Int), l = [(2, .pointer (some ⟨b3, 0, none⟩)), (3, .pointer (some ⟨b4, 0, none⟩)), (4, .pointer (some ⟨b5, 0, none⟩)), (5, .pointer (some ⟨b10, 0, none⟩)), (17, .int .i64 (k : Int))] ∧ os = [boxO b10 [.slice (some ⟨b6, 0, none⟩) p.pits.length p.pits.length, .slice A9 p.stores.length c9, .int .i64 p.player] 33, rowO 2 1 (.slice A9 p.stores.length c9) p.stores.length (ints_ ss) [], rowO 2 1 (.slice (some ⟨b6, 0, none⟩) p.pits.length p.pits.length) p.pits.length (ints_ (List.replicate p.pits.length 0)) [], boxO b5 [.slice none 0 0, .slice none 0 0, .int .i64 0] 33, boxO b4 [.slice A2_0 p.pits.length c2_0, .slice A2_1 p.stores.length c2_1, .int .i64 p.player] 33, boxO b3 [.int .i64 r.pits, .int .i64 r.seeds, .bool r.stores, .bool r.skip, .bool r.relay, .bool r.feed, .bool r.again, .int .i64 r.capture, .int .i64 r.slam] 32] ∧ Up w.heap.size u31 u ∧ (ss = M.setT r p k) ∧ (k ≤ 2) ∧ (ss.length = p.stores.length) ∧ m = 2 - k) ⟨0, p.stores, rfl, rfl, Up.refl _ _, by rfl, by first | assumption | omega | rfl | (simp; done), by rfl, rfl⟩ ⟨rfl, rfl, rfl, rfl, rfl, trivial⟩ ?_
    · rintro _ _ u57 _ ⟨k, ss, rfl, rfl, x57, hX, hk, hl, rfl⟩
      have hv := M.setT_bd r0 k (k : Int)
      rw [← hX, M.nth_getI] at hv
      have hw9 := M.side_bd g5 g2 (k : Int)
      refine Js.seq ?_
      refine Js.region ?_
      refine JL.q (OpP.q (p_lss rfl rfl)) ?_
      refine JL.nil ?_
      refine Js.seq ?_
      refine Js.cond rfl (fun h58 => ?_) (fun h58 => ?_)
      ·
        have h58' := h58
        try simp only [decide_eq_true_eq] at h58'
        refine Js.skip ?_
        refine Js.seq ?_
        refine Js.block ?_
        refine Js.seq ?_
        refine Js.region ?_
        refine JL.q (OpP.q (p_move rfl)) ?_
        refine JL.q (OpP.q (p_assign rfl)) ?_
        refine JL.nil ?_
        refine Js.drawn _ [12] mixed_ (fun _ h => h) ?_
        refine JH.p 0 rfl (p_fieldAddr fld_33_1 rfl) ?_
        refine JH.q 1 rfl (q_load1 ty_24 rfl (Mem.box (i := 0) rfl rfl)) ?_
        refine JH.p 2 rfl (p_move rfl) ?_
        refine JH.fact (row_some (i := 1) rfl (by omega)) (fun hf60 => ?_)
        obtain ⟨b60, rfl⟩ := hf60
        refine JH.p 3 rfl (p_indexAddr el_24 rfl rfl (by omega) (by omega) rfl) ?_
        refine JH.q 4 rfl (q_load1 ty_2 rfl (Mem.row (i := 1) rfl (ints_get (i := k) (by omega)))) ?_
        refine JH.q 5 rfl (q_loadN ty_32 rfl (Mem.boxR (i := 5) rfl 0 9) rfl rfl) ?_
        refine JH.p 6 rfl (p_fieldAddr fld_33_0 rfl) ?_
        refine JH.q 7 rfl (q_load1 ty_24 rfl (Mem.box (i := 4) rfl rfl)) ?_
        refine JH.p 8 rfl (p_move rfl) ?_
        refine JH.one (i := 9) (by kernel_rfl) ?_
        refine JHo.e rfl (e_callV fn_135 rfl (fun w hw => c_impl_Rules_side r _ p.pits _ (k : Int) w ⟨_, rfl, ⟨rfl, rfl, rfl, rfl, rfl, rfl, rfl, rfl, rfl, trivial⟩⟩ (Ty.mono _ h2_0 ((x31.vis.trans x57.vis).trans hw.vis)) (by omega) (by omega) (by omega) (by omega) g5)) (.inl rfl) ?_
        rintro _ _ _ ⟨rfl, rfl, rfl⟩ _
        refine JH.p 10 rfl (p_add rfl rfl (IntWalk.i64_in _ (by omega))) ?_
        refine JH.p 11 rfl (p_indexAddr el_24 rfl rfl (by omega) (by omega) rfl) ?_
        refine JH.one (i := 12) (by kernel_rfl) ?_
        refine JHo.s rfl (e_storeRow (i := 1) (xs' := ints_ (ss.set k ((M.nth ss k) + (M.side r p.pits (k : Int))))) ty_2 rfl rfl rfl rfl rfl rfl (ints_lt (i := k) (by omega)) (ints_setL (i := k) (by omega))) (.inr rfl) ?_
        rintro _ _ _ ⟨rfl, rfl⟩ _
        refine JH.done (by kernel_rfl) ?_
        refine Js.blockEnd ?_
        refine Js.region ?_
        refine JL.q (OpP.q (p_add rfl rfl (IntWalk.i64_in _ (by omega)))) ?_
        refine JL.q (OpP.q (p_move rfl)) ?_
        refine JL.nil ?_
        exact Js.again ⟨k + 1, ss.set k ((M.nth ss k) + (M.side r p.pits (k : Int))), rfl, rfl, x57, by rw [hX]; simp [M.setT, M.setI, M.getI], by first | assumption | omega | rfl | (simp; done), by rw [List.length_set]; exact hl, rfl⟩ (by omega) ⟨rfl, rfl, rfl, rfl, rfl, trivial⟩
      ·
        have h58' := h58
        try simp only [decide_eq_false_iff_not, Int.not_lt] at h58'
        have hE : ss = (M.settle r p).stores := by rw [hX, show k = 2 by have := h58'; omega]; rfl
        refine Js.exit (fun _ _ => rfl) ?_
        refine Js.seq ?_
        refine Js.region ?_
        refine JL.q (q_loadN ty_33 rfl (Mem.boxR (i := 0) rfl 0 3) rfl rfl) ?_
        refine JL.s (e_store (i := 3) (c' := [.slice (some ⟨b6, 0, none⟩) p.pits.length p.pits.length, .slice A9 p.stores.length c9, .int .i64 p.player]) ty_33 rfl rfl rfl rfl rfl rfl rfl rfl) ?_
        rintro _ _ _ ⟨rfl, rfl⟩ _
        refine JL.nil ?_
        refine Js.ret (R := RO w (Ty.agg (cPosition (M.settle r p)))) @Try.results114 (fun _ _ => rfl) (ResOk.cell (res_box (i := 3) ty_33 rfl rfl rfl rfl rfl) ResOk.nil) (fun w1 hw => ?_)
        have hx := hw.ext ((x31.trans x57))
        exact ret_own (ps := [(2, (Value.ownBlock (.slice (some ⟨b6, 0, none⟩) p.pits.length p.pits.length)).toList), (1, (Value.ownBlock (.slice A9 p.stores.length c9)).toList)]) hw hx ⟨_, rfl, ⟨_, _, rfl, (ints_row (xs := (List.replicate p.pits.length 0)) (hw.pr (i := 2) rfl) (show List.replicate p.pits.length 0 = (M.settle r p).pits by first | exact hE | rfl)), ⟨_, _, rfl, (ints_row (xs := ss) (hw.pr (i := 1) rfl) (show ss = (M.settle r p).stores by first | exact hE | rfl)), ⟨_, _, rfl, ⟨by first | exact hE | rfl, rfl⟩, rfl⟩⟩⟩⟩ (Pick.cons (j := 2) rfl (List.sublist_append_left _ _) rfl (Pick.cons (j := 1) rfl (List.sublist_append_left _ _) rfl Pick.nil)) (by simp [List.flatten, outV])

set_option maxRecDepth 100000 in
set_option maxHeartbeats 400000 in
theorem c_impl_Rules_given (r : M.Rul) (v_r : Value) (p : M.Pos) (v_p : Value) (player : Int) (w : World) (h_r : (Ty.agg (cRules r)).ok w v_r) (h_p : (Ty.agg (cPosition p)).ok w v_p) (r0 : M.okP r p = true) (r1 : player = 0 ∨ player = 1) : Ret Try.prog 113 [v_r, v_p, .int .i64 player] w (Ty.agg (cPosition (M.give p player))) := by
  obtain ⟨g1, g2, g3, g4, g5, g6, g7⟩ := M.okP_bd r0
  have hv0 := M.side_bd g5 g2 0
  have hv1 := M.side_bd g5 g2 1
  have hv2 := M.allOk_getI g6 player
  have hsa := M.side_all (r := r) (ps := p.pits) (by omega) g3
  obtain rfl := open_Rules h_r
  obtain ⟨A2_0, c2_0, A2_1, c2_1, rfl, h2_0, h2_1, bl2_0, bh2_0, bl2_1, bh2_1⟩ := open_Position h_p
  refine enter @Try.func113 @Try.ntmps113 rfl rfl ?_
  refine Js.seq ?_
  refine Js.region ?_
  refine JL.e (e_box (c := [.int .i64 r.pits, .int .i64 r.seeds, .bool r.stores, .bool r.skip, .bool r.relay, .bool r.feed, .bool r.again, .int .i64 r.capture, .int .i64 r.slam]) rfl rfl) ?_
  rintro _ _ _ ⟨b3, rfl, rfl, rfl⟩ _
  refine JL.e (e_box (c := [.slice A2_0 p.pits.length c2_0, .slice A2_1 p.stores.length c2_1, .int .i64 p.player]) rfl rfl) ?_
  rintro _ _ _ ⟨b4, rfl, rfl, rfl⟩ _
  refine JL.e (e_alloc zero_33) ?_
  rintro _ _ _ ⟨b5, rfl, rfl, rfl⟩ _
  refine JL.nil ?_
  refine Js.seq ?_
  refine Js.cut (fun l os u => ∃ (b10 : Nat) (b6 : Nat) (A9 : Option Addr) (c9 : Nat), l = [(2, .int .i64 player), (3, .pointer (some ⟨b3, 0, none⟩)), (4, .pointer (some ⟨b4, 0, none⟩)), (6, .pointer (some ⟨b5, 0, none⟩)), (7, .pointer (some ⟨b10, 0, none⟩))] ∧ os = [boxO b10 [.slice (some ⟨b6, 0, none⟩) p.pits.length p.pits.length, .slice A9 p.stores.length c9, .int .i64 p.player] 33, rowO 2 1 (.slice A9 p.stores.length c9) p.stores.length (ints_ p.stores) [], rowO 2 1 (.slice (some ⟨b6, 0, none⟩) p.pits.length p.pits.length) p.pits.length (ints_ (List.replicate p.pits.length 0)) [], boxO b5 [.slice none 0 0, .slice none 0 0, .int .i64 0] 33, boxO b4 [.slice A2_0 p.pits.length c2_0, .slice A2_1 p.stores.length c2_1, .int .i64 p.player] 33, boxO b3 [.int .i64 r.pits, .int .i64 r.seeds, .bool r.stores, .bool r.skip, .bool r.relay, .bool r.feed, .bool r.again, .int .i64 r.capture, .int .i64 r.slam] 32] ∧ Up w.heap.size w u ∧ (p.stores.length ≤ c9) ∧ (c9 ≤ 9223372036854775807)) ?_ ?_
  ·
    refine Js.drawn _ [11] mixed_ (fun _ h => h) ?_
    refine JH.p 0 rfl (p_fieldAddr fld_33_0 rfl) ?_
    refine JH.q 1 rfl (q_load1 ty_24 rfl (Mem.box (i := 1) rfl rfl)) ?_
    refine JH.p 2 rfl (p_len el_24 rfl) ?_
    refine JH.p 4 rfl (p_fieldAddr fld_33_1 rfl) ?_
    refine JH.q 5 rfl (q_load1 ty_24 rfl (Mem.box (i := 1) rfl rfl)) ?_
    refine JH.p 7 rfl (p_fieldAddr fld_33_2 rfl) ?_
    refine JH.q 8 rfl (q_load1 ty_2 rfl (Mem.box (i := 1) rfl rfl)) ?_
    refine JH.all (rs := [3, 6, 10]) (by kernel_rfl) rfl ⟨?_, ?_, ?_, trivial⟩
    ·
      refine JHo.e rfl (e_makeI (m := p.pits.length) el_24 rfl rfl rfl (by omega) (by omega)) (.inl rfl) ?_
      rintro _ _ _ ⟨b32, rfl, rfl, rfl⟩ _
      refine JH.all (rs := [6, 10]) (by kernel_rfl) rfl ⟨?_, ?_, trivial⟩
      ·
        refine JHo.e rfl (e_callO fn_106 rfl (Spl.ints _ _) (fun w hw => c_impl_copyNumbers p.stores _ w (Ty.mono _ h2_1 hw.vis) (by omega))) (.inl rfl) ?_
        rintro v33 _ _ ⟨_, hR34, rfl, rfl⟩ _
        obtain ⟨A35, c35, rfl, rfl, bl35, bh35⟩ := hR34
        refine JH.p 9 rfl (p_build zero_33 flds_33 rfl rfl) ?_
        refine JH.one (i := 10) (by kernel_rfl) ?_
        refine JHo.e rfl (e_alloc zero_33) (.inl rfl) ?_
        rintro _ _ _ ⟨b36, rfl, rfl, rfl⟩ _
        refine JH.one (i := 11) (by kernel_rfl) ?_
        refine JHo.s rfl (e_store (i := 0) (c' := [.slice (some ⟨b32, 0, none⟩) p.pits.length p.pits.length, .slice A35 p.stores.length c35, .int .i64 p.player]) ty_33 rfl rfl rfl rfl rfl rfl rfl rfl) (.inr rfl) ?_
        rintro _ _ _ ⟨rfl, rfl⟩ _
        refine JH.done (by kernel_rfl) ?_
        exact Js.meet ⟨_, _, _, _, rfl, rfl, Up.refl _ _, by omega, by omega⟩ ⟨rfl, rfl, rfl, rfl, rfl, trivial⟩
      ·
        refine JHo.e rfl (e_alloc zero_33) (.inl rfl) ?_
        rintro _ _ _ ⟨b37, rfl, rfl, rfl⟩ _
        refine JH.one (i := 6) (by kernel_rfl) ?_
        refine JHo.e rfl (e_callO fn_106 rfl (Spl.ints _ _) (fun w hw => c_impl_copyNumbers p.stores _ w (Ty.mono _ h2_1 hw.vis) (by omega))) (.inl rfl) ?_
        rintro v38 _ _ ⟨_, hR39, rfl, rfl⟩ _
        obtain ⟨A40, c40, rfl, rfl, bl40, bh40⟩ := hR39
        refine JH.p 9 rfl (p_build zero_33 flds_33 rfl rfl) ?_
        refine JH.one (i := 11) (by kernel_rfl) ?_
        refine JHo.s rfl (e_store (i := 1) (c' := [.slice (some ⟨b32, 0, none⟩) p.pits.length p.pits.length, .slice A40 p.stores.length c40, .int .i64 p.player]) ty_33 rfl rfl rfl rfl rfl rfl rfl rfl) (.inr rfl) ?_
        rintro _ _ _ ⟨rfl, rfl⟩ _
        refine JH.done (by kernel_rfl) ?_
        refine Js.front (i := 5) rfl ?_
        refine Js.front (i := 5) rfl ?_
        refine Js.front (i := 5) rfl ?_
        refine Js.front (i := 5) rfl ?_
        refine Js.front (i := 4) rfl ?_
        refine Js.front (i := 5) rfl ?_
        exact Js.meet ⟨_, _, _, _, rfl, rfl, Up.refl _ _, by omega, by omega⟩ ⟨rfl, rfl, rfl, rfl, rfl, trivial⟩
    ·
      refine JHo.e rfl (e_callO fn_106 rfl (Spl.ints _ _) (fun w hw => c_impl_copyNumbers p.stores _ w (Ty.mono _ h2_1 hw.vis) (by omega))) (.inl rfl) ?_
      rintro v41 _ _ ⟨_, hR42, rfl, rfl⟩ _
      obtain ⟨A43, c43, rfl, rfl, bl43, bh43⟩ := hR42
      refine JH.all (rs := [3, 10]) (by kernel_rfl) rfl ⟨?_, ?_, trivial⟩
      ·
        refine JHo.e rfl (e_makeI (m := p.pits.length) el_24 rfl rfl rfl (by omega) (by omega)) (.inl rfl) ?_
        rintro _ _ _ ⟨b44, rfl, rfl, rfl⟩ _
        refine JH.p 9 rfl (p_build zero_33 flds_33 rfl rfl) ?_
        refine JH.one (i := 10) (by kernel_rfl) ?_
        refine JHo.e rfl (e_alloc zero_33) (.inl rfl) ?_
        rintro _ _ _ ⟨b45, rfl, rfl, rfl⟩ _
        refine JH.one (i := 11) (by kernel_rfl) ?_
        refine JHo.s rfl (e_store (i := 0) (c' := [.slice (some ⟨b44, 0, none⟩) p.pits.length p.pits.length, .slice A43 p.stores.length c43, .int .i64 p.player]) ty_33 rfl rfl rfl rfl rfl rfl rfl rfl) (.inr rfl) ?_
        rintro _ _ _ ⟨rfl, rfl⟩ _
        refine JH.done (by kernel_rfl) ?_
        refine Js.front (i := 5) rfl ?_
        refine Js.front (i := 5) rfl ?_
        refine Js.front (i := 5) rfl ?_
        refine Js.front (i := 4) rfl ?_
        refine Js.front (i := 5) rfl ?_
        refine Js.front (i := 5) rfl ?_
        exact Js.meet ⟨_, _, _, _, rfl, rfl, Up.refl _ _, by omega, by omega⟩ ⟨rfl, rfl, rfl, rfl, rfl, trivial⟩
      ·
        refine JHo.e rfl (e_alloc zero_33) (.inl rfl) ?_
        rintro _ _ _ ⟨b46, rfl, rfl, rfl⟩ _
        refine JH.one (i := 3) (by kernel_rfl) ?_
        refine JHo.e rfl (e_makeI (m := p.pits.length) el_24 rfl rfl rfl (by omega) (by omega)) (.inl rfl) ?_
        rintro _ _ _ ⟨b47, rfl, rfl, rfl⟩ _
        refine JH.p 9 rfl (p_build zero_33 flds_33 rfl rfl) ?_
        refine JH.one (i := 11) (by kernel_rfl) ?_
        refine JHo.s rfl (e_store (i := 1) (c' := [.slice (some ⟨b47, 0, none⟩) p.pits.length p.pits.length, .slice A43 p.stores.length c43, .int .i64 p.player]) ty_33 rfl rfl rfl rfl rfl rfl rfl rfl) (.inr rfl) ?_
        rintro _ _ _ ⟨rfl, rfl⟩ _
        refine JH.done (by kernel_rfl) ?_
        refine Js.front (i := 5) rfl ?_
        refine Js.front (i := 5) rfl ?_
        refine Js.front (i := 5) rfl ?_
        refine Js.front (i := 3) rfl ?_
        refine Js.front (i := 5) rfl ?_
        refine Js.front (i := 5) rfl ?_
        exact Js.meet ⟨_, _, _, _, rfl, rfl, Up.refl _ _, by omega, by omega⟩ ⟨rfl, rfl, rfl, rfl, rfl, trivial⟩
    ·
      refine JHo.e rfl (e_alloc zero_33) (.inl rfl) ?_
      rintro _ _ _ ⟨b48, rfl, rfl, rfl⟩ _
      refine JH.all (rs := [3, 6]) (by kernel_rfl) rfl ⟨?_, ?_, trivial⟩
      ·
        refine JHo.e rfl (e_makeI (m := p.pits.length) el_24 rfl rfl rfl (by omega) (by omega)) (.inl rfl) ?_
        rintro _ _ _ ⟨b49, rfl, rfl, rfl⟩ _
        refine JH.one (i := 6) (by kernel_rfl) ?_
        refine JHo.e rfl (e_callO fn_106 rfl (Spl.ints _ _) (fun w hw => c_impl_copyNumbers p.stores _ w (Ty.mono _ h2_1 hw.vis) (by omega))) (.inl rfl) ?_
        rintro v50 _ _ ⟨_, hR51, rfl, rfl⟩ _
        obtain ⟨A52, c52, rfl, rfl, bl52, bh52⟩ := hR51
        refine JH.p 9 rfl (p_build zero_33 flds_33 rfl rfl) ?_
        refine JH.one (i := 11) (by kernel_rfl) ?_
        refine JHo.s rfl (e_store (i := 2) (c' := [.slice (some ⟨b49, 0, none⟩) p.pits.length p.pits.length, .slice A52 p.stores.length c52, .int .i64 p.player]) ty_33 rfl rfl rfl rfl rfl rfl rfl rfl) (.inr rfl) ?_
        rintro _ _ _ ⟨rfl, rfl⟩ _
        refine JH.done (by kernel_rfl) ?_
        refine Js.front (i := 5) rfl ?_
        refine Js.front (i := 5) rfl ?_
        refine Js.front (i := 5) rfl ?_
        refine Js.front (i := 4) rfl ?_
        refine Js.front (i := 4) rfl ?_
        refine Js.front (i := 5) rfl ?_
        exact Js.meet ⟨_, _, _, _, rfl, rfl, Up.refl _ _, by omega, by omega⟩ ⟨rfl, rfl, rfl, rfl, rfl, trivial⟩
      ·
        refine JHo.e rfl (e_callO fn_106 rfl (Spl.ints _ _) (fun w hw => c_impl_copyNumbers p.stores _ w (Ty.mono _ h2_1 hw.vis) (by omega))) (.inl rfl) ?_
        rintro v53 _ _ ⟨_, hR54, rfl, rfl⟩ _
        obtain ⟨A55, c55, rfl, rfl, bl55, bh55⟩ := hR54
        refine JH.one (i := 3) (by kernel_rfl) ?_
        refine JHo.e rfl (e_makeI (m := p.pits.length) el_24 rfl rfl rfl (by omega) (by omega)) (.inl rfl) ?_
        rintro _ _ _ ⟨b56, rfl, rfl, rfl⟩ _
        refine JH.p 9 rfl (p_build zero_33 flds_33 rfl rfl) ?_
        refine JH.one (i := 11) (by kernel_rfl) ?_
        refine JHo.s rfl (e_store (i := 2) (c' := [.slice (some ⟨b56, 0, none⟩) p.pits.length p.pits.length, .slice A55 p.stores.length c55, .int .i64 p.player]) ty_33 rfl rfl rfl rfl rfl rfl rfl rfl) (.inr rfl) ?_
        rintro _ _ _ ⟨rfl, rfl⟩ _
        refine JH.done (by kernel_rfl) ?_
        refine Js.front (i := 5) rfl ?_
        refine Js.front (i := 5) rfl ?_
        refine Js.front (i := 5) rfl ?_
        refine Js.front (i := 3) rfl ?_
        refine Js.front (i := 4) rfl ?_
        refine Js.front (i := 5) rfl ?_
        exact Js.meet ⟨_, _, _, _, rfl, rfl, Up.refl _ _, by omega, by omega⟩ ⟨rfl, rfl, rfl, rfl, rfl, trivial⟩
  · rintro _ _ u31 ⟨b10, b6, A9, c9, rfl, rfl, x31, f31_0, f31_1⟩
    refine Js.seq ?_
    refine Js.drawn _ [16] mixed_ (fun _ h => h) ?_
    refine JH.p 0 rfl (p_fieldAddr fld_33_1 rfl) ?_
    refine JH.q 1 rfl (q_load1 ty_24 rfl (Mem.box (i := 0) rfl rfl)) ?_
    refine JH.p 2 rfl (p_move rfl) ?_
    refine JH.fact (row_some (i := 1) rfl (by omega)) (fun hf58 => ?_)
    obtain ⟨b58, rfl⟩ := hf58
    refine JH.p 3 rfl (p_indexAddr el_24 rfl rfl (by omega) (by omega) rfl) ?_
    refine JH.q 4 rfl (q_load1 ty_2 rfl (Mem.row (i := 1) rfl (ints_getI (i := player) (by omega)))) ?_
    refine JH.q 5 rfl (q_loadN ty_32 rfl (Mem.boxR (i := 5) rfl 0 9) rfl rfl) ?_
    refine JH.p 6 rfl (p_fieldAddr fld_33_0 rfl) ?_
    refine JH.q 7 rfl (q_load1 ty_24 rfl (Mem.box (i := 4) rfl rfl)) ?_
    refine JH.q 9 rfl (q_loadN ty_32 rfl (Mem.boxR (i := 5) rfl 0 9) rfl rfl) ?_
    refine JH.p 10 rfl (p_fieldAddr fld_33_0 rfl) ?_
    refine JH.q 11 rfl (q_load1 ty_24 rfl (Mem.box (i := 4) rfl rfl)) ?_
    refine JH.one (i := 8) (by kernel_rfl) ?_
    refine JHo.e rfl (e_callV fn_135 rfl (fun w hw => c_impl_Rules_side r _ p.pits _ 0 w ⟨_, rfl, ⟨rfl, rfl, rfl, rfl, rfl, rfl, rfl, rfl, rfl, trivial⟩⟩ (Ty.mono _ h2_0 (x31.vis.trans hw.vis)) (by omega) (by omega) (by omega) (by omega) g5)) (.inl rfl) ?_
    rintro _ _ _ ⟨rfl, rfl, rfl⟩ _
    refine JH.one (i := 12) (by kernel_rfl) ?_
    refine JHo.e rfl (e_callV fn_135 rfl (fun w hw => c_impl_Rules_side r _ p.pits _ 1 w ⟨_, rfl, ⟨rfl, rfl, rfl, rfl, rfl, rfl, rfl, rfl, rfl, trivial⟩⟩ (Ty.mono _ h2_0 (x31.vis.trans hw.vis)) (by omega) (by omega) (by omega) (by omega) g5)) (.inl rfl) ?_
    rintro _ _ _ ⟨rfl, rfl, rfl⟩ _
    refine JH.p 13 rfl (p_add rfl rfl (IntWalk.i64_in _ (by omega))) ?_
    refine JH.p 14 rfl (p_add rfl rfl (IntWalk.i64_in _ (by omega))) ?_
    refine JH.p 15 rfl (p_indexAddr el_24 rfl rfl (by omega) (by omega) rfl) ?_
    refine JH.one (i := 16) (by kernel_rfl) ?_
    refine JHo.s rfl (e_storeRow (i := 1) (xs' := ints_ (M.setI p.stores player ((M.getI p.stores player) + ((M.side r p.pits 0) + (M.side r p.pits 1))))) ty_2 rfl rfl rfl rfl rfl rfl (ints_lt (i := player.toNat) (by omega)) (ints_setL (i := player.toNat) (by omega))) (.inr rfl) ?_
    rintro _ _ _ ⟨rfl, rfl⟩ _
    refine JH.done (by kernel_rfl) ?_
    refine Js.seq ?_
    refine Js.region ?_
    refine JL.q (q_loadN ty_33 rfl (Mem.boxR (i := 0) rfl 0 3) rfl rfl) ?_
    refine JL.s (e_store (i := 3) (c' := [.slice (some ⟨b6, 0, none⟩) p.pits.length p.pits.length, .slice (some ⟨b58, 0, none⟩) p.stores.length c9, .int .i64 p.player]) ty_33 rfl rfl rfl rfl rfl rfl rfl rfl) ?_
    rintro _ _ _ ⟨rfl, rfl⟩ _
    refine JL.nil ?_
    refine Js.ret (R := RO w (Ty.agg (cPosition (M.give p player)))) @Try.results113 (fun _ _ => rfl) (ResOk.cell (res_box (i := 3) ty_33 rfl rfl rfl rfl rfl) ResOk.nil) (fun w1 hw => ?_)
    have hx := hw.ext (x31)
    exact ret_own (ps := [(2, (Value.ownBlock (.slice (some ⟨b6, 0, none⟩) p.pits.length p.pits.length)).toList), (1, (Value.ownBlock (.slice (some ⟨b58, 0, none⟩) p.stores.length c9)).toList)]) hw hx ⟨_, rfl, ⟨_, _, rfl, (ints_row (xs := (List.replicate p.pits.length 0)) (hw.pr (i := 2) rfl) (show List.replicate p.pits.length 0 = (M.give p player).pits by first | rfl | (rw [hsa]; rfl))), ⟨_, _, rfl, (ints_row (xs := (M.setI p.stores player ((M.getI p.stores player) + ((M.side r p.pits 0) + (M.side r p.pits 1))))) (hw.pr (i := 1) rfl) (show M.setI p.stores player ((M.getI p.stores player) + ((M.side r p.pits 0) + (M.side r p.pits 1))) = (M.give p player).stores by first | rfl | (rw [hsa]; rfl))), ⟨_, _, rfl, ⟨by first | rfl | (rw [hsa]; rfl), rfl⟩, rfl⟩⟩⟩⟩ (Pick.cons (j := 2) rfl (List.sublist_append_left _ _) rfl (Pick.cons (j := 1) rfl (List.sublist_append_left _ _) rfl Pick.nil)) (by simp [List.flatten, outV])

set_option maxRecDepth 100000 in
set_option maxHeartbeats 400000 in
theorem c_impl_Game_endOf (g : M.Gam) (v_g : Value) (w : World) (h_g : (Ty.agg (cGame g)).ok w v_g) (r0 : g.start.pits.length ≤ 4194304) (r1 : g.start.stores.length ≤ 4194304) (r2 : g.moves.length ≤ 4194304) (r3 : g.now.pits.length ≤ 4194304) (r4 : g.now.stores.length ≤ 4194304) (r5 : M.okG g = true) : RetV Try.prog 84 [v_g] w (.int .i64 (M.endOf g)) := by
  have hok := r5
  obtain ⟨k1, k2, k3, k4, k5, k6, k7, k8, k9⟩ := M.okG_parts hok
  have hnow := M.okG_now hok
  have k10 := M.okP_len hnow
  have k11 := M.okP_len k1
  (have k12 : (M.playedP g).length = g.moves.length + 1 := by rw [k6, M.hist_length, k8])
  have k13 : (M.playedR g).length = g.moves.length := by rw [k7, k8]
  have hC := M.okC_yes hok
  obtain ⟨g1, g2, g3, g4, g5, g6, g7⟩ := M.okP_bd hnow
  obtain ⟨A1_9, c1_9, A1_10, c1_10, A1_12, c1_12, A1_13, c1_13, A1_14, c1_14, rfl, h1_9, h1_10, h1_12, h1_13, h1_14, bl1_9, bh1_9, bl1_10, bh1_10, bl1_12, bh1_12, bl1_13, bh1_13, bl1_14, bh1_14⟩ := open_Game h_g
  refine enter @Try.func84 @Try.ntmps84 rfl rfl ?_
  refine Js.seq ?_
  refine Js.region ?_
  refine JL.e (e_box (c := [.int .i64 g.rules.pits, .int .i64 g.rules.seeds, .bool g.rules.stores, .bool g.rules.skip, .bool g.rules.relay, .bool g.rules.feed, .bool g.rules.again, .int .i64 g.rules.capture, .int .i64 g.rules.slam, .slice A1_9 g.start.pits.length c1_9, .slice A1_10 g.start.stores.length c1_10, .int .i64 g.start.player, .slice A1_12 g.moves.length c1_12, .slice A1_13 g.now.pits.length c1_13, .slice A1_14 g.now.stores.length c1_14, .int .i64 g.now.player, .int .i64 g.resigned]) rfl rfl) ?_
  rintro _ _ _ ⟨b2, rfl, rfl, rfl⟩ _
  refine JL.q (OpP.q (p_assign rfl)) ?_
  refine JL.nil ?_
  refine Js.seq ?_
  refine Js.region ?_
  refine JL.q (q_loadN ty_35 rfl (Mem.boxR (i := 0) rfl 0 17) rfl rfl) ?_
  refine JL.e (e_callP fn_72 rfl (fun w hw => c_impl_Game_played g _ w ⟨_, rfl, ⟨rfl, rfl, rfl, rfl, rfl, rfl, rfl, rfl, rfl, (Ty.mono _ h1_9 hw.vis), (Ty.mono _ h1_10 hw.vis), rfl, (Ty.mono _ h1_12 hw.vis), (Ty.mono _ h1_13 hw.vis), (Ty.mono _ h1_14 hw.vis), rfl, rfl, trivial⟩⟩ (by omega) (by omega) (by omega) (by omega) (by omega))) ?_
  rintro v3 _ u5 ⟨h4, rfl⟩ x5
  obtain ⟨vs6, rfl, hv6⟩ := h4
  obtain ⟨v6_0, vs6, rfl, hw6_0, hv6⟩ := cellsOk_cons hv6
  obtain ⟨v6_1, vs6, rfl, hw6_1, hv6⟩ := cellsOk_cons hv6
  obtain ⟨v6_2, vs6, rfl, hw6_2, hv6⟩ := cellsOk_cons hv6
  obtain rfl := cellsOk_nil hv6
  obtain ⟨A7, c7, rfl, bl7, bh7⟩ := sl_form hw6_0
  obtain ⟨A8, c8, rfl, bl8, bh8⟩ := sl_form hw6_1
  obtain rfl : v6_2 = .bool (M.playedOk g) := hw6_2
  refine JL.q (OpP.q (p_move rfl)) ?_
  refine JL.q (OpP.q (p_extract rfl rfl)) ?_
  refine JL.q (OpP.q (p_extract rfl rfl)) ?_
  refine JL.q (OpP.q (p_extract rfl rfl)) ?_
  refine JL.q (OpP.q (p_assign rfl)) ?_
  refine JL.q (OpP.q (p_assign rfl)) ?_
  refine JL.q (OpP.q (p_assign rfl)) ?_
  refine JL.nil ?_
  refine Js.seq ?_
  refine Js.block ?_
  refine Js.seq ?_
  refine Js.region ?_
  refine JL.q (OpP.q (p_fieldAddr fld_35_4 rfl)) ?_
  refine JL.q (q_load1 ty_2 rfl (Mem.box (i := 0) rfl rfl)) ?_
  refine JL.q (OpP.q (p_geq rfl rfl)) ?_
  refine JL.q (OpP.q (p_assign rfl)) ?_
  refine JL.nil ?_
  refine Js.cond rfl (fun h9 => ?_) (fun h9 => ?_)
  ·
    have h9' := h9
    try simp only [decide_eq_true_eq] at h9'
    have hE := M.endOf_1 (g := g) (by simpa using h9)
    refine Js.seq ?_
    refine Js.region ?_
    refine JL.q (OpP.q (p_assign rfl)) ?_
    refine JL.nil ?_
    refine Js.ret (R := RV w (.int .i64 (M.endOf g))) @Try.results84 (fun _ _ => rfl) (ResOk.tmp rfl ResOk.nil) (fun w1 hw => ?_)
    refine ⟨?_, hw.ext (x5)⟩
    rw [hE]; rfl
  ·
    have h9' := h9
    try simp only [decide_eq_false_iff_not, Int.not_le] at h9'
    have q1 : ¬ 0 ≤ g.resigned := by simpa using h9
    refine Js.seq ?_
    refine Js.region ?_
    refine JL.q (OpP.q (p_fieldAddr fld_35_3 rfl)) ?_
    refine JL.q (q_loadN ty_33 rfl (Mem.boxR (i := 0) rfl 13 3) rfl rfl) ?_
    refine JL.e (e_callV fn_109 rfl (fun w hw => c_impl_majority g.now _ w ⟨_, rfl, ⟨(Ty.mono _ h1_13 (x5.vis.trans hw.vis)), (Ty.mono _ h1_14 (x5.vis.trans hw.vis)), rfl, trivial⟩⟩ (by omega) (by omega) (M.all_V hnow) (fun k => M.allOk_getI g6 k))) ?_
    rintro _ _ _ ⟨rfl, rfl, rfl⟩ _
    refine JL.q (OpP.q (p_geq rfl rfl)) ?_
    refine JL.q (OpP.q (p_assign rfl)) ?_
    refine JL.nil ?_
    refine Js.cond rfl (fun h10 => ?_) (fun h10 => ?_)
    ·
      have h10' := h10
      try simp only [decide_eq_true_eq] at h10'
      have hE := M.endOf_2 q1 (by simpa using h10)
      refine Js.seq ?_
      refine Js.region ?_
      refine JL.q (OpP.q (p_assign rfl)) ?_
      refine JL.nil ?_
      refine Js.ret (R := RV w (.int .i64 (M.endOf g))) @Try.results84 (fun _ _ => rfl) (ResOk.tmp rfl ResOk.nil) (fun w1 hw => ?_)
      refine ⟨?_, hw.ext (x5)⟩
      rw [hE]; rfl
    ·
      have h10' := h10
      try simp only [decide_eq_false_iff_not, Int.not_le] at h10'
      have q2 : ¬ 0 ≤ M.majority g.now := by simpa using h10
      refine Js.seq ?_
      refine Js.region ?_
      refine JL.q (OpP.q (p_fieldAddr fld_35_0 rfl)) ?_
      refine JL.q (q_loadN ty_32 rfl (Mem.boxR (i := 0) rfl 0 9) rfl rfl) ?_
      refine JL.q (OpP.q (p_fieldAddr fld_35_3 rfl)) ?_
      refine JL.q (q_loadN ty_33 rfl (Mem.boxR (i := 0) rfl 13 3) rfl rfl) ?_
      refine JL.e (e_callP fn_110 rfl (fun w hw => c_impl_Rules_results g.rules _ g.now _ w ⟨_, rfl, ⟨rfl, rfl, rfl, rfl, rfl, rfl, rfl, rfl, rfl, trivial⟩⟩ ⟨_, rfl, ⟨(Ty.mono _ h1_13 (x5.vis.trans hw.vis)), (Ty.mono _ h1_14 (x5.vis.trans hw.vis)), rfl, trivial⟩⟩ hnow)) ?_
      rintro v11 _ u13 ⟨h12, rfl⟩ x13
      obtain ⟨A14, c14, rfl, bl14, bh14⟩ := sl_form h12
      refine JL.q (OpP.q (p_len el_74 rfl)) ?_
      refine JL.q (OpP.q (p_eql rfl rfl)) ?_
      refine JL.q (OpP.q (p_assign rfl)) ?_
      refine JL.nil ?_
      refine Js.cond rfl (fun h15 => ?_) (fun h15 => ?_)
      ·
        have h15' := h15
        try simp only [decide_eq_true_eq] at h15'
        have hE := M.endOf_3 q1 q2 (by have := h15'; omega)
        refine Js.seq ?_
        refine Js.region ?_
        refine JL.q (OpP.q (p_assign rfl)) ?_
        refine JL.nil ?_
        refine Js.ret (R := RV w (.int .i64 (M.endOf g))) @Try.results84 (fun _ _ => rfl) (ResOk.tmp rfl ResOk.nil) (fun w1 hw => ?_)
        refine ⟨?_, hw.ext ((x5.trans x13))⟩
        rw [hE]; rfl
      ·
        have h15' := h15
        try simp only [decide_eq_false_iff_not] at h15'
        have q3 : (M.results g.rules g.now).length ≠ 0 := by have := h15'; omega
        refine Js.seq ?_
        refine Js.region ?_
        refine JL.q (OpP.q (p_move rfl)) ?_
        refine JL.q (OpP.q (p_fieldAddr fld_35_3 rfl)) ?_
        refine JL.q (q_loadN ty_33 rfl (Mem.boxR (i := 0) rfl 13 3) rfl rfl) ?_
        refine JL.e (e_callV fn_73 rfl (fun w hw => c_impl_repeats (M.playedP g) _ g.now _ w (Ty.mono _ hw6_0 (x13.vis.trans hw.vis)) ⟨_, rfl, ⟨(Ty.mono _ h1_13 ((x5.vis.trans x13.vis).trans hw.vis)), (Ty.mono _ h1_14 ((x5.vis.trans x13.vis).trans hw.vis)), rfl, trivial⟩⟩ (by omega) (fun _ _ hq => M.okP_len (M.hist_okG hok hq)) (by omega) (by omega))) ?_
        rintro _ _ _ ⟨rfl, rfl, rfl⟩ _
        refine JL.q (OpP.q (p_geq rfl rfl)) ?_
        refine JL.q (OpP.q (p_assign rfl)) ?_
        refine JL.nil ?_
        refine Js.cond rfl (fun h16 => ?_) (fun h16 => ?_)
        ·
          have h16' := h16
          try simp only [decide_eq_true_eq] at h16'
          have hE := M.endOf_4 q1 q2 q3 (by simpa using h16)
          refine Js.seq ?_
          refine Js.region ?_
          refine JL.q (OpP.q (p_assign rfl)) ?_
          refine JL.nil ?_
          refine Js.ret (R := RV w (.int .i64 (M.endOf g))) @Try.results84 (fun _ _ => rfl) (ResOk.tmp rfl ResOk.nil) (fun w1 hw => ?_)
          refine ⟨?_, hw.ext ((x5.trans x13))⟩
          rw [hE]; rfl
        ·
          have h16' := h16
          try simp only [decide_eq_false_iff_not, Int.not_le] at h16'
          have q4 : ¬ 3 ≤ M.count g.now (M.playedP g) := by simpa using h16
          refine Js.seq ?_
          refine Js.region ?_
          refine JL.q (OpP.q (p_fieldAddr fld_35_2 rfl)) ?_
          refine JL.q (q_load1 ty_24 rfl (Mem.box (i := 0) rfl rfl)) ?_
          refine JL.q (OpP.q (p_len el_24 rfl)) ?_
          refine JL.q (OpP.q (p_eql rfl rfl)) ?_
          refine JL.q (OpP.q (p_assign rfl)) ?_
          refine JL.nil ?_
          refine Js.cond rfl (fun h17 => ?_) (fun h17 => ?_)
          ·
            have h17' := h17
            try simp only [decide_eq_true_eq] at h17'
            have hE := M.endOf_5 q1 q2 q3 q4 (by have := h17'; omega)
            refine Js.seq ?_
            refine Js.region ?_
            refine JL.q (OpP.q (p_assign rfl)) ?_
            refine JL.nil ?_
            refine Js.ret (R := RV w (.int .i64 (M.endOf g))) @Try.results84 (fun _ _ => rfl) (ResOk.tmp rfl ResOk.nil) (fun w1 hw => ?_)
            refine ⟨?_, hw.ext ((x5.trans x13))⟩
            rw [hE]; rfl
          ·
            have h17' := h17
            try simp only [decide_eq_false_iff_not] at h17'
            have hE := M.endOf_0 q1 q2 q3 q4 (by have := h17'; omega)
            refine Js.skip ?_
            refine Js.blockEnd ?_
            refine Js.seq ?_
            refine Js.region ?_
            refine JL.q (OpP.q (p_assign rfl)) ?_
            refine JL.nil ?_
            refine Js.ret (R := RV w (.int .i64 (M.endOf g))) @Try.results84 (fun _ _ => rfl) (ResOk.tmp rfl ResOk.nil) (fun w1 hw => ?_)
            refine ⟨?_, hw.ext ((x5.trans x13))⟩
            rw [hE]; rfl

set_option maxRecDepth 100000 in
set_option maxHeartbeats 400000 in
theorem c_impl_EndOf (g : M.Gam) (v_g : Value) (w : World) (h_g : (Ty.agg (cGame g)).ok w v_g) (r0 : g.start.pits.length ≤ 4194304) (r1 : g.start.stores.length ≤ 4194304) (r2 : g.moves.length ≤ 4194304) (r3 : g.now.pits.length ≤ 4194304) (r4 : g.now.stores.length ≤ 4194304) : RetV Try.prog 41 [v_g] w (.tuple #[.int .i64 (M.endOfR g), .int .i64 (M.okC g)]) := by
  obtain ⟨A1_9, c1_9, A1_10, c1_10, A1_12, c1_12, A1_13, c1_13, A1_14, c1_14, rfl, h1_9, h1_10, h1_12, h1_13, h1_14, bl1_9, bh1_9, bl1_10, bh1_10, bl1_12, bh1_12, bl1_13, bh1_13, bl1_14, bh1_14⟩ := open_Game h_g
  refine enter @Try.func41 @Try.ntmps41 rfl rfl ?_
  refine Js.seq ?_
  refine Js.region ?_
  refine JL.e (e_box (c := [.int .i64 g.rules.pits, .int .i64 g.rules.seeds, .bool g.rules.stores, .bool g.rules.skip, .bool g.rules.relay, .bool g.rules.feed, .bool g.rules.again, .int .i64 g.rules.capture, .int .i64 g.rules.slam, .slice A1_9 g.start.pits.length c1_9, .slice A1_10 g.start.stores.length c1_10, .int .i64 g.start.player, .slice A1_12 g.moves.length c1_12, .slice A1_13 g.now.pits.length c1_13, .slice A1_14 g.now.stores.length c1_14, .int .i64 g.now.player, .int .i64 g.resigned]) rfl rfl) ?_
  rintro _ _ _ ⟨b2, rfl, rfl, rfl⟩ _
  refine JL.q (OpP.q (p_assign rfl)) ?_
  refine JL.q (OpP.q (p_assign rfl)) ?_
  refine JL.nil ?_
  refine Js.seq ?_
  refine Js.seq ?_
  refine Js.region ?_
  refine JL.q (q_loadN ty_35 rfl (Mem.boxR (i := 0) rfl 0 17) rfl rfl) ?_
  refine JL.e (e_callV fn_62 rfl (fun w hw => c_impl_ValidGame g _ w ⟨_, rfl, ⟨rfl, rfl, rfl, rfl, rfl, rfl, rfl, rfl, rfl, (Ty.mono _ h1_9 hw.vis), (Ty.mono _ h1_10 hw.vis), rfl, (Ty.mono _ h1_12 hw.vis), (Ty.mono _ h1_13 hw.vis), (Ty.mono _ h1_14 hw.vis), rfl, rfl, trivial⟩⟩ (by omega) (by omega) (by omega) (by omega) (by omega))) ?_
  rintro _ _ _ ⟨rfl, rfl, rfl⟩ _
  refine JL.q (OpP.q (p_not rfl)) ?_
  refine JL.nil ?_
  refine Js.cond rfl (fun h3 => ?_) (fun h3 => ?_)
  ·
    have h3' := h3
    try simp only [Bool.not_eq_true'] at h3'
    have hno : M.okG g = false := by simpa using h3
    have hC := M.okC_no hno
    have hE := M.endOfR_no hno
    refine Js.seq ?_
    refine Js.region ?_
    refine JL.q (OpP.q (p_assign rfl)) ?_
    refine JL.q (OpP.q (p_assign rfl)) ?_
    refine JL.nil ?_
    refine Js.ret (R := RV w (.tuple #[.int .i64 (M.endOfR g), .int .i64 (M.okC g)])) @Try.results41 (fun _ _ => rfl) (ResOk.tmp rfl (ResOk.tmp rfl ResOk.nil)) (fun w1 hw => ?_)
    refine ⟨?_, hw.ext (Up.refl _ _)⟩
    rw [hC, hE]; rfl
  ·
    have h3' := h3
    try simp only [Bool.not_eq_false'] at h3'
    have hok : M.okG g = true := by simpa using h3
    obtain ⟨k1, k2, k3, k4, k5, k6, k7, k8, k9⟩ := M.okG_parts hok
    have hnow := M.okG_now hok
    have k10 := M.okP_len hnow
    have k11 := M.okP_len k1
    (have k12 : (M.playedP g).length = g.moves.length + 1 := by rw [k6, M.hist_length, k8])
    have k13 : (M.playedR g).length = g.moves.length := by rw [k7, k8]
    have hC := M.okC_yes hok
    obtain ⟨g1, g2, g3, g4, g5, g6, g7⟩ := M.okP_bd hnow
    have hE := M.endOfR_yes hok
    refine Js.skip ?_
    refine Js.seq ?_
    refine Js.region ?_
    refine JL.q (q_loadN ty_35 rfl (Mem.boxR (i := 0) rfl 0 17) rfl rfl) ?_
    refine JL.e (e_callV fn_84 rfl (fun w hw => c_impl_Game_endOf g _ w ⟨_, rfl, ⟨rfl, rfl, rfl, rfl, rfl, rfl, rfl, rfl, rfl, (Ty.mono _ h1_9 hw.vis), (Ty.mono _ h1_10 hw.vis), rfl, (Ty.mono _ h1_12 hw.vis), (Ty.mono _ h1_13 hw.vis), (Ty.mono _ h1_14 hw.vis), rfl, rfl, trivial⟩⟩ (by omega) (by omega) (by omega) (by omega) (by omega) hok)) ?_
    rintro _ _ _ ⟨rfl, rfl, rfl⟩ _
    refine JL.q (OpP.q (p_assign rfl)) ?_
    refine JL.q (OpP.q (p_assign rfl)) ?_
    refine JL.nil ?_
    refine Js.ret (R := RV w (.tuple #[.int .i64 (M.endOfR g), .int .i64 (M.okC g)])) @Try.results41 (fun _ _ => rfl) (ResOk.tmp rfl (ResOk.tmp rfl ResOk.nil)) (fun w1 hw => ?_)
    refine ⟨?_, hw.ext (Up.refl _ _)⟩
    rw [hC, hE]; rfl

set_option maxRecDepth 100000 in
set_option maxHeartbeats 400000 in
theorem c_impl_Game_final (g : M.Gam) (v_g : Value) (w : World) (h_g : (Ty.agg (cGame g)).ok w v_g) (r0 : M.okP g.rules g.now = true) (r1 : -1 ≤ g.resigned) (r2 : g.resigned ≤ 1) : Ret Try.prog 90 [v_g] w (Ty.agg (cPosition (M.final g))) := by
  obtain ⟨g1, g2, g3, g4, g5, g6, g7⟩ := M.okP_bd r0
  obtain ⟨A1_9, c1_9, A1_10, c1_10, A1_12, c1_12, A1_13, c1_13, A1_14, c1_14, rfl, h1_9, h1_10, h1_12, h1_13, h1_14, bl1_9, bh1_9, bl1_10, bh1_10, bl1_12, bh1_12, bl1_13, bh1_13, bl1_14, bh1_14⟩ := open_Game h_g
  refine enter @Try.func90 @Try.ntmps90 rfl rfl ?_
  refine Js.seq ?_
  refine Js.region ?_
  refine JL.e (e_box (c := [.int .i64 g.rules.pits, .int .i64 g.rules.seeds, .bool g.rules.stores, .bool g.rules.skip, .bool g.rules.relay, .bool g.rules.feed, .bool g.rules.again, .int .i64 g.rules.capture, .int .i64 g.rules.slam, .slice A1_9 g.start.pits.length c1_9, .slice A1_10 g.start.stores.length c1_10, .int .i64 g.start.player, .slice A1_12 g.moves.length c1_12, .slice A1_13 g.now.pits.length c1_13, .slice A1_14 g.now.stores.length c1_14, .int .i64 g.now.player, .int .i64 g.resigned]) rfl rfl) ?_
  rintro _ _ _ ⟨b2, rfl, rfl, rfl⟩ _
  refine JL.e (e_alloc zero_33) ?_
  rintro _ _ _ ⟨b3, rfl, rfl, rfl⟩ _
  refine JL.nil ?_
  refine Js.seq ?_
  refine Js.seq ?_
  refine Js.region ?_
  refine JL.q (OpP.q (p_fieldAddr fld_35_4 rfl)) ?_
  refine JL.q (q_load1 ty_2 rfl (Mem.box (i := 1) rfl rfl)) ?_
  refine JL.q (OpP.q (p_geq rfl rfl)) ?_
  refine JL.nil ?_
  refine Js.cond rfl (fun h4 => ?_) (fun h4 => ?_)
  ·
    have h4' := h4
    try simp only [decide_eq_true_eq] at h4'
    have hF := M.final_yes (g := g) (by simpa using h4)
    refine Js.seq ?_
    refine Js.region ?_
    refine JL.q (OpP.q (p_fieldAddr fld_35_0 rfl)) ?_
    refine JL.q (q_loadN ty_32 rfl (Mem.boxR (i := 1) rfl 0 9) rfl rfl) ?_
    refine JL.q (OpP.q (p_fieldAddr fld_35_3 rfl)) ?_
    refine JL.q (q_loadN ty_33 rfl (Mem.boxR (i := 1) rfl 13 3) rfl rfl) ?_
    refine JL.q (OpP.q (p_fieldAddr fld_35_4 rfl)) ?_
    refine JL.q (q_load1 ty_2 rfl (Mem.box (i := 1) rfl rfl)) ?_
    refine JL.q (OpP.q (p_sub rfl rfl (IntWalk.i64_in _ (by omega)))) ?_
    refine JL.e (e_callO fn_113 rfl (Spl_Position _) (fun w hw => c_impl_Rules_given g.rules _ g.now _ (1 - g.resigned) w ⟨_, rfl, ⟨rfl, rfl, rfl, rfl, rfl, rfl, rfl, rfl, rfl, trivial⟩⟩ ⟨_, rfl, ⟨(Ty.mono _ h1_13 hw.vis), (Ty.mono _ h1_14 hw.vis), rfl, trivial⟩⟩ r0 (by omega))) ?_
    rintro v5 _ _ ⟨_, hR6, rfl, rfl⟩ _
    obtain ⟨A7_0, c7_0, A7_1, c7_1, f7, rfl, rfl, bl7_0, bh7_0, bl7_1, bh7_1⟩ := hR6
    refine JL.s (e_store (i := 1) (c' := [.slice A7_0 (((M.give g.now (1 - g.resigned)).pits).length) c7_0, .slice A7_1 (((M.give g.now (1 - g.resigned)).stores).length) c7_1, .int .i64 ((M.give g.now (1 - g.resigned)).player)]) ty_33 rfl rfl rfl rfl rfl rfl rfl rfl) ?_
    rintro _ _ _ ⟨rfl, rfl⟩ _
    refine JL.nil ?_
    refine Js.ret (R := RO w (Ty.agg (cPosition (M.final g)))) @Try.results90 (fun _ _ => rfl) (ResOk.cell (res_box (i := 1) ty_33 rfl rfl rfl rfl rfl) ResOk.nil) (fun w1 hw => ?_)
    have hx := hw.ext (Up.refl _ _)
    exact ret_own (ps := [(0, f7)]) hw hx (own_cast cPosition (show M.give g.now (1 - g.resigned) = M.final g by rw [hF]) ⟨_, rfl, hw.pr (i := 0) rfl⟩) (Pick.cons (j := 0) rfl (List.Sublist.refl _) rfl Pick.nil) (by simp [List.flatten, outV])
  ·
    have h4' := h4
    try simp only [decide_eq_false_iff_not, Int.not_le] at h4'
    have hF := M.final_no (g := g) (by simpa using h4)
    refine Js.skip ?_
    refine Js.seq ?_
    refine Js.region ?_
    refine JL.q (OpP.q (p_fieldAddr fld_35_0 rfl)) ?_
    refine JL.q (q_loadN ty_32 rfl (Mem.boxR (i := 1) rfl 0 9) rfl rfl) ?_
    refine JL.q (OpP.q (p_fieldAddr fld_35_3 rfl)) ?_
    refine JL.q (q_loadN ty_33 rfl (Mem.boxR (i := 1) rfl 13 3) rfl rfl) ?_
    refine JL.e (e_callO fn_114 rfl (Spl_Position _) (fun w hw => c_impl_Rules_settled g.rules _ g.now _ w ⟨_, rfl, ⟨rfl, rfl, rfl, rfl, rfl, rfl, rfl, rfl, rfl, trivial⟩⟩ ⟨_, rfl, ⟨(Ty.mono _ h1_13 hw.vis), (Ty.mono _ h1_14 hw.vis), rfl, trivial⟩⟩ r0)) ?_
    rintro v8 _ _ ⟨_, hR9, rfl, rfl⟩ _
    obtain ⟨A10_0, c10_0, A10_1, c10_1, f10, rfl, rfl, bl10_0, bh10_0, bl10_1, bh10_1⟩ := hR9
    refine JL.s (e_store (i := 1) (c' := [.slice A10_0 (((M.settle g.rules g.now).pits).length) c10_0, .slice A10_1 (((M.settle g.rules g.now).stores).length) c10_1, .int .i64 ((M.settle g.rules g.now).player)]) ty_33 rfl rfl rfl rfl rfl rfl rfl rfl) ?_
    rintro _ _ _ ⟨rfl, rfl⟩ _
    refine JL.nil ?_
    refine Js.ret (R := RO w (Ty.agg (cPosition (M.final g)))) @Try.results90 (fun _ _ => rfl) (ResOk.cell (res_box (i := 1) ty_33 rfl rfl rfl rfl rfl) ResOk.nil) (fun w1 hw => ?_)
    have hx := hw.ext (Up.refl _ _)
    exact ret_own (ps := [(0, f10)]) hw hx (own_cast cPosition (show M.settle g.rules g.now = M.final g by rw [hF]) ⟨_, rfl, hw.pr (i := 0) rfl⟩) (Pick.cons (j := 0) rfl (List.Sublist.refl _) rfl Pick.nil) (by simp [List.flatten, outV])

set_option maxRecDepth 100000 in
set_option maxHeartbeats 400000 in
theorem c_impl_endedCode (g : M.Gam) (v_g : Value) (w : World) (h_g : (Ty.agg (cGame g)).ok w v_g) (r0 : g.start.pits.length ≤ 4194304) (r1 : g.start.stores.length ≤ 4194304) (r2 : g.moves.length ≤ 4194304) (r3 : g.now.pits.length ≤ 4194304) (r4 : g.now.stores.length ≤ 4194304) : RetV Try.prog 89 [v_g] w (.int .i64 (M.endC g)) := by
  obtain ⟨A1_9, c1_9, A1_10, c1_10, A1_12, c1_12, A1_13, c1_13, A1_14, c1_14, rfl, h1_9, h1_10, h1_12, h1_13, h1_14, bl1_9, bh1_9, bl1_10, bh1_10, bl1_12, bh1_12, bl1_13, bh1_13, bl1_14, bh1_14⟩ := open_Game h_g
  refine enter @Try.func89 @Try.ntmps89 rfl rfl ?_
  refine Js.seq ?_
  refine Js.region ?_
  refine JL.e (e_box (c := [.int .i64 g.rules.pits, .int .i64 g.rules.seeds, .bool g.rules.stores, .bool g.rules.skip, .bool g.rules.relay, .bool g.rules.feed, .bool g.rules.again, .int .i64 g.rules.capture, .int .i64 g.rules.slam, .slice A1_9 g.start.pits.length c1_9, .slice A1_10 g.start.stores.length c1_10, .int .i64 g.start.player, .slice A1_12 g.moves.length c1_12, .slice A1_13 g.now.pits.length c1_13, .slice A1_14 g.now.stores.length c1_14, .int .i64 g.now.player, .int .i64 g.resigned]) rfl rfl) ?_
  rintro _ _ _ ⟨b2, rfl, rfl, rfl⟩ _
  refine JL.q (OpP.q (p_assign rfl)) ?_
  refine JL.nil ?_
  refine Js.seq ?_
  refine Js.seq ?_
  refine Js.region ?_
  refine JL.q (q_loadN ty_35 rfl (Mem.boxR (i := 0) rfl 0 17) rfl rfl) ?_
  refine JL.e (e_callV fn_62 rfl (fun w hw => c_impl_ValidGame g _ w ⟨_, rfl, ⟨rfl, rfl, rfl, rfl, rfl, rfl, rfl, rfl, rfl, (Ty.mono _ h1_9 hw.vis), (Ty.mono _ h1_10 hw.vis), rfl, (Ty.mono _ h1_12 hw.vis), (Ty.mono _ h1_13 hw.vis), (Ty.mono _ h1_14 hw.vis), rfl, rfl, trivial⟩⟩ (by omega) (by omega) (by omega) (by omega) (by omega))) ?_
  rintro _ _ _ ⟨rfl, rfl, rfl⟩ _
  refine JL.q (OpP.q (p_not rfl)) ?_
  refine JL.nil ?_
  refine Js.cond rfl (fun h3 => ?_) (fun h3 => ?_)
  ·
    have h3' := h3
    try simp only [Bool.not_eq_true'] at h3'
    have hno : M.okG g = false := by simpa using h3
    have hC := M.okC_no hno
    have hE := M.endC_no hno
    refine Js.seq ?_
    refine Js.region ?_
    refine JL.q (OpP.q (p_assign rfl)) ?_
    refine JL.nil ?_
    refine Js.ret (R := RV w (.int .i64 (M.endC g))) @Try.results89 (fun _ _ => rfl) (ResOk.tmp rfl ResOk.nil) (fun w1 hw => ?_)
    refine ⟨?_, hw.ext (Up.refl _ _)⟩
    rw [hE]; rfl
  ·
    have h3' := h3
    try simp only [Bool.not_eq_false'] at h3'
    have hok : M.okG g = true := by simpa using h3
    obtain ⟨k1, k2, k3, k4, k5, k6, k7, k8, k9⟩ := M.okG_parts hok
    have hnow := M.okG_now hok
    have k10 := M.okP_len hnow
    have k11 := M.okP_len k1
    (have k12 : (M.playedP g).length = g.moves.length + 1 := by rw [k6, M.hist_length, k8])
    have k13 : (M.playedR g).length = g.moves.length := by rw [k7, k8]
    have hC := M.okC_yes hok
    obtain ⟨g1, g2, g3, g4, g5, g6, g7⟩ := M.okP_bd hnow
    refine Js.skip ?_
    refine Js.seq ?_
    refine Js.seq ?_
    refine Js.region ?_
    refine JL.q (q_loadN ty_35 rfl (Mem.boxR (i := 0) rfl 0 17) rfl rfl) ?_
    refine JL.e (e_callV fn_84 rfl (fun w hw => c_impl_Game_endOf g _ w ⟨_, rfl, ⟨rfl, rfl, rfl, rfl, rfl, rfl, rfl, rfl, rfl, (Ty.mono _ h1_9 hw.vis), (Ty.mono _ h1_10 hw.vis), rfl, (Ty.mono _ h1_12 hw.vis), (Ty.mono _ h1_13 hw.vis), (Ty.mono _ h1_14 hw.vis), rfl, rfl, trivial⟩⟩ (by omega) (by omega) (by omega) (by omega) (by omega) hok)) ?_
    rintro _ _ _ ⟨rfl, rfl, rfl⟩ _
    refine JL.q (OpP.q (p_eql rfl rfl)) ?_
    refine JL.nil ?_
    refine Js.cond rfl (fun h4 => ?_) (fun h4 => ?_)
    ·
      have h4' := h4
      try simp only [decide_eq_true_eq] at h4'
      have hE := M.endC_6 hok (by simpa using h4)
      refine Js.seq ?_
      refine Js.region ?_
      refine JL.q (OpP.q (p_assign rfl)) ?_
      refine JL.nil ?_
      refine Js.ret (R := RV w (.int .i64 (M.endC g))) @Try.results89 (fun _ _ => rfl) (ResOk.tmp rfl ResOk.nil) (fun w1 hw => ?_)
      refine ⟨?_, hw.ext (Up.refl _ _)⟩
      rw [hE]; rfl
    ·
      have h4' := h4
      try simp only [decide_eq_false_iff_not] at h4'
      have hE := M.endC_0 hok (by simpa using h4)
      refine Js.skip ?_
      refine Js.seq ?_
      refine Js.region ?_
      refine JL.q (OpP.q (p_assign rfl)) ?_
      refine JL.nil ?_
      refine Js.ret (R := RV w (.int .i64 (M.endC g))) @Try.results89 (fun _ _ => rfl) (ResOk.tmp rfl ResOk.nil) (fun w1 hw => ?_)
      refine ⟨?_, hw.ext (Up.refl _ _)⟩
      rw [hE]; rfl

set_option maxRecDepth 100000 in
set_option maxHeartbeats 400000 in
theorem c_impl_FinalPosition (g : M.Gam) (v_g : Value) (w : World) (h_g : (Ty.agg (cGame g)).ok w v_g) (r0 : g.start.pits.length ≤ 4194304) (r1 : g.start.stores.length ≤ 4194304) (r2 : g.moves.length ≤ 4194304) (r3 : g.now.pits.length ≤ 4194304) (r4 : g.now.stores.length ≤ 4194304) : Ret Try.prog 52 [v_g] w (Ty.tup [Ty.agg (cPosition (M.finalR g)), Ty.int (M.endC g)]) := by
  obtain ⟨A1_9, c1_9, A1_10, c1_10, A1_12, c1_12, A1_13, c1_13, A1_14, c1_14, rfl, h1_9, h1_10, h1_12, h1_13, h1_14, bl1_9, bh1_9, bl1_10, bh1_10, bl1_12, bh1_12, bl1_13, bh1_13, bl1_14, bh1_14⟩ := open_Game h_g
  refine enter @Try.func52 @Try.ntmps52 rfl rfl ?_
  refine Js.seq ?_
  refine Js.region ?_
  refine JL.e (e_box (c := [.int .i64 g.rules.pits, .int .i64 g.rules.seeds, .bool g.rules.stores, .bool g.rules.skip, .bool g.rules.relay, .bool g.rules.feed, .bool g.rules.again, .int .i64 g.rules.capture, .int .i64 g.rules.slam, .slice A1_9 g.start.pits.length c1_9, .slice A1_10 g.start.stores.length c1_10, .int .i64 g.start.player, .slice A1_12 g.moves.length c1_12, .slice A1_13 g.now.pits.length c1_13, .slice A1_14 g.now.stores.length c1_14, .int .i64 g.now.player, .int .i64 g.resigned]) rfl rfl) ?_
  rintro _ _ _ ⟨b2, rfl, rfl, rfl⟩ _
  refine JL.e (e_alloc zero_33) ?_
  rintro _ _ _ ⟨b3, rfl, rfl, rfl⟩ _
  refine JL.q (OpP.q (p_assign rfl)) ?_
  refine JL.nil ?_
  refine Js.seq ?_
  refine Js.seq ?_
  refine Js.region ?_
  refine JL.q (q_loadN ty_35 rfl (Mem.boxR (i := 1) rfl 0 17) rfl rfl) ?_
  refine JL.e (e_callV fn_89 rfl (fun w hw => c_impl_endedCode g _ w ⟨_, rfl, ⟨rfl, rfl, rfl, rfl, rfl, rfl, rfl, rfl, rfl, (Ty.mono _ h1_9 hw.vis), (Ty.mono _ h1_10 hw.vis), rfl, (Ty.mono _ h1_12 hw.vis), (Ty.mono _ h1_13 hw.vis), (Ty.mono _ h1_14 hw.vis), rfl, rfl, trivial⟩⟩ (by omega) (by omega) (by omega) (by omega) (by omega))) ?_
  rintro _ _ _ ⟨rfl, rfl, rfl⟩ _
  refine JL.q (OpP.q (p_assign rfl)) ?_
  refine JL.nil ?_
  refine Js.seq ?_
  refine Js.region ?_
  refine JL.q (OpP.q (p_move rfl)) ?_
  refine JL.q (OpP.q (p_neq rfl rfl)) ?_
  refine JL.nil ?_
  refine Js.cond rfl (fun h4 => ?_) (fun h4 => ?_)
  ·
    have h4' := h4
    try simp only [Bool.not_eq_true', decide_eq_false_iff_not] at h4'
    have hz : M.endC g ≠ 0 := by simpa using h4
    have hE := M.finalR_no hz
    refine Js.seq ?_
    refine Js.region ?_
    refine JL.q (OpP.q (p_build zero_33 flds_33 rfl rfl)) ?_
    refine JL.q (OpP.q (p_move rfl)) ?_
    refine JL.s (e_store (i := 0) (c' := [.slice none 0 0, .slice none 0 0, .int .i64 0]) ty_33 rfl rfl rfl rfl rfl rfl rfl rfl) ?_
    rintro _ _ _ ⟨rfl, rfl⟩ _
    refine JL.q (OpP.q (p_assign rfl)) ?_
    refine JL.nil ?_
    refine Js.ret (R := RO w (Ty.tup [Ty.agg (cPosition (M.finalR g)), Ty.int (M.endC g)])) @Try.results52 (fun _ _ => rfl) (ResOk.cell (res_box (i := 0) ty_33 rfl rfl rfl rfl rfl) (ResOk.tmp rfl ResOk.nil)) (fun w1 hw => ?_)
    have hx := hw.ext (Up.refl _ _)
    exact ret_own (ps := []) hw hx ⟨_, rfl, ⟨_, _, rfl, ⟨_, rfl, ⟨_, _, rfl, (ints_cast (show [] = (M.finalR g).pits by first | (rw [hz]; done) | (rw [hE]; done) | (rw [hE]; rfl)) nil_own), ⟨_, _, rfl, (ints_cast (show [] = (M.finalR g).stores by first | (rw [hz]; done) | (rw [hE]; done) | (rw [hE]; rfl)) nil_own), ⟨_, _, rfl, ⟨by first | (rw [hz]; done) | (rw [hE]; done) | (rw [hE]; rfl), rfl⟩, rfl⟩⟩⟩⟩, ⟨_, _, rfl, ⟨rfl, rfl⟩, rfl⟩⟩⟩ Pick.nil (by simp [List.flatten, outV])
  ·
    have h4' := h4
    try simp only [Bool.not_eq_false', decide_eq_true_eq] at h4'
    have hz : M.endC g = 0 := by simpa using h4
    have hok := M.endC_ok hz
    obtain ⟨k1, k2, k3, k4, k5, k6, k7, k8, k9⟩ := M.okG_parts hok
    have hnow := M.okG_now hok
    have k10 := M.okP_len hnow
    have k11 := M.okP_len k1
    (have k12 : (M.playedP g).length = g.moves.length + 1 := by rw [k6, M.hist_length, k8])
    have k13 : (M.playedR g).length = g.moves.length := by rw [k7, k8]
    have hC := M.okC_yes hok
    obtain ⟨g1, g2, g3, g4, g5, g6, g7⟩ := M.okP_bd hnow
    have hE := M.finalR_yes hz
    have hfs := M.final_stores g
    refine Js.skip ?_
    refine Js.seq ?_
    refine Js.region ?_
    refine JL.q (q_loadN ty_35 rfl (Mem.boxR (i := 1) rfl 0 17) rfl rfl) ?_
    refine JL.e (e_callO fn_90 rfl (Spl_Position _) (fun w hw => c_impl_Game_final g _ w ⟨_, rfl, ⟨rfl, rfl, rfl, rfl, rfl, rfl, rfl, rfl, rfl, (Ty.mono _ h1_9 hw.vis), (Ty.mono _ h1_10 hw.vis), rfl, (Ty.mono _ h1_12 hw.vis), (Ty.mono _ h1_13 hw.vis), (Ty.mono _ h1_14 hw.vis), rfl, rfl, trivial⟩⟩ hnow (by omega) (by omega))) ?_
    rintro v5 _ _ ⟨_, hR6, rfl, rfl⟩ _
    obtain ⟨A7_0, c7_0, A7_1, c7_1, f7, rfl, rfl, bl7_0, bh7_0, bl7_1, bh7_1⟩ := hR6
    refine JL.s (e_store (i := 1) (c' := [.slice A7_0 (((M.final g).pits).length) c7_0, .slice A7_1 (((M.final g).stores).length) c7_1, .int .i64 ((M.final g).player)]) ty_33 rfl rfl rfl rfl rfl rfl rfl rfl) ?_
    rintro _ _ _ ⟨rfl, rfl⟩ _
    refine JL.q (OpP.q (p_assign rfl)) ?_
    refine JL.nil ?_
    refine Js.ret (R := RO w (Ty.tup [Ty.agg (cPosition (M.finalR g)), Ty.int (M.endC g)])) @Try.results52 (fun _ _ => rfl) (ResOk.cell (res_box (i := 1) ty_33 rfl rfl rfl rfl rfl) (ResOk.tmp rfl ResOk.nil)) (fun w1 hw => ?_)
    have hx := hw.ext (Up.refl _ _)
    exact ret_own (ps := [(0, f7)]) hw hx ⟨_, rfl, ⟨_, _, rfl, (own_cast cPosition (show M.final g = M.finalR g by first | (rw [hz]; done) | (rw [hE]; done) | (rw [hE]; rfl)) ⟨_, rfl, hw.pr (i := 0) rfl⟩), ⟨_, _, rfl, ⟨by first | (rw [hz]; done) | (rw [hE]; done) | (rw [hE]; rfl), rfl⟩, rfl⟩⟩⟩ (Pick.cons (j := 0) rfl (List.Sublist.refl _) rfl Pick.nil) (by simp [List.flatten, outV])

set_option maxRecDepth 100000 in
set_option maxHeartbeats 400000 in
theorem c_impl_ScoresOf (g : M.Gam) (v_g : Value) (w : World) (h_g : (Ty.agg (cGame g)).ok w v_g) (r0 : g.start.pits.length ≤ 4194304) (r1 : g.start.stores.length ≤ 4194304) (r2 : g.moves.length ≤ 4194304) (r3 : g.now.pits.length ≤ 4194304) (r4 : g.now.stores.length ≤ 4194304) : Ret Try.prog 50 [v_g] w (Ty.tup [Ty.ints 2 (M.scoresR g), Ty.int (M.endC g)]) := by
  obtain ⟨A1_9, c1_9, A1_10, c1_10, A1_12, c1_12, A1_13, c1_13, A1_14, c1_14, rfl, h1_9, h1_10, h1_12, h1_13, h1_14, bl1_9, bh1_9, bl1_10, bh1_10, bl1_12, bh1_12, bl1_13, bh1_13, bl1_14, bh1_14⟩ := open_Game h_g
  refine enter @Try.func50 @Try.ntmps50 rfl rfl ?_
  refine Js.seq ?_
  refine Js.region ?_
  refine JL.e (e_box (c := [.int .i64 g.rules.pits, .int .i64 g.rules.seeds, .bool g.rules.stores, .bool g.rules.skip, .bool g.rules.relay, .bool g.rules.feed, .bool g.rules.again, .int .i64 g.rules.capture, .int .i64 g.rules.slam, .slice A1_9 g.start.pits.length c1_9, .slice A1_10 g.start.stores.length c1_10, .int .i64 g.start.player, .slice A1_12 g.moves.length c1_12, .slice A1_13 g.now.pits.length c1_13, .slice A1_14 g.now.stores.length c1_14, .int .i64 g.now.player, .int .i64 g.resigned]) rfl rfl) ?_
  rintro _ _ _ ⟨b2, rfl, rfl, rfl⟩ _
  refine JL.q (OpP.q (p_assign rfl)) ?_
  refine JL.q (OpP.q (p_assign rfl)) ?_
  refine JL.nil ?_
  refine Js.seq ?_
  refine Js.seq ?_
  refine Js.region ?_
  refine JL.q (q_loadN ty_35 rfl (Mem.boxR (i := 0) rfl 0 17) rfl rfl) ?_
  refine JL.e (e_callV fn_89 rfl (fun w hw => c_impl_endedCode g _ w ⟨_, rfl, ⟨rfl, rfl, rfl, rfl, rfl, rfl, rfl, rfl, rfl, (Ty.mono _ h1_9 hw.vis), (Ty.mono _ h1_10 hw.vis), rfl, (Ty.mono _ h1_12 hw.vis), (Ty.mono _ h1_13 hw.vis), (Ty.mono _ h1_14 hw.vis), rfl, rfl, trivial⟩⟩ (by omega) (by omega) (by omega) (by omega) (by omega))) ?_
  rintro _ _ _ ⟨rfl, rfl, rfl⟩ _
  refine JL.q (OpP.q (p_assign rfl)) ?_
  refine JL.nil ?_
  refine Js.seq ?_
  refine Js.region ?_
  refine JL.q (OpP.q (p_move rfl)) ?_
  refine JL.q (OpP.q (p_neq rfl rfl)) ?_
  refine JL.nil ?_
  refine Js.cond rfl (fun h3 => ?_) (fun h3 => ?_)
  ·
    have h3' := h3
    try simp only [Bool.not_eq_true', decide_eq_false_iff_not] at h3'
    have hz : M.endC g ≠ 0 := by simpa using h3
    have hE := M.scoresR_no hz
    refine Js.seq ?_
    refine Js.region ?_
    refine JL.q (OpP.q (p_move rfl)) ?_
    refine JL.q (OpP.q (p_assign rfl)) ?_
    refine JL.q (OpP.q (p_assign rfl)) ?_
    refine JL.nil ?_
    refine Js.ret (R := RO w (Ty.tup [Ty.ints 2 (M.scoresR g), Ty.int (M.endC g)])) @Try.results50 (fun _ _ => rfl) (ResOk.tmp rfl (ResOk.tmp rfl ResOk.nil)) (fun w1 hw => ?_)
    have hx := hw.ext (Up.refl _ _)
    exact ret_own (ps := []) hw hx ⟨_, rfl, ⟨_, _, rfl, (ints_cast (show [] = M.scoresR g by first | (rw [hz]; done) | (rw [hE]; done)) nil_own), ⟨_, _, rfl, ⟨rfl, rfl⟩, rfl⟩⟩⟩ Pick.nil (by simp [List.flatten, outV])
  ·
    have h3' := h3
    try simp only [Bool.not_eq_false', decide_eq_true_eq] at h3'
    have hz : M.endC g = 0 := by simpa using h3
    have hok := M.endC_ok hz
    obtain ⟨k1, k2, k3, k4, k5, k6, k7, k8, k9⟩ := M.okG_parts hok
    have hnow := M.okG_now hok
    have k10 := M.okP_len hnow
    have k11 := M.okP_len k1
    (have k12 : (M.playedP g).length = g.moves.length + 1 := by rw [k6, M.hist_length, k8])
    have k13 : (M.playedR g).length = g.moves.length := by rw [k7, k8]
    have hC := M.okC_yes hok
    obtain ⟨g1, g2, g3, g4, g5, g6, g7⟩ := M.okP_bd hnow
    have hE := M.scoresR_yes hz
    have hfs := M.final_stores g
    refine Js.skip ?_
    refine Js.seq ?_
    refine Js.region ?_
    refine JL.q (q_loadN ty_35 rfl (Mem.boxR (i := 0) rfl 0 17) rfl rfl) ?_
    refine JL.e (e_callO fn_90 rfl (Spl.agg (Spls.cons (Spl.ints _ _) (Spls.cons (Spl.ints _ _) (Spls.cons (Spl.val _) Spls.nil)))) (fun w hw => c_impl_Game_final g _ w ⟨_, rfl, ⟨rfl, rfl, rfl, rfl, rfl, rfl, rfl, rfl, rfl, (Ty.mono _ h1_9 hw.vis), (Ty.mono _ h1_10 hw.vis), rfl, (Ty.mono _ h1_12 hw.vis), (Ty.mono _ h1_13 hw.vis), (Ty.mono _ h1_14 hw.vis), rfl, rfl, trivial⟩⟩ hnow (by omega) (by omega))) ?_
    rintro v4 _ _ ⟨_, hR5, rfl, rfl⟩ _
    obtain ⟨vs6, rfl, hr6⟩ := hR5
    obtain ⟨v6_0, vs6_0, o6_0, ow6_0, rfl, hR6_0, hs6_0, rfl⟩ := RL_cons hr6
    obtain ⟨v6_1, vs6_1, o6_1, ow6_1, rfl, hR6_1, hs6_1, rfl⟩ := RL_cons hs6_0
    obtain ⟨v6_2, vs6_2, o6_2, ow6_2, rfl, hR6_2, hs6_2, rfl⟩ := RL_cons hs6_1
    obtain ⟨rfl, rfl⟩ := RL_nil hs6_2
    obtain ⟨A7, c7, rfl, rfl, bl7, bh7⟩ := hR6_0
    obtain ⟨A8, c8, rfl, rfl, bl8, bh8⟩ := hR6_1
    obtain ⟨rfl, rfl⟩ : v6_2 = .int .i64 ((M.final g).player) ∧ _ := hR6_2
    refine JL.q (OpP.q (p_field fld_33_1 rfl rfl)) ?_
    refine JL.q (OpP.q (p_assign rfl)) ?_
    refine JL.q (OpP.q (p_assign rfl)) ?_
    refine JL.nil ?_
    refine Js.ret (R := RO w (Ty.tup [Ty.ints 2 (M.scoresR g), Ty.int (M.endC g)])) @Try.results50 (fun _ _ => rfl) (ResOk.tmp rfl (ResOk.tmp rfl ResOk.nil)) (fun w1 hw => ?_)
    have hx := hw.ext (Up.refl _ _)
    exact ret_own (ps := [(1, (Value.ownBlock (.slice A8 (((M.final g).stores).length) c8)).toList)]) hw hx ⟨_, rfl, ⟨_, _, rfl, (ints_row (xs := ((M.final g).stores)) (hw.pr (i := 1) rfl) (show (M.final g).stores = M.scoresR g by first | (rw [hz]; done) | (rw [hE]; done))), ⟨_, _, rfl, ⟨by first | (rw [hz]; done) | (rw [hE]; done), rfl⟩, rfl⟩⟩⟩ (Pick.cons (j := 1) rfl (List.sublist_append_left _ _) rfl Pick.nil) (by simp [List.flatten, outV])

set_option maxRecDepth 100000 in
set_option maxHeartbeats 400000 in
theorem c_impl_WinnerOf (g : M.Gam) (v_g : Value) (w : World) (h_g : (Ty.agg (cGame g)).ok w v_g) (r0 : g.start.pits.length ≤ 4194304) (r1 : g.start.stores.length ≤ 4194304) (r2 : g.moves.length ≤ 4194304) (r3 : g.now.pits.length ≤ 4194304) (r4 : g.now.stores.length ≤ 4194304) : RetV Try.prog 48 [v_g] w (.tuple #[.int .i64 (M.winner g), .int .i64 (M.endC g)]) := by
  obtain ⟨A1_9, c1_9, A1_10, c1_10, A1_12, c1_12, A1_13, c1_13, A1_14, c1_14, rfl, h1_9, h1_10, h1_12, h1_13, h1_14, bl1_9, bh1_9, bl1_10, bh1_10, bl1_12, bh1_12, bl1_13, bh1_13, bl1_14, bh1_14⟩ := open_Game h_g
  refine enter @Try.func48 @Try.ntmps48 rfl rfl ?_
  refine Js.seq ?_
  refine Js.region ?_
  refine JL.e (e_box (c := [.int .i64 g.rules.pits, .int .i64 g.rules.seeds, .bool g.rules.stores, .bool g.rules.skip, .bool g.rules.relay, .bool g.rules.feed, .bool g.rules.again, .int .i64 g.rules.capture, .int .i64 g.rules.slam, .slice A1_9 g.start.pits.length c1_9, .slice A1_10 g.start.stores.length c1_10, .int .i64 g.start.player, .slice A1_12 g.moves.length c1_12, .slice A1_13 g.now.pits.length c1_13, .slice A1_14 g.now.stores.length c1_14, .int .i64 g.now.player, .int .i64 g.resigned]) rfl rfl) ?_
  rintro _ _ _ ⟨b2, rfl, rfl, rfl⟩ _
  refine JL.q (OpP.q (p_assign rfl)) ?_
  refine JL.q (OpP.q (p_assign rfl)) ?_
  refine JL.nil ?_
  refine Js.seq ?_
  refine Js.seq ?_
  refine Js.region ?_
  refine JL.q (q_loadN ty_35 rfl (Mem.boxR (i := 0) rfl 0 17) rfl rfl) ?_
  refine JL.e (e_callV fn_89 rfl (fun w hw => c_impl_endedCode g _ w ⟨_, rfl, ⟨rfl, rfl, rfl, rfl, rfl, rfl, rfl, rfl, rfl, (Ty.mono _ h1_9 hw.vis), (Ty.mono _ h1_10 hw.vis), rfl, (Ty.mono _ h1_12 hw.vis), (Ty.mono _ h1_13 hw.vis), (Ty.mono _ h1_14 hw.vis), rfl, rfl, trivial⟩⟩ (by omega) (by omega) (by omega) (by omega) (by omega))) ?_
  rintro _ _ _ ⟨rfl, rfl, rfl⟩ _
  refine JL.q (OpP.q (p_assign rfl)) ?_
  refine JL.nil ?_
  refine Js.seq ?_
  refine Js.region ?_
  refine JL.q (OpP.q (p_move rfl)) ?_
  refine JL.q (OpP.q (p_neq rfl rfl)) ?_
  refine JL.nil ?_
  refine Js.cond rfl (fun h3 => ?_) (fun h3 => ?_)
  ·
    have h3' := h3
    try simp only [Bool.not_eq_true', decide_eq_false_iff_not] at h3'
    have hz : M.endC g ≠ 0 := by simpa using h3
    have hE := M.winner_no hz
    refine Js.seq ?_
    refine Js.region ?_
    refine JL.q (OpP.q (p_move rfl)) ?_
    refine JL.q (OpP.q (p_assign rfl)) ?_
    refine JL.q (OpP.q (p_assign rfl)) ?_
    refine JL.nil ?_
    refine Js.ret (R := RV w (.tuple #[.int .i64 (M.winner g), .int .i64 (M.endC g)])) @Try.results48 (fun _ _ => rfl) (ResOk.tmp rfl (ResOk.tmp rfl ResOk.nil)) (fun w1 hw => ?_)
    refine ⟨?_, hw.ext (Up.refl _ _)⟩
    first | (rw [hE2, hz]; rfl) | (rw [hE]; rfl)
  ·
    have h3' := h3
    try simp only [Bool.not_eq_false', decide_eq_true_eq] at h3'
    have hz : M.endC g = 0 := by simpa using h3
    have hok := M.endC_ok hz
    obtain ⟨k1, k2, k3, k4, k5, k6, k7, k8, k9⟩ := M.okG_parts hok
    have hnow := M.okG_now hok
    have k10 := M.okP_len hnow
    have k11 := M.okP_len k1
    (have k12 : (M.playedP g).length = g.moves.length + 1 := by rw [k6, M.hist_length, k8])
    have k13 : (M.playedR g).length = g.moves.length := by rw [k7, k8]
    have hC := M.okC_yes hok
    obtain ⟨g1, g2, g3, g4, g5, g6, g7⟩ := M.okP_bd hnow
    have hE := trivial
    have hfs := M.final_stores g
    refine Js.skip ?_
    refine Js.seq ?_
    refine Js.region ?_
    refine JL.q (q_loadN ty_35 rfl (Mem.boxR (i := 0) rfl 0 17) rfl rfl) ?_
    refine JL.e (e_callP fn_90 rfl (fun w hw => c_impl_Game_final g _ w ⟨_, rfl, ⟨rfl, rfl, rfl, rfl, rfl, rfl, rfl, rfl, rfl, (Ty.mono _ h1_9 hw.vis), (Ty.mono _ h1_10 hw.vis), rfl, (Ty.mono _ h1_12 hw.vis), (Ty.mono _ h1_13 hw.vis), (Ty.mono _ h1_14 hw.vis), rfl, rfl, trivial⟩⟩ hnow (by omega) (by omega))) ?_
    rintro v4 _ u6 ⟨h5, rfl⟩ x6
    obtain ⟨A7_0, c7_0, A7_1, c7_1, rfl, h7_0, h7_1, bl7_0, bh7_0, bl7_1, bh7_1⟩ := open_Position h5
    refine JL.q (OpP.q (p_field fld_33_1 rfl rfl)) ?_
    refine JL.q (OpP.q (p_assign rfl)) ?_
    refine JL.nil ?_
    refine Js.seq ?_
    refine Js.block ?_
    refine Js.seq ?_
    refine Js.region ?_
    refine JL.q (OpP.q (p_fieldAddr fld_35_4 rfl)) ?_
    refine JL.q (q_load1 ty_2 rfl (Mem.box (i := 0) rfl rfl)) ?_
    refine JL.q (OpP.q (p_geq rfl rfl)) ?_
    refine JL.q (OpP.q (p_assign rfl)) ?_
    refine JL.nil ?_
    refine Js.cond rfl (fun h8 => ?_) (fun h8 => ?_)
    ·
      have h8' := h8
      try simp only [decide_eq_true_eq] at h8'
      have hE2 := M.winner_r hz (by simpa using h8)
      refine Js.seq ?_
      refine Js.region ?_
      refine JL.q (OpP.q (p_fieldAddr fld_35_4 rfl)) ?_
      refine JL.q (q_load1 ty_2 rfl (Mem.box (i := 0) rfl rfl)) ?_
      refine JL.q (OpP.q (p_sub rfl rfl (IntWalk.i64_in _ (by omega)))) ?_
      refine JL.q (OpP.q (p_assign rfl)) ?_
      refine JL.q (OpP.q (p_assign rfl)) ?_
      refine JL.nil ?_
      refine Js.ret (R := RV w (.tuple #[.int .i64 (M.winner g), .int .i64 (M.endC g)])) @Try.results48 (fun _ _ => rfl) (ResOk.tmp rfl (ResOk.tmp rfl ResOk.nil)) (fun w1 hw => ?_)
      refine ⟨?_, hw.ext (x6)⟩
      first | (rw [hE2, hz]; rfl) | (rw [hE]; rfl)
    ·
      have h8' := h8
      try simp only [decide_eq_false_iff_not, Int.not_le] at h8'
      have q1 : ¬ 0 ≤ g.resigned := by simpa using h8
      refine Js.seq ?_
      refine Js.drawn _ [] mixed_ (fun _ h => h) ?_
      refine JH.p 0 rfl (p_move rfl) ?_
      obtain ⟨b9, o9, he9, hc9⟩ := ints_elem h7_1 (i := 0) (by omega)
      refine JH.p 1 rfl (p_indexAddr el_24 rfl rfl (by omega) (by omega) he9) ?_
      refine JH.q 2 rfl (q_load1 ty_2 rfl (Mem.pub hc9)) ?_
      refine JH.p 3 rfl (p_move rfl) ?_
      obtain ⟨b10, o10, he10, hc10⟩ := ints_elem h7_1 (i := 1) (by omega)
      refine JH.p 4 rfl (p_indexAddr el_24 rfl rfl (by omega) (by omega) he10) ?_
      refine JH.q 5 rfl (q_load1 ty_2 rfl (Mem.pub hc10)) ?_
      refine JH.p 6 rfl (p_gtr rfl rfl) ?_
      refine JH.p 7 rfl (p_assign rfl) ?_
      refine JH.done (by kernel_rfl) ?_
      refine Js.cond rfl (fun h11 => ?_) (fun h11 => ?_)
      ·
        have h11' := h11
        try simp only [decide_eq_true_eq] at h11'
        have hE2 := M.winner_0 hz q1 (by simpa using h11)
        refine Js.seq ?_
        refine Js.region ?_
        refine JL.q (OpP.q (p_assign rfl)) ?_
        refine JL.q (OpP.q (p_assign rfl)) ?_
        refine JL.nil ?_
        refine Js.ret (R := RV w (.tuple #[.int .i64 (M.winner g), .int .i64 (M.endC g)])) @Try.results48 (fun _ _ => rfl) (ResOk.tmp rfl (ResOk.tmp rfl ResOk.nil)) (fun w1 hw => ?_)
        refine ⟨?_, hw.ext (x6)⟩
        first | (rw [hE2, hz]; rfl) | (rw [hE]; rfl)
      ·
        have h11' := h11
        try simp only [decide_eq_false_iff_not, Int.not_lt] at h11'
        have q2 : ¬ M.nth (M.final g).stores 1 < M.nth (M.final g).stores 0 := by simpa using h11
        refine Js.seq ?_
        refine Js.drawn _ [] mixed_ (fun _ h => h) ?_
        refine JH.p 0 rfl (p_move rfl) ?_
        obtain ⟨b12, o12, he12, hc12⟩ := ints_elem h7_1 (i := 0) (by omega)
        refine JH.p 1 rfl (p_indexAddr el_24 rfl rfl (by omega) (by omega) he12) ?_
        refine JH.q 2 rfl (q_load1 ty_2 rfl (Mem.pub hc12)) ?_
        refine JH.p 3 rfl (p_move rfl) ?_
        obtain ⟨b13, o13, he13, hc13⟩ := ints_elem h7_1 (i := 1) (by omega)
        refine JH.p 4 rfl (p_indexAddr el_24 rfl rfl (by omega) (by omega) he13) ?_
        refine JH.q 5 rfl (q_load1 ty_2 rfl (Mem.pub hc13)) ?_
        refine JH.p 6 rfl (p_lss rfl rfl) ?_
        refine JH.p 7 rfl (p_assign rfl) ?_
        refine JH.done (by kernel_rfl) ?_
        refine Js.cond rfl (fun h14 => ?_) (fun h14 => ?_)
        ·
          have h14' := h14
          try simp only [decide_eq_true_eq] at h14'
          have hE2 := M.winner_1 hz q1 q2 (by simpa using h14)
          refine Js.seq ?_
          refine Js.region ?_
          refine JL.q (OpP.q (p_assign rfl)) ?_
          refine JL.q (OpP.q (p_assign rfl)) ?_
          refine JL.nil ?_
          refine Js.ret (R := RV w (.tuple #[.int .i64 (M.winner g), .int .i64 (M.endC g)])) @Try.results48 (fun _ _ => rfl) (ResOk.tmp rfl (ResOk.tmp rfl ResOk.nil)) (fun w1 hw => ?_)
          refine ⟨?_, hw.ext (x6)⟩
          first | (rw [hE2, hz]; rfl) | (rw [hE]; rfl)
        ·
          have h14' := h14
          try simp only [decide_eq_false_iff_not, Int.not_lt] at h14'
          have hE2 := M.winner_n hz q1 q2 (by simpa using h14)
          refine Js.skip ?_
          refine Js.blockEnd ?_
          refine Js.seq ?_
          refine Js.region ?_
          refine JL.q (OpP.q (p_assign rfl)) ?_
          refine JL.q (OpP.q (p_assign rfl)) ?_
          refine JL.nil ?_
          refine Js.ret (R := RV w (.tuple #[.int .i64 (M.winner g), .int .i64 (M.endC g)])) @Try.results48 (fun _ _ => rfl) (ResOk.tmp rfl (ResOk.tmp rfl ResOk.nil)) (fun w1 hw => ?_)
          refine ⟨?_, hw.ext (x6)⟩
          first | (rw [hE2, hz]; rfl) | (rw [hE]; rfl)

end Go.Proofs.Ytejnmechnhgmfaa

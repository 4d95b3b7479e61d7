/- Walks: G9. -/
import Derived.Test.YtinkeciedmjjmaaTy
import Derived.Test.YtinkeciedmjjmaaG4
set_option linter.unusedSimpArgs false
set_option linter.unusedVariables false
namespace Go.Proofs.Ytinkeciedmjjmaa
open Go.RowKit

set_option maxRecDepth 100000 in
set_option maxHeartbeats 400000 in
theorem c_impl_Rules_endValue (r : M.Rul) (v_r : Value) (p : M.Pos) (v_p : Value) (w : World) (h_r : (Ty.agg (cRules r)).ok w v_r) (h_p : (Ty.agg (cPosition p)).ok w v_p) (r0 : M.okP r p = true) : RetV Try.prog 82 [v_r, v_p] w (.int .i64 (M.endV r p)) := by
  obtain ⟨g1, g2, g3, g4, g5, g6, g7⟩ := M.okP_bd r0
  have g8 := M.results_8 r0
  have b1 := M.side_bd g5 g2 p.player
  have b2 := M.side_bd g5 g2 (1 - p.player)
  obtain rfl := open_Rules h_r
  obtain ⟨A2_0, c2_0, A2_1, c2_1, rfl, h2_0, h2_1, bl2_0, bh2_0, bl2_1, bh2_1⟩ := open_Position h_p
  refine enter @Try.func82 @Try.ntmps82 rfl rfl ?_
  refine Js.seq ?_
  refine Js.region ?_
  refine JL.e (e_box (c := [.int .i64 r.pits, .int .i64 r.seeds, .bool r.stores, .bool r.skip, .bool r.relay, .bool r.feed, .bool r.again, .int .i64 r.capture, .int .i64 r.slam]) rfl rfl) ?_
  rintro _ _ _ ⟨b3, rfl, rfl, rfl⟩ _
  refine JL.e (e_box (c := [.slice A2_0 p.pits.length c2_0, .slice A2_1 p.stores.length c2_1, .int .i64 p.player]) rfl rfl) ?_
  rintro _ _ _ ⟨b4, rfl, rfl, rfl⟩ _
  refine JL.q (OpP.q (p_assign rfl)) ?_
  refine JL.nil ?_
  refine Js.seq ?_
  refine Js.drawn _ [] mixed_ (fun _ h => h) ?_
  refine JH.q 0 rfl (q_loadN ty_31 rfl (Mem.boxR (i := 1) rfl 0 9) rfl rfl) ?_
  refine JH.p 1 rfl (p_fieldAddr fld_33_0 rfl) ?_
  refine JH.q 2 rfl (q_load1 ty_24 rfl (Mem.box (i := 0) rfl rfl)) ?_
  refine JH.p 3 rfl (p_fieldAddr fld_33_2 rfl) ?_
  refine JH.q 4 rfl (q_load1 ty_2 rfl (Mem.box (i := 0) rfl rfl)) ?_
  refine JH.q 6 rfl (q_loadN ty_31 rfl (Mem.boxR (i := 1) rfl 0 9) rfl rfl) ?_
  refine JH.p 7 rfl (p_fieldAddr fld_33_0 rfl) ?_
  refine JH.q 8 rfl (q_load1 ty_24 rfl (Mem.box (i := 0) rfl rfl)) ?_
  refine JH.p 9 rfl (p_fieldAddr fld_33_2 rfl) ?_
  refine JH.q 10 rfl (q_load1 ty_2 rfl (Mem.box (i := 0) rfl rfl)) ?_
  refine JH.p 11 rfl (p_sub rfl rfl (IntWalk.i64_in _ (by omega))) ?_
  refine JH.one (i := 5) (by kernel_rfl) ?_
  refine JHo.e rfl (e_callV fn_100 rfl (fun w hw => c_impl_Rules_side r _ p.pits _ p.player w ⟨_, rfl, ⟨rfl, rfl, rfl, rfl, rfl, rfl, rfl, rfl, rfl, trivial⟩⟩ (Ty.mono _ h2_0 hw.vis) (by omega) (by omega) (by omega) (by omega) g5)) (.inl rfl) ?_
  rintro _ _ _ ⟨rfl, rfl, rfl⟩ _
  refine JH.one (i := 12) (by kernel_rfl) ?_
  refine JHo.e rfl (e_callV fn_100 rfl (fun w hw => c_impl_Rules_side r _ p.pits _ (1 - p.player) w ⟨_, rfl, ⟨rfl, rfl, rfl, rfl, rfl, rfl, rfl, rfl, rfl, trivial⟩⟩ (Ty.mono _ h2_0 hw.vis) (by omega) (by omega) (by omega) (by omega) g5)) (.inl rfl) ?_
  rintro _ _ _ ⟨rfl, rfl, rfl⟩ _
  refine JH.p 13 rfl (p_sub rfl rfl (IntWalk.i64_in _ (by omega))) ?_
  refine JH.p 14 rfl (p_assign rfl) ?_
  refine JH.done (by kernel_rfl) ?_
  refine Js.ret (R := RV w (.int .i64 (M.endV r p))) @Try.results82 (fun _ _ => rfl) (ResOk.tmp rfl ResOk.nil) (fun w1 hw => ?_)
  refine ⟨?_, hw.ext (Up.refl _ _)⟩
  rfl

def S_impl_Rules_sizeUpTo (N : Nat) : Prop := ∀ (r : M.Rul) (v_r : Value) (p : M.Pos) (v_p : Value) (depth : Int) (w : World) (h_r : (Ty.agg (cRules r)).ok w v_r) (h_p : (Ty.agg (cPosition p)).ok w v_p) (r0 : M.okP r p = true) (r1 : 0 ≤ depth) (r2 : depth ≤ 8) (_ : depth.toNat = N), RetV Try.prog 75 [v_r, v_p, .int .i64 depth] w (.int .i64 (M.sizeT r depth.toNat p))
set_option maxRecDepth 100000 in
set_option maxHeartbeats 400000 in
theorem c_impl_Rules_sizeUpTo_ : ∀ N, S_impl_Rules_sizeUpTo N := by
  intro N
  induction N using Nat.strongRecOn with
  | ind N ih =>
  intro r v_r p v_p depth w h_r h_p r0 r1 r2 hN
  obtain ⟨g1, g2, g3, g4, g5, g6, g7⟩ := M.okP_bd r0
  have g8 := M.results_8 r0
  obtain rfl := open_Rules h_r
  obtain ⟨A2_0, c2_0, A2_1, c2_1, rfl, h2_0, h2_1, bl2_0, bh2_0, bl2_1, bh2_1⟩ := open_Position h_p
  refine enter @Try.func75 @Try.ntmps75 rfl rfl ?_
  refine Js.seq ?_
  refine Js.region ?_
  refine JL.e (e_box (c := [.int .i64 r.pits, .int .i64 r.seeds, .bool r.stores, .bool r.skip, .bool r.relay, .bool r.feed, .bool r.again, .int .i64 r.capture, .int .i64 r.slam]) rfl rfl) ?_
  rintro _ _ _ ⟨b3, rfl, rfl, rfl⟩ _
  refine JL.e (e_box (c := [.slice A2_0 p.pits.length c2_0, .slice A2_1 p.stores.length c2_1, .int .i64 p.player]) rfl rfl) ?_
  rintro _ _ _ ⟨b4, rfl, rfl, rfl⟩ _
  refine JL.q (OpP.q (p_assign rfl)) ?_
  refine JL.nil ?_
  refine Js.seq ?_
  refine Js.region ?_
  refine JL.q (OpP.q (p_assign rfl)) ?_
  refine JL.nil ?_
  refine Js.seq ?_
  refine Js.seq ?_
  refine Js.region ?_
  refine JL.q (OpP.q (p_move rfl)) ?_
  refine JL.q (OpP.q (p_eql rfl rfl)) ?_
  refine JL.nil ?_
  refine Js.cond rfl (fun h5 => ?_) (fun h5 => ?_)
  ·
    have h5' := h5
    try simp only [decide_eq_true_eq] at h5'
    have hE : M.sizeT r depth.toNat p = 1 := by rw [show depth.toNat = 0 by have := h5'; omega]; rfl
    refine Js.seq ?_
    refine Js.region ?_
    refine JL.q (OpP.q (p_move rfl)) ?_
    refine JL.q (OpP.q (p_assign rfl)) ?_
    refine JL.nil ?_
    refine Js.ret (R := RV w (.int .i64 (M.sizeT r depth.toNat p))) @Try.results75 (fun _ _ => rfl) (ResOk.tmp rfl ResOk.nil) (fun w1 hw => ?_)
    refine ⟨?_, hw.ext (Up.refl _ _)⟩
    rw [hE]; rfl
  ·
    have h5' := h5
    try simp only [decide_eq_false_iff_not] at h5'
    have hd : 1 ≤ depth := by have := h5'; omega
    refine Js.skip ?_
    refine Js.seq ?_
    refine Js.seq ?_
    refine Js.region ?_
    refine JL.q (q_loadN ty_31 rfl (Mem.boxR (i := 1) rfl 0 9) rfl rfl) ?_
    refine JL.q (q_loadN ty_33 rfl (Mem.boxR (i := 0) rfl 0 3) rfl rfl) ?_
    refine JL.e (e_callP fn_67 rfl (fun w hw => c_impl_Rules_results r _ p _ w ⟨_, rfl, ⟨rfl, rfl, rfl, rfl, rfl, rfl, rfl, rfl, rfl, trivial⟩⟩ ⟨_, rfl, ⟨(Ty.mono _ h2_0 hw.vis), (Ty.mono _ h2_1 hw.vis), rfl, trivial⟩⟩ r0)) ?_
    rintro v6 _ u8 ⟨h7, rfl⟩ x8
    obtain ⟨A9, c9, rfl, bl9, bh9⟩ := sl_form h7
    refine JL.q (OpP.q (p_len el_90 rfl)) ?_
    refine JL.q (OpP.q (p_move rfl)) ?_
    refine JL.nil ?_
    refine Js.block ?_
    refine Js.loop (fun l os u m => ∃ (k : Nat) (z : Int), l = [(2, .int .i64 depth), (3, .pointer (some ⟨b3, 0, none⟩)), (7, .int .i64 z), (15, .slice A9 ((M.results r p).length) c9), (16, .int .i64 (((M.results r p).length) : Int)), (17, .int .i64 (k : Int))] ∧ os = [boxO b4 [.slice A2_0 p.pits.length c2_0, .slice A2_1 p.stores.length c2_1, .int .i64 p.player] 33, boxO b3 [.int .i64 r.pits, .int .i64 r.seeds, .bool r.stores, .bool r.skip, .bool r.relay, .bool r.feed, .bool r.again, .int .i64 r.capture, .int .i64 r.slam] 31] ∧ Up w.heap.size u8 u ∧ (M.szgo (M.sizeT r (depth - 1).toNat) z ((M.results r p).drop k) = M.sizeT r depth.toNat p) ∧ (1 ≤ z) ∧ (z ≤ 3000) ∧ (k ≤ (M.results r p).length) ∧ m = (M.results r p).length - k) ⟨0, 1, rfl, rfl, Up.refl _ _, by exact (M.sizeT_d (by omega)).symm, by first | assumption | omega | rfl | (simp; done), by first | assumption | omega | rfl | (simp; done), by first | assumption | omega | rfl | (simp; done), rfl⟩ ⟨rfl, rfl, rfl, rfl, rfl, rfl, trivial⟩ ?_
    · rintro _ _ u10 _ ⟨k, z, rfl, rfl, x10, hS, z0, z1, hk, rfl⟩
      refine Js.seq ?_
      refine Js.region ?_
      refine JL.q (OpP.q (p_lss rfl rfl)) ?_
      refine JL.nil ?_
      refine Js.seq ?_
      refine Js.cond rfl (fun h11 => ?_) (fun h11 => ?_)
      ·
        have h11' := h11
        try simp only [decide_eq_true_eq] at h11'
        refine Js.skip ?_
        refine Js.seq ?_
        refine Js.block ?_
        refine Js.seq ?_
        refine Js.region ?_
        obtain ⟨y12, hy12⟩ : ∃ x, (M.results r p)[k]? = some x := ⟨_, List.getElem?_eq_getElem (by omega)⟩
        obtain ⟨b12, o12, A12_3, c12_3, A12_4, c12_4, he12, hr12, h12_3, h12_4, bl12_3, bh12_3, bl12_4, bh12_4⟩ := elem_Result (Ty.mono _ h7 x10.vis) hy12
        refine JL.q (OpP.q (p_indexAddr el_90 rfl rfl (by omega) (by omega) he12)) ?_
        refine JL.q (q_loadN ty_74 rfl (Mem.pubR (hr12.sub 0 6)) rfl rfl) ?_
        refine JL.e (e_alloc zero_74) ?_
        rintro _ _ _ ⟨b13, rfl, rfl, rfl⟩ _
        refine JL.s (e_store (i := 0) (c' := [.int .i64 y12.move, .int .i64 y12.gain, .bool y12.again, .slice A12_3 y12.next.pits.length c12_3, .slice A12_4 y12.next.stores.length c12_4, .int .i64 y12.next.player]) ty_74 rfl rfl rfl rfl rfl rfl rfl rfl) ?_
        rintro _ _ _ ⟨rfl, rfl⟩ _
        refine JL.nil ?_
        refine Js.seq ?_
        refine Js.region ?_
        refine JL.q (OpP.q (p_move rfl)) ?_
        refine JL.q (q_loadN ty_31 rfl (Mem.boxR (i := 2) rfl 0 9) rfl rfl) ?_
        refine JL.q (OpP.q (p_fieldAddr fld_74_3 rfl)) ?_
        refine JL.q (q_loadN ty_33 rfl (Mem.boxR (i := 0) rfl 3 3) rfl rfl) ?_
        refine JL.q (OpP.q (p_move rfl)) ?_
        refine JL.q (OpP.q (p_sub rfl rfl (IntWalk.i64_in _ (by omega)))) ?_
        have hb9 := M.sizeT_bd r (depth - 1).toNat y12.next
        refine JL.e (e_callV fn_75 rfl (fun w hw => ih ((depth - 1).toNat) (by omega) r _ y12.next _ (depth - 1) w ⟨_, rfl, ⟨rfl, rfl, rfl, rfl, rfl, rfl, rfl, rfl, rfl, trivial⟩⟩ ⟨_, rfl, ⟨(Ty.mono _ h12_3 hw.vis), (Ty.mono _ h12_4 hw.vis), rfl, trivial⟩⟩ (M.results_ok (M.results_get0 hy12)) (by omega) (by omega) rfl)) ?_
        rintro _ _ _ ⟨rfl, rfl, rfl⟩ _
        refine JL.q (OpP.q (p_add rfl rfl (IntWalk.i64_in _ (by omega)))) ?_
        refine JL.q (OpP.q (p_assign rfl)) ?_
        refine JL.nil ?_
        refine Js.seq ?_
        refine Js.region ?_
        refine JL.q (OpP.q (p_move rfl)) ?_
        refine JL.q (OpP.q (p_gtr rfl rfl)) ?_
        refine JL.nil ?_
        refine Js.cond rfl (fun h14 => ?_) (fun h14 => ?_)
        ·
          have h14' := h14
          try simp only [decide_eq_true_eq] at h14'
          have hE := M.szgo_y hS hy12 (by simpa using h14)
          refine Js.seq ?_
          refine Js.region ?_
          refine JL.q (OpP.q (p_move rfl)) ?_
          refine JL.q (OpP.q (p_assign rfl)) ?_
          refine JL.nil ?_
          refine Js.ret (R := RV w (.int .i64 (M.sizeT r depth.toNat p))) @Try.results75 (fun _ _ => rfl) (ResOk.tmp rfl ResOk.nil) (fun w1 hw => ?_)
          refine ⟨?_, hw.ext ((x8.trans x10))⟩
          rw [hE]; rfl
        ·
          have h14' := h14
          try simp only [decide_eq_false_iff_not, Int.not_lt] at h14'
          have hS2 := M.szgo_n hS hy12 (by simpa using h14)
          have hz9 := h14'
          refine Js.skip ?_
          refine Js.blockEnd ?_
          refine Js.region ?_
          refine JL.q (OpP.q (p_add rfl rfl (IntWalk.i64_in _ (by omega)))) ?_
          refine JL.q (OpP.q (p_move rfl)) ?_
          refine JL.nil ?_
          refine Js.drop (i := 0) rfl rfl (fun u15 x15 => ?_)
          exact Js.again ⟨k + 1, z + (M.sizeT r (depth - 1).toNat y12.next), rfl, rfl, (x10.trans x15), by exact hS2, by first | assumption | omega | rfl | (simp; done), by first | assumption | omega | rfl | (simp; done), by first | assumption | omega | rfl | (simp; done), rfl⟩ (by omega) ⟨rfl, rfl, rfl, rfl, rfl, rfl, trivial⟩
      ·
        have h11' := h11
        try simp only [decide_eq_false_iff_not, Int.not_lt] at h11'
        have hE := M.szgo_e hS (by have := h11'; omega)
        refine Js.exit (fun _ _ => rfl) ?_
        refine Js.seq ?_
        refine Js.region ?_
        refine JL.q (OpP.q (p_move rfl)) ?_
        refine JL.q (OpP.q (p_assign rfl)) ?_
        refine JL.nil ?_
        refine Js.ret (R := RV w (.int .i64 (M.sizeT r depth.toNat p))) @Try.results75 (fun _ _ => rfl) (ResOk.tmp rfl ResOk.nil) (fun w1 hw => ?_)
        refine ⟨?_, hw.ext ((x8.trans x10))⟩
        rw [hE]; rfl

theorem c_impl_Rules_sizeUpTo (r : M.Rul) (v_r : Value) (p : M.Pos) (v_p : Value) (depth : Int) (w : World) (h_r : (Ty.agg (cRules r)).ok w v_r) (h_p : (Ty.agg (cPosition p)).ok w v_p) (r0 : M.okP r p = true) (r1 : 0 ≤ depth) (r2 : depth ≤ 8) : RetV Try.prog 75 [v_r, v_p, .int .i64 depth] w (.int .i64 (M.sizeT r depth.toNat p)) := c_impl_Rules_sizeUpTo_ _ r v_r p v_p depth w h_r h_p r0 r1 r2 rfl

set_option maxRecDepth 100000 in
set_option maxHeartbeats 400000 in
theorem c_impl_searchCode (r : M.Rul) (v_r : Value) (p : M.Pos) (v_p : Value) (depth : Int) (w : World) (h_r : (Ty.agg (cRules r)).ok w v_r) (h_p : (Ty.agg (cPosition p)).ok w v_p) (r0 : p.pits.length ≤ 4194304) (r1 : p.stores.length ≤ 4194304) : RetV Try.prog 49 [v_r, v_p, .int .i64 depth] w (.int .i64 (M.srchC r p depth)) := by
  obtain rfl := open_Rules h_r
  obtain ⟨A2_0, c2_0, A2_1, c2_1, rfl, h2_0, h2_1, bl2_0, bh2_0, bl2_1, bh2_1⟩ := open_Position h_p
  refine enter @Try.func49 @Try.ntmps49 rfl rfl ?_
  refine Js.seq ?_
  refine Js.region ?_
  refine JL.e (e_box (c := [.int .i64 r.pits, .int .i64 r.seeds, .bool r.stores, .bool r.skip, .bool r.relay, .bool r.feed, .bool r.again, .int .i64 r.capture, .int .i64 r.slam]) rfl rfl) ?_
  rintro _ _ _ ⟨b3, rfl, rfl, rfl⟩ _
  refine JL.e (e_box (c := [.slice A2_0 p.pits.length c2_0, .slice A2_1 p.stores.length c2_1, .int .i64 p.player]) rfl rfl) ?_
  rintro _ _ _ ⟨b4, rfl, rfl, rfl⟩ _
  refine JL.q (OpP.q (p_assign rfl)) ?_
  refine JL.nil ?_
  refine Js.seq ?_
  refine Js.seq ?_
  refine Js.region ?_
  refine JL.q (q_loadN ty_31 rfl (Mem.boxR (i := 1) rfl 0 9) rfl rfl) ?_
  refine JL.q (q_loadN ty_33 rfl (Mem.boxR (i := 0) rfl 0 3) rfl rfl) ?_
  refine JL.e (e_callV fn_66 rfl (fun w hw => c_impl_ValidPosition r _ p _ w ⟨_, rfl, ⟨rfl, rfl, rfl, rfl, rfl, rfl, rfl, rfl, rfl, trivial⟩⟩ ⟨_, rfl, ⟨(Ty.mono _ h2_0 hw.vis), (Ty.mono _ h2_1 hw.vis), rfl, trivial⟩⟩ (by omega) (by omega))) ?_
  rintro _ _ _ ⟨rfl, rfl, rfl⟩ _
  refine JL.q (OpP.q (p_not rfl)) ?_
  refine JL.nil ?_
  refine Js.cond rfl (fun h5 => ?_) (fun h5 => ?_)
  ·
    have h5' := h5
    try simp only [Bool.not_eq_true'] at h5'
    have hE := M.srchC_1 (depth := depth) (by simpa using h5)
    refine Js.seq ?_
    refine Js.region ?_
    refine JL.q (OpP.q (p_assign rfl)) ?_
    refine JL.nil ?_
    refine Js.ret (R := RV w (.int .i64 (M.srchC r p depth))) @Try.results49 (fun _ _ => rfl) (ResOk.tmp rfl ResOk.nil) (fun w1 hw => ?_)
    refine ⟨?_, hw.ext (Up.refl _ _)⟩
    rw [hE]; rfl
  ·
    have h5' := h5
    try simp only [Bool.not_eq_false'] at h5'
    have hok : M.okP r p = true := by simpa using h5
    refine Js.skip ?_
    refine Js.seq ?_
    refine Js.seq ?_
    refine Js.region ?_
    refine JL.q (OpP.q (p_move rfl)) ?_
    refine JL.e (e_callV fn_74 rfl (fun w hw => c_impl_between depth 0 8 w)) ?_
    rintro _ _ _ ⟨rfl, rfl, rfl⟩ _
    refine JL.q (OpP.q (p_not rfl)) ?_
    refine JL.nil ?_
    refine Js.cond rfl (fun h6 => ?_) (fun h6 => ?_)
    ·
      have h6' := h6
      try simp only [Bool.not_eq_true'] at h6'
      have hE := M.srchC_2 hok (by simpa using h6)
      refine Js.seq ?_
      refine Js.region ?_
      refine JL.q (OpP.q (p_assign rfl)) ?_
      refine JL.nil ?_
      refine Js.ret (R := RV w (.int .i64 (M.srchC r p depth))) @Try.results49 (fun _ _ => rfl) (ResOk.tmp rfl ResOk.nil) (fun w1 hw => ?_)
      refine ⟨?_, hw.ext (Up.refl _ _)⟩
      rw [hE]; rfl
    ·
      have h6' := h6
      try simp only [Bool.not_eq_false'] at h6'
      have hbt : M.betw depth 0 8 = true := by simpa using h6
      obtain ⟨d0, d1⟩ := M.betw_iff.1 hbt
      refine Js.skip ?_
      refine Js.seq ?_
      refine Js.seq ?_
      refine Js.region ?_
      refine JL.q (q_loadN ty_31 rfl (Mem.boxR (i := 1) rfl 0 9) rfl rfl) ?_
      refine JL.q (q_loadN ty_33 rfl (Mem.boxR (i := 0) rfl 0 3) rfl rfl) ?_
      refine JL.q (OpP.q (p_move rfl)) ?_
      refine JL.e (e_callV fn_75 rfl (fun w hw => c_impl_Rules_sizeUpTo r _ p _ depth w ⟨_, rfl, ⟨rfl, rfl, rfl, rfl, rfl, rfl, rfl, rfl, rfl, trivial⟩⟩ ⟨_, rfl, ⟨(Ty.mono _ h2_0 hw.vis), (Ty.mono _ h2_1 hw.vis), rfl, trivial⟩⟩ hok (by omega) (by omega))) ?_
      rintro _ _ _ ⟨rfl, rfl, rfl⟩ _
      refine JL.q (OpP.q (p_gtr rfl rfl)) ?_
      refine JL.nil ?_
      refine Js.cond rfl (fun h7 => ?_) (fun h7 => ?_)
      ·
        have h7' := h7
        try simp only [decide_eq_true_eq] at h7'
        have hE := M.srchC_5 hok hbt ((M.sizeT_big _ _ _).1 (by simpa using h7))
        refine Js.seq ?_
        refine Js.region ?_
        refine JL.q (OpP.q (p_assign rfl)) ?_
        refine JL.nil ?_
        refine Js.ret (R := RV w (.int .i64 (M.srchC r p depth))) @Try.results49 (fun _ _ => rfl) (ResOk.tmp rfl ResOk.nil) (fun w1 hw => ?_)
        refine ⟨?_, hw.ext (Up.refl _ _)⟩
        rw [hE]; rfl
      ·
        have h7' := h7
        try simp only [decide_eq_false_iff_not, Int.not_lt] at h7'
        have hE := M.srchC_0 hok hbt (fun h9 => absurd ((M.sizeT_big _ _ _).2 h9) (by simpa using h7))
        refine Js.skip ?_
        refine Js.seq ?_
        refine Js.region ?_
        refine JL.q (OpP.q (p_assign rfl)) ?_
        refine JL.nil ?_
        refine Js.ret (R := RV w (.int .i64 (M.srchC r p depth))) @Try.results49 (fun _ _ => rfl) (ResOk.tmp rfl ResOk.nil) (fun w1 hw => ?_)
        refine ⟨?_, hw.ext (Up.refl _ _)⟩
        rw [hE]; rfl

set_option maxRecDepth 100000 in
set_option maxHeartbeats 400000 in
theorem c_impl_Rules_moveValue (r : M.Rul) (v_r : Value) (x : M.Res) (v_x : Value) (value : Int) (w : World) (h_r : (Ty.agg (cRules r)).ok w v_r) (h_x : (Ty.agg (cResult x)).ok w v_x) (r0 : -96 ≤ x.gain ∧ x.gain ≤ 96) (r1 : -100000 ≤ value ∧ value ≤ 100000) : RetV Try.prog 59 [v_r, v_x, .int .i64 value] w (.int .i64 (M.moveV x value)) := by
  obtain rfl := open_Rules h_r
  obtain ⟨A2_3, c2_3, A2_4, c2_4, rfl, h2_3, h2_4, bl2_3, bh2_3, bl2_4, bh2_4⟩ := open_Result h_x
  refine enter @Try.func59 @Try.ntmps59 rfl rfl ?_
  refine Js.seq ?_
  refine Js.region ?_
  refine JL.e (e_box (c := [.int .i64 r.pits, .int .i64 r.seeds, .bool r.stores, .bool r.skip, .bool r.relay, .bool r.feed, .bool r.again, .int .i64 r.capture, .int .i64 r.slam]) rfl rfl) ?_
  rintro _ _ _ ⟨b3, rfl, rfl, rfl⟩ _
  refine JL.e (e_box (c := [.int .i64 x.move, .int .i64 x.gain, .bool x.again, .slice A2_3 x.next.pits.length c2_3, .slice A2_4 x.next.stores.length c2_4, .int .i64 x.next.player]) rfl rfl) ?_
  rintro _ _ _ ⟨b4, rfl, rfl, rfl⟩ _
  refine JL.q (OpP.q (p_assign rfl)) ?_
  refine JL.nil ?_
  refine Js.seq ?_
  refine Js.seq ?_
  refine Js.region ?_
  refine JL.q (OpP.q (p_fieldAddr fld_74_2 rfl)) ?_
  refine JL.q (q_load1 ty_4 rfl (Mem.box (i := 0) rfl rfl)) ?_
  refine JL.nil ?_
  refine Js.cond rfl (fun h5 => ?_) (fun h5 => ?_)
  ·
    have h5' := h5
    have hE := M.moveV_y (v := value) h5
    refine Js.seq ?_
    refine Js.region ?_
    refine JL.q (OpP.q (p_fieldAddr fld_74_1 rfl)) ?_
    refine JL.q (q_load1 ty_2 rfl (Mem.box (i := 0) rfl rfl)) ?_
    refine JL.q (OpP.q (p_move rfl)) ?_
    refine JL.q (OpP.q (p_add rfl rfl (IntWalk.i64_in _ (by omega)))) ?_
    refine JL.q (OpP.q (p_assign rfl)) ?_
    refine JL.nil ?_
    refine Js.ret (R := RV w (.int .i64 (M.moveV x value))) @Try.results59 (fun _ _ => rfl) (ResOk.tmp rfl ResOk.nil) (fun w1 hw => ?_)
    refine ⟨?_, hw.ext (Up.refl _ _)⟩
    rw [hE]; rfl
  ·
    have h5' := h5
    have hE := M.moveV_n (v := value) (by simpa using h5)
    refine Js.skip ?_
    refine Js.seq ?_
    refine Js.region ?_
    refine JL.q (OpP.q (p_fieldAddr fld_74_1 rfl)) ?_
    refine JL.q (q_load1 ty_2 rfl (Mem.box (i := 0) rfl rfl)) ?_
    refine JL.q (OpP.q (p_move rfl)) ?_
    refine JL.q (OpP.q (p_sub rfl rfl (IntWalk.i64_in _ (by omega)))) ?_
    refine JL.q (OpP.q (p_assign rfl)) ?_
    refine JL.nil ?_
    refine Js.ret (R := RV w (.int .i64 (M.moveV x value))) @Try.results59 (fun _ _ => rfl) (ResOk.tmp rfl ResOk.nil) (fun w1 hw => ?_)
    refine ⟨?_, hw.ext (Up.refl _ _)⟩
    rw [hE]; rfl

def S_impl_Rules_value (N : Nat) : Prop := ∀ (r : M.Rul) (v_r : Value) (p : M.Pos) (v_p : Value) (depth : Int) (w : World) (h_r : (Ty.agg (cRules r)).ok w v_r) (h_p : (Ty.agg (cPosition p)).ok w v_p) (r0 : M.okP r p = true) (r1 : 0 ≤ depth) (r2 : depth ≤ 8) (_ : depth.toNat = N), RetV Try.prog 60 [v_r, v_p, .int .i64 depth] w (.int .i64 (M.val r depth.toNat p))
set_option maxRecDepth 100000 in
set_option maxHeartbeats 400000 in
theorem c_impl_Rules_value_ : ∀ N, S_impl_Rules_value N := by
  intro N
  induction N using Nat.strongRecOn with
  | ind N ih =>
  intro r v_r p v_p depth w h_r h_p r0 r1 r2 hN
  obtain ⟨g1, g2, g3, g4, g5, g6, g7⟩ := M.okP_bd r0
  have g8 := M.results_8 r0
  obtain rfl := open_Rules h_r
  obtain ⟨A2_0, c2_0, A2_1, c2_1, rfl, h2_0, h2_1, bl2_0, bh2_0, bl2_1, bh2_1⟩ := open_Position h_p
  refine enter @Try.func60 @Try.ntmps60 rfl rfl ?_
  refine Js.seq ?_
  refine Js.region ?_
  refine JL.e (e_box (c := [.int .i64 r.pits, .int .i64 r.seeds, .bool r.stores, .bool r.skip, .bool r.relay, .bool r.feed, .bool r.again, .int .i64 r.capture, .int .i64 r.slam]) rfl rfl) ?_
  rintro _ _ _ ⟨b3, rfl, rfl, rfl⟩ _
  refine JL.e (e_box (c := [.slice A2_0 p.pits.length c2_0, .slice A2_1 p.stores.length c2_1, .int .i64 p.player]) rfl rfl) ?_
  rintro _ _ _ ⟨b4, rfl, rfl, rfl⟩ _
  refine JL.q (OpP.q (p_assign rfl)) ?_
  refine JL.nil ?_
  refine Js.seq ?_
  refine Js.region ?_
  refine JL.q (q_loadN ty_31 rfl (Mem.boxR (i := 1) rfl 0 9) rfl rfl) ?_
  refine JL.q (q_loadN ty_33 rfl (Mem.boxR (i := 0) rfl 0 3) rfl rfl) ?_
  refine JL.e (e_callP fn_67 rfl (fun w hw => c_impl_Rules_results r _ p _ w ⟨_, rfl, ⟨rfl, rfl, rfl, rfl, rfl, rfl, rfl, rfl, rfl, trivial⟩⟩ ⟨_, rfl, ⟨(Ty.mono _ h2_0 hw.vis), (Ty.mono _ h2_1 hw.vis), rfl, trivial⟩⟩ r0)) ?_
  rintro v5 _ u7 ⟨h6, rfl⟩ x7
  obtain ⟨A8, c8, rfl, bl8, bh8⟩ := sl_form h6
  refine JL.q (OpP.q (p_assign rfl)) ?_
  refine JL.nil ?_
  refine Js.seq ?_
  refine Js.block ?_
  refine Js.seq ?_
  refine Js.region ?_
  refine JL.q (OpP.q (p_move rfl)) ?_
  refine JL.q (OpP.q (p_len el_90 rfl)) ?_
  refine JL.q (OpP.q (p_eql rfl rfl)) ?_
  refine JL.q (OpP.q (p_assign rfl)) ?_
  refine JL.nil ?_
  refine Js.cond rfl (fun h9 => ?_) (fun h9 => ?_)
  ·
    have h9' := h9
    try simp only [decide_eq_true_eq] at h9'
    have hE : M.val r depth.toNat p = M.endV r p := M.val_end (by have := h9'; omega)
    refine Js.seq ?_
    refine Js.region ?_
    refine JL.q (q_loadN ty_31 rfl (Mem.boxR (i := 1) rfl 0 9) rfl rfl) ?_
    refine JL.q (q_loadN ty_33 rfl (Mem.boxR (i := 0) rfl 0 3) rfl rfl) ?_
    refine JL.e (e_callV fn_82 rfl (fun w hw => c_impl_Rules_endValue r _ p _ w ⟨_, rfl, ⟨rfl, rfl, rfl, rfl, rfl, rfl, rfl, rfl, rfl, trivial⟩⟩ ⟨_, rfl, ⟨(Ty.mono _ h2_0 (x7.vis.trans hw.vis)), (Ty.mono _ h2_1 (x7.vis.trans hw.vis)), rfl, trivial⟩⟩ r0)) ?_
    rintro _ _ _ ⟨rfl, rfl, rfl⟩ _
    refine JL.q (OpP.q (p_assign rfl)) ?_
    refine JL.nil ?_
    refine Js.ret (R := RV w (.int .i64 (M.val r depth.toNat p))) @Try.results60 (fun _ _ => rfl) (ResOk.tmp rfl ResOk.nil) (fun w1 hw => ?_)
    refine ⟨?_, hw.ext (x7)⟩
    rw [hE]; rfl
  ·
    have h9' := h9
    try simp only [decide_eq_false_iff_not] at h9'
    have hne : (M.results r p).length ≠ 0 := by have := h9'; omega
    refine Js.seq ?_
    refine Js.region ?_
    refine JL.q (OpP.q (p_move rfl)) ?_
    refine JL.q (OpP.q (p_eql rfl rfl)) ?_
    refine JL.q (OpP.q (p_assign rfl)) ?_
    refine JL.nil ?_
    refine Js.cond rfl (fun h10 => ?_) (fun h10 => ?_)
    ·
      have h10' := h10
      try simp only [decide_eq_true_eq] at h10'
      have hE : M.val r depth.toNat p = 0 := by rw [show depth.toNat = 0 by have := h10'; omega]; exact M.val_0 hne
      refine Js.seq ?_
      refine Js.region ?_
      refine JL.q (OpP.q (p_assign rfl)) ?_
      refine JL.nil ?_
      refine Js.ret (R := RV w (.int .i64 (M.val r depth.toNat p))) @Try.results60 (fun _ _ => rfl) (ResOk.tmp rfl ResOk.nil) (fun w1 hw => ?_)
      refine ⟨?_, hw.ext (x7)⟩
      rw [hE]; rfl
    ·
      have h10' := h10
      try simp only [decide_eq_false_iff_not] at h10'
      have hd : 1 ≤ depth := by have := h10'; omega
      refine Js.skip ?_
      refine Js.blockEnd ?_
      refine Js.seq ?_
      refine Js.region ?_
      refine JL.q (OpP.q (p_assign rfl)) ?_
      refine JL.nil ?_
      refine Js.seq ?_
      refine Js.seq ?_
      refine Js.region ?_
      refine JL.q (OpP.q (p_move rfl)) ?_
      refine JL.q (OpP.q (p_len el_90 rfl)) ?_
      refine JL.q (OpP.q (p_move rfl)) ?_
      refine JL.nil ?_
      refine Js.block ?_
      refine Js.loop (fun l os u m => ∃ (k : Nat) (b : Int), l = [(2, .int .i64 depth), (3, .pointer (some ⟨b3, 0, none⟩)), (8, .int .i64 b), (25, .slice A8 ((M.results r p).length) c8), (26, .int .i64 (((M.results r p).length) : Int)), (27, .int .i64 (k : Int))] ∧ os = [boxO b4 [.slice A2_0 p.pits.length c2_0, .slice A2_1 p.stores.length c2_1, .int .i64 p.player] 33, boxO b3 [.int .i64 r.pits, .int .i64 r.seeds, .bool r.stores, .bool r.skip, .bool r.relay, .bool r.feed, .bool r.again, .int .i64 r.capture, .int .i64 r.slam] 31] ∧ Up w.heap.size u7 u ∧ (M.bestF (decide (k = 0)) b ((M.vals r (depth - 1).toNat p).drop k) = M.val r depth.toNat p) ∧ (-2000 ≤ b) ∧ (b ≤ 2000) ∧ (k ≤ (M.results r p).length) ∧ m = (M.results r p).length - k) ⟨0, 0, rfl, rfl, Up.refl _ _, by exact (M.val_d hne hd).symm, by first | assumption | omega | rfl | (simp; done), by first | assumption | omega | rfl | (simp; done), by first | assumption | omega | rfl | (simp; done), rfl⟩ ⟨rfl, rfl, rfl, rfl, rfl, rfl, trivial⟩ ?_
      · rintro _ _ u11 _ ⟨k, b, rfl, rfl, x11, hS, b0, b1, hk, rfl⟩
        refine Js.seq ?_
        refine Js.region ?_
        refine JL.q (OpP.q (p_lss rfl rfl)) ?_
        refine JL.nil ?_
        refine Js.seq ?_
        refine Js.cond rfl (fun h12 => ?_) (fun h12 => ?_)
        ·
          have h12' := h12
          try simp only [decide_eq_true_eq] at h12'
          refine Js.skip ?_
          refine Js.seq ?_
          refine Js.block ?_
          refine Js.seq ?_
          refine Js.region ?_
          refine JL.q (OpP.q (p_move rfl)) ?_
          obtain ⟨y13, hy13⟩ : ∃ x, (M.results r p)[k]? = some x := ⟨_, List.getElem?_eq_getElem (by omega)⟩
          obtain ⟨b13, o13, A13_3, c13_3, A13_4, c13_4, he13, hr13, h13_3, h13_4, bl13_3, bh13_3, bl13_4, bh13_4⟩ := elem_Result (Ty.mono _ h6 x11.vis) hy13
          refine JL.q (OpP.q (p_indexAddr el_90 rfl rfl (by omega) (by omega) he13)) ?_
          refine JL.q (q_loadN ty_74 rfl (Mem.pubR (hr13.sub 0 6)) rfl rfl) ?_
          refine JL.e (e_alloc zero_74) ?_
          rintro _ _ _ ⟨b14, rfl, rfl, rfl⟩ _
          refine JL.q (OpP.q (p_assign rfl)) ?_
          refine JL.s (e_store (i := 0) (c' := [.int .i64 y13.move, .int .i64 y13.gain, .bool y13.again, .slice A13_3 y13.next.pits.length c13_3, .slice A13_4 y13.next.stores.length c13_4, .int .i64 y13.next.player]) ty_74 rfl rfl rfl rfl rfl rfl rfl rfl) ?_
          rintro _ _ _ ⟨rfl, rfl⟩ _
          refine JL.nil ?_
          refine Js.seq ?_
          refine Js.drawn _ [] mixed_ (fun _ h => h) ?_
          refine JH.q 0 rfl (q_loadN ty_31 rfl (Mem.boxR (i := 2) rfl 0 9) rfl rfl) ?_
          refine JH.q 1 rfl (q_loadN ty_74 rfl (Mem.boxR (i := 0) rfl 0 6) rfl rfl) ?_
          refine JH.q 2 rfl (q_loadN ty_31 rfl (Mem.boxR (i := 2) rfl 0 9) rfl rfl) ?_
          refine JH.p 3 rfl (p_fieldAddr fld_74_3 rfl) ?_
          refine JH.q 4 rfl (q_loadN ty_33 rfl (Mem.boxR (i := 0) rfl 3 3) rfl rfl) ?_
          refine JH.p 5 rfl (p_move rfl) ?_
          refine JH.p 6 rfl (p_sub rfl rfl (IntWalk.i64_in _ (by omega))) ?_
          refine JH.one (i := 7) (by kernel_rfl) ?_
          have hvb9 := M.val_bd (depth - 1).toNat y13.next (M.results_ok (M.results_get0 hy13))
          have hgb9 := M.results_gain (M.results_get0 hy13)
          have hmb9 := M.moveV_bd hgb9 hvb9
          refine JHo.e rfl (e_callV fn_60 rfl (fun w hw => ih ((depth - 1).toNat) (by omega) r _ y13.next _ (depth - 1) w ⟨_, rfl, ⟨rfl, rfl, rfl, rfl, rfl, rfl, rfl, rfl, rfl, trivial⟩⟩ ⟨_, rfl, ⟨(Ty.mono _ h13_3 hw.vis), (Ty.mono _ h13_4 hw.vis), rfl, trivial⟩⟩ (M.results_ok (M.results_get0 hy13)) (by omega) (by omega) rfl)) (.inl rfl) ?_
          rintro _ _ _ ⟨rfl, rfl, rfl⟩ _
          refine JH.one (i := 8) (by kernel_rfl) ?_
          refine JHo.e rfl (e_callV fn_59 rfl (fun w hw => c_impl_Rules_moveValue r _ y13 _ (M.val r (depth - 1).toNat y13.next) w ⟨_, rfl, ⟨rfl, rfl, rfl, rfl, rfl, rfl, rfl, rfl, rfl, trivial⟩⟩ ⟨_, rfl, ⟨rfl, rfl, rfl, (Ty.mono _ h13_3 hw.vis), (Ty.mono _ h13_4 hw.vis), rfl, trivial⟩⟩ hgb9 (by omega))) (.inl rfl) ?_
          rintro _ _ _ ⟨rfl, rfl, rfl⟩ _
          refine JH.p 9 rfl (p_assign rfl) ?_
          refine JH.done (by kernel_rfl) ?_
          refine Js.seq ?_
          refine Js.region ?_
          refine JL.q (OpP.q (p_move rfl)) ?_
          refine JL.q (OpP.q (p_eql rfl rfl)) ?_
          refine JL.q (OpP.q (p_move rfl)) ?_
          refine JL.g (Gd.f1 rfl rfl rfl) (fun hc => OpP.q (p_move rfl)) ?_
          refine JL.g (Gd.f1 rfl rfl rfl) (fun hc => OpP.q (p_move rfl)) ?_
          refine JL.g (Gd.f1 rfl rfl rfl) (fun hc => OpP.q (p_gtr (gvt rfl hc) (gvt rfl hc))) ?_
          refine JL.q (OpP.q (p_pickOr rfl rfl rfl)) ?_
          refine JL.nil ?_
          refine Js.cond rfl (fun h15 => ?_) (fun h15 => ?_)
          ·
            have h15' := h15
            try simp only [Bool.or_eq_true, decide_eq_true_eq] at h15'
            have hS2 := M.bestF_y hS (M.vals_get hy13) (by have := h15'; omega)
            refine Js.region ?_
            refine JL.q (OpP.q (p_move rfl)) ?_
            refine JL.q (OpP.q (p_assign rfl)) ?_
            refine JL.nil ?_
            refine Js.blockEnd ?_
            refine Js.region ?_
            refine JL.q (OpP.q (p_add rfl rfl (IntWalk.i64_in _ (by omega)))) ?_
            refine JL.q (OpP.q (p_move rfl)) ?_
            refine JL.nil ?_
            refine Js.drop (i := 0) rfl rfl (fun u16 x16 => ?_)
            exact Js.again ⟨k + 1, M.moveV y13 (M.val r (depth - 1).toNat y13.next), rfl, rfl, (x11.trans x16), by exact hS2, by first | assumption | omega | rfl | (simp; done), by first | assumption | omega | rfl | (simp; done), by first | assumption | omega | rfl | (simp; done), rfl⟩ (by omega) ⟨rfl, rfl, rfl, rfl, rfl, rfl, trivial⟩
          ·
            have h15' := h15
            try simp only [Bool.or_eq_false_iff, decide_eq_false_iff_not, Int.not_lt] at h15'
            have hS2 := M.bestF_n hS (M.vals_get hy13) (by have := h15'; omega)
            refine Js.skip ?_
            refine Js.blockEnd ?_
            refine Js.region ?_
            refine JL.q (OpP.q (p_add rfl rfl (IntWalk.i64_in _ (by omega)))) ?_
            refine JL.q (OpP.q (p_move rfl)) ?_
            refine JL.nil ?_
            refine Js.drop (i := 0) rfl rfl (fun u17 x17 => ?_)
            exact Js.again ⟨k + 1, b, rfl, rfl, (x11.trans x17), by exact hS2, by first | assumption | omega | rfl | (simp; done), by first | assumption | omega | rfl | (simp; done), by first | assumption | omega | rfl | (simp; done), rfl⟩ (by omega) ⟨rfl, rfl, rfl, rfl, rfl, rfl, trivial⟩
        ·
          have h12' := h12
          try simp only [decide_eq_false_iff_not, Int.not_lt] at h12'
          have hE := M.bestF_e hS (by rw [M.vals_len]; have := h12'; omega)
          refine Js.exit (fun _ _ => rfl) ?_
          refine Js.seq ?_
          refine Js.region ?_
          refine JL.q (OpP.q (p_move rfl)) ?_
          refine JL.q (OpP.q (p_assign rfl)) ?_
          refine JL.nil ?_
          refine Js.ret (R := RV w (.int .i64 (M.val r depth.toNat p))) @Try.results60 (fun _ _ => rfl) (ResOk.tmp rfl ResOk.nil) (fun w1 hw => ?_)
          refine ⟨?_, hw.ext ((x7.trans x11))⟩
          rw [hE]; rfl

theorem c_impl_Rules_value (r : M.Rul) (v_r : Value) (p : M.Pos) (v_p : Value) (depth : Int) (w : World) (h_r : (Ty.agg (cRules r)).ok w v_r) (h_p : (Ty.agg (cPosition p)).ok w v_p) (r0 : M.okP r p = true) (r1 : 0 ≤ depth) (r2 : depth ≤ 8) : RetV Try.prog 60 [v_r, v_p, .int .i64 depth] w (.int .i64 (M.val r depth.toNat p)) := c_impl_Rules_value_ _ r v_r p v_p depth w h_r h_p r0 r1 r2 rfl

set_option maxRecDepth 100000 in
set_option maxHeartbeats 400000 in
theorem c_impl_Rules_options (r : M.Rul) (v_r : Value) (p : M.Pos) (v_p : Value) (depth : Int) (w : World) (h_r : (Ty.agg (cRules r)).ok w v_r) (h_p : (Ty.agg (cPosition p)).ok w v_p) (r0 : M.okP r p = true) (r1 : 1 ≤ depth) (r2 : depth ≤ 8) : Ret Try.prog 44 [v_r, v_p, .int .i64 depth] w (Ty.sl 69 2 (M.opts r p depth).length (lOption (M.opts r p depth))) := by
  obtain ⟨g1, g2, g3, g4, g5, g6, g7⟩ := M.okP_bd r0
  have g8 := M.results_8 r0
  obtain rfl := open_Rules h_r
  obtain ⟨A2_0, c2_0, A2_1, c2_1, rfl, h2_0, h2_1, bl2_0, bh2_0, bl2_1, bh2_1⟩ := open_Position h_p
  refine enter @Try.func44 @Try.ntmps44 rfl rfl ?_
  refine Js.seq ?_
  refine Js.region ?_
  refine JL.e (e_box (c := [.int .i64 r.pits, .int .i64 r.seeds, .bool r.stores, .bool r.skip, .bool r.relay, .bool r.feed, .bool r.again, .int .i64 r.capture, .int .i64 r.slam]) rfl rfl) ?_
  rintro _ _ _ ⟨b3, rfl, rfl, rfl⟩ _
  refine JL.e (e_box (c := [.slice A2_0 p.pits.length c2_0, .slice A2_1 p.stores.length c2_1, .int .i64 p.player]) rfl rfl) ?_
  rintro _ _ _ ⟨b4, rfl, rfl, rfl⟩ _
  refine JL.q (OpP.q (p_assign rfl)) ?_
  refine JL.nil ?_
  refine Js.seq ?_
  refine Js.region ?_
  refine JL.e (e_buildSlice (vs := []) el_28 rfl rfl rfl rfl rfl rfl) ?_
  rintro _ _ _ ⟨b5, rfl, rfl, hl6, rfl⟩ _
  refine JL.q (OpP.q (p_assign rfl)) ?_
  refine JL.nil ?_
  refine Js.seq ?_
  refine Js.seq ?_
  refine Js.region ?_
  refine JL.q (q_loadN ty_31 rfl (Mem.boxR (i := 2) rfl 0 9) rfl rfl) ?_
  refine JL.q (q_loadN ty_33 rfl (Mem.boxR (i := 1) rfl 0 3) rfl rfl) ?_
  refine JL.e (e_callP fn_67 rfl (fun w hw => c_impl_Rules_results r _ p _ w ⟨_, rfl, ⟨rfl, rfl, rfl, rfl, rfl, rfl, rfl, rfl, rfl, trivial⟩⟩ ⟨_, rfl, ⟨(Ty.mono _ h2_0 hw.vis), (Ty.mono _ h2_1 hw.vis), rfl, trivial⟩⟩ r0)) ?_
  rintro v7 _ u9 ⟨h8, rfl⟩ x9
  obtain ⟨A10, c10, rfl, bl10, bh10⟩ := sl_form h8
  refine JL.q (OpP.q (p_len el_90 rfl)) ?_
  refine JL.q (OpP.q (p_move rfl)) ?_
  refine JL.nil ?_
  refine Js.block ?_
  refine Js.vals (Ts := lOption []) (vs := []) (fun w => rfl) ?_
  refine Js.loop (fun l os u m => ∃ (k : Nat) (acc : List M.Opt) (A11_7 : Option Addr) (c11_7 : Nat) (g11_7 : List Nat) (vs11_7 : List Value) (fl11_7 : List Nat), l = [(2, .int .i64 depth), (3, .pointer (some ⟨b3, 0, none⟩)), (7, .slice A11_7 acc.length c11_7), (13, .slice A10 ((M.results r p).length) c10), (14, .int .i64 (((M.results r p).length) : Int)), (15, .int .i64 (k : Int))] ∧ os = [ownC (lOption acc) vs11_7 fl11_7, rowO 69 2 (.slice A11_7 acc.length c11_7) acc.length vs11_7 g11_7, boxO b4 [.slice A2_0 p.pits.length c2_0, .slice A2_1 p.stores.length c2_1, .int .i64 p.player] 33, boxO b3 [.int .i64 r.pits, .int .i64 r.seeds, .bool r.stores, .bool r.skip, .bool r.relay, .bool r.feed, .bool r.again, .int .i64 r.capture, .int .i64 r.slam] 31] ∧ Up w.heap.size u9 u ∧ (acc = (M.opts r p depth).take k) ∧ (k ≤ (M.results r p).length) ∧ (acc.length = k) ∧ (acc.length ≤ c11_7) ∧ (c11_7 ≤ 9223372036854775807) ∧ m = (M.results r p).length - k) ⟨0, [], _, _, _, _, _, rfl, rfl, Up.refl _ _, by rfl, by first | assumption | omega | rfl | (simp; done), by rfl, by first | omega | (simp only [List.length_append, List.length_cons, List.length_nil] <;> omega), by first | omega | (simp only [List.length_append, List.length_cons, List.length_nil] <;> omega), rfl⟩ ⟨rfl, rfl, rfl, rfl, rfl, rfl, trivial⟩ ?_
  · rintro _ _ u11 _ ⟨k, acc, A11_7, c11_7, g11_7, vs11_7, fl11_7, rfl, rfl, x11, hA, hk, hl, f11_3, f11_4, rfl⟩
    refine Js.seq ?_
    refine Js.region ?_
    refine JL.q (OpP.q (p_lss rfl rfl)) ?_
    refine JL.nil ?_
    refine Js.seq ?_
    refine Js.cond rfl (fun h12 => ?_) (fun h12 => ?_)
    ·
      have h12' := h12
      try simp only [decide_eq_true_eq] at h12'
      refine Js.skip ?_
      refine Js.seq ?_
      refine Js.block ?_
      refine Js.seq ?_
      refine Js.region ?_
      obtain ⟨y13, hy13⟩ : ∃ x, (M.results r p)[k]? = some x := ⟨_, List.getElem?_eq_getElem (by omega)⟩
      obtain ⟨b13, o13, A13_3, c13_3, A13_4, c13_4, he13, hr13, h13_3, h13_4, bl13_3, bh13_3, bl13_4, bh13_4⟩ := elem_Result (Ty.mono _ h8 x11.vis) hy13
      refine JL.q (OpP.q (p_indexAddr el_90 rfl rfl (by omega) (by omega) he13)) ?_
      refine JL.q (q_loadN ty_74 rfl (Mem.pubR (hr13.sub 0 6)) rfl rfl) ?_
      refine JL.e (e_alloc zero_74) ?_
      rintro _ _ _ ⟨b14, rfl, rfl, rfl⟩ _
      refine JL.s (e_store (i := 0) (c' := [.int .i64 y13.move, .int .i64 y13.gain, .bool y13.again, .slice A13_3 y13.next.pits.length c13_3, .slice A13_4 y13.next.stores.length c13_4, .int .i64 y13.next.player]) ty_74 rfl rfl rfl rfl rfl rfl rfl rfl) ?_
      rintro _ _ _ ⟨rfl, rfl⟩ _
      refine JL.nil ?_
      refine Js.drawn _ [14] mixed_ (fun _ h => h) ?_
      refine JH.p 0 rfl (p_move rfl) ?_
      refine JH.p 1 rfl (p_fieldAddr fld_74_0 rfl) ?_
      refine JH.q 2 rfl (q_load1 ty_2 rfl (Mem.box (i := 0) rfl rfl)) ?_
      refine JH.q 3 rfl (q_loadN ty_31 rfl (Mem.boxR (i := 4) rfl 0 9) rfl rfl) ?_
      refine JH.q 4 rfl (q_loadN ty_74 rfl (Mem.boxR (i := 0) rfl 0 6) rfl rfl) ?_
      refine JH.q 5 rfl (q_loadN ty_31 rfl (Mem.boxR (i := 4) rfl 0 9) rfl rfl) ?_
      refine JH.p 6 rfl (p_fieldAddr fld_74_3 rfl) ?_
      refine JH.q 7 rfl (q_loadN ty_33 rfl (Mem.boxR (i := 0) rfl 3 3) rfl rfl) ?_
      refine JH.p 8 rfl (p_move rfl) ?_
      refine JH.p 9 rfl (p_sub rfl rfl (IntWalk.i64_in _ (by omega))) ?_
      refine JH.one (i := 10) (by kernel_rfl) ?_
      have hvb9 := M.val_bd (depth - 1).toNat y13.next (M.results_ok (M.results_get0 hy13))
      have hgb9 := M.results_gain (M.results_get0 hy13)
      have hmb9 := M.moveV_bd hgb9 hvb9
      refine JHo.e rfl (e_callV fn_60 rfl (fun w hw => c_impl_Rules_value r _ y13.next _ (depth - 1) w ⟨_, rfl, ⟨rfl, rfl, rfl, rfl, rfl, rfl, rfl, rfl, rfl, trivial⟩⟩ ⟨_, rfl, ⟨(Ty.mono _ h13_3 hw.vis), (Ty.mono _ h13_4 hw.vis), rfl, trivial⟩⟩ (M.results_ok (M.results_get0 hy13)) (by omega) (by omega))) (.inl rfl) ?_
      rintro _ _ _ ⟨rfl, rfl, rfl⟩ _
      refine JH.one (i := 11) (by kernel_rfl) ?_
      refine JHo.e rfl (e_callV fn_59 rfl (fun w hw => c_impl_Rules_moveValue r _ y13 _ (M.val r (depth - 1).toNat y13.next) w ⟨_, rfl, ⟨rfl, rfl, rfl, rfl, rfl, rfl, rfl, rfl, rfl, trivial⟩⟩ ⟨_, rfl, ⟨rfl, rfl, rfl, (Ty.mono _ h13_3 hw.vis), (Ty.mono _ h13_4 hw.vis), rfl, trivial⟩⟩ hgb9 (by omega))) (.inl rfl) ?_
      rintro _ _ _ ⟨rfl, rfl, rfl⟩ _
      refine JH.p 12 rfl (p_build zero_69 flds_69 rfl rfl) ?_
      refine JH.one (i := 13) (by kernel_rfl) ?_
      refine JHo.e rfl (e_buildSlice (vs := [.int .i64 y13.move, .int .i64 (M.moveV y13 (M.val r (depth - 1).toNat y13.next))]) el_28 rfl rfl rfl rfl rfl rfl) (.inl rfl) ?_
      rintro _ _ _ ⟨b15, rfl, rfl, hl16, rfl⟩ _
      refine JH.one (i := 14) (by kernel_rfl) ?_
      refine JHo.e rfl (e_append (i := 3) (n' := (acc ++ [(M.Opt.mk y13.move (M.moveV y13 (M.val r (depth - 1).toNat y13.next)))]).length) (vs' := vs11_7 ++ [.int .i64 y13.move, .int .i64 (M.moveV y13 (M.val r (depth - 1).toNat y13.next))]) el_28 rfl rfl rfl rfl (src_row (i := 0) und_28 rfl rfl) (by omega) (by omega) (by first | omega | (simp only [List.length_append, List.length_cons, List.length_nil] <;> omega)) (rfl)) (.inr rfl) ?_
      rintro v17 _ _ ⟨⟨g18, rfl⟩, rfl⟩ _
      refine JH.fact (row_form' (i := 3) rfl) (fun hf19 => ?_)
      obtain ⟨A19, c19, rfl, bl19, bh19⟩ := hf19
      refine JH.p 15 rfl (p_assign rfl) ?_
      refine JH.done (by kernel_rfl) ?_
      refine Js.vals (Ts := cOption (M.Opt.mk y13.move (M.moveV y13 (M.val r (depth - 1).toNat y13.next)))) (vs := [.int .i64 y13.move, .int .i64 (M.moveV y13 (M.val r (depth - 1).toNat y13.next))]) (fun w => ⟨[], [], rfl, ⟨rfl, rfl⟩, ⟨[], [], rfl, ⟨rfl, rfl⟩, rfl⟩⟩) ?_
      refine Js.joinL (i := 3) (j := 0) (Vs := lOption (acc ++ [(M.Opt.mk y13.move (M.moveV y13 (M.val r (depth - 1).toNat y13.next)))])) rfl rfl (lOption_snoc _ _) (fun f21 => ?_)
      refine Js.blockEnd ?_
      refine Js.region ?_
      refine JL.q (OpP.q (p_add rfl rfl (IntWalk.i64_in _ (by omega)))) ?_
      refine JL.q (OpP.q (p_move rfl)) ?_
      refine JL.nil ?_
      refine Js.drop (i := 1) rfl rfl (fun u22 x22 => ?_)
      refine Js.drop (i := 1) rfl rfl (fun u23 x23 => ?_)
      exact Js.again ⟨k + 1, acc ++ [(M.Opt.mk y13.move (M.moveV y13 (M.val r (depth - 1).toNat y13.next)))], _, _, _, _, _, rfl, rfl, ((x11.trans x22).trans x23), by rw [hA]; exact (M.opts_step (by assumption)).symm, by first | assumption | omega | rfl | (simp; done), by simp [hl], by first | omega | (simp only [List.length_append, List.length_cons, List.length_nil] <;> omega), by first | omega | (simp only [List.length_append, List.length_cons, List.length_nil] <;> omega), rfl⟩ (by omega) ⟨rfl, rfl, rfl, rfl, rfl, rfl, trivial⟩
    ·
      have h12' := h12
      try simp only [decide_eq_false_iff_not, Int.not_lt] at h12'
      have hE : acc = M.opts r p depth := by rw [hA, List.take_of_length_le (by rw [M.opts_len]; have := h12'; omega)]
      refine Js.exit (fun _ _ => rfl) ?_
      refine Js.seq ?_
      refine Js.region ?_
      refine JL.q (OpP.q (p_move rfl)) ?_
      refine JL.q (OpP.q (p_assign rfl)) ?_
      refine JL.nil ?_
      refine Js.ret (R := RO w (Ty.sl 69 2 (M.opts r p depth).length (lOption (M.opts r p depth)))) @Try.results44 (fun _ _ => rfl) (ResOk.tmp rfl ResOk.nil) (fun w1 hw => ?_)
      have hx := hw.ext ((x9.trans x11))
      exact ret_own (ps := [(1, (Value.ownBlock (.slice A11_7 acc.length c11_7)).toList), (0, fl11_7)]) hw hx (srow_own lOption (hw.pr (i := 1) rfl) (hw.pr (i := 0) rfl) (lOption_length _) (show acc = M.opts r p depth by exact hE)) (Pick.cons (j := 1) rfl (List.sublist_append_left _ _) rfl (Pick.cons (j := 0) rfl (List.Sublist.refl _) rfl Pick.nil)) (by simp [List.flatten, outV])

set_option maxRecDepth 100000 in
set_option maxHeartbeats 400000 in
theorem c_impl_optionsCode (r : M.Rul) (v_r : Value) (p : M.Pos) (v_p : Value) (depth : Int) (w : World) (h_r : (Ty.agg (cRules r)).ok w v_r) (h_p : (Ty.agg (cPosition p)).ok w v_p) (r0 : p.pits.length ≤ 4194304) (r1 : p.stores.length ≤ 4194304) : RetV Try.prog 43 [v_r, v_p, .int .i64 depth] w (.int .i64 (M.optsC r p depth)) := by
  obtain rfl := open_Rules h_r
  obtain ⟨A2_0, c2_0, A2_1, c2_1, rfl, h2_0, h2_1, bl2_0, bh2_0, bl2_1, bh2_1⟩ := open_Position h_p
  refine enter @Try.func43 @Try.ntmps43 rfl rfl ?_
  refine Js.seq ?_
  refine Js.region ?_
  refine JL.e (e_box (c := [.int .i64 r.pits, .int .i64 r.seeds, .bool r.stores, .bool r.skip, .bool r.relay, .bool r.feed, .bool r.again, .int .i64 r.capture, .int .i64 r.slam]) rfl rfl) ?_
  rintro _ _ _ ⟨b3, rfl, rfl, rfl⟩ _
  refine JL.e (e_box (c := [.slice A2_0 p.pits.length c2_0, .slice A2_1 p.stores.length c2_1, .int .i64 p.player]) rfl rfl) ?_
  rintro _ _ _ ⟨b4, rfl, rfl, rfl⟩ _
  refine JL.q (OpP.q (p_assign rfl)) ?_
  refine JL.nil ?_
  refine Js.seq ?_
  refine Js.seq ?_
  refine Js.region ?_
  refine JL.q (q_loadN ty_31 rfl (Mem.boxR (i := 1) rfl 0 9) rfl rfl) ?_
  refine JL.q (q_loadN ty_33 rfl (Mem.boxR (i := 0) rfl 0 3) rfl rfl) ?_
  refine JL.e (e_callV fn_66 rfl (fun w hw => c_impl_ValidPosition r _ p _ w ⟨_, rfl, ⟨rfl, rfl, rfl, rfl, rfl, rfl, rfl, rfl, rfl, trivial⟩⟩ ⟨_, rfl, ⟨(Ty.mono _ h2_0 hw.vis), (Ty.mono _ h2_1 hw.vis), rfl, trivial⟩⟩ (by omega) (by omega))) ?_
  rintro _ _ _ ⟨rfl, rfl, rfl⟩ _
  refine JL.q (OpP.q (p_move rfl)) ?_
  refine JL.g (Gd.t1 rfl rfl rfl) (fun hc => OpP.q (p_move rfl)) ?_
  refine JL.g (Gd.t1 rfl rfl rfl) (fun hc => OpP.q (p_eql (gvt rfl hc) rfl)) ?_
  refine JL.q (OpP.q (p_pickAnd rfl rfl rfl)) ?_
  refine JL.nil ?_
  refine Js.cond rfl (fun h5 => ?_) (fun h5 => ?_)
  ·
    have h5' := h5
    try simp only [Bool.and_eq_true, decide_eq_true_eq] at h5'
    have hE := M.optsC_2 (r := r) (p := p) (depth := depth) (by simpa using h5)
    refine Js.seq ?_
    refine Js.region ?_
    refine JL.q (OpP.q (p_assign rfl)) ?_
    refine JL.nil ?_
    refine Js.ret (R := RV w (.int .i64 (M.optsC r p depth))) @Try.results43 (fun _ _ => rfl) (ResOk.tmp rfl ResOk.nil) (fun w1 hw => ?_)
    refine ⟨?_, hw.ext (Up.refl _ _)⟩
    rw [hE]; rfl
  ·
    have h5' := h5
    try simp only [Bool.and_eq_false_iff, decide_eq_false_iff_not] at h5'
    have hE := M.optsC_s (r := r) (p := p) (depth := depth) (by rintro ⟨a, b⟩; simp [a, b] at h5)
    refine Js.skip ?_
    refine Js.seq ?_
    refine Js.region ?_
    refine JL.q (q_loadN ty_31 rfl (Mem.boxR (i := 1) rfl 0 9) rfl rfl) ?_
    refine JL.q (q_loadN ty_33 rfl (Mem.boxR (i := 0) rfl 0 3) rfl rfl) ?_
    refine JL.q (OpP.q (p_move rfl)) ?_
    refine JL.e (e_callV fn_49 rfl (fun w hw => c_impl_searchCode r _ p _ depth w ⟨_, rfl, ⟨rfl, rfl, rfl, rfl, rfl, rfl, rfl, rfl, rfl, trivial⟩⟩ ⟨_, rfl, ⟨(Ty.mono _ h2_0 hw.vis), (Ty.mono _ h2_1 hw.vis), rfl, trivial⟩⟩ (by omega) (by omega))) ?_
    rintro _ _ _ ⟨rfl, rfl, rfl⟩ _
    refine JL.q (OpP.q (p_assign rfl)) ?_
    refine JL.nil ?_
    refine Js.ret (R := RV w (.int .i64 (M.optsC r p depth))) @Try.results43 (fun _ _ => rfl) (ResOk.tmp rfl ResOk.nil) (fun w1 hw => ?_)
    refine ⟨?_, hw.ext (Up.refl _ _)⟩
    rw [hE]; rfl

set_option maxRecDepth 100000 in
set_option maxHeartbeats 400000 in
theorem c_impl_SearchOptions (r : M.Rul) (v_r : Value) (p : M.Pos) (v_p : Value) (depth : Int) (w : World) (h_r : (Ty.agg (cRules r)).ok w v_r) (h_p : (Ty.agg (cPosition p)).ok w v_p) (r0 : p.pits.length ≤ 4194304) (r1 : p.stores.length ≤ 4194304) : Ret Try.prog 14 [v_r, v_p, .int .i64 depth] w (Ty.tup [Ty.sl 69 2 (M.optsR r p depth).length (lOption (M.optsR r p depth)), Ty.int (M.optsC r p depth)]) := by
  obtain rfl := open_Rules h_r
  obtain ⟨A2_0, c2_0, A2_1, c2_1, rfl, h2_0, h2_1, bl2_0, bh2_0, bl2_1, bh2_1⟩ := open_Position h_p
  refine enter @Try.func14 @Try.ntmps14 rfl rfl ?_
  refine Js.seq ?_
  refine Js.region ?_
  refine JL.e (e_box (c := [.int .i64 r.pits, .int .i64 r.seeds, .bool r.stores, .bool r.skip, .bool r.relay, .bool r.feed, .bool r.again, .int .i64 r.capture, .int .i64 r.slam]) rfl rfl) ?_
  rintro _ _ _ ⟨b3, rfl, rfl, rfl⟩ _
  refine JL.e (e_box (c := [.slice A2_0 p.pits.length c2_0, .slice A2_1 p.stores.length c2_1, .int .i64 p.player]) rfl rfl) ?_
  rintro _ _ _ ⟨b4, rfl, rfl, rfl⟩ _
  refine JL.q (OpP.q (p_assign rfl)) ?_
  refine JL.q (OpP.q (p_assign rfl)) ?_
  refine JL.nil ?_
  refine Js.seq ?_
  refine Js.seq ?_
  refine Js.region ?_
  refine JL.q (q_loadN ty_31 rfl (Mem.boxR (i := 1) rfl 0 9) rfl rfl) ?_
  refine JL.q (q_loadN ty_33 rfl (Mem.boxR (i := 0) rfl 0 3) rfl rfl) ?_
  refine JL.q (OpP.q (p_move rfl)) ?_
  refine JL.e (e_callV fn_43 rfl (fun w hw => c_impl_optionsCode r _ p _ depth w ⟨_, rfl, ⟨rfl, rfl, rfl, rfl, rfl, rfl, rfl, rfl, rfl, trivial⟩⟩ ⟨_, rfl, ⟨(Ty.mono _ h2_0 hw.vis), (Ty.mono _ h2_1 hw.vis), rfl, trivial⟩⟩ (by omega) (by omega))) ?_
  rintro _ _ _ ⟨rfl, rfl, rfl⟩ _
  refine JL.q (OpP.q (p_assign rfl)) ?_
  refine JL.nil ?_
  refine Js.seq ?_
  refine Js.region ?_
  refine JL.q (OpP.q (p_move rfl)) ?_
  refine JL.q (OpP.q (p_neq rfl rfl)) ?_
  refine JL.nil ?_
  refine Js.cond rfl (fun h5 => ?_) (fun h5 => ?_)
  ·
    have h5' := h5
    try simp only [Bool.not_eq_true', decide_eq_false_iff_not] at h5'
    have hE := M.optsR_no (r := r) (p := p) (depth := depth) (by simpa using h5)
    refine Js.seq ?_
    refine Js.region ?_
    refine JL.q (OpP.q (p_move rfl)) ?_
    refine JL.q (OpP.q (p_assign rfl)) ?_
    refine JL.q (OpP.q (p_assign rfl)) ?_
    refine JL.nil ?_
    refine Js.ret (R := RO w (Ty.tup [Ty.sl 69 2 (M.optsR r p depth).length (lOption (M.optsR r p depth)), Ty.int (M.optsC r p depth)])) @Try.results14 (fun _ _ => rfl) (ResOk.tmp rfl (ResOk.tmp rfl ResOk.nil)) (fun w1 hw => ?_)
    have hx := hw.ext (Up.refl _ _)
    exact ret_own (ps := []) hw hx ⟨_, rfl, ⟨_, _, rfl, (snil_own lOption (show [] = M.optsR r p depth by first | (rw [hE]; done) | (rw [hz]; done))), ⟨_, _, rfl, ⟨rfl, rfl⟩, rfl⟩⟩⟩ Pick.nil (by simp [List.flatten, outV])
  ·
    have h5' := h5
    try simp only [Bool.not_eq_false', decide_eq_true_eq] at h5'
    have hz : M.optsC r p depth = 0 := by simpa using h5
    have ho := M.optsC_ok hz
    have hE := M.optsR_yes hz
    refine Js.skip ?_
    refine Js.seq ?_
    refine Js.region ?_
    refine JL.q (q_loadN ty_31 rfl (Mem.boxR (i := 1) rfl 0 9) rfl rfl) ?_
    refine JL.q (q_loadN ty_33 rfl (Mem.boxR (i := 0) rfl 0 3) rfl rfl) ?_
    refine JL.q (OpP.q (p_move rfl)) ?_
    refine JL.e (e_callO fn_44 rfl (Spl.sl _ _ _ _) (fun w hw => c_impl_Rules_options r _ p _ depth w ⟨_, rfl, ⟨rfl, rfl, rfl, rfl, rfl, rfl, rfl, rfl, rfl, trivial⟩⟩ ⟨_, rfl, ⟨(Ty.mono _ h2_0 hw.vis), (Ty.mono _ h2_1 hw.vis), rfl, trivial⟩⟩ ho.1 (by omega) (by omega))) ?_
    rintro v6 _ _ ⟨_, hR7, rfl, rfl⟩ _
    obtain ⟨A8, c8, vs8, f8, rfl, rfl, bl8, bh8⟩ := hR7
    refine JL.q (OpP.q (p_assign rfl)) ?_
    refine JL.q (OpP.q (p_assign rfl)) ?_
    refine JL.nil ?_
    refine Js.ret (R := RO w (Ty.tup [Ty.sl 69 2 (M.optsR r p depth).length (lOption (M.optsR r p depth)), Ty.int (M.optsC r p depth)])) @Try.results14 (fun _ _ => rfl) (ResOk.tmp rfl (ResOk.tmp rfl ResOk.nil)) (fun w1 hw => ?_)
    have hx := hw.ext (Up.refl _ _)
    exact ret_own (ps := [(0, (Value.ownBlock (.slice A8 ((M.opts r p depth).length) c8)).toList), (1, f8)]) hw hx ⟨_, rfl, ⟨_, _, rfl, (srow_own lOption (hw.pr (i := 0) rfl) (hw.pr (i := 1) rfl) (lOption_length _) (show M.opts r p depth = M.optsR r p depth by first | (rw [hE]; done) | (rw [hz]; done))), ⟨_, _, rfl, ⟨by first | (rw [hE]; done) | (rw [hz]; done), rfl⟩, rfl⟩⟩⟩ (Pick.cons (j := 0) rfl (List.sublist_append_left _ _) rfl (Pick.cons (j := 1) rfl (List.Sublist.refl _) rfl Pick.nil)) (by simp [List.flatten, outV])

set_option maxRecDepth 100000 in
set_option maxHeartbeats 400000 in
theorem c_impl_bestOption (list : List M.Opt) (v_list : Value) (w : World) (h_list : (Ty.sl 69 2 list.length (lOption list)).ok w v_list) (r0 : list.length ≠ 0) (r1 : list.length ≤ 4194304) : Ret Try.prog 50 [v_list] w (Ty.agg (cOption (M.bOpt list))) := by
  obtain ⟨A1, c1, rfl, bl1, bh1⟩ := sl_form h_list
  refine enter @Try.func50 @Try.ntmps50 rfl rfl ?_
  refine Js.seq ?_
  refine Js.region ?_
  refine JL.e (e_alloc zero_69) ?_
  rintro _ _ _ ⟨b2, rfl, rfl, rfl⟩ _
  refine JL.nil ?_
  refine Js.seq ?_
  refine Js.region ?_
  refine JL.q (OpP.q (p_move rfl)) ?_
  obtain ⟨y3, hy3⟩ : ∃ x, list[0]? = some x := ⟨_, List.getElem?_eq_getElem (by omega)⟩
  obtain ⟨b3, o3, he3, hr3⟩ := elem_Option h_list hy3
  refine JL.q (OpP.q (p_indexAddr el_28 rfl rfl (by omega) (by omega) he3)) ?_
  refine JL.q (q_loadN ty_69 rfl (Mem.pubR (hr3.sub 0 2)) rfl rfl) ?_
  refine JL.e (e_alloc zero_69) ?_
  rintro _ _ _ ⟨b4, rfl, rfl, rfl⟩ _
  refine JL.s (e_store (i := 0) (c' := [.int .i64 y3.move, .int .i64 y3.value]) ty_69 rfl rfl rfl rfl rfl rfl rfl rfl) ?_
  rintro _ _ _ ⟨rfl, rfl⟩ _
  refine JL.nil ?_
  refine Js.seq ?_
  refine Js.seq ?_
  refine Js.region ?_
  refine JL.q (OpP.q (p_move rfl)) ?_
  refine JL.q (OpP.q (p_len el_28 rfl)) ?_
  refine JL.q (OpP.q (p_move rfl)) ?_
  refine JL.nil ?_
  refine Js.block ?_
  refine Js.loop (fun l os u m => ∃ (k : Nat) (b : M.Opt), l = [(2, .pointer (some ⟨b2, 0, none⟩)), (3, .pointer (some ⟨b4, 0, none⟩)), (9, .slice A1 list.length c1), (10, .int .i64 (list.length : Int)), (11, .int .i64 (k : Int))] ∧ os = [boxO b4 [.int .i64 b.move, .int .i64 b.value] 69, boxO b2 [.int .i64 0, .int .i64 0] 69] ∧ Up w.heap.size w u ∧ (M.bOptF b (list.drop k) = M.bOpt list) ∧ (k ≤ list.length) ∧ m = list.length - k) ⟨0, y3, rfl, rfl, Up.refl _ _, by exact M.bOpt_zero (by assumption), by first | assumption | omega | rfl | (simp; done), rfl⟩ ⟨rfl, rfl, rfl, rfl, rfl, trivial⟩ ?_
  · rintro _ _ u5 _ ⟨k, b, rfl, rfl, x5, hS, hk, rfl⟩
    refine Js.seq ?_
    refine Js.region ?_
    refine JL.q (OpP.q (p_lss rfl rfl)) ?_
    refine JL.nil ?_
    refine Js.seq ?_
    refine Js.cond rfl (fun h6 => ?_) (fun h6 => ?_)
    ·
      have h6' := h6
      try simp only [decide_eq_true_eq] at h6'
      refine Js.skip ?_
      refine Js.seq ?_
      refine Js.block ?_
      refine Js.seq ?_
      refine Js.region ?_
      obtain ⟨y7, hy7⟩ : ∃ x, list[k]? = some x := ⟨_, List.getElem?_eq_getElem (by omega)⟩
      obtain ⟨b7, o7, he7, hr7⟩ := elem_Option (Ty.mono _ h_list x5.vis) hy7
      refine JL.q (OpP.q (p_indexAddr el_28 rfl rfl (by omega) (by omega) he7)) ?_
      refine JL.q (q_loadN ty_69 rfl (Mem.pubR (hr7.sub 0 2)) rfl rfl) ?_
      refine JL.e (e_alloc zero_69) ?_
      rintro _ _ _ ⟨b8, rfl, rfl, rfl⟩ _
      refine JL.s (e_store (i := 0) (c' := [.int .i64 y7.move, .int .i64 y7.value]) ty_69 rfl rfl rfl rfl rfl rfl rfl rfl) ?_
      rintro _ _ _ ⟨rfl, rfl⟩ _
      refine JL.nil ?_
      refine Js.seq ?_
      refine Js.region ?_
      refine JL.q (OpP.q (p_fieldAddr fld_69_1 rfl)) ?_
      refine JL.q (q_load1 ty_2 rfl (Mem.box (i := 0) rfl rfl)) ?_
      refine JL.q (OpP.q (p_fieldAddr fld_69_1 rfl)) ?_
      refine JL.q (q_load1 ty_2 rfl (Mem.box (i := 1) rfl rfl)) ?_
      refine JL.q (OpP.q (p_gtr rfl rfl)) ?_
      refine JL.nil ?_
      refine Js.cond rfl (fun h9 => ?_) (fun h9 => ?_)
      ·
        have h9' := h9
        try simp only [decide_eq_true_eq] at h9'
        have hS2 := M.bOptF_y hS hy7 (by simpa using h9)
        refine Js.region ?_
        refine JL.q (q_loadN ty_69 rfl (Mem.boxR (i := 0) rfl 0 2) rfl rfl) ?_
        refine JL.s (e_store (i := 1) (c' := [.int .i64 y7.move, .int .i64 y7.value]) ty_69 rfl rfl rfl rfl rfl rfl rfl rfl) ?_
        rintro _ _ _ ⟨rfl, rfl⟩ _
        refine JL.nil ?_
        refine Js.blockEnd ?_
        refine Js.region ?_
        refine JL.q (OpP.q (p_add rfl rfl (IntWalk.i64_in _ (by omega)))) ?_
        refine JL.q (OpP.q (p_move rfl)) ?_
        refine JL.nil ?_
        refine Js.drop (i := 0) rfl rfl (fun u10 x10 => ?_)
        exact Js.again ⟨k + 1, y7, rfl, rfl, (x5.trans x10), by exact hS2, by first | assumption | omega | rfl | (simp; done), rfl⟩ (by omega) ⟨rfl, rfl, rfl, rfl, rfl, trivial⟩
      ·
        have h9' := h9
        try simp only [decide_eq_false_iff_not, Int.not_lt] at h9'
        have hS2 := M.bOptF_n hS hy7 (by simpa using h9)
        refine Js.skip ?_
        refine Js.blockEnd ?_
        refine Js.region ?_
        refine JL.q (OpP.q (p_add rfl rfl (IntWalk.i64_in _ (by omega)))) ?_
        refine JL.q (OpP.q (p_move rfl)) ?_
        refine JL.nil ?_
        refine Js.drop (i := 0) rfl rfl (fun u11 x11 => ?_)
        exact Js.again ⟨k + 1, b, rfl, rfl, (x5.trans x11), by exact hS2, by first | assumption | omega | rfl | (simp; done), rfl⟩ (by omega) ⟨rfl, rfl, rfl, rfl, rfl, trivial⟩
    ·
      have h6' := h6
      try simp only [decide_eq_false_iff_not, Int.not_lt] at h6'
      have hE := M.bOptF_e hS (by have := h6'; omega)
      refine Js.exit (fun _ _ => rfl) ?_
      refine Js.seq ?_
      refine Js.region ?_
      refine JL.q (q_loadN ty_69 rfl (Mem.boxR (i := 0) rfl 0 2) rfl rfl) ?_
      refine JL.s (e_store (i := 1) (c' := [.int .i64 b.move, .int .i64 b.value]) ty_69 rfl rfl rfl rfl rfl rfl rfl rfl) ?_
      rintro _ _ _ ⟨rfl, rfl⟩ _
      refine JL.nil ?_
      refine Js.ret (R := RO w (Ty.agg (cOption (M.bOpt list)))) @Try.results50 (fun _ _ => rfl) (ResOk.cell (res_box (i := 1) ty_69 rfl rfl rfl rfl rfl) ResOk.nil) (fun w1 hw => ?_)
      have hx := hw.ext (x5)
      exact ret_own (ps := []) hw hx ⟨_, rfl, ⟨_, _, rfl, ⟨by rw [hE], rfl⟩, ⟨_, _, rfl, ⟨by rw [hE], rfl⟩, rfl⟩⟩⟩ Pick.nil (by simp [List.flatten, outV])

set_option maxRecDepth 100000 in
set_option maxHeartbeats 400000 in
theorem c_impl_SearchLine (r : M.Rul) (v_r : Value) (p : M.Pos) (v_p : Value) (depth : Int) (w : World) (h_r : (Ty.agg (cRules r)).ok w v_r) (h_p : (Ty.agg (cPosition p)).ok w v_p) (r0 : p.pits.length ≤ 4194304) (r1 : p.stores.length ≤ 4194304) : Ret Try.prog 21 [v_r, v_p, .int .i64 depth] w (Ty.tup [Ty.ints 2 (M.lineR r p depth), Ty.int (M.srchC r p depth)]) := by
  obtain rfl := open_Rules h_r
  obtain ⟨A2_0, c2_0, A2_1, c2_1, rfl, h2_0, h2_1, bl2_0, bh2_0, bl2_1, bh2_1⟩ := open_Position h_p
  refine enter @Try.func21 @Try.ntmps21 rfl rfl ?_
  refine Js.seq ?_
  refine Js.region ?_
  refine JL.e (e_box (c := [.int .i64 r.pits, .int .i64 r.seeds, .bool r.stores, .bool r.skip, .bool r.relay, .bool r.feed, .bool r.again, .int .i64 r.capture, .int .i64 r.slam]) rfl rfl) ?_
  rintro _ _ _ ⟨b3, rfl, rfl, rfl⟩ _
  refine JL.e (e_box (c := [.slice A2_0 p.pits.length c2_0, .slice A2_1 p.stores.length c2_1, .int .i64 p.player]) rfl rfl) ?_
  rintro _ _ _ ⟨b4, rfl, rfl, rfl⟩ _
  refine JL.q (OpP.q (p_assign rfl)) ?_
  refine JL.q (OpP.q (p_assign rfl)) ?_
  refine JL.nil ?_
  refine Js.seq ?_
  refine Js.seq ?_
  refine Js.region ?_
  refine JL.q (q_loadN ty_31 rfl (Mem.boxR (i := 1) rfl 0 9) rfl rfl) ?_
  refine JL.q (q_loadN ty_33 rfl (Mem.boxR (i := 0) rfl 0 3) rfl rfl) ?_
  refine JL.q (OpP.q (p_move rfl)) ?_
  refine JL.e (e_callV fn_49 rfl (fun w hw => c_impl_searchCode r _ p _ depth w ⟨_, rfl, ⟨rfl, rfl, rfl, rfl, rfl, rfl, rfl, rfl, rfl, trivial⟩⟩ ⟨_, rfl, ⟨(Ty.mono _ h2_0 hw.vis), (Ty.mono _ h2_1 hw.vis), rfl, trivial⟩⟩ (by omega) (by omega))) ?_
  rintro _ _ _ ⟨rfl, rfl, rfl⟩ _
  refine JL.q (OpP.q (p_assign rfl)) ?_
  refine JL.nil ?_
  refine Js.seq ?_
  refine Js.region ?_
  refine JL.q (OpP.q (p_move rfl)) ?_
  refine JL.q (OpP.q (p_neq rfl rfl)) ?_
  refine JL.nil ?_
  refine Js.cond rfl (fun h5 => ?_) (fun h5 => ?_)
  ·
    have h5' := h5
    try simp only [Bool.not_eq_true', decide_eq_false_iff_not] at h5'
    have hE := M.lineR_no (r := r) (p := p) (depth := depth) (by simpa using h5)
    refine Js.seq ?_
    refine Js.region ?_
    refine JL.q (OpP.q (p_move rfl)) ?_
    refine JL.q (OpP.q (p_assign rfl)) ?_
    refine JL.q (OpP.q (p_assign rfl)) ?_
    refine JL.nil ?_
    refine Js.ret (R := RO w (Ty.tup [Ty.ints 2 (M.lineR r p depth), Ty.int (M.srchC r p depth)])) @Try.results21 (fun _ _ => rfl) (ResOk.tmp rfl (ResOk.tmp rfl ResOk.nil)) (fun w1 hw => ?_)
    have hx := hw.ext (Up.refl _ _)
    exact ret_own (ps := []) hw hx ⟨_, rfl, ⟨_, _, rfl, (ints_cast (show [] = M.lineR r p depth by first | (rw [hE]; done) | (rw [hz]; done)) nil_own), ⟨_, _, rfl, ⟨rfl, rfl⟩, rfl⟩⟩⟩ Pick.nil (by simp [List.flatten, outV])
  ·
    have h5' := h5
    try simp only [Bool.not_eq_false', decide_eq_true_eq] at h5'
    have hz : M.srchC r p depth = 0 := by simpa using h5
    have hs := M.srchC_ok hz
    refine Js.skip ?_
    refine Js.seq ?_
    refine Js.region ?_
    refine JL.e (e_buildSlice (vs := []) el_24 rfl rfl rfl rfl rfl rfl) ?_
    rintro _ _ _ ⟨b6, rfl, rfl, hl7, rfl⟩ _
    refine JL.q (OpP.q (p_assign rfl)) ?_
    refine JL.nil ?_
    refine Js.seq ?_
    refine Js.block ?_
    refine Js.loop (fun l os u m => ∃ (d : Int) (out : List Int) (q : M.Pos) (A8_9 : Option Addr) (c8_9 : Nat) (g8_9 : List Nat) (A8_4_0 : Option Addr) (c8_4_0 : Nat) (A8_4_1 : Option Addr) (c8_4_1 : Nat), l = [(2, .int .i64 d), (3, .pointer (some ⟨b3, 0, none⟩)), (4, .pointer (some ⟨b4, 0, none⟩)), (9, .slice A8_9 out.length c8_9)] ∧ os = [rowO 2 1 (.slice A8_9 out.length c8_9) out.length (ints_ out) g8_9, boxO b4 [.slice A8_4_0 q.pits.length c8_4_0, .slice A8_4_1 q.stores.length c8_4_1, .int .i64 q.player] 33, boxO b3 [.int .i64 r.pits, .int .i64 r.seeds, .bool r.stores, .bool r.skip, .bool r.relay, .bool r.feed, .bool r.again, .int .i64 r.capture, .int .i64 r.slam] 31] ∧ Up w.heap.size w u ∧ (M.Line r p depth out q d) ∧ (q.pits.length ≤ 4194304) ∧ (q.stores.length ≤ 4194304) ∧ (out.length ≤ 8) ∧ (out.length ≤ c8_9) ∧ (c8_9 ≤ 9223372036854775807) ∧ ((Ty.ints 2 q.pits).ok u (.slice A8_4_0 q.pits.length c8_4_0)) ∧ (q.pits.length ≤ c8_4_0) ∧ (c8_4_0 ≤ 9223372036854775807) ∧ ((Ty.ints 2 q.stores).ok u (.slice A8_4_1 q.stores.length c8_4_1)) ∧ (q.stores.length ≤ c8_4_1) ∧ (c8_4_1 ≤ 9223372036854775807) ∧ m = d.toNat) ⟨depth, [], p, _, _, _, _, _, _, _, rfl, rfl, Up.refl _ _, by exact M.Line.zero hz, by first | assumption | omega | rfl | (simp; done), by first | assumption | omega | rfl | (simp; done), by first | assumption | omega | rfl | (simp; done), by first | omega | (simp only [List.length_append, List.length_cons, List.length_nil] <;> omega), by first | omega | (simp only [List.length_append, List.length_cons, List.length_nil] <;> omega), h2_0, by first | omega | (simp only [List.length_append, List.length_cons, List.length_nil] <;> omega), by first | omega | (simp only [List.length_append, List.length_cons, List.length_nil] <;> omega), h2_1, by first | omega | (simp only [List.length_append, List.length_cons, List.length_nil] <;> omega), by first | omega | (simp only [List.length_append, List.length_cons, List.length_nil] <;> omega), rfl⟩ ⟨rfl, rfl, rfl, rfl, trivial⟩ ?_
    · rintro _ _ u8 _ ⟨d, out, q, A8_9, c8_9, g8_9, A8_4_0, c8_4_0, A8_4_1, c8_4_1, rfl, rfl, x8, hL, q0, q1, hl, f8_4, f8_5, f8_6, f8_7, f8_8, f8_9, f8_10, f8_11, rfl⟩
      have h8 := M.results_8 hL.ok
      have hlo := hL.lo
      have hhi := hL.hi
      have hln := hL.ln
      have hol := M.opts_len r q d
      refine Js.seq ?_
      refine Js.seq ?_
      refine Js.region ?_
      refine JL.q (OpP.q (p_move rfl)) ?_
      refine JL.q (OpP.q (p_gtr rfl rfl)) ?_
      refine JL.nil ?_
      refine Js.cond rfl (fun h9 => ?_) (fun h9 => ?_)
      ·
        have h9' := h9
        try simp only [decide_eq_true_eq] at h9'
        refine Js.skip ?_
        refine Js.seq ?_
        refine Js.block ?_
        refine Js.seq ?_
        refine Js.region ?_
        refine JL.q (q_loadN ty_31 rfl (Mem.boxR (i := 2) rfl 0 9) rfl rfl) ?_
        refine JL.q (q_loadN ty_33 rfl (Mem.boxR (i := 1) rfl 0 3) rfl rfl) ?_
        refine JL.q (OpP.q (p_move rfl)) ?_
        refine JL.e (e_callP fn_44 rfl (fun w hw => c_impl_Rules_options r _ q _ d w ⟨_, rfl, ⟨rfl, rfl, rfl, rfl, rfl, rfl, rfl, rfl, rfl, trivial⟩⟩ ⟨_, rfl, ⟨(Ty.mono _ f8_6 hw.vis), (Ty.mono _ f8_9 hw.vis), rfl, trivial⟩⟩ hL.ok (by omega) (by omega))) ?_
        rintro v10 _ u12 ⟨h11, rfl⟩ x12
        obtain ⟨A13, c13, rfl, bl13, bh13⟩ := sl_form h11
        refine JL.q (OpP.q (p_assign rfl)) ?_
        refine JL.nil ?_
        refine Js.seq ?_
        refine Js.seq ?_
        refine Js.region ?_
        refine JL.q (OpP.q (p_move rfl)) ?_
        refine JL.q (OpP.q (p_len el_28 rfl)) ?_
        refine JL.q (OpP.q (p_eql rfl rfl)) ?_
        refine JL.nil ?_
        refine Js.cond rfl (fun h14 => ?_) (fun h14 => ?_)
        ·
          have h14' := h14
          try simp only [decide_eq_true_eq] at h14'
          have hE := (M.lineR_yes hz).trans (hL.end_ (by have := h14'; omega))
          refine Js.exit (fun _ _ => rfl) ?_
          refine Js.seq ?_
          refine Js.region ?_
          refine JL.q (OpP.q (p_move rfl)) ?_
          refine JL.q (OpP.q (p_assign rfl)) ?_
          refine JL.q (OpP.q (p_assign rfl)) ?_
          refine JL.nil ?_
          refine Js.ret (R := RO w (Ty.tup [Ty.ints 2 (M.lineR r p depth), Ty.int (M.srchC r p depth)])) @Try.results21 (fun _ _ => rfl) (ResOk.tmp rfl (ResOk.tmp rfl ResOk.nil)) (fun w1 hw => ?_)
          have hx := hw.ext ((x8.trans x12))
          exact ret_own (ps := [(0, (Value.ownBlock (.slice A8_9 out.length c8_9)).toList)]) hw hx ⟨_, rfl, ⟨_, _, rfl, (ints_row (xs := out) (hw.pr (i := 0) rfl) (show out = M.lineR r p depth by first | (rw [hE]; done) | (rw [hz]; done))), ⟨_, _, rfl, ⟨by first | (rw [hE]; done) | (rw [hz]; done), rfl⟩, rfl⟩⟩⟩ (Pick.cons (j := 0) rfl (List.sublist_append_left _ _) rfl Pick.nil) (by simp [List.flatten, outV])
        ·
          have h14' := h14
          try simp only [decide_eq_false_iff_not] at h14'
          have hL2 := hL.step (by omega) (by have := h14'; omega)
          refine Js.skip ?_
          refine Js.seq ?_
          refine Js.region ?_
          refine JL.q (OpP.q (p_move rfl)) ?_
          refine JL.e (e_callP fn_50 rfl (fun w hw => c_impl_bestOption (M.opts r q d) _ w (Ty.mono _ h11 hw.vis) (by omega) (by omega))) ?_
          rintro v15 _ u17 ⟨h16, rfl⟩ x17
          obtain rfl := open_Option h16
          refine JL.e (e_alloc zero_69) ?_
          rintro _ _ _ ⟨b19, rfl, rfl, rfl⟩ _
          refine JL.s (e_store (i := 0) (c' := [.int .i64 ((M.bOpt (M.opts r q d)).move), .int .i64 ((M.bOpt (M.opts r q d)).value)]) ty_69 rfl rfl rfl rfl rfl rfl rfl rfl) ?_
          rintro _ _ _ ⟨rfl, rfl⟩ _
          refine JL.nil ?_
          refine Js.seq ?_
          refine Js.region ?_
          refine JL.q (OpP.q (p_move rfl)) ?_
          refine JL.q (OpP.q (p_fieldAddr fld_69_0 rfl)) ?_
          refine JL.q (q_load1 ty_2 rfl (Mem.box (i := 0) rfl rfl)) ?_
          refine JL.e (e_buildSlice (vs := [.int .i64 ((M.bOpt (M.opts r q d)).move)]) el_24 rfl rfl rfl rfl rfl rfl) ?_
          rintro _ _ _ ⟨b20, rfl, rfl, hl21, rfl⟩ _
          refine JL.e (e_append (i := 2) (n' := (out ++ [((M.bOpt (M.opts r q d)).move)]).length) (vs' := ints_ (out ++ [((M.bOpt (M.opts r q d)).move)])) el_24 rfl rfl rfl rfl (src_row (i := 0) und_24 rfl rfl) (by omega) (by omega) (by first | omega | (simp only [List.length_append, List.length_cons, List.length_nil] <;> omega)) (by simp [ints_])) ?_
          rintro v22 _ _ ⟨⟨g23, rfl⟩, rfl⟩ _
          refine JL.fact (row_form' (i := 2) rfl) (fun hf24 => ?_)
          obtain ⟨A24, c24, rfl, bl24, bh24⟩ := hf24
          refine JL.q (OpP.q (p_assign rfl)) ?_
          refine JL.nil ?_
          refine Js.seq ?_
          refine Js.region ?_
          refine JL.q (q_loadN ty_31 rfl (Mem.boxR (i := 4) rfl 0 9) rfl rfl) ?_
          refine JL.q (q_loadN ty_33 rfl (Mem.boxR (i := 3) rfl 0 3) rfl rfl) ?_
          refine JL.q (OpP.q (p_fieldAddr fld_69_0 rfl)) ?_
          refine JL.q (q_load1 ty_2 rfl (Mem.box (i := 1) rfl rfl)) ?_
          refine JL.e (e_callP fn_51 rfl (fun w hw => c_impl_Rules_resultOf r _ q _ ((M.bOpt (M.opts r q d)).move) w ⟨_, rfl, ⟨rfl, rfl, rfl, rfl, rfl, rfl, rfl, rfl, rfl, trivial⟩⟩ ⟨_, rfl, ⟨(Ty.mono _ f8_6 ((x12.vis.trans x17.vis).trans hw.vis)), (Ty.mono _ f8_9 ((x12.vis.trans x17.vis).trans hw.vis)), rfl, trivial⟩⟩ (by omega) (by omega))) ?_
          rintro v25 _ u27 ⟨h26, rfl⟩ x27
          obtain ⟨vs28, rfl, hv28⟩ := h26
          obtain ⟨v28_0, vs28, rfl, hw28_0, hv28⟩ := cellsOk_cons hv28
          obtain ⟨v28_1, vs28, rfl, hw28_1, hv28⟩ := cellsOk_cons hv28
          obtain rfl := cellsOk_nil hv28
          obtain ⟨A29_3, c29_3, A29_4, c29_4, rfl, h29_3, h29_4, bl29_3, bh29_3, bl29_4, bh29_4⟩ := open_Result hw28_0
          obtain rfl : v28_1 = .int .i64 ((M.make r q ((M.bOpt (M.opts r q d)).move)).2) := hw28_1
          refine JL.q (OpP.q (p_move rfl)) ?_
          refine JL.q (OpP.q (p_extract rfl rfl)) ?_
          refine JL.q (OpP.q (p_extract rfl rfl)) ?_
          refine JL.e (e_alloc zero_74) ?_
          rintro _ _ _ ⟨b30, rfl, rfl, rfl⟩ _
          refine JL.s (e_store (i := 0) (c' := [.int .i64 (((M.make r q ((M.bOpt (M.opts r q d)).move)).1).move), .int .i64 (((M.make r q ((M.bOpt (M.opts r q d)).move)).1).gain), .bool (((M.make r q ((M.bOpt (M.opts r q d)).move)).1).again), .slice A29_3 (((((M.make r q ((M.bOpt (M.opts r q d)).move)).1).next).pits).length) c29_3, .slice A29_4 (((((M.make r q ((M.bOpt (M.opts r q d)).move)).1).next).stores).length) c29_4, .int .i64 ((((M.make r q ((M.bOpt (M.opts r q d)).move)).1).next).player)]) ty_74 rfl rfl rfl rfl rfl rfl rfl rfl) ?_
          rintro _ _ _ ⟨rfl, rfl⟩ _
          refine JL.q (OpP.q (p_assign rfl)) ?_
          refine JL.nil ?_
          refine Js.region ?_
          refine JL.q (OpP.q (p_fieldAddr fld_74_3 rfl)) ?_
          refine JL.q (q_loadN ty_33 rfl (Mem.boxR (i := 0) rfl 3 3) rfl rfl) ?_
          refine JL.s (e_store (i := 4) (c' := [.slice A29_3 (((((M.make r q ((M.bOpt (M.opts r q d)).move)).1).next).pits).length) c29_3, .slice A29_4 (((((M.make r q ((M.bOpt (M.opts r q d)).move)).1).next).stores).length) c29_4, .int .i64 ((((M.make r q ((M.bOpt (M.opts r q d)).move)).1).next).player)]) ty_33 rfl rfl rfl rfl rfl rfl rfl rfl) ?_
          rintro _ _ _ ⟨rfl, rfl⟩ _
          refine JL.nil ?_
          refine Js.blockEnd ?_
          refine Js.region ?_
          refine JL.q (OpP.q (p_move rfl)) ?_
          refine JL.q (OpP.q (p_sub rfl rfl (IntWalk.i64_in _ (by omega)))) ?_
          refine JL.q (OpP.q (p_assign rfl)) ?_
          refine JL.nil ?_
          refine Js.drop (i := 0) rfl rfl (fun u31 x31 => ?_)
          refine Js.drop (i := 0) rfl rfl (fun u32 x32 => ?_)
          refine Js.drop (i := 0) rfl rfl (fun u33 x33 => ?_)
          exact Js.again ⟨d - 1, out ++ [((M.bOpt (M.opts r q d)).move)], (((M.make r q ((M.bOpt (M.opts r q d)).move)).1).next), _, _, _, _, _, _, _, rfl, rfl, ((((((x8.trans x12).trans x17).trans x27).trans x31).trans x32).trans x33), by exact hL2, by exact (M.okP_len hL2.ok).1, by exact (M.okP_len hL2.ok).2, by have := hL2.ln; have := hL2.lo; have := hL.hi; omega, by first | omega | (simp only [List.length_append, List.length_cons, List.length_nil] <;> omega), by first | omega | (simp only [List.length_append, List.length_cons, List.length_nil] <;> omega), (Ty.mono _ h29_3 ((x31.vis.trans x32.vis).trans x33.vis)), by first | omega | (simp only [List.length_append, List.length_cons, List.length_nil] <;> omega), by first | omega | (simp only [List.length_append, List.length_cons, List.length_nil] <;> omega), (Ty.mono _ h29_4 ((x31.vis.trans x32.vis).trans x33.vis)), by first | omega | (simp only [List.length_append, List.length_cons, List.length_nil] <;> omega), by first | omega | (simp only [List.length_append, List.length_cons, List.length_nil] <;> omega), rfl⟩ (by omega) ⟨rfl, rfl, rfl, rfl, trivial⟩
      ·
        have h9' := h9
        try simp only [decide_eq_false_iff_not, Int.not_lt] at h9'
        have hE := (M.lineR_yes hz).trans (hL.done (by have := h9'; omega))
        refine Js.exit (fun _ _ => rfl) ?_
        refine Js.seq ?_
        refine Js.region ?_
        refine JL.q (OpP.q (p_move rfl)) ?_
        refine JL.q (OpP.q (p_assign rfl)) ?_
        refine JL.q (OpP.q (p_assign rfl)) ?_
        refine JL.nil ?_
        refine Js.ret (R := RO w (Ty.tup [Ty.ints 2 (M.lineR r p depth), Ty.int (M.srchC r p depth)])) @Try.results21 (fun _ _ => rfl) (ResOk.tmp rfl (ResOk.tmp rfl ResOk.nil)) (fun w1 hw => ?_)
        have hx := hw.ext (x8)
        exact ret_own (ps := [(0, (Value.ownBlock (.slice A8_9 out.length c8_9)).toList)]) hw hx ⟨_, rfl, ⟨_, _, rfl, (ints_row (xs := out) (hw.pr (i := 0) rfl) (show out = M.lineR r p depth by first | (rw [hE]; done) | (rw [hz]; done))), ⟨_, _, rfl, ⟨by first | (rw [hE]; done) | (rw [hz]; done), rfl⟩, rfl⟩⟩⟩ (Pick.cons (j := 0) rfl (List.sublist_append_left _ _) rfl Pick.nil) (by simp [List.flatten, outV])

end Go.Proofs.Ytinkeciedmjjmaa

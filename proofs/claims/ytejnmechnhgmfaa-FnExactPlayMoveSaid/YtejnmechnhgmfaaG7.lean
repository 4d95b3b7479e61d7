/- Walks: G7. -/
import Derived.Test.YtejnmechnhgmfaaTy
import Derived.Test.YtejnmechnhgmfaaG5
set_option linter.unusedSimpArgs false
set_option linter.unusedVariables false
namespace Go.Proofs.Ytejnmechnhgmfaa
open Go.RowKit

set_option maxRecDepth 100000 in
set_option maxHeartbeats 400000 in
theorem c_impl_GainsOf (g : M.Gam) (v_g : Value) (w : World) (h_g : (Ty.agg (cGame g)).ok w v_g) (r0 : g.start.pits.length ≤ 4194304) (r1 : g.start.stores.length ≤ 4194304) (r2 : g.moves.length ≤ 4194304) (r3 : g.now.pits.length ≤ 4194304) (r4 : g.now.stores.length ≤ 4194304) : Ret Try.prog 23 [v_g] w (Ty.tup [Ty.ints 2 (M.gainsR g), Ty.int (M.okC g)]) := by
  obtain ⟨A1_9, c1_9, A1_10, c1_10, A1_12, c1_12, A1_13, c1_13, A1_14, c1_14, rfl, h1_9, h1_10, h1_12, h1_13, h1_14, bl1_9, bh1_9, bl1_10, bh1_10, bl1_12, bh1_12, bl1_13, bh1_13, bl1_14, bh1_14⟩ := open_Game h_g
  refine enter @Try.func23 @Try.ntmps23 rfl rfl ?_
  refine Js.seq ?_
  refine Js.region ?_
  refine JL.e (e_box (c := [.int .i64 g.rules.pits, .int .i64 g.rules.seeds, .bool g.rules.stores, .bool g.rules.skip, .bool g.rules.relay, .bool g.rules.feed, .bool g.rules.again, .int .i64 g.rules.capture, .int .i64 g.rules.slam, .slice A1_9 g.start.pits.length c1_9, .slice A1_10 g.start.stores.length c1_10, .int .i64 g.start.player, .slice A1_12 g.moves.length c1_12, .slice A1_13 g.now.pits.length c1_13, .slice A1_14 g.now.stores.length c1_14, .int .i64 g.now.player, .int .i64 g.resigned]) rfl rfl) ?_
  rintro _ _ _ ⟨b2, rfl, rfl, rfl⟩ _
  refine JL.q (OpP.q (p_assign rfl)) ?_
  refine JL.q (OpP.q (p_assign rfl)) ?_
  refine JL.nil ?_
  refine Js.seq ?_
  refine Js.seq ?_
  refine Js.region ?_
  refine JL.q (q_loadN ty_35 rfl (Mem.boxR (i := 0) rfl 0 17) rfl rfl) ?_
  refine JL.e (e_callV fn_62 rfl (fun w hw => c_impl_ValidGame g _ w ⟨_, rfl, ⟨rfl, rfl, rfl, rfl, rfl, rfl, rfl, rfl, rfl, (Ty.mono _ h1_9 hw.vis), (Ty.mono _ h1_10 hw.vis), rfl, (Ty.mono _ h1_12 hw.vis), (Ty.mono _ h1_13 hw.vis), (Ty.mono _ h1_14 hw.vis), rfl, rfl, trivial⟩⟩ (by omega) (by omega) (by omega) (by omega) (by omega))) ?_
  rintro _ _ _ ⟨rfl, rfl, rfl⟩ _
  refine JL.q (OpP.q (p_not rfl)) ?_
  refine JL.nil ?_
  refine Js.cond rfl (fun h3 => ?_) (fun h3 => ?_)
  ·
    have h3' := h3
    try simp only [Bool.not_eq_true'] at h3'
    have hno : M.okG g = false := by simpa using h3
    have hC := M.okC_no hno
    have hE := M.gainsR_no hno
    refine Js.seq ?_
    refine Js.region ?_
    refine JL.q (OpP.q (p_assign rfl)) ?_
    refine JL.q (OpP.q (p_assign rfl)) ?_
    refine JL.nil ?_
    refine Js.ret (R := RO w (Ty.tup [Ty.ints 2 (M.gainsR g), Ty.int (M.okC g)])) @Try.results23 (fun _ _ => rfl) (ResOk.tmp rfl (ResOk.tmp rfl ResOk.nil)) (fun w1 hw => ?_)
    have hx := hw.ext (Up.refl _ _)
    exact ret_own (ps := []) hw hx ⟨_, rfl, ⟨_, _, rfl, (ints_cast (show [] = M.gainsR g by first | (rw [hE]; done) | (rw [hC]; done)) nil_own), ⟨_, _, rfl, ⟨by first | (rw [hE]; done) | (rw [hC]; done), rfl⟩, rfl⟩⟩⟩ Pick.nil (by simp [List.flatten, outV])
  ·
    have h3' := h3
    try simp only [Bool.not_eq_false'] at h3'
    have hok : M.okG g = true := by simpa using h3
    obtain ⟨k1, k2, k3, k4, k5, k6, k7, k8, k9⟩ := M.okG_parts hok
    have hnow := M.okG_now hok
    have k10 := M.okP_len hnow
    have k11 := M.okP_len k1
    (have k12 : (M.playedP g).length = g.moves.length + 1 := by rw [k6, M.hist_length, k8])
    have k13 : (M.playedR g).length = g.moves.length := by rw [k7, k8]
    have hC := M.okC_yes hok
    refine Js.skip ?_
    refine Js.seq ?_
    refine Js.region ?_
    refine JL.q (q_loadN ty_35 rfl (Mem.boxR (i := 0) rfl 0 17) rfl rfl) ?_
    refine JL.e (e_callP fn_72 rfl (fun w hw => c_impl_Game_played g _ w ⟨_, rfl, ⟨rfl, rfl, rfl, rfl, rfl, rfl, rfl, rfl, rfl, (Ty.mono _ h1_9 hw.vis), (Ty.mono _ h1_10 hw.vis), rfl, (Ty.mono _ h1_12 hw.vis), (Ty.mono _ h1_13 hw.vis), (Ty.mono _ h1_14 hw.vis), rfl, rfl, trivial⟩⟩ (by omega) (by omega) (by omega) (by omega) (by omega))) ?_
    rintro v4 _ u6 ⟨h5, rfl⟩ x6
    obtain ⟨vs7, rfl, hv7⟩ := h5
    obtain ⟨v7_0, vs7, rfl, hw7_0, hv7⟩ := cellsOk_cons hv7
    obtain ⟨v7_1, vs7, rfl, hw7_1, hv7⟩ := cellsOk_cons hv7
    obtain ⟨v7_2, vs7, rfl, hw7_2, hv7⟩ := cellsOk_cons hv7
    obtain rfl := cellsOk_nil hv7
    obtain ⟨A8, c8, rfl, bl8, bh8⟩ := sl_form hw7_0
    obtain ⟨A9, c9, rfl, bl9, bh9⟩ := sl_form hw7_1
    obtain rfl : v7_2 = .bool (M.playedOk g) := hw7_2
    refine JL.q (OpP.q (p_move rfl)) ?_
    refine JL.q (OpP.q (p_extract rfl rfl)) ?_
    refine JL.q (OpP.q (p_extract rfl rfl)) ?_
    refine JL.q (OpP.q (p_extract rfl rfl)) ?_
    refine JL.q (OpP.q (p_assign rfl)) ?_
    refine JL.q (OpP.q (p_assign rfl)) ?_
    refine JL.q (OpP.q (p_assign rfl)) ?_
    refine JL.nil ?_
    refine Js.seq ?_
    refine Js.region ?_
    refine JL.e (e_buildSlice (vs := []) el_24 rfl rfl rfl rfl rfl rfl) ?_
    rintro _ _ _ ⟨b10, rfl, rfl, hl11, rfl⟩ _
    refine JL.q (OpP.q (p_assign rfl)) ?_
    refine JL.nil ?_
    refine Js.seq ?_
    refine Js.seq ?_
    refine Js.region ?_
    refine JL.q (OpP.q (p_move rfl)) ?_
    refine JL.q (OpP.q (p_len el_74 rfl)) ?_
    refine JL.q (OpP.q (p_move rfl)) ?_
    refine JL.nil ?_
    refine Js.block ?_
    refine Js.loop (fun l os u m => ∃ (k : Nat) (out : List Int) (A12_7 : Option Addr) (c12_7 : Nat) (g12_7 : List Nat), l = [(7, .slice A12_7 out.length c12_7), (20, .slice A9 ((M.playedR g).length) c9), (21, .int .i64 (((M.playedR g).length) : Int)), (22, .int .i64 (k : Int))] ∧ os = [rowO 2 1 (.slice A12_7 out.length c12_7) out.length (ints_ out) g12_7, boxO b2 [.int .i64 g.rules.pits, .int .i64 g.rules.seeds, .bool g.rules.stores, .bool g.rules.skip, .bool g.rules.relay, .bool g.rules.feed, .bool g.rules.again, .int .i64 g.rules.capture, .int .i64 g.rules.slam, .slice A1_9 g.start.pits.length c1_9, .slice A1_10 g.start.stores.length c1_10, .int .i64 g.start.player, .slice A1_12 g.moves.length c1_12, .slice A1_13 g.now.pits.length c1_13, .slice A1_14 g.now.stores.length c1_14, .int .i64 g.now.player, .int .i64 g.resigned] 35] ∧ Up w.heap.size u6 u ∧ (out = M.gains ((M.playedR g).take k)) ∧ (k ≤ (M.playedR g).length) ∧ (out.length = k) ∧ (out.length ≤ c12_7) ∧ (c12_7 ≤ 9223372036854775807) ∧ m = (M.playedR g).length - k) ⟨0, [], _, _, _, rfl, rfl, Up.refl _ _, by rfl, by first | assumption | omega | rfl | (simp; done), by rfl, by first | omega | (simp only [List.length_append, List.length_cons, List.length_nil] <;> omega), by first | omega | (simp only [List.length_append, List.length_cons, List.length_nil] <;> omega), rfl⟩ ⟨rfl, rfl, rfl, rfl, trivial⟩ ?_
    · rintro _ _ u12 _ ⟨k, out, A12_7, c12_7, g12_7, rfl, rfl, x12, hO, hk, hl, f12_3, f12_4, rfl⟩
      refine Js.seq ?_
      refine Js.region ?_
      refine JL.q (OpP.q (p_lss rfl rfl)) ?_
      refine JL.nil ?_
      refine Js.seq ?_
      refine Js.cond rfl (fun h13 => ?_) (fun h13 => ?_)
      ·
        have h13' := h13
        try simp only [decide_eq_true_eq] at h13'
        refine Js.skip ?_
        refine Js.seq ?_
        refine Js.block ?_
        refine Js.seq ?_
        refine Js.region ?_
        obtain ⟨y14, hy14⟩ : ∃ x, (M.playedR g)[k]? = some x := ⟨_, List.getElem?_eq_getElem (by omega)⟩
        obtain ⟨b14, o14, V14_3, V14_4, V14_5, he14, hr14, hv14_3, hv14_4, hv14_5⟩ := elem_ResultL (Ty.mono _ hw7_1 x12.vis) hy14
        refine JL.q (OpP.q (p_indexAddr el_74 rfl rfl (by omega) (by omega) he14)) ?_
        refine JL.q (q_loadN ty_84 rfl (Mem.pubR (hr14.sub 0 6)) rfl rfl) ?_
        refine JL.e (e_alloc zero_84) ?_
        rintro _ _ _ ⟨b15, rfl, rfl, rfl⟩ _
        refine JL.s (e_store (i := 0) (c' := [.int .i64 y14.move, .int .i64 y14.gain, .bool y14.again, V14_3, V14_4, V14_5]) ty_84 rfl rfl rfl rfl rfl (show List.all [.int .i64 y14.move, .int .i64 y14.gain, .bool y14.again, V14_3, V14_4, V14_5] (·.oneCell') = true by simp only [List.all_cons, List.all_nil, hv14_3, hv14_4, hv14_5]; rfl) rfl rfl) ?_
        rintro _ _ _ ⟨rfl, rfl⟩ _
        refine JL.nil ?_
        refine Js.region ?_
        refine JL.q (OpP.q (p_move rfl)) ?_
        refine JL.q (OpP.q (p_fieldAddr fld_84_1 rfl)) ?_
        refine JL.q (q_load1 ty_2 rfl (Mem.box (i := 0) rfl rfl)) ?_
        refine JL.e (e_buildSlice (vs := [.int .i64 y14.gain]) el_24 rfl rfl rfl rfl rfl rfl) ?_
        rintro _ _ _ ⟨b16, rfl, rfl, hl17, rfl⟩ _
        refine JL.e (e_append (i := 2) (n' := (out ++ [y14.gain]).length) (vs' := ints_ (out ++ [y14.gain])) el_24 rfl rfl rfl rfl (src_row (i := 0) und_24 rfl rfl) (by omega) (by omega) (by first | omega | (simp only [List.length_append, List.length_cons, List.length_nil] <;> omega)) (by simp [ints_])) ?_
        rintro v18 _ _ ⟨⟨g19, rfl⟩, rfl⟩ _
        refine JL.fact (row_form' (i := 2) rfl) (fun hf20 => ?_)
        obtain ⟨A20, c20, rfl, bl20, bh20⟩ := hf20
        refine JL.q (OpP.q (p_assign rfl)) ?_
        refine JL.nil ?_
        refine Js.blockEnd ?_
        refine Js.region ?_
        refine JL.q (OpP.q (p_add rfl rfl (IntWalk.i64_in _ (by omega)))) ?_
        refine JL.q (OpP.q (p_move rfl)) ?_
        refine JL.nil ?_
        refine Js.drop (i := 0) rfl rfl (fun u21 x21 => ?_)
        refine Js.drop (i := 0) rfl rfl (fun u22 x22 => ?_)
        exact Js.again ⟨k + 1, out ++ [y14.gain], _, _, _, rfl, rfl, ((x12.trans x21).trans x22), by rw [hO]; exact (M.gains_step (by assumption)).symm, by first | assumption | omega | rfl | (simp; done), by simp [hl], by first | omega | (simp only [List.length_append, List.length_cons, List.length_nil] <;> omega), by first | omega | (simp only [List.length_append, List.length_cons, List.length_nil] <;> omega), rfl⟩ (by omega) ⟨rfl, rfl, rfl, rfl, trivial⟩
      ·
        have h13' := h13
        try simp only [decide_eq_false_iff_not, Int.not_lt] at h13'
        have hE : M.gainsR g = out := by rw [M.gainsR_yes hok, hO, List.take_of_length_le (by have := h13'; omega)]
        refine Js.exit (fun _ _ => rfl) ?_
        refine Js.seq ?_
        refine Js.region ?_
        refine JL.q (OpP.q (p_move rfl)) ?_
        refine JL.q (OpP.q (p_assign rfl)) ?_
        refine JL.q (OpP.q (p_assign rfl)) ?_
        refine JL.nil ?_
        refine Js.ret (R := RO w (Ty.tup [Ty.ints 2 (M.gainsR g), Ty.int (M.okC g)])) @Try.results23 (fun _ _ => rfl) (ResOk.tmp rfl (ResOk.tmp rfl ResOk.nil)) (fun w1 hw => ?_)
        have hx := hw.ext ((x6.trans x12))
        exact ret_own (ps := [(0, (Value.ownBlock (.slice A12_7 out.length c12_7)).toList)]) hw hx ⟨_, rfl, ⟨_, _, rfl, (ints_row (xs := out) (hw.pr (i := 0) rfl) (show out = M.gainsR g by first | (rw [hE]; done) | (rw [hC]; done))), ⟨_, _, rfl, ⟨by first | (rw [hE]; done) | (rw [hC]; done), rfl⟩, rfl⟩⟩⟩ (Pick.cons (j := 0) rfl (List.sublist_append_left _ _) rfl Pick.nil) (by simp [List.flatten, outV])

set_option maxRecDepth 100000 in
set_option maxHeartbeats 400000 in
theorem c_impl_MoversOf (g : M.Gam) (v_g : Value) (w : World) (h_g : (Ty.agg (cGame g)).ok w v_g) (r0 : g.start.pits.length ≤ 4194304) (r1 : g.start.stores.length ≤ 4194304) (r2 : g.moves.length ≤ 4194304) (r3 : g.now.pits.length ≤ 4194304) (r4 : g.now.stores.length ≤ 4194304) : Ret Try.prog 29 [v_g] w (Ty.tup [Ty.ints 2 (M.moversR g), Ty.int (M.okC g)]) := by
  obtain ⟨A1_9, c1_9, A1_10, c1_10, A1_12, c1_12, A1_13, c1_13, A1_14, c1_14, rfl, h1_9, h1_10, h1_12, h1_13, h1_14, bl1_9, bh1_9, bl1_10, bh1_10, bl1_12, bh1_12, bl1_13, bh1_13, bl1_14, bh1_14⟩ := open_Game h_g
  refine enter @Try.func29 @Try.ntmps29 rfl rfl ?_
  refine Js.seq ?_
  refine Js.region ?_
  refine JL.e (e_box (c := [.int .i64 g.rules.pits, .int .i64 g.rules.seeds, .bool g.rules.stores, .bool g.rules.skip, .bool g.rules.relay, .bool g.rules.feed, .bool g.rules.again, .int .i64 g.rules.capture, .int .i64 g.rules.slam, .slice A1_9 g.start.pits.length c1_9, .slice A1_10 g.start.stores.length c1_10, .int .i64 g.start.player, .slice A1_12 g.moves.length c1_12, .slice A1_13 g.now.pits.length c1_13, .slice A1_14 g.now.stores.length c1_14, .int .i64 g.now.player, .int .i64 g.resigned]) rfl rfl) ?_
  rintro _ _ _ ⟨b2, rfl, rfl, rfl⟩ _
  refine JL.q (OpP.q (p_assign rfl)) ?_
  refine JL.q (OpP.q (p_assign rfl)) ?_
  refine JL.nil ?_
  refine Js.seq ?_
  refine Js.seq ?_
  refine Js.region ?_
  refine JL.q (q_loadN ty_35 rfl (Mem.boxR (i := 0) rfl 0 17) rfl rfl) ?_
  refine JL.e (e_callV fn_62 rfl (fun w hw => c_impl_ValidGame g _ w ⟨_, rfl, ⟨rfl, rfl, rfl, rfl, rfl, rfl, rfl, rfl, rfl, (Ty.mono _ h1_9 hw.vis), (Ty.mono _ h1_10 hw.vis), rfl, (Ty.mono _ h1_12 hw.vis), (Ty.mono _ h1_13 hw.vis), (Ty.mono _ h1_14 hw.vis), rfl, rfl, trivial⟩⟩ (by omega) (by omega) (by omega) (by omega) (by omega))) ?_
  rintro _ _ _ ⟨rfl, rfl, rfl⟩ _
  refine JL.q (OpP.q (p_not rfl)) ?_
  refine JL.nil ?_
  refine Js.cond rfl (fun h3 => ?_) (fun h3 => ?_)
  ·
    have h3' := h3
    try simp only [Bool.not_eq_true'] at h3'
    have hno : M.okG g = false := by simpa using h3
    have hC := M.okC_no hno
    have hE := M.moversR_no hno
    refine Js.seq ?_
    refine Js.region ?_
    refine JL.q (OpP.q (p_assign rfl)) ?_
    refine JL.q (OpP.q (p_assign rfl)) ?_
    refine JL.nil ?_
    refine Js.ret (R := RO w (Ty.tup [Ty.ints 2 (M.moversR g), Ty.int (M.okC g)])) @Try.results29 (fun _ _ => rfl) (ResOk.tmp rfl (ResOk.tmp rfl ResOk.nil)) (fun w1 hw => ?_)
    have hx := hw.ext (Up.refl _ _)
    exact ret_own (ps := []) hw hx ⟨_, rfl, ⟨_, _, rfl, (ints_cast (show [] = M.moversR g by first | (rw [hE]; done) | (rw [hC]; done)) nil_own), ⟨_, _, rfl, ⟨by first | (rw [hE]; done) | (rw [hC]; done), rfl⟩, rfl⟩⟩⟩ Pick.nil (by simp [List.flatten, outV])
  ·
    have h3' := h3
    try simp only [Bool.not_eq_false'] at h3'
    have hok : M.okG g = true := by simpa using h3
    obtain ⟨k1, k2, k3, k4, k5, k6, k7, k8, k9⟩ := M.okG_parts hok
    have hnow := M.okG_now hok
    have k10 := M.okP_len hnow
    have k11 := M.okP_len k1
    (have k12 : (M.playedP g).length = g.moves.length + 1 := by rw [k6, M.hist_length, k8])
    have k13 : (M.playedR g).length = g.moves.length := by rw [k7, k8]
    have hC := M.okC_yes hok
    refine Js.skip ?_
    refine Js.seq ?_
    refine Js.region ?_
    refine JL.q (q_loadN ty_35 rfl (Mem.boxR (i := 0) rfl 0 17) rfl rfl) ?_
    refine JL.e (e_callP fn_72 rfl (fun w hw => c_impl_Game_played g _ w ⟨_, rfl, ⟨rfl, rfl, rfl, rfl, rfl, rfl, rfl, rfl, rfl, (Ty.mono _ h1_9 hw.vis), (Ty.mono _ h1_10 hw.vis), rfl, (Ty.mono _ h1_12 hw.vis), (Ty.mono _ h1_13 hw.vis), (Ty.mono _ h1_14 hw.vis), rfl, rfl, trivial⟩⟩ (by omega) (by omega) (by omega) (by omega) (by omega))) ?_
    rintro v4 _ u6 ⟨h5, rfl⟩ x6
    obtain ⟨vs7, rfl, hv7⟩ := h5
    obtain ⟨v7_0, vs7, rfl, hw7_0, hv7⟩ := cellsOk_cons hv7
    obtain ⟨v7_1, vs7, rfl, hw7_1, hv7⟩ := cellsOk_cons hv7
    obtain ⟨v7_2, vs7, rfl, hw7_2, hv7⟩ := cellsOk_cons hv7
    obtain rfl := cellsOk_nil hv7
    obtain ⟨A8, c8, rfl, bl8, bh8⟩ := sl_form hw7_0
    obtain ⟨A9, c9, rfl, bl9, bh9⟩ := sl_form hw7_1
    obtain rfl : v7_2 = .bool (M.playedOk g) := hw7_2
    refine JL.q (OpP.q (p_move rfl)) ?_
    refine JL.q (OpP.q (p_extract rfl rfl)) ?_
    refine JL.q (OpP.q (p_extract rfl rfl)) ?_
    refine JL.q (OpP.q (p_extract rfl rfl)) ?_
    refine JL.q (OpP.q (p_assign rfl)) ?_
    refine JL.q (OpP.q (p_assign rfl)) ?_
    refine JL.q (OpP.q (p_assign rfl)) ?_
    refine JL.nil ?_
    refine Js.seq ?_
    refine Js.region ?_
    refine JL.e (e_buildSlice (vs := []) el_24 rfl rfl rfl rfl rfl rfl) ?_
    rintro _ _ _ ⟨b10, rfl, rfl, hl11, rfl⟩ _
    refine JL.q (OpP.q (p_assign rfl)) ?_
    refine JL.nil ?_
    refine Js.seq ?_
    refine Js.seq ?_
    refine Js.region ?_
    refine JL.q (OpP.q (p_move rfl)) ?_
    refine JL.q (OpP.q (p_move rfl)) ?_
    refine JL.q (OpP.q (p_len el_44 rfl)) ?_
    refine JL.q (OpP.q (p_sub rfl rfl (IntWalk.i64_in _ (by omega)))) ?_
    have hl12 : (((M.playedP g).drop 0).take ((((((M.playedP g).length) : Int) - 1).toNat) - 0)).length = (((((M.playedP g).length) : Int) - 1).toNat) - 0 := by rw [List.length_take, List.length_drop]; omega
    have hs12 := lPosition_cut (a := 0) (b := ((((M.playedP g).length) : Int) - 1).toNat) (m := c8) hw7_0 (by omega) (by omega) (by omega) (by omega) hl12
    refine JL.q (OpP.q (p_cast (v' := .slice (cutA 3 A8 0 c8) ((((M.playedP g).drop 0).take ((((((M.playedP g).length) : Int) - 1).toNat) - 0)).length) (c8 - 0)) (p_slice (lo' := 0) (hi' := ((((M.playedP g).length) : Int) - 1).toNat) (mx' := c8) el_44 rfl rfl ⟨_, by rw [Int.toNat_of_nonneg (by omega)]; exact rfl, by omega⟩ rfl) (by rw [hl12]))) ?_
    refine JL.q (OpP.q (p_len el_44 rfl)) ?_
    refine JL.q (OpP.q (p_move rfl)) ?_
    refine JL.nil ?_
    refine Js.block ?_
    refine Js.loop (fun l os u m => ∃ (k : Nat) (out : List Int) (A13_7 : Option Addr) (c13_7 : Nat) (g13_7 : List Nat), l = [(7, .slice A13_7 out.length c13_7), (24, .slice (cutA 3 A8 0 c8) ((((M.playedP g).drop 0).take ((((((M.playedP g).length) : Int) - 1).toNat) - 0)).length) (c8 - 0)), (25, .int .i64 (((((M.playedP g).drop 0).take ((((((M.playedP g).length) : Int) - 1).toNat) - 0)).length) : Int)), (26, .int .i64 (k : Int))] ∧ os = [rowO 2 1 (.slice A13_7 out.length c13_7) out.length (ints_ out) g13_7, boxO b2 [.int .i64 g.rules.pits, .int .i64 g.rules.seeds, .bool g.rules.stores, .bool g.rules.skip, .bool g.rules.relay, .bool g.rules.feed, .bool g.rules.again, .int .i64 g.rules.capture, .int .i64 g.rules.slam, .slice A1_9 g.start.pits.length c1_9, .slice A1_10 g.start.stores.length c1_10, .int .i64 g.start.player, .slice A1_12 g.moves.length c1_12, .slice A1_13 g.now.pits.length c1_13, .slice A1_14 g.now.stores.length c1_14, .int .i64 g.now.player, .int .i64 g.resigned] 35] ∧ Up w.heap.size u6 u ∧ (out = M.movers ((M.playedP g).take k)) ∧ (k ≤ g.moves.length) ∧ (out.length = k) ∧ (out.length ≤ c13_7) ∧ (c13_7 ≤ 9223372036854775807) ∧ m = g.moves.length - k) ⟨0, [], _, _, _, rfl, rfl, Up.refl _ _, by rfl, by first | assumption | omega | rfl | (simp; done), by rfl, by first | omega | (simp only [List.length_append, List.length_cons, List.length_nil] <;> omega), by first | omega | (simp only [List.length_append, List.length_cons, List.length_nil] <;> omega), rfl⟩ ⟨rfl, rfl, rfl, rfl, trivial⟩ ?_
    · rintro _ _ u13 _ ⟨k, out, A13_7, c13_7, g13_7, rfl, rfl, x13, hO, hk, hl, f13_3, f13_4, rfl⟩
      refine Js.seq ?_
      refine Js.region ?_
      refine JL.q (OpP.q (p_lss rfl rfl)) ?_
      refine JL.nil ?_
      refine Js.seq ?_
      refine Js.cond rfl (fun h14 => ?_) (fun h14 => ?_)
      ·
        have h14' := h14
        try simp only [decide_eq_true_eq] at h14'
        refine Js.skip ?_
        refine Js.seq ?_
        refine Js.block ?_
        refine Js.seq ?_
        refine Js.region ?_
        obtain ⟨y15, hy15⟩ : ∃ x, (((M.playedP g).drop 0).take ((((((M.playedP g).length) : Int) - 1).toNat) - 0))[k]? = some x := ⟨_, List.getElem?_eq_getElem (by omega)⟩
        obtain ⟨b15, o15, A15_0, c15_0, A15_1, c15_1, he15, hr15, h15_0, h15_1, bl15_0, bh15_0, bl15_1, bh15_1⟩ := elem_Position (Ty.mono _ hs12 x13.vis) hy15
        refine JL.q (OpP.q (p_indexAddr el_44 rfl rfl (by omega) (by omega) he15)) ?_
        refine JL.q (q_loadN ty_33 rfl (Mem.pubR (hr15.sub 0 3)) rfl rfl) ?_
        refine JL.e (e_alloc zero_33) ?_
        rintro _ _ _ ⟨b16, rfl, rfl, rfl⟩ _
        refine JL.s (e_store (i := 0) (c' := [.slice A15_0 y15.pits.length c15_0, .slice A15_1 y15.stores.length c15_1, .int .i64 y15.player]) ty_33 rfl rfl rfl rfl rfl rfl rfl rfl) ?_
        rintro _ _ _ ⟨rfl, rfl⟩ _
        refine JL.nil ?_
        refine Js.region ?_
        refine JL.q (OpP.q (p_move rfl)) ?_
        refine JL.q (OpP.q (p_fieldAddr fld_33_2 rfl)) ?_
        refine JL.q (q_load1 ty_2 rfl (Mem.box (i := 0) rfl rfl)) ?_
        refine JL.e (e_buildSlice (vs := [.int .i64 y15.player]) el_24 rfl rfl rfl rfl rfl rfl) ?_
        rintro _ _ _ ⟨b17, rfl, rfl, hl18, rfl⟩ _
        refine JL.e (e_append (i := 2) (n' := (out ++ [y15.player]).length) (vs' := ints_ (out ++ [y15.player])) el_24 rfl rfl rfl rfl (src_row (i := 0) und_24 rfl rfl) (by omega) (by omega) (by first | omega | (simp only [List.length_append, List.length_cons, List.length_nil] <;> omega)) (by simp [ints_])) ?_
        rintro v19 _ _ ⟨⟨g20, rfl⟩, rfl⟩ _
        refine JL.fact (row_form' (i := 2) rfl) (fun hf21 => ?_)
        obtain ⟨A21, c21, rfl, bl21, bh21⟩ := hf21
        refine JL.q (OpP.q (p_assign rfl)) ?_
        refine JL.nil ?_
        refine Js.blockEnd ?_
        refine Js.region ?_
        refine JL.q (OpP.q (p_add rfl rfl (IntWalk.i64_in _ (by omega)))) ?_
        refine JL.q (OpP.q (p_move rfl)) ?_
        refine JL.nil ?_
        refine Js.drop (i := 0) rfl rfl (fun u22 x22 => ?_)
        refine Js.drop (i := 0) rfl rfl (fun u23 x23 => ?_)
        exact Js.again ⟨k + 1, out ++ [y15.player], _, _, _, rfl, rfl, ((x13.trans x22).trans x23), by rw [hO]; exact (M.movers_step (M.take_get (by assumption))).symm, by first | assumption | omega | rfl | (simp; done), by simp [hl], by first | omega | (simp only [List.length_append, List.length_cons, List.length_nil] <;> omega), by first | omega | (simp only [List.length_append, List.length_cons, List.length_nil] <;> omega), rfl⟩ (by omega) ⟨rfl, rfl, rfl, rfl, trivial⟩
      ·
        have h14' := h14
        try simp only [decide_eq_false_iff_not, Int.not_lt] at h14'
        have hE : M.moversR g = out := by rw [M.moversR_yes hok, hO, show k = g.moves.length by have := h14'; omega]
        refine Js.exit (fun _ _ => rfl) ?_
        refine Js.seq ?_
        refine Js.region ?_
        refine JL.q (OpP.q (p_move rfl)) ?_
        refine JL.q (OpP.q (p_assign rfl)) ?_
        refine JL.q (OpP.q (p_assign rfl)) ?_
        refine JL.nil ?_
        refine Js.ret (R := RO w (Ty.tup [Ty.ints 2 (M.moversR g), Ty.int (M.okC g)])) @Try.results29 (fun _ _ => rfl) (ResOk.tmp rfl (ResOk.tmp rfl ResOk.nil)) (fun w1 hw => ?_)
        have hx := hw.ext ((x6.trans x13))
        exact ret_own (ps := [(0, (Value.ownBlock (.slice A13_7 out.length c13_7)).toList)]) hw hx ⟨_, rfl, ⟨_, _, rfl, (ints_row (xs := out) (hw.pr (i := 0) rfl) (show out = M.moversR g by first | (rw [hE]; done) | (rw [hC]; done))), ⟨_, _, rfl, ⟨by first | (rw [hE]; done) | (rw [hC]; done), rfl⟩, rfl⟩⟩⟩ (Pick.cons (j := 0) rfl (List.sublist_append_left _ _) rfl Pick.nil) (by simp [List.flatten, outV])

set_option maxRecDepth 100000 in
set_option maxHeartbeats 400000 in
theorem c_impl_Game_copied (g : M.Gam) (v_g : Value) (w : World) (h_g : (Ty.agg (cGame g)).ok w v_g) (r0 : g.start.pits.length ≤ 4194304) (r1 : g.start.stores.length ≤ 4194304) (r2 : g.moves.length ≤ 4194304) (r3 : g.now.pits.length ≤ 4194304) (r4 : g.now.stores.length ≤ 4194304) : Ret Try.prog 79 [v_g] w (Ty.agg (cGame g)) := by
  obtain ⟨A1_9, c1_9, A1_10, c1_10, A1_12, c1_12, A1_13, c1_13, A1_14, c1_14, rfl, h1_9, h1_10, h1_12, h1_13, h1_14, bl1_9, bh1_9, bl1_10, bh1_10, bl1_12, bh1_12, bl1_13, bh1_13, bl1_14, bh1_14⟩ := open_Game h_g
  refine enter @Try.func79 @Try.ntmps79 rfl rfl ?_
  refine Js.seq ?_
  refine Js.region ?_
  refine JL.e (e_box (c := [.int .i64 g.rules.pits, .int .i64 g.rules.seeds, .bool g.rules.stores, .bool g.rules.skip, .bool g.rules.relay, .bool g.rules.feed, .bool g.rules.again, .int .i64 g.rules.capture, .int .i64 g.rules.slam, .slice A1_9 g.start.pits.length c1_9, .slice A1_10 g.start.stores.length c1_10, .int .i64 g.start.player, .slice A1_12 g.moves.length c1_12, .slice A1_13 g.now.pits.length c1_13, .slice A1_14 g.now.stores.length c1_14, .int .i64 g.now.player, .int .i64 g.resigned]) rfl rfl) ?_
  rintro _ _ _ ⟨b2, rfl, rfl, rfl⟩ _
  refine JL.e (e_alloc zero_35) ?_
  rintro _ _ _ ⟨b3, rfl, rfl, rfl⟩ _
  refine JL.nil ?_
  refine Js.seq ?_
  refine Js.drawn _ [14] mixed_ (fun _ h => h) ?_
  refine JH.p 0 rfl (p_fieldAddr fld_35_0 rfl) ?_
  refine JH.q 1 rfl (q_loadN ty_32 rfl (Mem.boxR (i := 1) rfl 0 9) rfl rfl) ?_
  refine JH.p 2 rfl (p_fieldAddr fld_35_1 rfl) ?_
  refine JH.q 3 rfl (q_loadN ty_33 rfl (Mem.boxR (i := 1) rfl 9 3) rfl rfl) ?_
  refine JH.p 5 rfl (p_fieldAddr fld_35_2 rfl) ?_
  refine JH.q 6 rfl (q_load1 ty_24 rfl (Mem.box (i := 1) rfl rfl)) ?_
  refine JH.p 8 rfl (p_fieldAddr fld_35_3 rfl) ?_
  refine JH.q 9 rfl (q_loadN ty_33 rfl (Mem.boxR (i := 1) rfl 13 3) rfl rfl) ?_
  refine JH.p 11 rfl (p_fieldAddr fld_35_4 rfl) ?_
  refine JH.q 12 rfl (q_load1 ty_2 rfl (Mem.box (i := 1) rfl rfl)) ?_
  refine JH.one (i := 4) (by kernel_rfl) ?_
  refine JHo.e rfl (e_callO fn_104 rfl (Spl.agg (Spls.cons (Spl.ints _ _) (Spls.cons (Spl.ints _ _) (Spls.cons (Spl.val _) Spls.nil)))) (fun w hw => c_impl_Position_copied g.start _ w ⟨_, rfl, ⟨(Ty.mono _ h1_9 hw.vis), (Ty.mono _ h1_10 hw.vis), rfl, trivial⟩⟩ (by omega) (by omega))) (.inl rfl) ?_
  rintro v4 _ _ ⟨_, hR5, rfl, rfl⟩ _
  obtain ⟨vs6, rfl, hr6⟩ := hR5
  obtain ⟨v6_0, vs6_0, o6_0, ow6_0, rfl, hR6_0, hs6_0, rfl⟩ := RL_cons hr6
  obtain ⟨v6_1, vs6_1, o6_1, ow6_1, rfl, hR6_1, hs6_1, rfl⟩ := RL_cons hs6_0
  obtain ⟨v6_2, vs6_2, o6_2, ow6_2, rfl, hR6_2, hs6_2, rfl⟩ := RL_cons hs6_1
  obtain ⟨rfl, rfl⟩ := RL_nil hs6_2
  obtain ⟨A7, c7, rfl, rfl, bl7, bh7⟩ := hR6_0
  obtain ⟨A8, c8, rfl, rfl, bl8, bh8⟩ := hR6_1
  obtain ⟨rfl, rfl⟩ : v6_2 = .int .i64 g.start.player ∧ _ := hR6_2
  refine JH.one (i := 7) (by kernel_rfl) ?_
  refine JHo.e rfl (e_callO fn_106 rfl (Spl.ints _ _) (fun w hw => c_impl_copyNumbers g.moves _ w (Ty.mono _ h1_12 hw.vis) (by omega))) (.inl rfl) ?_
  rintro v9 _ _ ⟨_, hR10, rfl, rfl⟩ _
  obtain ⟨A11, c11, rfl, rfl, bl11, bh11⟩ := hR10
  refine JH.one (i := 10) (by kernel_rfl) ?_
  refine JHo.e rfl (e_callO fn_104 rfl (Spl.agg (Spls.cons (Spl.ints _ _) (Spls.cons (Spl.ints _ _) (Spls.cons (Spl.val _) Spls.nil)))) (fun w hw => c_impl_Position_copied g.now _ w ⟨_, rfl, ⟨(Ty.mono _ h1_13 hw.vis), (Ty.mono _ h1_14 hw.vis), rfl, trivial⟩⟩ (by omega) (by omega))) (.inl rfl) ?_
  rintro v12 _ _ ⟨_, hR13, rfl, rfl⟩ _
  obtain ⟨vs14, rfl, hr14⟩ := hR13
  obtain ⟨v14_0, vs14_0, o14_0, ow14_0, rfl, hR14_0, hs14_0, rfl⟩ := RL_cons hr14
  obtain ⟨v14_1, vs14_1, o14_1, ow14_1, rfl, hR14_1, hs14_1, rfl⟩ := RL_cons hs14_0
  obtain ⟨v14_2, vs14_2, o14_2, ow14_2, rfl, hR14_2, hs14_2, rfl⟩ := RL_cons hs14_1
  obtain ⟨rfl, rfl⟩ := RL_nil hs14_2
  obtain ⟨A15, c15, rfl, rfl, bl15, bh15⟩ := hR14_0
  obtain ⟨A16, c16, rfl, rfl, bl16, bh16⟩ := hR14_1
  obtain ⟨rfl, rfl⟩ : v14_2 = .int .i64 g.now.player ∧ _ := hR14_2
  refine JH.p 13 rfl (p_build zero_35 flds_35 rfl rfl) ?_
  refine JH.one (i := 14) (by kernel_rfl) ?_
  refine JHo.s rfl (e_store (i := 5) (c' := [.int .i64 g.rules.pits, .int .i64 g.rules.seeds, .bool g.rules.stores, .bool g.rules.skip, .bool g.rules.relay, .bool g.rules.feed, .bool g.rules.again, .int .i64 g.rules.capture, .int .i64 g.rules.slam, .slice A7 g.start.pits.length c7, .slice A8 g.start.stores.length c8, .int .i64 g.start.player, .slice A11 g.moves.length c11, .slice A15 g.now.pits.length c15, .slice A16 g.now.stores.length c16, .int .i64 g.now.player, .int .i64 g.resigned]) ty_35 rfl rfl rfl rfl rfl rfl rfl rfl) (.inr rfl) ?_
  rintro _ _ _ ⟨rfl, rfl⟩ _
  refine JH.done (by kernel_rfl) ?_
  refine Js.ret (R := RO w (Ty.agg (cGame g))) @Try.results79 (fun _ _ => rfl) (ResOk.cell (res_box (i := 5) ty_35 rfl rfl rfl rfl rfl) ResOk.nil) (fun w1 hw => ?_)
  have hx := hw.ext (Up.refl _ _)
  exact ret_own (ps := [(3, (Value.ownBlock (.slice A7 g.start.pits.length c7)).toList), (4, (Value.ownBlock (.slice A8 g.start.stores.length c8)).toList), (2, (Value.ownBlock (.slice A11 g.moves.length c11)).toList), (0, (Value.ownBlock (.slice A15 g.now.pits.length c15)).toList), (1, (Value.ownBlock (.slice A16 g.now.stores.length c16)).toList)]) hw hx ⟨_, rfl, ⟨_, _, rfl, ⟨rfl, rfl⟩, ⟨_, _, rfl, ⟨rfl, rfl⟩, ⟨_, _, rfl, ⟨rfl, rfl⟩, ⟨_, _, rfl, ⟨rfl, rfl⟩, ⟨_, _, rfl, ⟨rfl, rfl⟩, ⟨_, _, rfl, ⟨rfl, rfl⟩, ⟨_, _, rfl, ⟨rfl, rfl⟩, ⟨_, _, rfl, ⟨rfl, rfl⟩, ⟨_, _, rfl, ⟨rfl, rfl⟩, ⟨_, _, rfl, (ints_row (xs := g.start.pits) (hw.pr (i := 3) rfl) rfl), ⟨_, _, rfl, (ints_row (xs := g.start.stores) (hw.pr (i := 4) rfl) rfl), ⟨_, _, rfl, ⟨rfl, rfl⟩, ⟨_, _, rfl, (ints_row (xs := g.moves) (hw.pr (i := 2) rfl) rfl), ⟨_, _, rfl, (ints_row (xs := g.now.pits) (hw.pr (i := 0) rfl) rfl), ⟨_, _, rfl, (ints_row (xs := g.now.stores) (hw.pr (i := 1) rfl) rfl), ⟨_, _, rfl, ⟨rfl, rfl⟩, ⟨_, _, rfl, ⟨rfl, rfl⟩, rfl⟩⟩⟩⟩⟩⟩⟩⟩⟩⟩⟩⟩⟩⟩⟩⟩⟩⟩ (Pick.cons (j := 3) rfl (List.sublist_append_left _ _) rfl (Pick.cons (j := 4) rfl (List.sublist_append_left _ _) rfl (Pick.cons (j := 2) rfl (List.sublist_append_left _ _) rfl (Pick.cons (j := 0) rfl (List.sublist_append_left _ _) rfl (Pick.cons (j := 1) rfl (List.sublist_append_left _ _) rfl Pick.nil))))) (by simp [List.flatten, outV])

set_option maxRecDepth 100000 in
set_option maxHeartbeats 400000 in
theorem c_impl_ResignGame (g : M.Gam) (v_g : Value) (player : Int) (w : World) (h_g : (Ty.agg (cGame g)).ok w v_g) (r0 : g.start.pits.length ≤ 4194304) (r1 : g.start.stores.length ≤ 4194304) (r2 : g.moves.length ≤ 4194304) (r3 : g.now.pits.length ≤ 4194304) (r4 : g.now.stores.length ≤ 4194304) : Ret Try.prog 36 [v_g, .int .i64 player] w (Ty.tup [Ty.agg (cGame ((M.resign g player).1)), Ty.int ((M.resign g player).2)]) := by
  obtain ⟨A1_9, c1_9, A1_10, c1_10, A1_12, c1_12, A1_13, c1_13, A1_14, c1_14, rfl, h1_9, h1_10, h1_12, h1_13, h1_14, bl1_9, bh1_9, bl1_10, bh1_10, bl1_12, bh1_12, bl1_13, bh1_13, bl1_14, bh1_14⟩ := open_Game h_g
  refine enter @Try.func36 @Try.ntmps36 rfl rfl ?_
  refine Js.seq ?_
  refine Js.region ?_
  refine JL.e (e_box (c := [.int .i64 g.rules.pits, .int .i64 g.rules.seeds, .bool g.rules.stores, .bool g.rules.skip, .bool g.rules.relay, .bool g.rules.feed, .bool g.rules.again, .int .i64 g.rules.capture, .int .i64 g.rules.slam, .slice A1_9 g.start.pits.length c1_9, .slice A1_10 g.start.stores.length c1_10, .int .i64 g.start.player, .slice A1_12 g.moves.length c1_12, .slice A1_13 g.now.pits.length c1_13, .slice A1_14 g.now.stores.length c1_14, .int .i64 g.now.player, .int .i64 g.resigned]) rfl rfl) ?_
  rintro _ _ _ ⟨b2, rfl, rfl, rfl⟩ _
  refine JL.e (e_alloc zero_35) ?_
  rintro _ _ _ ⟨b3, rfl, rfl, rfl⟩ _
  refine JL.q (OpP.q (p_assign rfl)) ?_
  refine JL.nil ?_
  refine Js.seq ?_
  refine Js.seq ?_
  refine Js.region ?_
  refine JL.q (q_loadN ty_35 rfl (Mem.boxR (i := 1) rfl 0 17) rfl rfl) ?_
  refine JL.e (e_callV fn_62 rfl (fun w hw => c_impl_ValidGame g _ w ⟨_, rfl, ⟨rfl, rfl, rfl, rfl, rfl, rfl, rfl, rfl, rfl, (Ty.mono _ h1_9 hw.vis), (Ty.mono _ h1_10 hw.vis), rfl, (Ty.mono _ h1_12 hw.vis), (Ty.mono _ h1_13 hw.vis), (Ty.mono _ h1_14 hw.vis), rfl, rfl, trivial⟩⟩ (by omega) (by omega) (by omega) (by omega) (by omega))) ?_
  rintro _ _ _ ⟨rfl, rfl, rfl⟩ _
  refine JL.q (OpP.q (p_not rfl)) ?_
  refine JL.nil ?_
  refine Js.cond rfl (fun h4 => ?_) (fun h4 => ?_)
  ·
    have h4' := h4
    try simp only [Bool.not_eq_true'] at h4'
    have hno : M.okG g = false := by simpa using h4
    have hC := M.okC_no hno
    have hE := M.resign_1 (player := player) hno
    refine Js.seq ?_
    refine Js.region ?_
    refine JL.q (OpP.q (p_build zero_35 flds_35 rfl rfl)) ?_
    refine JL.s (e_store (i := 0) (c' := [.int .i64 0, .int .i64 0, .bool false, .bool false, .bool false, .bool false, .bool false, .int .i64 0, .int .i64 0, .slice none 0 0, .slice none 0 0, .int .i64 0, .slice none 0 0, .slice none 0 0, .slice none 0 0, .int .i64 0, .int .i64 0]) ty_35 rfl rfl rfl rfl rfl rfl rfl rfl) ?_
    rintro _ _ _ ⟨rfl, rfl⟩ _
    refine JL.q (OpP.q (p_assign rfl)) ?_
    refine JL.nil ?_
    refine Js.ret (R := RO w (Ty.tup [Ty.agg (cGame ((M.resign g player).1)), Ty.int ((M.resign g player).2)])) @Try.results36 (fun _ _ => rfl) (ResOk.cell (res_box (i := 0) ty_35 rfl rfl rfl rfl rfl) (ResOk.tmp rfl ResOk.nil)) (fun w1 hw => ?_)
    have hx := hw.ext (Up.refl _ _)
    exact ret_own (ps := []) hw hx ⟨_, rfl, ⟨_, _, rfl, ⟨_, rfl, ⟨_, _, rfl, ⟨by first | (rw [hE]; done) | (rw [hE]; rfl), rfl⟩, ⟨_, _, rfl, ⟨by first | (rw [hE]; done) | (rw [hE]; rfl), rfl⟩, ⟨_, _, rfl, ⟨by first | (rw [hE]; done) | (rw [hE]; rfl), rfl⟩, ⟨_, _, rfl, ⟨by first | (rw [hE]; done) | (rw [hE]; rfl), rfl⟩, ⟨_, _, rfl, ⟨by first | (rw [hE]; done) | (rw [hE]; rfl), rfl⟩, ⟨_, _, rfl, ⟨by first | (rw [hE]; done) | (rw [hE]; rfl), rfl⟩, ⟨_, _, rfl, ⟨by first | (rw [hE]; done) | (rw [hE]; rfl), rfl⟩, ⟨_, _, rfl, ⟨by first | (rw [hE]; done) | (rw [hE]; rfl), rfl⟩, ⟨_, _, rfl, ⟨by first | (rw [hE]; done) | (rw [hE]; rfl), rfl⟩, ⟨_, _, rfl, (ints_cast (show [] = (((M.resign g player).1).start).pits by first | (rw [hE]; done) | (rw [hE]; rfl)) nil_own), ⟨_, _, rfl, (ints_cast (show [] = (((M.resign g player).1).start).stores by first | (rw [hE]; done) | (rw [hE]; rfl)) nil_own), ⟨_, _, rfl, ⟨by first | (rw [hE]; done) | (rw [hE]; rfl), rfl⟩, ⟨_, _, rfl, (ints_cast (show [] = ((M.resign g player).1).moves by first | (rw [hE]; done) | (rw [hE]; rfl)) nil_own), ⟨_, _, rfl, (ints_cast (show [] = (((M.resign g player).1).now).pits by first | (rw [hE]; done) | (rw [hE]; rfl)) nil_own), ⟨_, _, rfl, (ints_cast (show [] = (((M.resign g player).1).now).stores by first | (rw [hE]; done) | (rw [hE]; rfl)) nil_own), ⟨_, _, rfl, ⟨by first | (rw [hE]; done) | (rw [hE]; rfl), rfl⟩, ⟨_, _, rfl, ⟨by first | (rw [hE]; done) | (rw [hE]; rfl), rfl⟩, rfl⟩⟩⟩⟩⟩⟩⟩⟩⟩⟩⟩⟩⟩⟩⟩⟩⟩⟩, ⟨_, _, rfl, ⟨by first | (rw [hE]; done) | (rw [hE]; rfl), rfl⟩, rfl⟩⟩⟩ Pick.nil (by simp [List.flatten, outV])
  ·
    have h4' := h4
    try simp only [Bool.not_eq_false'] at h4'
    have hok : M.okG g = true := by simpa using h4
    obtain ⟨k1, k2, k3, k4, k5, k6, k7, k8, k9⟩ := M.okG_parts hok
    have hnow := M.okG_now hok
    have k10 := M.okP_len hnow
    have k11 := M.okP_len k1
    (have k12 : (M.playedP g).length = g.moves.length + 1 := by rw [k6, M.hist_length, k8])
    have k13 : (M.playedR g).length = g.moves.length := by rw [k7, k8]
    have hC := M.okC_yes hok
    refine Js.skip ?_
    refine Js.seq ?_
    refine Js.seq ?_
    refine Js.region ?_
    refine JL.q (OpP.q (p_move rfl)) ?_
    refine JL.e (e_callV fn_78 rfl (fun w hw => c_impl_isPlayer player w)) ?_
    rintro _ _ _ ⟨rfl, rfl, rfl⟩ _
    refine JL.q (OpP.q (p_not rfl)) ?_
    refine JL.nil ?_
    refine Js.cond rfl (fun h5 => ?_) (fun h5 => ?_)
    ·
      have h5' := h5
      try simp only [Bool.not_eq_true'] at h5'
      have hE := M.resign_2 hok (by simpa using h5)
      refine Js.seq ?_
      refine Js.region ?_
      refine JL.q (OpP.q (p_build zero_35 flds_35 rfl rfl)) ?_
      refine JL.s (e_store (i := 0) (c' := [.int .i64 0, .int .i64 0, .bool false, .bool false, .bool false, .bool false, .bool false, .int .i64 0, .int .i64 0, .slice none 0 0, .slice none 0 0, .int .i64 0, .slice none 0 0, .slice none 0 0, .slice none 0 0, .int .i64 0, .int .i64 0]) ty_35 rfl rfl rfl rfl rfl rfl rfl rfl) ?_
      rintro _ _ _ ⟨rfl, rfl⟩ _
      refine JL.q (OpP.q (p_assign rfl)) ?_
      refine JL.nil ?_
      refine Js.ret (R := RO w (Ty.tup [Ty.agg (cGame ((M.resign g player).1)), Ty.int ((M.resign g player).2)])) @Try.results36 (fun _ _ => rfl) (ResOk.cell (res_box (i := 0) ty_35 rfl rfl rfl rfl rfl) (ResOk.tmp rfl ResOk.nil)) (fun w1 hw => ?_)
      have hx := hw.ext (Up.refl _ _)
      exact ret_own (ps := []) hw hx ⟨_, rfl, ⟨_, _, rfl, ⟨_, rfl, ⟨_, _, rfl, ⟨by first | (rw [hE]; done) | (rw [hE]; rfl), rfl⟩, ⟨_, _, rfl, ⟨by first | (rw [hE]; done) | (rw [hE]; rfl), rfl⟩, ⟨_, _, rfl, ⟨by first | (rw [hE]; done) | (rw [hE]; rfl), rfl⟩, ⟨_, _, rfl, ⟨by first | (rw [hE]; done) | (rw [hE]; rfl), rfl⟩, ⟨_, _, rfl, ⟨by first | (rw [hE]; done) | (rw [hE]; rfl), rfl⟩, ⟨_, _, rfl, ⟨by first | (rw [hE]; done) | (rw [hE]; rfl), rfl⟩, ⟨_, _, rfl, ⟨by first | (rw [hE]; done) | (rw [hE]; rfl), rfl⟩, ⟨_, _, rfl, ⟨by first | (rw [hE]; done) | (rw [hE]; rfl), rfl⟩, ⟨_, _, rfl, ⟨by first | (rw [hE]; done) | (rw [hE]; rfl), rfl⟩, ⟨_, _, rfl, (ints_cast (show [] = (((M.resign g player).1).start).pits by first | (rw [hE]; done) | (rw [hE]; rfl)) nil_own), ⟨_, _, rfl, (ints_cast (show [] = (((M.resign g player).1).start).stores by first | (rw [hE]; done) | (rw [hE]; rfl)) nil_own), ⟨_, _, rfl, ⟨by first | (rw [hE]; done) | (rw [hE]; rfl), rfl⟩, ⟨_, _, rfl, (ints_cast (show [] = ((M.resign g player).1).moves by first | (rw [hE]; done) | (rw [hE]; rfl)) nil_own), ⟨_, _, rfl, (ints_cast (show [] = (((M.resign g player).1).now).pits by first | (rw [hE]; done) | (rw [hE]; rfl)) nil_own), ⟨_, _, rfl, (ints_cast (show [] = (((M.resign g player).1).now).stores by first | (rw [hE]; done) | (rw [hE]; rfl)) nil_own), ⟨_, _, rfl, ⟨by first | (rw [hE]; done) | (rw [hE]; rfl), rfl⟩, ⟨_, _, rfl, ⟨by first | (rw [hE]; done) | (rw [hE]; rfl), rfl⟩, rfl⟩⟩⟩⟩⟩⟩⟩⟩⟩⟩⟩⟩⟩⟩⟩⟩⟩⟩, ⟨_, _, rfl, ⟨by first | (rw [hE]; done) | (rw [hE]; rfl), rfl⟩, rfl⟩⟩⟩ Pick.nil (by simp [List.flatten, outV])
    ·
      have h5' := h5
      try simp only [Bool.not_eq_false'] at h5'
      have hp : M.isPl player = true := by simpa using h5
      refine Js.skip ?_
      refine Js.seq ?_
      refine Js.seq ?_
      refine Js.region ?_
      refine JL.q (OpP.q (p_fieldAddr fld_35_4 rfl)) ?_
      refine JL.q (q_load1 ty_2 rfl (Mem.box (i := 1) rfl rfl)) ?_
      refine JL.q (OpP.q (p_geq rfl rfl)) ?_
      refine JL.nil ?_
      refine Js.cond rfl (fun h6 => ?_) (fun h6 => ?_)
      ·
        have h6' := h6
        try simp only [decide_eq_true_eq] at h6'
        have hE := M.resign_6 hok hp (by simpa using h6)
        refine Js.seq ?_
        refine Js.region ?_
        refine JL.q (OpP.q (p_build zero_35 flds_35 rfl rfl)) ?_
        refine JL.s (e_store (i := 0) (c' := [.int .i64 0, .int .i64 0, .bool false, .bool false, .bool false, .bool false, .bool false, .int .i64 0, .int .i64 0, .slice none 0 0, .slice none 0 0, .int .i64 0, .slice none 0 0, .slice none 0 0, .slice none 0 0, .int .i64 0, .int .i64 0]) ty_35 rfl rfl rfl rfl rfl rfl rfl rfl) ?_
        rintro _ _ _ ⟨rfl, rfl⟩ _
        refine JL.q (OpP.q (p_assign rfl)) ?_
        refine JL.nil ?_
        refine Js.ret (R := RO w (Ty.tup [Ty.agg (cGame ((M.resign g player).1)), Ty.int ((M.resign g player).2)])) @Try.results36 (fun _ _ => rfl) (ResOk.cell (res_box (i := 0) ty_35 rfl rfl rfl rfl rfl) (ResOk.tmp rfl ResOk.nil)) (fun w1 hw => ?_)
        have hx := hw.ext (Up.refl _ _)
        exact ret_own (ps := []) hw hx ⟨_, rfl, ⟨_, _, rfl, ⟨_, rfl, ⟨_, _, rfl, ⟨by first | (rw [hE]; done) | (rw [hE]; rfl), rfl⟩, ⟨_, _, rfl, ⟨by first | (rw [hE]; done) | (rw [hE]; rfl), rfl⟩, ⟨_, _, rfl, ⟨by first | (rw [hE]; done) | (rw [hE]; rfl), rfl⟩, ⟨_, _, rfl, ⟨by first | (rw [hE]; done) | (rw [hE]; rfl), rfl⟩, ⟨_, _, rfl, ⟨by first | (rw [hE]; done) | (rw [hE]; rfl), rfl⟩, ⟨_, _, rfl, ⟨by first | (rw [hE]; done) | (rw [hE]; rfl), rfl⟩, ⟨_, _, rfl, ⟨by first | (rw [hE]; done) | (rw [hE]; rfl), rfl⟩, ⟨_, _, rfl, ⟨by first | (rw [hE]; done) | (rw [hE]; rfl), rfl⟩, ⟨_, _, rfl, ⟨by first | (rw [hE]; done) | (rw [hE]; rfl), rfl⟩, ⟨_, _, rfl, (ints_cast (show [] = (((M.resign g player).1).start).pits by first | (rw [hE]; done) | (rw [hE]; rfl)) nil_own), ⟨_, _, rfl, (ints_cast (show [] = (((M.resign g player).1).start).stores by first | (rw [hE]; done) | (rw [hE]; rfl)) nil_own), ⟨_, _, rfl, ⟨by first | (rw [hE]; done) | (rw [hE]; rfl), rfl⟩, ⟨_, _, rfl, (ints_cast (show [] = ((M.resign g player).1).moves by first | (rw [hE]; done) | (rw [hE]; rfl)) nil_own), ⟨_, _, rfl, (ints_cast (show [] = (((M.resign g player).1).now).pits by first | (rw [hE]; done) | (rw [hE]; rfl)) nil_own), ⟨_, _, rfl, (ints_cast (show [] = (((M.resign g player).1).now).stores by first | (rw [hE]; done) | (rw [hE]; rfl)) nil_own), ⟨_, _, rfl, ⟨by first | (rw [hE]; done) | (rw [hE]; rfl), rfl⟩, ⟨_, _, rfl, ⟨by first | (rw [hE]; done) | (rw [hE]; rfl), rfl⟩, rfl⟩⟩⟩⟩⟩⟩⟩⟩⟩⟩⟩⟩⟩⟩⟩⟩⟩⟩, ⟨_, _, rfl, ⟨by first | (rw [hE]; done) | (rw [hE]; rfl), rfl⟩, rfl⟩⟩⟩ Pick.nil (by simp [List.flatten, outV])
      ·
        have h6' := h6
        try simp only [decide_eq_false_iff_not, Int.not_le] at h6'
        have hE := M.resign_0 hok hp (by simpa using h6)
        refine Js.skip ?_
        refine Js.seq ?_
        refine Js.region ?_
        refine JL.q (q_loadN ty_35 rfl (Mem.boxR (i := 1) rfl 0 17) rfl rfl) ?_
        refine JL.e (e_callO fn_79 rfl (Spl.agg (Spls.cons (Spl.val _) (Spls.cons (Spl.val _) (Spls.cons (Spl.val _) (Spls.cons (Spl.val _) (Spls.cons (Spl.val _) (Spls.cons (Spl.val _) (Spls.cons (Spl.val _) (Spls.cons (Spl.val _) (Spls.cons (Spl.val _) (Spls.cons (Spl.ints _ _) (Spls.cons (Spl.ints _ _) (Spls.cons (Spl.val _) (Spls.cons (Spl.ints _ _) (Spls.cons (Spl.ints _ _) (Spls.cons (Spl.ints _ _) (Spls.cons (Spl.val _) (Spls.cons (Spl.val _) Spls.nil)))))))))))))))))) (fun w hw => c_impl_Game_copied g _ w ⟨_, rfl, ⟨rfl, rfl, rfl, rfl, rfl, rfl, rfl, rfl, rfl, (Ty.mono _ h1_9 hw.vis), (Ty.mono _ h1_10 hw.vis), rfl, (Ty.mono _ h1_12 hw.vis), (Ty.mono _ h1_13 hw.vis), (Ty.mono _ h1_14 hw.vis), rfl, rfl, trivial⟩⟩ (by omega) (by omega) (by omega) (by omega) (by omega))) ?_
        rintro v7 _ _ ⟨_, hR8, rfl, rfl⟩ _
        obtain ⟨vs9, rfl, hr9⟩ := hR8
        obtain ⟨v9_0, vs9_0, o9_0, ow9_0, rfl, hR9_0, hs9_0, rfl⟩ := RL_cons hr9
        obtain ⟨v9_1, vs9_1, o9_1, ow9_1, rfl, hR9_1, hs9_1, rfl⟩ := RL_cons hs9_0
        obtain ⟨v9_2, vs9_2, o9_2, ow9_2, rfl, hR9_2, hs9_2, rfl⟩ := RL_cons hs9_1
        obtain ⟨v9_3, vs9_3, o9_3, ow9_3, rfl, hR9_3, hs9_3, rfl⟩ := RL_cons hs9_2
        obtain ⟨v9_4, vs9_4, o9_4, ow9_4, rfl, hR9_4, hs9_4, rfl⟩ := RL_cons hs9_3
        obtain ⟨v9_5, vs9_5, o9_5, ow9_5, rfl, hR9_5, hs9_5, rfl⟩ := RL_cons hs9_4
        obtain ⟨v9_6, vs9_6, o9_6, ow9_6, rfl, hR9_6, hs9_6, rfl⟩ := RL_cons hs9_5
        obtain ⟨v9_7, vs9_7, o9_7, ow9_7, rfl, hR9_7, hs9_7, rfl⟩ := RL_cons hs9_6
        obtain ⟨v9_8, vs9_8, o9_8, ow9_8, rfl, hR9_8, hs9_8, rfl⟩ := RL_cons hs9_7
        obtain ⟨v9_9, vs9_9, o9_9, ow9_9, rfl, hR9_9, hs9_9, rfl⟩ := RL_cons hs9_8
        obtain ⟨v9_10, vs9_10, o9_10, ow9_10, rfl, hR9_10, hs9_10, rfl⟩ := RL_cons hs9_9
        obtain ⟨v9_11, vs9_11, o9_11, ow9_11, rfl, hR9_11, hs9_11, rfl⟩ := RL_cons hs9_10
        obtain ⟨v9_12, vs9_12, o9_12, ow9_12, rfl, hR9_12, hs9_12, rfl⟩ := RL_cons hs9_11
        obtain ⟨v9_13, vs9_13, o9_13, ow9_13, rfl, hR9_13, hs9_13, rfl⟩ := RL_cons hs9_12
        obtain ⟨v9_14, vs9_14, o9_14, ow9_14, rfl, hR9_14, hs9_14, rfl⟩ := RL_cons hs9_13
        obtain ⟨v9_15, vs9_15, o9_15, ow9_15, rfl, hR9_15, hs9_15, rfl⟩ := RL_cons hs9_14
        obtain ⟨v9_16, vs9_16, o9_16, ow9_16, rfl, hR9_16, hs9_16, rfl⟩ := RL_cons hs9_15
        obtain ⟨rfl, rfl⟩ := RL_nil hs9_16
        obtain ⟨rfl, rfl⟩ : v9_0 = .int .i64 g.rules.pits ∧ _ := hR9_0
        obtain ⟨rfl, rfl⟩ : v9_1 = .int .i64 g.rules.seeds ∧ _ := hR9_1
        obtain ⟨rfl, rfl⟩ : v9_2 = .bool g.rules.stores ∧ _ := hR9_2
        obtain ⟨rfl, rfl⟩ : v9_3 = .bool g.rules.skip ∧ _ := hR9_3
        obtain ⟨rfl, rfl⟩ : v9_4 = .bool g.rules.relay ∧ _ := hR9_4
        obtain ⟨rfl, rfl⟩ : v9_5 = .bool g.rules.feed ∧ _ := hR9_5
        obtain ⟨rfl, rfl⟩ : v9_6 = .bool g.rules.again ∧ _ := hR9_6
        obtain ⟨rfl, rfl⟩ : v9_7 = .int .i64 g.rules.capture ∧ _ := hR9_7
        obtain ⟨rfl, rfl⟩ : v9_8 = .int .i64 g.rules.slam ∧ _ := hR9_8
        obtain ⟨A10, c10, rfl, rfl, bl10, bh10⟩ := hR9_9
        obtain ⟨A11, c11, rfl, rfl, bl11, bh11⟩ := hR9_10
        obtain ⟨rfl, rfl⟩ : v9_11 = .int .i64 g.start.player ∧ _ := hR9_11
        obtain ⟨A12, c12, rfl, rfl, bl12, bh12⟩ := hR9_12
        obtain ⟨A13, c13, rfl, rfl, bl13, bh13⟩ := hR9_13
        obtain ⟨A14, c14, rfl, rfl, bl14, bh14⟩ := hR9_14
        obtain ⟨rfl, rfl⟩ : v9_15 = .int .i64 g.now.player ∧ _ := hR9_15
        obtain ⟨rfl, rfl⟩ : v9_16 = .int .i64 g.resigned ∧ _ := hR9_16
        refine JL.e (e_alloc zero_35) ?_
        rintro _ _ _ ⟨b15, rfl, rfl, rfl⟩ _
        refine JL.s (e_store (i := 0) (c' := [.int .i64 g.rules.pits, .int .i64 g.rules.seeds, .bool g.rules.stores, .bool g.rules.skip, .bool g.rules.relay, .bool g.rules.feed, .bool g.rules.again, .int .i64 g.rules.capture, .int .i64 g.rules.slam, .slice A10 g.start.pits.length c10, .slice A11 g.start.stores.length c11, .int .i64 g.start.player, .slice A12 g.moves.length c12, .slice A13 g.now.pits.length c13, .slice A14 g.now.stores.length c14, .int .i64 g.now.player, .int .i64 g.resigned]) ty_35 rfl rfl rfl rfl rfl rfl rfl rfl) ?_
        rintro _ _ _ ⟨rfl, rfl⟩ _
        refine JL.nil ?_
        refine Js.seq ?_
        refine Js.region ?_
        refine JL.q (OpP.q (p_move rfl)) ?_
        refine JL.q (OpP.q (p_fieldAddr fld_35_4 rfl)) ?_
        refine JL.s (e_store (i := 0) (c' := [.int .i64 g.rules.pits, .int .i64 g.rules.seeds, .bool g.rules.stores, .bool g.rules.skip, .bool g.rules.relay, .bool g.rules.feed, .bool g.rules.again, .int .i64 g.rules.capture, .int .i64 g.rules.slam, .slice A10 g.start.pits.length c10, .slice A11 g.start.stores.length c11, .int .i64 g.start.player, .slice A12 g.moves.length c12, .slice A13 g.now.pits.length c13, .slice A14 g.now.stores.length c14, .int .i64 g.now.player, .int .i64 player]) ty_2 rfl rfl rfl rfl rfl rfl rfl rfl) ?_
        rintro _ _ _ ⟨rfl, rfl⟩ _
        refine JL.nil ?_
        refine Js.seq ?_
        refine Js.region ?_
        refine JL.q (q_loadN ty_35 rfl (Mem.boxR (i := 0) rfl 0 17) rfl rfl) ?_
        refine JL.s (e_store (i := 6) (c' := [.int .i64 g.rules.pits, .int .i64 g.rules.seeds, .bool g.rules.stores, .bool g.rules.skip, .bool g.rules.relay, .bool g.rules.feed, .bool g.rules.again, .int .i64 g.rules.capture, .int .i64 g.rules.slam, .slice A10 g.start.pits.length c10, .slice A11 g.start.stores.length c11, .int .i64 g.start.player, .slice A12 g.moves.length c12, .slice A13 g.now.pits.length c13, .slice A14 g.now.stores.length c14, .int .i64 g.now.player, .int .i64 player]) ty_35 rfl rfl rfl rfl rfl rfl rfl rfl) ?_
        rintro _ _ _ ⟨rfl, rfl⟩ _
        refine JL.q (OpP.q (p_assign rfl)) ?_
        refine JL.nil ?_
        refine Js.ret (R := RO w (Ty.tup [Ty.agg (cGame ((M.resign g player).1)), Ty.int ((M.resign g player).2)])) @Try.results36 (fun _ _ => rfl) (ResOk.cell (res_box (i := 6) ty_35 rfl rfl rfl rfl rfl) (ResOk.tmp rfl ResOk.nil)) (fun w1 hw => ?_)
        have hx := hw.ext (Up.refl _ _)
        exact ret_own (ps := [(1, (Value.ownBlock (.slice A10 g.start.pits.length c10)).toList), (2, (Value.ownBlock (.slice A11 g.start.stores.length c11)).toList), (3, (Value.ownBlock (.slice A12 g.moves.length c12)).toList), (4, (Value.ownBlock (.slice A13 g.now.pits.length c13)).toList), (5, (Value.ownBlock (.slice A14 g.now.stores.length c14)).toList)]) hw hx ⟨_, rfl, ⟨_, _, rfl, ⟨_, rfl, ⟨_, _, rfl, ⟨by first | (rw [hE]; done) | (rw [hE]; rfl), rfl⟩, ⟨_, _, rfl, ⟨by first | (rw [hE]; done) | (rw [hE]; rfl), rfl⟩, ⟨_, _, rfl, ⟨by first | (rw [hE]; done) | (rw [hE]; rfl), rfl⟩, ⟨_, _, rfl, ⟨by first | (rw [hE]; done) | (rw [hE]; rfl), rfl⟩, ⟨_, _, rfl, ⟨by first | (rw [hE]; done) | (rw [hE]; rfl), rfl⟩, ⟨_, _, rfl, ⟨by first | (rw [hE]; done) | (rw [hE]; rfl), rfl⟩, ⟨_, _, rfl, ⟨by first | (rw [hE]; done) | (rw [hE]; rfl), rfl⟩, ⟨_, _, rfl, ⟨by first | (rw [hE]; done) | (rw [hE]; rfl), rfl⟩, ⟨_, _, rfl, ⟨by first | (rw [hE]; done) | (rw [hE]; rfl), rfl⟩, ⟨_, _, rfl, (ints_row (xs := g.start.pits) (hw.pr (i := 1) rfl) (show g.start.pits = (((M.resign g player).1).start).pits by first | (rw [hE]; done) | (rw [hE]; rfl))), ⟨_, _, rfl, (ints_row (xs := g.start.stores) (hw.pr (i := 2) rfl) (show g.start.stores = (((M.resign g player).1).start).stores by first | (rw [hE]; done) | (rw [hE]; rfl))), ⟨_, _, rfl, ⟨by first | (rw [hE]; done) | (rw [hE]; rfl), rfl⟩, ⟨_, _, rfl, (ints_row (xs := g.moves) (hw.pr (i := 3) rfl) (show g.moves = ((M.resign g player).1).moves by first | (rw [hE]; done) | (rw [hE]; rfl))), ⟨_, _, rfl, (ints_row (xs := g.now.pits) (hw.pr (i := 4) rfl) (show g.now.pits = (((M.resign g player).1).now).pits by first | (rw [hE]; done) | (rw [hE]; rfl))), ⟨_, _, rfl, (ints_row (xs := g.now.stores) (hw.pr (i := 5) rfl) (show g.now.stores = (((M.resign g player).1).now).stores by first | (rw [hE]; done) | (rw [hE]; rfl))), ⟨_, _, rfl, ⟨by first | (rw [hE]; done) | (rw [hE]; rfl), rfl⟩, ⟨_, _, rfl, ⟨by first | (rw [hE]; done) | (rw [hE]; rfl), rfl⟩, rfl⟩⟩⟩⟩⟩⟩⟩⟩⟩⟩⟩⟩⟩⟩⟩⟩⟩⟩, ⟨_, _, rfl, ⟨by first | (rw [hE]; done) | (rw [hE]; rfl), rfl⟩, rfl⟩⟩⟩ (Pick.cons (j := 1) rfl (List.sublist_append_left _ _) rfl (Pick.cons (j := 2) rfl (List.sublist_append_left _ _) rfl (Pick.cons (j := 3) rfl (List.sublist_append_left _ _) rfl (Pick.cons (j := 4) rfl (List.sublist_append_left _ _) rfl (Pick.cons (j := 5) rfl (List.sublist_append_left _ _) rfl Pick.nil))))) (by simp [List.flatten, outV])

set_option maxRecDepth 100000 in
set_option maxHeartbeats 400000 in
theorem c_impl_Game_play (g : M.Gam) (v_g : Value) (move : Int) (w : World) (h_g : (Ty.agg (cGame g)).ok w v_g) (r0 : g.start.pits.length ≤ 4194304) (r1 : g.start.stores.length ≤ 4194304) (r2 : g.moves.length ≤ 4194304) (r3 : g.now.pits.length ≤ 4194304) (r4 : g.now.stores.length ≤ 4194304) : Ret Try.prog 86 [v_g, .int .i64 move] w (Ty.tup [Ty.agg (cGame ((M.play g move).1)), Ty.int ((M.play g move).2)]) := by
  obtain ⟨A1_9, c1_9, A1_10, c1_10, A1_12, c1_12, A1_13, c1_13, A1_14, c1_14, rfl, h1_9, h1_10, h1_12, h1_13, h1_14, bl1_9, bh1_9, bl1_10, bh1_10, bl1_12, bh1_12, bl1_13, bh1_13, bl1_14, bh1_14⟩ := open_Game h_g
  refine enter @Try.func86 @Try.ntmps86 rfl rfl ?_
  refine Js.seq ?_
  refine Js.region ?_
  refine JL.e (e_box (c := [.int .i64 g.rules.pits, .int .i64 g.rules.seeds, .bool g.rules.stores, .bool g.rules.skip, .bool g.rules.relay, .bool g.rules.feed, .bool g.rules.again, .int .i64 g.rules.capture, .int .i64 g.rules.slam, .slice A1_9 g.start.pits.length c1_9, .slice A1_10 g.start.stores.length c1_10, .int .i64 g.start.player, .slice A1_12 g.moves.length c1_12, .slice A1_13 g.now.pits.length c1_13, .slice A1_14 g.now.stores.length c1_14, .int .i64 g.now.player, .int .i64 g.resigned]) rfl rfl) ?_
  rintro _ _ _ ⟨b2, rfl, rfl, rfl⟩ _
  refine JL.e (e_alloc zero_35) ?_
  rintro _ _ _ ⟨b3, rfl, rfl, rfl⟩ _
  refine JL.q (OpP.q (p_assign rfl)) ?_
  refine JL.nil ?_
  refine Js.seq ?_
  refine Js.seq ?_
  refine Js.region ?_
  refine JL.q (OpP.q (p_fieldAddr fld_35_4 rfl)) ?_
  refine JL.q (q_load1 ty_2 rfl (Mem.box (i := 1) rfl rfl)) ?_
  refine JL.q (OpP.q (p_geq rfl rfl)) ?_
  refine JL.nil ?_
  refine Js.cond rfl (fun h4 => ?_) (fun h4 => ?_)
  ·
    have h4' := h4
    try simp only [decide_eq_true_eq] at h4'
    have hE := M.play_6 (g := g) (move := move) (by simpa using h4)
    refine Js.seq ?_
    refine Js.region ?_
    refine JL.q (OpP.q (p_build zero_35 flds_35 rfl rfl)) ?_
    refine JL.s (e_store (i := 0) (c' := [.int .i64 0, .int .i64 0, .bool false, .bool false, .bool false, .bool false, .bool false, .int .i64 0, .int .i64 0, .slice none 0 0, .slice none 0 0, .int .i64 0, .slice none 0 0, .slice none 0 0, .slice none 0 0, .int .i64 0, .int .i64 0]) ty_35 rfl rfl rfl rfl rfl rfl rfl rfl) ?_
    rintro _ _ _ ⟨rfl, rfl⟩ _
    refine JL.q (OpP.q (p_assign rfl)) ?_
    refine JL.nil ?_
    refine Js.ret (R := RO w (Ty.tup [Ty.agg (cGame ((M.play g move).1)), Ty.int ((M.play g move).2)])) @Try.results86 (fun _ _ => rfl) (ResOk.cell (res_box (i := 0) ty_35 rfl rfl rfl rfl rfl) (ResOk.tmp rfl ResOk.nil)) (fun w1 hw => ?_)
    have hx := hw.ext (Up.refl _ _)
    exact ret_own (ps := []) hw hx ⟨_, rfl, ⟨_, _, rfl, ⟨_, rfl, ⟨_, _, rfl, ⟨by first | (rw [hE]; done) | (rw [hE]; rfl), rfl⟩, ⟨_, _, rfl, ⟨by first | (rw [hE]; done) | (rw [hE]; rfl), rfl⟩, ⟨_, _, rfl, ⟨by first | (rw [hE]; done) | (rw [hE]; rfl), rfl⟩, ⟨_, _, rfl, ⟨by first | (rw [hE]; done) | (rw [hE]; rfl), rfl⟩, ⟨_, _, rfl, ⟨by first | (rw [hE]; done) | (rw [hE]; rfl), rfl⟩, ⟨_, _, rfl, ⟨by first | (rw [hE]; done) | (rw [hE]; rfl), rfl⟩, ⟨_, _, rfl, ⟨by first | (rw [hE]; done) | (rw [hE]; rfl), rfl⟩, ⟨_, _, rfl, ⟨by first | (rw [hE]; done) | (rw [hE]; rfl), rfl⟩, ⟨_, _, rfl, ⟨by first | (rw [hE]; done) | (rw [hE]; rfl), rfl⟩, ⟨_, _, rfl, (ints_cast (show [] = (((M.play g move).1).start).pits by first | (rw [hE]; done) | (rw [hE]; rfl)) nil_own), ⟨_, _, rfl, (ints_cast (show [] = (((M.play g move).1).start).stores by first | (rw [hE]; done) | (rw [hE]; rfl)) nil_own), ⟨_, _, rfl, ⟨by first | (rw [hE]; done) | (rw [hE]; rfl), rfl⟩, ⟨_, _, rfl, (ints_cast (show [] = ((M.play g move).1).moves by first | (rw [hE]; done) | (rw [hE]; rfl)) nil_own), ⟨_, _, rfl, (ints_cast (show [] = (((M.play g move).1).now).pits by first | (rw [hE]; done) | (rw [hE]; rfl)) nil_own), ⟨_, _, rfl, (ints_cast (show [] = (((M.play g move).1).now).stores by first | (rw [hE]; done) | (rw [hE]; rfl)) nil_own), ⟨_, _, rfl, ⟨by first | (rw [hE]; done) | (rw [hE]; rfl), rfl⟩, ⟨_, _, rfl, ⟨by first | (rw [hE]; done) | (rw [hE]; rfl), rfl⟩, rfl⟩⟩⟩⟩⟩⟩⟩⟩⟩⟩⟩⟩⟩⟩⟩⟩⟩⟩, ⟨_, _, rfl, ⟨by first | (rw [hE]; done) | (rw [hE]; rfl), rfl⟩, rfl⟩⟩⟩ Pick.nil (by simp [List.flatten, outV])
  ·
    have h4' := h4
    try simp only [decide_eq_false_iff_not, Int.not_le] at h4'
    have q1 : ¬ 0 ≤ g.resigned := by simpa using h4
    refine Js.skip ?_
    refine Js.seq ?_
    refine Js.seq ?_
    refine Js.region ?_
    refine JL.q (OpP.q (p_fieldAddr fld_35_2 rfl)) ?_
    refine JL.q (q_load1 ty_24 rfl (Mem.box (i := 1) rfl rfl)) ?_
    refine JL.q (OpP.q (p_len el_24 rfl)) ?_
    refine JL.q (OpP.q (p_eql rfl rfl)) ?_
    refine JL.nil ?_
    refine Js.cond rfl (fun h5 => ?_) (fun h5 => ?_)
    ·
      have h5' := h5
      try simp only [decide_eq_true_eq] at h5'
      have hE := M.play_5 (move := move) q1 (by have := h5'; omega)
      refine Js.seq ?_
      refine Js.region ?_
      refine JL.q (OpP.q (p_build zero_35 flds_35 rfl rfl)) ?_
      refine JL.s (e_store (i := 0) (c' := [.int .i64 0, .int .i64 0, .bool false, .bool false, .bool false, .bool false, .bool false, .int .i64 0, .int .i64 0, .slice none 0 0, .slice none 0 0, .int .i64 0, .slice none 0 0, .slice none 0 0, .slice none 0 0, .int .i64 0, .int .i64 0]) ty_35 rfl rfl rfl rfl rfl rfl rfl rfl) ?_
      rintro _ _ _ ⟨rfl, rfl⟩ _
      refine JL.q (OpP.q (p_assign rfl)) ?_
      refine JL.nil ?_
      refine Js.ret (R := RO w (Ty.tup [Ty.agg (cGame ((M.play g move).1)), Ty.int ((M.play g move).2)])) @Try.results86 (fun _ _ => rfl) (ResOk.cell (res_box (i := 0) ty_35 rfl rfl rfl rfl rfl) (ResOk.tmp rfl ResOk.nil)) (fun w1 hw => ?_)
      have hx := hw.ext (Up.refl _ _)
      exact ret_own (ps := []) hw hx ⟨_, rfl, ⟨_, _, rfl, ⟨_, rfl, ⟨_, _, rfl, ⟨by first | (rw [hE]; done) | (rw [hE]; rfl), rfl⟩, ⟨_, _, rfl, ⟨by first | (rw [hE]; done) | (rw [hE]; rfl), rfl⟩, ⟨_, _, rfl, ⟨by first | (rw [hE]; done) | (rw [hE]; rfl), rfl⟩, ⟨_, _, rfl, ⟨by first | (rw [hE]; done) | (rw [hE]; rfl), rfl⟩, ⟨_, _, rfl, ⟨by first | (rw [hE]; done) | (rw [hE]; rfl), rfl⟩, ⟨_, _, rfl, ⟨by first | (rw [hE]; done) | (rw [hE]; rfl), rfl⟩, ⟨_, _, rfl, ⟨by first | (rw [hE]; done) | (rw [hE]; rfl), rfl⟩, ⟨_, _, rfl, ⟨by first | (rw [hE]; done) | (rw [hE]; rfl), rfl⟩, ⟨_, _, rfl, ⟨by first | (rw [hE]; done) | (rw [hE]; rfl), rfl⟩, ⟨_, _, rfl, (ints_cast (show [] = (((M.play g move).1).start).pits by first | (rw [hE]; done) | (rw [hE]; rfl)) nil_own), ⟨_, _, rfl, (ints_cast (show [] = (((M.play g move).1).start).stores by first | (rw [hE]; done) | (rw [hE]; rfl)) nil_own), ⟨_, _, rfl, ⟨by first | (rw [hE]; done) | (rw [hE]; rfl), rfl⟩, ⟨_, _, rfl, (ints_cast (show [] = ((M.play g move).1).moves by first | (rw [hE]; done) | (rw [hE]; rfl)) nil_own), ⟨_, _, rfl, (ints_cast (show [] = (((M.play g move).1).now).pits by first | (rw [hE]; done) | (rw [hE]; rfl)) nil_own), ⟨_, _, rfl, (ints_cast (show [] = (((M.play g move).1).now).stores by first | (rw [hE]; done) | (rw [hE]; rfl)) nil_own), ⟨_, _, rfl, ⟨by first | (rw [hE]; done) | (rw [hE]; rfl), rfl⟩, ⟨_, _, rfl, ⟨by first | (rw [hE]; done) | (rw [hE]; rfl), rfl⟩, rfl⟩⟩⟩⟩⟩⟩⟩⟩⟩⟩⟩⟩⟩⟩⟩⟩⟩⟩, ⟨_, _, rfl, ⟨by first | (rw [hE]; done) | (rw [hE]; rfl), rfl⟩, rfl⟩⟩⟩ Pick.nil (by simp [List.flatten, outV])
    ·
      have h5' := h5
      try simp only [decide_eq_false_iff_not] at h5'
      have q2 : g.moves.length ≠ 120 := by have := h5'; omega
      refine Js.skip ?_
      refine Js.seq ?_
      refine Js.region ?_
      refine JL.q (OpP.q (p_fieldAddr fld_35_0 rfl)) ?_
      refine JL.q (q_loadN ty_32 rfl (Mem.boxR (i := 1) rfl 0 9) rfl rfl) ?_
      refine JL.q (OpP.q (p_fieldAddr fld_35_3 rfl)) ?_
      refine JL.q (q_loadN ty_33 rfl (Mem.boxR (i := 1) rfl 13 3) rfl rfl) ?_
      refine JL.q (OpP.q (p_move rfl)) ?_
      refine JL.e (e_callO fn_102 rfl (Spl.tup (Spls.cons (Spl.agg (Spls.cons (Spl.val _) (Spls.cons (Spl.val _) (Spls.cons (Spl.val _) (Spls.cons (Spl.ints _ _) (Spls.cons (Spl.ints _ _) (Spls.cons (Spl.val _) Spls.nil))))))) (Spls.cons (Spl.val _) Spls.nil))) (fun w hw => c_impl_Rules_resultOf g.rules _ g.now _ move w ⟨_, rfl, ⟨rfl, rfl, rfl, rfl, rfl, rfl, rfl, rfl, rfl, trivial⟩⟩ ⟨_, rfl, ⟨(Ty.mono _ h1_13 hw.vis), (Ty.mono _ h1_14 hw.vis), rfl, trivial⟩⟩ (by omega) (by omega))) ?_
      rintro v6 _ _ ⟨_, hR7, rfl, rfl⟩ _
      obtain ⟨vs8, rfl, hr8⟩ := hR7
      obtain ⟨v8_0, vs8_0, o8_0, ow8_0, rfl, hR8_0, hs8_0, rfl⟩ := RL_cons hr8
      obtain ⟨v8_1, vs8_1, o8_1, ow8_1, rfl, hR8_1, hs8_1, rfl⟩ := RL_cons hs8_0
      obtain ⟨rfl, rfl⟩ := RL_nil hs8_1
      obtain ⟨vs9, rfl, hr9⟩ := hR8_0
      obtain ⟨v9_0, vs9_0, o9_0, ow9_0, rfl, hR9_0, hs9_0, rfl⟩ := RL_cons hr9
      obtain ⟨v9_1, vs9_1, o9_1, ow9_1, rfl, hR9_1, hs9_1, rfl⟩ := RL_cons hs9_0
      obtain ⟨v9_2, vs9_2, o9_2, ow9_2, rfl, hR9_2, hs9_2, rfl⟩ := RL_cons hs9_1
      obtain ⟨v9_3, vs9_3, o9_3, ow9_3, rfl, hR9_3, hs9_3, rfl⟩ := RL_cons hs9_2
      obtain ⟨v9_4, vs9_4, o9_4, ow9_4, rfl, hR9_4, hs9_4, rfl⟩ := RL_cons hs9_3
      obtain ⟨v9_5, vs9_5, o9_5, ow9_5, rfl, hR9_5, hs9_5, rfl⟩ := RL_cons hs9_4
      obtain ⟨rfl, rfl⟩ := RL_nil hs9_5
      obtain ⟨rfl, rfl⟩ : v9_0 = .int .i64 (((M.make g.rules g.now move).1).move) ∧ _ := hR9_0
      obtain ⟨rfl, rfl⟩ : v9_1 = .int .i64 (((M.make g.rules g.now move).1).gain) ∧ _ := hR9_1
      obtain ⟨rfl, rfl⟩ : v9_2 = .bool (((M.make g.rules g.now move).1).again) ∧ _ := hR9_2
      obtain ⟨A10, c10, rfl, rfl, bl10, bh10⟩ := hR9_3
      obtain ⟨A11, c11, rfl, rfl, bl11, bh11⟩ := hR9_4
      obtain ⟨rfl, rfl⟩ : v9_5 = .int .i64 ((((M.make g.rules g.now move).1).next).player) ∧ _ := hR9_5
      obtain ⟨rfl, rfl⟩ : v8_1 = .int .i64 ((M.make g.rules g.now move).2) ∧ _ := hR8_1
      refine JL.q (OpP.q (p_move rfl)) ?_
      refine JL.q (OpP.q (p_extract rfl rfl)) ?_
      refine JL.q (OpP.q (p_extract rfl rfl)) ?_
      refine JL.e (e_alloc zero_84) ?_
      rintro _ _ _ ⟨b12, rfl, rfl, rfl⟩ _
      refine JL.s (e_store (i := 0) (c' := [.int .i64 (((M.make g.rules g.now move).1).move), .int .i64 (((M.make g.rules g.now move).1).gain), .bool (((M.make g.rules g.now move).1).again), .slice A10 (((((M.make g.rules g.now move).1).next).pits).length) c10, .slice A11 (((((M.make g.rules g.now move).1).next).stores).length) c11, .int .i64 ((((M.make g.rules g.now move).1).next).player)]) ty_84 rfl rfl rfl rfl rfl rfl rfl rfl) ?_
      rintro _ _ _ ⟨rfl, rfl⟩ _
      refine JL.q (OpP.q (p_assign rfl)) ?_
      refine JL.nil ?_
      refine Js.seq ?_
      refine Js.seq ?_
      refine Js.region ?_
      refine JL.q (OpP.q (p_move rfl)) ?_
      refine JL.q (OpP.q (p_neq rfl rfl)) ?_
      refine JL.nil ?_
      refine Js.cond rfl (fun h13 => ?_) (fun h13 => ?_)
      ·
        have h13' := h13
        try simp only [Bool.not_eq_true', decide_eq_false_iff_not] at h13'
        have hE := M.play_c q1 q2 (move := move) (by simpa using h13)
        refine Js.seq ?_
        refine Js.region ?_
        refine JL.q (OpP.q (p_build zero_35 flds_35 rfl rfl)) ?_
        refine JL.q (OpP.q (p_move rfl)) ?_
        refine JL.s (e_store (i := 3) (c' := [.int .i64 0, .int .i64 0, .bool false, .bool false, .bool false, .bool false, .bool false, .int .i64 0, .int .i64 0, .slice none 0 0, .slice none 0 0, .int .i64 0, .slice none 0 0, .slice none 0 0, .slice none 0 0, .int .i64 0, .int .i64 0]) ty_35 rfl rfl rfl rfl rfl rfl rfl rfl) ?_
        rintro _ _ _ ⟨rfl, rfl⟩ _
        refine JL.q (OpP.q (p_assign rfl)) ?_
        refine JL.nil ?_
        refine Js.ret (R := RO w (Ty.tup [Ty.agg (cGame ((M.play g move).1)), Ty.int ((M.play g move).2)])) @Try.results86 (fun _ _ => rfl) (ResOk.cell (res_box (i := 3) ty_35 rfl rfl rfl rfl rfl) (ResOk.tmp rfl ResOk.nil)) (fun w1 hw => ?_)
        have hx := hw.ext (Up.refl _ _)
        exact ret_own (ps := []) hw hx ⟨_, rfl, ⟨_, _, rfl, ⟨_, rfl, ⟨_, _, rfl, ⟨by first | (rw [hE]; done) | (rw [hE]; rfl), rfl⟩, ⟨_, _, rfl, ⟨by first | (rw [hE]; done) | (rw [hE]; rfl), rfl⟩, ⟨_, _, rfl, ⟨by first | (rw [hE]; done) | (rw [hE]; rfl), rfl⟩, ⟨_, _, rfl, ⟨by first | (rw [hE]; done) | (rw [hE]; rfl), rfl⟩, ⟨_, _, rfl, ⟨by first | (rw [hE]; done) | (rw [hE]; rfl), rfl⟩, ⟨_, _, rfl, ⟨by first | (rw [hE]; done) | (rw [hE]; rfl), rfl⟩, ⟨_, _, rfl, ⟨by first | (rw [hE]; done) | (rw [hE]; rfl), rfl⟩, ⟨_, _, rfl, ⟨by first | (rw [hE]; done) | (rw [hE]; rfl), rfl⟩, ⟨_, _, rfl, ⟨by first | (rw [hE]; done) | (rw [hE]; rfl), rfl⟩, ⟨_, _, rfl, (ints_cast (show [] = (((M.play g move).1).start).pits by first | (rw [hE]; done) | (rw [hE]; rfl)) nil_own), ⟨_, _, rfl, (ints_cast (show [] = (((M.play g move).1).start).stores by first | (rw [hE]; done) | (rw [hE]; rfl)) nil_own), ⟨_, _, rfl, ⟨by first | (rw [hE]; done) | (rw [hE]; rfl), rfl⟩, ⟨_, _, rfl, (ints_cast (show [] = ((M.play g move).1).moves by first | (rw [hE]; done) | (rw [hE]; rfl)) nil_own), ⟨_, _, rfl, (ints_cast (show [] = (((M.play g move).1).now).pits by first | (rw [hE]; done) | (rw [hE]; rfl)) nil_own), ⟨_, _, rfl, (ints_cast (show [] = (((M.play g move).1).now).stores by first | (rw [hE]; done) | (rw [hE]; rfl)) nil_own), ⟨_, _, rfl, ⟨by first | (rw [hE]; done) | (rw [hE]; rfl), rfl⟩, ⟨_, _, rfl, ⟨by first | (rw [hE]; done) | (rw [hE]; rfl), rfl⟩, rfl⟩⟩⟩⟩⟩⟩⟩⟩⟩⟩⟩⟩⟩⟩⟩⟩⟩⟩, ⟨_, _, rfl, ⟨by first | (rw [hE]; done) | (rw [hE]; rfl), rfl⟩, rfl⟩⟩⟩ Pick.nil (by simp [List.flatten, outV])
      ·
        have h13' := h13
        try simp only [Bool.not_eq_false', decide_eq_true_eq] at h13'
        have hz : (M.make g.rules g.now move).2 = 0 := by simpa using h13
        have hE := M.play_0 q1 q2 hz
        refine Js.skip ?_
        refine Js.seq ?_
        refine Js.region ?_
        refine JL.q (q_loadN ty_35 rfl (Mem.boxR (i := 4) rfl 0 17) rfl rfl) ?_
        refine JL.e (e_callO fn_79 rfl (Spl.agg (Spls.cons (Spl.val _) (Spls.cons (Spl.val _) (Spls.cons (Spl.val _) (Spls.cons (Spl.val _) (Spls.cons (Spl.val _) (Spls.cons (Spl.val _) (Spls.cons (Spl.val _) (Spls.cons (Spl.val _) (Spls.cons (Spl.val _) (Spls.cons (Spl.ints _ _) (Spls.cons (Spl.ints _ _) (Spls.cons (Spl.val _) (Spls.cons (Spl.ints _ _) (Spls.cons (Spl.ints _ _) (Spls.cons (Spl.ints _ _) (Spls.cons (Spl.val _) (Spls.cons (Spl.val _) Spls.nil)))))))))))))))))) (fun w hw => c_impl_Game_copied g _ w ⟨_, rfl, ⟨rfl, rfl, rfl, rfl, rfl, rfl, rfl, rfl, rfl, (Ty.mono _ h1_9 hw.vis), (Ty.mono _ h1_10 hw.vis), rfl, (Ty.mono _ h1_12 hw.vis), (Ty.mono _ h1_13 hw.vis), (Ty.mono _ h1_14 hw.vis), rfl, rfl, trivial⟩⟩ (by omega) (by omega) (by omega) (by omega) (by omega))) ?_
        rintro v14 _ _ ⟨_, hR15, rfl, rfl⟩ _
        obtain ⟨vs16, rfl, hr16⟩ := hR15
        obtain ⟨v16_0, vs16_0, o16_0, ow16_0, rfl, hR16_0, hs16_0, rfl⟩ := RL_cons hr16
        obtain ⟨v16_1, vs16_1, o16_1, ow16_1, rfl, hR16_1, hs16_1, rfl⟩ := RL_cons hs16_0
        obtain ⟨v16_2, vs16_2, o16_2, ow16_2, rfl, hR16_2, hs16_2, rfl⟩ := RL_cons hs16_1
        obtain ⟨v16_3, vs16_3, o16_3, ow16_3, rfl, hR16_3, hs16_3, rfl⟩ := RL_cons hs16_2
        obtain ⟨v16_4, vs16_4, o16_4, ow16_4, rfl, hR16_4, hs16_4, rfl⟩ := RL_cons hs16_3
        obtain ⟨v16_5, vs16_5, o16_5, ow16_5, rfl, hR16_5, hs16_5, rfl⟩ := RL_cons hs16_4
        obtain ⟨v16_6, vs16_6, o16_6, ow16_6, rfl, hR16_6, hs16_6, rfl⟩ := RL_cons hs16_5
        obtain ⟨v16_7, vs16_7, o16_7, ow16_7, rfl, hR16_7, hs16_7, rfl⟩ := RL_cons hs16_6
        obtain ⟨v16_8, vs16_8, o16_8, ow16_8, rfl, hR16_8, hs16_8, rfl⟩ := RL_cons hs16_7
        obtain ⟨v16_9, vs16_9, o16_9, ow16_9, rfl, hR16_9, hs16_9, rfl⟩ := RL_cons hs16_8
        obtain ⟨v16_10, vs16_10, o16_10, ow16_10, rfl, hR16_10, hs16_10, rfl⟩ := RL_cons hs16_9
        obtain ⟨v16_11, vs16_11, o16_11, ow16_11, rfl, hR16_11, hs16_11, rfl⟩ := RL_cons hs16_10
        obtain ⟨v16_12, vs16_12, o16_12, ow16_12, rfl, hR16_12, hs16_12, rfl⟩ := RL_cons hs16_11
        obtain ⟨v16_13, vs16_13, o16_13, ow16_13, rfl, hR16_13, hs16_13, rfl⟩ := RL_cons hs16_12
        obtain ⟨v16_14, vs16_14, o16_14, ow16_14, rfl, hR16_14, hs16_14, rfl⟩ := RL_cons hs16_13
        obtain ⟨v16_15, vs16_15, o16_15, ow16_15, rfl, hR16_15, hs16_15, rfl⟩ := RL_cons hs16_14
        obtain ⟨v16_16, vs16_16, o16_16, ow16_16, rfl, hR16_16, hs16_16, rfl⟩ := RL_cons hs16_15
        obtain ⟨rfl, rfl⟩ := RL_nil hs16_16
        obtain ⟨rfl, rfl⟩ : v16_0 = .int .i64 g.rules.pits ∧ _ := hR16_0
        obtain ⟨rfl, rfl⟩ : v16_1 = .int .i64 g.rules.seeds ∧ _ := hR16_1
        obtain ⟨rfl, rfl⟩ : v16_2 = .bool g.rules.stores ∧ _ := hR16_2
        obtain ⟨rfl, rfl⟩ : v16_3 = .bool g.rules.skip ∧ _ := hR16_3
        obtain ⟨rfl, rfl⟩ : v16_4 = .bool g.rules.relay ∧ _ := hR16_4
        obtain ⟨rfl, rfl⟩ : v16_5 = .bool g.rules.feed ∧ _ := hR16_5
        obtain ⟨rfl, rfl⟩ : v16_6 = .bool g.rules.again ∧ _ := hR16_6
        obtain ⟨rfl, rfl⟩ : v16_7 = .int .i64 g.rules.capture ∧ _ := hR16_7
        obtain ⟨rfl, rfl⟩ : v16_8 = .int .i64 g.rules.slam ∧ _ := hR16_8
        obtain ⟨A17, c17, rfl, rfl, bl17, bh17⟩ := hR16_9
        obtain ⟨A18, c18, rfl, rfl, bl18, bh18⟩ := hR16_10
        obtain ⟨rfl, rfl⟩ : v16_11 = .int .i64 g.start.player ∧ _ := hR16_11
        obtain ⟨A19, c19, rfl, rfl, bl19, bh19⟩ := hR16_12
        obtain ⟨A20, c20, rfl, rfl, bl20, bh20⟩ := hR16_13
        obtain ⟨A21, c21, rfl, rfl, bl21, bh21⟩ := hR16_14
        obtain ⟨rfl, rfl⟩ : v16_15 = .int .i64 g.now.player ∧ _ := hR16_15
        obtain ⟨rfl, rfl⟩ : v16_16 = .int .i64 g.resigned ∧ _ := hR16_16
        refine JL.e (e_alloc zero_35) ?_
        rintro _ _ _ ⟨b22, rfl, rfl, rfl⟩ _
        refine JL.s (e_store (i := 0) (c' := [.int .i64 g.rules.pits, .int .i64 g.rules.seeds, .bool g.rules.stores, .bool g.rules.skip, .bool g.rules.relay, .bool g.rules.feed, .bool g.rules.again, .int .i64 g.rules.capture, .int .i64 g.rules.slam, .slice A17 g.start.pits.length c17, .slice A18 g.start.stores.length c18, .int .i64 g.start.player, .slice A19 g.moves.length c19, .slice A20 g.now.pits.length c20, .slice A21 g.now.stores.length c21, .int .i64 g.now.player, .int .i64 g.resigned]) ty_35 rfl rfl rfl rfl rfl rfl rfl rfl) ?_
        rintro _ _ _ ⟨rfl, rfl⟩ _
        refine JL.nil ?_
        refine Js.seq ?_
        refine Js.cut (fun l os u => ∃ (b23 : Nat) (A27 : Option Addr) (c27 : Nat) (g26 : List Nat), l = [(4, .pointer (some ⟨b3, 0, none⟩)), (8, .pointer (some ⟨b22, 0, none⟩))] ∧ os = [rowO 2 1 (.slice (some ⟨b23, 0, none⟩) 1 1) 1 [.int .i64 move] [], boxO b22 [.int .i64 g.rules.pits, .int .i64 g.rules.seeds, .bool g.rules.stores, .bool g.rules.skip, .bool g.rules.relay, .bool g.rules.feed, .bool g.rules.again, .int .i64 g.rules.capture, .int .i64 g.rules.slam, .slice A17 g.start.pits.length c17, .slice A18 g.start.stores.length c18, .int .i64 g.start.player, .slice A27 ((g.moves ++ [move]).length) c27, .slice A10 (((((M.make g.rules g.now move).1).next).pits).length) c10, .slice A11 (((((M.make g.rules g.now move).1).next).stores).length) c11, .int .i64 ((((M.make g.rules g.now move).1).next).player), .int .i64 g.resigned] 35, rowO 2 1 (.slice A17 g.start.pits.length c17) g.start.pits.length (ints_ g.start.pits) [], rowO 2 1 (.slice A18 g.start.stores.length c18) g.start.stores.length (ints_ g.start.stores) [], rowO 2 1 (.slice A27 ((g.moves ++ [move]).length) c27) ((g.moves ++ [move]).length) (ints_ (g.moves ++ [move])) g26, rowO 2 1 (.slice A20 g.now.pits.length c20) g.now.pits.length (ints_ g.now.pits) [], rowO 2 1 (.slice A21 g.now.stores.length c21) g.now.stores.length (ints_ g.now.stores) [], boxO b12 [.int .i64 (((M.make g.rules g.now move).1).move), .int .i64 (((M.make g.rules g.now move).1).gain), .bool (((M.make g.rules g.now move).1).again), .slice A10 (((((M.make g.rules g.now move).1).next).pits).length) c10, .slice A11 (((((M.make g.rules g.now move).1).next).stores).length) c11, .int .i64 ((((M.make g.rules g.now move).1).next).player)] 84, rowO 2 1 (.slice A10 (((((M.make g.rules g.now move).1).next).pits).length) c10) (((((M.make g.rules g.now move).1).next).pits).length) (ints_ ((((M.make g.rules g.now move).1).next).pits)) [], rowO 2 1 (.slice A11 (((((M.make g.rules g.now move).1).next).stores).length) c11) (((((M.make g.rules g.now move).1).next).stores).length) (ints_ ((((M.make g.rules g.now move).1).next).stores)) [], boxO b3 [.int .i64 0, .int .i64 0, .bool false, .bool false, .bool false, .bool false, .bool false, .int .i64 0, .int .i64 0, .slice none 0 0, .slice none 0 0, .int .i64 0, .slice none 0 0, .slice none 0 0, .slice none 0 0, .int .i64 0, .int .i64 0] 35, boxO b2 [.int .i64 g.rules.pits, .int .i64 g.rules.seeds, .bool g.rules.stores, .bool g.rules.skip, .bool g.rules.relay, .bool g.rules.feed, .bool g.rules.again, .int .i64 g.rules.capture, .int .i64 g.rules.slam, .slice A1_9 g.start.pits.length c1_9, .slice A1_10 g.start.stores.length c1_10, .int .i64 g.start.player, .slice A1_12 g.moves.length c1_12, .slice A1_13 g.now.pits.length c1_13, .slice A1_14 g.now.stores.length c1_14, .int .i64 g.now.player, .int .i64 g.resigned] 35] ∧ Up w.heap.size w u ∧ ((g.moves ++ [move]).length ≤ c27) ∧ (c27 ≤ 9223372036854775807)) ?_ ?_
        ·
          refine Js.drawn _ [4, 8, 10] mixed_ (fun _ h => h) ?_
          refine JH.p 0 rfl (p_fieldAddr fld_35_2 rfl) ?_
          refine JH.q 1 rfl (q_load1 ty_24 rfl (Mem.box (i := 0) rfl rfl)) ?_
          refine JH.p 2 rfl (p_move rfl) ?_
          refine JH.p 5 rfl (p_fieldAddr fld_84_3 rfl) ?_
          refine JH.all (rs := [3, 6]) (by kernel_rfl) rfl ⟨?_, ?_, trivial⟩
          ·
            refine JHo.e rfl (e_buildSlice (vs := [.int .i64 move]) el_24 rfl rfl rfl rfl rfl rfl) (.inl rfl) ?_
            rintro _ _ _ ⟨b37, rfl, rfl, hl38, rfl⟩ _
            refine JH.all (rs := [4, 6]) (by kernel_rfl) rfl ⟨?_, ?_, trivial⟩
            ·
              refine JHo.e rfl (e_append (i := 4) (n' := (g.moves ++ [move]).length) (vs' := ints_ (g.moves ++ [move])) el_24 rfl rfl rfl rfl (src_row (i := 0) und_24 rfl rfl) (by omega) (by omega) (by first | omega | (simp only [List.length_append, List.length_cons, List.length_nil] <;> omega)) (by simp [ints_])) (.inr rfl) ?_
              rintro v39 _ _ ⟨⟨g40, rfl⟩, rfl⟩ _
              refine JH.fact (row_form' (i := 4) rfl) (fun hf41 => ?_)
              obtain ⟨A41, c41, rfl, bl41, bh41⟩ := hf41
              refine JH.p 7 rfl (p_fieldAddr fld_35_2 rfl) ?_
              refine JH.all (rs := [6, 8]) (by kernel_rfl) rfl ⟨?_, ?_, trivial⟩
              ·
                refine JHo.q rfl (q_loadN ty_33 rfl (Mem.boxR (i := 7) rfl 3 3) rfl rfl) ?_
                refine JH.one (i := 8) (by kernel_rfl) ?_
                refine JHo.s rfl (e_store (i := 1) (c' := [.int .i64 g.rules.pits, .int .i64 g.rules.seeds, .bool g.rules.stores, .bool g.rules.skip, .bool g.rules.relay, .bool g.rules.feed, .bool g.rules.again, .int .i64 g.rules.capture, .int .i64 g.rules.slam, .slice A17 g.start.pits.length c17, .slice A18 g.start.stores.length c18, .int .i64 g.start.player, .slice A41 ((g.moves ++ [move]).length) c41, .slice A20 g.now.pits.length c20, .slice A21 g.now.stores.length c21, .int .i64 g.now.player, .int .i64 g.resigned]) ty_24 rfl rfl rfl rfl rfl rfl rfl rfl) (.inr rfl) ?_
                rintro _ _ _ ⟨rfl, rfl⟩ _
                refine JH.p 9 rfl (p_fieldAddr fld_35_3 rfl) ?_
                refine JH.one (i := 10) (by kernel_rfl) ?_
                refine JHo.s rfl (e_store (i := 1) (c' := [.int .i64 g.rules.pits, .int .i64 g.rules.seeds, .bool g.rules.stores, .bool g.rules.skip, .bool g.rules.relay, .bool g.rules.feed, .bool g.rules.again, .int .i64 g.rules.capture, .int .i64 g.rules.slam, .slice A17 g.start.pits.length c17, .slice A18 g.start.stores.length c18, .int .i64 g.start.player, .slice A41 ((g.moves ++ [move]).length) c41, .slice A10 (((((M.make g.rules g.now move).1).next).pits).length) c10, .slice A11 (((((M.make g.rules g.now move).1).next).stores).length) c11, .int .i64 ((((M.make g.rules g.now move).1).next).player), .int .i64 g.resigned]) ty_33 rfl rfl rfl rfl rfl rfl rfl rfl) (.inr rfl) ?_
                rintro _ _ _ ⟨rfl, rfl⟩ _
                refine JH.done (by kernel_rfl) ?_
                exact Js.meet ⟨_, _, _, _, rfl, rfl, Up.refl _ _, by omega, by omega⟩ ⟨rfl, rfl, trivial⟩
              ·
                refine JHo.s rfl (e_store (i := 1) (c' := [.int .i64 g.rules.pits, .int .i64 g.rules.seeds, .bool g.rules.stores, .bool g.rules.skip, .bool g.rules.relay, .bool g.rules.feed, .bool g.rules.again, .int .i64 g.rules.capture, .int .i64 g.rules.slam, .slice A17 g.start.pits.length c17, .slice A18 g.start.stores.length c18, .int .i64 g.start.player, .slice A41 ((g.moves ++ [move]).length) c41, .slice A20 g.now.pits.length c20, .slice A21 g.now.stores.length c21, .int .i64 g.now.player, .int .i64 g.resigned]) ty_24 rfl rfl rfl rfl rfl rfl rfl rfl) (.inr rfl) ?_
                rintro _ _ _ ⟨rfl, rfl⟩ _
                refine JH.one (i := 6) (by kernel_rfl) ?_
                refine JHo.q rfl (q_loadN ty_33 rfl (Mem.boxR (i := 7) rfl 3 3) rfl rfl) ?_
                refine JH.p 9 rfl (p_fieldAddr fld_35_3 rfl) ?_
                refine JH.one (i := 10) (by kernel_rfl) ?_
                refine JHo.s rfl (e_store (i := 1) (c' := [.int .i64 g.rules.pits, .int .i64 g.rules.seeds, .bool g.rules.stores, .bool g.rules.skip, .bool g.rules.relay, .bool g.rules.feed, .bool g.rules.again, .int .i64 g.rules.capture, .int .i64 g.rules.slam, .slice A17 g.start.pits.length c17, .slice A18 g.start.stores.length c18, .int .i64 g.start.player, .slice A41 ((g.moves ++ [move]).length) c41, .slice A10 (((((M.make g.rules g.now move).1).next).pits).length) c10, .slice A11 (((((M.make g.rules g.now move).1).next).stores).length) c11, .int .i64 ((((M.make g.rules g.now move).1).next).player), .int .i64 g.resigned]) ty_33 rfl rfl rfl rfl rfl rfl rfl rfl) (.inr rfl) ?_
                rintro _ _ _ ⟨rfl, rfl⟩ _
                refine JH.done (by kernel_rfl) ?_
                exact Js.meet ⟨_, _, _, _, rfl, rfl, Up.refl _ _, by omega, by omega⟩ ⟨rfl, rfl, trivial⟩
            ·
              refine JHo.q rfl (q_loadN ty_33 rfl (Mem.boxR (i := 7) rfl 3 3) rfl rfl) ?_
              refine JH.one (i := 4) (by kernel_rfl) ?_
              refine JHo.e rfl (e_append (i := 4) (n' := (g.moves ++ [move]).length) (vs' := ints_ (g.moves ++ [move])) el_24 rfl rfl rfl rfl (src_row (i := 0) und_24 rfl rfl) (by omega) (by omega) (by first | omega | (simp only [List.length_append, List.length_cons, List.length_nil] <;> omega)) (by simp [ints_])) (.inr rfl) ?_
              rintro v42 _ _ ⟨⟨g43, rfl⟩, rfl⟩ _
              refine JH.fact (row_form' (i := 4) rfl) (fun hf44 => ?_)
              obtain ⟨A44, c44, rfl, bl44, bh44⟩ := hf44
              refine JH.p 7 rfl (p_fieldAddr fld_35_2 rfl) ?_
              refine JH.one (i := 8) (by kernel_rfl) ?_
              refine JHo.s rfl (e_store (i := 1) (c' := [.int .i64 g.rules.pits, .int .i64 g.rules.seeds, .bool g.rules.stores, .bool g.rules.skip, .bool g.rules.relay, .bool g.rules.feed, .bool g.rules.again, .int .i64 g.rules.capture, .int .i64 g.rules.slam, .slice A17 g.start.pits.length c17, .slice A18 g.start.stores.length c18, .int .i64 g.start.player, .slice A44 ((g.moves ++ [move]).length) c44, .slice A20 g.now.pits.length c20, .slice A21 g.now.stores.length c21, .int .i64 g.now.player, .int .i64 g.resigned]) ty_24 rfl rfl rfl rfl rfl rfl rfl rfl) (.inr rfl) ?_
              rintro _ _ _ ⟨rfl, rfl⟩ _
              refine JH.p 9 rfl (p_fieldAddr fld_35_3 rfl) ?_
              refine JH.one (i := 10) (by kernel_rfl) ?_
              refine JHo.s rfl (e_store (i := 1) (c' := [.int .i64 g.rules.pits, .int .i64 g.rules.seeds, .bool g.rules.stores, .bool g.rules.skip, .bool g.rules.relay, .bool g.rules.feed, .bool g.rules.again, .int .i64 g.rules.capture, .int .i64 g.rules.slam, .slice A17 g.start.pits.length c17, .slice A18 g.start.stores.length c18, .int .i64 g.start.player, .slice A44 ((g.moves ++ [move]).length) c44, .slice A10 (((((M.make g.rules g.now move).1).next).pits).length) c10, .slice A11 (((((M.make g.rules g.now move).1).next).stores).length) c11, .int .i64 ((((M.make g.rules g.now move).1).next).player), .int .i64 g.resigned]) ty_33 rfl rfl rfl rfl rfl rfl rfl rfl) (.inr rfl) ?_
              rintro _ _ _ ⟨rfl, rfl⟩ _
              refine JH.done (by kernel_rfl) ?_
              exact Js.meet ⟨_, _, _, _, rfl, rfl, Up.refl _ _, by omega, by omega⟩ ⟨rfl, rfl, trivial⟩
          ·
            refine JHo.q rfl (q_loadN ty_33 rfl (Mem.boxR (i := 6) rfl 3 3) rfl rfl) ?_
            refine JH.one (i := 3) (by kernel_rfl) ?_
            refine JHo.e rfl (e_buildSlice (vs := [.int .i64 move]) el_24 rfl rfl rfl rfl rfl rfl) (.inl rfl) ?_
            rintro _ _ _ ⟨b45, rfl, rfl, hl46, rfl⟩ _
            refine JH.one (i := 4) (by kernel_rfl) ?_
            refine JHo.e rfl (e_append (i := 4) (n' := (g.moves ++ [move]).length) (vs' := ints_ (g.moves ++ [move])) el_24 rfl rfl rfl rfl (src_row (i := 0) und_24 rfl rfl) (by omega) (by omega) (by first | omega | (simp only [List.length_append, List.length_cons, List.length_nil] <;> omega)) (by simp [ints_])) (.inr rfl) ?_
            rintro v47 _ _ ⟨⟨g48, rfl⟩, rfl⟩ _
            refine JH.fact (row_form' (i := 4) rfl) (fun hf49 => ?_)
            obtain ⟨A49, c49, rfl, bl49, bh49⟩ := hf49
            refine JH.p 7 rfl (p_fieldAddr fld_35_2 rfl) ?_
            refine JH.one (i := 8) (by kernel_rfl) ?_
            refine JHo.s rfl (e_store (i := 1) (c' := [.int .i64 g.rules.pits, .int .i64 g.rules.seeds, .bool g.rules.stores, .bool g.rules.skip, .bool g.rules.relay, .bool g.rules.feed, .bool g.rules.again, .int .i64 g.rules.capture, .int .i64 g.rules.slam, .slice A17 g.start.pits.length c17, .slice A18 g.start.stores.length c18, .int .i64 g.start.player, .slice A49 ((g.moves ++ [move]).length) c49, .slice A20 g.now.pits.length c20, .slice A21 g.now.stores.length c21, .int .i64 g.now.player, .int .i64 g.resigned]) ty_24 rfl rfl rfl rfl rfl rfl rfl rfl) (.inr rfl) ?_
            rintro _ _ _ ⟨rfl, rfl⟩ _
            refine JH.p 9 rfl (p_fieldAddr fld_35_3 rfl) ?_
            refine JH.one (i := 10) (by kernel_rfl) ?_
            refine JHo.s rfl (e_store (i := 1) (c' := [.int .i64 g.rules.pits, .int .i64 g.rules.seeds, .bool g.rules.stores, .bool g.rules.skip, .bool g.rules.relay, .bool g.rules.feed, .bool g.rules.again, .int .i64 g.rules.capture, .int .i64 g.rules.slam, .slice A17 g.start.pits.length c17, .slice A18 g.start.stores.length c18, .int .i64 g.start.player, .slice A49 ((g.moves ++ [move]).length) c49, .slice A10 (((((M.make g.rules g.now move).1).next).pits).length) c10, .slice A11 (((((M.make g.rules g.now move).1).next).stores).length) c11, .int .i64 ((((M.make g.rules g.now move).1).next).player), .int .i64 g.resigned]) ty_33 rfl rfl rfl rfl rfl rfl rfl rfl) (.inr rfl) ?_
            rintro _ _ _ ⟨rfl, rfl⟩ _
            refine JH.done (by kernel_rfl) ?_
            exact Js.meet ⟨_, _, _, _, rfl, rfl, Up.refl _ _, by omega, by omega⟩ ⟨rfl, rfl, trivial⟩
        · rintro _ _ u36 ⟨b23, A27, c27, g26, rfl, rfl, x36, f36_0, f36_1⟩
          refine Js.seq ?_
          refine Js.region ?_
          refine JL.q (q_loadN ty_35 rfl (Mem.boxR (i := 1) rfl 0 17) rfl rfl) ?_
          refine JL.s (e_store (i := 10) (c' := [.int .i64 g.rules.pits, .int .i64 g.rules.seeds, .bool g.rules.stores, .bool g.rules.skip, .bool g.rules.relay, .bool g.rules.feed, .bool g.rules.again, .int .i64 g.rules.capture, .int .i64 g.rules.slam, .slice A17 g.start.pits.length c17, .slice A18 g.start.stores.length c18, .int .i64 g.start.player, .slice A27 ((g.moves ++ [move]).length) c27, .slice A10 (((((M.make g.rules g.now move).1).next).pits).length) c10, .slice A11 (((((M.make g.rules g.now move).1).next).stores).length) c11, .int .i64 ((((M.make g.rules g.now move).1).next).player), .int .i64 g.resigned]) ty_35 rfl rfl rfl rfl rfl rfl rfl rfl) ?_
          rintro _ _ _ ⟨rfl, rfl⟩ _
          refine JL.q (OpP.q (p_assign rfl)) ?_
          refine JL.nil ?_
          refine Js.ret (R := RO w (Ty.tup [Ty.agg (cGame ((M.play g move).1)), Ty.int ((M.play g move).2)])) @Try.results86 (fun _ _ => rfl) (ResOk.cell (res_box (i := 10) ty_35 rfl rfl rfl rfl rfl) (ResOk.tmp rfl ResOk.nil)) (fun w1 hw => ?_)
          have hx := hw.ext (x36)
          exact ret_own (ps := [(2, (Value.ownBlock (.slice A17 g.start.pits.length c17)).toList), (3, (Value.ownBlock (.slice A18 g.start.stores.length c18)).toList), (4, (Value.ownBlock (.slice A27 ((g.moves ++ [move]).length) c27)).toList), (8, (Value.ownBlock (.slice A10 (((((M.make g.rules g.now move).1).next).pits).length) c10)).toList), (9, (Value.ownBlock (.slice A11 (((((M.make g.rules g.now move).1).next).stores).length) c11)).toList)]) hw hx ⟨_, rfl, ⟨_, _, rfl, ⟨_, rfl, ⟨_, _, rfl, ⟨by first | (rw [hE]; done) | (rw [hE]; rfl), rfl⟩, ⟨_, _, rfl, ⟨by first | (rw [hE]; done) | (rw [hE]; rfl), rfl⟩, ⟨_, _, rfl, ⟨by first | (rw [hE]; done) | (rw [hE]; rfl), rfl⟩, ⟨_, _, rfl, ⟨by first | (rw [hE]; done) | (rw [hE]; rfl), rfl⟩, ⟨_, _, rfl, ⟨by first | (rw [hE]; done) | (rw [hE]; rfl), rfl⟩, ⟨_, _, rfl, ⟨by first | (rw [hE]; done) | (rw [hE]; rfl), rfl⟩, ⟨_, _, rfl, ⟨by first | (rw [hE]; done) | (rw [hE]; rfl), rfl⟩, ⟨_, _, rfl, ⟨by first | (rw [hE]; done) | (rw [hE]; rfl), rfl⟩, ⟨_, _, rfl, ⟨by first | (rw [hE]; done) | (rw [hE]; rfl), rfl⟩, ⟨_, _, rfl, (ints_row (xs := g.start.pits) (hw.pr (i := 2) rfl) (show g.start.pits = (((M.play g move).1).start).pits by first | (rw [hE]; done) | (rw [hE]; rfl))), ⟨_, _, rfl, (ints_row (xs := g.start.stores) (hw.pr (i := 3) rfl) (show g.start.stores = (((M.play g move).1).start).stores by first | (rw [hE]; done) | (rw [hE]; rfl))), ⟨_, _, rfl, ⟨by first | (rw [hE]; done) | (rw [hE]; rfl), rfl⟩, ⟨_, _, rfl, (ints_row (xs := (g.moves ++ [move])) (hw.pr (i := 4) rfl) (show g.moves ++ [move] = ((M.play g move).1).moves by first | (rw [hE]; done) | (rw [hE]; rfl))), ⟨_, _, rfl, (ints_row (xs := ((((M.make g.rules g.now move).1).next).pits)) (hw.pr (i := 8) rfl) (show (((M.make g.rules g.now move).1).next).pits = (((M.play g move).1).now).pits by first | (rw [hE]; done) | (rw [hE]; rfl))), ⟨_, _, rfl, (ints_row (xs := ((((M.make g.rules g.now move).1).next).stores)) (hw.pr (i := 9) rfl) (show (((M.make g.rules g.now move).1).next).stores = (((M.play g move).1).now).stores by first | (rw [hE]; done) | (rw [hE]; rfl))), ⟨_, _, rfl, ⟨by first | (rw [hE]; done) | (rw [hE]; rfl), rfl⟩, ⟨_, _, rfl, ⟨by first | (rw [hE]; done) | (rw [hE]; rfl), rfl⟩, rfl⟩⟩⟩⟩⟩⟩⟩⟩⟩⟩⟩⟩⟩⟩⟩⟩⟩⟩, ⟨_, _, rfl, ⟨by first | (rw [hE]; done) | (rw [hE]; rfl), rfl⟩, rfl⟩⟩⟩ (Pick.cons (j := 2) rfl (List.sublist_append_left _ _) rfl (Pick.cons (j := 3) rfl (List.sublist_append_left _ _) rfl (Pick.cons (j := 4) rfl (List.sublist_append_left _ _) rfl (Pick.cons (j := 8) rfl (List.sublist_append_left _ _) rfl (Pick.cons (j := 9) rfl (List.sublist_append_left _ _) rfl Pick.nil))))) (by simp [List.flatten, outV])

set_option maxRecDepth 100000 in
set_option maxHeartbeats 400000 in
theorem c_impl_PlayMove (g : M.Gam) (v_g : Value) (move : Int) (w : World) (h_g : (Ty.agg (cGame g)).ok w v_g) (r0 : g.start.pits.length ≤ 4194304) (r1 : g.start.stores.length ≤ 4194304) (r2 : g.moves.length ≤ 4194304) (r3 : g.now.pits.length ≤ 4194304) (r4 : g.now.stores.length ≤ 4194304) : Ret Try.prog 43 [v_g, .int .i64 move] w (Ty.tup [Ty.agg (cGame ((M.playR g move).1)), Ty.int ((M.playR g move).2)]) := by
  obtain ⟨A1_9, c1_9, A1_10, c1_10, A1_12, c1_12, A1_13, c1_13, A1_14, c1_14, rfl, h1_9, h1_10, h1_12, h1_13, h1_14, bl1_9, bh1_9, bl1_10, bh1_10, bl1_12, bh1_12, bl1_13, bh1_13, bl1_14, bh1_14⟩ := open_Game h_g
  refine enter @Try.func43 @Try.ntmps43 rfl rfl ?_
  refine Js.seq ?_
  refine Js.region ?_
  refine JL.e (e_box (c := [.int .i64 g.rules.pits, .int .i64 g.rules.seeds, .bool g.rules.stores, .bool g.rules.skip, .bool g.rules.relay, .bool g.rules.feed, .bool g.rules.again, .int .i64 g.rules.capture, .int .i64 g.rules.slam, .slice A1_9 g.start.pits.length c1_9, .slice A1_10 g.start.stores.length c1_10, .int .i64 g.start.player, .slice A1_12 g.moves.length c1_12, .slice A1_13 g.now.pits.length c1_13, .slice A1_14 g.now.stores.length c1_14, .int .i64 g.now.player, .int .i64 g.resigned]) rfl rfl) ?_
  rintro _ _ _ ⟨b2, rfl, rfl, rfl⟩ _
  refine JL.e (e_alloc zero_35) ?_
  rintro _ _ _ ⟨b3, rfl, rfl, rfl⟩ _
  refine JL.q (OpP.q (p_assign rfl)) ?_
  refine JL.nil ?_
  refine Js.seq ?_
  refine Js.seq ?_
  refine Js.region ?_
  refine JL.q (q_loadN ty_35 rfl (Mem.boxR (i := 1) rfl 0 17) rfl rfl) ?_
  refine JL.e (e_callV fn_62 rfl (fun w hw => c_impl_ValidGame g _ w ⟨_, rfl, ⟨rfl, rfl, rfl, rfl, rfl, rfl, rfl, rfl, rfl, (Ty.mono _ h1_9 hw.vis), (Ty.mono _ h1_10 hw.vis), rfl, (Ty.mono _ h1_12 hw.vis), (Ty.mono _ h1_13 hw.vis), (Ty.mono _ h1_14 hw.vis), rfl, rfl, trivial⟩⟩ (by omega) (by omega) (by omega) (by omega) (by omega))) ?_
  rintro _ _ _ ⟨rfl, rfl, rfl⟩ _
  refine JL.q (OpP.q (p_not rfl)) ?_
  refine JL.nil ?_
  refine Js.cond rfl (fun h4 => ?_) (fun h4 => ?_)
  ·
    have h4' := h4
    try simp only [Bool.not_eq_true'] at h4'
    have hno : M.okG g = false := by simpa using h4
    have hC := M.okC_no hno
    have hE := M.playR_no (move := move) hno
    refine Js.seq ?_
    refine Js.region ?_
    refine JL.q (OpP.q (p_build zero_35 flds_35 rfl rfl)) ?_
    refine JL.s (e_store (i := 0) (c' := [.int .i64 0, .int .i64 0, .bool false, .bool false, .bool false, .bool false, .bool false, .int .i64 0, .int .i64 0, .slice none 0 0, .slice none 0 0, .int .i64 0, .slice none 0 0, .slice none 0 0, .slice none 0 0, .int .i64 0, .int .i64 0]) ty_35 rfl rfl rfl rfl rfl rfl rfl rfl) ?_
    rintro _ _ _ ⟨rfl, rfl⟩ _
    refine JL.q (OpP.q (p_assign rfl)) ?_
    refine JL.nil ?_
    refine Js.ret (R := RO w (Ty.tup [Ty.agg (cGame ((M.playR g move).1)), Ty.int ((M.playR g move).2)])) @Try.results43 (fun _ _ => rfl) (ResOk.cell (res_box (i := 0) ty_35 rfl rfl rfl rfl rfl) (ResOk.tmp rfl ResOk.nil)) (fun w1 hw => ?_)
    have hx := hw.ext (Up.refl _ _)
    exact ret_own (ps := []) hw hx ⟨_, rfl, ⟨_, _, rfl, ⟨_, rfl, ⟨_, _, rfl, ⟨by first | (rw [hE]; done) | (rw [hE]; rfl), rfl⟩, ⟨_, _, rfl, ⟨by first | (rw [hE]; done) | (rw [hE]; rfl), rfl⟩, ⟨_, _, rfl, ⟨by first | (rw [hE]; done) | (rw [hE]; rfl), rfl⟩, ⟨_, _, rfl, ⟨by first | (rw [hE]; done) | (rw [hE]; rfl), rfl⟩, ⟨_, _, rfl, ⟨by first | (rw [hE]; done) | (rw [hE]; rfl), rfl⟩, ⟨_, _, rfl, ⟨by first | (rw [hE]; done) | (rw [hE]; rfl), rfl⟩, ⟨_, _, rfl, ⟨by first | (rw [hE]; done) | (rw [hE]; rfl), rfl⟩, ⟨_, _, rfl, ⟨by first | (rw [hE]; done) | (rw [hE]; rfl), rfl⟩, ⟨_, _, rfl, ⟨by first | (rw [hE]; done) | (rw [hE]; rfl), rfl⟩, ⟨_, _, rfl, (ints_cast (show [] = (((M.playR g move).1).start).pits by first | (rw [hE]; done) | (rw [hE]; rfl)) nil_own), ⟨_, _, rfl, (ints_cast (show [] = (((M.playR g move).1).start).stores by first | (rw [hE]; done) | (rw [hE]; rfl)) nil_own), ⟨_, _, rfl, ⟨by first | (rw [hE]; done) | (rw [hE]; rfl), rfl⟩, ⟨_, _, rfl, (ints_cast (show [] = ((M.playR g move).1).moves by first | (rw [hE]; done) | (rw [hE]; rfl)) nil_own), ⟨_, _, rfl, (ints_cast (show [] = (((M.playR g move).1).now).pits by first | (rw [hE]; done) | (rw [hE]; rfl)) nil_own), ⟨_, _, rfl, (ints_cast (show [] = (((M.playR g move).1).now).stores by first | (rw [hE]; done) | (rw [hE]; rfl)) nil_own), ⟨_, _, rfl, ⟨by first | (rw [hE]; done) | (rw [hE]; rfl), rfl⟩, ⟨_, _, rfl, ⟨by first | (rw [hE]; done) | (rw [hE]; rfl), rfl⟩, rfl⟩⟩⟩⟩⟩⟩⟩⟩⟩⟩⟩⟩⟩⟩⟩⟩⟩⟩, ⟨_, _, rfl, ⟨by first | (rw [hE]; done) | (rw [hE]; rfl), rfl⟩, rfl⟩⟩⟩ Pick.nil (by simp [List.flatten, outV])
  ·
    have h4' := h4
    try simp only [Bool.not_eq_false'] at h4'
    have hok : M.okG g = true := by simpa using h4
    obtain ⟨k1, k2, k3, k4, k5, k6, k7, k8, k9⟩ := M.okG_parts hok
    have hnow := M.okG_now hok
    have k10 := M.okP_len hnow
    have k11 := M.okP_len k1
    (have k12 : (M.playedP g).length = g.moves.length + 1 := by rw [k6, M.hist_length, k8])
    have k13 : (M.playedR g).length = g.moves.length := by rw [k7, k8]
    have hC := M.okC_yes hok
    have hE := M.playR_yes (move := move) hok
    refine Js.skip ?_
    refine Js.seq ?_
    refine Js.region ?_
    refine JL.q (q_loadN ty_35 rfl (Mem.boxR (i := 1) rfl 0 17) rfl rfl) ?_
    refine JL.q (OpP.q (p_move rfl)) ?_
    refine JL.e (e_callO fn_86 rfl (Spl.tup (Spls.cons (Spl_Game _) (Spls.cons (Spl.val _) Spls.nil))) (fun w hw => c_impl_Game_play g _ move w ⟨_, rfl, ⟨rfl, rfl, rfl, rfl, rfl, rfl, rfl, rfl, rfl, (Ty.mono _ h1_9 hw.vis), (Ty.mono _ h1_10 hw.vis), rfl, (Ty.mono _ h1_12 hw.vis), (Ty.mono _ h1_13 hw.vis), (Ty.mono _ h1_14 hw.vis), rfl, rfl, trivial⟩⟩ (by omega) (by omega) (by omega) (by omega) (by omega))) ?_
    rintro v5 _ _ ⟨_, hR6, rfl, rfl⟩ _
    obtain ⟨vs7, rfl, hr7⟩ := hR6
    obtain ⟨v7_0, vs7_0, o7_0, ow7_0, rfl, hR7_0, hs7_0, rfl⟩ := RL_cons hr7
    obtain ⟨v7_1, vs7_1, o7_1, ow7_1, rfl, hR7_1, hs7_1, rfl⟩ := RL_cons hs7_0
    obtain ⟨rfl, rfl⟩ := RL_nil hs7_1
    obtain ⟨A8_9, c8_9, A8_10, c8_10, A8_12, c8_12, A8_13, c8_13, A8_14, c8_14, f8, rfl, rfl, bl8_9, bh8_9, bl8_10, bh8_10, bl8_12, bh8_12, bl8_13, bh8_13, bl8_14, bh8_14⟩ := hR7_0
    obtain ⟨rfl, rfl⟩ : v7_1 = .int .i64 ((M.play g move).2) ∧ _ := hR7_1
    refine JL.q (OpP.q (p_extract rfl rfl)) ?_
    refine JL.q (OpP.q (p_extract rfl rfl)) ?_
    refine JL.s (e_store (i := 1) (c' := [.int .i64 ((((M.play g move).1).rules).pits), .int .i64 ((((M.play g move).1).rules).seeds), .bool ((((M.play g move).1).rules).stores), .bool ((((M.play g move).1).rules).skip), .bool ((((M.play g move).1).rules).relay), .bool ((((M.play g move).1).rules).feed), .bool ((((M.play g move).1).rules).again), .int .i64 ((((M.play g move).1).rules).capture), .int .i64 ((((M.play g move).1).rules).slam), .slice A8_9 (((((M.play g move).1).start).pits).length) c8_9, .slice A8_10 (((((M.play g move).1).start).stores).length) c8_10, .int .i64 ((((M.play g move).1).start).player), .slice A8_12 ((((M.play g move).1).moves).length) c8_12, .slice A8_13 (((((M.play g move).1).now).pits).length) c8_13, .slice A8_14 (((((M.play g move).1).now).stores).length) c8_14, .int .i64 ((((M.play g move).1).now).player), .int .i64 (((M.play g move).1).resigned)]) ty_35 rfl rfl rfl rfl rfl rfl rfl rfl) ?_
    rintro _ _ _ ⟨rfl, rfl⟩ _
    refine JL.q (OpP.q (p_assign rfl)) ?_
    refine JL.nil ?_
    refine Js.ret (R := RO w (Ty.tup [Ty.agg (cGame ((M.playR g move).1)), Ty.int ((M.playR g move).2)])) @Try.results43 (fun _ _ => rfl) (ResOk.cell (res_box (i := 1) ty_35 rfl rfl rfl rfl rfl) (ResOk.tmp rfl ResOk.nil)) (fun w1 hw => ?_)
    have hx := hw.ext (Up.refl _ _)
    exact ret_own (ps := [(0, f8)]) hw hx ⟨_, rfl, ⟨_, _, rfl, (own_cast cGame (show (M.play g move).1 = (M.playR g move).1 by first | (rw [hE]; done) | (rw [hE]; rfl)) ⟨_, rfl, hw.pr (i := 0) rfl⟩), ⟨_, _, rfl, ⟨by first | (rw [hE]; done) | (rw [hE]; rfl), rfl⟩, rfl⟩⟩⟩ (Pick.cons (j := 0) rfl (List.Sublist.refl _) rfl Pick.nil) (by simp [List.flatten, outV])

end Go.Proofs.Ytejnmechnhgmfaa

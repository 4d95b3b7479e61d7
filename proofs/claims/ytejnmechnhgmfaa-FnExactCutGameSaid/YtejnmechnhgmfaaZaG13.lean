/- Walks: G13. -/
import Derived.Test.YtejnmechnhgmfaaZaTy
import Derived.Test.YtejnmechnhgmfaaZaG12
import Derived.Test.YtejnmechnhgmfaaZaG6
import Derived.Test.YtejnmechnhgmfaaZaF13
import Derived.Test.YtejnmechnhgmfaaZaM8
set_option linter.unusedSimpArgs false
set_option linter.unusedVariables false
namespace Go.Proofs.Ytejnmechnhgmfaa
open Go.RowKit

set_option maxRecDepth 100000 in
set_option maxHeartbeats 400000 in
theorem c_impl_CutGame (g : M.Gam) (v_g : Value) (w : World) (h_g : (Ty.agg (cGame g)).ok w v_g) (r0 : g.start.pits.length ≤ 4194304) (r1 : g.start.stores.length ≤ 4194304) (r2 : g.moves.length ≤ 4194304) (r3 : g.now.pits.length ≤ 4194304) (r4 : g.now.stores.length ≤ 4194304) : Ret Try.prog 57 [v_g] w (Ty.tup [Ty.agg (cGameL ((M.cutR g).1)), Ty.int ((M.cutR g).2)]) := by
  obtain ⟨A1_9, c1_9, A1_10, c1_10, A1_12, c1_12, A1_13, c1_13, A1_14, c1_14, rfl, h1_9, h1_10, h1_12, h1_13, h1_14, bl1_9, bh1_9, bl1_10, bh1_10, bl1_12, bh1_12, bl1_13, bh1_13, bl1_14, bh1_14⟩ := open_Game h_g
  refine enter @Try.func57 @Try.ntmps57 rfl rfl ?_
  refine Js.seq ?_
  refine Js.region ?_
  refine JL.e (e_box (c := [.int .i64 g.rules.pits, .int .i64 g.rules.seeds, .bool g.rules.stores, .bool g.rules.skip, .bool g.rules.relay, .bool g.rules.feed, .bool g.rules.again, .int .i64 g.rules.capture, .int .i64 g.rules.slam, .slice A1_9 g.start.pits.length c1_9, .slice A1_10 g.start.stores.length c1_10, .int .i64 g.start.player, .slice A1_12 g.moves.length c1_12, .slice A1_13 g.now.pits.length c1_13, .slice A1_14 g.now.stores.length c1_14, .int .i64 g.now.player, .int .i64 g.resigned]) rfl rfl) ?_
  rintro _ _ _ ⟨b2, rfl, rfl, rfl⟩ _
  refine JL.e (e_alloc zero_35) ?_
  rintro _ _ _ ⟨b3, rfl, rfl, rfl⟩ _
  refine JL.q (OpP.q (p_assign rfl)) ?_
  refine JL.nil ?_
  refine Js.seq ?_
  refine Js.seq ?_
  refine Js.region ?_
  refine JL.q (q_loadN ty_35 rfl (Mem.boxR (i := 1) rfl 0 17) rfl rfl) ?_
  refine JL.e (e_callV fn_62 rfl (fun w hw => c_impl_ValidGame g _ w ⟨_, rfl, ⟨rfl, rfl, rfl, rfl, rfl, rfl, rfl, rfl, rfl, (Ty.mono _ h1_9 hw.vis), (Ty.mono _ h1_10 hw.vis), rfl, (Ty.mono _ h1_12 hw.vis), (Ty.mono _ h1_13 hw.vis), (Ty.mono _ h1_14 hw.vis), rfl, rfl, trivial⟩⟩ (by omega) (by omega) (by omega) (by omega) (by omega))) ?_
  rintro _ _ _ ⟨rfl, rfl, rfl⟩ _
  refine JL.q (OpP.q (p_not rfl)) ?_
  refine JL.nil ?_
  refine Js.cond rfl (fun h4 => ?_) (fun h4 => ?_)
  ·
    have h4' := h4
    try simp only [Bool.not_eq_true'] at h4'
    have hno : M.okG g = false := by simpa using h4
    have hE := M.cutR_1 hno
    refine Js.seq ?_
    refine Js.region ?_
    refine JL.q (OpP.q (p_build zero_35 flds_35 rfl rfl)) ?_
    refine JL.s (e_store (i := 0) (c' := [.int .i64 0, .int .i64 0, .bool false, .bool false, .bool false, .bool false, .bool false, .int .i64 0, .int .i64 0, .slice none 0 0, .slice none 0 0, .int .i64 0, .slice none 0 0, .slice none 0 0, .slice none 0 0, .int .i64 0, .int .i64 0]) ty_35 rfl rfl rfl rfl rfl rfl rfl rfl) ?_
    rintro _ _ _ ⟨rfl, rfl⟩ _
    refine JL.q (OpP.q (p_assign rfl)) ?_
    refine JL.nil ?_
    refine Js.ret (R := RO w (Ty.tup [Ty.agg (cGameL ((M.cutR g).1)), Ty.int ((M.cutR g).2)])) @Try.results57 (fun _ _ => rfl) (ResOk.cell (res_box (i := 0) ty_35 rfl rfl rfl rfl rfl) (ResOk.tmp rfl ResOk.nil)) (fun w1 hw => ?_)
    have hx := hw.ext (Up.refl _ _)
    exact ret_own (ps := []) hw hx ⟨_, rfl, ⟨_, _, rfl, ⟨_, rfl, ⟨_, _, rfl, ⟨by first | rfl | (rw [hE]; done) | (rw [hE]; rfl), rfl⟩, ⟨_, _, rfl, ⟨by first | rfl | (rw [hE]; done) | (rw [hE]; rfl), rfl⟩, ⟨_, _, rfl, ⟨by first | rfl | (rw [hE]; done) | (rw [hE]; rfl), rfl⟩, ⟨_, _, rfl, ⟨by first | rfl | (rw [hE]; done) | (rw [hE]; rfl), rfl⟩, ⟨_, _, rfl, ⟨by first | rfl | (rw [hE]; done) | (rw [hE]; rfl), rfl⟩, ⟨_, _, rfl, ⟨by first | rfl | (rw [hE]; done) | (rw [hE]; rfl), rfl⟩, ⟨_, _, rfl, ⟨by first | rfl | (rw [hE]; done) | (rw [hE]; rfl), rfl⟩, ⟨_, _, rfl, ⟨by first | rfl | (rw [hE]; done) | (rw [hE]; rfl), rfl⟩, ⟨_, _, rfl, ⟨by first | rfl | (rw [hE]; done) | (rw [hE]; rfl), rfl⟩, ⟨_, _, rfl, (ints_cast (show [] = (((M.cutR g).1).start).pits by first | rfl | (rw [hE]; done) | (rw [hE]; rfl)) nil_own), ⟨_, _, rfl, (ints_cast (show [] = (((M.cutR g).1).start).stores by first | rfl | (rw [hE]; done) | (rw [hE]; rfl)) nil_own), ⟨_, _, rfl, ⟨by first | rfl | (rw [hE]; done) | (rw [hE]; rfl), rfl⟩, ⟨_, _, rfl, (ro_nil (show [] = ((M.cutR g).1).moves by first | rfl | (rw [hE]; done) | (rw [hE]; rfl))), ⟨_, _, rfl, (ints_cast (show [] = (((M.cutR g).1).now).pits by first | rfl | (rw [hE]; done) | (rw [hE]; rfl)) nil_own), ⟨_, _, rfl, (ints_cast (show [] = (((M.cutR g).1).now).stores by first | rfl | (rw [hE]; done) | (rw [hE]; rfl)) nil_own), ⟨_, _, rfl, ⟨by first | rfl | (rw [hE]; done) | (rw [hE]; rfl), rfl⟩, ⟨_, _, rfl, ⟨by first | rfl | (rw [hE]; done) | (rw [hE]; rfl), rfl⟩, rfl⟩⟩⟩⟩⟩⟩⟩⟩⟩⟩⟩⟩⟩⟩⟩⟩⟩⟩, ⟨_, _, rfl, ⟨by first | rfl | (rw [hE]; done) | (rw [hE]; rfl), rfl⟩, rfl⟩⟩⟩ Pick.nil (by simp [List.flatten, outV])
  ·
    have h4' := h4
    try simp only [Bool.not_eq_false'] at h4'
    have hok : M.okG g = true := by simpa using h4
    obtain ⟨k1, k2, k3, k4, k5, k6, k7, k8, k9⟩ := M.okG_parts hok
    refine Js.skip ?_
    refine Js.seq ?_
    refine Js.seq ?_
    refine Js.region ?_
    refine JL.q (OpP.q (p_fieldAddr fld_35_2 rfl)) ?_
    refine JL.q (q_load1 ty_24 rfl (Mem.box (i := 1) rfl rfl)) ?_
    refine JL.q (OpP.q (p_len el_24 rfl)) ?_
    refine JL.q (OpP.q (p_add rfl rfl (IntWalk.i64_in _ (by omega)))) ?_
    refine JL.q (OpP.q (p_move rfl)) ?_
    refine JL.nil ?_
    refine Js.block ?_
    refine Js.loop (fun l os u m => ∃ (k : Nat), l = [(1, .pointer (some ⟨b2, 0, none⟩)), (2, .pointer (some ⟨b3, 0, none⟩)), (13, .int .i64 ((g.moves.length : Int) + 1)), (14, .int .i64 (k : Int))] ∧ os = [boxO b3 [.int .i64 0, .int .i64 0, .bool false, .bool false, .bool false, .bool false, .bool false, .int .i64 0, .int .i64 0, .slice none 0 0, .slice none 0 0, .int .i64 0, .slice none 0 0, .slice none 0 0, .slice none 0 0, .int .i64 0, .int .i64 0] 35, boxO b2 [.int .i64 g.rules.pits, .int .i64 g.rules.seeds, .bool g.rules.stores, .bool g.rules.skip, .bool g.rules.relay, .bool g.rules.feed, .bool g.rules.again, .int .i64 g.rules.capture, .int .i64 g.rules.slam, .slice A1_9 g.start.pits.length c1_9, .slice A1_10 g.start.stores.length c1_10, .int .i64 g.start.player, .slice A1_12 g.moves.length c1_12, .slice A1_13 g.now.pits.length c1_13, .slice A1_14 g.now.stores.length c1_14, .int .i64 g.now.player, .int .i64 g.resigned] 35] ∧ Up w.heap.size w u ∧ (M.Cut g k) ∧ (k ≤ g.moves.length + 1) ∧ m = g.moves.length + 1 - k) ⟨0, rfl, rfl, Up.refl _ _, by exact M.Cut.zero g, by first | assumption | omega | rfl | (simp; done), rfl⟩ ⟨rfl, rfl, rfl, rfl, trivial⟩ ?_
    · rintro _ _ u5 _ ⟨k, rfl, rfl, x5, hC, hk, rfl⟩
      refine Js.seq ?_
      refine Js.region ?_
      refine JL.q (OpP.q (p_lss rfl rfl)) ?_
      refine JL.nil ?_
      refine Js.seq ?_
      refine Js.cond rfl (fun h6 => ?_) (fun h6 => ?_)
      ·
        have h6' := h6
        try simp only [decide_eq_true_eq] at h6'
        have hc9 := M.cut_ok hok (n := (k : Int).toNat) (by omega)
        have hsm := M.Small.ok hc9
        have hs1 := hsm.sp
        have hs2 := hsm.ss
        have hs3 := hsm.m
        have hs4 := hsm.np
        have hs5 := hsm.ns
        refine Js.skip ?_
        refine Js.seq ?_
        refine Js.block ?_
        refine Js.seq ?_
        refine Js.region ?_
        refine JL.q (OpP.q (p_move rfl)) ?_
        refine JL.q (OpP.q (p_assign rfl)) ?_
        refine JL.nil ?_
        refine Js.seq ?_
        refine Js.region ?_
        refine JL.q (q_loadN ty_35 rfl (Mem.boxR (i := 1) rfl 0 17) rfl rfl) ?_
        refine JL.q (OpP.q (p_move rfl)) ?_
        refine JL.e (e_callO fn_82 rfl (Spl_GameL _) (fun w hw => c_impl_Game_cut g _ (k : Int) w ⟨_, rfl, ⟨rfl, rfl, rfl, rfl, rfl, rfl, rfl, rfl, rfl, (Ty.mono _ h1_9 (x5.vis.trans hw.vis)), (Ty.mono _ h1_10 (x5.vis.trans hw.vis)), rfl, (Ty.mono _ h1_12 (x5.vis.trans hw.vis)), (Ty.mono _ h1_13 (x5.vis.trans hw.vis)), (Ty.mono _ h1_14 (x5.vis.trans hw.vis)), rfl, rfl, trivial⟩⟩ (by omega) (by omega) (by omega) (by omega) (by omega) hok (by omega) (by omega))) ?_
        rintro v7 _ _ ⟨_, hR8, rfl, rfl⟩ _
        obtain ⟨A9_9, c9_9, A9_10, c9_10, A9_12, c9_12, A9_13, c9_13, A9_14, c9_14, f9, rfl, rfl, bl9_9, bh9_9, bl9_10, bh9_10, bl9_12, bh9_12, bl9_13, bh9_13, bl9_14, bh9_14⟩ := hR8
        refine JL.e (e_alloc zero_35) ?_
        rintro _ _ _ ⟨b10, rfl, rfl, rfl⟩ _
        refine JL.s (e_store (i := 0) (c' := [.int .i64 (((M.cutG g (k : Int).toNat).rules).pits), .int .i64 (((M.cutG g (k : Int).toNat).rules).seeds), .bool (((M.cutG g (k : Int).toNat).rules).stores), .bool (((M.cutG g (k : Int).toNat).rules).skip), .bool (((M.cutG g (k : Int).toNat).rules).relay), .bool (((M.cutG g (k : Int).toNat).rules).feed), .bool (((M.cutG g (k : Int).toNat).rules).again), .int .i64 (((M.cutG g (k : Int).toNat).rules).capture), .int .i64 (((M.cutG g (k : Int).toNat).rules).slam), .slice A9_9 ((((M.cutG g (k : Int).toNat).start).pits).length) c9_9, .slice A9_10 ((((M.cutG g (k : Int).toNat).start).stores).length) c9_10, .int .i64 (((M.cutG g (k : Int).toNat).start).player), .slice A9_12 (((M.cutG g (k : Int).toNat).moves).length) c9_12, .slice A9_13 ((((M.cutG g (k : Int).toNat).now).pits).length) c9_13, .slice A9_14 ((((M.cutG g (k : Int).toNat).now).stores).length) c9_14, .int .i64 (((M.cutG g (k : Int).toNat).now).player), .int .i64 ((M.cutG g (k : Int).toNat).resigned)]) ty_35 rfl rfl rfl rfl rfl rfl rfl rfl) ?_
        rintro _ _ _ ⟨rfl, rfl⟩ _
        refine JL.nil ?_
        refine Js.seq ?_
        refine Js.region ?_
        refine JL.q (q_loadN ty_35 rfl (Mem.boxR (i := 0) rfl 0 17) rfl rfl) ?_
        refine JL.e (e_callV fn_84 rfl (fun w hw => c_impl_Game_endOf (M.cutG g (k : Int).toNat) _ w ⟨_, rfl, ⟨rfl, rfl, rfl, rfl, rfl, rfl, rfl, rfl, rfl, (Mem.ownC (i := 1) (Ts := cGameL (M.cutG g (k : Int).toNat)) (vs := [.int .i64 (((M.cutG g (k : Int).toNat).rules).pits), .int .i64 (((M.cutG g (k : Int).toNat).rules).seeds), .bool (((M.cutG g (k : Int).toNat).rules).stores), .bool (((M.cutG g (k : Int).toNat).rules).skip), .bool (((M.cutG g (k : Int).toNat).rules).relay), .bool (((M.cutG g (k : Int).toNat).rules).feed), .bool (((M.cutG g (k : Int).toNat).rules).again), .int .i64 (((M.cutG g (k : Int).toNat).rules).capture), .int .i64 (((M.cutG g (k : Int).toNat).rules).slam), .slice A9_9 ((((M.cutG g (k : Int).toNat).start).pits).length) c9_9, .slice A9_10 ((((M.cutG g (k : Int).toNat).start).stores).length) c9_10, .int .i64 (((M.cutG g (k : Int).toNat).start).player), .slice A9_12 (((M.cutG g (k : Int).toNat).moves).length) c9_12, .slice A9_13 ((((M.cutG g (k : Int).toNat).now).pits).length) c9_13, .slice A9_14 ((((M.cutG g (k : Int).toNat).now).stores).length) c9_14, .int .i64 (((M.cutG g (k : Int).toNat).now).player), .int .i64 ((M.cutG g (k : Int).toNat).resigned)]) rfl w hw).2.2.2.2.2.2.2.2.2.1, (Mem.ownC (i := 1) (Ts := cGameL (M.cutG g (k : Int).toNat)) (vs := [.int .i64 (((M.cutG g (k : Int).toNat).rules).pits), .int .i64 (((M.cutG g (k : Int).toNat).rules).seeds), .bool (((M.cutG g (k : Int).toNat).rules).stores), .bool (((M.cutG g (k : Int).toNat).rules).skip), .bool (((M.cutG g (k : Int).toNat).rules).relay), .bool (((M.cutG g (k : Int).toNat).rules).feed), .bool (((M.cutG g (k : Int).toNat).rules).again), .int .i64 (((M.cutG g (k : Int).toNat).rules).capture), .int .i64 (((M.cutG g (k : Int).toNat).rules).slam), .slice A9_9 ((((M.cutG g (k : Int).toNat).start).pits).length) c9_9, .slice A9_10 ((((M.cutG g (k : Int).toNat).start).stores).length) c9_10, .int .i64 (((M.cutG g (k : Int).toNat).start).player), .slice A9_12 (((M.cutG g (k : Int).toNat).moves).length) c9_12, .slice A9_13 ((((M.cutG g (k : Int).toNat).now).pits).length) c9_13, .slice A9_14 ((((M.cutG g (k : Int).toNat).now).stores).length) c9_14, .int .i64 (((M.cutG g (k : Int).toNat).now).player), .int .i64 ((M.cutG g (k : Int).toNat).resigned)]) rfl w hw).2.2.2.2.2.2.2.2.2.2.1, rfl, (Mem.ownC (i := 1) (Ts := cGameL (M.cutG g (k : Int).toNat)) (vs := [.int .i64 (((M.cutG g (k : Int).toNat).rules).pits), .int .i64 (((M.cutG g (k : Int).toNat).rules).seeds), .bool (((M.cutG g (k : Int).toNat).rules).stores), .bool (((M.cutG g (k : Int).toNat).rules).skip), .bool (((M.cutG g (k : Int).toNat).rules).relay), .bool (((M.cutG g (k : Int).toNat).rules).feed), .bool (((M.cutG g (k : Int).toNat).rules).again), .int .i64 (((M.cutG g (k : Int).toNat).rules).capture), .int .i64 (((M.cutG g (k : Int).toNat).rules).slam), .slice A9_9 ((((M.cutG g (k : Int).toNat).start).pits).length) c9_9, .slice A9_10 ((((M.cutG g (k : Int).toNat).start).stores).length) c9_10, .int .i64 (((M.cutG g (k : Int).toNat).start).player), .slice A9_12 (((M.cutG g (k : Int).toNat).moves).length) c9_12, .slice A9_13 ((((M.cutG g (k : Int).toNat).now).pits).length) c9_13, .slice A9_14 ((((M.cutG g (k : Int).toNat).now).stores).length) c9_14, .int .i64 (((M.cutG g (k : Int).toNat).now).player), .int .i64 ((M.cutG g (k : Int).toNat).resigned)]) rfl w hw).2.2.2.2.2.2.2.2.2.2.2.2.1, (Mem.ownC (i := 1) (Ts := cGameL (M.cutG g (k : Int).toNat)) (vs := [.int .i64 (((M.cutG g (k : Int).toNat).rules).pits), .int .i64 (((M.cutG g (k : Int).toNat).rules).seeds), .bool (((M.cutG g (k : Int).toNat).rules).stores), .bool (((M.cutG g (k : Int).toNat).rules).skip), .bool (((M.cutG g (k : Int).toNat).rules).relay), .bool (((M.cutG g (k : Int).toNat).rules).feed), .bool (((M.cutG g (k : Int).toNat).rules).again), .int .i64 (((M.cutG g (k : Int).toNat).rules).capture), .int .i64 (((M.cutG g (k : Int).toNat).rules).slam), .slice A9_9 ((((M.cutG g (k : Int).toNat).start).pits).length) c9_9, .slice A9_10 ((((M.cutG g (k : Int).toNat).start).stores).length) c9_10, .int .i64 (((M.cutG g (k : Int).toNat).start).player), .slice A9_12 (((M.cutG g (k : Int).toNat).moves).length) c9_12, .slice A9_13 ((((M.cutG g (k : Int).toNat).now).pits).length) c9_13, .slice A9_14 ((((M.cutG g (k : Int).toNat).now).stores).length) c9_14, .int .i64 (((M.cutG g (k : Int).toNat).now).player), .int .i64 ((M.cutG g (k : Int).toNat).resigned)]) rfl w hw).2.2.2.2.2.2.2.2.2.2.2.2.2.1, (Mem.ownC (i := 1) (Ts := cGameL (M.cutG g (k : Int).toNat)) (vs := [.int .i64 (((M.cutG g (k : Int).toNat).rules).pits), .int .i64 (((M.cutG g (k : Int).toNat).rules).seeds), .bool (((M.cutG g (k : Int).toNat).rules).stores), .bool (((M.cutG g (k : Int).toNat).rules).skip), .bool (((M.cutG g (k : Int).toNat).rules).relay), .bool (((M.cutG g (k : Int).toNat).rules).feed), .bool (((M.cutG g (k : Int).toNat).rules).again), .int .i64 (((M.cutG g (k : Int).toNat).rules).capture), .int .i64 (((M.cutG g (k : Int).toNat).rules).slam), .slice A9_9 ((((M.cutG g (k : Int).toNat).start).pits).length) c9_9, .slice A9_10 ((((M.cutG g (k : Int).toNat).start).stores).length) c9_10, .int .i64 (((M.cutG g (k : Int).toNat).start).player), .slice A9_12 (((M.cutG g (k : Int).toNat).moves).length) c9_12, .slice A9_13 ((((M.cutG g (k : Int).toNat).now).pits).length) c9_13, .slice A9_14 ((((M.cutG g (k : Int).toNat).now).stores).length) c9_14, .int .i64 (((M.cutG g (k : Int).toNat).now).player), .int .i64 ((M.cutG g (k : Int).toNat).resigned)]) rfl w hw).2.2.2.2.2.2.2.2.2.2.2.2.2.2.1, rfl, rfl, trivial⟩⟩ (by omega) (by omega) (by omega) (by omega) (by omega) hc9)) ?_
        rintro _ _ _ ⟨rfl, rfl, rfl⟩ _
        refine JL.q (OpP.q (p_neq rfl rfl)) ?_
        refine JL.nil ?_
        refine Js.cond rfl (fun h11 => ?_) (fun h11 => ?_)
        ·
          have h11' := h11
          try simp only [Bool.not_eq_true', decide_eq_false_iff_not] at h11'
          have hE : M.cutR g = (M.cutG g (k : Int).toNat, 0) := by rw [M.cutR_0 hok, M.cutE_at (k := (k : Int).toNat) (by simpa using hC) (by omega) (by simpa using h11)]
          refine Js.seq ?_
          refine Js.region ?_
          refine JL.q (q_loadN ty_35 rfl (Mem.boxR (i := 0) rfl 0 17) rfl rfl) ?_
          refine JL.s (e_store (i := 2) (c' := [.int .i64 (((M.cutG g (k : Int).toNat).rules).pits), .int .i64 (((M.cutG g (k : Int).toNat).rules).seeds), .bool (((M.cutG g (k : Int).toNat).rules).stores), .bool (((M.cutG g (k : Int).toNat).rules).skip), .bool (((M.cutG g (k : Int).toNat).rules).relay), .bool (((M.cutG g (k : Int).toNat).rules).feed), .bool (((M.cutG g (k : Int).toNat).rules).again), .int .i64 (((M.cutG g (k : Int).toNat).rules).capture), .int .i64 (((M.cutG g (k : Int).toNat).rules).slam), .slice A9_9 ((((M.cutG g (k : Int).toNat).start).pits).length) c9_9, .slice A9_10 ((((M.cutG g (k : Int).toNat).start).stores).length) c9_10, .int .i64 (((M.cutG g (k : Int).toNat).start).player), .slice A9_12 (((M.cutG g (k : Int).toNat).moves).length) c9_12, .slice A9_13 ((((M.cutG g (k : Int).toNat).now).pits).length) c9_13, .slice A9_14 ((((M.cutG g (k : Int).toNat).now).stores).length) c9_14, .int .i64 (((M.cutG g (k : Int).toNat).now).player), .int .i64 ((M.cutG g (k : Int).toNat).resigned)]) ty_35 rfl rfl rfl rfl rfl rfl rfl rfl) ?_
          rintro _ _ _ ⟨rfl, rfl⟩ _
          refine JL.q (OpP.q (p_assign rfl)) ?_
          refine JL.nil ?_
          refine Js.ret (R := RO w (Ty.tup [Ty.agg (cGameL ((M.cutR g).1)), Ty.int ((M.cutR g).2)])) @Try.results57 (fun _ _ => rfl) (ResOk.cell (res_box (i := 2) ty_35 rfl rfl rfl rfl rfl) (ResOk.tmp rfl ResOk.nil)) (fun w1 hw => ?_)
          have hx := hw.ext (x5)
          exact ret_own (ps := [(1, f9)]) hw hx ⟨_, rfl, ⟨_, _, rfl, (own_cast cGameL (show M.cutG g (k : Int).toNat = (M.cutR g).1 by first | rfl | (rw [hE]; done) | (rw [hE]; rfl)) ⟨_, rfl, hw.pr (i := 1) rfl⟩), ⟨_, _, rfl, ⟨by first | rfl | (rw [hE]; done) | (rw [hE]; rfl), rfl⟩, rfl⟩⟩⟩ (Pick.cons (j := 1) rfl (List.Sublist.refl _) rfl Pick.nil) (by simp [List.flatten, outV])
        ·
          have h11' := h11
          try simp only [Bool.not_eq_false', decide_eq_true_eq] at h11'
          have hC2 := hC.step (by simpa using h11)
          refine Js.skip ?_
          refine Js.blockEnd ?_
          refine Js.region ?_
          refine JL.q (OpP.q (p_add rfl rfl (IntWalk.i64_in _ (by omega)))) ?_
          refine JL.q (OpP.q (p_move rfl)) ?_
          refine JL.nil ?_
          refine Js.drop (i := 0) rfl rfl (fun u12 x12 => ?_)
          refine Js.drop (i := 0) rfl rfl (fun u13 x13 => ?_)
          exact Js.again ⟨k + 1, rfl, rfl, ((x5.trans x12).trans x13), by exact hC2, by first | assumption | omega | rfl | (simp; done), rfl⟩ (by omega) ⟨rfl, rfl, rfl, rfl, trivial⟩
      ·
        have h6' := h6
        try simp only [decide_eq_false_iff_not, Int.not_lt] at h6'
        have hE : M.cutR g = (g, 0) := by rw [M.cutR_0 hok, M.cutE_no ((show k = g.moves.length + 1 by have := h6'; omega) ▸ hC)]
        refine Js.exit (fun _ _ => rfl) ?_
        refine Js.seq ?_
        refine Js.region ?_
        refine JL.q (q_loadN ty_35 rfl (Mem.boxR (i := 1) rfl 0 17) rfl rfl) ?_
        refine JL.e (e_callO fn_79 rfl (Spl.agg (Spls.cons (Spl.val _) (Spls.cons (Spl.val _) (Spls.cons (Spl.val _) (Spls.cons (Spl.val _) (Spls.cons (Spl.val _) (Spls.cons (Spl.val _) (Spls.cons (Spl.val _) (Spls.cons (Spl.val _) (Spls.cons (Spl.val _) (Spls.cons (Spl.ints _ _) (Spls.cons (Spl.ints _ _) (Spls.cons (Spl.val _) (Spls.cons (Spl.ints _ _) (Spls.cons (Spl.ints _ _) (Spls.cons (Spl.ints _ _) (Spls.cons (Spl.val _) (Spls.cons (Spl.val _) Spls.nil)))))))))))))))))) (fun w hw => c_impl_Game_copied g _ w ⟨_, rfl, ⟨rfl, rfl, rfl, rfl, rfl, rfl, rfl, rfl, rfl, (Ty.mono _ h1_9 (x5.vis.trans hw.vis)), (Ty.mono _ h1_10 (x5.vis.trans hw.vis)), rfl, (Ty.mono _ h1_12 (x5.vis.trans hw.vis)), (Ty.mono _ h1_13 (x5.vis.trans hw.vis)), (Ty.mono _ h1_14 (x5.vis.trans hw.vis)), rfl, rfl, trivial⟩⟩ (by omega) (by omega) (by omega) (by omega) (by omega))) ?_
        rintro v14 _ _ ⟨_, hR15, rfl, rfl⟩ _
        obtain ⟨vs16, rfl, hr16⟩ := hR15
        obtain ⟨v16_0, vs16_0, o16_0, ow16_0, rfl, hR16_0, hs16_0, rfl⟩ := RL_cons hr16
        obtain ⟨v16_1, vs16_1, o16_1, ow16_1, rfl, hR16_1, hs16_1, rfl⟩ := RL_cons hs16_0
        obtain ⟨v16_2, vs16_2, o16_2, ow16_2, rfl, hR16_2, hs16_2, rfl⟩ := RL_cons hs16_1
        obtain ⟨v16_3, vs16_3, o16_3, ow16_3, rfl, hR16_3, hs16_3, rfl⟩ := RL_cons hs16_2
        obtain ⟨v16_4, vs16_4, o16_4, ow16_4, rfl, hR16_4, hs16_4, rfl⟩ := RL_cons hs16_3
        obtain ⟨v16_5, vs16_5, o16_5, ow16_5, rfl, hR16_5, hs16_5, rfl⟩ := RL_cons hs16_4
        obtain ⟨v16_6, vs16_6, o16_6, ow16_6, rfl, hR16_6, hs16_6, rfl⟩ := RL_cons hs16_5
        obtain ⟨v16_7, vs16_7, o16_7, ow16_7, rfl, hR16_7, hs16_7, rfl⟩ := RL_cons hs16_6
        obtain ⟨v16_8, vs16_8, o16_8, ow16_8, rfl, hR16_8, hs16_8, rfl⟩ := RL_cons hs16_7
        obtain ⟨v16_9, vs16_9, o16_9, ow16_9, rfl, hR16_9, hs16_9, rfl⟩ := RL_cons hs16_8
        obtain ⟨v16_10, vs16_10, o16_10, ow16_10, rfl, hR16_10, hs16_10, rfl⟩ := RL_cons hs16_9
        obtain ⟨v16_11, vs16_11, o16_11, ow16_11, rfl, hR16_11, hs16_11, rfl⟩ := RL_cons hs16_10
        obtain ⟨v16_12, vs16_12, o16_12, ow16_12, rfl, hR16_12, hs16_12, rfl⟩ := RL_cons hs16_11
        obtain ⟨v16_13, vs16_13, o16_13, ow16_13, rfl, hR16_13, hs16_13, rfl⟩ := RL_cons hs16_12
        obtain ⟨v16_14, vs16_14, o16_14, ow16_14, rfl, hR16_14, hs16_14, rfl⟩ := RL_cons hs16_13
        obtain ⟨v16_15, vs16_15, o16_15, ow16_15, rfl, hR16_15, hs16_15, rfl⟩ := RL_cons hs16_14
        obtain ⟨v16_16, vs16_16, o16_16, ow16_16, rfl, hR16_16, hs16_16, rfl⟩ := RL_cons hs16_15
        obtain ⟨rfl, rfl⟩ := RL_nil hs16_16
        obtain ⟨rfl, rfl⟩ : v16_0 = .int .i64 g.rules.pits ∧ _ := hR16_0
        obtain ⟨rfl, rfl⟩ : v16_1 = .int .i64 g.rules.seeds ∧ _ := hR16_1
        obtain ⟨rfl, rfl⟩ : v16_2 = .bool g.rules.stores ∧ _ := hR16_2
        obtain ⟨rfl, rfl⟩ : v16_3 = .bool g.rules.skip ∧ _ := hR16_3
        obtain ⟨rfl, rfl⟩ : v16_4 = .bool g.rules.relay ∧ _ := hR16_4
        obtain ⟨rfl, rfl⟩ : v16_5 = .bool g.rules.feed ∧ _ := hR16_5
        obtain ⟨rfl, rfl⟩ : v16_6 = .bool g.rules.again ∧ _ := hR16_6
        obtain ⟨rfl, rfl⟩ : v16_7 = .int .i64 g.rules.capture ∧ _ := hR16_7
        obtain ⟨rfl, rfl⟩ : v16_8 = .int .i64 g.rules.slam ∧ _ := hR16_8
        obtain ⟨A17, c17, rfl, rfl, bl17, bh17⟩ := hR16_9
        obtain ⟨A18, c18, rfl, rfl, bl18, bh18⟩ := hR16_10
        obtain ⟨rfl, rfl⟩ : v16_11 = .int .i64 g.start.player ∧ _ := hR16_11
        obtain ⟨A19, c19, rfl, rfl, bl19, bh19⟩ := hR16_12
        obtain ⟨A20, c20, rfl, rfl, bl20, bh20⟩ := hR16_13
        obtain ⟨A21, c21, rfl, rfl, bl21, bh21⟩ := hR16_14
        obtain ⟨rfl, rfl⟩ : v16_15 = .int .i64 g.now.player ∧ _ := hR16_15
        obtain ⟨rfl, rfl⟩ : v16_16 = .int .i64 g.resigned ∧ _ := hR16_16
        refine JL.s (e_store (i := 5) (c' := [.int .i64 g.rules.pits, .int .i64 g.rules.seeds, .bool g.rules.stores, .bool g.rules.skip, .bool g.rules.relay, .bool g.rules.feed, .bool g.rules.again, .int .i64 g.rules.capture, .int .i64 g.rules.slam, .slice A17 g.start.pits.length c17, .slice A18 g.start.stores.length c18, .int .i64 g.start.player, .slice A19 g.moves.length c19, .slice A20 g.now.pits.length c20, .slice A21 g.now.stores.length c21, .int .i64 g.now.player, .int .i64 g.resigned]) ty_35 rfl rfl rfl rfl rfl rfl rfl rfl) ?_
        rintro _ _ _ ⟨rfl, rfl⟩ _
        refine JL.q (OpP.q (p_assign rfl)) ?_
        refine JL.nil ?_
        refine Js.ret (R := RO w (Ty.tup [Ty.agg (cGameL ((M.cutR g).1)), Ty.int ((M.cutR g).2)])) @Try.results57 (fun _ _ => rfl) (ResOk.cell (res_box (i := 5) ty_35 rfl rfl rfl rfl rfl) (ResOk.tmp rfl ResOk.nil)) (fun w1 hw => ?_)
        have hx := hw.ext (x5)
        exact ret_own (ps := [(0, (Value.ownBlock (.slice A17 g.start.pits.length c17)).toList), (1, (Value.ownBlock (.slice A18 g.start.stores.length c18)).toList), (2, (Value.ownBlock (.slice A19 g.moves.length c19)).toList), (3, (Value.ownBlock (.slice A20 g.now.pits.length c20)).toList), (4, (Value.ownBlock (.slice A21 g.now.stores.length c21)).toList)]) hw hx ⟨_, rfl, ⟨_, _, rfl, ⟨_, rfl, ⟨_, _, rfl, ⟨by first | rfl | (rw [hE]; done) | (rw [hE]; rfl), rfl⟩, ⟨_, _, rfl, ⟨by first | rfl | (rw [hE]; done) | (rw [hE]; rfl), rfl⟩, ⟨_, _, rfl, ⟨by first | rfl | (rw [hE]; done) | (rw [hE]; rfl), rfl⟩, ⟨_, _, rfl, ⟨by first | rfl | (rw [hE]; done) | (rw [hE]; rfl), rfl⟩, ⟨_, _, rfl, ⟨by first | rfl | (rw [hE]; done) | (rw [hE]; rfl), rfl⟩, ⟨_, _, rfl, ⟨by first | rfl | (rw [hE]; done) | (rw [hE]; rfl), rfl⟩, ⟨_, _, rfl, ⟨by first | rfl | (rw [hE]; done) | (rw [hE]; rfl), rfl⟩, ⟨_, _, rfl, ⟨by first | rfl | (rw [hE]; done) | (rw [hE]; rfl), rfl⟩, ⟨_, _, rfl, ⟨by first | rfl | (rw [hE]; done) | (rw [hE]; rfl), rfl⟩, ⟨_, _, rfl, (ints_row (xs := g.start.pits) (hw.pr (i := 0) rfl) (show g.start.pits = (((M.cutR g).1).start).pits by first | rfl | (rw [hE]; done) | (rw [hE]; rfl))), ⟨_, _, rfl, (ints_row (xs := g.start.stores) (hw.pr (i := 1) rfl) (show g.start.stores = (((M.cutR g).1).start).stores by first | rfl | (rw [hE]; done) | (rw [hE]; rfl))), ⟨_, _, rfl, ⟨by first | rfl | (rw [hE]; done) | (rw [hE]; rfl), rfl⟩, ⟨_, _, rfl, (ro_ownR (ys := g.moves) (hw.pr (i := 2) rfl) (show g.moves = ((M.cutR g).1).moves by first | rfl | (rw [hE]; done) | (rw [hE]; rfl))), ⟨_, _, rfl, (ints_row (xs := g.now.pits) (hw.pr (i := 3) rfl) (show g.now.pits = (((M.cutR g).1).now).pits by first | rfl | (rw [hE]; done) | (rw [hE]; rfl))), ⟨_, _, rfl, (ints_row (xs := g.now.stores) (hw.pr (i := 4) rfl) (show g.now.stores = (((M.cutR g).1).now).stores by first | rfl | (rw [hE]; done) | (rw [hE]; rfl))), ⟨_, _, rfl, ⟨by first | rfl | (rw [hE]; done) | (rw [hE]; rfl), rfl⟩, ⟨_, _, rfl, ⟨by first | rfl | (rw [hE]; done) | (rw [hE]; rfl), rfl⟩, rfl⟩⟩⟩⟩⟩⟩⟩⟩⟩⟩⟩⟩⟩⟩⟩⟩⟩⟩, ⟨_, _, rfl, ⟨by first | rfl | (rw [hE]; done) | (rw [hE]; rfl), rfl⟩, rfl⟩⟩⟩ (Pick.cons (j := 0) rfl (List.sublist_append_left _ _) rfl (Pick.cons (j := 1) rfl (List.sublist_append_left _ _) rfl (Pick.cons (j := 2) rfl (List.sublist_append_left _ _) rfl (Pick.cons (j := 3) rfl (List.sublist_append_left _ _) rfl (Pick.cons (j := 4) rfl (List.sublist_append_left _ _) rfl Pick.nil))))) (by simp [List.flatten, outV])

end Go.Proofs.Ytejnmechnhgmfaa

/- Walks: K11. -/
import Derived.Test.YtejnmechnhgmfaaZaTy
import Derived.Test.YtejnmechnhgmfaaZaK6
import Derived.Test.YtejnmechnhgmfaaZaF13
import Derived.Test.YtejnmechnhgmfaaZaM8
set_option linter.unusedSimpArgs false
set_option linter.unusedVariables false
namespace Go.Proofs.Ytejnmechnhgmfaa
open Go.RowKit

set_option maxRecDepth 100000 in
set_option maxHeartbeats 400000 in
theorem c_spec_UndoMove (g : M.Gam) (v_g : Value) (w : World) (h_g : (Ty.agg (cGame g)).ok w v_g) (r0 : g.start.pits.length ≤ 4194304) (r1 : g.start.stores.length ≤ 4194304) (r2 : g.moves.length ≤ 4194304) (r3 : g.now.pits.length ≤ 4194304) (r4 : g.now.stores.length ≤ 4194304) : Ret Try.prog 38 [v_g] w (Ty.tup [Ty.agg (cGame ((M.undo g).1)), Ty.int ((M.undo g).2)]) := by
  obtain ⟨A1_9, c1_9, A1_10, c1_10, A1_12, c1_12, A1_13, c1_13, A1_14, c1_14, rfl, h1_9, h1_10, h1_12, h1_13, h1_14, bl1_9, bh1_9, bl1_10, bh1_10, bl1_12, bh1_12, bl1_13, bh1_13, bl1_14, bh1_14⟩ := open_Game h_g
  refine enter @Try.func38 @Try.ntmps38 rfl rfl ?_
  refine Js.seq ?_
  refine Js.region ?_
  refine JL.e (e_box (c := [.int .i64 g.rules.pits, .int .i64 g.rules.seeds, .bool g.rules.stores, .bool g.rules.skip, .bool g.rules.relay, .bool g.rules.feed, .bool g.rules.again, .int .i64 g.rules.capture, .int .i64 g.rules.slam, .slice A1_9 g.start.pits.length c1_9, .slice A1_10 g.start.stores.length c1_10, .int .i64 g.start.player, .slice A1_12 g.moves.length c1_12, .slice A1_13 g.now.pits.length c1_13, .slice A1_14 g.now.stores.length c1_14, .int .i64 g.now.player, .int .i64 g.resigned]) rfl rfl) ?_
  rintro _ _ _ ⟨b2, rfl, rfl, rfl⟩ _
  refine JL.e (e_alloc zero_35) ?_
  rintro _ _ _ ⟨b3, rfl, rfl, rfl⟩ _
  refine JL.q (OpP.q (p_assign rfl)) ?_
  refine JL.nil ?_
  refine Js.seq ?_
  refine Js.seq ?_
  refine Js.region ?_
  refine JL.e (e_callV fn_68 rfl (fun w hw => c_spec_l08Ok g _ w ⟨_, _, [.int .i64 g.rules.pits, .int .i64 g.rules.seeds, .bool g.rules.stores, .bool g.rules.skip, .bool g.rules.relay, .bool g.rules.feed, .bool g.rules.again, .int .i64 g.rules.capture, .int .i64 g.rules.slam, .slice A1_9 g.start.pits.length c1_9, .slice A1_10 g.start.stores.length c1_10, .int .i64 g.start.player, .slice A1_12 g.moves.length c1_12, .slice A1_13 g.now.pits.length c1_13, .slice A1_14 g.now.stores.length c1_14, .int .i64 g.now.player, .int .i64 g.resigned], rfl, ⟨rfl, rfl, rfl, rfl, rfl, rfl, rfl, rfl, rfl, (Ty.mono _ h1_9 hw.vis), (Ty.mono _ h1_10 hw.vis), rfl, (Ty.mono _ h1_12 hw.vis), (Ty.mono _ h1_13 hw.vis), (Ty.mono _ h1_14 hw.vis), rfl, rfl, trivial⟩, Mem.boxR (i := 1) rfl 0 17 w hw⟩ (by omega) (by omega) (by omega) (by omega) (by omega))) ?_
  rintro _ _ _ ⟨rfl, rfl, rfl⟩ _
  refine JL.q (OpP.q (p_not rfl)) ?_
  refine JL.nil ?_
  refine Js.cond rfl (fun h4 => ?_) (fun h4 => ?_)
  ·
    have h4' := h4
    try simp only [Bool.not_eq_true'] at h4'
    have hno : M.okG g = false := by simpa using h4
    have hE := M.undo_1 hno
    refine Js.seq ?_
    refine Js.region ?_
    refine JL.q (OpP.q (p_build zero_35 flds_35 rfl rfl)) ?_
    refine JL.s (e_store (i := 0) (c' := [.int .i64 0, .int .i64 0, .bool false, .bool false, .bool false, .bool false, .bool false, .int .i64 0, .int .i64 0, .slice none 0 0, .slice none 0 0, .int .i64 0, .slice none 0 0, .slice none 0 0, .slice none 0 0, .int .i64 0, .int .i64 0]) ty_35 rfl rfl rfl rfl rfl rfl rfl rfl) ?_
    rintro _ _ _ ⟨rfl, rfl⟩ _
    refine JL.q (OpP.q (p_assign rfl)) ?_
    refine JL.nil ?_
    refine Js.ret (R := RO w (Ty.tup [Ty.agg (cGame ((M.undo g).1)), Ty.int ((M.undo g).2)])) @Try.results38 (fun _ _ => rfl) (ResOk.cell (res_box (i := 0) ty_35 rfl rfl rfl rfl rfl) (ResOk.tmp rfl ResOk.nil)) (fun w1 hw => ?_)
    have hx := hw.ext (Up.refl _ _)
    exact ret_own (ps := []) hw hx ⟨_, rfl, ⟨_, _, rfl, ⟨_, rfl, ⟨_, _, rfl, ⟨by first | rfl | (rw [hE]; done) | (rw [hE]; rfl) | (rw [hE]; simp only [hcn]; done) | (rw [hE]; simp only [hcn]; rfl) | (rw [hE, hr9]; rfl) | (rw [hE]; exact hm9), rfl⟩, ⟨_, _, rfl, ⟨by first | rfl | (rw [hE]; done) | (rw [hE]; rfl) | (rw [hE]; simp only [hcn]; done) | (rw [hE]; simp only [hcn]; rfl) | (rw [hE, hr9]; rfl) | (rw [hE]; exact hm9), rfl⟩, ⟨_, _, rfl, ⟨by first | rfl | (rw [hE]; done) | (rw [hE]; rfl) | (rw [hE]; simp only [hcn]; done) | (rw [hE]; simp only [hcn]; rfl) | (rw [hE, hr9]; rfl) | (rw [hE]; exact hm9), rfl⟩, ⟨_, _, rfl, ⟨by first | rfl | (rw [hE]; done) | (rw [hE]; rfl) | (rw [hE]; simp only [hcn]; done) | (rw [hE]; simp only [hcn]; rfl) | (rw [hE, hr9]; rfl) | (rw [hE]; exact hm9), rfl⟩, ⟨_, _, rfl, ⟨by first | rfl | (rw [hE]; done) | (rw [hE]; rfl) | (rw [hE]; simp only [hcn]; done) | (rw [hE]; simp only [hcn]; rfl) | (rw [hE, hr9]; rfl) | (rw [hE]; exact hm9), rfl⟩, ⟨_, _, rfl, ⟨by first | rfl | (rw [hE]; done) | (rw [hE]; rfl) | (rw [hE]; simp only [hcn]; done) | (rw [hE]; simp only [hcn]; rfl) | (rw [hE, hr9]; rfl) | (rw [hE]; exact hm9), rfl⟩, ⟨_, _, rfl, ⟨by first | rfl | (rw [hE]; done) | (rw [hE]; rfl) | (rw [hE]; simp only [hcn]; done) | (rw [hE]; simp only [hcn]; rfl) | (rw [hE, hr9]; rfl) | (rw [hE]; exact hm9), rfl⟩, ⟨_, _, rfl, ⟨by first | rfl | (rw [hE]; done) | (rw [hE]; rfl) | (rw [hE]; simp only [hcn]; done) | (rw [hE]; simp only [hcn]; rfl) | (rw [hE, hr9]; rfl) | (rw [hE]; exact hm9), rfl⟩, ⟨_, _, rfl, ⟨by first | rfl | (rw [hE]; done) | (rw [hE]; rfl) | (rw [hE]; simp only [hcn]; done) | (rw [hE]; simp only [hcn]; rfl) | (rw [hE, hr9]; rfl) | (rw [hE]; exact hm9), rfl⟩, ⟨_, _, rfl, (ints_cast (show [] = (((M.undo g).1).start).pits by first | rfl | (rw [hE]; done) | (rw [hE]; rfl) | (rw [hE]; simp only [hcn]; done) | (rw [hE]; simp only [hcn]; rfl) | (rw [hE, hr9]; rfl) | (rw [hE]; exact hm9)) nil_own), ⟨_, _, rfl, (ints_cast (show [] = (((M.undo g).1).start).stores by first | rfl | (rw [hE]; done) | (rw [hE]; rfl) | (rw [hE]; simp only [hcn]; done) | (rw [hE]; simp only [hcn]; rfl) | (rw [hE, hr9]; rfl) | (rw [hE]; exact hm9)) nil_own), ⟨_, _, rfl, ⟨by first | rfl | (rw [hE]; done) | (rw [hE]; rfl) | (rw [hE]; simp only [hcn]; done) | (rw [hE]; simp only [hcn]; rfl) | (rw [hE, hr9]; rfl) | (rw [hE]; exact hm9), rfl⟩, ⟨_, _, rfl, (ints_cast (show [] = ((M.undo g).1).moves by first | rfl | (rw [hE]; done) | (rw [hE]; rfl) | (rw [hE]; simp only [hcn]; done) | (rw [hE]; simp only [hcn]; rfl) | (rw [hE, hr9]; rfl) | (rw [hE]; exact hm9)) nil_own), ⟨_, _, rfl, (ints_cast (show [] = (((M.undo g).1).now).pits by first | rfl | (rw [hE]; done) | (rw [hE]; rfl) | (rw [hE]; simp only [hcn]; done) | (rw [hE]; simp only [hcn]; rfl) | (rw [hE, hr9]; rfl) | (rw [hE]; exact hm9)) nil_own), ⟨_, _, rfl, (ints_cast (show [] = (((M.undo g).1).now).stores by first | rfl | (rw [hE]; done) | (rw [hE]; rfl) | (rw [hE]; simp only [hcn]; done) | (rw [hE]; simp only [hcn]; rfl) | (rw [hE, hr9]; rfl) | (rw [hE]; exact hm9)) nil_own), ⟨_, _, rfl, ⟨by first | rfl | (rw [hE]; done) | (rw [hE]; rfl) | (rw [hE]; simp only [hcn]; done) | (rw [hE]; simp only [hcn]; rfl) | (rw [hE, hr9]; rfl) | (rw [hE]; exact hm9), rfl⟩, ⟨_, _, rfl, ⟨by first | rfl | (rw [hE]; done) | (rw [hE]; rfl) | (rw [hE]; simp only [hcn]; done) | (rw [hE]; simp only [hcn]; rfl) | (rw [hE, hr9]; rfl) | (rw [hE]; exact hm9), rfl⟩, rfl⟩⟩⟩⟩⟩⟩⟩⟩⟩⟩⟩⟩⟩⟩⟩⟩⟩⟩, ⟨_, _, rfl, ⟨by first | rfl | (rw [hE]; done) | (rw [hE]; rfl) | (rw [hE]; simp only [hcn]; done) | (rw [hE]; simp only [hcn]; rfl) | (rw [hE, hr9]; rfl) | (rw [hE]; exact hm9), rfl⟩, rfl⟩⟩⟩ Pick.nil (by simp [List.flatten, outV])
  ·
    have h4' := h4
    try simp only [Bool.not_eq_false'] at h4'
    have hok : M.okG g = true := by simpa using h4
    obtain ⟨k1, k2, k3, k4, k5, k6, k7, k8, k9⟩ := M.okG_parts hok
    refine Js.skip ?_
    refine Js.seq ?_
    refine Js.region ?_
    refine JL.q (OpP.q (p_fieldAddr fld_35_2 rfl)) ?_
    refine JL.q (q_load1 ty_24 rfl (Mem.box (i := 1) rfl rfl)) ?_
    refine JL.q (OpP.q (p_len el_24 rfl)) ?_
    refine JL.q (OpP.q (p_assign rfl)) ?_
    refine JL.nil ?_
    refine Js.seq ?_
    refine Js.seq ?_
    refine Js.region ?_
    refine JL.q (OpP.q (p_move rfl)) ?_
    refine JL.q (OpP.q (p_eql rfl rfl)) ?_
    refine JL.q (OpP.q (p_move rfl)) ?_
    refine JL.g (Gd.f1 rfl rfl rfl) (fun hc => OpP.q (p_fieldAddr fld_35_4 rfl)) ?_
    refine JL.g (Gd.f1 rfl rfl rfl) (fun hc => q_load1 ty_2 (gvt rfl hc) (Mem.box (i := 1) rfl rfl)) ?_
    refine JL.g (Gd.f1 rfl rfl rfl) (fun hc => OpP.q (p_geq (gvt rfl hc) rfl)) ?_
    refine JL.q (OpP.q (p_pickOr rfl rfl rfl)) ?_
    refine JL.nil ?_
    refine Js.cond rfl (fun h5 => ?_) (fun h5 => ?_)
    ·
      have h5' := h5
      try simp only [Bool.or_eq_true, decide_eq_true_eq] at h5'
      have hE := M.undo_6 hok (by have := h5'; omega)
      refine Js.seq ?_
      refine Js.region ?_
      refine JL.q (OpP.q (p_build zero_35 flds_35 rfl rfl)) ?_
      refine JL.s (e_store (i := 0) (c' := [.int .i64 0, .int .i64 0, .bool false, .bool false, .bool false, .bool false, .bool false, .int .i64 0, .int .i64 0, .slice none 0 0, .slice none 0 0, .int .i64 0, .slice none 0 0, .slice none 0 0, .slice none 0 0, .int .i64 0, .int .i64 0]) ty_35 rfl rfl rfl rfl rfl rfl rfl rfl) ?_
      rintro _ _ _ ⟨rfl, rfl⟩ _
      refine JL.q (OpP.q (p_assign rfl)) ?_
      refine JL.nil ?_
      refine Js.ret (R := RO w (Ty.tup [Ty.agg (cGame ((M.undo g).1)), Ty.int ((M.undo g).2)])) @Try.results38 (fun _ _ => rfl) (ResOk.cell (res_box (i := 0) ty_35 rfl rfl rfl rfl rfl) (ResOk.tmp rfl ResOk.nil)) (fun w1 hw => ?_)
      have hx := hw.ext (Up.refl _ _)
      exact ret_own (ps := []) hw hx ⟨_, rfl, ⟨_, _, rfl, ⟨_, rfl, ⟨_, _, rfl, ⟨by first | rfl | (rw [hE]; done) | (rw [hE]; rfl) | (rw [hE]; simp only [hcn]; done) | (rw [hE]; simp only [hcn]; rfl) | (rw [hE, hr9]; rfl) | (rw [hE]; exact hm9), rfl⟩, ⟨_, _, rfl, ⟨by first | rfl | (rw [hE]; done) | (rw [hE]; rfl) | (rw [hE]; simp only [hcn]; done) | (rw [hE]; simp only [hcn]; rfl) | (rw [hE, hr9]; rfl) | (rw [hE]; exact hm9), rfl⟩, ⟨_, _, rfl, ⟨by first | rfl | (rw [hE]; done) | (rw [hE]; rfl) | (rw [hE]; simp only [hcn]; done) | (rw [hE]; simp only [hcn]; rfl) | (rw [hE, hr9]; rfl) | (rw [hE]; exact hm9), rfl⟩, ⟨_, _, rfl, ⟨by first | rfl | (rw [hE]; done) | (rw [hE]; rfl) | (rw [hE]; simp only [hcn]; done) | (rw [hE]; simp only [hcn]; rfl) | (rw [hE, hr9]; rfl) | (rw [hE]; exact hm9), rfl⟩, ⟨_, _, rfl, ⟨by first | rfl | (rw [hE]; done) | (rw [hE]; rfl) | (rw [hE]; simp only [hcn]; done) | (rw [hE]; simp only [hcn]; rfl) | (rw [hE, hr9]; rfl) | (rw [hE]; exact hm9), rfl⟩, ⟨_, _, rfl, ⟨by first | rfl | (rw [hE]; done) | (rw [hE]; rfl) | (rw [hE]; simp only [hcn]; done) | (rw [hE]; simp only [hcn]; rfl) | (rw [hE, hr9]; rfl) | (rw [hE]; exact hm9), rfl⟩, ⟨_, _, rfl, ⟨by first | rfl | (rw [hE]; done) | (rw [hE]; rfl) | (rw [hE]; simp only [hcn]; done) | (rw [hE]; simp only [hcn]; rfl) | (rw [hE, hr9]; rfl) | (rw [hE]; exact hm9), rfl⟩, ⟨_, _, rfl, ⟨by first | rfl | (rw [hE]; done) | (rw [hE]; rfl) | (rw [hE]; simp only [hcn]; done) | (rw [hE]; simp only [hcn]; rfl) | (rw [hE, hr9]; rfl) | (rw [hE]; exact hm9), rfl⟩, ⟨_, _, rfl, ⟨by first | rfl | (rw [hE]; done) | (rw [hE]; rfl) | (rw [hE]; simp only [hcn]; done) | (rw [hE]; simp only [hcn]; rfl) | (rw [hE, hr9]; rfl) | (rw [hE]; exact hm9), rfl⟩, ⟨_, _, rfl, (ints_cast (show [] = (((M.undo g).1).start).pits by first | rfl | (rw [hE]; done) | (rw [hE]; rfl) | (rw [hE]; simp only [hcn]; done) | (rw [hE]; simp only [hcn]; rfl) | (rw [hE, hr9]; rfl) | (rw [hE]; exact hm9)) nil_own), ⟨_, _, rfl, (ints_cast (show [] = (((M.undo g).1).start).stores by first | rfl | (rw [hE]; done) | (rw [hE]; rfl) | (rw [hE]; simp only [hcn]; done) | (rw [hE]; simp only [hcn]; rfl) | (rw [hE, hr9]; rfl) | (rw [hE]; exact hm9)) nil_own), ⟨_, _, rfl, ⟨by first | rfl | (rw [hE]; done) | (rw [hE]; rfl) | (rw [hE]; simp only [hcn]; done) | (rw [hE]; simp only [hcn]; rfl) | (rw [hE, hr9]; rfl) | (rw [hE]; exact hm9), rfl⟩, ⟨_, _, rfl, (ints_cast (show [] = ((M.undo g).1).moves by first | rfl | (rw [hE]; done) | (rw [hE]; rfl) | (rw [hE]; simp only [hcn]; done) | (rw [hE]; simp only [hcn]; rfl) | (rw [hE, hr9]; rfl) | (rw [hE]; exact hm9)) nil_own), ⟨_, _, rfl, (ints_cast (show [] = (((M.undo g).1).now).pits by first | rfl | (rw [hE]; done) | (rw [hE]; rfl) | (rw [hE]; simp only [hcn]; done) | (rw [hE]; simp only [hcn]; rfl) | (rw [hE, hr9]; rfl) | (rw [hE]; exact hm9)) nil_own), ⟨_, _, rfl, (ints_cast (show [] = (((M.undo g).1).now).stores by first | rfl | (rw [hE]; done) | (rw [hE]; rfl) | (rw [hE]; simp only [hcn]; done) | (rw [hE]; simp only [hcn]; rfl) | (rw [hE, hr9]; rfl) | (rw [hE]; exact hm9)) nil_own), ⟨_, _, rfl, ⟨by first | rfl | (rw [hE]; done) | (rw [hE]; rfl) | (rw [hE]; simp only [hcn]; done) | (rw [hE]; simp only [hcn]; rfl) | (rw [hE, hr9]; rfl) | (rw [hE]; exact hm9), rfl⟩, ⟨_, _, rfl, ⟨by first | rfl | (rw [hE]; done) | (rw [hE]; rfl) | (rw [hE]; simp only [hcn]; done) | (rw [hE]; simp only [hcn]; rfl) | (rw [hE, hr9]; rfl) | (rw [hE]; exact hm9), rfl⟩, rfl⟩⟩⟩⟩⟩⟩⟩⟩⟩⟩⟩⟩⟩⟩⟩⟩⟩⟩, ⟨_, _, rfl, ⟨by first | rfl | (rw [hE]; done) | (rw [hE]; rfl) | (rw [hE]; simp only [hcn]; done) | (rw [hE]; simp only [hcn]; rfl) | (rw [hE, hr9]; rfl) | (rw [hE]; exact hm9), rfl⟩, rfl⟩⟩⟩ Pick.nil (by simp [List.flatten, outV])
    ·
      have h5' := h5
      try simp only [Bool.or_eq_false_iff, decide_eq_false_iff_not, Int.not_le] at h5'
      have hq9 := h5'
      have hE := M.undo_0 hok (by omega)
      have hr9 : g.resigned = -1 := by omega
      have hm9 : (g.moves.drop 0).take (((g.moves.length : Int) - 1).toNat - 0) = g.moves.take ((g.moves.length : Int) - 1).toNat := by simp
      have hcp := M.cut_played hok (n := ((g.moves.length : Int) - 1).toNat) (by omega)
      refine Js.skip ?_
      refine Js.seq ?_
      refine Js.region ?_
      refine JL.e (e_callO fn_77 rfl (Spl.agg (Spls.cons (Spl.val _) (Spls.cons (Spl.val _) (Spls.cons (Spl.val _) (Spls.cons (Spl.val _) (Spls.cons (Spl.val _) (Spls.cons (Spl.val _) (Spls.cons (Spl.val _) (Spls.cons (Spl.val _) (Spls.cons (Spl.val _) (Spls.cons (Spl.ints _ _) (Spls.cons (Spl.ints _ _) (Spls.cons (Spl.val _) (Spls.cons (Spl.ints _ _) (Spls.cons (Spl.ints _ _) (Spls.cons (Spl.ints _ _) (Spls.cons (Spl.val _) (Spls.cons (Spl.val _) Spls.nil)))))))))))))))))) (fun w hw => c_spec_l08Own g _ w ⟨_, _, [.int .i64 g.rules.pits, .int .i64 g.rules.seeds, .bool g.rules.stores, .bool g.rules.skip, .bool g.rules.relay, .bool g.rules.feed, .bool g.rules.again, .int .i64 g.rules.capture, .int .i64 g.rules.slam, .slice A1_9 g.start.pits.length c1_9, .slice A1_10 g.start.stores.length c1_10, .int .i64 g.start.player, .slice A1_12 g.moves.length c1_12, .slice A1_13 g.now.pits.length c1_13, .slice A1_14 g.now.stores.length c1_14, .int .i64 g.now.player, .int .i64 g.resigned], rfl, ⟨rfl, rfl, rfl, rfl, rfl, rfl, rfl, rfl, rfl, (Ty.mono _ h1_9 hw.vis), (Ty.mono _ h1_10 hw.vis), rfl, (Ty.mono _ h1_12 hw.vis), (Ty.mono _ h1_13 hw.vis), (Ty.mono _ h1_14 hw.vis), rfl, rfl, trivial⟩, Mem.boxR (i := 1) rfl 0 17 w hw⟩ (by omega) (by omega) (by omega) (by omega) (by omega))) ?_
      rintro v6 _ _ ⟨_, hR7, rfl, rfl⟩ _
      obtain ⟨vs8, rfl, hr8⟩ := hR7
      obtain ⟨v8_0, vs8_0, o8_0, ow8_0, rfl, hR8_0, hs8_0, rfl⟩ := RL_cons hr8
      obtain ⟨v8_1, vs8_1, o8_1, ow8_1, rfl, hR8_1, hs8_1, rfl⟩ := RL_cons hs8_0
      obtain ⟨v8_2, vs8_2, o8_2, ow8_2, rfl, hR8_2, hs8_2, rfl⟩ := RL_cons hs8_1
      obtain ⟨v8_3, vs8_3, o8_3, ow8_3, rfl, hR8_3, hs8_3, rfl⟩ := RL_cons hs8_2
      obtain ⟨v8_4, vs8_4, o8_4, ow8_4, rfl, hR8_4, hs8_4, rfl⟩ := RL_cons hs8_3
      obtain ⟨v8_5, vs8_5, o8_5, ow8_5, rfl, hR8_5, hs8_5, rfl⟩ := RL_cons hs8_4
      obtain ⟨v8_6, vs8_6, o8_6, ow8_6, rfl, hR8_6, hs8_6, rfl⟩ := RL_cons hs8_5
      obtain ⟨v8_7, vs8_7, o8_7, ow8_7, rfl, hR8_7, hs8_7, rfl⟩ := RL_cons hs8_6
      obtain ⟨v8_8, vs8_8, o8_8, ow8_8, rfl, hR8_8, hs8_8, rfl⟩ := RL_cons hs8_7
      obtain ⟨v8_9, vs8_9, o8_9, ow8_9, rfl, hR8_9, hs8_9, rfl⟩ := RL_cons hs8_8
      obtain ⟨v8_10, vs8_10, o8_10, ow8_10, rfl, hR8_10, hs8_10, rfl⟩ := RL_cons hs8_9
      obtain ⟨v8_11, vs8_11, o8_11, ow8_11, rfl, hR8_11, hs8_11, rfl⟩ := RL_cons hs8_10
      obtain ⟨v8_12, vs8_12, o8_12, ow8_12, rfl, hR8_12, hs8_12, rfl⟩ := RL_cons hs8_11
      obtain ⟨v8_13, vs8_13, o8_13, ow8_13, rfl, hR8_13, hs8_13, rfl⟩ := RL_cons hs8_12
      obtain ⟨v8_14, vs8_14, o8_14, ow8_14, rfl, hR8_14, hs8_14, rfl⟩ := RL_cons hs8_13
      obtain ⟨v8_15, vs8_15, o8_15, ow8_15, rfl, hR8_15, hs8_15, rfl⟩ := RL_cons hs8_14
      obtain ⟨v8_16, vs8_16, o8_16, ow8_16, rfl, hR8_16, hs8_16, rfl⟩ := RL_cons hs8_15
      obtain ⟨rfl, rfl⟩ := RL_nil hs8_16
      obtain ⟨rfl, rfl⟩ : v8_0 = .int .i64 g.rules.pits ∧ _ := hR8_0
      obtain ⟨rfl, rfl⟩ : v8_1 = .int .i64 g.rules.seeds ∧ _ := hR8_1
      obtain ⟨rfl, rfl⟩ : v8_2 = .bool g.rules.stores ∧ _ := hR8_2
      obtain ⟨rfl, rfl⟩ : v8_3 = .bool g.rules.skip ∧ _ := hR8_3
      obtain ⟨rfl, rfl⟩ : v8_4 = .bool g.rules.relay ∧ _ := hR8_4
      obtain ⟨rfl, rfl⟩ : v8_5 = .bool g.rules.feed ∧ _ := hR8_5
      obtain ⟨rfl, rfl⟩ : v8_6 = .bool g.rules.again ∧ _ := hR8_6
      obtain ⟨rfl, rfl⟩ : v8_7 = .int .i64 g.rules.capture ∧ _ := hR8_7
      obtain ⟨rfl, rfl⟩ : v8_8 = .int .i64 g.rules.slam ∧ _ := hR8_8
      obtain ⟨A9, c9, rfl, rfl, bl9, bh9⟩ := hR8_9
      obtain ⟨A10, c10, rfl, rfl, bl10, bh10⟩ := hR8_10
      obtain ⟨rfl, rfl⟩ : v8_11 = .int .i64 g.start.player ∧ _ := hR8_11
      obtain ⟨A11, c11, rfl, rfl, bl11, bh11⟩ := hR8_12
      obtain ⟨A12, c12, rfl, rfl, bl12, bh12⟩ := hR8_13
      obtain ⟨A13, c13, rfl, rfl, bl13, bh13⟩ := hR8_14
      obtain ⟨rfl, rfl⟩ : v8_15 = .int .i64 g.now.player ∧ _ := hR8_15
      obtain ⟨rfl, rfl⟩ : v8_16 = .int .i64 g.resigned ∧ _ := hR8_16
      refine JL.e (e_alloc zero_35) ?_
      rintro _ _ _ ⟨b14, rfl, rfl, rfl⟩ _
      refine JL.s (e_store (i := 0) (c' := [.int .i64 g.rules.pits, .int .i64 g.rules.seeds, .bool g.rules.stores, .bool g.rules.skip, .bool g.rules.relay, .bool g.rules.feed, .bool g.rules.again, .int .i64 g.rules.capture, .int .i64 g.rules.slam, .slice A9 g.start.pits.length c9, .slice A10 g.start.stores.length c10, .int .i64 g.start.player, .slice A11 g.moves.length c11, .slice A12 g.now.pits.length c12, .slice A13 g.now.stores.length c13, .int .i64 g.now.player, .int .i64 g.resigned]) ty_35 rfl rfl rfl rfl rfl rfl rfl rfl) ?_
      rintro _ _ _ ⟨rfl, rfl⟩ _
      refine JL.nil ?_
      refine Js.seq ?_
      refine Js.region ?_
      refine JL.q (OpP.q (p_fieldAddr fld_35_2 rfl)) ?_
      refine JL.q (q_load1 ty_24 rfl (Mem.box (i := 7) rfl rfl)) ?_
      refine JL.q (OpP.q (p_move rfl)) ?_
      refine JL.q (OpP.q (p_sub rfl rfl (IntWalk.i64_in _ (by omega)))) ?_
      have hs15 := ints_cut (a := 0) (b := ((g.moves.length : Int) - 1).toNat) (m := c1_12) h1_12 (by omega) (by omega) (by omega) (by omega)
      have hl15 : ((g.moves.drop 0).take ((((g.moves.length : Int) - 1).toNat) - 0)).length = (((g.moves.length : Int) - 1).toNat) - 0 := by rw [List.length_take, List.length_drop]; omega
      refine JL.q (OpP.q (p_slice (lo' := 0) (hi' := ((g.moves.length : Int) - 1).toNat) (mx' := c1_12) el_24 rfl rfl ⟨_, by rw [Int.toNat_of_nonneg (by omega)]; exact rfl, by omega⟩ rfl)) ?_
      refine JL.e (e_callO fn_80 rfl (Spl.ints _ _) (fun w hw => c_spec_l00Own ((g.moves.drop 0).take ((((g.moves.length : Int) - 1).toNat) - 0)) _ w (Ty.mono _ hs15 hw.vis) (by omega))) ?_
      rintro v16 _ _ ⟨_, hR17, rfl, rfl⟩ _
      obtain ⟨A18, c18, rfl, rfl, bl18, bh18⟩ := hR17
      refine JL.q (OpP.q (p_fieldAddr fld_35_2 rfl)) ?_
      refine JL.s (e_store (i := 1) (c' := [.int .i64 g.rules.pits, .int .i64 g.rules.seeds, .bool g.rules.stores, .bool g.rules.skip, .bool g.rules.relay, .bool g.rules.feed, .bool g.rules.again, .int .i64 g.rules.capture, .int .i64 g.rules.slam, .slice A9 g.start.pits.length c9, .slice A10 g.start.stores.length c10, .int .i64 g.start.player, .slice A18 (((g.moves.drop 0).take ((((g.moves.length : Int) - 1).toNat) - 0)).length) c18, .slice A12 g.now.pits.length c12, .slice A13 g.now.stores.length c13, .int .i64 g.now.player, .int .i64 g.resigned]) ty_24 rfl rfl rfl rfl rfl rfl rfl rfl) ?_
      rintro _ _ _ ⟨rfl, rfl⟩ _
      refine JL.nil ?_
      refine Js.seq ?_
      refine Js.region ?_
      refine JL.q (OpP.q (p_fieldAddr fld_35_0 rfl)) ?_
      refine JL.q (OpP.q (p_fieldAddr fld_35_1 rfl)) ?_
      refine JL.q (OpP.q (p_fieldAddr fld_35_2 rfl)) ?_
      refine JL.q (q_load1 ty_24 rfl (Mem.box (i := 1) rfl rfl)) ?_
      refine JL.e (e_callP fn_75 rfl (fun w hw => c_spec_l08Run g.rules _ g.start _ ((g.moves.drop 0).take ((((g.moves.length : Int) - 1).toNat) - 0)) _ w ⟨_, _, [.int .i64 g.rules.pits, .int .i64 g.rules.seeds, .bool g.rules.stores, .bool g.rules.skip, .bool g.rules.relay, .bool g.rules.feed, .bool g.rules.again, .int .i64 g.rules.capture, .int .i64 g.rules.slam], rfl, ⟨rfl, rfl, rfl, rfl, rfl, rfl, rfl, rfl, rfl, trivial⟩, Mem.boxR (i := 8) rfl 0 9 w hw⟩ ⟨_, _, [.slice A1_9 g.start.pits.length c1_9, .slice A1_10 g.start.stores.length c1_10, .int .i64 g.start.player], rfl, ⟨(Ty.mono _ h1_9 hw.vis), (Ty.mono _ h1_10 hw.vis), rfl, trivial⟩, Mem.boxR (i := 8) rfl 9 3 w hw⟩ (ints_rowok (xs := ((g.moves.drop 0).take ((((g.moves.length : Int) - 1).toNat) - 0))) (hw.pr (i := 0) rfl)) (by omega) (by omega) (by omega))) ?_
      rintro v19 _ u21 ⟨h20, rfl⟩ x21
      obtain ⟨vs22, rfl, hv22⟩ := h20
      obtain ⟨v22_0, vs22, rfl, hw22_0, hv22⟩ := cellsOk_cons hv22
      obtain ⟨v22_1, vs22, rfl, hw22_1, hv22⟩ := cellsOk_cons hv22
      obtain rfl := cellsOk_nil hv22
      obtain ⟨A23, c23, rfl, bl23, bh23⟩ := sl_form hw22_0
      obtain ⟨A24, c24, rfl, bl24, bh24⟩ := sl_form hw22_1
      refine JL.q (OpP.q (p_move rfl)) ?_
      refine JL.q (OpP.q (p_extract rfl rfl)) ?_
      refine JL.q (OpP.q (p_extract rfl rfl)) ?_
      refine JL.q (OpP.q (p_assign rfl)) ?_
      refine JL.q (OpP.q (p_assign rfl)) ?_
      refine JL.nil ?_
      refine Js.seq ?_
      have hll9 : (M.hist g.start (M.runs g.rules g.start ((g.moves.drop 0).take ((((g.moves.length : Int) - 1).toNat) - 0)))).length = ((g.moves.length : Int) - 1).toNat + 1 := by rw [hm9, hcp.2.2, M.hist_length, List.length_take]; omega
      obtain ⟨y25, hy25⟩ : ∃ x, (M.hist g.start (M.runs g.rules g.start ((g.moves.drop 0).take ((((g.moves.length : Int) - 1).toNat) - 0))))[((g.moves.length : Int) - 1).toNat]? = some x := ⟨_, List.getElem?_eq_getElem (by omega)⟩
      have hcn : (M.cutG g ((g.moves.length : Int) - 1).toNat).now = y25 := M.undo_get hok (by omega) (by rw [← hm9]; exact hy25)
      have hyl9 := M.okP_len (M.hist_okG hok (by rw [M.cut_get hok (n := ((g.moves.length : Int) - 1).toNat) (by omega), hcn]))
      refine Js.region ?_
      refine JL.q (OpP.q (p_move rfl)) ?_
      refine JL.q (OpP.q (p_move rfl)) ?_
      refine JL.q (OpP.q (p_sub rfl rfl (IntWalk.i64_in _ (by omega)))) ?_
      have hy26 := hy25
      obtain ⟨b26, o26, A26_0, c26_0, A26_1, c26_1, he26, hr26, h26_0, h26_1, bl26_0, bh26_0, bl26_1, bh26_1⟩ := elem_Position hw22_0 hy26
      refine JL.q (OpP.q (p_indexAddr el_44 rfl rfl (by omega) (by omega) he26)) ?_
      refine JL.e (e_callO fn_81 rfl (Spl.agg (Spls.cons (Spl.ints _ _) (Spls.cons (Spl.ints _ _) (Spls.cons (Spl.val _) Spls.nil)))) (fun w hw => c_spec_l04Own y25 _ w ⟨_, _, [.slice A26_0 y25.pits.length c26_0, .slice A26_1 y25.stores.length c26_1, .int .i64 y25.player], rfl, ⟨(Ty.mono _ h26_0 hw.vis), (Ty.mono _ h26_1 hw.vis), rfl, trivial⟩, (hr26.vis hw.vis)⟩ (by omega) (by omega))) ?_
      rintro v27 _ _ ⟨_, hR28, rfl, rfl⟩ _
      obtain ⟨vs29, rfl, hr29⟩ := hR28
      obtain ⟨v29_0, vs29_0, o29_0, ow29_0, rfl, hR29_0, hs29_0, rfl⟩ := RL_cons hr29
      obtain ⟨v29_1, vs29_1, o29_1, ow29_1, rfl, hR29_1, hs29_1, rfl⟩ := RL_cons hs29_0
      obtain ⟨v29_2, vs29_2, o29_2, ow29_2, rfl, hR29_2, hs29_2, rfl⟩ := RL_cons hs29_1
      obtain ⟨rfl, rfl⟩ := RL_nil hs29_2
      obtain ⟨A30, c30, rfl, rfl, bl30, bh30⟩ := hR29_0
      obtain ⟨A31, c31, rfl, rfl, bl31, bh31⟩ := hR29_1
      obtain ⟨rfl, rfl⟩ : v29_2 = .int .i64 y25.player ∧ _ := hR29_2
      refine JL.q (OpP.q (p_fieldAddr fld_35_3 rfl)) ?_
      refine JL.s (e_store (i := 3) (c' := [.int .i64 g.rules.pits, .int .i64 g.rules.seeds, .bool g.rules.stores, .bool g.rules.skip, .bool g.rules.relay, .bool g.rules.feed, .bool g.rules.again, .int .i64 g.rules.capture, .int .i64 g.rules.slam, .slice A9 g.start.pits.length c9, .slice A10 g.start.stores.length c10, .int .i64 g.start.player, .slice A18 (((g.moves.drop 0).take ((((g.moves.length : Int) - 1).toNat) - 0)).length) c18, .slice A30 y25.pits.length c30, .slice A31 y25.stores.length c31, .int .i64 y25.player, .int .i64 g.resigned]) ty_33 rfl rfl rfl rfl rfl rfl rfl rfl) ?_
      rintro _ _ _ ⟨rfl, rfl⟩ _
      refine JL.nil ?_
      refine Js.seq ?_
      refine Js.region ?_
      refine JL.q (q_loadN ty_35 rfl (Mem.boxR (i := 3) rfl 0 17) rfl rfl) ?_
      refine JL.s (e_store (i := 9) (c' := [.int .i64 g.rules.pits, .int .i64 g.rules.seeds, .bool g.rules.stores, .bool g.rules.skip, .bool g.rules.relay, .bool g.rules.feed, .bool g.rules.again, .int .i64 g.rules.capture, .int .i64 g.rules.slam, .slice A9 g.start.pits.length c9, .slice A10 g.start.stores.length c10, .int .i64 g.start.player, .slice A18 (((g.moves.drop 0).take ((((g.moves.length : Int) - 1).toNat) - 0)).length) c18, .slice A30 y25.pits.length c30, .slice A31 y25.stores.length c31, .int .i64 y25.player, .int .i64 g.resigned]) ty_35 rfl rfl rfl rfl rfl rfl rfl rfl) ?_
      rintro _ _ _ ⟨rfl, rfl⟩ _
      refine JL.q (OpP.q (p_assign rfl)) ?_
      refine JL.nil ?_
      refine Js.ret (R := RO w (Ty.tup [Ty.agg (cGame ((M.undo g).1)), Ty.int ((M.undo g).2)])) @Try.results38 (fun _ _ => rfl) (ResOk.cell (res_box (i := 9) ty_35 rfl rfl rfl rfl rfl) (ResOk.tmp rfl ResOk.nil)) (fun w1 hw => ?_)
      have hx := hw.ext (x21)
      exact ret_own (ps := [(4, (Value.ownBlock (.slice A9 g.start.pits.length c9)).toList), (5, (Value.ownBlock (.slice A10 g.start.stores.length c10)).toList), (2, (Value.ownBlock (.slice A18 (((g.moves.drop 0).take ((((g.moves.length : Int) - 1).toNat) - 0)).length) c18)).toList), (0, (Value.ownBlock (.slice A30 y25.pits.length c30)).toList), (1, (Value.ownBlock (.slice A31 y25.stores.length c31)).toList)]) hw hx ⟨_, rfl, ⟨_, _, rfl, ⟨_, rfl, ⟨_, _, rfl, ⟨by first | rfl | (rw [hE]; done) | (rw [hE]; rfl) | (rw [hE]; simp only [hcn]; done) | (rw [hE]; simp only [hcn]; rfl) | (rw [hE, hr9]; rfl) | (rw [hE]; exact hm9), rfl⟩, ⟨_, _, rfl, ⟨by first | rfl | (rw [hE]; done) | (rw [hE]; rfl) | (rw [hE]; simp only [hcn]; done) | (rw [hE]; simp only [hcn]; rfl) | (rw [hE, hr9]; rfl) | (rw [hE]; exact hm9), rfl⟩, ⟨_, _, rfl, ⟨by first | rfl | (rw [hE]; done) | (rw [hE]; rfl) | (rw [hE]; simp only [hcn]; done) | (rw [hE]; simp only [hcn]; rfl) | (rw [hE, hr9]; rfl) | (rw [hE]; exact hm9), rfl⟩, ⟨_, _, rfl, ⟨by first | rfl | (rw [hE]; done) | (rw [hE]; rfl) | (rw [hE]; simp only [hcn]; done) | (rw [hE]; simp only [hcn]; rfl) | (rw [hE, hr9]; rfl) | (rw [hE]; exact hm9), rfl⟩, ⟨_, _, rfl, ⟨by first | rfl | (rw [hE]; done) | (rw [hE]; rfl) | (rw [hE]; simp only [hcn]; done) | (rw [hE]; simp only [hcn]; rfl) | (rw [hE, hr9]; rfl) | (rw [hE]; exact hm9), rfl⟩, ⟨_, _, rfl, ⟨by first | rfl | (rw [hE]; done) | (rw [hE]; rfl) | (rw [hE]; simp only [hcn]; done) | (rw [hE]; simp only [hcn]; rfl) | (rw [hE, hr9]; rfl) | (rw [hE]; exact hm9), rfl⟩, ⟨_, _, rfl, ⟨by first | rfl | (rw [hE]; done) | (rw [hE]; rfl) | (rw [hE]; simp only [hcn]; done) | (rw [hE]; simp only [hcn]; rfl) | (rw [hE, hr9]; rfl) | (rw [hE]; exact hm9), rfl⟩, ⟨_, _, rfl, ⟨by first | rfl | (rw [hE]; done) | (rw [hE]; rfl) | (rw [hE]; simp only [hcn]; done) | (rw [hE]; simp only [hcn]; rfl) | (rw [hE, hr9]; rfl) | (rw [hE]; exact hm9), rfl⟩, ⟨_, _, rfl, ⟨by first | rfl | (rw [hE]; done) | (rw [hE]; rfl) | (rw [hE]; simp only [hcn]; done) | (rw [hE]; simp only [hcn]; rfl) | (rw [hE, hr9]; rfl) | (rw [hE]; exact hm9), rfl⟩, ⟨_, _, rfl, (ints_row (xs := g.start.pits) (hw.pr (i := 4) rfl) (show g.start.pits = (((M.undo g).1).start).pits by first | rfl | (rw [hE]; done) | (rw [hE]; rfl) | (rw [hE]; simp only [hcn]; done) | (rw [hE]; simp only [hcn]; rfl) | (rw [hE, hr9]; rfl) | (rw [hE]; exact hm9))), ⟨_, _, rfl, (ints_row (xs := g.start.stores) (hw.pr (i := 5) rfl) (show g.start.stores = (((M.undo g).1).start).stores by first | rfl | (rw [hE]; done) | (rw [hE]; rfl) | (rw [hE]; simp only [hcn]; done) | (rw [hE]; simp only [hcn]; rfl) | (rw [hE, hr9]; rfl) | (rw [hE]; exact hm9))), ⟨_, _, rfl, ⟨by first | rfl | (rw [hE]; done) | (rw [hE]; rfl) | (rw [hE]; simp only [hcn]; done) | (rw [hE]; simp only [hcn]; rfl) | (rw [hE, hr9]; rfl) | (rw [hE]; exact hm9), rfl⟩, ⟨_, _, rfl, (ints_row (xs := ((g.moves.drop 0).take ((((g.moves.length : Int) - 1).toNat) - 0))) (hw.pr (i := 2) rfl) (show ((g.moves.drop 0).take ((((g.moves.length : Int) - 1).toNat) - 0)) = ((M.undo g).1).moves by first | rfl | (rw [hE]; done) | (rw [hE]; rfl) | (rw [hE]; simp only [hcn]; done) | (rw [hE]; simp only [hcn]; rfl) | (rw [hE, hr9]; rfl) | (rw [hE]; exact hm9))), ⟨_, _, rfl, (ints_row (xs := y25.pits) (hw.pr (i := 0) rfl) (show y25.pits = (((M.undo g).1).now).pits by first | rfl | (rw [hE]; done) | (rw [hE]; rfl) | (rw [hE]; simp only [hcn]; done) | (rw [hE]; simp only [hcn]; rfl) | (rw [hE, hr9]; rfl) | (rw [hE]; exact hm9))), ⟨_, _, rfl, (ints_row (xs := y25.stores) (hw.pr (i := 1) rfl) (show y25.stores = (((M.undo g).1).now).stores by first | rfl | (rw [hE]; done) | (rw [hE]; rfl) | (rw [hE]; simp only [hcn]; done) | (rw [hE]; simp only [hcn]; rfl) | (rw [hE, hr9]; rfl) | (rw [hE]; exact hm9))), ⟨_, _, rfl, ⟨by first | rfl | (rw [hE]; done) | (rw [hE]; rfl) | (rw [hE]; simp only [hcn]; done) | (rw [hE]; simp only [hcn]; rfl) | (rw [hE, hr9]; rfl) | (rw [hE]; exact hm9), rfl⟩, ⟨_, _, rfl, ⟨by first | rfl | (rw [hE]; done) | (rw [hE]; rfl) | (rw [hE]; simp only [hcn]; done) | (rw [hE]; simp only [hcn]; rfl) | (rw [hE, hr9]; rfl) | (rw [hE]; exact hm9), rfl⟩, rfl⟩⟩⟩⟩⟩⟩⟩⟩⟩⟩⟩⟩⟩⟩⟩⟩⟩⟩, ⟨_, _, rfl, ⟨by first | rfl | (rw [hE]; done) | (rw [hE]; rfl) | (rw [hE]; simp only [hcn]; done) | (rw [hE]; simp only [hcn]; rfl) | (rw [hE, hr9]; rfl) | (rw [hE]; exact hm9), rfl⟩, rfl⟩⟩⟩ (Pick.cons (j := 4) rfl (List.sublist_append_left _ _) rfl (Pick.cons (j := 5) rfl (List.sublist_append_left _ _) rfl (Pick.cons (j := 2) rfl (List.sublist_append_left _ _) rfl (Pick.cons (j := 0) rfl (List.sublist_append_left _ _) rfl (Pick.cons (j := 1) rfl (List.sublist_append_left _ _) rfl Pick.nil))))) (by simp [List.flatten, outV])

end Go.Proofs.Ytejnmechnhgmfaa

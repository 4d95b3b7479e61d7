/- Walks: G11. -/
import Derived.Test.YtejnmechnhgmfaaTy
import Derived.Test.YtejnmechnhgmfaaG5
import Derived.Test.YtejnmechnhgmfaaM7
set_option linter.unusedSimpArgs false
set_option linter.unusedVariables false
namespace Go.Proofs.Ytejnmechnhgmfaa
open Go.RowKit

set_option maxRecDepth 100000 in
set_option maxHeartbeats 400000 in
theorem c_impl_HistoryOf (g : M.Gam) (v_g : Value) (w : World) (h_g : (Ty.agg (cGame g)).ok w v_g) (r0 : g.start.pits.length ≤ 4194304) (r1 : g.start.stores.length ≤ 4194304) (r2 : g.moves.length ≤ 4194304) (r3 : g.now.pits.length ≤ 4194304) (r4 : g.now.stores.length ≤ 4194304) : Ret Try.prog 31 [v_g] w (Ty.tup [Ty.sl 33 3 (M.histR g).length (lPosition (M.histR g)), Ty.int (M.okC g)]) := by
  obtain ⟨A1_9, c1_9, A1_10, c1_10, A1_12, c1_12, A1_13, c1_13, A1_14, c1_14, rfl, h1_9, h1_10, h1_12, h1_13, h1_14, bl1_9, bh1_9, bl1_10, bh1_10, bl1_12, bh1_12, bl1_13, bh1_13, bl1_14, bh1_14⟩ := open_Game h_g
  refine enter @Try.func31 @Try.ntmps31 rfl rfl ?_
  refine Js.seq ?_
  refine Js.region ?_
  refine JL.e (e_box (c := [.int .i64 g.rules.pits, .int .i64 g.rules.seeds, .bool g.rules.stores, .bool g.rules.skip, .bool g.rules.relay, .bool g.rules.feed, .bool g.rules.again, .int .i64 g.rules.capture, .int .i64 g.rules.slam, .slice A1_9 g.start.pits.length c1_9, .slice A1_10 g.start.stores.length c1_10, .int .i64 g.start.player, .slice A1_12 g.moves.length c1_12, .slice A1_13 g.now.pits.length c1_13, .slice A1_14 g.now.stores.length c1_14, .int .i64 g.now.player, .int .i64 g.resigned]) rfl rfl) ?_
  rintro _ _ _ ⟨b2, rfl, rfl, rfl⟩ _
  refine JL.q (OpP.q (p_assign rfl)) ?_
  refine JL.q (OpP.q (p_assign rfl)) ?_
  refine JL.nil ?_
  refine Js.seq ?_
  refine Js.seq ?_
  refine Js.region ?_
  refine JL.q (q_loadN ty_35 rfl (Mem.boxR (i := 0) rfl 0 17) rfl rfl) ?_
  refine JL.e (e_callV fn_62 rfl (fun w hw => c_impl_ValidGame g _ w ⟨_, rfl, ⟨rfl, rfl, rfl, rfl, rfl, rfl, rfl, rfl, rfl, (Ty.mono _ h1_9 hw.vis), (Ty.mono _ h1_10 hw.vis), rfl, (Ty.mono _ h1_12 hw.vis), (Ty.mono _ h1_13 hw.vis), (Ty.mono _ h1_14 hw.vis), rfl, rfl, trivial⟩⟩ (by omega) (by omega) (by omega) (by omega) (by omega))) ?_
  rintro _ _ _ ⟨rfl, rfl, rfl⟩ _
  refine JL.q (OpP.q (p_not rfl)) ?_
  refine JL.nil ?_
  refine Js.cond rfl (fun h3 => ?_) (fun h3 => ?_)
  ·
    have h3' := h3
    try simp only [Bool.not_eq_true'] at h3'
    have hno : M.okG g = false := by simpa using h3
    have hC := M.okC_no hno
    have hE := M.histR_no hno
    refine Js.seq ?_
    refine Js.region ?_
    refine JL.q (OpP.q (p_assign rfl)) ?_
    refine JL.q (OpP.q (p_assign rfl)) ?_
    refine JL.nil ?_
    refine Js.ret (R := RO w (Ty.tup [Ty.sl 33 3 (M.histR g).length (lPosition (M.histR g)), Ty.int (M.okC g)])) @Try.results31 (fun _ _ => rfl) (ResOk.tmp rfl (ResOk.tmp rfl ResOk.nil)) (fun w1 hw => ?_)
    have hx := hw.ext (Up.refl _ _)
    exact ret_own (ps := []) hw hx ⟨_, rfl, ⟨_, _, rfl, (snil_own lPosition (show [] = M.histR g by first | (rw [hE]; done) | (rw [hC]; done))), ⟨_, _, rfl, ⟨by first | (rw [hE]; done) | (rw [hC]; done), rfl⟩, rfl⟩⟩⟩ Pick.nil (by simp [List.flatten, outV])
  ·
    have h3' := h3
    try simp only [Bool.not_eq_false'] at h3'
    have hok : M.okG g = true := by simpa using h3
    have hC := M.okC_yes hok
    have hE := M.histR_yes hok
    refine Js.skip ?_
    refine Js.seq ?_
    refine Js.region ?_
    refine JL.q (q_loadN ty_35 rfl (Mem.boxR (i := 0) rfl 0 17) rfl rfl) ?_
    refine JL.e (e_callO fn_72 rfl (Spl.tup (Spls.cons (Spl.sl _ _ _ _) (Spls.cons (Spl.sl _ _ _ _) (Spls.cons (Spl.val _) Spls.nil)))) (fun w hw => c_impl_Game_played g _ w ⟨_, rfl, ⟨rfl, rfl, rfl, rfl, rfl, rfl, rfl, rfl, rfl, (Ty.mono _ h1_9 hw.vis), (Ty.mono _ h1_10 hw.vis), rfl, (Ty.mono _ h1_12 hw.vis), (Ty.mono _ h1_13 hw.vis), (Ty.mono _ h1_14 hw.vis), rfl, rfl, trivial⟩⟩ (by omega) (by omega) (by omega) (by omega) (by omega))) ?_
    rintro v4 _ _ ⟨_, hR5, rfl, rfl⟩ _
    obtain ⟨vs6, rfl, hr6⟩ := hR5
    obtain ⟨v6_0, vs6_0, o6_0, ow6_0, rfl, hR6_0, hs6_0, rfl⟩ := RL_cons hr6
    obtain ⟨v6_1, vs6_1, o6_1, ow6_1, rfl, hR6_1, hs6_1, rfl⟩ := RL_cons hs6_0
    obtain ⟨v6_2, vs6_2, o6_2, ow6_2, rfl, hR6_2, hs6_2, rfl⟩ := RL_cons hs6_1
    obtain ⟨rfl, rfl⟩ := RL_nil hs6_2
    obtain ⟨A7, c7, vs7, f7, rfl, rfl, bl7, bh7⟩ := hR6_0
    obtain ⟨A8, c8, vs8, f8, rfl, rfl, bl8, bh8⟩ := hR6_1
    obtain ⟨rfl, rfl⟩ : v6_2 = .bool (M.playedOk g) ∧ _ := hR6_2
    refine JL.q (OpP.q (p_move rfl)) ?_
    refine JL.q (OpP.q (p_extract rfl rfl)) ?_
    refine JL.q (OpP.q (p_extract rfl rfl)) ?_
    refine JL.q (OpP.q (p_extract rfl rfl)) ?_
    refine JL.q (OpP.q (p_assign rfl)) ?_
    refine JL.q (OpP.q (p_assign rfl)) ?_
    refine JL.q (OpP.q (p_assign rfl)) ?_
    refine JL.nil ?_
    refine Js.seq ?_
    refine Js.region ?_
    refine JL.q (OpP.q (p_move rfl)) ?_
    refine JL.q (OpP.q (p_assign rfl)) ?_
    refine JL.q (OpP.q (p_assign rfl)) ?_
    refine JL.nil ?_
    refine Js.ret (R := RO w (Ty.tup [Ty.sl 33 3 (M.histR g).length (lPosition (M.histR g)), Ty.int (M.okC g)])) @Try.results31 (fun _ _ => rfl) (ResOk.tmp rfl (ResOk.tmp rfl ResOk.nil)) (fun w1 hw => ?_)
    have hx := hw.ext (Up.refl _ _)
    exact ret_own (ps := [(0, (Value.ownBlock (.slice A7 ((M.playedP g).length) c7)).toList), (1, f7)]) hw hx ⟨_, rfl, ⟨_, _, rfl, (srow_own lPosition (hw.pr (i := 0) rfl) (hw.pr (i := 1) rfl) (lPosition_length _) (show M.playedP g = M.histR g by first | (rw [hE]; done) | (rw [hC]; done))), ⟨_, _, rfl, ⟨by first | (rw [hE]; done) | (rw [hC]; done), rfl⟩, rfl⟩⟩⟩ (Pick.cons (j := 0) rfl (List.sublist_append_left _ _) rfl (Pick.cons (j := 1) rfl (List.Sublist.refl _) rfl Pick.nil)) (by simp [List.flatten, outV])

end Go.Proofs.Ytejnmechnhgmfaa

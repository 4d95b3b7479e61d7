/- Walks: G12. -/
import Derived.Test.YtejnmechnhgmfaaZaTy
import Derived.Test.YtejnmechnhgmfaaZaG7
import Derived.Test.YtejnmechnhgmfaaZaF13
import Derived.Test.YtejnmechnhgmfaaZaM8
set_option linter.unusedSimpArgs false
set_option linter.unusedVariables false
namespace Go.Proofs.Ytejnmechnhgmfaa
open Go.RowKit

set_option maxRecDepth 100000 in
set_option maxHeartbeats 400000 in
theorem c_impl_Game_cut (g : M.Gam) (v_g : Value) (n : Int) (w : World) (h_g : (Ty.agg (cGame g)).ok w v_g) (r0 : g.start.pits.length ≤ 4194304) (r1 : g.start.stores.length ≤ 4194304) (r2 : g.moves.length ≤ 4194304) (r3 : g.now.pits.length ≤ 4194304) (r4 : g.now.stores.length ≤ 4194304) (r5 : M.okG g = true) (r6 : 0 ≤ n) (r7 : n ≤ g.moves.length) : Ret Try.prog 82 [v_g, .int .i64 n] w (Ty.agg (cGameL (M.cutG g n.toNat))) := by
  obtain ⟨k1, k2, k3, k4, k5, k6, k7, k8, k9⟩ := M.okG_parts r5
  have k10 : (M.playedP g).length = g.moves.length + 1 := by rw [k6, M.hist_length, k8]
  obtain ⟨A1_9, c1_9, A1_10, c1_10, A1_12, c1_12, A1_13, c1_13, A1_14, c1_14, rfl, h1_9, h1_10, h1_12, h1_13, h1_14, bl1_9, bh1_9, bl1_10, bh1_10, bl1_12, bh1_12, bl1_13, bh1_13, bl1_14, bh1_14⟩ := open_Game h_g
  refine enter @Try.func82 @Try.ntmps82 rfl rfl ?_
  refine Js.seq ?_
  refine Js.region ?_
  refine JL.e (e_box (c := [.int .i64 g.rules.pits, .int .i64 g.rules.seeds, .bool g.rules.stores, .bool g.rules.skip, .bool g.rules.relay, .bool g.rules.feed, .bool g.rules.again, .int .i64 g.rules.capture, .int .i64 g.rules.slam, .slice A1_9 g.start.pits.length c1_9, .slice A1_10 g.start.stores.length c1_10, .int .i64 g.start.player, .slice A1_12 g.moves.length c1_12, .slice A1_13 g.now.pits.length c1_13, .slice A1_14 g.now.stores.length c1_14, .int .i64 g.now.player, .int .i64 g.resigned]) rfl rfl) ?_
  rintro _ _ _ ⟨b2, rfl, rfl, rfl⟩ _
  refine JL.e (e_alloc zero_35) ?_
  rintro _ _ _ ⟨b3, rfl, rfl, rfl⟩ _
  refine JL.nil ?_
  refine Js.seq ?_
  refine Js.region ?_
  refine JL.q (q_loadN ty_35 rfl (Mem.boxR (i := 1) rfl 0 17) rfl rfl) ?_
  refine JL.e (e_callO fn_72 rfl (Spl.tup (Spls.cons (Spl.sl _ _ _ _) (Spls.cons (Spl.sl _ _ _ _) (Spls.cons (Spl.val _) Spls.nil)))) (fun w hw => c_impl_Game_played g _ w ⟨_, rfl, ⟨rfl, rfl, rfl, rfl, rfl, rfl, rfl, rfl, rfl, (Ty.mono _ h1_9 hw.vis), (Ty.mono _ h1_10 hw.vis), rfl, (Ty.mono _ h1_12 hw.vis), (Ty.mono _ h1_13 hw.vis), (Ty.mono _ h1_14 hw.vis), rfl, rfl, trivial⟩⟩ (by omega) (by omega) (by omega) (by omega) (by omega))) ?_
  rintro v4 _ _ ⟨_, hR5, rfl, rfl⟩ _
  obtain ⟨vs6, rfl, hr6⟩ := hR5
  obtain ⟨v6_0, vs6_0, o6_0, ow6_0, rfl, hR6_0, hs6_0, rfl⟩ := RL_cons hr6
  obtain ⟨v6_1, vs6_1, o6_1, ow6_1, rfl, hR6_1, hs6_1, rfl⟩ := RL_cons hs6_0
  obtain ⟨v6_2, vs6_2, o6_2, ow6_2, rfl, hR6_2, hs6_2, rfl⟩ := RL_cons hs6_1
  obtain ⟨rfl, rfl⟩ := RL_nil hs6_2
  obtain ⟨A7, c7, vs7, f7, rfl, rfl, bl7, bh7⟩ := hR6_0
  obtain ⟨A8, c8, vs8, f8, rfl, rfl, bl8, bh8⟩ := hR6_1
  obtain ⟨rfl, rfl⟩ : v6_2 = .bool (M.playedOk g) ∧ _ := hR6_2
  refine JL.q (OpP.q (p_move rfl)) ?_
  refine JL.q (OpP.q (p_extract rfl rfl)) ?_
  refine JL.q (OpP.q (p_extract rfl rfl)) ?_
  refine JL.q (OpP.q (p_extract rfl rfl)) ?_
  refine JL.q (OpP.q (p_assign rfl)) ?_
  refine JL.q (OpP.q (p_assign rfl)) ?_
  refine JL.q (OpP.q (p_assign rfl)) ?_
  refine JL.nil ?_
  refine Js.seq ?_
  refine Js.region ?_
  refine JL.q (q_loadN ty_35 rfl (Mem.boxR (i := 5) rfl 0 17) rfl rfl) ?_
  refine JL.e (e_callO fn_79 rfl (Spl.agg (Spls.cons (Spl.val _) (Spls.cons (Spl.val _) (Spls.cons (Spl.val _) (Spls.cons (Spl.val _) (Spls.cons (Spl.val _) (Spls.cons (Spl.val _) (Spls.cons (Spl.val _) (Spls.cons (Spl.val _) (Spls.cons (Spl.val _) (Spls.cons (Spl.ints _ _) (Spls.cons (Spl.ints _ _) (Spls.cons (Spl.val _) (Spls.cons (Spl.ints _ _) (Spls.cons (Spl.ints _ _) (Spls.cons (Spl.ints _ _) (Spls.cons (Spl.val _) (Spls.cons (Spl.val _) Spls.nil)))))))))))))))))) (fun w hw => c_impl_Game_copied g _ w ⟨_, rfl, ⟨rfl, rfl, rfl, rfl, rfl, rfl, rfl, rfl, rfl, (Ty.mono _ h1_9 hw.vis), (Ty.mono _ h1_10 hw.vis), rfl, (Ty.mono _ h1_12 hw.vis), (Ty.mono _ h1_13 hw.vis), (Ty.mono _ h1_14 hw.vis), rfl, rfl, trivial⟩⟩ (by omega) (by omega) (by omega) (by omega) (by omega))) ?_
  rintro v9 _ _ ⟨_, hR10, rfl, rfl⟩ _
  obtain ⟨vs11, rfl, hr11⟩ := hR10
  obtain ⟨v11_0, vs11_0, o11_0, ow11_0, rfl, hR11_0, hs11_0, rfl⟩ := RL_cons hr11
  obtain ⟨v11_1, vs11_1, o11_1, ow11_1, rfl, hR11_1, hs11_1, rfl⟩ := RL_cons hs11_0
  obtain ⟨v11_2, vs11_2, o11_2, ow11_2, rfl, hR11_2, hs11_2, rfl⟩ := RL_cons hs11_1
  obtain ⟨v11_3, vs11_3, o11_3, ow11_3, rfl, hR11_3, hs11_3, rfl⟩ := RL_cons hs11_2
  obtain ⟨v11_4, vs11_4, o11_4, ow11_4, rfl, hR11_4, hs11_4, rfl⟩ := RL_cons hs11_3
  obtain ⟨v11_5, vs11_5, o11_5, ow11_5, rfl, hR11_5, hs11_5, rfl⟩ := RL_cons hs11_4
  obtain ⟨v11_6, vs11_6, o11_6, ow11_6, rfl, hR11_6, hs11_6, rfl⟩ := RL_cons hs11_5
  obtain ⟨v11_7, vs11_7, o11_7, ow11_7, rfl, hR11_7, hs11_7, rfl⟩ := RL_cons hs11_6
  obtain ⟨v11_8, vs11_8, o11_8, ow11_8, rfl, hR11_8, hs11_8, rfl⟩ := RL_cons hs11_7
  obtain ⟨v11_9, vs11_9, o11_9, ow11_9, rfl, hR11_9, hs11_9, rfl⟩ := RL_cons hs11_8
  obtain ⟨v11_10, vs11_10, o11_10, ow11_10, rfl, hR11_10, hs11_10, rfl⟩ := RL_cons hs11_9
  obtain ⟨v11_11, vs11_11, o11_11, ow11_11, rfl, hR11_11, hs11_11, rfl⟩ := RL_cons hs11_10
  obtain ⟨v11_12, vs11_12, o11_12, ow11_12, rfl, hR11_12, hs11_12, rfl⟩ := RL_cons hs11_11
  obtain ⟨v11_13, vs11_13, o11_13, ow11_13, rfl, hR11_13, hs11_13, rfl⟩ := RL_cons hs11_12
  obtain ⟨v11_14, vs11_14, o11_14, ow11_14, rfl, hR11_14, hs11_14, rfl⟩ := RL_cons hs11_13
  obtain ⟨v11_15, vs11_15, o11_15, ow11_15, rfl, hR11_15, hs11_15, rfl⟩ := RL_cons hs11_14
  obtain ⟨v11_16, vs11_16, o11_16, ow11_16, rfl, hR11_16, hs11_16, rfl⟩ := RL_cons hs11_15
  obtain ⟨rfl, rfl⟩ := RL_nil hs11_16
  obtain ⟨rfl, rfl⟩ : v11_0 = .int .i64 g.rules.pits ∧ _ := hR11_0
  obtain ⟨rfl, rfl⟩ : v11_1 = .int .i64 g.rules.seeds ∧ _ := hR11_1
  obtain ⟨rfl, rfl⟩ : v11_2 = .bool g.rules.stores ∧ _ := hR11_2
  obtain ⟨rfl, rfl⟩ : v11_3 = .bool g.rules.skip ∧ _ := hR11_3
  obtain ⟨rfl, rfl⟩ : v11_4 = .bool g.rules.relay ∧ _ := hR11_4
  obtain ⟨rfl, rfl⟩ : v11_5 = .bool g.rules.feed ∧ _ := hR11_5
  obtain ⟨rfl, rfl⟩ : v11_6 = .bool g.rules.again ∧ _ := hR11_6
  obtain ⟨rfl, rfl⟩ : v11_7 = .int .i64 g.rules.capture ∧ _ := hR11_7
  obtain ⟨rfl, rfl⟩ : v11_8 = .int .i64 g.rules.slam ∧ _ := hR11_8
  obtain ⟨A12, c12, rfl, rfl, bl12, bh12⟩ := hR11_9
  obtain ⟨A13, c13, rfl, rfl, bl13, bh13⟩ := hR11_10
  obtain ⟨rfl, rfl⟩ : v11_11 = .int .i64 g.start.player ∧ _ := hR11_11
  obtain ⟨A14, c14, rfl, rfl, bl14, bh14⟩ := hR11_12
  obtain ⟨A15, c15, rfl, rfl, bl15, bh15⟩ := hR11_13
  obtain ⟨A16, c16, rfl, rfl, bl16, bh16⟩ := hR11_14
  obtain ⟨rfl, rfl⟩ : v11_15 = .int .i64 g.now.player ∧ _ := hR11_15
  obtain ⟨rfl, rfl⟩ : v11_16 = .int .i64 g.resigned ∧ _ := hR11_16
  refine JL.e (e_alloc zero_35) ?_
  rintro _ _ _ ⟨b17, rfl, rfl, rfl⟩ _
  refine JL.s (e_store (i := 0) (c' := [.int .i64 g.rules.pits, .int .i64 g.rules.seeds, .bool g.rules.stores, .bool g.rules.skip, .bool g.rules.relay, .bool g.rules.feed, .bool g.rules.again, .int .i64 g.rules.capture, .int .i64 g.rules.slam, .slice A12 g.start.pits.length c12, .slice A13 g.start.stores.length c13, .int .i64 g.start.player, .slice A14 g.moves.length c14, .slice A15 g.now.pits.length c15, .slice A16 g.now.stores.length c16, .int .i64 g.now.player, .int .i64 g.resigned]) ty_35 rfl rfl rfl rfl rfl rfl rfl rfl) ?_
  rintro _ _ _ ⟨rfl, rfl⟩ _
  refine JL.nil ?_
  refine Js.seq ?_
  obtain ⟨y18, hy18⟩ : ∃ x, (M.playedP g)[n.toNat]? = some x := ⟨_, List.getElem?_eq_getElem (by omega)⟩
  have hcn : (M.cutG g n.toNat).now = y18 := M.cutG_now hy18
  have hyl9 := M.okP_len (M.hist_okG r5 hy18)
  refine Js.cut (fun l os u => ∃ (A19_0 : Option Addr) (c19_0 : Nat) (A19_1 : Option Addr) (c19_1 : Nat) (b20 : Nat), l = [(4, .pointer (some ⟨b3, 0, none⟩)), (8, .pointer (some ⟨b17, 0, none⟩))] ∧ os = [roO 2 (.slice (cutA 1 A14 0 n.toNat) (n.toNat - 0) (n.toNat - 0)) n.toNat (ints_ (g.moves.take n.toNat)), boxO b17 [.int .i64 g.rules.pits, .int .i64 g.rules.seeds, .bool g.rules.stores, .bool g.rules.skip, .bool g.rules.relay, .bool g.rules.feed, .bool g.rules.again, .int .i64 g.rules.capture, .int .i64 g.rules.slam, .slice A12 g.start.pits.length c12, .slice A13 g.start.stores.length c13, .int .i64 g.start.player, .slice (cutA 1 A14 0 n.toNat) (n.toNat - 0) (n.toNat - 0), .slice A19_0 y18.pits.length c19_0, .slice A19_1 y18.stores.length c19_1, .int .i64 y18.player, .int .i64 (-1)] 35, rowO 2 1 (.slice A12 g.start.pits.length c12) g.start.pits.length (ints_ g.start.pits) [], rowO 2 1 (.slice A13 g.start.stores.length c13) g.start.stores.length (ints_ g.start.stores) [], rowO 2 1 (.slice A15 g.now.pits.length c15) g.now.pits.length (ints_ g.now.pits) [], rowO 2 1 (.slice A16 g.now.stores.length c16) g.now.stores.length (ints_ g.now.stores) [], rowO 33 3 (.slice (some ⟨b20, 0, none⟩) ((M.playedP g).length) c7) ((M.playedP g).length) vs7 [], ownC (lPosition (M.playedP g)) vs7 f7, rowO 84 6 (.slice A8 ((M.playedR g).length) c8) ((M.playedR g).length) vs8 [], ownC (lResultL (M.playedR g)) vs8 f8, boxO b3 [.int .i64 0, .int .i64 0, .bool false, .bool false, .bool false, .bool false, .bool false, .int .i64 0, .int .i64 0, .slice none 0 0, .slice none 0 0, .int .i64 0, .slice none 0 0, .slice none 0 0, .slice none 0 0, .int .i64 0, .int .i64 0] 35, boxO b2 [.int .i64 g.rules.pits, .int .i64 g.rules.seeds, .bool g.rules.stores, .bool g.rules.skip, .bool g.rules.relay, .bool g.rules.feed, .bool g.rules.again, .int .i64 g.rules.capture, .int .i64 g.rules.slam, .slice A1_9 g.start.pits.length c1_9, .slice A1_10 g.start.stores.length c1_10, .int .i64 g.start.player, .slice A1_12 g.moves.length c1_12, .slice A1_13 g.now.pits.length c1_13, .slice A1_14 g.now.stores.length c1_14, .int .i64 g.now.player, .int .i64 g.resigned] 35] ∧ Up w.heap.size w u ∧ (y18.pits.length ≤ c19_0) ∧ (c19_0 ≤ 9223372036854775807) ∧ ((vs7.drop (0 + n.toNat * 3)).take 3 = [.slice A19_0 y18.pits.length c19_0, .slice A19_1 y18.stores.length c19_1, .int .i64 y18.player]) ∧ (y18.stores.length ≤ c19_1) ∧ (c19_1 ≤ 9223372036854775807)) ?_ ?_
  ·
    refine Js.drawn _ [10, 12, 14] mixed_ (fun _ h => h) ?_
    refine JH.p 0 rfl (p_fieldAddr fld_35_2 rfl) ?_
    refine JH.q 1 rfl (q_load1 ty_24 rfl (Mem.box (i := 0) rfl rfl)) ?_
    refine JH.p 2 rfl (p_move rfl) ?_
    refine JH.p 3 rfl (p_move rfl) ?_
    refine JH.conv (fun w hw => St.cutRo (i := 3) (k := n.toNat) rfl (by omega) hw) ?_
    refine JH.p 4 rfl (p_slice (lo' := 0) (hi' := n.toNat) (mx' := n.toNat) el_24 rfl ⟨_, by rw [Int.toNat_of_nonneg (by omega)]; exact rfl, by omega⟩ ⟨_, by rw [Int.toNat_of_nonneg (by omega)]; exact rfl, by omega⟩ rfl) ?_
    refine JH.p 5 rfl (p_move rfl) ?_
    refine JH.p 6 rfl (p_move rfl) ?_
    refine JH.fact (row_some (i := 6) rfl (by omega)) (fun hf23 => ?_)
    obtain ⟨b23, rfl⟩ := hf23
    have hy22 := hy18
    refine JH.fact (fun w hw => elemv_Position (Mem.ownC (i := 7) rfl w hw) hy22) (fun hf22 => ?_)
    obtain ⟨A22_0, c22_0, A22_1, c22_1, he22, bl22_0, bh22_0, bl22_1, bh22_1⟩ := hf22
    refine JH.p 7 rfl (p_indexAddr el_44 rfl rfl (by omega) (by omega) rfl) ?_
    refine JH.p 9 rfl (p_fieldAddr fld_35_2 rfl) ?_
    refine JH.all (rs := [8, 10]) (by kernel_rfl) rfl ⟨?_, ?_, trivial⟩
    ·
      refine JHo.q rfl (q_loadN ty_33 rfl (Mem.rowR' (i := 6) rfl he22) rfl rfl) ?_
      refine JH.one (i := 10) (by kernel_rfl) ?_
      refine JHo.s rfl (e_store (i := 1) (c' := [.int .i64 g.rules.pits, .int .i64 g.rules.seeds, .bool g.rules.stores, .bool g.rules.skip, .bool g.rules.relay, .bool g.rules.feed, .bool g.rules.again, .int .i64 g.rules.capture, .int .i64 g.rules.slam, .slice A12 g.start.pits.length c12, .slice A13 g.start.stores.length c13, .int .i64 g.start.player, .slice (cutA 1 A14 0 n.toNat) (n.toNat - 0) (n.toNat - 0), .slice A15 g.now.pits.length c15, .slice A16 g.now.stores.length c16, .int .i64 g.now.player, .int .i64 g.resigned]) ty_24 rfl rfl rfl rfl rfl rfl rfl rfl) (.inr rfl) ?_
      rintro _ _ _ ⟨rfl, rfl⟩ _
      refine JH.p 11 rfl (p_fieldAddr fld_35_3 rfl) ?_
      refine JH.one (i := 12) (by kernel_rfl) ?_
      refine JHo.s rfl (e_store (i := 1) (c' := [.int .i64 g.rules.pits, .int .i64 g.rules.seeds, .bool g.rules.stores, .bool g.rules.skip, .bool g.rules.relay, .bool g.rules.feed, .bool g.rules.again, .int .i64 g.rules.capture, .int .i64 g.rules.slam, .slice A12 g.start.pits.length c12, .slice A13 g.start.stores.length c13, .int .i64 g.start.player, .slice (cutA 1 A14 0 n.toNat) (n.toNat - 0) (n.toNat - 0), .slice A22_0 y18.pits.length c22_0, .slice A22_1 y18.stores.length c22_1, .int .i64 y18.player, .int .i64 g.resigned]) ty_33 rfl rfl rfl rfl rfl rfl rfl rfl) (.inr rfl) ?_
      rintro _ _ _ ⟨rfl, rfl⟩ _
      refine JH.p 13 rfl (p_fieldAddr fld_35_4 rfl) ?_
      refine JH.one (i := 14) (by kernel_rfl) ?_
      refine JHo.s rfl (e_store (i := 1) (c' := [.int .i64 g.rules.pits, .int .i64 g.rules.seeds, .bool g.rules.stores, .bool g.rules.skip, .bool g.rules.relay, .bool g.rules.feed, .bool g.rules.again, .int .i64 g.rules.capture, .int .i64 g.rules.slam, .slice A12 g.start.pits.length c12, .slice A13 g.start.stores.length c13, .int .i64 g.start.player, .slice (cutA 1 A14 0 n.toNat) (n.toNat - 0) (n.toNat - 0), .slice A22_0 y18.pits.length c22_0, .slice A22_1 y18.stores.length c22_1, .int .i64 y18.player, .int .i64 (-1)]) ty_2 rfl rfl rfl rfl rfl rfl rfl rfl) (.inr rfl) ?_
      rintro _ _ _ ⟨rfl, rfl⟩ _
      refine JH.done (by kernel_rfl) ?_
      exact Js.meet ⟨_, _, _, _, _, rfl, rfl, Up.refl _ _, by omega, by omega, he22, by omega, by omega⟩ ⟨rfl, rfl, trivial⟩
    ·
      refine JHo.s rfl (e_store (i := 1) (c' := [.int .i64 g.rules.pits, .int .i64 g.rules.seeds, .bool g.rules.stores, .bool g.rules.skip, .bool g.rules.relay, .bool g.rules.feed, .bool g.rules.again, .int .i64 g.rules.capture, .int .i64 g.rules.slam, .slice A12 g.start.pits.length c12, .slice A13 g.start.stores.length c13, .int .i64 g.start.player, .slice (cutA 1 A14 0 n.toNat) (n.toNat - 0) (n.toNat - 0), .slice A15 g.now.pits.length c15, .slice A16 g.now.stores.length c16, .int .i64 g.now.player, .int .i64 g.resigned]) ty_24 rfl rfl rfl rfl rfl rfl rfl rfl) (.inr rfl) ?_
      rintro _ _ _ ⟨rfl, rfl⟩ _
      refine JH.one (i := 8) (by kernel_rfl) ?_
      refine JHo.q rfl (q_loadN ty_33 rfl (Mem.rowR' (i := 6) rfl he22) rfl rfl) ?_
      refine JH.p 11 rfl (p_fieldAddr fld_35_3 rfl) ?_
      refine JH.one (i := 12) (by kernel_rfl) ?_
      refine JHo.s rfl (e_store (i := 1) (c' := [.int .i64 g.rules.pits, .int .i64 g.rules.seeds, .bool g.rules.stores, .bool g.rules.skip, .bool g.rules.relay, .bool g.rules.feed, .bool g.rules.again, .int .i64 g.rules.capture, .int .i64 g.rules.slam, .slice A12 g.start.pits.length c12, .slice A13 g.start.stores.length c13, .int .i64 g.start.player, .slice (cutA 1 A14 0 n.toNat) (n.toNat - 0) (n.toNat - 0), .slice A22_0 y18.pits.length c22_0, .slice A22_1 y18.stores.length c22_1, .int .i64 y18.player, .int .i64 g.resigned]) ty_33 rfl rfl rfl rfl rfl rfl rfl rfl) (.inr rfl) ?_
      rintro _ _ _ ⟨rfl, rfl⟩ _
      refine JH.p 13 rfl (p_fieldAddr fld_35_4 rfl) ?_
      refine JH.one (i := 14) (by kernel_rfl) ?_
      refine JHo.s rfl (e_store (i := 1) (c' := [.int .i64 g.rules.pits, .int .i64 g.rules.seeds, .bool g.rules.stores, .bool g.rules.skip, .bool g.rules.relay, .bool g.rules.feed, .bool g.rules.again, .int .i64 g.rules.capture, .int .i64 g.rules.slam, .slice A12 g.start.pits.length c12, .slice A13 g.start.stores.length c13, .int .i64 g.start.player, .slice (cutA 1 A14 0 n.toNat) (n.toNat - 0) (n.toNat - 0), .slice A22_0 y18.pits.length c22_0, .slice A22_1 y18.stores.length c22_1, .int .i64 y18.player, .int .i64 (-1)]) ty_2 rfl rfl rfl rfl rfl rfl rfl rfl) (.inr rfl) ?_
      rintro _ _ _ ⟨rfl, rfl⟩ _
      refine JH.done (by kernel_rfl) ?_
      exact Js.meet ⟨_, _, _, _, _, rfl, rfl, Up.refl _ _, by omega, by omega, he22, by omega, by omega⟩ ⟨rfl, rfl, trivial⟩
  · rintro _ _ u21 ⟨A19_0, c19_0, A19_1, c19_1, b20, rfl, rfl, x21, f21_0, f21_1, f21_2, f21_3, f21_4⟩
    refine Js.seq ?_
    refine Js.region ?_
    refine JL.q (q_loadN ty_35 rfl (Mem.boxR (i := 1) rfl 0 17) rfl rfl) ?_
    refine JL.s (e_store (i := 10) (c' := [.int .i64 g.rules.pits, .int .i64 g.rules.seeds, .bool g.rules.stores, .bool g.rules.skip, .bool g.rules.relay, .bool g.rules.feed, .bool g.rules.again, .int .i64 g.rules.capture, .int .i64 g.rules.slam, .slice A12 g.start.pits.length c12, .slice A13 g.start.stores.length c13, .int .i64 g.start.player, .slice (cutA 1 A14 0 n.toNat) (n.toNat - 0) (n.toNat - 0), .slice A19_0 y18.pits.length c19_0, .slice A19_1 y18.stores.length c19_1, .int .i64 y18.player, .int .i64 (-1)]) ty_35 rfl rfl rfl rfl rfl rfl rfl rfl) ?_
    rintro _ _ _ ⟨rfl, rfl⟩ _
    refine JL.nil ?_
    refine Js.fact (fun w hw => elem_in cPosition (m := 3) (k := n.toNat) (xs := (M.playedP g)) (fun _ => rfl) (Mem.ownC (i := 7) rfl w hw) (by omega)) (fun hl24 => ?_)
    refine Js.ex3 (fun w hw => St.elemS cPosition (m := 3) (i := 7) (xs := (M.playedP g)) (fun _ => rfl) rfl hy18 f21_2 hw) (fun f24_1 f24_2 f24_3 => ?_)
    refine Js.conv (fun w hw => St.unpack2 (i := 0) (o1 := rowO 2 1 (.slice A19_0 y18.pits.length c19_0) y18.pits.length (ints_ y18.pits) []) (o2 := rowO 2 1 (.slice A19_1 y18.stores.length c19_1) y18.stores.length (ints_ y18.stores) []) rfl (fun w h => unpack_Position h) hw) ?_
    refine Js.ret (R := RO w (Ty.agg (cGameL (M.cutG g n.toNat)))) @Try.results82 (fun _ _ => rfl) (ResOk.cell (res_box (i := 13) ty_35 rfl rfl rfl rfl rfl) ResOk.nil) (fun w1 hw => ?_)
    have hx := hw.ext (x21)
    exact ret_own (ps := [(6, (Value.ownBlock (.slice A12 g.start.pits.length c12)).toList), (7, (Value.ownBlock (.slice A13 g.start.stores.length c13)).toList), (4, (Value.ownBlock (.slice (cutA 1 A14 0 n.toNat) (n.toNat - 0) (n.toNat - 0))).toList), (0, (Value.ownBlock (.slice A19_0 y18.pits.length c19_0)).toList), (1, (Value.ownBlock (.slice A19_1 y18.stores.length c19_1)).toList)]) hw hx ⟨_, rfl, ⟨_, _, rfl, ⟨by first | rfl | (rw [hcn]; done) | (rw [hcn]; rfl) | (simp only [hcn]; done), rfl⟩, ⟨_, _, rfl, ⟨by first | rfl | (rw [hcn]; done) | (rw [hcn]; rfl) | (simp only [hcn]; done), rfl⟩, ⟨_, _, rfl, ⟨by first | rfl | (rw [hcn]; done) | (rw [hcn]; rfl) | (simp only [hcn]; done), rfl⟩, ⟨_, _, rfl, ⟨by first | rfl | (rw [hcn]; done) | (rw [hcn]; rfl) | (simp only [hcn]; done), rfl⟩, ⟨_, _, rfl, ⟨by first | rfl | (rw [hcn]; done) | (rw [hcn]; rfl) | (simp only [hcn]; done), rfl⟩, ⟨_, _, rfl, ⟨by first | rfl | (rw [hcn]; done) | (rw [hcn]; rfl) | (simp only [hcn]; done), rfl⟩, ⟨_, _, rfl, ⟨by first | rfl | (rw [hcn]; done) | (rw [hcn]; rfl) | (simp only [hcn]; done), rfl⟩, ⟨_, _, rfl, ⟨by first | rfl | (rw [hcn]; done) | (rw [hcn]; rfl) | (simp only [hcn]; done), rfl⟩, ⟨_, _, rfl, ⟨by first | rfl | (rw [hcn]; done) | (rw [hcn]; rfl) | (simp only [hcn]; done), rfl⟩, ⟨_, _, rfl, (ints_row (xs := g.start.pits) (hw.pr (i := 6) rfl) (show g.start.pits = ((M.cutG g n.toNat).start).pits by first | rfl | (rw [hcn]; done) | (rw [hcn]; rfl) | (simp only [hcn]; done))), ⟨_, _, rfl, (ints_row (xs := g.start.stores) (hw.pr (i := 7) rfl) (show g.start.stores = ((M.cutG g n.toNat).start).stores by first | rfl | (rw [hcn]; done) | (rw [hcn]; rfl) | (simp only [hcn]; done))), ⟨_, _, rfl, ⟨by first | rfl | (rw [hcn]; done) | (rw [hcn]; rfl) | (simp only [hcn]; done), rfl⟩, ⟨_, _, rfl, (ro_own (ys := (g.moves.take n.toNat)) (hw.pr (i := 4) rfl) (show g.moves.take n.toNat = (M.cutG g n.toNat).moves by first | rfl | (rw [hcn]; done) | (rw [hcn]; rfl) | (simp only [hcn]; done))), ⟨_, _, rfl, (ints_row (xs := y18.pits) (hw.pr (i := 0) rfl) (show y18.pits = ((M.cutG g n.toNat).now).pits by first | rfl | (rw [hcn]; done) | (rw [hcn]; rfl) | (simp only [hcn]; done))), ⟨_, _, rfl, (ints_row (xs := y18.stores) (hw.pr (i := 1) rfl) (show y18.stores = ((M.cutG g n.toNat).now).stores by first | rfl | (rw [hcn]; done) | (rw [hcn]; rfl) | (simp only [hcn]; done))), ⟨_, _, rfl, ⟨by first | rfl | (rw [hcn]; done) | (rw [hcn]; rfl) | (simp only [hcn]; done), rfl⟩, ⟨_, _, rfl, ⟨by first | rfl | (rw [hcn]; done) | (rw [hcn]; rfl) | (simp only [hcn]; done), rfl⟩, rfl⟩⟩⟩⟩⟩⟩⟩⟩⟩⟩⟩⟩⟩⟩⟩⟩⟩⟩ (Pick.cons (j := 6) rfl (List.sublist_append_left _ _) rfl (Pick.cons (j := 7) rfl (List.sublist_append_left _ _) rfl (Pick.cons (j := 4) rfl (List.Sublist.refl _) rfl (Pick.cons (j := 0) rfl (List.sublist_append_left _ _) rfl (Pick.cons (j := 1) rfl (List.sublist_append_left _ _) rfl Pick.nil))))) (by simp [List.flatten, outV])

set_option maxRecDepth 100000 in
set_option maxHeartbeats 400000 in
theorem c_impl_UndoMove (g : M.Gam) (v_g : Value) (w : World) (h_g : (Ty.agg (cGame g)).ok w v_g) (r0 : g.start.pits.length ≤ 4194304) (r1 : g.start.stores.length ≤ 4194304) (r2 : g.moves.length ≤ 4194304) (r3 : g.now.pits.length ≤ 4194304) (r4 : g.now.stores.length ≤ 4194304) : Ret Try.prog 39 [v_g] w (Ty.tup [Ty.agg (cGameL ((M.undo g).1)), Ty.int ((M.undo g).2)]) := by
  obtain ⟨A1_9, c1_9, A1_10, c1_10, A1_12, c1_12, A1_13, c1_13, A1_14, c1_14, rfl, h1_9, h1_10, h1_12, h1_13, h1_14, bl1_9, bh1_9, bl1_10, bh1_10, bl1_12, bh1_12, bl1_13, bh1_13, bl1_14, bh1_14⟩ := open_Game h_g
  refine enter @Try.func39 @Try.ntmps39 rfl rfl ?_
  refine Js.seq ?_
  refine Js.region ?_
  refine JL.e (e_box (c := [.int .i64 g.rules.pits, .int .i64 g.rules.seeds, .bool g.rules.stores, .bool g.rules.skip, .bool g.rules.relay, .bool g.rules.feed, .bool g.rules.again, .int .i64 g.rules.capture, .int .i64 g.rules.slam, .slice A1_9 g.start.pits.length c1_9, .slice A1_10 g.start.stores.length c1_10, .int .i64 g.start.player, .slice A1_12 g.moves.length c1_12, .slice A1_13 g.now.pits.length c1_13, .slice A1_14 g.now.stores.length c1_14, .int .i64 g.now.player, .int .i64 g.resigned]) rfl rfl) ?_
  rintro _ _ _ ⟨b2, rfl, rfl, rfl⟩ _
  refine JL.e (e_alloc zero_35) ?_
  rintro _ _ _ ⟨b3, rfl, rfl, rfl⟩ _
  refine JL.q (OpP.q (p_assign rfl)) ?_
  refine JL.nil ?_
  refine Js.seq ?_
  refine Js.seq ?_
  refine Js.region ?_
  refine JL.q (q_loadN ty_35 rfl (Mem.boxR (i := 1) rfl 0 17) rfl rfl) ?_
  refine JL.e (e_callV fn_62 rfl (fun w hw => c_impl_ValidGame g _ w ⟨_, rfl, ⟨rfl, rfl, rfl, rfl, rfl, rfl, rfl, rfl, rfl, (Ty.mono _ h1_9 hw.vis), (Ty.mono _ h1_10 hw.vis), rfl, (Ty.mono _ h1_12 hw.vis), (Ty.mono _ h1_13 hw.vis), (Ty.mono _ h1_14 hw.vis), rfl, rfl, trivial⟩⟩ (by omega) (by omega) (by omega) (by omega) (by omega))) ?_
  rintro _ _ _ ⟨rfl, rfl, rfl⟩ _
  refine JL.q (OpP.q (p_not rfl)) ?_
  refine JL.nil ?_
  refine Js.cond rfl (fun h4 => ?_) (fun h4 => ?_)
  ·
    have h4' := h4
    try simp only [Bool.not_eq_true'] at h4'
    have hno : M.okG g = false := by simpa using h4
    have hE := M.undo_1 hno
    refine Js.seq ?_
    refine Js.region ?_
    refine JL.q (OpP.q (p_build zero_35 flds_35 rfl rfl)) ?_
    refine JL.s (e_store (i := 0) (c' := [.int .i64 0, .int .i64 0, .bool false, .bool false, .bool false, .bool false, .bool false, .int .i64 0, .int .i64 0, .slice none 0 0, .slice none 0 0, .int .i64 0, .slice none 0 0, .slice none 0 0, .slice none 0 0, .int .i64 0, .int .i64 0]) ty_35 rfl rfl rfl rfl rfl rfl rfl rfl) ?_
    rintro _ _ _ ⟨rfl, rfl⟩ _
    refine JL.q (OpP.q (p_assign rfl)) ?_
    refine JL.nil ?_
    refine Js.ret (R := RO w (Ty.tup [Ty.agg (cGameL ((M.undo g).1)), Ty.int ((M.undo g).2)])) @Try.results39 (fun _ _ => rfl) (ResOk.cell (res_box (i := 0) ty_35 rfl rfl rfl rfl rfl) (ResOk.tmp rfl ResOk.nil)) (fun w1 hw => ?_)
    have hx := hw.ext (Up.refl _ _)
    exact ret_own (ps := []) hw hx ⟨_, rfl, ⟨_, _, rfl, ⟨_, rfl, ⟨_, _, rfl, ⟨by first | rfl | (rw [hE]; done) | (rw [hE]; rfl), rfl⟩, ⟨_, _, rfl, ⟨by first | rfl | (rw [hE]; done) | (rw [hE]; rfl), rfl⟩, ⟨_, _, rfl, ⟨by first | rfl | (rw [hE]; done) | (rw [hE]; rfl), rfl⟩, ⟨_, _, rfl, ⟨by first | rfl | (rw [hE]; done) | (rw [hE]; rfl), rfl⟩, ⟨_, _, rfl, ⟨by first | rfl | (rw [hE]; done) | (rw [hE]; rfl), rfl⟩, ⟨_, _, rfl, ⟨by first | rfl | (rw [hE]; done) | (rw [hE]; rfl), rfl⟩, ⟨_, _, rfl, ⟨by first | rfl | (rw [hE]; done) | (rw [hE]; rfl), rfl⟩, ⟨_, _, rfl, ⟨by first | rfl | (rw [hE]; done) | (rw [hE]; rfl), rfl⟩, ⟨_, _, rfl, ⟨by first | rfl | (rw [hE]; done) | (rw [hE]; rfl), rfl⟩, ⟨_, _, rfl, (ints_cast (show [] = (((M.undo g).1).start).pits by first | rfl | (rw [hE]; done) | (rw [hE]; rfl)) nil_own), ⟨_, _, rfl, (ints_cast (show [] = (((M.undo g).1).start).stores by first | rfl | (rw [hE]; done) | (rw [hE]; rfl)) nil_own), ⟨_, _, rfl, ⟨by first | rfl | (rw [hE]; done) | (rw [hE]; rfl), rfl⟩, ⟨_, _, rfl, (ro_nil (show [] = ((M.undo g).1).moves by first | rfl | (rw [hE]; done) | (rw [hE]; rfl))), ⟨_, _, rfl, (ints_cast (show [] = (((M.undo g).1).now).pits by first | rfl | (rw [hE]; done) | (rw [hE]; rfl)) nil_own), ⟨_, _, rfl, (ints_cast (show [] = (((M.undo g).1).now).stores by first | rfl | (rw [hE]; done) | (rw [hE]; rfl)) nil_own), ⟨_, _, rfl, ⟨by first | rfl | (rw [hE]; done) | (rw [hE]; rfl), rfl⟩, ⟨_, _, rfl, ⟨by first | rfl | (rw [hE]; done) | (rw [hE]; rfl), rfl⟩, rfl⟩⟩⟩⟩⟩⟩⟩⟩⟩⟩⟩⟩⟩⟩⟩⟩⟩⟩, ⟨_, _, rfl, ⟨by first | rfl | (rw [hE]; done) | (rw [hE]; rfl), rfl⟩, rfl⟩⟩⟩ Pick.nil (by simp [List.flatten, outV])
  ·
    have h4' := h4
    try simp only [Bool.not_eq_false'] at h4'
    have hok : M.okG g = true := by simpa using h4
    obtain ⟨k1, k2, k3, k4, k5, k6, k7, k8, k9⟩ := M.okG_parts hok
    refine Js.skip ?_
    refine Js.seq ?_
    refine Js.seq ?_
    refine Js.region ?_
    refine JL.q (OpP.q (p_fieldAddr fld_35_2 rfl)) ?_
    refine JL.q (q_load1 ty_24 rfl (Mem.box (i := 1) rfl rfl)) ?_
    refine JL.q (OpP.q (p_len el_24 rfl)) ?_
    refine JL.q (OpP.q (p_eql rfl rfl)) ?_
    refine JL.q (OpP.q (p_move rfl)) ?_
    refine JL.g (Gd.f1 rfl rfl rfl) (fun hc => OpP.q (p_fieldAddr fld_35_4 rfl)) ?_
    refine JL.g (Gd.f1 rfl rfl rfl) (fun hc => q_load1 ty_2 (gvt rfl hc) (Mem.box (i := 1) rfl rfl)) ?_
    refine JL.g (Gd.f1 rfl rfl rfl) (fun hc => OpP.q (p_geq (gvt rfl hc) rfl)) ?_
    refine JL.q (OpP.q (p_pickOr rfl rfl rfl)) ?_
    refine JL.nil ?_
    refine Js.cond rfl (fun h5 => ?_) (fun h5 => ?_)
    ·
      have h5' := h5
      try simp only [Bool.or_eq_true, decide_eq_true_eq] at h5'
      have hE := M.undo_6 hok (by have := h5'; omega)
      refine Js.seq ?_
      refine Js.region ?_
      refine JL.q (OpP.q (p_build zero_35 flds_35 rfl rfl)) ?_
      refine JL.s (e_store (i := 0) (c' := [.int .i64 0, .int .i64 0, .bool false, .bool false, .bool false, .bool false, .bool false, .int .i64 0, .int .i64 0, .slice none 0 0, .slice none 0 0, .int .i64 0, .slice none 0 0, .slice none 0 0, .slice none 0 0, .int .i64 0, .int .i64 0]) ty_35 rfl rfl rfl rfl rfl rfl rfl rfl) ?_
      rintro _ _ _ ⟨rfl, rfl⟩ _
      refine JL.q (OpP.q (p_assign rfl)) ?_
      refine JL.nil ?_
      refine Js.ret (R := RO w (Ty.tup [Ty.agg (cGameL ((M.undo g).1)), Ty.int ((M.undo g).2)])) @Try.results39 (fun _ _ => rfl) (ResOk.cell (res_box (i := 0) ty_35 rfl rfl rfl rfl rfl) (ResOk.tmp rfl ResOk.nil)) (fun w1 hw => ?_)
      have hx := hw.ext (Up.refl _ _)
      exact ret_own (ps := []) hw hx ⟨_, rfl, ⟨_, _, rfl, ⟨_, rfl, ⟨_, _, rfl, ⟨by first | rfl | (rw [hE]; done) | (rw [hE]; rfl), rfl⟩, ⟨_, _, rfl, ⟨by first | rfl | (rw [hE]; done) | (rw [hE]; rfl), rfl⟩, ⟨_, _, rfl, ⟨by first | rfl | (rw [hE]; done) | (rw [hE]; rfl), rfl⟩, ⟨_, _, rfl, ⟨by first | rfl | (rw [hE]; done) | (rw [hE]; rfl), rfl⟩, ⟨_, _, rfl, ⟨by first | rfl | (rw [hE]; done) | (rw [hE]; rfl), rfl⟩, ⟨_, _, rfl, ⟨by first | rfl | (rw [hE]; done) | (rw [hE]; rfl), rfl⟩, ⟨_, _, rfl, ⟨by first | rfl | (rw [hE]; done) | (rw [hE]; rfl), rfl⟩, ⟨_, _, rfl, ⟨by first | rfl | (rw [hE]; done) | (rw [hE]; rfl), rfl⟩, ⟨_, _, rfl, ⟨by first | rfl | (rw [hE]; done) | (rw [hE]; rfl), rfl⟩, ⟨_, _, rfl, (ints_cast (show [] = (((M.undo g).1).start).pits by first | rfl | (rw [hE]; done) | (rw [hE]; rfl)) nil_own), ⟨_, _, rfl, (ints_cast (show [] = (((M.undo g).1).start).stores by first | rfl | (rw [hE]; done) | (rw [hE]; rfl)) nil_own), ⟨_, _, rfl, ⟨by first | rfl | (rw [hE]; done) | (rw [hE]; rfl), rfl⟩, ⟨_, _, rfl, (ro_nil (show [] = ((M.undo g).1).moves by first | rfl | (rw [hE]; done) | (rw [hE]; rfl))), ⟨_, _, rfl, (ints_cast (show [] = (((M.undo g).1).now).pits by first | rfl | (rw [hE]; done) | (rw [hE]; rfl)) nil_own), ⟨_, _, rfl, (ints_cast (show [] = (((M.undo g).1).now).stores by first | rfl | (rw [hE]; done) | (rw [hE]; rfl)) nil_own), ⟨_, _, rfl, ⟨by first | rfl | (rw [hE]; done) | (rw [hE]; rfl), rfl⟩, ⟨_, _, rfl, ⟨by first | rfl | (rw [hE]; done) | (rw [hE]; rfl), rfl⟩, rfl⟩⟩⟩⟩⟩⟩⟩⟩⟩⟩⟩⟩⟩⟩⟩⟩⟩⟩, ⟨_, _, rfl, ⟨by first | rfl | (rw [hE]; done) | (rw [hE]; rfl), rfl⟩, rfl⟩⟩⟩ Pick.nil (by simp [List.flatten, outV])
    ·
      have h5' := h5
      try simp only [Bool.or_eq_false_iff, decide_eq_false_iff_not, Int.not_le] at h5'
      have hE := M.undo_0 hok (by have := h5'; omega)
      have hq9 := h5'
      refine Js.skip ?_
      refine Js.seq ?_
      refine Js.region ?_
      refine JL.q (q_loadN ty_35 rfl (Mem.boxR (i := 1) rfl 0 17) rfl rfl) ?_
      refine JL.q (OpP.q (p_fieldAddr fld_35_2 rfl)) ?_
      refine JL.q (q_load1 ty_24 rfl (Mem.box (i := 1) rfl rfl)) ?_
      refine JL.q (OpP.q (p_len el_24 rfl)) ?_
      refine JL.q (OpP.q (p_sub rfl rfl (IntWalk.i64_in _ (by omega)))) ?_
      refine JL.e (e_callO fn_82 rfl (Spl_GameL _) (fun w hw => c_impl_Game_cut g _ ((g.moves.length : Int) - 1) w ⟨_, rfl, ⟨rfl, rfl, rfl, rfl, rfl, rfl, rfl, rfl, rfl, (Ty.mono _ h1_9 hw.vis), (Ty.mono _ h1_10 hw.vis), rfl, (Ty.mono _ h1_12 hw.vis), (Ty.mono _ h1_13 hw.vis), (Ty.mono _ h1_14 hw.vis), rfl, rfl, trivial⟩⟩ (by omega) (by omega) (by omega) (by omega) (by omega) hok (by omega) (by omega))) ?_
      rintro v6 _ _ ⟨_, hR7, rfl, rfl⟩ _
      obtain ⟨A8_9, c8_9, A8_10, c8_10, A8_12, c8_12, A8_13, c8_13, A8_14, c8_14, f8, rfl, rfl, bl8_9, bh8_9, bl8_10, bh8_10, bl8_12, bh8_12, bl8_13, bh8_13, bl8_14, bh8_14⟩ := hR7
      refine JL.s (e_store (i := 1) (c' := [.int .i64 (((M.cutG g ((g.moves.length : Int) - 1).toNat).rules).pits), .int .i64 (((M.cutG g ((g.moves.length : Int) - 1).toNat).rules).seeds), .bool (((M.cutG g ((g.moves.length : Int) - 1).toNat).rules).stores), .bool (((M.cutG g ((g.moves.length : Int) - 1).toNat).rules).skip), .bool (((M.cutG g ((g.moves.length : Int) - 1).toNat).rules).relay), .bool (((M.cutG g ((g.moves.length : Int) - 1).toNat).rules).feed), .bool (((M.cutG g ((g.moves.length : Int) - 1).toNat).rules).again), .int .i64 (((M.cutG g ((g.moves.length : Int) - 1).toNat).rules).capture), .int .i64 (((M.cutG g ((g.moves.length : Int) - 1).toNat).rules).slam), .slice A8_9 ((((M.cutG g ((g.moves.length : Int) - 1).toNat).start).pits).length) c8_9, .slice A8_10 ((((M.cutG g ((g.moves.length : Int) - 1).toNat).start).stores).length) c8_10, .int .i64 (((M.cutG g ((g.moves.length : Int) - 1).toNat).start).player), .slice A8_12 (((M.cutG g ((g.moves.length : Int) - 1).toNat).moves).length) c8_12, .slice A8_13 ((((M.cutG g ((g.moves.length : Int) - 1).toNat).now).pits).length) c8_13, .slice A8_14 ((((M.cutG g ((g.moves.length : Int) - 1).toNat).now).stores).length) c8_14, .int .i64 (((M.cutG g ((g.moves.length : Int) - 1).toNat).now).player), .int .i64 ((M.cutG g ((g.moves.length : Int) - 1).toNat).resigned)]) ty_35 rfl rfl rfl rfl rfl rfl rfl rfl) ?_
      rintro _ _ _ ⟨rfl, rfl⟩ _
      refine JL.q (OpP.q (p_assign rfl)) ?_
      refine JL.nil ?_
      refine Js.ret (R := RO w (Ty.tup [Ty.agg (cGameL ((M.undo g).1)), Ty.int ((M.undo g).2)])) @Try.results39 (fun _ _ => rfl) (ResOk.cell (res_box (i := 1) ty_35 rfl rfl rfl rfl rfl) (ResOk.tmp rfl ResOk.nil)) (fun w1 hw => ?_)
      have hx := hw.ext (Up.refl _ _)
      exact ret_own (ps := [(0, f8)]) hw hx ⟨_, rfl, ⟨_, _, rfl, (own_cast cGameL (show M.cutG g ((g.moves.length : Int) - 1).toNat = (M.undo g).1 by first | rfl | (rw [hE]; done) | (rw [hE]; rfl)) ⟨_, rfl, hw.pr (i := 0) rfl⟩), ⟨_, _, rfl, ⟨by first | rfl | (rw [hE]; done) | (rw [hE]; rfl), rfl⟩, rfl⟩⟩⟩ (Pick.cons (j := 0) rfl (List.Sublist.refl _) rfl Pick.nil) (by simp [List.flatten, outV])

end Go.Proofs.Ytejnmechnhgmfaa

/- Walks: K6. -/
import Derived.Test.YtejnmechnhgmfaaZaTy
import Derived.Test.YtejnmechnhgmfaaZaK4
set_option linter.unusedSimpArgs false
set_option linter.unusedVariables false
namespace Go.Proofs.Ytejnmechnhgmfaa
open Go.RowKit

set_option maxRecDepth 100000 in
set_option maxHeartbeats 400000 in
theorem c_spec_l08Own (g : M.Gam) (v_g : Value) (w : World) (h_g : (Ty.ref (cGame g)).ok w v_g) (r0 : g.start.pits.length ≤ 4194304) (r1 : g.start.stores.length ≤ 4194304) (r2 : g.moves.length ≤ 4194304) (r3 : g.now.pits.length ≤ 4194304) (r4 : g.now.stores.length ≤ 4194304) : Ret Try.prog 77 [v_g] w (Ty.agg (cGame g)) := by
  obtain ⟨b1, o1, A1_9, c1_9, A1_10, c1_10, A1_12, c1_12, A1_13, c1_13, A1_14, c1_14, rfl, hr1, h1_9, h1_10, h1_12, h1_13, h1_14, bl1_9, bh1_9, bl1_10, bh1_10, bl1_12, bh1_12, bl1_13, bh1_13, bl1_14, bh1_14⟩ := ref_Game h_g
  refine enter @Try.func77 @Try.ntmps77 rfl rfl ?_
  refine Js.seq ?_
  refine Js.region ?_
  refine JL.e (e_alloc zero_35) ?_
  rintro _ _ _ ⟨b2, rfl, rfl, rfl⟩ _
  refine JL.nil ?_
  refine Js.seq ?_
  refine Js.drawn _ [22] mixed_ (fun _ h => h) ?_
  refine JH.p 0 rfl (p_move rfl) ?_
  refine JH.p 1 rfl (p_nilCheck rfl) ?_
  refine JH.p 2 rfl (p_fieldAddr fld_35_0 rfl) ?_
  refine JH.w 3 rfl (fun os' u' hv => q_loadN ty_32 rfl (Mem.pubR ((hr1.vis hv).sub 0 9)) rfl rfl) ?_
  refine JH.p 4 rfl (p_move rfl) ?_
  refine JH.p 5 rfl (p_nilCheck rfl) ?_
  refine JH.p 6 rfl (p_fieldAddr fld_35_1 rfl) ?_
  refine JH.p 8 rfl (p_move rfl) ?_
  refine JH.p 9 rfl (p_nilCheck rfl) ?_
  refine JH.p 10 rfl (p_fieldAddr fld_35_2 rfl) ?_
  refine JH.w 11 rfl (fun os' u' hv => q_load1 ty_24 rfl (Mem.pub ((hr1.vis hv) 12 _ rfl))) ?_
  refine JH.p 13 rfl (p_move rfl) ?_
  refine JH.p 14 rfl (p_nilCheck rfl) ?_
  refine JH.p 15 rfl (p_fieldAddr fld_35_3 rfl) ?_
  refine JH.p 17 rfl (p_move rfl) ?_
  refine JH.p 18 rfl (p_nilCheck rfl) ?_
  refine JH.p 19 rfl (p_fieldAddr fld_35_4 rfl) ?_
  refine JH.w 20 rfl (fun os' u' hv => q_load1 ty_2 rfl (Mem.pub ((hr1.vis hv) 16 _ rfl))) ?_
  refine JH.one (i := 7) (by kernel_rfl) ?_
  refine JHo.e rfl (e_callO fn_81 rfl (Spl.agg (Spls.cons (Spl.ints _ _) (Spls.cons (Spl.ints _ _) (Spls.cons (Spl.val _) Spls.nil)))) (fun w hw => c_spec_l04Own g.start _ w ⟨_, _, [.slice A1_9 g.start.pits.length c1_9, .slice A1_10 g.start.stores.length c1_10, .int .i64 g.start.player], rfl, ⟨(Ty.mono _ h1_9 hw.vis), (Ty.mono _ h1_10 hw.vis), rfl, trivial⟩, ((hr1.vis hw.vis).sub 9 3)⟩ (by omega) (by omega))) (.inl rfl) ?_
  rintro v3 _ _ ⟨_, hR4, rfl, rfl⟩ _
  obtain ⟨vs5, rfl, hr5⟩ := hR4
  obtain ⟨v5_0, vs5_0, o5_0, ow5_0, rfl, hR5_0, hs5_0, rfl⟩ := RL_cons hr5
  obtain ⟨v5_1, vs5_1, o5_1, ow5_1, rfl, hR5_1, hs5_1, rfl⟩ := RL_cons hs5_0
  obtain ⟨v5_2, vs5_2, o5_2, ow5_2, rfl, hR5_2, hs5_2, rfl⟩ := RL_cons hs5_1
  obtain ⟨rfl, rfl⟩ := RL_nil hs5_2
  obtain ⟨A6, c6, rfl, rfl, bl6, bh6⟩ := hR5_0
  obtain ⟨A7, c7, rfl, rfl, bl7, bh7⟩ := hR5_1
  obtain ⟨rfl, rfl⟩ : v5_2 = .int .i64 g.start.player ∧ _ := hR5_2
  refine JH.one (i := 12) (by kernel_rfl) ?_
  refine JHo.e rfl (e_callO fn_80 rfl (Spl.ints _ _) (fun w hw => c_spec_l00Own g.moves _ w (Ty.mono _ h1_12 hw.vis) (by omega))) (.inl rfl) ?_
  rintro v8 _ _ ⟨_, hR9, rfl, rfl⟩ _
  obtain ⟨A10, c10, rfl, rfl, bl10, bh10⟩ := hR9
  refine JH.one (i := 16) (by kernel_rfl) ?_
  refine JHo.e rfl (e_callO fn_81 rfl (Spl.agg (Spls.cons (Spl.ints _ _) (Spls.cons (Spl.ints _ _) (Spls.cons (Spl.val _) Spls.nil)))) (fun w hw => c_spec_l04Own g.now _ w ⟨_, _, [.slice A1_13 g.now.pits.length c1_13, .slice A1_14 g.now.stores.length c1_14, .int .i64 g.now.player], rfl, ⟨(Ty.mono _ h1_13 hw.vis), (Ty.mono _ h1_14 hw.vis), rfl, trivial⟩, ((hr1.vis hw.vis).sub 13 3)⟩ (by omega) (by omega))) (.inl rfl) ?_
  rintro v11 _ _ ⟨_, hR12, rfl, rfl⟩ _
  obtain ⟨vs13, rfl, hr13⟩ := hR12
  obtain ⟨v13_0, vs13_0, o13_0, ow13_0, rfl, hR13_0, hs13_0, rfl⟩ := RL_cons hr13
  obtain ⟨v13_1, vs13_1, o13_1, ow13_1, rfl, hR13_1, hs13_1, rfl⟩ := RL_cons hs13_0
  obtain ⟨v13_2, vs13_2, o13_2, ow13_2, rfl, hR13_2, hs13_2, rfl⟩ := RL_cons hs13_1
  obtain ⟨rfl, rfl⟩ := RL_nil hs13_2
  obtain ⟨A14, c14, rfl, rfl, bl14, bh14⟩ := hR13_0
  obtain ⟨A15, c15, rfl, rfl, bl15, bh15⟩ := hR13_1
  obtain ⟨rfl, rfl⟩ : v13_2 = .int .i64 g.now.player ∧ _ := hR13_2
  refine JH.p 21 rfl (p_build zero_35 flds_35 rfl rfl) ?_
  refine JH.one (i := 22) (by kernel_rfl) ?_
  refine JHo.s rfl (e_store (i := 5) (c' := [.int .i64 g.rules.pits, .int .i64 g.rules.seeds, .bool g.rules.stores, .bool g.rules.skip, .bool g.rules.relay, .bool g.rules.feed, .bool g.rules.again, .int .i64 g.rules.capture, .int .i64 g.rules.slam, .slice A6 g.start.pits.length c6, .slice A7 g.start.stores.length c7, .int .i64 g.start.player, .slice A10 g.moves.length c10, .slice A14 g.now.pits.length c14, .slice A15 g.now.stores.length c15, .int .i64 g.now.player, .int .i64 g.resigned]) ty_35 rfl rfl rfl rfl rfl rfl rfl rfl) (.inr rfl) ?_
  rintro _ _ _ ⟨rfl, rfl⟩ _
  refine JH.done (by kernel_rfl) ?_
  refine Js.ret (R := RO w (Ty.agg (cGame g))) @Try.results77 (fun _ _ => rfl) (ResOk.cell (res_box (i := 5) ty_35 rfl rfl rfl rfl rfl) ResOk.nil) (fun w1 hw => ?_)
  have hx := hw.ext (Up.refl _ _)
  exact ret_own (ps := [(3, (Value.ownBlock (.slice A6 g.start.pits.length c6)).toList), (4, (Value.ownBlock (.slice A7 g.start.stores.length c7)).toList), (2, (Value.ownBlock (.slice A10 g.moves.length c10)).toList), (0, (Value.ownBlock (.slice A14 g.now.pits.length c14)).toList), (1, (Value.ownBlock (.slice A15 g.now.stores.length c15)).toList)]) hw hx ⟨_, rfl, ⟨_, _, rfl, ⟨rfl, rfl⟩, ⟨_, _, rfl, ⟨rfl, rfl⟩, ⟨_, _, rfl, ⟨rfl, rfl⟩, ⟨_, _, rfl, ⟨rfl, rfl⟩, ⟨_, _, rfl, ⟨rfl, rfl⟩, ⟨_, _, rfl, ⟨rfl, rfl⟩, ⟨_, _, rfl, ⟨rfl, rfl⟩, ⟨_, _, rfl, ⟨rfl, rfl⟩, ⟨_, _, rfl, ⟨rfl, rfl⟩, ⟨_, _, rfl, (ints_row (xs := g.start.pits) (hw.pr (i := 3) rfl) rfl), ⟨_, _, rfl, (ints_row (xs := g.start.stores) (hw.pr (i := 4) rfl) rfl), ⟨_, _, rfl, ⟨rfl, rfl⟩, ⟨_, _, rfl, (ints_row (xs := g.moves) (hw.pr (i := 2) rfl) rfl), ⟨_, _, rfl, (ints_row (xs := g.now.pits) (hw.pr (i := 0) rfl) rfl), ⟨_, _, rfl, (ints_row (xs := g.now.stores) (hw.pr (i := 1) rfl) rfl), ⟨_, _, rfl, ⟨rfl, rfl⟩, ⟨_, _, rfl, ⟨rfl, rfl⟩, rfl⟩⟩⟩⟩⟩⟩⟩⟩⟩⟩⟩⟩⟩⟩⟩⟩⟩⟩ (Pick.cons (j := 3) rfl (List.sublist_append_left _ _) rfl (Pick.cons (j := 4) rfl (List.sublist_append_left _ _) rfl (Pick.cons (j := 2) rfl (List.sublist_append_left _ _) rfl (Pick.cons (j := 0) rfl (List.sublist_append_left _ _) rfl (Pick.cons (j := 1) rfl (List.sublist_append_left _ _) rfl Pick.nil))))) (by simp [List.flatten, outV])

set_option maxRecDepth 100000 in
set_option maxHeartbeats 400000 in
theorem c_spec_l08Play (g : M.Gam) (v_g : Value) (move : Int) (w : World) (h_g : (Ty.ref (cGame g)).ok w v_g) (r0 : g.start.pits.length ≤ 4194304) (r1 : g.start.stores.length ≤ 4194304) (r2 : g.moves.length ≤ 4194304) (r3 : g.now.pits.length ≤ 4194304) (r4 : g.now.stores.length ≤ 4194304) (r5 : g.moves.length ≤ 120) : Ret Try.prog 85 [v_g, .int .i64 move] w (Ty.tup [Ty.agg (cGame ((M.play g move).1)), Ty.int ((M.play g move).2)]) := by
  obtain ⟨b1, o1, A1_9, c1_9, A1_10, c1_10, A1_12, c1_12, A1_13, c1_13, A1_14, c1_14, rfl, hr1, h1_9, h1_10, h1_12, h1_13, h1_14, bl1_9, bh1_9, bl1_10, bh1_10, bl1_12, bh1_12, bl1_13, bh1_13, bl1_14, bh1_14⟩ := ref_Game h_g
  refine enter @Try.func85 @Try.ntmps85 rfl rfl ?_
  refine Js.seq ?_
  refine Js.region ?_
  refine JL.e (e_alloc zero_35) ?_
  rintro _ _ _ ⟨b2, rfl, rfl, rfl⟩ _
  refine JL.q (OpP.q (p_assign rfl)) ?_
  refine JL.nil ?_
  refine Js.seq ?_
  refine Js.seq ?_
  refine Js.region ?_
  refine JL.q (OpP.q (p_move rfl)) ?_
  refine JL.q (OpP.q (p_nilCheck rfl)) ?_
  refine JL.q (OpP.q (p_fieldAddr fld_35_4 rfl)) ?_
  refine JL.q (q_load1 ty_2 rfl (Mem.pub (hr1 16 _ rfl))) ?_
  refine JL.q (OpP.q (p_geq rfl rfl)) ?_
  refine JL.nil ?_
  refine Js.cond rfl (fun h3 => ?_) (fun h3 => ?_)
  ·
    have h3' := h3
    try simp only [decide_eq_true_eq] at h3'
    have hE := M.play_6 (g := g) (move := move) (by simpa using h3)
    refine Js.seq ?_
    refine Js.region ?_
    refine JL.q (OpP.q (p_build zero_35 flds_35 rfl rfl)) ?_
    refine JL.s (e_store (i := 0) (c' := [.int .i64 0, .int .i64 0, .bool false, .bool false, .bool false, .bool false, .bool false, .int .i64 0, .int .i64 0, .slice none 0 0, .slice none 0 0, .int .i64 0, .slice none 0 0, .slice none 0 0, .slice none 0 0, .int .i64 0, .int .i64 0]) ty_35 rfl rfl rfl rfl rfl rfl rfl rfl) ?_
    rintro _ _ _ ⟨rfl, rfl⟩ _
    refine JL.q (OpP.q (p_assign rfl)) ?_
    refine JL.nil ?_
    refine Js.ret (R := RO w (Ty.tup [Ty.agg (cGame ((M.play g move).1)), Ty.int ((M.play g move).2)])) @Try.results85 (fun _ _ => rfl) (ResOk.cell (res_box (i := 0) ty_35 rfl rfl rfl rfl rfl) (ResOk.tmp rfl ResOk.nil)) (fun w1 hw => ?_)
    have hx := hw.ext (Up.refl _ _)
    exact ret_own (ps := []) hw hx ⟨_, rfl, ⟨_, _, rfl, ⟨_, rfl, ⟨_, _, rfl, ⟨by first | (rw [hE]; done) | (rw [hE]; rfl), rfl⟩, ⟨_, _, rfl, ⟨by first | (rw [hE]; done) | (rw [hE]; rfl), rfl⟩, ⟨_, _, rfl, ⟨by first | (rw [hE]; done) | (rw [hE]; rfl), rfl⟩, ⟨_, _, rfl, ⟨by first | (rw [hE]; done) | (rw [hE]; rfl), rfl⟩, ⟨_, _, rfl, ⟨by first | (rw [hE]; done) | (rw [hE]; rfl), rfl⟩, ⟨_, _, rfl, ⟨by first | (rw [hE]; done) | (rw [hE]; rfl), rfl⟩, ⟨_, _, rfl, ⟨by first | (rw [hE]; done) | (rw [hE]; rfl), rfl⟩, ⟨_, _, rfl, ⟨by first | (rw [hE]; done) | (rw [hE]; rfl), rfl⟩, ⟨_, _, rfl, ⟨by first | (rw [hE]; done) | (rw [hE]; rfl), rfl⟩, ⟨_, _, rfl, (ints_cast (show [] = (((M.play g move).1).start).pits by first | (rw [hE]; done) | (rw [hE]; rfl)) nil_own), ⟨_, _, rfl, (ints_cast (show [] = (((M.play g move).1).start).stores by first | (rw [hE]; done) | (rw [hE]; rfl)) nil_own), ⟨_, _, rfl, ⟨by first | (rw [hE]; done) | (rw [hE]; rfl), rfl⟩, ⟨_, _, rfl, (ints_cast (show [] = ((M.play g move).1).moves by first | (rw [hE]; done) | (rw [hE]; rfl)) nil_own), ⟨_, _, rfl, (ints_cast (show [] = (((M.play g move).1).now).pits by first | (rw [hE]; done) | (rw [hE]; rfl)) nil_own), ⟨_, _, rfl, (ints_cast (show [] = (((M.play g move).1).now).stores by first | (rw [hE]; done) | (rw [hE]; rfl)) nil_own), ⟨_, _, rfl, ⟨by first | (rw [hE]; done) | (rw [hE]; rfl), rfl⟩, ⟨_, _, rfl, ⟨by first | (rw [hE]; done) | (rw [hE]; rfl), rfl⟩, rfl⟩⟩⟩⟩⟩⟩⟩⟩⟩⟩⟩⟩⟩⟩⟩⟩⟩⟩, ⟨_, _, rfl, ⟨by first | (rw [hE]; done) | (rw [hE]; rfl), rfl⟩, rfl⟩⟩⟩ Pick.nil (by simp [List.flatten, outV])
  ·
    have h3' := h3
    try simp only [decide_eq_false_iff_not, Int.not_le] at h3'
    have q1 : ¬ 0 ≤ g.resigned := by simpa using h3
    refine Js.skip ?_
    refine Js.seq ?_
    refine Js.seq ?_
    refine Js.region ?_
    refine JL.q (OpP.q (p_move rfl)) ?_
    refine JL.q (OpP.q (p_nilCheck rfl)) ?_
    refine JL.q (OpP.q (p_fieldAddr fld_35_2 rfl)) ?_
    refine JL.q (q_load1 ty_24 rfl (Mem.pub (hr1 12 _ rfl))) ?_
    refine JL.q (OpP.q (p_len el_24 rfl)) ?_
    refine JL.q (OpP.q (p_geq rfl rfl)) ?_
    refine JL.nil ?_
    refine Js.cond rfl (fun h4 => ?_) (fun h4 => ?_)
    ·
      have h4' := h4
      try simp only [decide_eq_true_eq] at h4'
      have hE := M.play_5 (move := move) q1 (by have := h4'; omega)
      refine Js.seq ?_
      refine Js.region ?_
      refine JL.q (OpP.q (p_build zero_35 flds_35 rfl rfl)) ?_
      refine JL.s (e_store (i := 0) (c' := [.int .i64 0, .int .i64 0, .bool false, .bool false, .bool false, .bool false, .bool false, .int .i64 0, .int .i64 0, .slice none 0 0, .slice none 0 0, .int .i64 0, .slice none 0 0, .slice none 0 0, .slice none 0 0, .int .i64 0, .int .i64 0]) ty_35 rfl rfl rfl rfl rfl rfl rfl rfl) ?_
      rintro _ _ _ ⟨rfl, rfl⟩ _
      refine JL.q (OpP.q (p_assign rfl)) ?_
      refine JL.nil ?_
      refine Js.ret (R := RO w (Ty.tup [Ty.agg (cGame ((M.play g move).1)), Ty.int ((M.play g move).2)])) @Try.results85 (fun _ _ => rfl) (ResOk.cell (res_box (i := 0) ty_35 rfl rfl rfl rfl rfl) (ResOk.tmp rfl ResOk.nil)) (fun w1 hw => ?_)
      have hx := hw.ext (Up.refl _ _)
      exact ret_own (ps := []) hw hx ⟨_, rfl, ⟨_, _, rfl, ⟨_, rfl, ⟨_, _, rfl, ⟨by first | (rw [hE]; done) | (rw [hE]; rfl), rfl⟩, ⟨_, _, rfl, ⟨by first | (rw [hE]; done) | (rw [hE]; rfl), rfl⟩, ⟨_, _, rfl, ⟨by first | (rw [hE]; done) | (rw [hE]; rfl), rfl⟩, ⟨_, _, rfl, ⟨by first | (rw [hE]; done) | (rw [hE]; rfl), rfl⟩, ⟨_, _, rfl, ⟨by first | (rw [hE]; done) | (rw [hE]; rfl), rfl⟩, ⟨_, _, rfl, ⟨by first | (rw [hE]; done) | (rw [hE]; rfl), rfl⟩, ⟨_, _, rfl, ⟨by first | (rw [hE]; done) | (rw [hE]; rfl), rfl⟩, ⟨_, _, rfl, ⟨by first | (rw [hE]; done) | (rw [hE]; rfl), rfl⟩, ⟨_, _, rfl, ⟨by first | (rw [hE]; done) | (rw [hE]; rfl), rfl⟩, ⟨_, _, rfl, (ints_cast (show [] = (((M.play g move).1).start).pits by first | (rw [hE]; done) | (rw [hE]; rfl)) nil_own), ⟨_, _, rfl, (ints_cast (show [] = (((M.play g move).1).start).stores by first | (rw [hE]; done) | (rw [hE]; rfl)) nil_own), ⟨_, _, rfl, ⟨by first | (rw [hE]; done) | (rw [hE]; rfl), rfl⟩, ⟨_, _, rfl, (ints_cast (show [] = ((M.play g move).1).moves by first | (rw [hE]; done) | (rw [hE]; rfl)) nil_own), ⟨_, _, rfl, (ints_cast (show [] = (((M.play g move).1).now).pits by first | (rw [hE]; done) | (rw [hE]; rfl)) nil_own), ⟨_, _, rfl, (ints_cast (show [] = (((M.play g move).1).now).stores by first | (rw [hE]; done) | (rw [hE]; rfl)) nil_own), ⟨_, _, rfl, ⟨by first | (rw [hE]; done) | (rw [hE]; rfl), rfl⟩, ⟨_, _, rfl, ⟨by first | (rw [hE]; done) | (rw [hE]; rfl), rfl⟩, rfl⟩⟩⟩⟩⟩⟩⟩⟩⟩⟩⟩⟩⟩⟩⟩⟩⟩⟩, ⟨_, _, rfl, ⟨by first | (rw [hE]; done) | (rw [hE]; rfl), rfl⟩, rfl⟩⟩⟩ Pick.nil (by simp [List.flatten, outV])
    ·
      have h4' := h4
      try simp only [decide_eq_false_iff_not, Int.not_le] at h4'
      have q2 : g.moves.length ≠ 120 := by have := h4'; omega
      refine Js.skip ?_
      refine Js.seq ?_
      refine Js.cut (fun l os u => ∃ (b10 : Nat) (A9_3 : Option Addr) (c9_3 : Nat) (A9_4 : Option Addr) (c9_4 : Nat), l = [(0, .pointer (some ⟨b1, o1, none⟩)), (1, .int .i64 move), (4, .pointer (some ⟨b2, 0, none⟩)), (6, .pointer (some ⟨b10, 0, none⟩)), (7, .int .i64 ((M.make g.rules g.now move).2))] ∧ os = [boxO b10 [.int .i64 (((M.make g.rules g.now move).1).move), .int .i64 (((M.make g.rules g.now move).1).gain), .bool (((M.make g.rules g.now move).1).again), .slice A9_3 (((((M.make g.rules g.now move).1).next).pits).length) c9_3, .slice A9_4 (((((M.make g.rules g.now move).1).next).stores).length) c9_4, .int .i64 ((((M.make g.rules g.now move).1).next).player)] 84, boxO b2 [.int .i64 0, .int .i64 0, .bool false, .bool false, .bool false, .bool false, .bool false, .int .i64 0, .int .i64 0, .slice none 0 0, .slice none 0 0, .int .i64 0, .slice none 0 0, .slice none 0 0, .slice none 0 0, .int .i64 0, .int .i64 0] 35] ∧ Up w.heap.size w u ∧ (((((M.make g.rules g.now move).1).next).pits).length ≤ c9_3) ∧ (c9_3 ≤ 9223372036854775807) ∧ ((Ty.ints 2 ((((M.make g.rules g.now move).1).next).pits)).ok u (.slice A9_3 (((((M.make g.rules g.now move).1).next).pits).length) c9_3)) ∧ (((((M.make g.rules g.now move).1).next).stores).length ≤ c9_4) ∧ (c9_4 ≤ 9223372036854775807) ∧ ((Ty.ints 2 ((((M.make g.rules g.now move).1).next).stores)).ok u (.slice A9_4 (((((M.make g.rules g.now move).1).next).stores).length) c9_4))) ?_ ?_
      ·
        refine Js.drawn _ [12] mixed_ (fun _ h => h) ?_
        refine JH.p 0 rfl (p_move rfl) ?_
        refine JH.p 1 rfl (p_nilCheck rfl) ?_
        refine JH.p 2 rfl (p_fieldAddr fld_35_0 rfl) ?_
        refine JH.p 3 rfl (p_move rfl) ?_
        refine JH.p 4 rfl (p_nilCheck rfl) ?_
        refine JH.p 5 rfl (p_fieldAddr fld_35_3 rfl) ?_
        refine JH.p 6 rfl (p_move rfl) ?_
        refine JH.all (rs := [7, 11]) (by kernel_rfl) rfl ⟨?_, ?_, trivial⟩
        ·
          refine JHo.e rfl (e_callP fn_105 rfl (fun w hw => c_spec_l07Make g.rules _ g.now _ move w ⟨_, _, [.int .i64 g.rules.pits, .int .i64 g.rules.seeds, .bool g.rules.stores, .bool g.rules.skip, .bool g.rules.relay, .bool g.rules.feed, .bool g.rules.again, .int .i64 g.rules.capture, .int .i64 g.rules.slam], rfl, ⟨rfl, rfl, rfl, rfl, rfl, rfl, rfl, rfl, rfl, trivial⟩, ((hr1.vis hw.vis).sub 0 9)⟩ ⟨_, _, [.slice A1_13 g.now.pits.length c1_13, .slice A1_14 g.now.stores.length c1_14, .int .i64 g.now.player], rfl, ⟨(Ty.mono _ h1_13 hw.vis), (Ty.mono _ h1_14 hw.vis), rfl, trivial⟩, ((hr1.vis hw.vis).sub 13 3)⟩ (by omega) (by omega))) (.inl rfl) ?_
          rintro v18 _ u20 ⟨h19, rfl⟩ x20
          obtain ⟨vs21, rfl, hv21⟩ := h19
          obtain ⟨v21_0, vs21, rfl, hw21_0, hv21⟩ := cellsOk_cons hv21
          obtain ⟨v21_1, vs21, rfl, hw21_1, hv21⟩ := cellsOk_cons hv21
          obtain rfl := cellsOk_nil hv21
          obtain ⟨A22_3, c22_3, A22_4, c22_4, rfl, h22_3, h22_4, bl22_3, bh22_3, bl22_4, bh22_4⟩ := open_Result hw21_0
          obtain rfl : v21_1 = .int .i64 ((M.make g.rules g.now move).2) := hw21_1
          refine JH.p 8 rfl (p_move rfl) ?_
          refine JH.p 9 rfl (p_extract rfl rfl) ?_
          refine JH.p 10 rfl (p_extract rfl rfl) ?_
          refine JH.one (i := 11) (by kernel_rfl) ?_
          refine JHo.e rfl (e_alloc zero_84) (.inl rfl) ?_
          rintro _ _ _ ⟨b23, rfl, rfl, rfl⟩ _
          refine JH.one (i := 12) (by kernel_rfl) ?_
          refine JHo.s rfl (e_store (i := 0) (c' := [.int .i64 (((M.make g.rules g.now move).1).move), .int .i64 (((M.make g.rules g.now move).1).gain), .bool (((M.make g.rules g.now move).1).again), .slice A22_3 (((((M.make g.rules g.now move).1).next).pits).length) c22_3, .slice A22_4 (((((M.make g.rules g.now move).1).next).stores).length) c22_4, .int .i64 ((((M.make g.rules g.now move).1).next).player)]) ty_84 rfl rfl rfl rfl rfl rfl rfl rfl) (.inr rfl) ?_
          rintro _ _ _ ⟨rfl, rfl⟩ _
          refine JH.p 13 rfl (p_assign rfl) ?_
          refine JH.done (by kernel_rfl) ?_
          exact Js.meet ⟨_, _, _, _, _, rfl, rfl, x20, by omega, by omega, h22_3, by omega, by omega, h22_4⟩ ⟨rfl, rfl, rfl, rfl, rfl, trivial⟩
        ·
          refine JHo.e rfl (e_alloc zero_84) (.inl rfl) ?_
          rintro _ _ _ ⟨b24, rfl, rfl, rfl⟩ _
          refine JH.one (i := 7) (by kernel_rfl) ?_
          refine JHo.e rfl (e_callP fn_105 rfl (fun w hw => c_spec_l07Make g.rules _ g.now _ move w ⟨_, _, [.int .i64 g.rules.pits, .int .i64 g.rules.seeds, .bool g.rules.stores, .bool g.rules.skip, .bool g.rules.relay, .bool g.rules.feed, .bool g.rules.again, .int .i64 g.rules.capture, .int .i64 g.rules.slam], rfl, ⟨rfl, rfl, rfl, rfl, rfl, rfl, rfl, rfl, rfl, trivial⟩, ((hr1.vis hw.vis).sub 0 9)⟩ ⟨_, _, [.slice A1_13 g.now.pits.length c1_13, .slice A1_14 g.now.stores.length c1_14, .int .i64 g.now.player], rfl, ⟨(Ty.mono _ h1_13 hw.vis), (Ty.mono _ h1_14 hw.vis), rfl, trivial⟩, ((hr1.vis hw.vis).sub 13 3)⟩ (by omega) (by omega))) (.inl rfl) ?_
          rintro v25 _ u27 ⟨h26, rfl⟩ x27
          obtain ⟨vs28, rfl, hv28⟩ := h26
          obtain ⟨v28_0, vs28, rfl, hw28_0, hv28⟩ := cellsOk_cons hv28
          obtain ⟨v28_1, vs28, rfl, hw28_1, hv28⟩ := cellsOk_cons hv28
          obtain rfl := cellsOk_nil hv28
          obtain ⟨A29_3, c29_3, A29_4, c29_4, rfl, h29_3, h29_4, bl29_3, bh29_3, bl29_4, bh29_4⟩ := open_Result hw28_0
          obtain rfl : v28_1 = .int .i64 ((M.make g.rules g.now move).2) := hw28_1
          refine JH.p 8 rfl (p_move rfl) ?_
          refine JH.p 9 rfl (p_extract rfl rfl) ?_
          refine JH.p 10 rfl (p_extract rfl rfl) ?_
          refine JH.one (i := 12) (by kernel_rfl) ?_
          refine JHo.s rfl (e_store (i := 0) (c' := [.int .i64 (((M.make g.rules g.now move).1).move), .int .i64 (((M.make g.rules g.now move).1).gain), .bool (((M.make g.rules g.now move).1).again), .slice A29_3 (((((M.make g.rules g.now move).1).next).pits).length) c29_3, .slice A29_4 (((((M.make g.rules g.now move).1).next).stores).length) c29_4, .int .i64 ((((M.make g.rules g.now move).1).next).player)]) ty_84 rfl rfl rfl rfl rfl rfl rfl rfl) (.inr rfl) ?_
          rintro _ _ _ ⟨rfl, rfl⟩ _
          refine JH.p 13 rfl (p_assign rfl) ?_
          refine JH.done (by kernel_rfl) ?_
          exact Js.meet ⟨_, _, _, _, _, rfl, rfl, x27, by omega, by omega, h29_3, by omega, by omega, h29_4⟩ ⟨rfl, rfl, rfl, rfl, rfl, trivial⟩
      · rintro _ _ u17 ⟨b10, A9_3, c9_3, A9_4, c9_4, rfl, rfl, x17, f17_0, f17_1, f17_2, f17_3, f17_4, f17_5⟩
        refine Js.seq ?_
        refine Js.seq ?_
        refine Js.region ?_
        refine JL.q (OpP.q (p_move rfl)) ?_
        refine JL.q (OpP.q (p_neq rfl rfl)) ?_
        refine JL.nil ?_
        refine Js.cond rfl (fun h30 => ?_) (fun h30 => ?_)
        ·
          have h30' := h30
          try simp only [Bool.not_eq_true', decide_eq_false_iff_not] at h30'
          have hE := M.play_c q1 q2 (move := move) (by simpa using h30)
          refine Js.seq ?_
          refine Js.region ?_
          refine JL.q (OpP.q (p_build zero_35 flds_35 rfl rfl)) ?_
          refine JL.q (OpP.q (p_move rfl)) ?_
          refine JL.s (e_store (i := 1) (c' := [.int .i64 0, .int .i64 0, .bool false, .bool false, .bool false, .bool false, .bool false, .int .i64 0, .int .i64 0, .slice none 0 0, .slice none 0 0, .int .i64 0, .slice none 0 0, .slice none 0 0, .slice none 0 0, .int .i64 0, .int .i64 0]) ty_35 rfl rfl rfl rfl rfl rfl rfl rfl) ?_
          rintro _ _ _ ⟨rfl, rfl⟩ _
          refine JL.q (OpP.q (p_assign rfl)) ?_
          refine JL.nil ?_
          refine Js.ret (R := RO w (Ty.tup [Ty.agg (cGame ((M.play g move).1)), Ty.int ((M.play g move).2)])) @Try.results85 (fun _ _ => rfl) (ResOk.cell (res_box (i := 1) ty_35 rfl rfl rfl rfl rfl) (ResOk.tmp rfl ResOk.nil)) (fun w1 hw => ?_)
          have hx := hw.ext (x17)
          exact ret_own (ps := []) hw hx ⟨_, rfl, ⟨_, _, rfl, ⟨_, rfl, ⟨_, _, rfl, ⟨by first | (rw [hE]; done) | (rw [hE]; rfl), rfl⟩, ⟨_, _, rfl, ⟨by first | (rw [hE]; done) | (rw [hE]; rfl), rfl⟩, ⟨_, _, rfl, ⟨by first | (rw [hE]; done) | (rw [hE]; rfl), rfl⟩, ⟨_, _, rfl, ⟨by first | (rw [hE]; done) | (rw [hE]; rfl), rfl⟩, ⟨_, _, rfl, ⟨by first | (rw [hE]; done) | (rw [hE]; rfl), rfl⟩, ⟨_, _, rfl, ⟨by first | (rw [hE]; done) | (rw [hE]; rfl), rfl⟩, ⟨_, _, rfl, ⟨by first | (rw [hE]; done) | (rw [hE]; rfl), rfl⟩, ⟨_, _, rfl, ⟨by first | (rw [hE]; done) | (rw [hE]; rfl), rfl⟩, ⟨_, _, rfl, ⟨by first | (rw [hE]; done) | (rw [hE]; rfl), rfl⟩, ⟨_, _, rfl, (ints_cast (show [] = (((M.play g move).1).start).pits by first | (rw [hE]; done) | (rw [hE]; rfl)) nil_own), ⟨_, _, rfl, (ints_cast (show [] = (((M.play g move).1).start).stores by first | (rw [hE]; done) | (rw [hE]; rfl)) nil_own), ⟨_, _, rfl, ⟨by first | (rw [hE]; done) | (rw [hE]; rfl), rfl⟩, ⟨_, _, rfl, (ints_cast (show [] = ((M.play g move).1).moves by first | (rw [hE]; done) | (rw [hE]; rfl)) nil_own), ⟨_, _, rfl, (ints_cast (show [] = (((M.play g move).1).now).pits by first | (rw [hE]; done) | (rw [hE]; rfl)) nil_own), ⟨_, _, rfl, (ints_cast (show [] = (((M.play g move).1).now).stores by first | (rw [hE]; done) | (rw [hE]; rfl)) nil_own), ⟨_, _, rfl, ⟨by first | (rw [hE]; done) | (rw [hE]; rfl), rfl⟩, ⟨_, _, rfl, ⟨by first | (rw [hE]; done) | (rw [hE]; rfl), rfl⟩, rfl⟩⟩⟩⟩⟩⟩⟩⟩⟩⟩⟩⟩⟩⟩⟩⟩⟩⟩, ⟨_, _, rfl, ⟨by first | (rw [hE]; done) | (rw [hE]; rfl), rfl⟩, rfl⟩⟩⟩ Pick.nil (by simp [List.flatten, outV])
        ·
          have h30' := h30
          try simp only [Bool.not_eq_false', decide_eq_true_eq] at h30'
          have hz : (M.make g.rules g.now move).2 = 0 := by simpa using h30
          have hE := M.play_0 q1 q2 hz
          have hl2 := M.okP_len (M.make_ok hz).2.2.2.1
          refine Js.skip ?_
          refine Js.seq ?_
          refine Js.region ?_
          refine JL.q (OpP.q (p_move rfl)) ?_
          refine JL.e (e_callO fn_77 rfl (Spl.agg (Spls.cons (Spl.val _) (Spls.cons (Spl.val _) (Spls.cons (Spl.val _) (Spls.cons (Spl.val _) (Spls.cons (Spl.val _) (Spls.cons (Spl.val _) (Spls.cons (Spl.val _) (Spls.cons (Spl.val _) (Spls.cons (Spl.val _) (Spls.cons (Spl.ints _ _) (Spls.cons (Spl.ints _ _) (Spls.cons (Spl.val _) (Spls.cons (Spl.ints _ _) (Spls.cons (Spl.ints _ _) (Spls.cons (Spl.ints _ _) (Spls.cons (Spl.val _) (Spls.cons (Spl.val _) Spls.nil)))))))))))))))))) (fun w hw => c_spec_l08Own g _ w ⟨_, _, [.int .i64 g.rules.pits, .int .i64 g.rules.seeds, .bool g.rules.stores, .bool g.rules.skip, .bool g.rules.relay, .bool g.rules.feed, .bool g.rules.again, .int .i64 g.rules.capture, .int .i64 g.rules.slam, .slice A1_9 g.start.pits.length c1_9, .slice A1_10 g.start.stores.length c1_10, .int .i64 g.start.player, .slice A1_12 g.moves.length c1_12, .slice A1_13 g.now.pits.length c1_13, .slice A1_14 g.now.stores.length c1_14, .int .i64 g.now.player, .int .i64 g.resigned], rfl, ⟨rfl, rfl, rfl, rfl, rfl, rfl, rfl, rfl, rfl, (Ty.mono _ h1_9 (x17.vis.trans hw.vis)), (Ty.mono _ h1_10 (x17.vis.trans hw.vis)), rfl, (Ty.mono _ h1_12 (x17.vis.trans hw.vis)), (Ty.mono _ h1_13 (x17.vis.trans hw.vis)), (Ty.mono _ h1_14 (x17.vis.trans hw.vis)), rfl, rfl, trivial⟩, (hr1.vis (x17.vis.trans hw.vis))⟩ (by omega) (by omega) (by omega) (by omega) (by omega))) ?_
          rintro v31 _ _ ⟨_, hR32, rfl, rfl⟩ _
          obtain ⟨vs33, rfl, hr33⟩ := hR32
          obtain ⟨v33_0, vs33_0, o33_0, ow33_0, rfl, hR33_0, hs33_0, rfl⟩ := RL_cons hr33
          obtain ⟨v33_1, vs33_1, o33_1, ow33_1, rfl, hR33_1, hs33_1, rfl⟩ := RL_cons hs33_0
          obtain ⟨v33_2, vs33_2, o33_2, ow33_2, rfl, hR33_2, hs33_2, rfl⟩ := RL_cons hs33_1
          obtain ⟨v33_3, vs33_3, o33_3, ow33_3, rfl, hR33_3, hs33_3, rfl⟩ := RL_cons hs33_2
          obtain ⟨v33_4, vs33_4, o33_4, ow33_4, rfl, hR33_4, hs33_4, rfl⟩ := RL_cons hs33_3
          obtain ⟨v33_5, vs33_5, o33_5, ow33_5, rfl, hR33_5, hs33_5, rfl⟩ := RL_cons hs33_4
          obtain ⟨v33_6, vs33_6, o33_6, ow33_6, rfl, hR33_6, hs33_6, rfl⟩ := RL_cons hs33_5
          obtain ⟨v33_7, vs33_7, o33_7, ow33_7, rfl, hR33_7, hs33_7, rfl⟩ := RL_cons hs33_6
          obtain ⟨v33_8, vs33_8, o33_8, ow33_8, rfl, hR33_8, hs33_8, rfl⟩ := RL_cons hs33_7
          obtain ⟨v33_9, vs33_9, o33_9, ow33_9, rfl, hR33_9, hs33_9, rfl⟩ := RL_cons hs33_8
          obtain ⟨v33_10, vs33_10, o33_10, ow33_10, rfl, hR33_10, hs33_10, rfl⟩ := RL_cons hs33_9
          obtain ⟨v33_11, vs33_11, o33_11, ow33_11, rfl, hR33_11, hs33_11, rfl⟩ := RL_cons hs33_10
          obtain ⟨v33_12, vs33_12, o33_12, ow33_12, rfl, hR33_12, hs33_12, rfl⟩ := RL_cons hs33_11
          obtain ⟨v33_13, vs33_13, o33_13, ow33_13, rfl, hR33_13, hs33_13, rfl⟩ := RL_cons hs33_12
          obtain ⟨v33_14, vs33_14, o33_14, ow33_14, rfl, hR33_14, hs33_14, rfl⟩ := RL_cons hs33_13
          obtain ⟨v33_15, vs33_15, o33_15, ow33_15, rfl, hR33_15, hs33_15, rfl⟩ := RL_cons hs33_14
          obtain ⟨v33_16, vs33_16, o33_16, ow33_16, rfl, hR33_16, hs33_16, rfl⟩ := RL_cons hs33_15
          obtain ⟨rfl, rfl⟩ := RL_nil hs33_16
          obtain ⟨rfl, rfl⟩ : v33_0 = .int .i64 g.rules.pits ∧ _ := hR33_0
          obtain ⟨rfl, rfl⟩ : v33_1 = .int .i64 g.rules.seeds ∧ _ := hR33_1
          obtain ⟨rfl, rfl⟩ : v33_2 = .bool g.rules.stores ∧ _ := hR33_2
          obtain ⟨rfl, rfl⟩ : v33_3 = .bool g.rules.skip ∧ _ := hR33_3
          obtain ⟨rfl, rfl⟩ : v33_4 = .bool g.rules.relay ∧ _ := hR33_4
          obtain ⟨rfl, rfl⟩ : v33_5 = .bool g.rules.feed ∧ _ := hR33_5
          obtain ⟨rfl, rfl⟩ : v33_6 = .bool g.rules.again ∧ _ := hR33_6
          obtain ⟨rfl, rfl⟩ : v33_7 = .int .i64 g.rules.capture ∧ _ := hR33_7
          obtain ⟨rfl, rfl⟩ : v33_8 = .int .i64 g.rules.slam ∧ _ := hR33_8
          obtain ⟨A34, c34, rfl, rfl, bl34, bh34⟩ := hR33_9
          obtain ⟨A35, c35, rfl, rfl, bl35, bh35⟩ := hR33_10
          obtain ⟨rfl, rfl⟩ : v33_11 = .int .i64 g.start.player ∧ _ := hR33_11
          obtain ⟨A36, c36, rfl, rfl, bl36, bh36⟩ := hR33_12
          obtain ⟨A37, c37, rfl, rfl, bl37, bh37⟩ := hR33_13
          obtain ⟨A38, c38, rfl, rfl, bl38, bh38⟩ := hR33_14
          obtain ⟨rfl, rfl⟩ : v33_15 = .int .i64 g.now.player ∧ _ := hR33_15
          obtain ⟨rfl, rfl⟩ : v33_16 = .int .i64 g.resigned ∧ _ := hR33_16
          refine JL.e (e_alloc zero_35) ?_
          rintro _ _ _ ⟨b39, rfl, rfl, rfl⟩ _
          refine JL.s (e_store (i := 0) (c' := [.int .i64 g.rules.pits, .int .i64 g.rules.seeds, .bool g.rules.stores, .bool g.rules.skip, .bool g.rules.relay, .bool g.rules.feed, .bool g.rules.again, .int .i64 g.rules.capture, .int .i64 g.rules.slam, .slice A34 g.start.pits.length c34, .slice A35 g.start.stores.length c35, .int .i64 g.start.player, .slice A36 g.moves.length c36, .slice A37 g.now.pits.length c37, .slice A38 g.now.stores.length c38, .int .i64 g.now.player, .int .i64 g.resigned]) ty_35 rfl rfl rfl rfl rfl rfl rfl rfl) ?_
          rintro _ _ _ ⟨rfl, rfl⟩ _
          refine JL.nil ?_
          refine Js.seq ?_
          refine Js.region ?_
          refine JL.q (OpP.q (p_fieldAddr fld_35_2 rfl)) ?_
          refine JL.q (q_load1 ty_24 rfl (Mem.box (i := 0) rfl rfl)) ?_
          refine JL.q (OpP.q (p_move rfl)) ?_
          refine JL.e (e_buildSlice (vs := [.int .i64 move]) el_24 rfl rfl rfl rfl rfl rfl) ?_
          rintro _ _ _ ⟨b40, rfl, rfl, hl41, rfl⟩ _
          refine JL.e (e_append (i := 4) (n' := (g.moves ++ [move]).length) (vs' := ints_ (g.moves ++ [move])) el_24 rfl rfl rfl rfl (src_row (i := 0) und_24 rfl rfl) (by omega) (by omega) (by first | omega | (simp only [List.length_append, List.length_cons, List.length_nil] <;> omega)) (by simp [ints_])) ?_
          rintro v42 _ _ ⟨⟨g43, rfl⟩, rfl⟩ _
          refine JL.fact (row_form' (i := 4) rfl) (fun hf44 => ?_)
          obtain ⟨A44, c44, rfl, bl44, bh44⟩ := hf44
          refine JL.q (OpP.q (p_fieldAddr fld_35_2 rfl)) ?_
          refine JL.s (e_store (i := 1) (c' := [.int .i64 g.rules.pits, .int .i64 g.rules.seeds, .bool g.rules.stores, .bool g.rules.skip, .bool g.rules.relay, .bool g.rules.feed, .bool g.rules.again, .int .i64 g.rules.capture, .int .i64 g.rules.slam, .slice A34 g.start.pits.length c34, .slice A35 g.start.stores.length c35, .int .i64 g.start.player, .slice A44 ((g.moves ++ [move]).length) c44, .slice A37 g.now.pits.length c37, .slice A38 g.now.stores.length c38, .int .i64 g.now.player, .int .i64 g.resigned]) ty_24 rfl rfl rfl rfl rfl rfl rfl rfl) ?_
          rintro _ _ _ ⟨rfl, rfl⟩ _
          refine JL.nil ?_
          refine Js.seq ?_
          refine Js.region ?_
          refine JL.q (OpP.q (p_fieldAddr fld_84_3 rfl)) ?_
          refine JL.e (e_callO fn_81 rfl (Spl.agg (Spls.cons (Spl.ints _ _) (Spls.cons (Spl.ints _ _) (Spls.cons (Spl.val _) Spls.nil)))) (fun w hw => c_spec_l04Own (((M.make g.rules g.now move).1).next) _ w ⟨_, _, [.slice A9_3 (((((M.make g.rules g.now move).1).next).pits).length) c9_3, .slice A9_4 (((((M.make g.rules g.now move).1).next).stores).length) c9_4, .int .i64 ((((M.make g.rules g.now move).1).next).player)], rfl, ⟨(Ty.mono _ f17_2 hw.vis), (Ty.mono _ f17_5 hw.vis), rfl, trivial⟩, Mem.boxR (i := 7) rfl 3 3 w hw⟩ (by omega) (by omega))) ?_
          rintro v45 _ _ ⟨_, hR46, rfl, rfl⟩ _
          obtain ⟨vs47, rfl, hr47⟩ := hR46
          obtain ⟨v47_0, vs47_0, o47_0, ow47_0, rfl, hR47_0, hs47_0, rfl⟩ := RL_cons hr47
          obtain ⟨v47_1, vs47_1, o47_1, ow47_1, rfl, hR47_1, hs47_1, rfl⟩ := RL_cons hs47_0
          obtain ⟨v47_2, vs47_2, o47_2, ow47_2, rfl, hR47_2, hs47_2, rfl⟩ := RL_cons hs47_1
          obtain ⟨rfl, rfl⟩ := RL_nil hs47_2
          obtain ⟨A48, c48, rfl, rfl, bl48, bh48⟩ := hR47_0
          obtain ⟨A49, c49, rfl, rfl, bl49, bh49⟩ := hR47_1
          obtain ⟨rfl, rfl⟩ : v47_2 = .int .i64 ((((M.make g.rules g.now move).1).next).player) ∧ _ := hR47_2
          refine JL.q (OpP.q (p_fieldAddr fld_35_3 rfl)) ?_
          refine JL.s (e_store (i := 3) (c' := [.int .i64 g.rules.pits, .int .i64 g.rules.seeds, .bool g.rules.stores, .bool g.rules.skip, .bool g.rules.relay, .bool g.rules.feed, .bool g.rules.again, .int .i64 g.rules.capture, .int .i64 g.rules.slam, .slice A34 g.start.pits.length c34, .slice A35 g.start.stores.length c35, .int .i64 g.start.player, .slice A44 ((g.moves ++ [move]).length) c44, .slice A48 (((((M.make g.rules g.now move).1).next).pits).length) c48, .slice A49 (((((M.make g.rules g.now move).1).next).stores).length) c49, .int .i64 ((((M.make g.rules g.now move).1).next).player), .int .i64 g.resigned]) ty_33 rfl rfl rfl rfl rfl rfl rfl rfl) ?_
          rintro _ _ _ ⟨rfl, rfl⟩ _
          refine JL.nil ?_
          refine Js.seq ?_
          refine Js.region ?_
          refine JL.q (q_loadN ty_35 rfl (Mem.boxR (i := 3) rfl 0 17) rfl rfl) ?_
          refine JL.s (e_store (i := 10) (c' := [.int .i64 g.rules.pits, .int .i64 g.rules.seeds, .bool g.rules.stores, .bool g.rules.skip, .bool g.rules.relay, .bool g.rules.feed, .bool g.rules.again, .int .i64 g.rules.capture, .int .i64 g.rules.slam, .slice A34 g.start.pits.length c34, .slice A35 g.start.stores.length c35, .int .i64 g.start.player, .slice A44 ((g.moves ++ [move]).length) c44, .slice A48 (((((M.make g.rules g.now move).1).next).pits).length) c48, .slice A49 (((((M.make g.rules g.now move).1).next).stores).length) c49, .int .i64 ((((M.make g.rules g.now move).1).next).player), .int .i64 g.resigned]) ty_35 rfl rfl rfl rfl rfl rfl rfl rfl) ?_
          rintro _ _ _ ⟨rfl, rfl⟩ _
          refine JL.q (OpP.q (p_assign rfl)) ?_
          refine JL.nil ?_
          refine Js.ret (R := RO w (Ty.tup [Ty.agg (cGame ((M.play g move).1)), Ty.int ((M.play g move).2)])) @Try.results85 (fun _ _ => rfl) (ResOk.cell (res_box (i := 10) ty_35 rfl rfl rfl rfl rfl) (ResOk.tmp rfl ResOk.nil)) (fun w1 hw => ?_)
          have hx := hw.ext (x17)
          exact ret_own (ps := [(4, (Value.ownBlock (.slice A34 g.start.pits.length c34)).toList), (5, (Value.ownBlock (.slice A35 g.start.stores.length c35)).toList), (6, (Value.ownBlock (.slice A44 ((g.moves ++ [move]).length) c44)).toList), (0, (Value.ownBlock (.slice A48 (((((M.make g.rules g.now move).1).next).pits).length) c48)).toList), (1, (Value.ownBlock (.slice A49 (((((M.make g.rules g.now move).1).next).stores).length) c49)).toList)]) hw hx ⟨_, rfl, ⟨_, _, rfl, ⟨_, rfl, ⟨_, _, rfl, ⟨by first | (rw [hE]; done) | (rw [hE]; rfl), rfl⟩, ⟨_, _, rfl, ⟨by first | (rw [hE]; done) | (rw [hE]; rfl), rfl⟩, ⟨_, _, rfl, ⟨by first | (rw [hE]; done) | (rw [hE]; rfl), rfl⟩, ⟨_, _, rfl, ⟨by first | (rw [hE]; done) | (rw [hE]; rfl), rfl⟩, ⟨_, _, rfl, ⟨by first | (rw [hE]; done) | (rw [hE]; rfl), rfl⟩, ⟨_, _, rfl, ⟨by first | (rw [hE]; done) | (rw [hE]; rfl), rfl⟩, ⟨_, _, rfl, ⟨by first | (rw [hE]; done) | (rw [hE]; rfl), rfl⟩, ⟨_, _, rfl, ⟨by first | (rw [hE]; done) | (rw [hE]; rfl), rfl⟩, ⟨_, _, rfl, ⟨by first | (rw [hE]; done) | (rw [hE]; rfl), rfl⟩, ⟨_, _, rfl, (ints_row (xs := g.start.pits) (hw.pr (i := 4) rfl) (show g.start.pits = (((M.play g move).1).start).pits by first | (rw [hE]; done) | (rw [hE]; rfl))), ⟨_, _, rfl, (ints_row (xs := g.start.stores) (hw.pr (i := 5) rfl) (show g.start.stores = (((M.play g move).1).start).stores by first | (rw [hE]; done) | (rw [hE]; rfl))), ⟨_, _, rfl, ⟨by first | (rw [hE]; done) | (rw [hE]; rfl), rfl⟩, ⟨_, _, rfl, (ints_row (xs := (g.moves ++ [move])) (hw.pr (i := 6) rfl) (show g.moves ++ [move] = ((M.play g move).1).moves by first | (rw [hE]; done) | (rw [hE]; rfl))), ⟨_, _, rfl, (ints_row (xs := ((((M.make g.rules g.now move).1).next).pits)) (hw.pr (i := 0) rfl) (show (((M.make g.rules g.now move).1).next).pits = (((M.play g move).1).now).pits by first | (rw [hE]; done) | (rw [hE]; rfl))), ⟨_, _, rfl, (ints_row (xs := ((((M.make g.rules g.now move).1).next).stores)) (hw.pr (i := 1) rfl) (show (((M.make g.rules g.now move).1).next).stores = (((M.play g move).1).now).stores by first | (rw [hE]; done) | (rw [hE]; rfl))), ⟨_, _, rfl, ⟨by first | (rw [hE]; done) | (rw [hE]; rfl), rfl⟩, ⟨_, _, rfl, ⟨by first | (rw [hE]; done) | (rw [hE]; rfl), rfl⟩, rfl⟩⟩⟩⟩⟩⟩⟩⟩⟩⟩⟩⟩⟩⟩⟩⟩⟩⟩, ⟨_, _, rfl, ⟨by first | (rw [hE]; done) | (rw [hE]; rfl), rfl⟩, rfl⟩⟩⟩ (Pick.cons (j := 4) rfl (List.sublist_append_left _ _) rfl (Pick.cons (j := 5) rfl (List.sublist_append_left _ _) rfl (Pick.cons (j := 6) rfl (List.sublist_append_left _ _) rfl (Pick.cons (j := 0) rfl (List.sublist_append_left _ _) rfl (Pick.cons (j := 1) rfl (List.sublist_append_left _ _) rfl Pick.nil))))) (by simp [List.flatten, outV])

end Go.Proofs.Ytejnmechnhgmfaa

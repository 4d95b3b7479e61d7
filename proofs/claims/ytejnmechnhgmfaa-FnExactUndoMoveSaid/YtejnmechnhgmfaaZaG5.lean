/- Walks: G5. -/
import Derived.Test.YtejnmechnhgmfaaZaTy
import Derived.Test.YtejnmechnhgmfaaZaG4
set_option linter.unusedSimpArgs false
set_option linter.unusedVariables false
namespace Go.Proofs.Ytejnmechnhgmfaa
open Go.RowKit

set_option maxRecDepth 100000 in
set_option maxHeartbeats 400000 in
theorem c_impl_Game_played (g : M.Gam) (v_g : Value) (w : World) (h_g : (Ty.agg (cGame g)).ok w v_g) (r0 : g.start.pits.length ≤ 4194304) (r1 : g.start.stores.length ≤ 4194304) (r2 : g.moves.length ≤ 4194304) (r3 : g.now.pits.length ≤ 4194304) (r4 : g.now.stores.length ≤ 4194304) : Ret Try.prog 72 [v_g] w (Ty.tup [Ty.sl 33 3 (M.playedP g).length (lPosition (M.playedP g)), Ty.sl 84 6 (M.playedR g).length (lResultL (M.playedR g)), Ty.bool (M.playedOk g)]) := by
  obtain ⟨A1_9, c1_9, A1_10, c1_10, A1_12, c1_12, A1_13, c1_13, A1_14, c1_14, rfl, h1_9, h1_10, h1_12, h1_13, h1_14, bl1_9, bh1_9, bl1_10, bh1_10, bl1_12, bh1_12, bl1_13, bh1_13, bl1_14, bh1_14⟩ := open_Game h_g
  refine enter @Try.func72 @Try.ntmps72 rfl rfl ?_
  refine Js.seq ?_
  refine Js.region ?_
  refine JL.e (e_box (c := [.int .i64 g.rules.pits, .int .i64 g.rules.seeds, .bool g.rules.stores, .bool g.rules.skip, .bool g.rules.relay, .bool g.rules.feed, .bool g.rules.again, .int .i64 g.rules.capture, .int .i64 g.rules.slam, .slice A1_9 g.start.pits.length c1_9, .slice A1_10 g.start.stores.length c1_10, .int .i64 g.start.player, .slice A1_12 g.moves.length c1_12, .slice A1_13 g.now.pits.length c1_13, .slice A1_14 g.now.stores.length c1_14, .int .i64 g.now.player, .int .i64 g.resigned]) rfl rfl) ?_
  rintro _ _ _ ⟨b2, rfl, rfl, rfl⟩ _
  refine JL.q (OpP.q (p_assign rfl)) ?_
  refine JL.q (OpP.q (p_assign rfl)) ?_
  refine JL.q (OpP.q (p_assign rfl)) ?_
  refine JL.nil ?_
  refine Js.seq ?_
  refine Js.cut (fun l os u => ∃ (b10 : Nat) (b6 : Nat) (b8 : Nat) (A5_0 : Option Addr) (c5_0 : Nat) (A5_1 : Option Addr) (c5_1 : Nat) (f5 : List Nat), l = [(1, .pointer (some ⟨b2, 0, none⟩)), (5, .pointer (some ⟨b10, 0, none⟩)), (6, .slice (some ⟨b6, 0, none⟩) 1 1), (7, .slice (some ⟨b8, 0, none⟩) 0 0)] ∧ os = [boxO b10 [.slice A1_9 g.start.pits.length c1_9, .slice A1_10 g.start.stores.length c1_10, .int .i64 g.start.player] 33, rowO 84 6 (.slice (some ⟨b8, 0, none⟩) 0 0) 0 [] [], rowO 33 3 (.slice (some ⟨b6, 0, none⟩) 1 1) 1 [.slice A5_0 g.start.pits.length c5_0, .slice A5_1 g.start.stores.length c5_1, .int .i64 g.start.player] [], ownC (cPosition g.start) [.slice A5_0 g.start.pits.length c5_0, .slice A5_1 g.start.stores.length c5_1, .int .i64 g.start.player] f5, boxO b2 [.int .i64 g.rules.pits, .int .i64 g.rules.seeds, .bool g.rules.stores, .bool g.rules.skip, .bool g.rules.relay, .bool g.rules.feed, .bool g.rules.again, .int .i64 g.rules.capture, .int .i64 g.rules.slam, .slice A1_9 g.start.pits.length c1_9, .slice A1_10 g.start.stores.length c1_10, .int .i64 g.start.player, .slice A1_12 g.moves.length c1_12, .slice A1_13 g.now.pits.length c1_13, .slice A1_14 g.now.stores.length c1_14, .int .i64 g.now.player, .int .i64 g.resigned] 35] ∧ Up w.heap.size w u) ?_ ?_
  ·
    refine Js.drawn _ [8] mixed_ (fun _ h => h) ?_
    refine JH.p 0 rfl (p_fieldAddr fld_35_1 rfl) ?_
    refine JH.q 1 rfl (q_loadN ty_33 rfl (Mem.boxR (i := 0) rfl 9 3) rfl rfl) ?_
    refine JH.p 2 rfl (p_fieldAddr fld_35_1 rfl) ?_
    refine JH.q 3 rfl (q_loadN ty_33 rfl (Mem.boxR (i := 0) rfl 9 3) rfl rfl) ?_
    refine JH.all (rs := [4, 6, 7]) (by kernel_rfl) rfl ⟨?_, ?_, ?_, trivial⟩
    ·
      refine JHo.e rfl (e_callO fn_104 rfl (Spl_Position _) (fun w hw => c_impl_Position_copied g.start _ w ⟨_, rfl, ⟨(Ty.mono _ h1_9 hw.vis), (Ty.mono _ h1_10 hw.vis), rfl, trivial⟩⟩ (by omega) (by omega))) (.inl rfl) ?_
      rintro v102 _ _ ⟨_, hR103, rfl, rfl⟩ _
      obtain ⟨A104_0, c104_0, A104_1, c104_1, f104, rfl, rfl, bl104_0, bh104_0, bl104_1, bh104_1⟩ := hR103
      refine JH.all (rs := [5, 6, 7]) (by kernel_rfl) rfl ⟨?_, ?_, ?_, trivial⟩
      ·
        refine JHo.e rfl (e_buildSlice (vs := [.slice A104_0 g.start.pits.length c104_0, .slice A104_1 g.start.stores.length c104_1, .int .i64 g.start.player]) el_44 rfl rfl rfl rfl rfl rfl) (.inl rfl) ?_
        rintro _ _ _ ⟨b105, rfl, rfl, hl106, rfl⟩ _
        refine JH.all (rs := [6, 7]) (by kernel_rfl) rfl ⟨?_, ?_, trivial⟩
        ·
          refine JHo.e rfl (e_buildSlice (vs := []) el_74 rfl rfl rfl rfl rfl rfl) (.inl rfl) ?_
          rintro _ _ _ ⟨b107, rfl, rfl, hl108, rfl⟩ _
          refine JH.one (i := 7) (by kernel_rfl) ?_
          refine JHo.e rfl (e_alloc zero_33) (.inl rfl) ?_
          rintro _ _ _ ⟨b109, rfl, rfl, rfl⟩ _
          refine JH.one (i := 8) (by kernel_rfl) ?_
          refine JHo.s rfl (e_store (i := 0) (c' := [.slice A1_9 g.start.pits.length c1_9, .slice A1_10 g.start.stores.length c1_10, .int .i64 g.start.player]) ty_33 rfl rfl rfl rfl rfl rfl rfl rfl) (.inr rfl) ?_
          rintro _ _ _ ⟨rfl, rfl⟩ _
          refine JH.p 9 rfl (p_assign rfl) ?_
          refine JH.p 10 rfl (p_assign rfl) ?_
          refine JH.done (by kernel_rfl) ?_
          exact Js.meet ⟨_, _, _, _, _, _, _, _, rfl, rfl, Up.refl _ _⟩ ⟨rfl, rfl, rfl, rfl, trivial⟩
        ·
          refine JHo.e rfl (e_alloc zero_33) (.inl rfl) ?_
          rintro _ _ _ ⟨b110, rfl, rfl, rfl⟩ _
          refine JH.all (rs := [6, 8]) (by kernel_rfl) rfl ⟨?_, ?_, trivial⟩
          ·
            refine JHo.e rfl (e_buildSlice (vs := []) el_74 rfl rfl rfl rfl rfl rfl) (.inl rfl) ?_
            rintro _ _ _ ⟨b111, rfl, rfl, hl112, rfl⟩ _
            refine JH.one (i := 8) (by kernel_rfl) ?_
            refine JHo.s rfl (e_store (i := 1) (c' := [.slice A1_9 g.start.pits.length c1_9, .slice A1_10 g.start.stores.length c1_10, .int .i64 g.start.player]) ty_33 rfl rfl rfl rfl rfl rfl rfl rfl) (.inr rfl) ?_
            rintro _ _ _ ⟨rfl, rfl⟩ _
            refine JH.p 9 rfl (p_assign rfl) ?_
            refine JH.p 10 rfl (p_assign rfl) ?_
            refine JH.done (by kernel_rfl) ?_
            refine Js.front (i := 4) rfl ?_
            refine Js.front (i := 4) rfl ?_
            refine Js.front (i := 4) rfl ?_
            refine Js.front (i := 3) rfl ?_
            refine Js.front (i := 4) rfl ?_
            exact Js.meet ⟨_, _, _, _, _, _, _, _, rfl, rfl, Up.refl _ _⟩ ⟨rfl, rfl, rfl, rfl, trivial⟩
          ·
            refine JHo.s rfl (e_store (i := 0) (c' := [.slice A1_9 g.start.pits.length c1_9, .slice A1_10 g.start.stores.length c1_10, .int .i64 g.start.player]) ty_33 rfl rfl rfl rfl rfl rfl rfl rfl) (.inr rfl) ?_
            rintro _ _ _ ⟨rfl, rfl⟩ _
            refine JH.p 9 rfl (p_assign rfl) ?_
            refine JH.one (i := 6) (by kernel_rfl) ?_
            refine JHo.e rfl (e_buildSlice (vs := []) el_74 rfl rfl rfl rfl rfl rfl) (.inl rfl) ?_
            rintro _ _ _ ⟨b113, rfl, rfl, hl114, rfl⟩ _
            refine JH.p 10 rfl (p_assign rfl) ?_
            refine JH.done (by kernel_rfl) ?_
            refine Js.front (i := 4) rfl ?_
            refine Js.front (i := 4) rfl ?_
            refine Js.front (i := 4) rfl ?_
            refine Js.front (i := 3) rfl ?_
            refine Js.front (i := 4) rfl ?_
            exact Js.meet ⟨_, _, _, _, _, _, _, _, rfl, rfl, Up.refl _ _⟩ ⟨rfl, rfl, rfl, rfl, trivial⟩
      ·
        refine JHo.e rfl (e_buildSlice (vs := []) el_74 rfl rfl rfl rfl rfl rfl) (.inl rfl) ?_
        rintro _ _ _ ⟨b115, rfl, rfl, hl116, rfl⟩ _
        refine JH.all (rs := [5, 7]) (by kernel_rfl) rfl ⟨?_, ?_, trivial⟩
        ·
          refine JHo.e rfl (e_buildSlice (vs := [.slice A104_0 g.start.pits.length c104_0, .slice A104_1 g.start.stores.length c104_1, .int .i64 g.start.player]) el_44 rfl rfl rfl rfl rfl rfl) (.inl rfl) ?_
          rintro _ _ _ ⟨b117, rfl, rfl, hl118, rfl⟩ _
          refine JH.one (i := 7) (by kernel_rfl) ?_
          refine JHo.e rfl (e_alloc zero_33) (.inl rfl) ?_
          rintro _ _ _ ⟨b119, rfl, rfl, rfl⟩ _
          refine JH.one (i := 8) (by kernel_rfl) ?_
          refine JHo.s rfl (e_store (i := 0) (c' := [.slice A1_9 g.start.pits.length c1_9, .slice A1_10 g.start.stores.length c1_10, .int .i64 g.start.player]) ty_33 rfl rfl rfl rfl rfl rfl rfl rfl) (.inr rfl) ?_
          rintro _ _ _ ⟨rfl, rfl⟩ _
          refine JH.p 9 rfl (p_assign rfl) ?_
          refine JH.p 10 rfl (p_assign rfl) ?_
          refine JH.done (by kernel_rfl) ?_
          refine Js.front (i := 4) rfl ?_
          refine Js.front (i := 4) rfl ?_
          refine Js.front (i := 3) rfl ?_
          refine Js.front (i := 4) rfl ?_
          refine Js.front (i := 4) rfl ?_
          exact Js.meet ⟨_, _, _, _, _, _, _, _, rfl, rfl, Up.refl _ _⟩ ⟨rfl, rfl, rfl, rfl, trivial⟩
        ·
          refine JHo.e rfl (e_alloc zero_33) (.inl rfl) ?_
          rintro _ _ _ ⟨b120, rfl, rfl, rfl⟩ _
          refine JH.all (rs := [5, 8]) (by kernel_rfl) rfl ⟨?_, ?_, trivial⟩
          ·
            refine JHo.e rfl (e_buildSlice (vs := [.slice A104_0 g.start.pits.length c104_0, .slice A104_1 g.start.stores.length c104_1, .int .i64 g.start.player]) el_44 rfl rfl rfl rfl rfl rfl) (.inl rfl) ?_
            rintro _ _ _ ⟨b121, rfl, rfl, hl122, rfl⟩ _
            refine JH.one (i := 8) (by kernel_rfl) ?_
            refine JHo.s rfl (e_store (i := 1) (c' := [.slice A1_9 g.start.pits.length c1_9, .slice A1_10 g.start.stores.length c1_10, .int .i64 g.start.player]) ty_33 rfl rfl rfl rfl rfl rfl rfl rfl) (.inr rfl) ?_
            rintro _ _ _ ⟨rfl, rfl⟩ _
            refine JH.p 9 rfl (p_assign rfl) ?_
            refine JH.p 10 rfl (p_assign rfl) ?_
            refine JH.done (by kernel_rfl) ?_
            refine Js.front (i := 4) rfl ?_
            refine Js.front (i := 4) rfl ?_
            refine Js.front (i := 2) rfl ?_
            refine Js.front (i := 4) rfl ?_
            refine Js.front (i := 4) rfl ?_
            exact Js.meet ⟨_, _, _, _, _, _, _, _, rfl, rfl, Up.refl _ _⟩ ⟨rfl, rfl, rfl, rfl, trivial⟩
          ·
            refine JHo.s rfl (e_store (i := 0) (c' := [.slice A1_9 g.start.pits.length c1_9, .slice A1_10 g.start.stores.length c1_10, .int .i64 g.start.player]) ty_33 rfl rfl rfl rfl rfl rfl rfl rfl) (.inr rfl) ?_
            rintro _ _ _ ⟨rfl, rfl⟩ _
            refine JH.one (i := 5) (by kernel_rfl) ?_
            refine JHo.e rfl (e_buildSlice (vs := [.slice A104_0 g.start.pits.length c104_0, .slice A104_1 g.start.stores.length c104_1, .int .i64 g.start.player]) el_44 rfl rfl rfl rfl rfl rfl) (.inl rfl) ?_
            rintro _ _ _ ⟨b123, rfl, rfl, hl124, rfl⟩ _
            refine JH.p 9 rfl (p_assign rfl) ?_
            refine JH.p 10 rfl (p_assign rfl) ?_
            refine JH.done (by kernel_rfl) ?_
            refine Js.front (i := 4) rfl ?_
            refine Js.front (i := 4) rfl ?_
            refine Js.front (i := 2) rfl ?_
            refine Js.front (i := 4) rfl ?_
            refine Js.front (i := 4) rfl ?_
            exact Js.meet ⟨_, _, _, _, _, _, _, _, rfl, rfl, Up.refl _ _⟩ ⟨rfl, rfl, rfl, rfl, trivial⟩
      ·
        refine JHo.e rfl (e_alloc zero_33) (.inl rfl) ?_
        rintro _ _ _ ⟨b125, rfl, rfl, rfl⟩ _
        refine JH.all (rs := [5, 6, 8]) (by kernel_rfl) rfl ⟨?_, ?_, ?_, trivial⟩
        ·
          refine JHo.e rfl (e_buildSlice (vs := [.slice A104_0 g.start.pits.length c104_0, .slice A104_1 g.start.stores.length c104_1, .int .i64 g.start.player]) el_44 rfl rfl rfl rfl rfl rfl) (.inl rfl) ?_
          rintro _ _ _ ⟨b126, rfl, rfl, hl127, rfl⟩ _
          refine JH.all (rs := [6, 8]) (by kernel_rfl) rfl ⟨?_, ?_, trivial⟩
          ·
            refine JHo.e rfl (e_buildSlice (vs := []) el_74 rfl rfl rfl rfl rfl rfl) (.inl rfl) ?_
            rintro _ _ _ ⟨b128, rfl, rfl, hl129, rfl⟩ _
            refine JH.one (i := 8) (by kernel_rfl) ?_
            refine JHo.s rfl (e_store (i := 2) (c' := [.slice A1_9 g.start.pits.length c1_9, .slice A1_10 g.start.stores.length c1_10, .int .i64 g.start.player]) ty_33 rfl rfl rfl rfl rfl rfl rfl rfl) (.inr rfl) ?_
            rintro _ _ _ ⟨rfl, rfl⟩ _
            refine JH.p 9 rfl (p_assign rfl) ?_
            refine JH.p 10 rfl (p_assign rfl) ?_
            refine JH.done (by kernel_rfl) ?_
            refine Js.front (i := 4) rfl ?_
            refine Js.front (i := 4) rfl ?_
            refine Js.front (i := 3) rfl ?_
            refine Js.front (i := 3) rfl ?_
            refine Js.front (i := 4) rfl ?_
            exact Js.meet ⟨_, _, _, _, _, _, _, _, rfl, rfl, Up.refl _ _⟩ ⟨rfl, rfl, rfl, rfl, trivial⟩
          ·
            refine JHo.s rfl (e_store (i := 1) (c' := [.slice A1_9 g.start.pits.length c1_9, .slice A1_10 g.start.stores.length c1_10, .int .i64 g.start.player]) ty_33 rfl rfl rfl rfl rfl rfl rfl rfl) (.inr rfl) ?_
            rintro _ _ _ ⟨rfl, rfl⟩ _
            refine JH.p 9 rfl (p_assign rfl) ?_
            refine JH.one (i := 6) (by kernel_rfl) ?_
            refine JHo.e rfl (e_buildSlice (vs := []) el_74 rfl rfl rfl rfl rfl rfl) (.inl rfl) ?_
            rintro _ _ _ ⟨b130, rfl, rfl, hl131, rfl⟩ _
            refine JH.p 10 rfl (p_assign rfl) ?_
            refine JH.done (by kernel_rfl) ?_
            refine Js.front (i := 4) rfl ?_
            refine Js.front (i := 4) rfl ?_
            refine Js.front (i := 3) rfl ?_
            refine Js.front (i := 3) rfl ?_
            refine Js.front (i := 4) rfl ?_
            exact Js.meet ⟨_, _, _, _, _, _, _, _, rfl, rfl, Up.refl _ _⟩ ⟨rfl, rfl, rfl, rfl, trivial⟩
        ·
          refine JHo.e rfl (e_buildSlice (vs := []) el_74 rfl rfl rfl rfl rfl rfl) (.inl rfl) ?_
          rintro _ _ _ ⟨b132, rfl, rfl, hl133, rfl⟩ _
          refine JH.all (rs := [5, 8]) (by kernel_rfl) rfl ⟨?_, ?_, trivial⟩
          ·
            refine JHo.e rfl (e_buildSlice (vs := [.slice A104_0 g.start.pits.length c104_0, .slice A104_1 g.start.stores.length c104_1, .int .i64 g.start.player]) el_44 rfl rfl rfl rfl rfl rfl) (.inl rfl) ?_
            rintro _ _ _ ⟨b134, rfl, rfl, hl135, rfl⟩ _
            refine JH.one (i := 8) (by kernel_rfl) ?_
            refine JHo.s rfl (e_store (i := 2) (c' := [.slice A1_9 g.start.pits.length c1_9, .slice A1_10 g.start.stores.length c1_10, .int .i64 g.start.player]) ty_33 rfl rfl rfl rfl rfl rfl rfl rfl) (.inr rfl) ?_
            rintro _ _ _ ⟨rfl, rfl⟩ _
            refine JH.p 9 rfl (p_assign rfl) ?_
            refine JH.p 10 rfl (p_assign rfl) ?_
            refine JH.done (by kernel_rfl) ?_
            refine Js.front (i := 4) rfl ?_
            refine Js.front (i := 4) rfl ?_
            refine Js.front (i := 2) rfl ?_
            refine Js.front (i := 3) rfl ?_
            refine Js.front (i := 4) rfl ?_
            exact Js.meet ⟨_, _, _, _, _, _, _, _, rfl, rfl, Up.refl _ _⟩ ⟨rfl, rfl, rfl, rfl, trivial⟩
          ·
            refine JHo.s rfl (e_store (i := 1) (c' := [.slice A1_9 g.start.pits.length c1_9, .slice A1_10 g.start.stores.length c1_10, .int .i64 g.start.player]) ty_33 rfl rfl rfl rfl rfl rfl rfl rfl) (.inr rfl) ?_
            rintro _ _ _ ⟨rfl, rfl⟩ _
            refine JH.one (i := 5) (by kernel_rfl) ?_
            refine JHo.e rfl (e_buildSlice (vs := [.slice A104_0 g.start.pits.length c104_0, .slice A104_1 g.start.stores.length c104_1, .int .i64 g.start.player]) el_44 rfl rfl rfl rfl rfl rfl) (.inl rfl) ?_
            rintro _ _ _ ⟨b136, rfl, rfl, hl137, rfl⟩ _
            refine JH.p 9 rfl (p_assign rfl) ?_
            refine JH.p 10 rfl (p_assign rfl) ?_
            refine JH.done (by kernel_rfl) ?_
            refine Js.front (i := 4) rfl ?_
            refine Js.front (i := 4) rfl ?_
            refine Js.front (i := 2) rfl ?_
            refine Js.front (i := 3) rfl ?_
            refine Js.front (i := 4) rfl ?_
            exact Js.meet ⟨_, _, _, _, _, _, _, _, rfl, rfl, Up.refl _ _⟩ ⟨rfl, rfl, rfl, rfl, trivial⟩
        ·
          refine JHo.s rfl (e_store (i := 0) (c' := [.slice A1_9 g.start.pits.length c1_9, .slice A1_10 g.start.stores.length c1_10, .int .i64 g.start.player]) ty_33 rfl rfl rfl rfl rfl rfl rfl rfl) (.inr rfl) ?_
          rintro _ _ _ ⟨rfl, rfl⟩ _
          refine JH.all (rs := [5, 6]) (by kernel_rfl) rfl ⟨?_, ?_, trivial⟩
          ·
            refine JHo.e rfl (e_buildSlice (vs := [.slice A104_0 g.start.pits.length c104_0, .slice A104_1 g.start.stores.length c104_1, .int .i64 g.start.player]) el_44 rfl rfl rfl rfl rfl rfl) (.inl rfl) ?_
            rintro _ _ _ ⟨b138, rfl, rfl, hl139, rfl⟩ _
            refine JH.p 9 rfl (p_assign rfl) ?_
            refine JH.one (i := 6) (by kernel_rfl) ?_
            refine JHo.e rfl (e_buildSlice (vs := []) el_74 rfl rfl rfl rfl rfl rfl) (.inl rfl) ?_
            rintro _ _ _ ⟨b140, rfl, rfl, hl141, rfl⟩ _
            refine JH.p 10 rfl (p_assign rfl) ?_
            refine JH.done (by kernel_rfl) ?_
            refine Js.front (i := 4) rfl ?_
            refine Js.front (i := 4) rfl ?_
            refine Js.front (i := 3) rfl ?_
            refine Js.front (i := 3) rfl ?_
            refine Js.front (i := 4) rfl ?_
            exact Js.meet ⟨_, _, _, _, _, _, _, _, rfl, rfl, Up.refl _ _⟩ ⟨rfl, rfl, rfl, rfl, trivial⟩
          ·
            refine JHo.e rfl (e_buildSlice (vs := []) el_74 rfl rfl rfl rfl rfl rfl) (.inl rfl) ?_
            rintro _ _ _ ⟨b142, rfl, rfl, hl143, rfl⟩ _
            refine JH.one (i := 5) (by kernel_rfl) ?_
            refine JHo.e rfl (e_buildSlice (vs := [.slice A104_0 g.start.pits.length c104_0, .slice A104_1 g.start.stores.length c104_1, .int .i64 g.start.player]) el_44 rfl rfl rfl rfl rfl rfl) (.inl rfl) ?_
            rintro _ _ _ ⟨b144, rfl, rfl, hl145, rfl⟩ _
            refine JH.p 9 rfl (p_assign rfl) ?_
            refine JH.p 10 rfl (p_assign rfl) ?_
            refine JH.done (by kernel_rfl) ?_
            refine Js.front (i := 4) rfl ?_
            refine Js.front (i := 4) rfl ?_
            refine Js.front (i := 2) rfl ?_
            refine Js.front (i := 3) rfl ?_
            refine Js.front (i := 4) rfl ?_
            exact Js.meet ⟨_, _, _, _, _, _, _, _, rfl, rfl, Up.refl _ _⟩ ⟨rfl, rfl, rfl, rfl, trivial⟩
    ·
      refine JHo.e rfl (e_buildSlice (vs := []) el_74 rfl rfl rfl rfl rfl rfl) (.inl rfl) ?_
      rintro _ _ _ ⟨b146, rfl, rfl, hl147, rfl⟩ _
      refine JH.all (rs := [4, 7]) (by kernel_rfl) rfl ⟨?_, ?_, trivial⟩
      ·
        refine JHo.e rfl (e_callO fn_104 rfl (Spl_Position _) (fun w hw => c_impl_Position_copied g.start _ w ⟨_, rfl, ⟨(Ty.mono _ h1_9 hw.vis), (Ty.mono _ h1_10 hw.vis), rfl, trivial⟩⟩ (by omega) (by omega))) (.inl rfl) ?_
        rintro v148 _ _ ⟨_, hR149, rfl, rfl⟩ _
        obtain ⟨A150_0, c150_0, A150_1, c150_1, f150, rfl, rfl, bl150_0, bh150_0, bl150_1, bh150_1⟩ := hR149
        refine JH.all (rs := [5, 7]) (by kernel_rfl) rfl ⟨?_, ?_, trivial⟩
        ·
          refine JHo.e rfl (e_buildSlice (vs := [.slice A150_0 g.start.pits.length c150_0, .slice A150_1 g.start.stores.length c150_1, .int .i64 g.start.player]) el_44 rfl rfl rfl rfl rfl rfl) (.inl rfl) ?_
          rintro _ _ _ ⟨b151, rfl, rfl, hl152, rfl⟩ _
          refine JH.one (i := 7) (by kernel_rfl) ?_
          refine JHo.e rfl (e_alloc zero_33) (.inl rfl) ?_
          rintro _ _ _ ⟨b153, rfl, rfl, rfl⟩ _
          refine JH.one (i := 8) (by kernel_rfl) ?_
          refine JHo.s rfl (e_store (i := 0) (c' := [.slice A1_9 g.start.pits.length c1_9, .slice A1_10 g.start.stores.length c1_10, .int .i64 g.start.player]) ty_33 rfl rfl rfl rfl rfl rfl rfl rfl) (.inr rfl) ?_
          rintro _ _ _ ⟨rfl, rfl⟩ _
          refine JH.p 9 rfl (p_assign rfl) ?_
          refine JH.p 10 rfl (p_assign rfl) ?_
          refine JH.done (by kernel_rfl) ?_
          refine Js.front (i := 4) rfl ?_
          refine Js.front (i := 3) rfl ?_
          refine Js.front (i := 3) rfl ?_
          refine Js.front (i := 4) rfl ?_
          refine Js.front (i := 4) rfl ?_
          exact Js.meet ⟨_, _, _, _, _, _, _, _, rfl, rfl, Up.refl _ _⟩ ⟨rfl, rfl, rfl, rfl, trivial⟩
        ·
          refine JHo.e rfl (e_alloc zero_33) (.inl rfl) ?_
          rintro _ _ _ ⟨b154, rfl, rfl, rfl⟩ _
          refine JH.all (rs := [5, 8]) (by kernel_rfl) rfl ⟨?_, ?_, trivial⟩
          ·
            refine JHo.e rfl (e_buildSlice (vs := [.slice A150_0 g.start.pits.length c150_0, .slice A150_1 g.start.stores.length c150_1, .int .i64 g.start.player]) el_44 rfl rfl rfl rfl rfl rfl) (.inl rfl) ?_
            rintro _ _ _ ⟨b155, rfl, rfl, hl156, rfl⟩ _
            refine JH.one (i := 8) (by kernel_rfl) ?_
            refine JHo.s rfl (e_store (i := 1) (c' := [.slice A1_9 g.start.pits.length c1_9, .slice A1_10 g.start.stores.length c1_10, .int .i64 g.start.player]) ty_33 rfl rfl rfl rfl rfl rfl rfl rfl) (.inr rfl) ?_
            rintro _ _ _ ⟨rfl, rfl⟩ _
            refine JH.p 9 rfl (p_assign rfl) ?_
            refine JH.p 10 rfl (p_assign rfl) ?_
            refine JH.done (by kernel_rfl) ?_
            refine Js.front (i := 4) rfl ?_
            refine Js.front (i := 3) rfl ?_
            refine Js.front (i := 2) rfl ?_
            refine Js.front (i := 4) rfl ?_
            refine Js.front (i := 4) rfl ?_
            exact Js.meet ⟨_, _, _, _, _, _, _, _, rfl, rfl, Up.refl _ _⟩ ⟨rfl, rfl, rfl, rfl, trivial⟩
          ·
            refine JHo.s rfl (e_store (i := 0) (c' := [.slice A1_9 g.start.pits.length c1_9, .slice A1_10 g.start.stores.length c1_10, .int .i64 g.start.player]) ty_33 rfl rfl rfl rfl rfl rfl rfl rfl) (.inr rfl) ?_
            rintro _ _ _ ⟨rfl, rfl⟩ _
            refine JH.one (i := 5) (by kernel_rfl) ?_
            refine JHo.e rfl (e_buildSlice (vs := [.slice A150_0 g.start.pits.length c150_0, .slice A150_1 g.start.stores.length c150_1, .int .i64 g.start.player]) el_44 rfl rfl rfl rfl rfl rfl) (.inl rfl) ?_
            rintro _ _ _ ⟨b157, rfl, rfl, hl158, rfl⟩ _
            refine JH.p 9 rfl (p_assign rfl) ?_
            refine JH.p 10 rfl (p_assign rfl) ?_
            refine JH.done (by kernel_rfl) ?_
            refine Js.front (i := 4) rfl ?_
            refine Js.front (i := 3) rfl ?_
            refine Js.front (i := 2) rfl ?_
            refine Js.front (i := 4) rfl ?_
            refine Js.front (i := 4) rfl ?_
            exact Js.meet ⟨_, _, _, _, _, _, _, _, rfl, rfl, Up.refl _ _⟩ ⟨rfl, rfl, rfl, rfl, trivial⟩
      ·
        refine JHo.e rfl (e_alloc zero_33) (.inl rfl) ?_
        rintro _ _ _ ⟨b159, rfl, rfl, rfl⟩ _
        refine JH.one (i := 4) (by kernel_rfl) ?_
        refine JHo.e rfl (e_callO fn_104 rfl (Spl_Position _) (fun w hw => c_impl_Position_copied g.start _ w ⟨_, rfl, ⟨(Ty.mono _ h1_9 hw.vis), (Ty.mono _ h1_10 hw.vis), rfl, trivial⟩⟩ (by omega) (by omega))) (.inl rfl) ?_
        rintro v160 _ _ ⟨_, hR161, rfl, rfl⟩ _
        obtain ⟨A162_0, c162_0, A162_1, c162_1, f162, rfl, rfl, bl162_0, bh162_0, bl162_1, bh162_1⟩ := hR161
        refine JH.all (rs := [5, 8]) (by kernel_rfl) rfl ⟨?_, ?_, trivial⟩
        ·
          refine JHo.e rfl (e_buildSlice (vs := [.slice A162_0 g.start.pits.length c162_0, .slice A162_1 g.start.stores.length c162_1, .int .i64 g.start.player]) el_44 rfl rfl rfl rfl rfl rfl) (.inl rfl) ?_
          rintro _ _ _ ⟨b163, rfl, rfl, hl164, rfl⟩ _
          refine JH.one (i := 8) (by kernel_rfl) ?_
          refine JHo.s rfl (e_store (i := 2) (c' := [.slice A1_9 g.start.pits.length c1_9, .slice A1_10 g.start.stores.length c1_10, .int .i64 g.start.player]) ty_33 rfl rfl rfl rfl rfl rfl rfl rfl) (.inr rfl) ?_
          rintro _ _ _ ⟨rfl, rfl⟩ _
          refine JH.p 9 rfl (p_assign rfl) ?_
          refine JH.p 10 rfl (p_assign rfl) ?_
          refine JH.done (by kernel_rfl) ?_
          refine Js.front (i := 4) rfl ?_
          refine Js.front (i := 2) rfl ?_
          refine Js.front (i := 2) rfl ?_
          refine Js.front (i := 4) rfl ?_
          refine Js.front (i := 4) rfl ?_
          exact Js.meet ⟨_, _, _, _, _, _, _, _, rfl, rfl, Up.refl _ _⟩ ⟨rfl, rfl, rfl, rfl, trivial⟩
        ·
          refine JHo.s rfl (e_store (i := 1) (c' := [.slice A1_9 g.start.pits.length c1_9, .slice A1_10 g.start.stores.length c1_10, .int .i64 g.start.player]) ty_33 rfl rfl rfl rfl rfl rfl rfl rfl) (.inr rfl) ?_
          rintro _ _ _ ⟨rfl, rfl⟩ _
          refine JH.one (i := 5) (by kernel_rfl) ?_
          refine JHo.e rfl (e_buildSlice (vs := [.slice A162_0 g.start.pits.length c162_0, .slice A162_1 g.start.stores.length c162_1, .int .i64 g.start.player]) el_44 rfl rfl rfl rfl rfl rfl) (.inl rfl) ?_
          rintro _ _ _ ⟨b165, rfl, rfl, hl166, rfl⟩ _
          refine JH.p 9 rfl (p_assign rfl) ?_
          refine JH.p 10 rfl (p_assign rfl) ?_
          refine JH.done (by kernel_rfl) ?_
          refine Js.front (i := 4) rfl ?_
          refine Js.front (i := 2) rfl ?_
          refine Js.front (i := 2) rfl ?_
          refine Js.front (i := 4) rfl ?_
          refine Js.front (i := 4) rfl ?_
          exact Js.meet ⟨_, _, _, _, _, _, _, _, rfl, rfl, Up.refl _ _⟩ ⟨rfl, rfl, rfl, rfl, trivial⟩
    ·
      refine JHo.e rfl (e_alloc zero_33) (.inl rfl) ?_
      rintro _ _ _ ⟨b167, rfl, rfl, rfl⟩ _
      refine JH.all (rs := [4, 6]) (by kernel_rfl) rfl ⟨?_, ?_, trivial⟩
      ·
        refine JHo.e rfl (e_callO fn_104 rfl (Spl_Position _) (fun w hw => c_impl_Position_copied g.start _ w ⟨_, rfl, ⟨(Ty.mono _ h1_9 hw.vis), (Ty.mono _ h1_10 hw.vis), rfl, trivial⟩⟩ (by omega) (by omega))) (.inl rfl) ?_
        rintro v168 _ _ ⟨_, hR169, rfl, rfl⟩ _
        obtain ⟨A170_0, c170_0, A170_1, c170_1, f170, rfl, rfl, bl170_0, bh170_0, bl170_1, bh170_1⟩ := hR169
        refine JH.all (rs := [5, 6, 8]) (by kernel_rfl) rfl ⟨?_, ?_, ?_, trivial⟩
        ·
          refine JHo.e rfl (e_buildSlice (vs := [.slice A170_0 g.start.pits.length c170_0, .slice A170_1 g.start.stores.length c170_1, .int .i64 g.start.player]) el_44 rfl rfl rfl rfl rfl rfl) (.inl rfl) ?_
          rintro _ _ _ ⟨b171, rfl, rfl, hl172, rfl⟩ _
          refine JH.all (rs := [6, 8]) (by kernel_rfl) rfl ⟨?_, ?_, trivial⟩
          ·
            refine JHo.e rfl (e_buildSlice (vs := []) el_74 rfl rfl rfl rfl rfl rfl) (.inl rfl) ?_
            rintro _ _ _ ⟨b173, rfl, rfl, hl174, rfl⟩ _
            refine JH.one (i := 8) (by kernel_rfl) ?_
            refine JHo.s rfl (e_store (i := 3) (c' := [.slice A1_9 g.start.pits.length c1_9, .slice A1_10 g.start.stores.length c1_10, .int .i64 g.start.player]) ty_33 rfl rfl rfl rfl rfl rfl rfl rfl) (.inr rfl) ?_
            rintro _ _ _ ⟨rfl, rfl⟩ _
            refine JH.p 9 rfl (p_assign rfl) ?_
            refine JH.p 10 rfl (p_assign rfl) ?_
            refine JH.done (by kernel_rfl) ?_
            refine Js.front (i := 4) rfl ?_
            refine Js.front (i := 3) rfl ?_
            refine Js.front (i := 3) rfl ?_
            refine Js.front (i := 3) rfl ?_
            refine Js.front (i := 4) rfl ?_
            exact Js.meet ⟨_, _, _, _, _, _, _, _, rfl, rfl, Up.refl _ _⟩ ⟨rfl, rfl, rfl, rfl, trivial⟩
          ·
            refine JHo.s rfl (e_store (i := 2) (c' := [.slice A1_9 g.start.pits.length c1_9, .slice A1_10 g.start.stores.length c1_10, .int .i64 g.start.player]) ty_33 rfl rfl rfl rfl rfl rfl rfl rfl) (.inr rfl) ?_
            rintro _ _ _ ⟨rfl, rfl⟩ _
            refine JH.p 9 rfl (p_assign rfl) ?_
            refine JH.one (i := 6) (by kernel_rfl) ?_
            refine JHo.e rfl (e_buildSlice (vs := []) el_74 rfl rfl rfl rfl rfl rfl) (.inl rfl) ?_
            rintro _ _ _ ⟨b175, rfl, rfl, hl176, rfl⟩ _
            refine JH.p 10 rfl (p_assign rfl) ?_
            refine JH.done (by kernel_rfl) ?_
            refine Js.front (i := 4) rfl ?_
            refine Js.front (i := 3) rfl ?_
            refine Js.front (i := 3) rfl ?_
            refine Js.front (i := 3) rfl ?_
            refine Js.front (i := 4) rfl ?_
            exact Js.meet ⟨_, _, _, _, _, _, _, _, rfl, rfl, Up.refl _ _⟩ ⟨rfl, rfl, rfl, rfl, trivial⟩
        ·
          refine JHo.e rfl (e_buildSlice (vs := []) el_74 rfl rfl rfl rfl rfl rfl) (.inl rfl) ?_
          rintro _ _ _ ⟨b177, rfl, rfl, hl178, rfl⟩ _
          refine JH.all (rs := [5, 8]) (by kernel_rfl) rfl ⟨?_, ?_, trivial⟩
          ·
            refine JHo.e rfl (e_buildSlice (vs := [.slice A170_0 g.start.pits.length c170_0, .slice A170_1 g.start.stores.length c170_1, .int .i64 g.start.player]) el_44 rfl rfl rfl rfl rfl rfl) (.inl rfl) ?_
            rintro _ _ _ ⟨b179, rfl, rfl, hl180, rfl⟩ _
            refine JH.one (i := 8) (by kernel_rfl) ?_
            refine JHo.s rfl (e_store (i := 3) (c' := [.slice A1_9 g.start.pits.length c1_9, .slice A1_10 g.start.stores.length c1_10, .int .i64 g.start.player]) ty_33 rfl rfl rfl rfl rfl rfl rfl rfl) (.inr rfl) ?_
            rintro _ _ _ ⟨rfl, rfl⟩ _
            refine JH.p 9 rfl (p_assign rfl) ?_
            refine JH.p 10 rfl (p_assign rfl) ?_
            refine JH.done (by kernel_rfl) ?_
            refine Js.front (i := 4) rfl ?_
            refine Js.front (i := 3) rfl ?_
            refine Js.front (i := 2) rfl ?_
            refine Js.front (i := 3) rfl ?_
            refine Js.front (i := 4) rfl ?_
            exact Js.meet ⟨_, _, _, _, _, _, _, _, rfl, rfl, Up.refl _ _⟩ ⟨rfl, rfl, rfl, rfl, trivial⟩
          ·
            refine JHo.s rfl (e_store (i := 2) (c' := [.slice A1_9 g.start.pits.length c1_9, .slice A1_10 g.start.stores.length c1_10, .int .i64 g.start.player]) ty_33 rfl rfl rfl rfl rfl rfl rfl rfl) (.inr rfl) ?_
            rintro _ _ _ ⟨rfl, rfl⟩ _
            refine JH.one (i := 5) (by kernel_rfl) ?_
            refine JHo.e rfl (e_buildSlice (vs := [.slice A170_0 g.start.pits.length c170_0, .slice A170_1 g.start.stores.length c170_1, .int .i64 g.start.player]) el_44 rfl rfl rfl rfl rfl rfl) (.inl rfl) ?_
            rintro _ _ _ ⟨b181, rfl, rfl, hl182, rfl⟩ _
            refine JH.p 9 rfl (p_assign rfl) ?_
            refine JH.p 10 rfl (p_assign rfl) ?_
            refine JH.done (by kernel_rfl) ?_
            refine Js.front (i := 4) rfl ?_
            refine Js.front (i := 3) rfl ?_
            refine Js.front (i := 2) rfl ?_
            refine Js.front (i := 3) rfl ?_
            refine Js.front (i := 4) rfl ?_
            exact Js.meet ⟨_, _, _, _, _, _, _, _, rfl, rfl, Up.refl _ _⟩ ⟨rfl, rfl, rfl, rfl, trivial⟩
        ·
          refine JHo.s rfl (e_store (i := 1) (c' := [.slice A1_9 g.start.pits.length c1_9, .slice A1_10 g.start.stores.length c1_10, .int .i64 g.start.player]) ty_33 rfl rfl rfl rfl rfl rfl rfl rfl) (.inr rfl) ?_
          rintro _ _ _ ⟨rfl, rfl⟩ _
          refine JH.all (rs := [5, 6]) (by kernel_rfl) rfl ⟨?_, ?_, trivial⟩
          ·
            refine JHo.e rfl (e_buildSlice (vs := [.slice A170_0 g.start.pits.length c170_0, .slice A170_1 g.start.stores.length c170_1, .int .i64 g.start.player]) el_44 rfl rfl rfl rfl rfl rfl) (.inl rfl) ?_
            rintro _ _ _ ⟨b183, rfl, rfl, hl184, rfl⟩ _
            refine JH.p 9 rfl (p_assign rfl) ?_
            refine JH.one (i := 6) (by kernel_rfl) ?_
            refine JHo.e rfl (e_buildSlice (vs := []) el_74 rfl rfl rfl rfl rfl rfl) (.inl rfl) ?_
            rintro _ _ _ ⟨b185, rfl, rfl, hl186, rfl⟩ _
            refine JH.p 10 rfl (p_assign rfl) ?_
            refine JH.done (by kernel_rfl) ?_
            refine Js.front (i := 4) rfl ?_
            refine Js.front (i := 3) rfl ?_
            refine Js.front (i := 3) rfl ?_
            refine Js.front (i := 3) rfl ?_
            refine Js.front (i := 4) rfl ?_
            exact Js.meet ⟨_, _, _, _, _, _, _, _, rfl, rfl, Up.refl _ _⟩ ⟨rfl, rfl, rfl, rfl, trivial⟩
          ·
            refine JHo.e rfl (e_buildSlice (vs := []) el_74 rfl rfl rfl rfl rfl rfl) (.inl rfl) ?_
            rintro _ _ _ ⟨b187, rfl, rfl, hl188, rfl⟩ _
            refine JH.one (i := 5) (by kernel_rfl) ?_
            refine JHo.e rfl (e_buildSlice (vs := [.slice A170_0 g.start.pits.length c170_0, .slice A170_1 g.start.stores.length c170_1, .int .i64 g.start.player]) el_44 rfl rfl rfl rfl rfl rfl) (.inl rfl) ?_
            rintro _ _ _ ⟨b189, rfl, rfl, hl190, rfl⟩ _
            refine JH.p 9 rfl (p_assign rfl) ?_
            refine JH.p 10 rfl (p_assign rfl) ?_
            refine JH.done (by kernel_rfl) ?_
            refine Js.front (i := 4) rfl ?_
            refine Js.front (i := 3) rfl ?_
            refine Js.front (i := 2) rfl ?_
            refine Js.front (i := 3) rfl ?_
            refine Js.front (i := 4) rfl ?_
            exact Js.meet ⟨_, _, _, _, _, _, _, _, rfl, rfl, Up.refl _ _⟩ ⟨rfl, rfl, rfl, rfl, trivial⟩
      ·
        refine JHo.e rfl (e_buildSlice (vs := []) el_74 rfl rfl rfl rfl rfl rfl) (.inl rfl) ?_
        rintro _ _ _ ⟨b191, rfl, rfl, hl192, rfl⟩ _
        refine JH.one (i := 4) (by kernel_rfl) ?_
        refine JHo.e rfl (e_callO fn_104 rfl (Spl_Position _) (fun w hw => c_impl_Position_copied g.start _ w ⟨_, rfl, ⟨(Ty.mono _ h1_9 hw.vis), (Ty.mono _ h1_10 hw.vis), rfl, trivial⟩⟩ (by omega) (by omega))) (.inl rfl) ?_
        rintro v193 _ _ ⟨_, hR194, rfl, rfl⟩ _
        obtain ⟨A195_0, c195_0, A195_1, c195_1, f195, rfl, rfl, bl195_0, bh195_0, bl195_1, bh195_1⟩ := hR194
        refine JH.all (rs := [5, 8]) (by kernel_rfl) rfl ⟨?_, ?_, trivial⟩
        ·
          refine JHo.e rfl (e_buildSlice (vs := [.slice A195_0 g.start.pits.length c195_0, .slice A195_1 g.start.stores.length c195_1, .int .i64 g.start.player]) el_44 rfl rfl rfl rfl rfl rfl) (.inl rfl) ?_
          rintro _ _ _ ⟨b196, rfl, rfl, hl197, rfl⟩ _
          refine JH.one (i := 8) (by kernel_rfl) ?_
          refine JHo.s rfl (e_store (i := 3) (c' := [.slice A1_9 g.start.pits.length c1_9, .slice A1_10 g.start.stores.length c1_10, .int .i64 g.start.player]) ty_33 rfl rfl rfl rfl rfl rfl rfl rfl) (.inr rfl) ?_
          rintro _ _ _ ⟨rfl, rfl⟩ _
          refine JH.p 9 rfl (p_assign rfl) ?_
          refine JH.p 10 rfl (p_assign rfl) ?_
          refine JH.done (by kernel_rfl) ?_
          refine Js.front (i := 4) rfl ?_
          refine Js.front (i := 2) rfl ?_
          refine Js.front (i := 2) rfl ?_
          refine Js.front (i := 3) rfl ?_
          refine Js.front (i := 4) rfl ?_
          exact Js.meet ⟨_, _, _, _, _, _, _, _, rfl, rfl, Up.refl _ _⟩ ⟨rfl, rfl, rfl, rfl, trivial⟩
        ·
          refine JHo.s rfl (e_store (i := 2) (c' := [.slice A1_9 g.start.pits.length c1_9, .slice A1_10 g.start.stores.length c1_10, .int .i64 g.start.player]) ty_33 rfl rfl rfl rfl rfl rfl rfl rfl) (.inr rfl) ?_
          rintro _ _ _ ⟨rfl, rfl⟩ _
          refine JH.one (i := 5) (by kernel_rfl) ?_
          refine JHo.e rfl (e_buildSlice (vs := [.slice A195_0 g.start.pits.length c195_0, .slice A195_1 g.start.stores.length c195_1, .int .i64 g.start.player]) el_44 rfl rfl rfl rfl rfl rfl) (.inl rfl) ?_
          rintro _ _ _ ⟨b198, rfl, rfl, hl199, rfl⟩ _
          refine JH.p 9 rfl (p_assign rfl) ?_
          refine JH.p 10 rfl (p_assign rfl) ?_
          refine JH.done (by kernel_rfl) ?_
          refine Js.front (i := 4) rfl ?_
          refine Js.front (i := 2) rfl ?_
          refine Js.front (i := 2) rfl ?_
          refine Js.front (i := 3) rfl ?_
          refine Js.front (i := 4) rfl ?_
          exact Js.meet ⟨_, _, _, _, _, _, _, _, rfl, rfl, Up.refl _ _⟩ ⟨rfl, rfl, rfl, rfl, trivial⟩
  · rintro _ _ u101 ⟨b10, b6, b8, A5_0, c5_0, A5_1, c5_1, f5, rfl, rfl, x101⟩
    refine Js.seq ?_
    refine Js.seq ?_
    refine Js.region ?_
    refine JL.q (OpP.q (p_fieldAddr fld_35_2 rfl)) ?_
    refine JL.q (q_load1 ty_24 rfl (Mem.box (i := 4) rfl rfl)) ?_
    refine JL.q (OpP.q (p_len el_24 rfl)) ?_
    refine JL.q (OpP.q (p_move rfl)) ?_
    refine JL.nil ?_
    refine Js.block ?_
    refine Js.vals (Ts := lPosition []) (vs := []) (fun w => rfl) ?_
    refine Js.joinL (i := 0) (j := 3) (Vs := lPosition ([] ++ [g.start])) rfl rfl (lPosition_snoc _ _) (fun f202 => ?_)
    refine Js.vals (Ts := lResultL []) (vs := []) (fun w => rfl) ?_
    refine Js.loop (fun l os u m => ∃ (k : Nat) (now : M.Pos) (out : List M.Pos) (made : List M.Res) (A200_6 : Option Addr) (c200_6 : Nat) (g200_6 : List Nat) (vs200_6 : List Value) (fl200_6 : List Nat) (A200_7 : Option Addr) (c200_7 : Nat) (g200_7 : List Nat) (vs200_7 : List Value) (fl200_7 : List Nat) (A200_5_0 : Option Addr) (c200_5_0 : Nat) (A200_5_1 : Option Addr) (c200_5_1 : Nat), l = [(1, .pointer (some ⟨b2, 0, none⟩)), (5, .pointer (some ⟨b10, 0, none⟩)), (6, .slice A200_6 out.length c200_6), (7, .slice A200_7 made.length c200_7), (20, .slice A1_12 g.moves.length c1_12), (21, .int .i64 (g.moves.length : Int)), (22, .int .i64 (k : Int))] ∧ os = [ownC (lResultL made) vs200_7 fl200_7, ownC (lPosition out) vs200_6 fl200_6, boxO b10 [.slice A200_5_0 now.pits.length c200_5_0, .slice A200_5_1 now.stores.length c200_5_1, .int .i64 now.player] 33, rowO 84 6 (.slice A200_7 made.length c200_7) made.length vs200_7 g200_7, rowO 33 3 (.slice A200_6 out.length c200_6) out.length vs200_6 g200_6, boxO b2 [.int .i64 g.rules.pits, .int .i64 g.rules.seeds, .bool g.rules.stores, .bool g.rules.skip, .bool g.rules.relay, .bool g.rules.feed, .bool g.rules.again, .int .i64 g.rules.capture, .int .i64 g.rules.slam, .slice A1_9 g.start.pits.length c1_9, .slice A1_10 g.start.stores.length c1_10, .int .i64 g.start.player, .slice A1_12 g.moves.length c1_12, .slice A1_13 g.now.pits.length c1_13, .slice A1_14 g.now.stores.length c1_14, .int .i64 g.now.player, .int .i64 g.resigned] 35] ∧ Up w.heap.size u101 u ∧ (M.Run g.rules g.start g.moves k now made) ∧ (out = M.hist g.start made) ∧ (now.pits.length ≤ 4194304) ∧ (now.stores.length ≤ 4194304) ∧ (out.length ≤ c200_6) ∧ (c200_6 ≤ 9223372036854775807) ∧ (made.length ≤ c200_7) ∧ (c200_7 ≤ 9223372036854775807) ∧ ((Ty.ints 2 now.pits).ok u (.slice A200_5_0 now.pits.length c200_5_0)) ∧ (now.pits.length ≤ c200_5_0) ∧ (c200_5_0 ≤ 9223372036854775807) ∧ ((Ty.ints 2 now.stores).ok u (.slice A200_5_1 now.stores.length c200_5_1)) ∧ (now.stores.length ≤ c200_5_1) ∧ (c200_5_1 ≤ 9223372036854775807) ∧ m = g.moves.length - k) ⟨0, g.start, [g.start], [], _, _, _, _, _, _, _, _, _, _, _, _, _, _, rfl, rfl, Up.refl _ _, by exact M.Run.zero _ _ _, by rfl, by first | assumption | omega | rfl | (simp; done), by first | assumption | omega | rfl | (simp; done), by first | omega | (simp only [List.length_append, List.length_cons, List.length_nil] <;> omega), by first | omega | (simp only [List.length_append, List.length_cons, List.length_nil] <;> omega), by first | omega | (simp only [List.length_append, List.length_cons, List.length_nil] <;> omega), by first | omega | (simp only [List.length_append, List.length_cons, List.length_nil] <;> omega), (Ty.mono _ h1_9 x101.vis), by first | omega | (simp only [List.length_append, List.length_cons, List.length_nil] <;> omega), by first | omega | (simp only [List.length_append, List.length_cons, List.length_nil] <;> omega), (Ty.mono _ h1_10 x101.vis), by first | omega | (simp only [List.length_append, List.length_cons, List.length_nil] <;> omega), by first | omega | (simp only [List.length_append, List.length_cons, List.length_nil] <;> omega), rfl⟩ ⟨rfl, rfl, rfl, rfl, rfl, rfl, rfl, trivial⟩ ?_
    · rintro _ _ u200 _ ⟨k, now, out, made, A200_6, c200_6, g200_6, vs200_6, fl200_6, A200_7, c200_7, g200_7, vs200_7, fl200_7, A200_5_0, c200_5_0, A200_5_1, c200_5_1, rfl, rfl, x200, hR, hO, n0, n1, f200_4, f200_5, f200_6, f200_7, f200_8, f200_9, f200_10, f200_11, f200_12, f200_13, rfl⟩
      have hl1 := hR.len
      have hl3 := hR.le
      have hlO : out.length = made.length + 1 := by rw [hO]; simp
      refine Js.seq ?_
      refine Js.region ?_
      refine JL.q (OpP.q (p_lss rfl rfl)) ?_
      refine JL.nil ?_
      refine Js.seq ?_
      refine Js.cond rfl (fun h203 => ?_) (fun h203 => ?_)
      ·
        have h203' := h203
        try simp only [decide_eq_true_eq] at h203'
        refine Js.skip ?_
        refine Js.seq ?_
        refine Js.block ?_
        refine Js.seq ?_
        refine Js.region ?_
        obtain ⟨b204, o204, he204, hc204⟩ := ints_elem (Ty.mono _ h1_12 (x101.vis.trans x200.vis)) (i := k) (by omega)
        refine JL.q (OpP.q (p_indexAddr el_24 rfl rfl (by omega) (by omega) he204)) ?_
        refine JL.q (q_load1 ty_2 rfl (Mem.pub hc204)) ?_
        refine JL.q (OpP.q (p_assign rfl)) ?_
        refine JL.nil ?_
        refine Js.seq ?_
        refine Js.region ?_
        refine JL.q (OpP.q (p_fieldAddr fld_35_0 rfl)) ?_
        refine JL.q (q_loadN ty_32 rfl (Mem.boxR (i := 5) rfl 0 9) rfl rfl) ?_
        refine JL.q (q_loadN ty_33 rfl (Mem.boxR (i := 2) rfl 0 3) rfl rfl) ?_
        refine JL.q (OpP.q (p_move rfl)) ?_
        refine JL.e (e_callP fn_102 rfl (fun w hw => c_impl_Rules_resultOf g.rules _ now _ (M.nth g.moves k) w ⟨_, rfl, ⟨rfl, rfl, rfl, rfl, rfl, rfl, rfl, rfl, rfl, trivial⟩⟩ ⟨_, rfl, ⟨(Ty.mono _ f200_8 hw.vis), (Ty.mono _ f200_11 hw.vis), rfl, trivial⟩⟩ (by omega) (by omega))) ?_
        rintro v205 _ u207 ⟨h206, rfl⟩ x207
        obtain ⟨vs208, rfl, hv208⟩ := h206
        obtain ⟨v208_0, vs208, rfl, hw208_0, hv208⟩ := cellsOk_cons hv208
        obtain ⟨v208_1, vs208, rfl, hw208_1, hv208⟩ := cellsOk_cons hv208
        obtain rfl := cellsOk_nil hv208
        obtain ⟨A209_3, c209_3, A209_4, c209_4, rfl, h209_3, h209_4, bl209_3, bh209_3, bl209_4, bh209_4⟩ := open_Result hw208_0
        obtain rfl : v208_1 = .int .i64 ((M.make g.rules now (M.nth g.moves k)).2) := hw208_1
        refine JL.q (OpP.q (p_move rfl)) ?_
        refine JL.q (OpP.q (p_extract rfl rfl)) ?_
        refine JL.q (OpP.q (p_extract rfl rfl)) ?_
        refine JL.e (e_alloc zero_84) ?_
        rintro _ _ _ ⟨b210, rfl, rfl, rfl⟩ _
        refine JL.s (e_store (i := 0) (c' := [.int .i64 (((M.make g.rules now (M.nth g.moves k)).1).move), .int .i64 (((M.make g.rules now (M.nth g.moves k)).1).gain), .bool (((M.make g.rules now (M.nth g.moves k)).1).again), .slice A209_3 (((((M.make g.rules now (M.nth g.moves k)).1).next).pits).length) c209_3, .slice A209_4 (((((M.make g.rules now (M.nth g.moves k)).1).next).stores).length) c209_4, .int .i64 ((((M.make g.rules now (M.nth g.moves k)).1).next).player)]) ty_84 rfl rfl rfl rfl rfl rfl rfl rfl) ?_
        rintro _ _ _ ⟨rfl, rfl⟩ _
        refine JL.q (OpP.q (p_assign rfl)) ?_
        refine JL.nil ?_
        refine Js.seq ?_
        refine Js.seq ?_
        refine Js.region ?_
        refine JL.q (OpP.q (p_move rfl)) ?_
        refine JL.q (OpP.q (p_neq rfl rfl)) ?_
        refine JL.nil ?_
        refine Js.cond rfl (fun h211 => ?_) (fun h211 => ?_)
        ·
          have h211' := h211
          try simp only [Bool.not_eq_true', decide_eq_false_iff_not] at h211'
          obtain ⟨hP1, hP2, hP3⟩ := hR.broken (by omega) (by simpa using h211)
          refine Js.seq ?_
          refine Js.region ?_
          refine JL.q (OpP.q (p_assign rfl)) ?_
          refine JL.q (OpP.q (p_assign rfl)) ?_
          refine JL.q (OpP.q (p_assign rfl)) ?_
          refine JL.nil ?_
          refine Js.ret (R := RO w (Ty.tup [Ty.sl 33 3 (M.playedP g).length (lPosition (M.playedP g)), Ty.sl 84 6 (M.playedR g).length (lResultL (M.playedR g)), Ty.bool (M.playedOk g)])) @Try.results72 (fun _ _ => rfl) (ResOk.tmp rfl (ResOk.tmp rfl (ResOk.tmp rfl ResOk.nil))) (fun w1 hw => ?_)
          have hx := hw.ext (((x101.trans x200).trans x207))
          exact ret_own (ps := []) hw hx ⟨_, rfl, ⟨_, _, rfl, (snil_own lPosition (show [] = M.playedP g by first | exact hP1.symm | exact congrArg Value.bool hP1.symm | exact hP2.symm | exact hP3.symm)), ⟨_, _, rfl, (snil_own lResultL (show [] = M.playedR g by first | exact hP1.symm | exact congrArg Value.bool hP1.symm | exact hP2.symm | exact hP3.symm)), ⟨_, _, rfl, ⟨by first | exact hP1.symm | exact congrArg Value.bool hP1.symm | exact hP2.symm | exact hP3.symm, rfl⟩, rfl⟩⟩⟩⟩ Pick.nil (by simp [List.flatten, outV])
        ·
          have h211' := h211
          try simp only [Bool.not_eq_false', decide_eq_true_eq] at h211'
          have hm : (M.make g.rules now (M.nth g.moves k)).2 = 0 := by simpa using h211
          have hR2 := hR.step (by omega) hm
          have hl2 := M.okP_len (M.make_ok hm).2.2.2.1
          refine Js.skip ?_
          refine Js.seq ?_
          refine Js.region ?_
          refine JL.q (OpP.q (p_fieldAddr fld_84_3 rfl)) ?_
          refine JL.q (q_loadN ty_33 rfl (Mem.boxR (i := 0) rfl 3 3) rfl rfl) ?_
          refine JL.s (e_store (i := 3) (c' := [.slice A209_3 (((((M.make g.rules now (M.nth g.moves k)).1).next).pits).length) c209_3, .slice A209_4 (((((M.make g.rules now (M.nth g.moves k)).1).next).stores).length) c209_4, .int .i64 ((((M.make g.rules now (M.nth g.moves k)).1).next).player)]) ty_33 rfl rfl rfl rfl rfl rfl rfl rfl) ?_
          rintro _ _ _ ⟨rfl, rfl⟩ _
          refine JL.nil ?_
          refine Js.cut (fun l os u => ∃ (A219 : Option Addr) (c219 : Nat) (A224 : Option Addr) (c224 : Nat) (b220 : Nat) (b215 : Nat) (A214_0 : Option Addr) (c214_0 : Nat) (A214_1 : Option Addr) (c214_1 : Nat) (f214 : List Nat) (g223 : List Nat) (g218 : List Nat), l = [(1, .pointer (some ⟨b2, 0, none⟩)), (5, .pointer (some ⟨b10, 0, none⟩)), (6, .slice A219 ((out ++ [(((M.make g.rules now (M.nth g.moves k)).1).next)]).length) c219), (7, .slice A224 ((made ++ [((M.make g.rules now (M.nth g.moves k)).1)]).length) c224), (20, .slice A1_12 g.moves.length c1_12), (21, .int .i64 (g.moves.length : Int)), (22, .int .i64 (k : Int))] ∧ os = [rowO 84 6 (.slice (some ⟨b220, 0, none⟩) 1 1) 1 [.int .i64 (((M.make g.rules now (M.nth g.moves k)).1).move), .int .i64 (((M.make g.rules now (M.nth g.moves k)).1).gain), .bool (((M.make g.rules now (M.nth g.moves k)).1).again), .slice A209_3 (((((M.make g.rules now (M.nth g.moves k)).1).next).pits).length) c209_3, .slice A209_4 (((((M.make g.rules now (M.nth g.moves k)).1).next).stores).length) c209_4, .int .i64 ((((M.make g.rules now (M.nth g.moves k)).1).next).player)] [], rowO 33 3 (.slice (some ⟨b215, 0, none⟩) 1 1) 1 [.slice A214_0 (((((M.make g.rules now (M.nth g.moves k)).1).next).pits).length) c214_0, .slice A214_1 (((((M.make g.rules now (M.nth g.moves k)).1).next).stores).length) c214_1, .int .i64 ((((M.make g.rules now (M.nth g.moves k)).1).next).player)] [], ownC (cPosition (((M.make g.rules now (M.nth g.moves k)).1).next)) [.slice A214_0 (((((M.make g.rules now (M.nth g.moves k)).1).next).pits).length) c214_0, .slice A214_1 (((((M.make g.rules now (M.nth g.moves k)).1).next).stores).length) c214_1, .int .i64 ((((M.make g.rules now (M.nth g.moves k)).1).next).player)] f214, boxO b210 [.int .i64 (((M.make g.rules now (M.nth g.moves k)).1).move), .int .i64 (((M.make g.rules now (M.nth g.moves k)).1).gain), .bool (((M.make g.rules now (M.nth g.moves k)).1).again), .slice A209_3 (((((M.make g.rules now (M.nth g.moves k)).1).next).pits).length) c209_3, .slice A209_4 (((((M.make g.rules now (M.nth g.moves k)).1).next).stores).length) c209_4, .int .i64 ((((M.make g.rules now (M.nth g.moves k)).1).next).player)] 84, ownC (lResultL made) vs200_7 fl200_7, ownC (lPosition out) vs200_6 fl200_6, boxO b10 [.slice A209_3 (((((M.make g.rules now (M.nth g.moves k)).1).next).pits).length) c209_3, .slice A209_4 (((((M.make g.rules now (M.nth g.moves k)).1).next).stores).length) c209_4, .int .i64 ((((M.make g.rules now (M.nth g.moves k)).1).next).player)] 33, rowO 84 6 (.slice A224 ((made ++ [((M.make g.rules now (M.nth g.moves k)).1)]).length) c224) ((made ++ [((M.make g.rules now (M.nth g.moves k)).1)]).length) (vs200_7 ++ [.int .i64 (((M.make g.rules now (M.nth g.moves k)).1).move), .int .i64 (((M.make g.rules now (M.nth g.moves k)).1).gain), .bool (((M.make g.rules now (M.nth g.moves k)).1).again), .slice A209_3 (((((M.make g.rules now (M.nth g.moves k)).1).next).pits).length) c209_3, .slice A209_4 (((((M.make g.rules now (M.nth g.moves k)).1).next).stores).length) c209_4, .int .i64 ((((M.make g.rules now (M.nth g.moves k)).1).next).player)]) g223, rowO 33 3 (.slice A219 ((out ++ [(((M.make g.rules now (M.nth g.moves k)).1).next)]).length) c219) ((out ++ [(((M.make g.rules now (M.nth g.moves k)).1).next)]).length) (vs200_6 ++ [.slice A214_0 (((((M.make g.rules now (M.nth g.moves k)).1).next).pits).length) c214_0, .slice A214_1 (((((M.make g.rules now (M.nth g.moves k)).1).next).stores).length) c214_1, .int .i64 ((((M.make g.rules now (M.nth g.moves k)).1).next).player)]) g218, boxO b2 [.int .i64 g.rules.pits, .int .i64 g.rules.seeds, .bool g.rules.stores, .bool g.rules.skip, .bool g.rules.relay, .bool g.rules.feed, .bool g.rules.again, .int .i64 g.rules.capture, .int .i64 g.rules.slam, .slice A1_9 g.start.pits.length c1_9, .slice A1_10 g.start.stores.length c1_10, .int .i64 g.start.player, .slice A1_12 g.moves.length c1_12, .slice A1_13 g.now.pits.length c1_13, .slice A1_14 g.now.stores.length c1_14, .int .i64 g.now.player, .int .i64 g.resigned] 35] ∧ Up w.heap.size u207 u ∧ ((out ++ [(((M.make g.rules now (M.nth g.moves k)).1).next)]).length ≤ c219) ∧ (c219 ≤ 9223372036854775807) ∧ ((made ++ [((M.make g.rules now (M.nth g.moves k)).1)]).length ≤ c224) ∧ (c224 ≤ 9223372036854775807)) ?_ ?_
          ·
            refine Js.drawn _ [4, 8] mixed_ (fun _ h => h) ?_
            refine JH.p 0 rfl (p_move rfl) ?_
            refine JH.q 1 rfl (q_loadN ty_33 rfl (Mem.boxR (i := 3) rfl 0 3) rfl rfl) ?_
            refine JH.p 5 rfl (p_move rfl) ?_
            refine JH.all (rs := [2, 6]) (by kernel_rfl) rfl ⟨?_, ?_, trivial⟩
            ·
              refine JHo.e rfl (e_callO fn_104 rfl (Spl_Position _) (fun w hw => c_impl_Position_copied (((M.make g.rules now (M.nth g.moves k)).1).next) _ w ⟨_, rfl, ⟨(Ty.mono _ h209_3 hw.vis), (Ty.mono _ h209_4 hw.vis), rfl, trivial⟩⟩ (by omega) (by omega))) (.inl rfl) ?_
              rintro v314 _ _ ⟨_, hR315, rfl, rfl⟩ _
              obtain ⟨A316_0, c316_0, A316_1, c316_1, f316, rfl, rfl, bl316_0, bh316_0, bl316_1, bh316_1⟩ := hR315
              refine JH.all (rs := [3, 6]) (by kernel_rfl) rfl ⟨?_, ?_, trivial⟩
              ·
                refine JHo.e rfl (e_buildSlice (vs := [.slice A316_0 (((((M.make g.rules now (M.nth g.moves k)).1).next).pits).length) c316_0, .slice A316_1 (((((M.make g.rules now (M.nth g.moves k)).1).next).stores).length) c316_1, .int .i64 ((((M.make g.rules now (M.nth g.moves k)).1).next).player)]) el_44 rfl rfl rfl rfl rfl rfl) (.inl rfl) ?_
                rintro _ _ _ ⟨b317, rfl, rfl, hl318, rfl⟩ _
                refine JH.all (rs := [4, 6]) (by kernel_rfl) rfl ⟨?_, ?_, trivial⟩
                ·
                  refine JHo.e rfl (e_append (i := 7) (n' := (out ++ [(((M.make g.rules now (M.nth g.moves k)).1).next)]).length) (vs' := vs200_6 ++ [.slice A316_0 (((((M.make g.rules now (M.nth g.moves k)).1).next).pits).length) c316_0, .slice A316_1 (((((M.make g.rules now (M.nth g.moves k)).1).next).stores).length) c316_1, .int .i64 ((((M.make g.rules now (M.nth g.moves k)).1).next).player)]) el_44 rfl rfl rfl rfl (src_row (i := 0) und_44 rfl rfl) (by omega) (by omega) (by first | omega | (simp only [List.length_append, List.length_cons, List.length_nil] <;> omega)) (rfl)) (.inr rfl) ?_
                  rintro v319 _ _ ⟨⟨g320, rfl⟩, rfl⟩ _
                  refine JH.fact (row_form' (i := 7) rfl) (fun hf321 => ?_)
                  obtain ⟨A321, c321, rfl, bl321, bh321⟩ := hf321
                  refine JH.one (i := 6) (by kernel_rfl) ?_
                  refine JHo.q rfl (q_loadN ty_84 rfl (Mem.boxR (i := 2) rfl 0 6) rfl rfl) ?_
                  refine JH.one (i := 7) (by kernel_rfl) ?_
                  refine JHo.e rfl (e_buildSlice (vs := [.int .i64 (((M.make g.rules now (M.nth g.moves k)).1).move), .int .i64 (((M.make g.rules now (M.nth g.moves k)).1).gain), .bool (((M.make g.rules now (M.nth g.moves k)).1).again), .slice A209_3 (((((M.make g.rules now (M.nth g.moves k)).1).next).pits).length) c209_3, .slice A209_4 (((((M.make g.rules now (M.nth g.moves k)).1).next).stores).length) c209_4, .int .i64 ((((M.make g.rules now (M.nth g.moves k)).1).next).player)]) el_74 rfl rfl rfl rfl rfl rfl) (.inl rfl) ?_
                  rintro _ _ _ ⟨b322, rfl, rfl, hl323, rfl⟩ _
                  refine JH.one (i := 8) (by kernel_rfl) ?_
                  refine JHo.e rfl (e_append (i := 7) (n' := (made ++ [((M.make g.rules now (M.nth g.moves k)).1)]).length) (vs' := vs200_7 ++ [.int .i64 (((M.make g.rules now (M.nth g.moves k)).1).move), .int .i64 (((M.make g.rules now (M.nth g.moves k)).1).gain), .bool (((M.make g.rules now (M.nth g.moves k)).1).again), .slice A209_3 (((((M.make g.rules now (M.nth g.moves k)).1).next).pits).length) c209_3, .slice A209_4 (((((M.make g.rules now (M.nth g.moves k)).1).next).stores).length) c209_4, .int .i64 ((((M.make g.rules now (M.nth g.moves k)).1).next).player)]) el_74 rfl rfl rfl rfl (src_row (i := 0) und_74 rfl rfl) (by omega) (by omega) (by first | omega | (simp only [List.length_append, List.length_cons, List.length_nil] <;> omega)) (rfl)) (.inr rfl) ?_
                  rintro v324 _ _ ⟨⟨g325, rfl⟩, rfl⟩ _
                  refine JH.fact (row_form' (i := 7) rfl) (fun hf326 => ?_)
                  obtain ⟨A326, c326, rfl, bl326, bh326⟩ := hf326
                  refine JH.p 9 rfl (p_assign rfl) ?_
                  refine JH.p 10 rfl (p_assign rfl) ?_
                  refine JH.done (by kernel_rfl) ?_
                  exact Js.meet ⟨_, _, _, _, _, _, _, _, _, _, _, _, _, rfl, rfl, Up.refl _ _, by omega, by omega, by omega, by omega⟩ ⟨rfl, rfl, rfl, rfl, rfl, rfl, rfl, trivial⟩
                ·
                  refine JHo.q rfl (q_loadN ty_84 rfl (Mem.boxR (i := 2) rfl 0 6) rfl rfl) ?_
                  refine JH.all (rs := [4, 7]) (by kernel_rfl) rfl ⟨?_, ?_, trivial⟩
                  ·
                    refine JHo.e rfl (e_append (i := 7) (n' := (out ++ [(((M.make g.rules now (M.nth g.moves k)).1).next)]).length) (vs' := vs200_6 ++ [.slice A316_0 (((((M.make g.rules now (M.nth g.moves k)).1).next).pits).length) c316_0, .slice A316_1 (((((M.make g.rules now (M.nth g.moves k)).1).next).stores).length) c316_1, .int .i64 ((((M.make g.rules now (M.nth g.moves k)).1).next).player)]) el_44 rfl rfl rfl rfl (src_row (i := 0) und_44 rfl rfl) (by omega) (by omega) (by first | omega | (simp only [List.length_append, List.length_cons, List.length_nil] <;> omega)) (rfl)) (.inr rfl) ?_
                    rintro v327 _ _ ⟨⟨g328, rfl⟩, rfl⟩ _
                    refine JH.fact (row_form' (i := 7) rfl) (fun hf329 => ?_)
                    obtain ⟨A329, c329, rfl, bl329, bh329⟩ := hf329
                    refine JH.one (i := 7) (by kernel_rfl) ?_
                    refine JHo.e rfl (e_buildSlice (vs := [.int .i64 (((M.make g.rules now (M.nth g.moves k)).1).move), .int .i64 (((M.make g.rules now (M.nth g.moves k)).1).gain), .bool (((M.make g.rules now (M.nth g.moves k)).1).again), .slice A209_3 (((((M.make g.rules now (M.nth g.moves k)).1).next).pits).length) c209_3, .slice A209_4 (((((M.make g.rules now (M.nth g.moves k)).1).next).stores).length) c209_4, .int .i64 ((((M.make g.rules now (M.nth g.moves k)).1).next).player)]) el_74 rfl rfl rfl rfl rfl rfl) (.inl rfl) ?_
                    rintro _ _ _ ⟨b330, rfl, rfl, hl331, rfl⟩ _
                    refine JH.one (i := 8) (by kernel_rfl) ?_
                    refine JHo.e rfl (e_append (i := 7) (n' := (made ++ [((M.make g.rules now (M.nth g.moves k)).1)]).length) (vs' := vs200_7 ++ [.int .i64 (((M.make g.rules now (M.nth g.moves k)).1).move), .int .i64 (((M.make g.rules now (M.nth g.moves k)).1).gain), .bool (((M.make g.rules now (M.nth g.moves k)).1).again), .slice A209_3 (((((M.make g.rules now (M.nth g.moves k)).1).next).pits).length) c209_3, .slice A209_4 (((((M.make g.rules now (M.nth g.moves k)).1).next).stores).length) c209_4, .int .i64 ((((M.make g.rules now (M.nth g.moves k)).1).next).player)]) el_74 rfl rfl rfl rfl (src_row (i := 0) und_74 rfl rfl) (by omega) (by omega) (by first | omega | (simp only [List.length_append, List.length_cons, List.length_nil] <;> omega)) (rfl)) (.inr rfl) ?_
                    rintro v332 _ _ ⟨⟨g333, rfl⟩, rfl⟩ _
                    refine JH.fact (row_form' (i := 7) rfl) (fun hf334 => ?_)
                    obtain ⟨A334, c334, rfl, bl334, bh334⟩ := hf334
                    refine JH.p 9 rfl (p_assign rfl) ?_
                    refine JH.p 10 rfl (p_assign rfl) ?_
                    refine JH.done (by kernel_rfl) ?_
                    exact Js.meet ⟨_, _, _, _, _, _, _, _, _, _, _, _, _, rfl, rfl, Up.refl _ _, by omega, by omega, by omega, by omega⟩ ⟨rfl, rfl, rfl, rfl, rfl, rfl, rfl, trivial⟩
                  ·
                    refine JHo.e rfl (e_buildSlice (vs := [.int .i64 (((M.make g.rules now (M.nth g.moves k)).1).move), .int .i64 (((M.make g.rules now (M.nth g.moves k)).1).gain), .bool (((M.make g.rules now (M.nth g.moves k)).1).again), .slice A209_3 (((((M.make g.rules now (M.nth g.moves k)).1).next).pits).length) c209_3, .slice A209_4 (((((M.make g.rules now (M.nth g.moves k)).1).next).stores).length) c209_4, .int .i64 ((((M.make g.rules now (M.nth g.moves k)).1).next).player)]) el_74 rfl rfl rfl rfl rfl rfl) (.inl rfl) ?_
                    rintro _ _ _ ⟨b335, rfl, rfl, hl336, rfl⟩ _
                    refine JH.one (i := 4) (by kernel_rfl) ?_
                    refine JHo.e rfl (e_append (i := 8) (n' := (out ++ [(((M.make g.rules now (M.nth g.moves k)).1).next)]).length) (vs' := vs200_6 ++ [.slice A316_0 (((((M.make g.rules now (M.nth g.moves k)).1).next).pits).length) c316_0, .slice A316_1 (((((M.make g.rules now (M.nth g.moves k)).1).next).stores).length) c316_1, .int .i64 ((((M.make g.rules now (M.nth g.moves k)).1).next).player)]) el_44 rfl rfl rfl rfl (src_row (i := 1) und_44 rfl rfl) (by omega) (by omega) (by first | omega | (simp only [List.length_append, List.length_cons, List.length_nil] <;> omega)) (rfl)) (.inr rfl) ?_
                    rintro v337 _ _ ⟨⟨g338, rfl⟩, rfl⟩ _
                    refine JH.fact (row_form' (i := 8) rfl) (fun hf339 => ?_)
                    obtain ⟨A339, c339, rfl, bl339, bh339⟩ := hf339
                    refine JH.one (i := 8) (by kernel_rfl) ?_
                    refine JHo.e rfl (e_append (i := 7) (n' := (made ++ [((M.make g.rules now (M.nth g.moves k)).1)]).length) (vs' := vs200_7 ++ [.int .i64 (((M.make g.rules now (M.nth g.moves k)).1).move), .int .i64 (((M.make g.rules now (M.nth g.moves k)).1).gain), .bool (((M.make g.rules now (M.nth g.moves k)).1).again), .slice A209_3 (((((M.make g.rules now (M.nth g.moves k)).1).next).pits).length) c209_3, .slice A209_4 (((((M.make g.rules now (M.nth g.moves k)).1).next).stores).length) c209_4, .int .i64 ((((M.make g.rules now (M.nth g.moves k)).1).next).player)]) el_74 rfl rfl rfl rfl (src_row (i := 0) und_74 rfl rfl) (by omega) (by omega) (by first | omega | (simp only [List.length_append, List.length_cons, List.length_nil] <;> omega)) (rfl)) (.inr rfl) ?_
                    rintro v340 _ _ ⟨⟨g341, rfl⟩, rfl⟩ _
                    refine JH.fact (row_form' (i := 7) rfl) (fun hf342 => ?_)
                    obtain ⟨A342, c342, rfl, bl342, bh342⟩ := hf342
                    refine JH.p 9 rfl (p_assign rfl) ?_
                    refine JH.p 10 rfl (p_assign rfl) ?_
                    refine JH.done (by kernel_rfl) ?_
                    exact Js.meet ⟨_, _, _, _, _, _, _, _, _, _, _, _, _, rfl, rfl, Up.refl _ _, by omega, by omega, by omega, by omega⟩ ⟨rfl, rfl, rfl, rfl, rfl, rfl, rfl, trivial⟩
              ·
                refine JHo.q rfl (q_loadN ty_84 rfl (Mem.boxR (i := 1) rfl 0 6) rfl rfl) ?_
                refine JH.all (rs := [3, 7]) (by kernel_rfl) rfl ⟨?_, ?_, trivial⟩
                ·
                  refine JHo.e rfl (e_buildSlice (vs := [.slice A316_0 (((((M.make g.rules now (M.nth g.moves k)).1).next).pits).length) c316_0, .slice A316_1 (((((M.make g.rules now (M.nth g.moves k)).1).next).stores).length) c316_1, .int .i64 ((((M.make g.rules now (M.nth g.moves k)).1).next).player)]) el_44 rfl rfl rfl rfl rfl rfl) (.inl rfl) ?_
                  rintro _ _ _ ⟨b343, rfl, rfl, hl344, rfl⟩ _
                  refine JH.all (rs := [4, 7]) (by kernel_rfl) rfl ⟨?_, ?_, trivial⟩
                  ·
                    refine JHo.e rfl (e_append (i := 7) (n' := (out ++ [(((M.make g.rules now (M.nth g.moves k)).1).next)]).length) (vs' := vs200_6 ++ [.slice A316_0 (((((M.make g.rules now (M.nth g.moves k)).1).next).pits).length) c316_0, .slice A316_1 (((((M.make g.rules now (M.nth g.moves k)).1).next).stores).length) c316_1, .int .i64 ((((M.make g.rules now (M.nth g.moves k)).1).next).player)]) el_44 rfl rfl rfl rfl (src_row (i := 0) und_44 rfl rfl) (by omega) (by omega) (by first | omega | (simp only [List.length_append, List.length_cons, List.length_nil] <;> omega)) (rfl)) (.inr rfl) ?_
                    rintro v345 _ _ ⟨⟨g346, rfl⟩, rfl⟩ _
                    refine JH.fact (row_form' (i := 7) rfl) (fun hf347 => ?_)
                    obtain ⟨A347, c347, rfl, bl347, bh347⟩ := hf347
                    refine JH.one (i := 7) (by kernel_rfl) ?_
                    refine JHo.e rfl (e_buildSlice (vs := [.int .i64 (((M.make g.rules now (M.nth g.moves k)).1).move), .int .i64 (((M.make g.rules now (M.nth g.moves k)).1).gain), .bool (((M.make g.rules now (M.nth g.moves k)).1).again), .slice A209_3 (((((M.make g.rules now (M.nth g.moves k)).1).next).pits).length) c209_3, .slice A209_4 (((((M.make g.rules now (M.nth g.moves k)).1).next).stores).length) c209_4, .int .i64 ((((M.make g.rules now (M.nth g.moves k)).1).next).player)]) el_74 rfl rfl rfl rfl rfl rfl) (.inl rfl) ?_
                    rintro _ _ _ ⟨b348, rfl, rfl, hl349, rfl⟩ _
                    refine JH.one (i := 8) (by kernel_rfl) ?_
                    refine JHo.e rfl (e_append (i := 7) (n' := (made ++ [((M.make g.rules now (M.nth g.moves k)).1)]).length) (vs' := vs200_7 ++ [.int .i64 (((M.make g.rules now (M.nth g.moves k)).1).move), .int .i64 (((M.make g.rules now (M.nth g.moves k)).1).gain), .bool (((M.make g.rules now (M.nth g.moves k)).1).again), .slice A209_3 (((((M.make g.rules now (M.nth g.moves k)).1).next).pits).length) c209_3, .slice A209_4 (((((M.make g.rules now (M.nth g.moves k)).1).next).stores).length) c209_4, .int .i64 ((((M.make g.rules now (M.nth g.moves k)).1).next).player)]) el_74 rfl rfl rfl rfl (src_row (i := 0) und_74 rfl rfl) (by omega) (by omega) (by first | omega | (simp only [List.length_append, List.length_cons, List.length_nil] <;> omega)) (rfl)) (.inr rfl) ?_
                    rintro v350 _ _ ⟨⟨g351, rfl⟩, rfl⟩ _
                    refine JH.fact (row_form' (i := 7) rfl) (fun hf352 => ?_)
                    obtain ⟨A352, c352, rfl, bl352, bh352⟩ := hf352
                    refine JH.p 9 rfl (p_assign rfl) ?_
                    refine JH.p 10 rfl (p_assign rfl) ?_
                    refine JH.done (by kernel_rfl) ?_
                    exact Js.meet ⟨_, _, _, _, _, _, _, _, _, _, _, _, _, rfl, rfl, Up.refl _ _, by omega, by omega, by omega, by omega⟩ ⟨rfl, rfl, rfl, rfl, rfl, rfl, rfl, trivial⟩
                  ·
                    refine JHo.e rfl (e_buildSlice (vs := [.int .i64 (((M.make g.rules now (M.nth g.moves k)).1).move), .int .i64 (((M.make g.rules now (M.nth g.moves k)).1).gain), .bool (((M.make g.rules now (M.nth g.moves k)).1).again), .slice A209_3 (((((M.make g.rules now (M.nth g.moves k)).1).next).pits).length) c209_3, .slice A209_4 (((((M.make g.rules now (M.nth g.moves k)).1).next).stores).length) c209_4, .int .i64 ((((M.make g.rules now (M.nth g.moves k)).1).next).player)]) el_74 rfl rfl rfl rfl rfl rfl) (.inl rfl) ?_
                    rintro _ _ _ ⟨b353, rfl, rfl, hl354, rfl⟩ _
                    refine JH.one (i := 4) (by kernel_rfl) ?_
                    refine JHo.e rfl (e_append (i := 8) (n' := (out ++ [(((M.make g.rules now (M.nth g.moves k)).1).next)]).length) (vs' := vs200_6 ++ [.slice A316_0 (((((M.make g.rules now (M.nth g.moves k)).1).next).pits).length) c316_0, .slice A316_1 (((((M.make g.rules now (M.nth g.moves k)).1).next).stores).length) c316_1, .int .i64 ((((M.make g.rules now (M.nth g.moves k)).1).next).player)]) el_44 rfl rfl rfl rfl (src_row (i := 1) und_44 rfl rfl) (by omega) (by omega) (by first | omega | (simp only [List.length_append, List.length_cons, List.length_nil] <;> omega)) (rfl)) (.inr rfl) ?_
                    rintro v355 _ _ ⟨⟨g356, rfl⟩, rfl⟩ _
                    refine JH.fact (row_form' (i := 8) rfl) (fun hf357 => ?_)
                    obtain ⟨A357, c357, rfl, bl357, bh357⟩ := hf357
                    refine JH.one (i := 8) (by kernel_rfl) ?_
                    refine JHo.e rfl (e_append (i := 7) (n' := (made ++ [((M.make g.rules now (M.nth g.moves k)).1)]).length) (vs' := vs200_7 ++ [.int .i64 (((M.make g.rules now (M.nth g.moves k)).1).move), .int .i64 (((M.make g.rules now (M.nth g.moves k)).1).gain), .bool (((M.make g.rules now (M.nth g.moves k)).1).again), .slice A209_3 (((((M.make g.rules now (M.nth g.moves k)).1).next).pits).length) c209_3, .slice A209_4 (((((M.make g.rules now (M.nth g.moves k)).1).next).stores).length) c209_4, .int .i64 ((((M.make g.rules now (M.nth g.moves k)).1).next).player)]) el_74 rfl rfl rfl rfl (src_row (i := 0) und_74 rfl rfl) (by omega) (by omega) (by first | omega | (simp only [List.length_append, List.length_cons, List.length_nil] <;> omega)) (rfl)) (.inr rfl) ?_
                    rintro v358 _ _ ⟨⟨g359, rfl⟩, rfl⟩ _
                    refine JH.fact (row_form' (i := 7) rfl) (fun hf360 => ?_)
                    obtain ⟨A360, c360, rfl, bl360, bh360⟩ := hf360
                    refine JH.p 9 rfl (p_assign rfl) ?_
                    refine JH.p 10 rfl (p_assign rfl) ?_
                    refine JH.done (by kernel_rfl) ?_
                    exact Js.meet ⟨_, _, _, _, _, _, _, _, _, _, _, _, _, rfl, rfl, Up.refl _ _, by omega, by omega, by omega, by omega⟩ ⟨rfl, rfl, rfl, rfl, rfl, rfl, rfl, trivial⟩
                ·
                  refine JHo.e rfl (e_buildSlice (vs := [.int .i64 (((M.make g.rules now (M.nth g.moves k)).1).move), .int .i64 (((M.make g.rules now (M.nth g.moves k)).1).gain), .bool (((M.make g.rules now (M.nth g.moves k)).1).again), .slice A209_3 (((((M.make g.rules now (M.nth g.moves k)).1).next).pits).length) c209_3, .slice A209_4 (((((M.make g.rules now (M.nth g.moves k)).1).next).stores).length) c209_4, .int .i64 ((((M.make g.rules now (M.nth g.moves k)).1).next).player)]) el_74 rfl rfl rfl rfl rfl rfl) (.inl rfl) ?_
                  rintro _ _ _ ⟨b361, rfl, rfl, hl362, rfl⟩ _
                  refine JH.one (i := 3) (by kernel_rfl) ?_
                  refine JHo.e rfl (e_buildSlice (vs := [.slice A316_0 (((((M.make g.rules now (M.nth g.moves k)).1).next).pits).length) c316_0, .slice A316_1 (((((M.make g.rules now (M.nth g.moves k)).1).next).stores).length) c316_1, .int .i64 ((((M.make g.rules now (M.nth g.moves k)).1).next).player)]) el_44 rfl rfl rfl rfl rfl rfl) (.inl rfl) ?_
                  rintro _ _ _ ⟨b363, rfl, rfl, hl364, rfl⟩ _
                  refine JH.one (i := 4) (by kernel_rfl) ?_
                  refine JHo.e rfl (e_append (i := 8) (n' := (out ++ [(((M.make g.rules now (M.nth g.moves k)).1).next)]).length) (vs' := vs200_6 ++ [.slice A316_0 (((((M.make g.rules now (M.nth g.moves k)).1).next).pits).length) c316_0, .slice A316_1 (((((M.make g.rules now (M.nth g.moves k)).1).next).stores).length) c316_1, .int .i64 ((((M.make g.rules now (M.nth g.moves k)).1).next).player)]) el_44 rfl rfl rfl rfl (src_row (i := 0) und_44 rfl rfl) (by omega) (by omega) (by first | omega | (simp only [List.length_append, List.length_cons, List.length_nil] <;> omega)) (rfl)) (.inr rfl) ?_
                  rintro v365 _ _ ⟨⟨g366, rfl⟩, rfl⟩ _
                  refine JH.fact (row_form' (i := 8) rfl) (fun hf367 => ?_)
                  obtain ⟨A367, c367, rfl, bl367, bh367⟩ := hf367
                  refine JH.one (i := 8) (by kernel_rfl) ?_
                  refine JHo.e rfl (e_append (i := 7) (n' := (made ++ [((M.make g.rules now (M.nth g.moves k)).1)]).length) (vs' := vs200_7 ++ [.int .i64 (((M.make g.rules now (M.nth g.moves k)).1).move), .int .i64 (((M.make g.rules now (M.nth g.moves k)).1).gain), .bool (((M.make g.rules now (M.nth g.moves k)).1).again), .slice A209_3 (((((M.make g.rules now (M.nth g.moves k)).1).next).pits).length) c209_3, .slice A209_4 (((((M.make g.rules now (M.nth g.moves k)).1).next).stores).length) c209_4, .int .i64 ((((M.make g.rules now (M.nth g.moves k)).1).next).player)]) el_74 rfl rfl rfl rfl (src_row (i := 1) und_74 rfl rfl) (by omega) (by omega) (by first | omega | (simp only [List.length_append, List.length_cons, List.length_nil] <;> omega)) (rfl)) (.inr rfl) ?_
                  rintro v368 _ _ ⟨⟨g369, rfl⟩, rfl⟩ _
                  refine JH.fact (row_form' (i := 7) rfl) (fun hf370 => ?_)
                  obtain ⟨A370, c370, rfl, bl370, bh370⟩ := hf370
                  refine JH.p 9 rfl (p_assign rfl) ?_
                  refine JH.p 10 rfl (p_assign rfl) ?_
                  refine JH.done (by kernel_rfl) ?_
                  refine Js.front (i := 9) rfl ?_
                  refine Js.front (i := 9) rfl ?_
                  refine Js.front (i := 9) rfl ?_
                  refine Js.front (i := 9) rfl ?_
                  refine Js.front (i := 9) rfl ?_
                  refine Js.front (i := 9) rfl ?_
                  refine Js.front (i := 9) rfl ?_
                  refine Js.front (i := 9) rfl ?_
                  refine Js.front (i := 8) rfl ?_
                  refine Js.front (i := 9) rfl ?_
                  exact Js.meet ⟨_, _, _, _, _, _, _, _, _, _, _, _, _, rfl, rfl, Up.refl _ _, by omega, by omega, by omega, by omega⟩ ⟨rfl, rfl, rfl, rfl, rfl, rfl, rfl, trivial⟩
            ·
              refine JHo.q rfl (q_loadN ty_84 rfl (Mem.boxR (i := 0) rfl 0 6) rfl rfl) ?_
              refine JH.all (rs := [2, 7]) (by kernel_rfl) rfl ⟨?_, ?_, trivial⟩
              ·
                refine JHo.e rfl (e_callO fn_104 rfl (Spl_Position _) (fun w hw => c_impl_Position_copied (((M.make g.rules now (M.nth g.moves k)).1).next) _ w ⟨_, rfl, ⟨(Ty.mono _ h209_3 hw.vis), (Ty.mono _ h209_4 hw.vis), rfl, trivial⟩⟩ (by omega) (by omega))) (.inl rfl) ?_
                rintro v371 _ _ ⟨_, hR372, rfl, rfl⟩ _
                obtain ⟨A373_0, c373_0, A373_1, c373_1, f373, rfl, rfl, bl373_0, bh373_0, bl373_1, bh373_1⟩ := hR372
                refine JH.all (rs := [3, 7]) (by kernel_rfl) rfl ⟨?_, ?_, trivial⟩
                ·
                  refine JHo.e rfl (e_buildSlice (vs := [.slice A373_0 (((((M.make g.rules now (M.nth g.moves k)).1).next).pits).length) c373_0, .slice A373_1 (((((M.make g.rules now (M.nth g.moves k)).1).next).stores).length) c373_1, .int .i64 ((((M.make g.rules now (M.nth g.moves k)).1).next).player)]) el_44 rfl rfl rfl rfl rfl rfl) (.inl rfl) ?_
                  rintro _ _ _ ⟨b374, rfl, rfl, hl375, rfl⟩ _
                  refine JH.all (rs := [4, 7]) (by kernel_rfl) rfl ⟨?_, ?_, trivial⟩
                  ·
                    refine JHo.e rfl (e_append (i := 7) (n' := (out ++ [(((M.make g.rules now (M.nth g.moves k)).1).next)]).length) (vs' := vs200_6 ++ [.slice A373_0 (((((M.make g.rules now (M.nth g.moves k)).1).next).pits).length) c373_0, .slice A373_1 (((((M.make g.rules now (M.nth g.moves k)).1).next).stores).length) c373_1, .int .i64 ((((M.make g.rules now (M.nth g.moves k)).1).next).player)]) el_44 rfl rfl rfl rfl (src_row (i := 0) und_44 rfl rfl) (by omega) (by omega) (by first | omega | (simp only [List.length_append, List.length_cons, List.length_nil] <;> omega)) (rfl)) (.inr rfl) ?_
                    rintro v376 _ _ ⟨⟨g377, rfl⟩, rfl⟩ _
                    refine JH.fact (row_form' (i := 7) rfl) (fun hf378 => ?_)
                    obtain ⟨A378, c378, rfl, bl378, bh378⟩ := hf378
                    refine JH.one (i := 7) (by kernel_rfl) ?_
                    refine JHo.e rfl (e_buildSlice (vs := [.int .i64 (((M.make g.rules now (M.nth g.moves k)).1).move), .int .i64 (((M.make g.rules now (M.nth g.moves k)).1).gain), .bool (((M.make g.rules now (M.nth g.moves k)).1).again), .slice A209_3 (((((M.make g.rules now (M.nth g.moves k)).1).next).pits).length) c209_3, .slice A209_4 (((((M.make g.rules now (M.nth g.moves k)).1).next).stores).length) c209_4, .int .i64 ((((M.make g.rules now (M.nth g.moves k)).1).next).player)]) el_74 rfl rfl rfl rfl rfl rfl) (.inl rfl) ?_
                    rintro _ _ _ ⟨b379, rfl, rfl, hl380, rfl⟩ _
                    refine JH.one (i := 8) (by kernel_rfl) ?_
                    refine JHo.e rfl (e_append (i := 7) (n' := (made ++ [((M.make g.rules now (M.nth g.moves k)).1)]).length) (vs' := vs200_7 ++ [.int .i64 (((M.make g.rules now (M.nth g.moves k)).1).move), .int .i64 (((M.make g.rules now (M.nth g.moves k)).1).gain), .bool (((M.make g.rules now (M.nth g.moves k)).1).again), .slice A209_3 (((((M.make g.rules now (M.nth g.moves k)).1).next).pits).length) c209_3, .slice A209_4 (((((M.make g.rules now (M.nth g.moves k)).1).next).stores).length) c209_4, .int .i64 ((((M.make g.rules now (M.nth g.moves k)).1).next).player)]) el_74 rfl rfl rfl rfl (src_row (i := 0) und_74 rfl rfl) (by omega) (by omega) (by first | omega | (simp only [List.length_append, List.length_cons, List.length_nil] <;> omega)) (rfl)) (.inr rfl) ?_
                    rintro v381 _ _ ⟨⟨g382, rfl⟩, rfl⟩ _
                    refine JH.fact (row_form' (i := 7) rfl) (fun hf383 => ?_)
                    obtain ⟨A383, c383, rfl, bl383, bh383⟩ := hf383
                    refine JH.p 9 rfl (p_assign rfl) ?_
                    refine JH.p 10 rfl (p_assign rfl) ?_
                    refine JH.done (by kernel_rfl) ?_
                    exact Js.meet ⟨_, _, _, _, _, _, _, _, _, _, _, _, _, rfl, rfl, Up.refl _ _, by omega, by omega, by omega, by omega⟩ ⟨rfl, rfl, rfl, rfl, rfl, rfl, rfl, trivial⟩
                  ·
                    refine JHo.e rfl (e_buildSlice (vs := [.int .i64 (((M.make g.rules now (M.nth g.moves k)).1).move), .int .i64 (((M.make g.rules now (M.nth g.moves k)).1).gain), .bool (((M.make g.rules now (M.nth g.moves k)).1).again), .slice A209_3 (((((M.make g.rules now (M.nth g.moves k)).1).next).pits).length) c209_3, .slice A209_4 (((((M.make g.rules now (M.nth g.moves k)).1).next).stores).length) c209_4, .int .i64 ((((M.make g.rules now (M.nth g.moves k)).1).next).player)]) el_74 rfl rfl rfl rfl rfl rfl) (.inl rfl) ?_
                    rintro _ _ _ ⟨b384, rfl, rfl, hl385, rfl⟩ _
                    refine JH.one (i := 4) (by kernel_rfl) ?_
                    refine JHo.e rfl (e_append (i := 8) (n' := (out ++ [(((M.make g.rules now (M.nth g.moves k)).1).next)]).length) (vs' := vs200_6 ++ [.slice A373_0 (((((M.make g.rules now (M.nth g.moves k)).1).next).pits).length) c373_0, .slice A373_1 (((((M.make g.rules now (M.nth g.moves k)).1).next).stores).length) c373_1, .int .i64 ((((M.make g.rules now (M.nth g.moves k)).1).next).player)]) el_44 rfl rfl rfl rfl (src_row (i := 1) und_44 rfl rfl) (by omega) (by omega) (by first | omega | (simp only [List.length_append, List.length_cons, List.length_nil] <;> omega)) (rfl)) (.inr rfl) ?_
                    rintro v386 _ _ ⟨⟨g387, rfl⟩, rfl⟩ _
                    refine JH.fact (row_form' (i := 8) rfl) (fun hf388 => ?_)
                    obtain ⟨A388, c388, rfl, bl388, bh388⟩ := hf388
                    refine JH.one (i := 8) (by kernel_rfl) ?_
                    refine JHo.e rfl (e_append (i := 7) (n' := (made ++ [((M.make g.rules now (M.nth g.moves k)).1)]).length) (vs' := vs200_7 ++ [.int .i64 (((M.make g.rules now (M.nth g.moves k)).1).move), .int .i64 (((M.make g.rules now (M.nth g.moves k)).1).gain), .bool (((M.make g.rules now (M.nth g.moves k)).1).again), .slice A209_3 (((((M.make g.rules now (M.nth g.moves k)).1).next).pits).length) c209_3, .slice A209_4 (((((M.make g.rules now (M.nth g.moves k)).1).next).stores).length) c209_4, .int .i64 ((((M.make g.rules now (M.nth g.moves k)).1).next).player)]) el_74 rfl rfl rfl rfl (src_row (i := 0) und_74 rfl rfl) (by omega) (by omega) (by first | omega | (simp only [List.length_append, List.length_cons, List.length_nil] <;> omega)) (rfl)) (.inr rfl) ?_
                    rintro v389 _ _ ⟨⟨g390, rfl⟩, rfl⟩ _
                    refine JH.fact (row_form' (i := 7) rfl) (fun hf391 => ?_)
                    obtain ⟨A391, c391, rfl, bl391, bh391⟩ := hf391
                    refine JH.p 9 rfl (p_assign rfl) ?_
                    refine JH.p 10 rfl (p_assign rfl) ?_
                    refine JH.done (by kernel_rfl) ?_
                    exact Js.meet ⟨_, _, _, _, _, _, _, _, _, _, _, _, _, rfl, rfl, Up.refl _ _, by omega, by omega, by omega, by omega⟩ ⟨rfl, rfl, rfl, rfl, rfl, rfl, rfl, trivial⟩
                ·
                  refine JHo.e rfl (e_buildSlice (vs := [.int .i64 (((M.make g.rules now (M.nth g.moves k)).1).move), .int .i64 (((M.make g.rules now (M.nth g.moves k)).1).gain), .bool (((M.make g.rules now (M.nth g.moves k)).1).again), .slice A209_3 (((((M.make g.rules now (M.nth g.moves k)).1).next).pits).length) c209_3, .slice A209_4 (((((M.make g.rules now (M.nth g.moves k)).1).next).stores).length) c209_4, .int .i64 ((((M.make g.rules now (M.nth g.moves k)).1).next).player)]) el_74 rfl rfl rfl rfl rfl rfl) (.inl rfl) ?_
                  rintro _ _ _ ⟨b392, rfl, rfl, hl393, rfl⟩ _
                  refine JH.one (i := 3) (by kernel_rfl) ?_
                  refine JHo.e rfl (e_buildSlice (vs := [.slice A373_0 (((((M.make g.rules now (M.nth g.moves k)).1).next).pits).length) c373_0, .slice A373_1 (((((M.make g.rules now (M.nth g.moves k)).1).next).stores).length) c373_1, .int .i64 ((((M.make g.rules now (M.nth g.moves k)).1).next).player)]) el_44 rfl rfl rfl rfl rfl rfl) (.inl rfl) ?_
                  rintro _ _ _ ⟨b394, rfl, rfl, hl395, rfl⟩ _
                  refine JH.one (i := 4) (by kernel_rfl) ?_
                  refine JHo.e rfl (e_append (i := 8) (n' := (out ++ [(((M.make g.rules now (M.nth g.moves k)).1).next)]).length) (vs' := vs200_6 ++ [.slice A373_0 (((((M.make g.rules now (M.nth g.moves k)).1).next).pits).length) c373_0, .slice A373_1 (((((M.make g.rules now (M.nth g.moves k)).1).next).stores).length) c373_1, .int .i64 ((((M.make g.rules now (M.nth g.moves k)).1).next).player)]) el_44 rfl rfl rfl rfl (src_row (i := 0) und_44 rfl rfl) (by omega) (by omega) (by first | omega | (simp only [List.length_append, List.length_cons, List.length_nil] <;> omega)) (rfl)) (.inr rfl) ?_
                  rintro v396 _ _ ⟨⟨g397, rfl⟩, rfl⟩ _
                  refine JH.fact (row_form' (i := 8) rfl) (fun hf398 => ?_)
                  obtain ⟨A398, c398, rfl, bl398, bh398⟩ := hf398
                  refine JH.one (i := 8) (by kernel_rfl) ?_
                  refine JHo.e rfl (e_append (i := 7) (n' := (made ++ [((M.make g.rules now (M.nth g.moves k)).1)]).length) (vs' := vs200_7 ++ [.int .i64 (((M.make g.rules now (M.nth g.moves k)).1).move), .int .i64 (((M.make g.rules now (M.nth g.moves k)).1).gain), .bool (((M.make g.rules now (M.nth g.moves k)).1).again), .slice A209_3 (((((M.make g.rules now (M.nth g.moves k)).1).next).pits).length) c209_3, .slice A209_4 (((((M.make g.rules now (M.nth g.moves k)).1).next).stores).length) c209_4, .int .i64 ((((M.make g.rules now (M.nth g.moves k)).1).next).player)]) el_74 rfl rfl rfl rfl (src_row (i := 1) und_74 rfl rfl) (by omega) (by omega) (by first | omega | (simp only [List.length_append, List.length_cons, List.length_nil] <;> omega)) (rfl)) (.inr rfl) ?_
                  rintro v399 _ _ ⟨⟨g400, rfl⟩, rfl⟩ _
                  refine JH.fact (row_form' (i := 7) rfl) (fun hf401 => ?_)
                  obtain ⟨A401, c401, rfl, bl401, bh401⟩ := hf401
                  refine JH.p 9 rfl (p_assign rfl) ?_
                  refine JH.p 10 rfl (p_assign rfl) ?_
                  refine JH.done (by kernel_rfl) ?_
                  refine Js.front (i := 9) rfl ?_
                  refine Js.front (i := 9) rfl ?_
                  refine Js.front (i := 9) rfl ?_
                  refine Js.front (i := 9) rfl ?_
                  refine Js.front (i := 9) rfl ?_
                  refine Js.front (i := 9) rfl ?_
                  refine Js.front (i := 9) rfl ?_
                  refine Js.front (i := 9) rfl ?_
                  refine Js.front (i := 8) rfl ?_
                  refine Js.front (i := 9) rfl ?_
                  exact Js.meet ⟨_, _, _, _, _, _, _, _, _, _, _, _, _, rfl, rfl, Up.refl _ _, by omega, by omega, by omega, by omega⟩ ⟨rfl, rfl, rfl, rfl, rfl, rfl, rfl, trivial⟩
              ·
                refine JHo.e rfl (e_buildSlice (vs := [.int .i64 (((M.make g.rules now (M.nth g.moves k)).1).move), .int .i64 (((M.make g.rules now (M.nth g.moves k)).1).gain), .bool (((M.make g.rules now (M.nth g.moves k)).1).again), .slice A209_3 (((((M.make g.rules now (M.nth g.moves k)).1).next).pits).length) c209_3, .slice A209_4 (((((M.make g.rules now (M.nth g.moves k)).1).next).stores).length) c209_4, .int .i64 ((((M.make g.rules now (M.nth g.moves k)).1).next).player)]) el_74 rfl rfl rfl rfl rfl rfl) (.inl rfl) ?_
                rintro _ _ _ ⟨b402, rfl, rfl, hl403, rfl⟩ _
                refine JH.one (i := 2) (by kernel_rfl) ?_
                refine JHo.e rfl (e_callO fn_104 rfl (Spl_Position _) (fun w hw => c_impl_Position_copied (((M.make g.rules now (M.nth g.moves k)).1).next) _ w ⟨_, rfl, ⟨(Ty.mono _ h209_3 hw.vis), (Ty.mono _ h209_4 hw.vis), rfl, trivial⟩⟩ (by omega) (by omega))) (.inl rfl) ?_
                rintro v404 _ _ ⟨_, hR405, rfl, rfl⟩ _
                obtain ⟨A406_0, c406_0, A406_1, c406_1, f406, rfl, rfl, bl406_0, bh406_0, bl406_1, bh406_1⟩ := hR405
                refine JH.one (i := 3) (by kernel_rfl) ?_
                refine JHo.e rfl (e_buildSlice (vs := [.slice A406_0 (((((M.make g.rules now (M.nth g.moves k)).1).next).pits).length) c406_0, .slice A406_1 (((((M.make g.rules now (M.nth g.moves k)).1).next).stores).length) c406_1, .int .i64 ((((M.make g.rules now (M.nth g.moves k)).1).next).player)]) el_44 rfl rfl rfl rfl rfl rfl) (.inl rfl) ?_
                rintro _ _ _ ⟨b407, rfl, rfl, hl408, rfl⟩ _
                refine JH.one (i := 4) (by kernel_rfl) ?_
                refine JHo.e rfl (e_append (i := 8) (n' := (out ++ [(((M.make g.rules now (M.nth g.moves k)).1).next)]).length) (vs' := vs200_6 ++ [.slice A406_0 (((((M.make g.rules now (M.nth g.moves k)).1).next).pits).length) c406_0, .slice A406_1 (((((M.make g.rules now (M.nth g.moves k)).1).next).stores).length) c406_1, .int .i64 ((((M.make g.rules now (M.nth g.moves k)).1).next).player)]) el_44 rfl rfl rfl rfl (src_row (i := 0) und_44 rfl rfl) (by omega) (by omega) (by first | omega | (simp only [List.length_append, List.length_cons, List.length_nil] <;> omega)) (rfl)) (.inr rfl) ?_
                rintro v409 _ _ ⟨⟨g410, rfl⟩, rfl⟩ _
                refine JH.fact (row_form' (i := 8) rfl) (fun hf411 => ?_)
                obtain ⟨A411, c411, rfl, bl411, bh411⟩ := hf411
                refine JH.one (i := 8) (by kernel_rfl) ?_
                refine JHo.e rfl (e_append (i := 7) (n' := (made ++ [((M.make g.rules now (M.nth g.moves k)).1)]).length) (vs' := vs200_7 ++ [.int .i64 (((M.make g.rules now (M.nth g.moves k)).1).move), .int .i64 (((M.make g.rules now (M.nth g.moves k)).1).gain), .bool (((M.make g.rules now (M.nth g.moves k)).1).again), .slice A209_3 (((((M.make g.rules now (M.nth g.moves k)).1).next).pits).length) c209_3, .slice A209_4 (((((M.make g.rules now (M.nth g.moves k)).1).next).stores).length) c209_4, .int .i64 ((((M.make g.rules now (M.nth g.moves k)).1).next).player)]) el_74 rfl rfl rfl rfl (src_row (i := 2) und_74 rfl rfl) (by omega) (by omega) (by first | omega | (simp only [List.length_append, List.length_cons, List.length_nil] <;> omega)) (rfl)) (.inr rfl) ?_
                rintro v412 _ _ ⟨⟨g413, rfl⟩, rfl⟩ _
                refine JH.fact (row_form' (i := 7) rfl) (fun hf414 => ?_)
                obtain ⟨A414, c414, rfl, bl414, bh414⟩ := hf414
                refine JH.p 9 rfl (p_assign rfl) ?_
                refine JH.p 10 rfl (p_assign rfl) ?_
                refine JH.done (by kernel_rfl) ?_
                refine Js.front (i := 9) rfl ?_
                refine Js.front (i := 9) rfl ?_
                refine Js.front (i := 9) rfl ?_
                refine Js.front (i := 9) rfl ?_
                refine Js.front (i := 9) rfl ?_
                refine Js.front (i := 9) rfl ?_
                refine Js.front (i := 9) rfl ?_
                refine Js.front (i := 8) rfl ?_
                refine Js.front (i := 8) rfl ?_
                refine Js.front (i := 9) rfl ?_
                exact Js.meet ⟨_, _, _, _, _, _, _, _, _, _, _, _, _, rfl, rfl, Up.refl _ _, by omega, by omega, by omega, by omega⟩ ⟨rfl, rfl, rfl, rfl, rfl, rfl, rfl, trivial⟩
          · rintro _ _ u313 ⟨A219, c219, A224, c224, b220, b215, A214_0, c214_0, A214_1, c214_1, f214, g223, g218, rfl, rfl, x313, f313_0, f313_1, f313_2, f313_3⟩
            refine Js.joinL (i := 5) (j := 2) (Vs := lPosition (out ++ [(((M.make g.rules now (M.nth g.moves k)).1).next)])) rfl rfl (lPosition_snoc _ _) (fun f416 => ?_)
            refine Js.vals (Ts := cResultL ((M.make g.rules now (M.nth g.moves k)).1)) (vs := [.int .i64 (((M.make g.rules now (M.nth g.moves k)).1).move), .int .i64 (((M.make g.rules now (M.nth g.moves k)).1).gain), .bool (((M.make g.rules now (M.nth g.moves k)).1).again), .slice A209_3 (((((M.make g.rules now (M.nth g.moves k)).1).next).pits).length) c209_3, .slice A209_4 (((((M.make g.rules now (M.nth g.moves k)).1).next).stores).length) c209_4, .int .i64 ((((M.make g.rules now (M.nth g.moves k)).1).next).player)]) (fun w => ⟨[], [], rfl, ⟨rfl, rfl⟩, ⟨[], [], rfl, ⟨rfl, rfl⟩, ⟨[], [], rfl, ⟨rfl, rfl⟩, ⟨[], [], rfl, ⟨rfl, rfl⟩, ⟨[], [], rfl, ⟨rfl, rfl⟩, ⟨[], [], rfl, ⟨rfl, rfl⟩, rfl⟩⟩⟩⟩⟩⟩) ?_
            refine Js.joinL (i := 5) (j := 0) (Vs := lResultL (made ++ [((M.make g.rules now (M.nth g.moves k)).1)])) rfl rfl (lResultL_snoc _ _) (fun f418 => ?_)
            refine Js.blockEnd ?_
            refine Js.region ?_
            refine JL.q (OpP.q (p_add rfl rfl (IntWalk.i64_in _ (by omega)))) ?_
            refine JL.q (OpP.q (p_move rfl)) ?_
            refine JL.nil ?_
            refine Js.drop (i := 2) rfl rfl (fun u419 x419 => ?_)
            refine Js.drop (i := 2) rfl rfl (fun u420 x420 => ?_)
            refine Js.drop (i := 2) rfl rfl (fun u421 x421 => ?_)
            exact Js.again ⟨k + 1, (((M.make g.rules now (M.nth g.moves k)).1).next), out ++ [(((M.make g.rules now (M.nth g.moves k)).1).next)], made ++ [((M.make g.rules now (M.nth g.moves k)).1)], _, _, _, _, _, _, _, _, _, _, _, _, _, _, rfl, rfl, (((((x200.trans x207).trans x313).trans x419).trans x420).trans x421), by exact hR2, by rw [hO]; exact (M.hist_snoc _ _ _).symm, by exact hl2.1, by exact hl2.2, by first | omega | (simp only [List.length_append, List.length_cons, List.length_nil] <;> omega), by first | omega | (simp only [List.length_append, List.length_cons, List.length_nil] <;> omega), by first | omega | (simp only [List.length_append, List.length_cons, List.length_nil] <;> omega), by first | omega | (simp only [List.length_append, List.length_cons, List.length_nil] <;> omega), (Ty.mono _ h209_3 (((x313.vis.trans x419.vis).trans x420.vis).trans x421.vis)), by first | omega | (simp only [List.length_append, List.length_cons, List.length_nil] <;> omega), by first | omega | (simp only [List.length_append, List.length_cons, List.length_nil] <;> omega), (Ty.mono _ h209_4 (((x313.vis.trans x419.vis).trans x420.vis).trans x421.vis)), by first | omega | (simp only [List.length_append, List.length_cons, List.length_nil] <;> omega), by first | omega | (simp only [List.length_append, List.length_cons, List.length_nil] <;> omega), rfl⟩ (by omega) ⟨rfl, rfl, rfl, rfl, rfl, rfl, rfl, trivial⟩
      ·
        have h203' := h203
        try simp only [decide_eq_false_iff_not, Int.not_lt] at h203'
        obtain ⟨hP1, hP2, hP3⟩ := hR.played (by omega)
        rw [← hO] at hP2
        refine Js.exit (fun _ _ => rfl) ?_
        refine Js.seq ?_
        refine Js.region ?_
        refine JL.q (OpP.q (p_move rfl)) ?_
        refine JL.q (OpP.q (p_move rfl)) ?_
        refine JL.q (OpP.q (p_assign rfl)) ?_
        refine JL.q (OpP.q (p_assign rfl)) ?_
        refine JL.q (OpP.q (p_assign rfl)) ?_
        refine JL.nil ?_
        refine Js.ret (R := RO w (Ty.tup [Ty.sl 33 3 (M.playedP g).length (lPosition (M.playedP g)), Ty.sl 84 6 (M.playedR g).length (lResultL (M.playedR g)), Ty.bool (M.playedOk g)])) @Try.results72 (fun _ _ => rfl) (ResOk.tmp rfl (ResOk.tmp rfl (ResOk.tmp rfl ResOk.nil))) (fun w1 hw => ?_)
        have hx := hw.ext ((x101.trans x200))
        exact ret_own (ps := [(4, (Value.ownBlock (.slice A200_6 out.length c200_6)).toList), (1, fl200_6), (3, (Value.ownBlock (.slice A200_7 made.length c200_7)).toList), (0, fl200_7)]) hw hx ⟨_, rfl, ⟨_, _, rfl, (srow_own lPosition (hw.pr (i := 4) rfl) (hw.pr (i := 1) rfl) (lPosition_length _) (show out = M.playedP g by first | exact hP1.symm | exact congrArg Value.bool hP1.symm | exact hP2.symm | exact hP3.symm)), ⟨_, _, rfl, (srow_own lResultL (hw.pr (i := 3) rfl) (hw.pr (i := 0) rfl) (lResultL_length _) (show made = M.playedR g by first | exact hP1.symm | exact congrArg Value.bool hP1.symm | exact hP2.symm | exact hP3.symm)), ⟨_, _, rfl, ⟨by first | exact hP1.symm | exact congrArg Value.bool hP1.symm | exact hP2.symm | exact hP3.symm, rfl⟩, rfl⟩⟩⟩⟩ (Pick.cons (j := 4) rfl (List.sublist_append_left _ _) rfl (Pick.cons (j := 1) rfl (List.Sublist.refl _) rfl (Pick.cons (j := 3) rfl (List.sublist_append_left _ _) rfl (Pick.cons (j := 0) rfl (List.Sublist.refl _) rfl Pick.nil)))) (by simp [List.flatten, outV])

set_option maxRecDepth 100000 in
set_option maxHeartbeats 400000 in
theorem c_impl_ValidGame (g : M.Gam) (v_g : Value) (w : World) (h_g : (Ty.agg (cGame g)).ok w v_g) (r0 : g.start.pits.length ≤ 4194304) (r1 : g.start.stores.length ≤ 4194304) (r2 : g.moves.length ≤ 4194304) (r3 : g.now.pits.length ≤ 4194304) (r4 : g.now.stores.length ≤ 4194304) : RetV Try.prog 62 [v_g] w (.bool (M.okG g)) := by
  obtain ⟨A1_9, c1_9, A1_10, c1_10, A1_12, c1_12, A1_13, c1_13, A1_14, c1_14, rfl, h1_9, h1_10, h1_12, h1_13, h1_14, bl1_9, bh1_9, bl1_10, bh1_10, bl1_12, bh1_12, bl1_13, bh1_13, bl1_14, bh1_14⟩ := open_Game h_g
  refine enter @Try.func62 @Try.ntmps62 rfl rfl ?_
  refine Js.seq ?_
  refine Js.region ?_
  refine JL.e (e_box (c := [.int .i64 g.rules.pits, .int .i64 g.rules.seeds, .bool g.rules.stores, .bool g.rules.skip, .bool g.rules.relay, .bool g.rules.feed, .bool g.rules.again, .int .i64 g.rules.capture, .int .i64 g.rules.slam, .slice A1_9 g.start.pits.length c1_9, .slice A1_10 g.start.stores.length c1_10, .int .i64 g.start.player, .slice A1_12 g.moves.length c1_12, .slice A1_13 g.now.pits.length c1_13, .slice A1_14 g.now.stores.length c1_14, .int .i64 g.now.player, .int .i64 g.resigned]) rfl rfl) ?_
  rintro _ _ _ ⟨b2, rfl, rfl, rfl⟩ _
  refine JL.q (OpP.q (p_assign rfl)) ?_
  refine JL.nil ?_
  refine Js.seq ?_
  refine Js.seq ?_
  refine Js.region ?_
  refine JL.q (OpP.q (p_fieldAddr fld_35_0 rfl)) ?_
  refine JL.q (q_loadN ty_32 rfl (Mem.boxR (i := 0) rfl 0 9) rfl rfl) ?_
  refine JL.q (OpP.q (p_fieldAddr fld_35_1 rfl)) ?_
  refine JL.q (q_loadN ty_33 rfl (Mem.boxR (i := 0) rfl 9 3) rfl rfl) ?_
  refine JL.e (e_callV fn_99 rfl (fun w hw => c_impl_ValidPosition g.rules _ g.start _ w ⟨_, rfl, ⟨rfl, rfl, rfl, rfl, rfl, rfl, rfl, rfl, rfl, trivial⟩⟩ ⟨_, rfl, ⟨(Ty.mono _ h1_9 hw.vis), (Ty.mono _ h1_10 hw.vis), rfl, trivial⟩⟩ (by omega) (by omega))) ?_
  rintro _ _ _ ⟨rfl, rfl, rfl⟩ _
  refine JL.q (OpP.q (p_not rfl)) ?_
  refine JL.q (OpP.q (p_move rfl)) ?_
  refine JL.g (Gd.f1 rfl rfl rfl) (fun hc => OpP.q (p_fieldAddr fld_35_2 rfl)) ?_
  refine JL.g (Gd.f1 rfl rfl rfl) (fun hc => q_load1 ty_24 (gvt rfl hc) (Mem.box (i := 0) rfl rfl)) ?_
  refine JL.g (Gd.f1 rfl rfl rfl) (fun hc => OpP.q (p_len el_24 (gvt rfl hc))) ?_
  refine JL.g (Gd.f1 rfl rfl rfl) (fun hc => OpP.q (p_gtr (gvt rfl hc) rfl)) ?_
  refine JL.q (OpP.q (p_pickOr rfl rfl rfl)) ?_
  refine JL.q (OpP.q (p_move rfl)) ?_
  refine JL.g (Gd.f1 rfl rfl rfl) (fun hc => OpP.q (p_fieldAddr fld_35_4 rfl)) ?_
  refine JL.g (Gd.f1 rfl rfl rfl) (fun hc => q_load1 ty_2 (gvt rfl hc) (Mem.box (i := 0) rfl rfl)) ?_
  refine JL.ge (Gd.f1 rfl rfl rfl) (fun hc => e_callV fn_100 (opds_3 (gvt rfl hc) rfl rfl) (fun w hw => c_impl_between g.resigned (-1) 1 w)) ?_
  refine JL.g (Gd.f1 rfl rfl rfl) (fun hc => OpP.q (p_not (gvt rfl hc))) ?_
  refine JL.q (OpP.q (p_pickOr rfl rfl rfl)) ?_
  refine JL.nil ?_
  refine Js.cond rfl (fun h3 => ?_) (fun h3 => ?_)
  ·
    have h3' := h3
    try simp only [Bool.or_eq_true, Bool.not_eq_true', decide_eq_true_eq] at h3'
    refine Js.seq ?_
    refine Js.region ?_
    refine JL.q (OpP.q (p_assign rfl)) ?_
    refine JL.nil ?_
    refine Js.ret (R := RV w (.bool (M.okG g))) @Try.results62 (fun _ _ => rfl) (ResOk.tmp rfl ResOk.nil) (fun w1 hw => ?_)
    refine ⟨?_, hw.ext (Up.refl _ _)⟩
    exact congrArg (fun b => Ending.returned (.bool b)) (M.okG_no (by simpa [or_assoc] using h3)).symm
  ·
    have h3' := h3
    try simp only [Bool.or_eq_false_iff, Bool.not_eq_false', decide_eq_false_iff_not, Int.not_lt] at h3'
    have ho : M.okP g.rules g.start = true ∧ (g.moves.length : Int) ≤ 120 ∧ M.betw g.resigned (-1) 1 = true := by simpa [and_assoc] using h3
    refine Js.skip ?_
    refine Js.seq ?_
    refine Js.region ?_
    refine JL.q (q_loadN ty_35 rfl (Mem.boxR (i := 0) rfl 0 17) rfl rfl) ?_
    refine JL.e (e_callP fn_72 rfl (fun w hw => c_impl_Game_played g _ w ⟨_, rfl, ⟨rfl, rfl, rfl, rfl, rfl, rfl, rfl, rfl, rfl, (Ty.mono _ h1_9 hw.vis), (Ty.mono _ h1_10 hw.vis), rfl, (Ty.mono _ h1_12 hw.vis), (Ty.mono _ h1_13 hw.vis), (Ty.mono _ h1_14 hw.vis), rfl, rfl, trivial⟩⟩ (by omega) (by omega) (by omega) (by omega) (by omega))) ?_
    rintro v4 _ u6 ⟨h5, rfl⟩ x6
    obtain ⟨vs7, rfl, hv7⟩ := h5
    obtain ⟨v7_0, vs7, rfl, hw7_0, hv7⟩ := cellsOk_cons hv7
    obtain ⟨v7_1, vs7, rfl, hw7_1, hv7⟩ := cellsOk_cons hv7
    obtain ⟨v7_2, vs7, rfl, hw7_2, hv7⟩ := cellsOk_cons hv7
    obtain rfl := cellsOk_nil hv7
    obtain ⟨A8, c8, rfl, bl8, bh8⟩ := sl_form hw7_0
    obtain ⟨A9, c9, rfl, bl9, bh9⟩ := sl_form hw7_1
    obtain rfl : v7_2 = .bool (M.playedOk g) := hw7_2
    refine JL.q (OpP.q (p_move rfl)) ?_
    refine JL.q (OpP.q (p_extract rfl rfl)) ?_
    refine JL.q (OpP.q (p_extract rfl rfl)) ?_
    refine JL.q (OpP.q (p_extract rfl rfl)) ?_
    refine JL.q (OpP.q (p_assign rfl)) ?_
    refine JL.q (OpP.q (p_assign rfl)) ?_
    refine JL.q (OpP.q (p_assign rfl)) ?_
    refine JL.nil ?_
    refine Js.seq ?_
    rcases Bool.eq_false_or_eq_true (M.playedOk g) with h10 | h10
    ·
      obtain ⟨hl1, hl2⟩ := M.playedP_len h10
      have hl3 := M.okP_len (M.lastPos_ok _ _ ho.1 (M.runs_ok g.moves _ ho.1))
      refine Js.drawn _ [] mixed_ (fun _ h => h) ?_
      refine JH.p 0 rfl (p_move rfl) ?_
      refine JH.p 1 rfl (p_move rfl) ?_
      refine JH.pg 2 rfl (Gd.t1 rfl rfl rfl) (fun hc => p_move rfl) ?_
      refine JH.pg 3 rfl (Gd.t1 rfl rfl rfl) (fun hc => p_move rfl) ?_
      refine JH.pg 4 rfl (Gd.t1 rfl rfl rfl) (fun hc => p_len el_44 (gvt rfl hc)) ?_
      refine JH.pg 5 rfl (Gd.t1 rfl rfl rfl) (fun hc => p_sub (gvt rfl hc) rfl (IntWalk.i64_in _ (by omega))) ?_
      obtain ⟨y11, hy11⟩ : ∃ x, (M.playedP g)[((((M.playedP g).length) : Int) - 1).toNat]? = some x := ⟨_, List.getElem?_eq_getElem (by omega)⟩
      obtain ⟨b11, o11, A11_0, c11_0, A11_1, c11_1, he11, hr11, h11_0, h11_1, bl11_0, bh11_0, bl11_1, bh11_1⟩ := elem_Position hw7_0 hy11
      refine JH.pg 6 rfl (Gd.t1 rfl rfl rfl) (fun hc => p_indexAddr el_44 (gvt rfl hc) (gvt rfl hc) (by omega) (by omega) he11) ?_
      refine JH.wg 7 rfl (Gd.t1 rfl rfl rfl) (fun hc os' u' hv => q_loadN ty_33 (gvt rfl hc) (Mem.pubR ((hr11.vis hv).sub 0 3)) rfl rfl) ?_
      refine JH.pg 8 rfl (Gd.t1 rfl rfl rfl) (fun hc => p_fieldAddr fld_35_3 rfl) ?_
      refine JH.qg 9 rfl (Gd.t1 rfl rfl rfl) (fun hc => q_loadN ty_33 (gvt rfl hc) (Mem.boxR (i := 0) rfl 13 3) rfl rfl) ?_
      refine JH.one (i := 10) (by kernel_rfl) ?_
      refine JHo.eT rfl (Gd.t1 rfl rfl rfl) (show (M.playedOk g) = true by simp [h10]) (e_callV fn_101 (opds_2 (gvt rfl (show (M.playedOk g) = true by simp [h10])) (gvt rfl (show (M.playedOk g) = true by simp [h10]))) (fun w hw => c_impl_SamePosition y11 _ g.now _ w ⟨_, rfl, ⟨(Ty.mono _ h11_0 hw.vis), (Ty.mono _ h11_1 hw.vis), rfl, trivial⟩⟩ ⟨_, rfl, ⟨(Ty.mono _ h1_13 (x6.vis.trans hw.vis)), (Ty.mono _ h1_14 (x6.vis.trans hw.vis)), rfl, trivial⟩⟩ (M.last_len hl2 hy11 (by omega) hl3).1 (M.last_len hl2 hy11 (by omega) hl3).2 (by omega) (by omega))) (.inl rfl) ?_
      rintro _ _ _ ⟨rfl, rfl, rfl⟩ _
      refine JH.p 11 rfl (p_pickAnd2 rfl rfl rfl) ?_
      refine JH.p 12 rfl (p_assign rfl) ?_
      refine JH.done (by kernel_rfl) ?_
      refine Js.ret (R := RV w (.bool (M.okG g))) @Try.results62 (fun _ _ => rfl) (ResOk.tmp rfl ResOk.nil) (fun w1 hw => ?_)
      refine ⟨?_, hw.ext (x6)⟩
      first | (simp only [outV]; rw [M.okG_yes ho.1 ho.2.1 ho.2.2 (by assumption) (by assumption) (by omega)]; simp [*]; done) | (simp only [outV]; rw [M.okG_broken (by assumption)]; simp [*]; done)
    ·
      have hl3 := M.okP_len (M.lastPos_ok _ _ ho.1 (M.runs_ok g.moves _ ho.1))
      refine Js.drawn _ [] mixed_ (fun _ h => h) ?_
      refine JH.p 0 rfl (p_move rfl) ?_
      refine JH.p 1 rfl (p_move rfl) ?_
      refine JH.pg (v := undef) 2 rfl (Gd.t1 rfl rfl rfl) (fun hc => absurd hc (by simp [h10])) ?_
      refine JH.pg (v := undef) 3 rfl (Gd.t1 rfl rfl rfl) (fun hc => absurd hc (by simp [h10])) ?_
      refine JH.pg (v := undef) 4 rfl (Gd.t1 rfl rfl rfl) (fun hc => absurd hc (by simp [h10])) ?_
      refine JH.pg (v := undef) 5 rfl (Gd.t1 rfl rfl rfl) (fun hc => absurd hc (by simp [h10])) ?_
      refine JH.pg (v := undef) 6 rfl (Gd.t1 rfl rfl rfl) (fun hc => absurd hc (by simp [h10])) ?_
      refine JH.pg (v := undef) 7 rfl (Gd.t1 rfl rfl rfl) (fun hc => absurd hc (by simp [h10])) ?_
      refine JH.pg (v := undef) 8 rfl (Gd.t1 rfl rfl rfl) (fun hc => absurd hc (by simp [h10])) ?_
      refine JH.pg (v := undef) 9 rfl (Gd.t1 rfl rfl rfl) (fun hc => absurd hc (by simp [h10])) ?_
      refine JH.one (i := 10) (by kernel_rfl) ?_
      refine JHo.qg (v := .bool false) rfl (Gd.t1 rfl rfl rfl) (fun hc => absurd hc (by simp [h10])) ?_
      refine JH.p 11 rfl (p_pickAnd rfl rfl rfl) ?_
      refine JH.p 12 rfl (p_assign rfl) ?_
      refine JH.done (by kernel_rfl) ?_
      refine Js.ret (R := RV w (.bool (M.okG g))) @Try.results62 (fun _ _ => rfl) (ResOk.tmp rfl ResOk.nil) (fun w1 hw => ?_)
      refine ⟨?_, hw.ext (x6)⟩
      first | (simp only [outV]; rw [M.okG_yes ho.1 ho.2.1 ho.2.2 (by assumption) (by assumption) (by omega)]; simp [*]; done) | (simp only [outV]; rw [M.okG_broken (by assumption)]; simp [*]; done)

set_option maxRecDepth 100000 in
set_option maxHeartbeats 400000 in
theorem c_impl_repeats (list : List M.Pos) (v_list : Value) (p : M.Pos) (v_p : Value) (w : World) (h_list : (Ty.sl 33 3 list.length (lPosition list)).ok w v_list) (h_p : (Ty.agg (cPosition p)).ok w v_p) (r0 : list.length ≤ 4194304) (r1 : ∀ (k : Nat) (q : M.Pos), list[k]? = some q → q.pits.length ≤ 4194304 ∧ q.stores.length ≤ 4194304) (r2 : p.pits.length ≤ 4194304) (r3 : p.stores.length ≤ 4194304) : RetV Try.prog 73 [v_list, v_p] w (.int .i64 (M.count p list)) := by
  obtain ⟨A1, c1, rfl, bl1, bh1⟩ := sl_form h_list
  obtain ⟨A2_0, c2_0, A2_1, c2_1, rfl, h2_0, h2_1, bl2_0, bh2_0, bl2_1, bh2_1⟩ := open_Position h_p
  refine enter @Try.func73 @Try.ntmps73 rfl rfl ?_
  refine Js.seq ?_
  refine Js.region ?_
  refine JL.e (e_box (c := [.slice A2_0 p.pits.length c2_0, .slice A2_1 p.stores.length c2_1, .int .i64 p.player]) rfl rfl) ?_
  rintro _ _ _ ⟨b3, rfl, rfl, rfl⟩ _
  refine JL.q (OpP.q (p_assign rfl)) ?_
  refine JL.nil ?_
  refine Js.seq ?_
  refine Js.region ?_
  refine JL.q (OpP.q (p_assign rfl)) ?_
  refine JL.nil ?_
  refine Js.seq ?_
  refine Js.seq ?_
  refine Js.region ?_
  refine JL.q (OpP.q (p_move rfl)) ?_
  refine JL.q (OpP.q (p_len el_44 rfl)) ?_
  refine JL.q (OpP.q (p_move rfl)) ?_
  refine JL.nil ?_
  refine Js.block ?_
  refine Js.loop (fun l os u m => ∃ (k : Nat) (n : Int), l = [(3, .pointer (some ⟨b3, 0, none⟩)), (5, .int .i64 n), (8, .slice A1 list.length c1), (9, .int .i64 (list.length : Int)), (10, .int .i64 (k : Int))] ∧ os = [boxO b3 [.slice A2_0 p.pits.length c2_0, .slice A2_1 p.stores.length c2_1, .int .i64 p.player] 33] ∧ Up w.heap.size w u ∧ (n = M.count p (list.take k)) ∧ (k ≤ list.length) ∧ (0 ≤ n) ∧ (n ≤ k) ∧ m = list.length - k) ⟨0, 0, rfl, rfl, Up.refl _ _, by rfl, by first | assumption | omega | rfl | (simp; done), by first | assumption | omega | rfl | (simp; done), by first | assumption | omega | rfl | (simp; done), rfl⟩ ⟨rfl, rfl, rfl, rfl, rfl, trivial⟩ ?_
  · rintro _ _ u4 _ ⟨k, n, rfl, rfl, x4, hn, hk, n0, n1, rfl⟩
    refine Js.seq ?_
    refine Js.region ?_
    refine JL.q (OpP.q (p_lss rfl rfl)) ?_
    refine JL.nil ?_
    refine Js.seq ?_
    refine Js.cond rfl (fun h5 => ?_) (fun h5 => ?_)
    ·
      have h5' := h5
      try simp only [decide_eq_true_eq] at h5'
      refine Js.skip ?_
      refine Js.seq ?_
      refine Js.block ?_
      refine Js.seq ?_
      refine Js.region ?_
      obtain ⟨y6, hy6⟩ : ∃ x, list[k]? = some x := ⟨_, List.getElem?_eq_getElem (by omega)⟩
      obtain ⟨b6, o6, A6_0, c6_0, A6_1, c6_1, he6, hr6, h6_0, h6_1, bl6_0, bh6_0, bl6_1, bh6_1⟩ := elem_Position (Ty.mono _ h_list x4.vis) hy6
      refine JL.q (OpP.q (p_indexAddr el_44 rfl rfl (by omega) (by omega) he6)) ?_
      refine JL.q (q_loadN ty_33 rfl (Mem.pubR (hr6.sub 0 3)) rfl rfl) ?_
      refine JL.e (e_alloc zero_33) ?_
      rintro _ _ _ ⟨b7, rfl, rfl, rfl⟩ _
      refine JL.s (e_store (i := 0) (c' := [.slice A6_0 y6.pits.length c6_0, .slice A6_1 y6.stores.length c6_1, .int .i64 y6.player]) ty_33 rfl rfl rfl rfl rfl rfl rfl rfl) ?_
      rintro _ _ _ ⟨rfl, rfl⟩ _
      refine JL.nil ?_
      refine Js.seq ?_
      have hlq := r1 _ _ hy6
      refine Js.region ?_
      refine JL.q (q_loadN ty_33 rfl (Mem.boxR (i := 0) rfl 0 3) rfl rfl) ?_
      refine JL.q (q_loadN ty_33 rfl (Mem.boxR (i := 1) rfl 0 3) rfl rfl) ?_
      refine JL.e (e_callV fn_101 rfl (fun w hw => c_impl_SamePosition y6 _ p _ w ⟨_, rfl, ⟨(Ty.mono _ h6_0 hw.vis), (Ty.mono _ h6_1 hw.vis), rfl, trivial⟩⟩ ⟨_, rfl, ⟨(Ty.mono _ h2_0 (x4.vis.trans hw.vis)), (Ty.mono _ h2_1 (x4.vis.trans hw.vis)), rfl, trivial⟩⟩ (by omega) (by omega) (by omega) (by omega))) ?_
      rintro _ _ _ ⟨rfl, rfl, rfl⟩ _
      refine JL.nil ?_
      refine Js.cond rfl (fun h8 => ?_) (fun h8 => ?_)
      ·
        have h8' := h8
        have hs : M.sameP _ p = true := h8
        refine Js.region ?_
        refine JL.q (OpP.q (p_move rfl)) ?_
        refine JL.q (OpP.q (p_add rfl rfl (IntWalk.i64_in _ (by omega)))) ?_
        refine JL.q (OpP.q (p_assign rfl)) ?_
        refine JL.nil ?_
        refine Js.blockEnd ?_
        refine Js.region ?_
        refine JL.q (OpP.q (p_add rfl rfl (IntWalk.i64_in _ (by omega)))) ?_
        refine JL.q (OpP.q (p_move rfl)) ?_
        refine JL.nil ?_
        refine Js.drop (i := 0) rfl rfl (fun u9 x9 => ?_)
        exact Js.again ⟨k + 1, n + 1, rfl, rfl, (x4.trans x9), by rw [M.count_step (by assumption)]; simp [hs, hn], by first | assumption | omega | rfl | (simp; done), by first | assumption | omega | rfl | (simp; done), by first | assumption | omega | rfl | (simp; done), rfl⟩ (by omega) ⟨rfl, rfl, rfl, rfl, rfl, trivial⟩
      ·
        have h8' := h8
        have hs : M.sameP _ p = false := h8
        refine Js.skip ?_
        refine Js.blockEnd ?_
        refine Js.region ?_
        refine JL.q (OpP.q (p_add rfl rfl (IntWalk.i64_in _ (by omega)))) ?_
        refine JL.q (OpP.q (p_move rfl)) ?_
        refine JL.nil ?_
        refine Js.drop (i := 0) rfl rfl (fun u10 x10 => ?_)
        exact Js.again ⟨k + 1, n, rfl, rfl, (x4.trans x10), by rw [M.count_step (by assumption)]; simp [hs, hn], by first | assumption | omega | rfl | (simp; done), by first | assumption | omega | rfl | (simp; done), by first | assumption | omega | rfl | (simp; done), rfl⟩ (by omega) ⟨rfl, rfl, rfl, rfl, rfl, trivial⟩
    ·
      have h5' := h5
      try simp only [decide_eq_false_iff_not, Int.not_lt] at h5'
      have hE : n = M.count p list := by rw [hn, List.take_of_length_le (by omega)]
      refine Js.exit (fun _ _ => rfl) ?_
      refine Js.seq ?_
      refine Js.region ?_
      refine JL.q (OpP.q (p_move rfl)) ?_
      refine JL.q (OpP.q (p_assign rfl)) ?_
      refine JL.nil ?_
      refine Js.ret (R := RV w (.int .i64 (M.count p list))) @Try.results73 (fun _ _ => rfl) (ResOk.tmp rfl ResOk.nil) (fun w1 hw => ?_)
      refine ⟨?_, hw.ext (x4)⟩
      rw [hE]; rfl

end Go.Proofs.Ytejnmechnhgmfaa

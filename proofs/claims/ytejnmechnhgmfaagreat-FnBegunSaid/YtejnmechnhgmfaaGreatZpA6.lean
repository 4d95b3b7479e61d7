/- Walks: D5. -/
import Derived.Test.YtejnmechnhgmfaaGreatZpA2
import Derived.Test.YtejnmechnhgmfaaGreatZpA5
import Derived.Test.YtejnmechnhgmfaaGreatZpA1
set_option linter.unusedSimpArgs false
set_option linter.unusedVariables false
set_option maxRecDepth 100000
attribute [local irreducible] Go.Proofs.YtejnmechnhgmfaaGreat.gv
namespace Go.Proofs.YtejnmechnhgmfaaGreat
open Go.RowKit

set_option maxHeartbeats 4000000 in
theorem c_spec_l08Bent (s_code : Nat) (s_at s_seed : Int) {As_0 : Option Addr} {cs_0 bs : Nat} {w : World} (hb : Bw w [boxO bs [.slice As_0 s_code cs_0, .int .i64 s_at, .int .u64 s_seed] 113]) (hps_0 : (Ty.bytes 5 s_code).ok (offW w (([boxO bs [.slice As_0 s_code cs_0, .int .i64 s_at, .int .u64 s_seed] 113] : List Own).flatMap (·.fp))) (.slice As_0 s_code cs_0)) (r0 : 0 ≤ s_at := by exact om_) (r1 : s_at ≤ 999998000 := by exact om_) (r2 : s_code ≤ 1048576 := by exact om_) : RetB Tryz.prog 51 [.pointer (some ⟨bs, 0, none⟩)] w [boxO bs [.slice As_0 s_code cs_0, .int .i64 s_at, .int .u64 s_seed] 113] (fun v bs' => ∃ (GX : M.Gam) (AT SD : Int) (Axr_9 : Option Addr) (cxr_9 : Nat) (gxr_9 : List Nat) (Axr_10 : Option Addr) (cxr_10 : Nat) (gxr_10 : List Nat) (Axr_12 : Option Addr) (cxr_12 : Nat) (gxr_12 : List Nat) (Axr_13 : Option Addr) (cxr_13 : Nat) (gxr_13 : List Nat) (Axr_14 : Option Addr) (cxr_14 : Nat) (gxr_14 : List Nat), v = .agg #[.int .i64 GX.rules.pits, .int .i64 GX.rules.seeds, .bool GX.rules.stores, .bool GX.rules.skip, .bool GX.rules.relay, .bool GX.rules.feed, .bool GX.rules.again, .int .i64 GX.rules.capture, .int .i64 GX.rules.slam, .slice Axr_9 GX.start.pits.length cxr_9, .slice Axr_10 GX.start.stores.length cxr_10, .int .i64 GX.start.player, .slice Axr_12 GX.moves.length cxr_12, .slice Axr_13 GX.now.pits.length cxr_13, .slice Axr_14 GX.now.stores.length cxr_14, .int .i64 GX.now.player, .int .i64 GX.resigned] ∧ bs' = [boxO bs [.slice As_0 s_code cs_0, .int .i64 AT, .int .u64 SD] 113, rowO 2 1 (.slice Axr_9 GX.start.pits.length cxr_9) GX.start.pits.length (ints_ GX.start.pits) gxr_9, rowO 2 1 (.slice Axr_10 GX.start.stores.length cxr_10) GX.start.stores.length (ints_ GX.start.stores) gxr_10, rowO 2 1 (.slice Axr_12 GX.moves.length cxr_12) GX.moves.length (ints_ GX.moves) gxr_12, rowO 2 1 (.slice Axr_13 GX.now.pits.length cxr_13) GX.now.pits.length (ints_ GX.now.pits) gxr_13, rowO 2 1 (.slice Axr_14 GX.now.stores.length cxr_14) GX.now.stores.length (ints_ GX.now.stores) gxr_14] ∧ GX.start.pits.length ≤ cxr_9 ∧ cxr_9 ≤ 9223372036854775807 ∧ GX.start.stores.length ≤ cxr_10 ∧ cxr_10 ≤ 9223372036854775807 ∧ GX.moves.length ≤ cxr_12 ∧ cxr_12 ≤ 9223372036854775807 ∧ GX.now.pits.length ≤ cxr_13 ∧ cxr_13 ≤ 9223372036854775807 ∧ GX.now.stores.length ≤ cxr_14 ∧ cxr_14 ≤ 9223372036854775807 ∧ (GX.start.pits.length ≤ 4194304 ∧ GX.start.stores.length ≤ 4194304 ∧ GX.moves.length ≤ 122 ∧ GX.now.pits.length ≤ 4194304 ∧ GX.now.stores.length = 2) ∧ (s_at ≤ AT) ∧ (AT ≤ s_at + 2000)) := by
 refine enterB hb @Tryz.func51 @Tryz.ntmps51 rfl rfl ?_
 refine zent ?_
 refine Js.trashE ?_
 refine zn ?_
 refine zS <| za zeh fun b1 => zN <| Qm rfl ?_
 refine zhl [1] ?_
 refine zBB 1 sp_ rfl (fun w hb _ hw => c_spec_l08Draw s_code s_at s_seed 12 hb (ok_ hw)) ?_
 rintro _ _ G2 ⟨X2GX, X2AT, X2SD, A2r_9, c2r_9, g2r_9, A2r_10, c2r_10, g2r_10, A2r_12, c2r_12, g2r_12, A2r_13, c2r_13, g2r_13, A2r_14, c2r_14, g2r_14, rfl, rfl, bl2_0, bl2_1, bl2_2, bl2_3, bl2_4, bl2_5, bl2_6, bl2_7, bl2_8, bl2_9, hX2_0, hX2_1, hX2_2⟩
 refine znl ?_
 refine za zeh fun b3 => zw 0 rfl rfl rfl ?_
 refine JL.nil ?_
 refine zf [0, 0, 0, 0, 0, 0, 0, 1] fun GG4 => ?_
 refine zn ?_
 refine Js.seq <| zS <| Qm rfl ?_
 refine zhl [1] ?_
 refine zBB 1 sp_ rfl (fun w hb _ hw => c_spec_l00Src_one s_code X2AT X2SD 16 hb (ok_ hw)) ?_
 rintro _ _ G5 ⟨X5BX, X5AT, X5SD, rfl, rfl, hX5_0, hX5_1⟩
 refine znl ?_
 refine JL.nil ?_
 refine zf [0, 1, 1, 1, 1, 1, 1, 1] fun GG6 => ?_
 refine zn ?_
 refine zk [0, 2, 3] (fun F U l os u => ∃ (gk : M.Gam) (at1 sd1 : Int) (A7_3_9 : Option Addr) (c7_3_9 : Nat) (g7_3_9 : List Nat) (A7_3_10 : Option Addr) (c7_3_10 : Nat) (g7_3_10 : List Nat) (A7_3_12 : Option Addr) (c7_3_12 : Nat) (g7_3_12 : List Nat) (A7_3_13 : Option Addr) (c7_3_13 : Nat) (g7_3_13 : List Nat) (A7_3_14 : Option Addr) (c7_3_14 : Nat) (g7_3_14 : List Nat) (G7_8 : List Nat), l = F [] ∧ os = U [some (boxO bs [.slice As_0 s_code cs_0, .int .i64 at1, .int .u64 sd1] 113), some (boxO b3 [.int .i64 gk.rules.pits, .int .i64 gk.rules.seeds, .bool gk.rules.stores, .bool gk.rules.skip, .bool gk.rules.relay, .bool gk.rules.feed, .bool gk.rules.again, .int .i64 gk.rules.capture, .int .i64 gk.rules.slam, .slice A7_3_9 gk.start.pits.length c7_3_9, .slice A7_3_10 gk.start.stores.length c7_3_10, .int .i64 gk.start.player, .slice A7_3_12 gk.moves.length c7_3_12, .slice A7_3_13 gk.now.pits.length c7_3_13, .slice A7_3_14 gk.now.stores.length c7_3_14, .int .i64 gk.now.player, .int .i64 gk.resigned] 30), some (rowO 2 1 (.slice A7_3_9 gk.start.pits.length c7_3_9) gk.start.pits.length (ints_ gk.start.pits) g7_3_9), some (rowO 2 1 (.slice A7_3_10 gk.start.stores.length c7_3_10) gk.start.stores.length (ints_ gk.start.stores) g7_3_10), some (rowO 2 1 (.slice A7_3_12 gk.moves.length c7_3_12) gk.moves.length (ints_ gk.moves) g7_3_12), some (rowO 2 1 (.slice A7_3_13 gk.now.pits.length c7_3_13) gk.now.pits.length (ints_ gk.now.pits) g7_3_13), some (rowO 2 1 (.slice A7_3_14 gk.now.stores.length c7_3_14) gk.now.stores.length (ints_ gk.now.stores) g7_3_14), nO, some (anyO G7_8)] ∧ (M.Small gk) ∧ (gk.moves.length ≤ 121) ∧ (gk.now.stores.length = 2) ∧ (s_at ≤ at1) ∧ (at1 ≤ s_at + 1010) ∧ (gk.start.pits.length ≤ c7_3_9) ∧ (c7_3_9 ≤ 9223372036854775807) ∧ (gk.start.stores.length ≤ c7_3_10) ∧ (c7_3_10 ≤ 9223372036854775807) ∧ (gk.moves.length ≤ c7_3_12) ∧ (c7_3_12 ≤ 9223372036854775807) ∧ (gk.now.pits.length ≤ c7_3_13) ∧ (c7_3_13 ≤ 9223372036854775807) ∧ (gk.now.stores.length ≤ c7_3_14) ∧ (c7_3_14 ≤ 9223372036854775807)) ?_ ?_
 ·
  refine zi (fun h8 h8' => ?_) fun h8 h8' => ?_
  ·
   refine Js.region <| Qm rfl <| zbs fun b9 => ?_
   refine zhl [1] ?_
   refine zBB 1 sp_ rfl (fun w hb _ hw => c_spec_l00Src_among s_code X5AT X5SD [4, 8, 12, 119, 120] hb (ok_ hw) (ints_rowok (xs := [4, 8, 12, 119, 120]) (hw.pr (i := 0) rfl)) (r3 := (by simp)) (r4 := (by simp))) ?_
   rintro _ _ G11 ⟨X11KX, X11AT, X11SD, rfl, rfl, hX11_0, hX11_1, hX11_2⟩
   refine znl ?_
   refine zc rfl (fun w hw => c_spec_l08Cycle X11KX (r0 := (by have h9 := (by assumption : _ ∈ ([4, 8, 12, 119, 120] : List Int)); simp at h9; omega)) (r1 := (by have h9 := (by assumption : _ ∈ ([4, 8, 12, 119, 120] : List Int)); simp at h9; omega))) ?_
   intro X12 hX12 A14 c14 bl14 bh14 A15 c15 bl15 bh15 A16 c16 bl16 bh16 A17 c17 bl17 bh17 A18 c18 bl18 bh18
   refine zw 8 rfl rfl rfl ?_
   refine JL.nil ?_
   refine zf [0, 0, 0, 0, 0, 0, 2, 7] fun GG19 => ?_
   refine zn ?_
   refine zf [5, 5, 4, 3, 2, 1, 0, 0] fun GG20 => ?_
   refine zn ?_
   exact zm ⟨(X12), (X11AT), (X11SD), _, _, _, _, _, _, _, _, _, _, _, _, _, _, _, _, rfl, rfl, by exact And.left (b := _ ∧ _) (by assumption), by first | assumption | omega | rfl | (dsimp only; omega), by first | assumption | omega | rfl | (dsimp only; omega), by first | assumption | omega | rfl | (dsimp only; omega), by first | assumption | omega | rfl | (dsimp only; omega), by first | assumption | omega | rfl | (dsimp only; omega), by first | assumption | omega | rfl | (dsimp only; omega), by first | assumption | omega | rfl | (dsimp only; omega), by first | assumption | omega | rfl | (dsimp only; omega), by first | assumption | omega | rfl | (dsimp only; omega), by first | assumption | omega | rfl | (dsimp only; omega), by first | assumption | omega | rfl | (dsimp only; omega), by first | assumption | omega | rfl | (dsimp only; omega), by first | assumption | omega | rfl | (dsimp only; omega), by first | assumption | omega | rfl | (dsimp only; omega)⟩ (Up.refl _ _)
  refine Js.skip ?_
  exact zm ⟨(X2GX), (X5AT), (X5SD), _, _, _, _, _, _, _, _, _, _, _, _, _, _, _, _, rfl, rfl, by exact And.left (b := _ ∧ _) (by assumption), by first | assumption | omega | rfl | (dsimp only; omega), by first | assumption | omega | rfl | (dsimp only; omega), by first | assumption | omega | rfl | (dsimp only; omega), by first | assumption | omega | rfl | (dsimp only; omega), by first | assumption | omega | rfl | (dsimp only; omega), by first | assumption | omega | rfl | (dsimp only; omega), by first | assumption | omega | rfl | (dsimp only; omega), by first | assumption | omega | rfl | (dsimp only; omega), by first | assumption | omega | rfl | (dsimp only; omega), by first | assumption | omega | rfl | (dsimp only; omega), by first | assumption | omega | rfl | (dsimp only; omega), by first | assumption | omega | rfl | (dsimp only; omega), by first | assumption | omega | rfl | (dsimp only; omega), by first | assumption | omega | rfl | (dsimp only; omega)⟩ (Up.refl _ _)
 rintro _ _ u7 ⟨gk, at1, sd1, A7_3_9, c7_3_9, g7_3_9, A7_3_10, c7_3_10, g7_3_10, A7_3_12, c7_3_12, g7_3_12, A7_3_13, c7_3_13, g7_3_13, A7_3_14, c7_3_14, g7_3_14, G7_8, rfl, rfl, hs, hm, hst, ha0, ha1, f7_5, f7_6, f7_7, f7_8, f7_9, f7_10, f7_11, f7_12, f7_13, f7_14⟩ x7
 refine zn ?_
 have s1 := hs.sp
 have s2 := hs.ss
 have s3 := hs.m
 have s4 := hs.np
 have s5 := hs.ns
 refine Js.seq <| zS <| Qm rfl <| zBB 1 sp_ rfl (fun w hb _ hw => c_spec_l00Src_pick s_code at1 sd1 30 hb (ok_ hw)) ?_
 rintro _ _ G21 ⟨X21KX, X21AT, X21SD, rfl, rfl, hX21_0, hX21_1, hX21_2, hX21_3⟩
 refine znl ?_
 refine JL.nil ?_
 refine zf [0, 1, 1, 1, 1, 1, 1, 1] fun GG22 => ?_
 refine zn ?_
 refine Js.block <| zS <| Qe rfl rfl <| Qa rfl <| JL.nil ?_
 refine zi (fun h23 h23' => ?_) fun h23 h23' => ?_
 ·
  refine Js.region <| Qm rfl <| zbs fun b24 => ?_
  refine zhl [1] ?_
  refine zBB 1 sp_ rfl (fun w hb _ hw => c_spec_l00Src_among s_code X21AT X21SD [(-2), 2, 0, 1] hb (ok_ hw) (ints_rowok (xs := [(-2), 2, 0, 1]) (hw.pr (i := 0) rfl)) (r3 := (by simp)) (r4 := (by simp))) ?_
  rintro _ _ G26 ⟨X26KX, X26AT, X26SD, rfl, rfl, hX26_0, hX26_1, hX26_2⟩
  refine znl ?_
  refine Qf fh rfl <| zw 3 rfl rfl rfl ?_
  refine JL.nil ?_
  refine zf [0, 2, 2, 2, 2, 2, 2, 2] fun GG27 => ?_
  refine zn ?_
  refine Js.blockEnd <| zS <| Q9 1 rfl rfl ?_
  refine zw 7 rfl rfl rfl ?_
  refine JL.nil ?_
  refine zf [0, 1, 1, 1, 1, 1, 1] fun GG28 => ?_
  refine zn ?_
  refine zrb [0, 0, 0, 0, 0, 0] hb x7 ?_
  refine ⟨((M.Gam.mk gk.rules gk.start gk.moves gk.now X26KX)), (X26AT), (X26SD), A7_3_9, c7_3_9, g7_3_9, A7_3_10, c7_3_10, g7_3_10, A7_3_12, c7_3_12, g7_3_12, A7_3_13, c7_3_13, g7_3_13, A7_3_14, c7_3_14, g7_3_14, rfl, ?_, ?_, ?_, ?_, ?_, ?_, ?_, ?_, ?_, ?_, ?_, by first | trivial | exact ⟨hs.sp, hs.ss, by omega, hs.np, hst⟩ | omega | (refine ⟨?_, ?_, ?_, ?_, ?_⟩ <;> dsimp only <;> first | assumption | omega | (simp only [List.length_append, List.length_cons, List.length_nil, List.length_set]; omega)), by first | trivial | exact ⟨hs.sp, hs.ss, by omega, hs.np, hst⟩ | omega | (refine ⟨?_, ?_, ?_, ?_, ?_⟩ <;> dsimp only <;> first | assumption | omega | (simp only [List.length_append, List.length_cons, List.length_nil, List.length_set]; omega)), by first | trivial | exact ⟨hs.sp, hs.ss, by omega, hs.np, hst⟩ | omega | (refine ⟨?_, ?_, ?_, ?_, ?_⟩ <;> dsimp only <;> first | assumption | omega | (simp only [List.length_append, List.length_cons, List.length_nil, List.length_set]; omega))⟩
  · rfl
  all_goals (try dsimp only)
  all_goals (first | (omega) | omega | (simp only [*]; omega))
 refine zS <| Qe rfl rfl <| Qa rfl <| JL.nil ?_
 refine zi (fun h29 h29' => ?_) fun h29 h29' => ?_
 ·
  refine zk [2, 3] (fun F U l os u => ∃ (b31 : Nat) (X30KX : Int) (G30 : List Nat) (X30AT X30SD : Int) (A35 : Option Addr) (c35 : Nat) (g34 : List Nat), l = F [] ∧ os = [rowO 2 1 (.slice (some ⟨b31, 0, none⟩) 1 1) 1 [.int .i64 X30KX] [], anyO G30] ++ U [some (boxO bs [.slice As_0 s_code cs_0, .int .i64 X30AT, .int .u64 X30SD] 113), some (boxO b3 [.int .i64 gk.rules.pits, .int .i64 gk.rules.seeds, .bool gk.rules.stores, .bool gk.rules.skip, .bool gk.rules.relay, .bool gk.rules.feed, .bool gk.rules.again, .int .i64 gk.rules.capture, .int .i64 gk.rules.slam, .slice A7_3_9 gk.start.pits.length c7_3_9, .slice A7_3_10 gk.start.stores.length c7_3_10, .int .i64 gk.start.player, .slice A35 ((gk.moves ++ [X30KX]).length) c35, .slice A7_3_13 gk.now.pits.length c7_3_13, .slice A7_3_14 gk.now.stores.length c7_3_14, .int .i64 gk.now.player, .int .i64 gk.resigned] 30), nO, nO, some (rowO 2 1 (.slice A35 ((gk.moves ++ [X30KX]).length) c35) ((gk.moves ++ [X30KX]).length) (ints_ (gk.moves ++ [X30KX])) g34)] ∧ ((gk.moves ++ [X30KX]).length ≤ c35) ∧ (c35 ≤ 9223372036854775807) ∧ (0 ≤ X30KX) ∧ (X30KX = 0 ∨ X30KX < 4) ∧ (X21AT ≤ X30AT) ∧ (X30AT ≤ X21AT + 2)) ?_ ?_
  ·
   refine zdr [3, 5, 7] ?_
   refine JH.p 0 rfl (p_fieldAddr fld_30_2.h rfl) ?_
   refine JH.p 2 rfl (p_move rfl) ?_
   refine y2 1 3 ?_ ?_
   ·
    refine JHo.q rfl (q_load1 ty_26.h rfl (Mem.box (i := 1) rfl rfl)) ?_
    refine y1 3 ?_
    refine yBB 1 sp_ rfl rfl (fun w hb _ hw => c_spec_l00Src_pick s_code X21AT X21SD 4 hb (ok_ hw)) ?_
    rintro _ _ G48 ⟨X48KX, X48AT, X48SD, rfl, rfl, hX48_0, hX48_1, hX48_2, hX48_3⟩
    refine znh ?_
    refine y1 4 ?_
    refine ybs rfl fun b49 => ?_
    refine y1 5 ?_
    refine JHo.e rfl (e_append (i := 6) (n' := (gk.moves ++ [X48KX]).length) (vs' := ints_ (gk.moves ++ [X48KX])) el_26 rfl rfl rfl rfl (src_row (i := 0) und_26 rfl rfl) (by omega) (by omega) (by first | omega | (simp only [List.length_append, List.length_cons, List.length_nil] <;> omega)) (by simp [ints_])) (.inr rfl) ?_
    rintro v51 _ _ ⟨⟨g52, rfl⟩, rfl⟩ _
    refine JH.fact (row_form' (i := 6) rfl) (fun hf53 => ?_)
    obtain ⟨A53, c53, rfl, bl53, bh53⟩ := hf53
    refine znh ?_
    refine JH.p 6 rfl (p_fieldAddr fld_30_2.h rfl) ?_
    refine y1 7 ?_
    refine yst rfl rfl rfl ?_
    refine yd ?_
    refine zh [0, 1, 0, 0, 0, 0, 0, 0, 0, 0, 0] ?_
    exact zm ⟨_, _, _, _, _, _, _, _, rfl, rfl, zt, zt, zt, zt, zt, zt⟩ (Up.refl _ _) ⟨rfl, rfl, trivial⟩
   refine yBB 1 sp_ rfl rfl (fun w hb _ hw => c_spec_l00Src_pick s_code X21AT X21SD 4 hb (ok_ hw)) ?_
   rintro _ _ G54 ⟨X54KX, X54AT, X54SD, rfl, rfl, hX54_0, hX54_1, hX54_2, hX54_3⟩
   refine znh ?_
   refine y2 1 4 ?_ ?_
   ·
    refine JHo.q rfl (q_load1 ty_26.h rfl (Mem.box (i := 2) rfl rfl)) ?_
    refine y1 4 ?_
    refine ybs rfl fun b55 => ?_
    refine y1 5 ?_
    refine JHo.e rfl (e_append (i := 6) (n' := (gk.moves ++ [X54KX]).length) (vs' := ints_ (gk.moves ++ [X54KX])) el_26 rfl rfl rfl rfl (src_row (i := 0) und_26 rfl rfl) (by omega) (by omega) (by first | omega | (simp only [List.length_append, List.length_cons, List.length_nil] <;> omega)) (by simp [ints_])) (.inr rfl) ?_
    rintro v57 _ _ ⟨⟨g58, rfl⟩, rfl⟩ _
    refine JH.fact (row_form' (i := 6) rfl) (fun hf59 => ?_)
    obtain ⟨A59, c59, rfl, bl59, bh59⟩ := hf59
    refine znh ?_
    refine JH.p 6 rfl (p_fieldAddr fld_30_2.h rfl) ?_
    refine y1 7 ?_
    refine yst rfl rfl rfl ?_
    refine yd ?_
    refine zh [0, 1, 0, 0, 0, 0, 0, 0, 0, 0, 0] ?_
    exact zm ⟨_, _, _, _, _, _, _, _, rfl, rfl, zt, zt, zt, zt, zt, zt⟩ (Up.refl _ _) ⟨rfl, rfl, trivial⟩
   refine ybs rfl fun b60 => ?_
   refine y1 1 ?_
   refine JHo.q rfl (q_load1 ty_26.h rfl (Mem.box (i := 3) rfl rfl)) ?_
   refine y1 5 ?_
   refine JHo.e rfl (e_append (i := 6) (n' := (gk.moves ++ [X54KX]).length) (vs' := ints_ (gk.moves ++ [X54KX])) el_26 rfl rfl rfl rfl (src_row (i := 0) und_26 rfl rfl) (by omega) (by omega) (by first | omega | (simp only [List.length_append, List.length_cons, List.length_nil] <;> omega)) (by simp [ints_])) (.inr rfl) ?_
   rintro v62 _ _ ⟨⟨g63, rfl⟩, rfl⟩ _
   refine JH.fact (row_form' (i := 6) rfl) (fun hf64 => ?_)
   obtain ⟨A64, c64, rfl, bl64, bh64⟩ := hf64
   refine znh ?_
   refine JH.p 6 rfl (p_fieldAddr fld_30_2.h rfl) ?_
   refine y1 7 ?_
   refine yst rfl rfl rfl ?_
   refine yd ?_
   refine zh [0, 1, 0, 0, 0, 0, 0, 0, 0, 0, 0] ?_
   exact zm ⟨_, _, _, _, _, _, _, _, rfl, rfl, zt, zt, zt, zt, zt, zt⟩ (Up.refl _ _) ⟨rfl, rfl, trivial⟩
  rintro _ _ u47 ⟨b31, X30KX, G30, X30AT, X30SD, A35, c35, g34, rfl, rfl, f47_0, f47_1, f47_2, f47_3, f47_4, f47_5⟩ x47
  refine zn ?_
  refine zf [2, 2, 2, 2, 2, 2, 2, 2] fun GG65 => ?_
  refine zn ?_
  refine Js.blockEnd <| zS <| Q9 1 rfl rfl ?_
  refine zw 7 rfl rfl rfl ?_
  refine JL.nil ?_
  refine zf [0, 1, 1, 1, 1, 1, 1] fun GG66 => ?_
  refine zn ?_
  refine zrb [0, 0, 0, 0, 0, 0] hb (x7.trans x47) ?_
  refine ⟨((M.Gam.mk gk.rules gk.start (gk.moves ++ [X30KX]) gk.now gk.resigned)), (X30AT), (X30SD), A7_3_9, c7_3_9, g7_3_9, A7_3_10, c7_3_10, g7_3_10, A35, c35, g34, A7_3_13, c7_3_13, g7_3_13, A7_3_14, c7_3_14, g7_3_14, rfl, ?_, ?_, ?_, ?_, ?_, ?_, ?_, ?_, ?_, ?_, ?_, by first | trivial | exact ⟨hs.sp, hs.ss, by omega, hs.np, hst⟩ | omega | (refine ⟨?_, ?_, ?_, ?_, ?_⟩ <;> dsimp only <;> first | assumption | omega | (simp only [List.length_append, List.length_cons, List.length_nil, List.length_set]; omega)), by first | trivial | exact ⟨hs.sp, hs.ss, by omega, hs.np, hst⟩ | omega | (refine ⟨?_, ?_, ?_, ?_, ?_⟩ <;> dsimp only <;> first | assumption | omega | (simp only [List.length_append, List.length_cons, List.length_nil, List.length_set]; omega)), by first | trivial | exact ⟨hs.sp, hs.ss, by omega, hs.np, hst⟩ | omega | (refine ⟨?_, ?_, ?_, ?_, ?_⟩ <;> dsimp only <;> first | assumption | omega | (simp only [List.length_append, List.length_cons, List.length_nil, List.length_set]; omega))⟩
  · rfl
  all_goals (try dsimp only)
  all_goals (first | (omega) | omega | (simp only [*]; omega))
 refine zS <| Qe rfl rfl <| Qa rfl <| JL.nil ?_
 refine zi (fun h67 h67' => ?_) fun h67 h67' => ?_
 ·
  refine Js.region <| Qf fh rfl <| Qf fh rfl <| Q0 1 rfl rfl rfl <| Qq (p_sub rfl rfl rfl) <| Qf fh rfl <| Qf fh rfl <| zw 1 rfl rfl rfl ?_
  refine JL.nil <| Js.blockEnd <| zS <| Q9 1 rfl rfl ?_
  refine zw 7 rfl rfl rfl ?_
  refine JL.nil ?_
  refine zf [0, 1, 1, 1, 1, 1, 1] fun GG68 => ?_
  refine zn ?_
  refine zrb [0, 0, 0, 0, 0, 0] hb x7 ?_
  refine ⟨((M.Gam.mk gk.rules gk.start gk.moves (M.Pos.mk gk.now.pits gk.now.stores (IntKind.i64.wrap (1 - gk.now.player))) gk.resigned)), (X21AT), (X21SD), A7_3_9, c7_3_9, g7_3_9, A7_3_10, c7_3_10, g7_3_10, A7_3_12, c7_3_12, g7_3_12, A7_3_13, c7_3_13, g7_3_13, A7_3_14, c7_3_14, g7_3_14, rfl, ?_, ?_, ?_, ?_, ?_, ?_, ?_, ?_, ?_, ?_, ?_, by first | trivial | exact ⟨hs.sp, hs.ss, by omega, hs.np, hst⟩ | omega | (refine ⟨?_, ?_, ?_, ?_, ?_⟩ <;> dsimp only <;> first | assumption | omega | (simp only [List.length_append, List.length_cons, List.length_nil, List.length_set]; omega)), by first | trivial | exact ⟨hs.sp, hs.ss, by omega, hs.np, hst⟩ | omega | (refine ⟨?_, ?_, ?_, ?_, ?_⟩ <;> dsimp only <;> first | assumption | omega | (simp only [List.length_append, List.length_cons, List.length_nil, List.length_set]; omega)), by first | trivial | exact ⟨hs.sp, hs.ss, by omega, hs.np, hst⟩ | omega | (refine ⟨?_, ?_, ?_, ?_, ?_⟩ <;> dsimp only <;> first | assumption | omega | (simp only [List.length_append, List.length_cons, List.length_nil, List.length_set]; omega))⟩
  · rfl
  all_goals (try dsimp only)
  all_goals (first | (omega) | omega | (simp only [*]; omega))
 refine zS <| Qe rfl rfl <| Qa rfl <| JL.nil ?_
 refine zi (fun h69 h69' => ?_) fun h69 h69' => ?_
 ·
  refine Js.region <| Qf fh rfl <| Qf fh rfl <| Q0 1 rfl rfl rfl ?_
  refine JL.fact (row_some (i := 6) rfl (by omega)) (fun hf71 => ?_)
  obtain ⟨b71, rfl⟩ := hf71
  refine Qq (p_indexAddr el_26 rfl rfl (by omega) (by omega) rfl) <| Qw (q_load1 ty_2.h rfl (Mem.row (i := 6) rfl (ints_get (i := 0) (by omega)))) <| Qq (p_add rfl rfl rfl) <| Qq (p_indexAddr el_26 rfl rfl (by omega) (by omega) rfl) ?_
  refine JL.s (e_storeRow (i := 6) (xs' := ints_ (gk.now.stores.set 0 (IntKind.i64.wrap ((M.nth gk.now.stores 0) + 1)))) ty_2.h rfl rfl rfl rfl rfl rfl (ints_lt (i := 0) (by omega)) (ints_setL (i := 0) (by omega))) ?_
  rintro _ _ _ ⟨rfl, rfl⟩ _
  refine znl ?_
  refine JL.nil <| Js.blockEnd <| zS <| Q9 1 rfl rfl ?_
  refine zw 7 rfl rfl rfl ?_
  refine JL.nil ?_
  refine zf [0, 1, 1, 1, 1, 1, 1] fun GG73 => ?_
  refine zn ?_
  refine zrb [0, 0, 0, 0, 0, 0] hb x7 ?_
  have hNr14 : (gk.now.stores.set 0 (IntKind.i64.wrap ((M.nth gk.now.stores 0) + 1))).length = gk.now.stores.length := by first | rfl | assumption | omega | (simp only [List.length_set, M.setI_length]; done) | (simp only [List.length_set, M.setI_length]; first | rfl | assumption | omega)
  refine ⟨((M.Gam.mk gk.rules gk.start gk.moves (M.Pos.mk gk.now.pits (gk.now.stores.set 0 (IntKind.i64.wrap ((M.nth gk.now.stores 0) + 1))) gk.now.player) gk.resigned)), (X21AT), (X21SD), A7_3_9, c7_3_9, g7_3_9, A7_3_10, c7_3_10, g7_3_10, A7_3_12, c7_3_12, g7_3_12, A7_3_13, c7_3_13, g7_3_13, (some ⟨b71, 0, none⟩), c7_3_14, g7_3_14, (show (.agg #[.int .i64 gk.rules.pits, .int .i64 gk.rules.seeds, .bool gk.rules.stores, .bool gk.rules.skip, .bool gk.rules.relay, .bool gk.rules.feed, .bool gk.rules.again, .int .i64 gk.rules.capture, .int .i64 gk.rules.slam, .slice A7_3_9 gk.start.pits.length c7_3_9, .slice A7_3_10 gk.start.stores.length c7_3_10, .int .i64 gk.start.player, .slice A7_3_12 gk.moves.length c7_3_12, .slice A7_3_13 gk.now.pits.length c7_3_13, .slice (some ⟨b71, 0, none⟩) gk.now.stores.length c7_3_14, .int .i64 gk.now.player, .int .i64 gk.resigned] : Value) = .agg #[.int .i64 gk.rules.pits, .int .i64 gk.rules.seeds, .bool gk.rules.stores, .bool gk.rules.skip, .bool gk.rules.relay, .bool gk.rules.feed, .bool gk.rules.again, .int .i64 gk.rules.capture, .int .i64 gk.rules.slam, .slice A7_3_9 gk.start.pits.length c7_3_9, .slice A7_3_10 gk.start.stores.length c7_3_10, .int .i64 gk.start.player, .slice A7_3_12 gk.moves.length c7_3_12, .slice A7_3_13 gk.now.pits.length c7_3_13, .slice (some ⟨b71, 0, none⟩) (gk.now.stores.set 0 (IntKind.i64.wrap ((M.nth gk.now.stores 0) + 1))).length c7_3_14, .int .i64 gk.now.player, .int .i64 gk.resigned] by rw [hNr14]), ?_, ?_, ?_, ?_, ?_, ?_, ?_, ?_, ?_, ?_, ?_, by first | trivial | exact ⟨hs.sp, hs.ss, by omega, hs.np, hst⟩ | omega | (refine ⟨?_, ?_, ?_, ?_, ?_⟩ <;> dsimp only <;> first | assumption | omega | (simp only [List.length_append, List.length_cons, List.length_nil, List.length_set]; omega)), by first | trivial | exact ⟨hs.sp, hs.ss, by omega, hs.np, hst⟩ | omega | (refine ⟨?_, ?_, ?_, ?_, ?_⟩ <;> dsimp only <;> first | assumption | omega | (simp only [List.length_append, List.length_cons, List.length_nil, List.length_set]; omega)), by first | trivial | exact ⟨hs.sp, hs.ss, by omega, hs.np, hst⟩ | omega | (refine ⟨?_, ?_, ?_, ?_, ?_⟩ <;> dsimp only <;> first | assumption | omega | (simp only [List.length_append, List.length_cons, List.length_nil, List.length_set]; omega))⟩
  · first | rfl | (dsimp only; rw [hNr14]) | (dsimp only; simp only [hNr14])
  all_goals (try dsimp only)
  all_goals (first | (rw [hNr14]; omega) | omega | (simp only [*]; omega))
 refine zS <| Qe rfl rfl <| Qa rfl <| JL.nil ?_
 refine zi (fun h74 h74' => ?_) fun h74 h74' => ?_
 ·
  refine Js.region <| Qm rfl <| zbs fun b75 => ?_
  refine zhl [1] ?_
  refine zBB 1 sp_ rfl (fun w hb _ hw => c_spec_l00Src_among s_code X21AT X21SD [1, 3, 9] hb (ok_ hw) (ints_rowok (xs := [1, 3, 9]) (hw.pr (i := 0) rfl)) (r3 := (by simp)) (r4 := (by simp))) ?_
  rintro _ _ G77 ⟨X77KX, X77AT, X77SD, rfl, rfl, hX77_0, hX77_1, hX77_2⟩
  refine znl ?_
  refine Qf fh rfl <| Qf fh rfl <| zw 3 rfl rfl rfl ?_
  refine JL.nil ?_
  refine zf [0, 2, 2, 2, 2, 2, 2, 2] fun GG78 => ?_
  refine zn ?_
  refine Js.blockEnd <| zS <| Q9 1 rfl rfl ?_
  refine zw 7 rfl rfl rfl ?_
  refine JL.nil ?_
  refine zf [0, 1, 1, 1, 1, 1, 1] fun GG79 => ?_
  refine zn ?_
  refine zrb [0, 0, 0, 0, 0, 0] hb x7 ?_
  refine ⟨((M.Gam.mk (M.Rul.mk X77KX gk.rules.seeds gk.rules.stores gk.rules.skip gk.rules.relay gk.rules.feed gk.rules.again gk.rules.capture gk.rules.slam) gk.start gk.moves gk.now gk.resigned)), (X77AT), (X77SD), A7_3_9, c7_3_9, g7_3_9, A7_3_10, c7_3_10, g7_3_10, A7_3_12, c7_3_12, g7_3_12, A7_3_13, c7_3_13, g7_3_13, A7_3_14, c7_3_14, g7_3_14, rfl, ?_, ?_, ?_, ?_, ?_, ?_, ?_, ?_, ?_, ?_, ?_, by first | trivial | exact ⟨hs.sp, hs.ss, by omega, hs.np, hst⟩ | omega | (refine ⟨?_, ?_, ?_, ?_, ?_⟩ <;> dsimp only <;> first | assumption | omega | (simp only [List.length_append, List.length_cons, List.length_nil, List.length_set]; omega)), by first | trivial | exact ⟨hs.sp, hs.ss, by omega, hs.np, hst⟩ | omega | (refine ⟨?_, ?_, ?_, ?_, ?_⟩ <;> dsimp only <;> first | assumption | omega | (simp only [List.length_append, List.length_cons, List.length_nil, List.length_set]; omega)), by first | trivial | exact ⟨hs.sp, hs.ss, by omega, hs.np, hst⟩ | omega | (refine ⟨?_, ?_, ?_, ?_, ?_⟩ <;> dsimp only <;> first | assumption | omega | (simp only [List.length_append, List.length_cons, List.length_nil, List.length_set]; omega))⟩
  · rfl
  all_goals (try dsimp only)
  all_goals (first | (omega) | omega | (simp only [*]; omega))
 refine zS <| Qe rfl rfl <| Qa rfl <| JL.nil ?_
 refine zi (fun h80 h80' => ?_) fun h80 h80' => ?_
 ·
  refine zS <| Qf fh rfl <| Q0 1 rfl rfl rfl <| Qz rfl <| Qg rfl rfl <| JL.nil ?_
  refine zi (fun h81 h81' => ?_) fun h81 h81' => ?_
  ·
   refine zk [2, 3] (fun F U l os u => ∃ (G82 : List Nat) (X82AT X82SD : Int) (b84 : Nat) (X82KX : Int), l = F [] ∧ os = [anyO G82] ++ U [some (boxO bs [.slice As_0 s_code cs_0, .int .i64 X82AT, .int .u64 X82SD] 113), some (boxO b3 [.int .i64 gk.rules.pits, .int .i64 gk.rules.seeds, .bool gk.rules.stores, .bool gk.rules.skip, .bool gk.rules.relay, .bool gk.rules.feed, .bool gk.rules.again, .int .i64 gk.rules.capture, .int .i64 gk.rules.slam, .slice A7_3_9 gk.start.pits.length c7_3_9, .slice A7_3_10 gk.start.stores.length c7_3_10, .int .i64 gk.start.player, .slice (some ⟨b84, 0, none⟩) gk.moves.length c7_3_12, .slice A7_3_13 gk.now.pits.length c7_3_13, .slice A7_3_14 gk.now.stores.length c7_3_14, .int .i64 gk.now.player, .int .i64 gk.resigned] 30), nO, nO, some (rowO 2 1 (.slice (some ⟨b84, 0, none⟩) gk.moves.length c7_3_12) gk.moves.length (ints_ (gk.moves.set 0 (X82KX - 1))) g7_3_12)] ∧ (X21AT ≤ X82AT) ∧ (X82AT ≤ X21AT + 2) ∧ (0 ≤ X82KX) ∧ (X82KX = 0 ∨ X82KX < 6)) ?_ ?_
   ·
    refine zdr [3, 6] ?_
    refine JH.p 0 rfl (p_fieldAddr fld_30_2.h rfl) ?_
    refine JH.p 2 rfl (p_move rfl) ?_
    refine y2 1 3 ?_ ?_
    ·
     refine JHo.q rfl (q_load1 ty_26.h rfl (Mem.box (i := 1) rfl rfl)) ?_
     refine y1 3 ?_
     refine yBB 1 sp_ rfl rfl (fun w hb _ hw => c_spec_l00Src_pick s_code X21AT X21SD 6 hb (ok_ hw)) ?_
     rintro _ _ G89 ⟨X89KX, X89AT, X89SD, rfl, rfl, hX89_0, hX89_1, hX89_2, hX89_3⟩
     refine znh ?_
     refine JH.p 4 rfl (p_sub rfl rfl (IntWalk.i64_in _ (by omega))) ?_
     refine JH.fact (row_some (i := 5) rfl (by omega)) (fun hf91 => ?_)
     obtain ⟨b91, rfl⟩ := hf91
     refine JH.p 5 rfl (p_indexAddr el_26 rfl rfl (by omega) (by omega) rfl) ?_
     refine y1 6 ?_
     refine JHo.s rfl (e_storeRow (i := 5) (xs' := ints_ (gk.moves.set 0 (X89KX - 1))) ty_2.h rfl rfl rfl rfl rfl rfl (ints_lt (i := 0) (by omega)) (ints_setL (i := 0) (by omega))) (.inr rfl) ?_
     rintro _ _ _ ⟨rfl, rfl⟩ _
     refine znh ?_
     refine yd ?_
     refine zh [1, 0, 0, 0, 0, 0, 0, 0, 0, 0] ?_
     exact zm ⟨_, _, _, _, _, rfl, rfl, zt, zt, zt, zt⟩ (Up.refl _ _) ⟨rfl, rfl, trivial⟩
    refine yBB 1 sp_ rfl rfl (fun w hb _ hw => c_spec_l00Src_pick s_code X21AT X21SD 6 hb (ok_ hw)) ?_
    rintro _ _ G92 ⟨X92KX, X92AT, X92SD, rfl, rfl, hX92_0, hX92_1, hX92_2, hX92_3⟩
    refine znh ?_
    refine JH.p 4 rfl (p_sub rfl rfl (IntWalk.i64_in _ (by omega))) ?_
    refine y1 1 ?_
    refine JHo.q rfl (q_load1 ty_26.h rfl (Mem.box (i := 2) rfl rfl)) ?_
    refine JH.fact (row_some (i := 5) rfl (by omega)) (fun hf94 => ?_)
    obtain ⟨b94, rfl⟩ := hf94
    refine JH.p 5 rfl (p_indexAddr el_26 rfl rfl (by omega) (by omega) rfl) ?_
    refine y1 6 ?_
    refine JHo.s rfl (e_storeRow (i := 5) (xs' := ints_ (gk.moves.set 0 (X92KX - 1))) ty_2.h rfl rfl rfl rfl rfl rfl (ints_lt (i := 0) (by omega)) (ints_setL (i := 0) (by omega))) (.inr rfl) ?_
    rintro _ _ _ ⟨rfl, rfl⟩ _
    refine znh ?_
    refine yd ?_
    refine zh [1, 0, 0, 0, 0, 0, 0, 0, 0, 0] ?_
    exact zm ⟨_, _, _, _, _, rfl, rfl, zt, zt, zt, zt⟩ (Up.refl _ _) ⟨rfl, rfl, trivial⟩
   rintro _ _ u88 ⟨G82, X82AT, X82SD, b84, X82KX, rfl, rfl, f88_0, f88_1, f88_2, f88_3⟩ x88
   refine zn ?_
   refine zf [1, 1, 1, 1, 1, 1, 1, 1] fun GG95 => ?_
   refine zn ?_
   refine Js.blockEnd <| zS <| Q9 1 rfl rfl ?_
   refine zw 7 rfl rfl rfl ?_
   refine JL.nil ?_
   refine zf [0, 1, 1, 1, 1, 1, 1] fun GG96 => ?_
   refine zn ?_
   refine zrb [0, 0, 0, 0, 0, 0] hb (x7.trans x88) ?_
   have hNr12 : (gk.moves.set 0 (X82KX - 1)).length = gk.moves.length := by first | rfl | assumption | omega | (simp only [List.length_set, M.setI_length]; done) | (simp only [List.length_set, M.setI_length]; first | rfl | assumption | omega)
   refine ⟨((M.Gam.mk gk.rules gk.start (gk.moves.set 0 (X82KX - 1)) gk.now gk.resigned)), (X82AT), (X82SD), A7_3_9, c7_3_9, g7_3_9, A7_3_10, c7_3_10, g7_3_10, (some ⟨b84, 0, none⟩), c7_3_12, g7_3_12, A7_3_13, c7_3_13, g7_3_13, A7_3_14, c7_3_14, g7_3_14, (show (.agg #[.int .i64 gk.rules.pits, .int .i64 gk.rules.seeds, .bool gk.rules.stores, .bool gk.rules.skip, .bool gk.rules.relay, .bool gk.rules.feed, .bool gk.rules.again, .int .i64 gk.rules.capture, .int .i64 gk.rules.slam, .slice A7_3_9 gk.start.pits.length c7_3_9, .slice A7_3_10 gk.start.stores.length c7_3_10, .int .i64 gk.start.player, .slice (some ⟨b84, 0, none⟩) gk.moves.length c7_3_12, .slice A7_3_13 gk.now.pits.length c7_3_13, .slice A7_3_14 gk.now.stores.length c7_3_14, .int .i64 gk.now.player, .int .i64 gk.resigned] : Value) = .agg #[.int .i64 gk.rules.pits, .int .i64 gk.rules.seeds, .bool gk.rules.stores, .bool gk.rules.skip, .bool gk.rules.relay, .bool gk.rules.feed, .bool gk.rules.again, .int .i64 gk.rules.capture, .int .i64 gk.rules.slam, .slice A7_3_9 gk.start.pits.length c7_3_9, .slice A7_3_10 gk.start.stores.length c7_3_10, .int .i64 gk.start.player, .slice (some ⟨b84, 0, none⟩) (gk.moves.set 0 (X82KX - 1)).length c7_3_12, .slice A7_3_13 gk.now.pits.length c7_3_13, .slice A7_3_14 gk.now.stores.length c7_3_14, .int .i64 gk.now.player, .int .i64 gk.resigned] by rw [hNr12]), ?_, ?_, ?_, ?_, ?_, ?_, ?_, ?_, ?_, ?_, ?_, by first | trivial | exact ⟨hs.sp, hs.ss, by omega, hs.np, hst⟩ | omega | (refine ⟨?_, ?_, ?_, ?_, ?_⟩ <;> dsimp only <;> first | assumption | omega | (simp only [List.length_append, List.length_cons, List.length_nil, List.length_set]; omega)), by first | trivial | exact ⟨hs.sp, hs.ss, by omega, hs.np, hst⟩ | omega | (refine ⟨?_, ?_, ?_, ?_, ?_⟩ <;> dsimp only <;> first | assumption | omega | (simp only [List.length_append, List.length_cons, List.length_nil, List.length_set]; omega)), by first | trivial | exact ⟨hs.sp, hs.ss, by omega, hs.np, hst⟩ | omega | (refine ⟨?_, ?_, ?_, ?_, ?_⟩ <;> dsimp only <;> first | assumption | omega | (simp only [List.length_append, List.length_cons, List.length_nil, List.length_set]; omega))⟩
   · first | rfl | (dsimp only; rw [hNr12]) | (dsimp only; simp only [hNr12])
   all_goals (try dsimp only)
   all_goals (first | (rw [hNr12]; omega) | omega | (simp only [*]; omega))
  refine Js.skip <| Js.blockEnd <| zS <| Q9 1 rfl rfl ?_
  refine zw 7 rfl rfl rfl ?_
  refine JL.nil ?_
  refine zf [0, 1, 1, 1, 1, 1, 1] fun GG97 => ?_
  refine zn ?_
  refine zrb [0, 0, 0, 0, 0, 0] hb x7 ?_
  refine ⟨(gk), (X21AT), (X21SD), A7_3_9, c7_3_9, g7_3_9, A7_3_10, c7_3_10, g7_3_10, A7_3_12, c7_3_12, g7_3_12, A7_3_13, c7_3_13, g7_3_13, A7_3_14, c7_3_14, g7_3_14, rfl, ?_, ?_, ?_, ?_, ?_, ?_, ?_, ?_, ?_, ?_, ?_, by first | trivial | exact ⟨hs.sp, hs.ss, by omega, hs.np, hst⟩ | omega | (refine ⟨?_, ?_, ?_, ?_, ?_⟩ <;> dsimp only <;> first | assumption | omega | (simp only [List.length_append, List.length_cons, List.length_nil, List.length_set]; omega)), by first | trivial | exact ⟨hs.sp, hs.ss, by omega, hs.np, hst⟩ | omega | (refine ⟨?_, ?_, ?_, ?_, ?_⟩ <;> dsimp only <;> first | assumption | omega | (simp only [List.length_append, List.length_cons, List.length_nil, List.length_set]; omega)), by first | trivial | exact ⟨hs.sp, hs.ss, by omega, hs.np, hst⟩ | omega | (refine ⟨?_, ?_, ?_, ?_, ?_⟩ <;> dsimp only <;> first | assumption | omega | (simp only [List.length_append, List.length_cons, List.length_nil, List.length_set]; omega))⟩
  · rfl
  all_goals (try dsimp only)
  all_goals (first | (omega) | omega | (simp only [*]; omega))
 refine Js.skip <| Js.blockEnd <| zS <| Q9 1 rfl rfl ?_
 refine zw 7 rfl rfl rfl ?_
 refine JL.nil ?_
 refine zf [0, 1, 1, 1, 1, 1, 1] fun GG98 => ?_
 refine zn ?_
 refine zrb [0, 0, 0, 0, 0, 0] hb x7 ?_
 refine ⟨(gk), (X21AT), (X21SD), A7_3_9, c7_3_9, g7_3_9, A7_3_10, c7_3_10, g7_3_10, A7_3_12, c7_3_12, g7_3_12, A7_3_13, c7_3_13, g7_3_13, A7_3_14, c7_3_14, g7_3_14, rfl, ?_, ?_, ?_, ?_, ?_, ?_, ?_, ?_, ?_, ?_, ?_, by first | trivial | exact ⟨hs.sp, hs.ss, by omega, hs.np, hst⟩ | omega | (refine ⟨?_, ?_, ?_, ?_, ?_⟩ <;> dsimp only <;> first | assumption | omega | (simp only [List.length_append, List.length_cons, List.length_nil, List.length_set]; omega)), by first | trivial | exact ⟨hs.sp, hs.ss, by omega, hs.np, hst⟩ | omega | (refine ⟨?_, ?_, ?_, ?_, ?_⟩ <;> dsimp only <;> first | assumption | omega | (simp only [List.length_append, List.length_cons, List.length_nil, List.length_set]; omega)), by first | trivial | exact ⟨hs.sp, hs.ss, by omega, hs.np, hst⟩ | omega | (refine ⟨?_, ?_, ?_, ?_, ?_⟩ <;> dsimp only <;> first | assumption | omega | (simp only [List.length_append, List.length_cons, List.length_nil, List.length_set]; omega))⟩
 · rfl
 all_goals (try dsimp only)
 all_goals (first | (omega) | omega | (simp only [*]; omega))

end Go.Proofs.YtejnmechnhgmfaaGreat

namespace Go.Proofs.YtejnmechnhgmfaaGreat
open Go.RowKit

set_option maxHeartbeats 4000000 in
theorem c_spec_l02Bent (s_code : Nat) (s_at s_seed : Int) {As_0 : Option Addr} {cs_0 bs : Nat} {w : World} (hb : Bw w [boxO bs [.slice As_0 s_code cs_0, .int .i64 s_at, .int .u64 s_seed] 113]) (hps_0 : (Ty.bytes 5 s_code).ok (offW w (([boxO bs [.slice As_0 s_code cs_0, .int .i64 s_at, .int .u64 s_seed] 113] : List Own).flatMap (·.fp))) (.slice As_0 s_code cs_0)) (r0 : 0 ≤ s_at := by exact om_) (r1 : s_at ≤ 999999940 := by exact om_) (r2 : s_code ≤ 1048576 := by exact om_) : RetB Tryz.prog 67 [.pointer (some ⟨bs, 0, none⟩)] w [boxO bs [.slice As_0 s_code cs_0, .int .i64 s_at, .int .u64 s_seed] 113] (fun v bs' => ∃ (RX : M.Rul) (AT SD : Int), v = .agg #[.int .i64 RX.pits, .int .i64 RX.seeds, .bool RX.stores, .bool RX.skip, .bool RX.relay, .bool RX.feed, .bool RX.again, .int .i64 RX.capture, .int .i64 RX.slam] ∧ bs' = [boxO bs [.slice As_0 s_code cs_0, .int .i64 AT, .int .u64 SD] 113] ∧ (s_at ≤ AT) ∧ (AT ≤ s_at + 60)) := by
 refine enterB hb @Tryz.func67 @Tryz.ntmps67 rfl rfl ?_
 refine zent ?_
 refine Js.trashE ?_
 refine zn ?_
 refine zS <| za zeh fun b1 => zN <| Qm rfl ?_
 refine zhl [1] ?_
 refine zBB 1 sp_ rfl (fun w hb _ hw => c_spec_l02Draw s_code s_at s_seed hb (ok_ hw)) ?_
 rintro _ _ G2 ⟨X2RX, X2AT, X2SD, rfl, rfl, hX2_0, hX2_1, hX2_2⟩
 refine znl ?_
 refine za zeh fun b3 => zw 0 rfl rfl rfl ?_
 refine JL.nil ?_
 refine zf [0, 0, 1] fun GG4 => ?_
 refine zn ?_
 refine Js.seq <| zS <| Qm rfl ?_
 refine zhl [1] ?_
 refine zBB 1 sp_ rfl (fun w hb _ hw => c_spec_l00Src_pick s_code X2AT X2SD 24 hb (ok_ hw)) ?_
 rintro _ _ G5 ⟨X5KX, X5AT, X5SD, rfl, rfl, hX5_0, hX5_1, hX5_2, hX5_3⟩
 refine znl ?_
 refine JL.nil ?_
 refine zf [0, 1, 1] fun GG6 => ?_
 refine zn ?_
 refine Js.block <| zS <| Qe rfl rfl <| Qa rfl <| JL.nil ?_
 refine zi (fun h7 h7' => ?_) fun h7 h7' => ?_
 ·
  refine Js.region <| Qm rfl <| zbs fun b8 => ?_
  refine zhl [1] ?_
  refine zBB 1 sp_ rfl (fun w hb _ hw => c_spec_l00Src_among s_code X5AT X5SD [1, 2, 8, 9, (-9223372036854775808)] hb (ok_ hw) (ints_rowok (xs := [1, 2, 8, 9, (-9223372036854775808)]) (hw.pr (i := 0) rfl)) (r3 := (by simp)) (r4 := (by simp))) ?_
  rintro _ _ G10 ⟨X10KX, X10AT, X10SD, rfl, rfl, hX10_0, hX10_1, hX10_2⟩
  refine znl ?_
  refine Qf fh rfl <| zw 3 rfl rfl rfl ?_
  refine JL.nil ?_
  refine zf [0, 2, 2] fun GG11 => ?_
  refine zn ?_
  refine Js.blockEnd <| zS <| Q9 1 rfl rfl ?_
  refine zw 2 rfl rfl rfl ?_
  refine JL.nil ?_
  refine zf [0, 1] fun GG12 => ?_
  refine zn ?_
  refine zrb [0] hb (Up.refl _ _) ?_
  refine ⟨((M.Rul.mk X10KX X2RX.seeds X2RX.stores X2RX.skip X2RX.relay X2RX.feed X2RX.again X2RX.capture X2RX.slam)), (X10AT), (X10SD), rfl, ?_, by first | trivial | omega | decide | (dsimp only; omega), by first | trivial | omega | decide | (dsimp only; omega)⟩
  · rfl
 refine zS <| Qe rfl rfl <| Qa rfl <| JL.nil ?_
 refine zi (fun h13 h13' => ?_) fun h13 h13' => ?_
 ·
  refine Js.region <| Qm rfl <| zbs fun b14 => ?_
  refine zhl [1] ?_
  refine zBB 1 sp_ rfl (fun w hb _ hw => c_spec_l00Src_among s_code X5AT X5SD [0, 1, 6, 7] hb (ok_ hw) (ints_rowok (xs := [0, 1, 6, 7]) (hw.pr (i := 0) rfl)) (r3 := (by simp)) (r4 := (by simp))) ?_
  rintro _ _ G16 ⟨X16KX, X16AT, X16SD, rfl, rfl, hX16_0, hX16_1, hX16_2⟩
  refine znl ?_
  refine Qf fh rfl <| zw 3 rfl rfl rfl ?_
  refine JL.nil ?_
  refine zf [0, 2, 2] fun GG17 => ?_
  refine zn ?_
  refine Js.blockEnd <| zS <| Q9 1 rfl rfl ?_
  refine zw 2 rfl rfl rfl ?_
  refine JL.nil ?_
  refine zf [0, 1] fun GG18 => ?_
  refine zn ?_
  refine zrb [0] hb (Up.refl _ _) ?_
  refine ⟨((M.Rul.mk X2RX.pits X16KX X2RX.stores X2RX.skip X2RX.relay X2RX.feed X2RX.again X2RX.capture X2RX.slam)), (X16AT), (X16SD), rfl, ?_, by first | trivial | omega | decide | (dsimp only; omega), by first | trivial | omega | decide | (dsimp only; omega)⟩
  · rfl
 refine zS <| Qe rfl rfl <| Qa rfl <| JL.nil ?_
 refine zi (fun h19 h19' => ?_) fun h19 h19' => ?_
 ·
  refine Js.region <| Qm rfl <| zbs fun b20 => ?_
  refine zhl [1] ?_
  refine zBB 1 sp_ rfl (fun w hb _ hw => c_spec_l00Src_among s_code X5AT X5SD [(-1), 4, 0, 3] hb (ok_ hw) (ints_rowok (xs := [(-1), 4, 0, 3]) (hw.pr (i := 0) rfl)) (r3 := (by simp)) (r4 := (by simp))) ?_
  rintro _ _ G22 ⟨X22KX, X22AT, X22SD, rfl, rfl, hX22_0, hX22_1, hX22_2⟩
  refine znl ?_
  refine Qf fh rfl <| zw 3 rfl rfl rfl ?_
  refine JL.nil ?_
  refine zf [0, 2, 2] fun GG23 => ?_
  refine zn ?_
  refine Js.blockEnd <| zS <| Q9 1 rfl rfl ?_
  refine zw 2 rfl rfl rfl ?_
  refine JL.nil ?_
  refine zf [0, 1] fun GG24 => ?_
  refine zn ?_
  refine zrb [0] hb (Up.refl _ _) ?_
  refine ⟨((M.Rul.mk X2RX.pits X2RX.seeds X2RX.stores X2RX.skip X2RX.relay X2RX.feed X2RX.again X22KX X2RX.slam)), (X22AT), (X22SD), rfl, ?_, by first | trivial | omega | decide | (dsimp only; omega), by first | trivial | omega | decide | (dsimp only; omega)⟩
  · rfl
 refine zS <| Qe rfl rfl <| Qa rfl <| JL.nil ?_
 refine zi (fun h25 h25' => ?_) fun h25 h25' => ?_
 ·
  refine Js.region <| Qm rfl <| zbs fun b26 => ?_
  refine zhl [1] ?_
  refine zBB 1 sp_ rfl (fun w hb _ hw => c_spec_l00Src_among s_code X5AT X5SD [(-1), 3, 2] hb (ok_ hw) (ints_rowok (xs := [(-1), 3, 2]) (hw.pr (i := 0) rfl)) (r3 := (by simp)) (r4 := (by simp))) ?_
  rintro _ _ G28 ⟨X28KX, X28AT, X28SD, rfl, rfl, hX28_0, hX28_1, hX28_2⟩
  refine znl ?_
  refine Qf fh rfl <| zw 3 rfl rfl rfl ?_
  refine JL.nil ?_
  refine zf [0, 2, 2] fun GG29 => ?_
  refine zn ?_
  refine Js.blockEnd <| zS <| Q9 1 rfl rfl ?_
  refine zw 2 rfl rfl rfl ?_
  refine JL.nil ?_
  refine zf [0, 1] fun GG30 => ?_
  refine zn ?_
  refine zrb [0] hb (Up.refl _ _) ?_
  refine ⟨((M.Rul.mk X2RX.pits X2RX.seeds X2RX.stores X2RX.skip X2RX.relay X2RX.feed X2RX.again X2RX.capture X28KX)), (X28AT), (X28SD), rfl, ?_, by first | trivial | omega | decide | (dsimp only; omega), by first | trivial | omega | decide | (dsimp only; omega)⟩
  · rfl
 refine zS <| Qe rfl rfl <| Qa rfl <| JL.nil ?_
 refine zi (fun h31 h31' => ?_) fun h31 h31' => ?_
 ·
  refine zS <| Qf fh rfl <| zw 1 rfl rfl rfl ?_
  refine zG <| Qm rfl <| zBB 1 sp_ rfl (fun w hb _ hw => c_spec_l00Src_one s_code X5AT X5SD 2 hb (ok_ hw)) ?_
  rintro _ _ G32 ⟨X32BX, X32AT, X32SD, rfl, rfl, hX32_0, hX32_1⟩
  refine znl ?_
  refine Qf fh rfl <| zw 2 rfl rfl rfl ?_
  refine JL.nil ?_
  refine zf [0, 1, 1] fun GG33 => ?_
  refine zn ?_
  refine Js.blockEnd <| zS <| Q9 1 rfl rfl ?_
  refine zw 2 rfl rfl rfl ?_
  refine JL.nil ?_
  refine zf [0, 1] fun GG34 => ?_
  refine zn ?_
  refine zrb [0] hb (Up.refl _ _) ?_
  refine ⟨((M.Rul.mk X2RX.pits X2RX.seeds X32BX X2RX.skip X2RX.relay X2RX.feed true X2RX.capture X2RX.slam)), (X32AT), (X32SD), rfl, ?_, by first | trivial | omega | decide | (dsimp only; omega), by first | trivial | omega | decide | (dsimp only; omega)⟩
  · rfl
 refine Js.skip <| Js.blockEnd <| zS <| Q9 1 rfl rfl ?_
 refine zw 2 rfl rfl rfl ?_
 refine JL.nil ?_
 refine zf [0, 1] fun GG35 => ?_
 refine zn ?_
 refine zrb [0] hb (Up.refl _ _) ?_
 refine ⟨(X2RX), (X5AT), (X5SD), rfl, ?_, by first | trivial | omega | decide | (dsimp only; omega), by first | trivial | omega | decide | (dsimp only; omega)⟩
 · rfl

set_option maxHeartbeats 4000000 in
theorem c_spec_DrawNewGame (code : Nat) {v_code : Value} {w : World} (h_code : (Ty.bytes 5 code).ok w v_code) (r0 : code ≤ 1048576 := by exact om_) : Ret Tryz.prog 24 [v_code] w (Ty.ex (fun (RX : M.Rul) => True) (fun RX => Ty.agg (cRules RX))) := by
 revert v_code; apply opn
 intro A1 c1 h1 bl1 bh1
 have h_code := h1
 refine enter @Tryz.func24 @Tryz.ntmps24 rfl rfl ?_
 refine zent ?_
 refine zS <| za zeh fun b2 => zN <| Qm rfl <| zcs rfl (fun w hw => c_spec_l00From code (ok_ hw)) ?_
 intro b3
 refine zB 1 sp_ rfl (fun w hb hw => c_spec_l02Bent code 0 0 hb (ok_ hw)) ?_
 rintro _ _ G4 ⟨X4RX, X4AT, X4SD, rfl, rfl, hX4_0, hX4_1⟩
 refine znl ?_
 refine zw 2 rfl rfl rfl ?_
 refine JL.nil ?_
 exact zro (Up.refl _ _) (g := by exact (gv_ex X4RX (by first | trivial | assumption | omega) gv_))

set_option maxHeartbeats 4000000 in
theorem c_spec_DrawResignGame (code : Nat) {v_code : Value} {w : World} (h_code : (Ty.bytes 5 code).ok w v_code) (r0 : code ≤ 1048576 := by exact om_) : Ret Tryz.prog 30 [v_code] w (Ty.tup [Ty.ex (fun (GX : M.Gam) => (GX.start.pits.length ≤ 4194304 ∧ GX.start.stores.length ≤ 4194304 ∧ GX.moves.length ≤ 122 ∧ GX.now.pits.length ≤ 4194304 ∧ GX.now.stores.length = 2)) (fun GX => Ty.agg (cGame GX)), Ty.ex (fun (KX : Int) => True) (fun KX => Ty.int KX)]) := by
 revert v_code; apply opn
 intro A1 c1 h1 bl1 bh1
 have h_code := h1
 refine enter @Tryz.func30 @Tryz.ntmps30 rfl rfl ?_
 refine zent ?_
 refine zS <| za zeh fun b2 => Qa rfl <| zN <| Qm rfl <| zcs rfl (fun w hw => c_spec_l00From code (ok_ hw)) ?_
 intro b3
 refine Qa rfl <| zN <| Qm rfl <| zB 1 sp_ rfl (fun w hb hw => c_spec_l08Bent code 0 0 hb (ok_ hw)) ?_
 rintro _ _ G4 ⟨X4GX, X4AT, X4SD, A4r_9, c4r_9, g4r_9, A4r_10, c4r_10, g4r_10, A4r_12, c4r_12, g4r_12, A4r_13, c4r_13, g4r_13, A4r_14, c4r_14, g4r_14, rfl, rfl, bl4_0, bl4_1, bl4_2, bl4_3, bl4_4, bl4_5, bl4_6, bl4_7, bl4_8, bl4_9, hX4_0, hX4_1, hX4_2⟩
 refine znl ?_
 refine za zeh fun b5 => zw 0 rfl rfl rfl ?_
 refine zJ ?_
 refine zk [2] (fun F U l os u => ∃ (X6KX X7KX : Int) (G7 G6 : List Nat) (X7AT X7SD X6AT : Int), l = F [(3, .int .i64 ((X6KX / 9) - (X7KX / 19)))] ∧ os = [anyO G7, anyO G6] ++ U [nO, some (boxO b3 [.slice A1 code c1, .int .i64 X7AT, .int .u64 X7SD] 113), nO, nO, nO, nO, nO, nO, some (boxO b2 [.int .i64 X4GX.rules.pits, .int .i64 X4GX.rules.seeds, .bool X4GX.rules.stores, .bool X4GX.rules.skip, .bool X4GX.rules.relay, .bool X4GX.rules.feed, .bool X4GX.rules.again, .int .i64 X4GX.rules.capture, .int .i64 X4GX.rules.slam, .slice A4r_9 X4GX.start.pits.length c4r_9, .slice A4r_10 X4GX.start.stores.length c4r_10, .int .i64 X4GX.start.player, .slice A4r_12 X4GX.moves.length c4r_12, .slice A4r_13 X4GX.now.pits.length c4r_13, .slice A4r_14 X4GX.now.stores.length c4r_14, .int .i64 X4GX.now.player, .int .i64 X4GX.resigned] 30)] ∧ (0 ≤ X6KX) ∧ (X6KX = 0 ∨ X6KX < 20) ∧ (0 ≤ X7KX) ∧ (X7KX = 0 ∨ X7KX < 20) ∧ (X6AT ≤ X7AT) ∧ (X7AT ≤ X6AT + 2) ∧ (X4AT ≤ X6AT) ∧ (X6AT ≤ X4AT + 2)) ?_ ?_
 ·
  refine zdr [2, 5, 8] ?_
  refine JH.p 1 rfl (p_move rfl) ?_
  refine JH.p 4 rfl (p_move rfl) ?_
  refine y2 0 2 ?_ ?_
  ·
   refine JHo.q rfl (L9 0 rfl rfl) ?_
   refine y1 2 ?_
   refine zhh [1] ?_
   refine yB 1 sp_ rfl rfl (fun w hb hw => c_spec_l00Src_pick code X4AT X4SD 20 hb (ok_ hw)) ?_
   rintro _ _ G12 ⟨X12KX, X12AT, X12SD, rfl, rfl, hX12_0, hX12_1, hX12_2, hX12_3⟩
   refine znh ?_
   refine JH.p 3 rfl (p_quo rfl rfl (by omega) (wrap_quo (by omega) (by omega) (by omega))) ?_
   refine y1 5 ?_
   refine yB 1 sp_ rfl rfl (fun w hb hw => c_spec_l00Src_pick code X12AT X12SD 20 hb (ok_ hw)) ?_
   rintro _ _ G13 ⟨X13KX, X13AT, X13SD, rfl, rfl, hX13_0, hX13_1, hX13_2, hX13_3⟩
   refine znh ?_
   refine JH.p 6 rfl (p_quo rfl rfl (by omega) (wrap_quo (by omega) (by omega) (by omega))) ?_
   refine JH.p 7 rfl (p_sub rfl rfl (IntWalk.i64_in _ (by omega))) ?_
   refine y1 8 ?_
   refine yst rfl rfl rfl ?_
   refine JH.p 9 rfl (p_assign rfl) ?_
   refine yd ?_
   refine zh [1, 1, 1, 0, 0, 0, 0, 0, 0, 0, 0] ?_
   exact zm ⟨_, _, _, _, _, _, _, rfl, rfl, zt, zt, zt, zt, zt, zt, zt, zt⟩ (Up.refl _ _) ⟨rfl, rfl, trivial⟩
  refine zhh [1] ?_
  refine yB 1 sp_ rfl rfl (fun w hb hw => c_spec_l00Src_pick code X4AT X4SD 20 hb (ok_ hw)) ?_
  rintro _ _ G14 ⟨X14KX, X14AT, X14SD, rfl, rfl, hX14_0, hX14_1, hX14_2, hX14_3⟩
  refine znh ?_
  refine JH.p 3 rfl (p_quo rfl rfl (by omega) (wrap_quo (by omega) (by omega) (by omega))) ?_
  refine y2 0 5 ?_ ?_
  ·
   refine JHo.q rfl (L9 2 rfl rfl) ?_
   refine y1 5 ?_
   refine yB 1 sp_ rfl rfl (fun w hb hw => c_spec_l00Src_pick code X14AT X14SD 20 hb (ok_ hw)) ?_
   rintro _ _ G15 ⟨X15KX, X15AT, X15SD, rfl, rfl, hX15_0, hX15_1, hX15_2, hX15_3⟩
   refine znh ?_
   refine JH.p 6 rfl (p_quo rfl rfl (by omega) (wrap_quo (by omega) (by omega) (by omega))) ?_
   refine JH.p 7 rfl (p_sub rfl rfl (IntWalk.i64_in _ (by omega))) ?_
   refine y1 8 ?_
   refine yst rfl rfl rfl ?_
   refine JH.p 9 rfl (p_assign rfl) ?_
   refine yd ?_
   refine zh [1, 1, 1, 0, 0, 0, 0, 0, 0, 0, 0] ?_
   exact zm ⟨_, _, _, _, _, _, _, rfl, rfl, zt, zt, zt, zt, zt, zt, zt, zt⟩ (Up.refl _ _) ⟨rfl, rfl, trivial⟩
  refine yB 1 sp_ rfl rfl (fun w hb hw => c_spec_l00Src_pick code X14AT X14SD 20 hb (ok_ hw)) ?_
  rintro _ _ G16 ⟨X16KX, X16AT, X16SD, rfl, rfl, hX16_0, hX16_1, hX16_2, hX16_3⟩
  refine znh ?_
  refine JH.p 6 rfl (p_quo rfl rfl (by omega) (wrap_quo (by omega) (by omega) (by omega))) ?_
  refine JH.p 7 rfl (p_sub rfl rfl (IntWalk.i64_in _ (by omega))) ?_
  refine y1 0 ?_
  refine JHo.q rfl (L9 3 rfl rfl) ?_
  refine y1 8 ?_
  refine yst rfl rfl rfl ?_
  refine JH.p 9 rfl (p_assign rfl) ?_
  refine yd ?_
  refine zh [1, 1, 1, 0, 0, 0, 0, 0, 0, 0, 0] ?_
  exact zm ⟨_, _, _, _, _, _, _, rfl, rfl, zt, zt, zt, zt, zt, zt, zt, zt⟩ (Up.refl _ _) ⟨rfl, rfl, trivial⟩
 rintro _ _ u11 ⟨X6KX, X7KX, G7, G6, X7AT, X7SD, X6AT, rfl, rfl, f11_0, f11_1, f11_2, f11_3, f11_4, f11_5, f11_6, f11_7⟩ x11
 refine zn ?_
 exact zro x11 (g := by exact (gv_tup (gvc (gv_ex X4GX (by first | trivial | assumption | omega) gv_) (gvc (gv_ex ((X6KX / 9) - (X7KX / 19)) (by first | trivial | assumption | omega) gv_) gvn))))

set_option maxHeartbeats 1000000 in
theorem c_spec_l00Max (a b : Int) {w : World}  : RetV Tryz.prog 103 [.int .i64 a, .int .i64 b] w (.int .i64 (if a < b then b else a)) := by
 refine enter @Tryz.func103 @Tryz.ntmps103 rfl rfl ?_
 refine zent ?_
 refine zS <| Qa rfl <| zJ <| zS <| Qm rfl <| Qm rfl <| Qg rfl rfl <| JL.nil ?_
 refine zi (fun h1 h1' => ?_) fun h1 h1' => ?_
 ·
  refine zS <| Qm rfl <| Qa rfl <| JL.nil ?_
  refine zR (Up.refl _ _) ?_
  first | (rw [if_pos (by assumption)]; rfl) | (rw [if_neg (by assumption)]; rfl) | (simp only [outV]; split <;> simp_all <;> omega)
 refine Js.skip <| zS <| Qm rfl <| Qa rfl <| JL.nil ?_
 refine zR (Up.refl _ _) ?_
 first | (rw [if_pos (by assumption)]; rfl) | (rw [if_neg (by assumption)]; rfl) | (simp only [outV]; split <;> simp_all <;> omega)

set_option maxHeartbeats 4000000 in
theorem c_spec_l04Bent (s_code : Nat) (s_at s_seed : Int) {As_0 : Option Addr} {cs_0 bs : Nat} {w : World} (hb : Bw w [boxO bs [.slice As_0 s_code cs_0, .int .i64 s_at, .int .u64 s_seed] 113]) (hps_0 : (Ty.bytes 5 s_code).ok (offW w (([boxO bs [.slice As_0 s_code cs_0, .int .i64 s_at, .int .u64 s_seed] 113] : List Own).flatMap (·.fp))) (.slice As_0 s_code cs_0)) (r0 : 0 ≤ s_at := by exact om_) (r1 : s_at ≤ 999999000 := by exact om_) (r2 : s_code ≤ 1048576 := by exact om_) : RetB Tryz.prog 73 [.pointer (some ⟨bs, 0, none⟩)] w [boxO bs [.slice As_0 s_code cs_0, .int .i64 s_at, .int .u64 s_seed] 113] (fun v bs' => ∃ (RX : M.Rul) (QX : M.Pos) (AT SD : Int) (Axrb_0 : Option Addr) (cxrb_0 : Nat) (Axrb_1 : Option Addr) (cxrb_1 : Nat) (gxrb_1 : List Nat), v = .tuple #[.agg #[.int .i64 RX.pits, .int .i64 RX.seeds, .bool RX.stores, .bool RX.skip, .bool RX.relay, .bool RX.feed, .bool RX.again, .int .i64 RX.capture, .int .i64 RX.slam], .agg #[.slice Axrb_0 QX.pits.length cxrb_0, .slice Axrb_1 QX.stores.length cxrb_1, .int .i64 QX.player]] ∧ bs' = [boxO bs [.slice As_0 s_code cs_0, .int .i64 AT, .int .u64 SD] 113, rxO 2 (.slice Axrb_0 QX.pits.length cxrb_0) QX.pits.length (ints_ QX.pits), rowO 2 1 (.slice Axrb_1 QX.stores.length cxrb_1) QX.stores.length (ints_ QX.stores) gxrb_1] ∧ QX.pits.length ≤ cxrb_0 ∧ cxrb_0 ≤ 9223372036854775807 ∧ QX.stores.length ≤ cxrb_1 ∧ cxrb_1 ≤ 9223372036854775807 ∧ (QX.pits.length ≤ 4194304 ∧ QX.stores.length ≤ 4194304) ∧ (s_at ≤ AT) ∧ (AT ≤ s_at + 1000)) := by
 refine enterB hb @Tryz.func73 @Tryz.ntmps73 rfl rfl ?_
 refine zent ?_
 refine Js.trashE ?_
 refine zn ?_
 refine zS <| za zeh fun b1 => za zeh fun b2 => zN <| Qm rfl ?_
 refine zhl [2] ?_
 refine zBB 1 sp_ rfl (fun w hb _ hw => c_spec_l02Draw s_code s_at s_seed hb (ok_ hw)) ?_
 rintro _ _ G3 ⟨X3RX, X3AT, X3SD, rfl, rfl, hX3_0, hX3_1, hX3_2⟩
 refine znl ?_
 refine za zeh fun b4 => zw 0 rfl rfl rfl ?_
 refine JL.nil ?_
 refine zf [0, 0, 1, 1] fun GG5 => ?_
 refine zn ?_
 refine zS <| Qm rfl ?_
 refine zhl [1] ?_
 refine zBB 1 sp_ rfl (fun w hb _ hw => c_spec_l04Draw s_code X3AT X3SD X3RX hb (ok_ hw) (ok_ hw)) ?_
 rintro _ _ G6 ⟨X6PX, X6AT, X6SD, A6r_0, c6r_0, g6r_0, A6r_1, c6r_1, g6r_1, rfl, rfl, bl6_0, bl6_1, bl6_2, bl6_3, hX6_0, hX6_1, hX6_2⟩
 refine znl ?_
 refine za zeh fun b7 => zw 0 rfl rfl rfl ?_
 refine JL.nil ?_
 refine zf [0, 0, 0, 0, 1, 1, 1] fun GG8 => ?_
 refine zn ?_
 refine zS <| Qm rfl <| Qf fh rfl <| Q0 0 rfl rfl rfl <| Qz rfl ?_
 refine zhl [1] ?_
 refine zBB 1 sp_ rfl (fun w hb _ hw => c_spec_l00Src_pick s_code X6AT X6SD (X6PX.pits.length : Int) hb (ok_ hw)) ?_
 rintro _ _ G9 ⟨X9KX, X9AT, X9SD, rfl, rfl, hX9_0, hX9_1, hX9_2, hX9_3⟩
 refine znl ?_
 refine Qa rfl <| JL.nil ?_
 refine zf [0, 1, 1, 1, 1, 1, 1] fun GG10 => ?_
 refine zn ?_
 refine Js.seq <| zS <| Qm rfl <| zBB 1 sp_ rfl (fun w hb _ hw => c_spec_l00Src_pick s_code X9AT X9SD 24 hb (ok_ hw)) ?_
 rintro _ _ G11 ⟨X11KX, X11AT, X11SD, rfl, rfl, hX11_0, hX11_1, hX11_2, hX11_3⟩
 refine znl ?_
 refine JL.nil ?_
 refine zf [0, 1, 1, 1, 1, 1, 1] fun GG12 => ?_
 refine zn ?_
 refine Js.block <| zS <| Qe rfl rfl <| Qa rfl <| JL.nil ?_
 refine zi (fun h13 h13' => ?_) fun h13 h13' => ?_
 ·
  refine zk [2, 3, 4, 5] (fun F U l os u => ∃ (G16 : List Nat) (b14 : Nat) (X16AT X16SD : Int) (b18 : Nat) (X16KX : Int), l = F [] ∧ os = [anyO G16, rowO 2 1 (.slice (some ⟨b14, 0, none⟩) 4 4) 4 [.int .i64 (-1), .int .i64 96, .int .i64 40, .int .i64 9223372036854775807] []] ++ U [some (boxO bs [.slice As_0 s_code cs_0, .int .i64 X16AT, .int .u64 X16SD] 113), some (boxO b7 [.slice (some ⟨b18, 0, none⟩) X6PX.pits.length c6r_0, .slice A6r_1 X6PX.stores.length c6r_1, .int .i64 X6PX.player] 28), some (rowO 2 1 (.slice (some ⟨b18, 0, none⟩) X6PX.pits.length c6r_0) X6PX.pits.length (ints_ (M.setI X6PX.pits X9KX X16KX)) g6r_0)] ∧ (X11AT ≤ X16AT) ∧ (X16AT ≤ X11AT + 2) ∧ (X16KX ∈ [(-1), 96, 40, 9223372036854775807])) ?_ ?_
  ·
   refine zdr [5, 7] ?_
   refine JH.p 0 rfl (p_fieldAddr fld_28_0.h rfl) ?_
   refine JH.p 2 rfl (p_move rfl) ?_
   refine JH.p 3 rfl (p_move rfl) ?_
   refine y2 1 4 ?_ ?_
   ·
    refine JHo.q rfl (q_load1 ty_26.h rfl (Mem.box (i := 1) rfl rfl)) ?_
    refine y1 4 ?_
    refine ybs rfl fun b28 => ?_
    refine y1 5 ?_
    refine zhh [1] ?_
    refine yBB 1 sp_ rfl rfl (fun w hb _ hw => c_spec_l00Src_among s_code X11AT X11SD [(-1), 96, 40, 9223372036854775807] hb (ok_ hw) (ints_rowok (xs := [(-1), 96, 40, 9223372036854775807]) (hw.pr (i := 0) rfl)) (r3 := (by simp)) (r4 := (by simp))) ?_
    rintro _ _ G30 ⟨X30KX, X30AT, X30SD, rfl, rfl, hX30_0, hX30_1, hX30_2⟩
    refine znh ?_
    refine JH.fact (row_some (i := 4) rfl (by omega)) (fun hf32 => ?_)
    obtain ⟨b32, rfl⟩ := hf32
    refine JH.p 6 rfl (p_indexAddr el_26 rfl rfl (by omega) (by omega) rfl) ?_
    refine y1 7 ?_
    refine JHo.s rfl (e_storeRow (i := 4) (xs' := ints_ (M.setI X6PX.pits X9KX X30KX)) ty_2.h rfl rfl rfl rfl rfl rfl (ints_lt (i := X9KX.toNat) (by omega)) (ints_setL (i := X9KX.toNat) (by omega))) (.inr rfl) ?_
    rintro _ _ _ ⟨rfl, rfl⟩ _
    refine znh ?_
    refine yd ?_
    refine zh [1, 1, 0, 0, 0, 0, 0, 0, 0, 0] ?_
    exact zm ⟨_, _, _, _, _, _, rfl, rfl, zt, zt, zt⟩ (Up.refl _ _) ⟨rfl, rfl, rfl, rfl, trivial⟩
   refine ybs rfl fun b33 => ?_
   refine y2 1 5 ?_ ?_
   ·
    refine JHo.q rfl (q_load1 ty_26.h rfl (Mem.box (i := 2) rfl rfl)) ?_
    refine y1 5 ?_
    refine zhh [1] ?_
    refine yBB 1 sp_ rfl rfl (fun w hb _ hw => c_spec_l00Src_among s_code X11AT X11SD [(-1), 96, 40, 9223372036854775807] hb (ok_ hw) (ints_rowok (xs := [(-1), 96, 40, 9223372036854775807]) (hw.pr (i := 0) rfl)) (r3 := (by simp)) (r4 := (by simp))) ?_
    rintro _ _ G35 ⟨X35KX, X35AT, X35SD, rfl, rfl, hX35_0, hX35_1, hX35_2⟩
    refine znh ?_
    refine JH.fact (row_some (i := 4) rfl (by omega)) (fun hf37 => ?_)
    obtain ⟨b37, rfl⟩ := hf37
    refine JH.p 6 rfl (p_indexAddr el_26 rfl rfl (by omega) (by omega) rfl) ?_
    refine y1 7 ?_
    refine JHo.s rfl (e_storeRow (i := 4) (xs' := ints_ (M.setI X6PX.pits X9KX X35KX)) ty_2.h rfl rfl rfl rfl rfl rfl (ints_lt (i := X9KX.toNat) (by omega)) (ints_setL (i := X9KX.toNat) (by omega))) (.inr rfl) ?_
    rintro _ _ _ ⟨rfl, rfl⟩ _
    refine znh ?_
    refine yd ?_
    refine zh [1, 1, 0, 0, 0, 0, 0, 0, 0, 0] ?_
    exact zm ⟨_, _, _, _, _, _, rfl, rfl, zt, zt, zt⟩ (Up.refl _ _) ⟨rfl, rfl, rfl, rfl, trivial⟩
   refine zhh [1] ?_
   refine yBB 1 sp_ rfl rfl (fun w hb _ hw => c_spec_l00Src_among s_code X11AT X11SD [(-1), 96, 40, 9223372036854775807] hb (ok_ hw) (ints_rowok (xs := [(-1), 96, 40, 9223372036854775807]) (hw.pr (i := 0) rfl)) (r3 := (by simp)) (r4 := (by simp))) ?_
   rintro _ _ G38 ⟨X38KX, X38AT, X38SD, rfl, rfl, hX38_0, hX38_1, hX38_2⟩
   refine znh ?_
   refine y1 1 ?_
   refine JHo.q rfl (q_load1 ty_26.h rfl (Mem.box (i := 3) rfl rfl)) ?_
   refine JH.fact (row_some (i := 4) rfl (by omega)) (fun hf40 => ?_)
   obtain ⟨b40, rfl⟩ := hf40
   refine JH.p 6 rfl (p_indexAddr el_26 rfl rfl (by omega) (by omega) rfl) ?_
   refine y1 7 ?_
   refine JHo.s rfl (e_storeRow (i := 4) (xs' := ints_ (M.setI X6PX.pits X9KX X38KX)) ty_2.h rfl rfl rfl rfl rfl rfl (ints_lt (i := X9KX.toNat) (by omega)) (ints_setL (i := X9KX.toNat) (by omega))) (.inr rfl) ?_
   rintro _ _ _ ⟨rfl, rfl⟩ _
   refine znh ?_
   refine yd ?_
   refine zh [1, 1, 0, 0, 0, 0, 0, 0, 0, 0] ?_
   exact zm ⟨_, _, _, _, _, _, rfl, rfl, zt, zt, zt⟩ (Up.refl _ _) ⟨rfl, rfl, rfl, rfl, trivial⟩
  rintro _ _ u27 ⟨G16, b14, X16AT, X16SD, b18, X16KX, rfl, rfl, f27_0, f27_1, f27_2⟩ x27
  refine zn ?_
  refine zf [2, 2, 2, 2, 2, 2, 2] fun GG41 => ?_
  refine zn ?_
  refine Js.blockEnd <| Js.seq ?_
  refine zk [2, 3] (fun F U l os u => l = F [] ∧ os = U [nO, nO, nO, nO, nO, some (boxO b2 [.slice (some ⟨b18, 0, none⟩) X6PX.pits.length c6r_0, .slice A6r_1 X6PX.stores.length c6r_1, .int .i64 X6PX.player] 28), some (boxO b1 [.int .i64 X3RX.pits, .int .i64 X3RX.seeds, .bool X3RX.stores, .bool X3RX.skip, .bool X3RX.relay, .bool X3RX.feed, .bool X3RX.again, .int .i64 X3RX.capture, .int .i64 X3RX.slam] 25)]) ?_ ?_
  ·
   refine zdr [2, 3] ?_
   refine JH.q 0 rfl (L9 4 rfl rfl) ?_
   refine y2 1 2 ?_ ?_
   ·
    refine JHo.q rfl (L9 1 rfl rfl) ?_
    refine y1 2 ?_
    refine yst rfl rfl rfl ?_
    refine y1 3 ?_
    refine yst rfl rfl rfl ?_
    refine yd ?_
    exact zm ⟨rfl, rfl⟩ (Up.refl _ _)
   refine yst rfl rfl rfl ?_
   refine y1 1 ?_
   refine JHo.q rfl (L9 1 rfl rfl) ?_
   refine y1 3 ?_
   refine yst rfl rfl rfl ?_
   refine yd ?_
   exact zm ⟨rfl, rfl⟩ (Up.refl _ _)
  rintro _ _ u42 ⟨rfl, rfl⟩ x42
  refine zn ?_
  refine zf [0, 1, 1, 2, 2] fun GG43 => ?_
  refine zn ?_
  refine Js.conv (fun w hw => St.toRx (i := 1) rfl hw) ?_
  refine zn ?_
  refine zrb [2, 0, 1] hb (x27.trans x42) ?_
  have hNr1_0 : (M.setI X6PX.pits X9KX X16KX).length = X6PX.pits.length := by first | rfl | assumption | omega | (simp only [List.length_set, M.setI_length]; done) | (simp only [List.length_set, M.setI_length]; first | rfl | assumption | omega) | (simp only [List.length_drop]; first | done | rfl | omega) | (simp; done) | (simp; omega)
  refine ⟨(X3RX), ((M.Pos.mk (M.setI X6PX.pits X9KX X16KX) X6PX.stores X6PX.player)), (X16AT), (X16SD), (some ⟨b18, 0, none⟩), c6r_0, A6r_1, c6r_1, g6r_1, (show (.tuple #[.agg #[.int .i64 X3RX.pits, .int .i64 X3RX.seeds, .bool X3RX.stores, .bool X3RX.skip, .bool X3RX.relay, .bool X3RX.feed, .bool X3RX.again, .int .i64 X3RX.capture, .int .i64 X3RX.slam], .agg #[.slice (some ⟨b18, 0, none⟩) X6PX.pits.length c6r_0, .slice A6r_1 X6PX.stores.length c6r_1, .int .i64 X6PX.player]] : Value) = .tuple #[.agg #[.int .i64 X3RX.pits, .int .i64 X3RX.seeds, .bool X3RX.stores, .bool X3RX.skip, .bool X3RX.relay, .bool X3RX.feed, .bool X3RX.again, .int .i64 X3RX.capture, .int .i64 X3RX.slam], .agg #[.slice (some ⟨b18, 0, none⟩) (M.setI X6PX.pits X9KX X16KX).length c6r_0, .slice A6r_1 X6PX.stores.length c6r_1, .int .i64 X6PX.player]] by rw [hNr1_0]), ?_, ?_, ?_, ?_, ?_, by first | trivial | omega | (refine ⟨?_, ?_⟩ <;> dsimp only <;> first | omega | (simp only [List.length_append, List.length_cons, List.length_nil, List.length_set]; omega)), by first | trivial | omega | (refine ⟨?_, ?_⟩ <;> dsimp only <;> first | omega | (simp only [List.length_append, List.length_cons, List.length_nil, List.length_set]; omega)), by first | trivial | omega | (refine ⟨?_, ?_⟩ <;> dsimp only <;> first | omega | (simp only [List.length_append, List.length_cons, List.length_nil, List.length_set]; omega))⟩
  · first | rfl | (dsimp only; rw [hNr1_0]) | (dsimp only; simp only [hNr1_0])
  all_goals (try dsimp only)
  all_goals (first | (rw [hNr1_0]; omega) | omega | (simp only [*]; omega))
 refine zS <| Qe rfl rfl <| Qa rfl <| JL.nil ?_
 refine zi (fun h44 h44' => ?_) fun h44 h44' => ?_
 ·
  refine Js.region <| Qm rfl <| zbs fun b45 => ?_
  refine zhl [1] ?_
  refine zBB 1 sp_ rfl (fun w hb _ hw => c_spec_l00Src_among s_code X11AT X11SD [(-1), 2] hb (ok_ hw) (ints_rowok (xs := [(-1), 2]) (hw.pr (i := 0) rfl)) (r3 := (by simp)) (r4 := (by simp))) ?_
  rintro _ _ G47 ⟨X47KX, X47AT, X47SD, rfl, rfl, hX47_0, hX47_1, hX47_2⟩
  refine znl ?_
  refine Qf fh rfl <| zw 3 rfl rfl rfl ?_
  refine JL.nil ?_
  refine zf [0, 2, 2, 2, 2, 2, 2] fun GG48 => ?_
  refine zn ?_
  refine Js.blockEnd <| Js.seq ?_
  refine zk [2, 3] (fun F U l os u => l = F [] ∧ os = U [nO, nO, nO, nO, nO, some (boxO b2 [.slice A6r_0 X6PX.pits.length c6r_0, .slice A6r_1 X6PX.stores.length c6r_1, .int .i64 X47KX] 28), some (boxO b1 [.int .i64 X3RX.pits, .int .i64 X3RX.seeds, .bool X3RX.stores, .bool X3RX.skip, .bool X3RX.relay, .bool X3RX.feed, .bool X3RX.again, .int .i64 X3RX.capture, .int .i64 X3RX.slam] 25)]) ?_ ?_
  ·
   refine zdr [2, 3] ?_
   refine JH.q 0 rfl (L9 4 rfl rfl) ?_
   refine y2 1 2 ?_ ?_
   ·
    refine JHo.q rfl (L9 1 rfl rfl) ?_
    refine y1 2 ?_
    refine yst rfl rfl rfl ?_
    refine y1 3 ?_
    refine yst rfl rfl rfl ?_
    refine yd ?_
    exact zm ⟨rfl, rfl⟩ (Up.refl _ _)
   refine yst rfl rfl rfl ?_
   refine y1 1 ?_
   refine JHo.q rfl (L9 1 rfl rfl) ?_
   refine y1 3 ?_
   refine yst rfl rfl rfl ?_
   refine yd ?_
   exact zm ⟨rfl, rfl⟩ (Up.refl _ _)
  rintro _ _ u49 ⟨rfl, rfl⟩ x49
  refine zn ?_
  refine zf [0, 1, 1, 2, 2] fun GG50 => ?_
  refine zn ?_
  refine Js.conv (fun w hw => St.toRx (i := 1) rfl hw) ?_
  refine zn ?_
  refine zrb [2, 0, 1] hb x49 ?_
  refine ⟨(X3RX), ((M.Pos.mk X6PX.pits X6PX.stores X47KX)), (X47AT), (X47SD), A6r_0, c6r_0, A6r_1, c6r_1, g6r_1, rfl, ?_, ?_, ?_, ?_, ?_, by first | trivial | omega | (refine ⟨?_, ?_⟩ <;> dsimp only <;> first | omega | (simp only [List.length_append, List.length_cons, List.length_nil, List.length_set]; omega)), by first | trivial | omega | (refine ⟨?_, ?_⟩ <;> dsimp only <;> first | omega | (simp only [List.length_append, List.length_cons, List.length_nil, List.length_set]; omega)), by first | trivial | omega | (refine ⟨?_, ?_⟩ <;> dsimp only <;> first | omega | (simp only [List.length_append, List.length_cons, List.length_nil, List.length_set]; omega))⟩
  · rfl
  all_goals (try dsimp only)
  all_goals (first | (omega) | omega | (simp only [*]; omega))
 refine zS <| Qe rfl rfl <| Qa rfl <| JL.nil ?_
 refine zi (fun h51 h51' => ?_) fun h51 h51' => ?_
 ·
  refine Js.region <| Qf fh rfl <| Q0 1 rfl rfl rfl ?_
  refine JL.conv (fun w hw => St.cutRx (i := 2) (k := 1) rfl (by first | omega | (simp only [List.length_set, M.setI_length]; omega)) hw) ?_
  refine znl ?_
  refine Qq (p_slice (lo' := 1) (hi' := X6PX.pits.length) (mx' := c6r_0) el_26 rfl rfl ⟨rfl, rfl⟩ ⟨_, rfl, by omega⟩) <| Qf fh rfl <| zw 3 rfl rfl rfl ?_
  refine JL.nil ?_
  refine zf [0, 1, 1, 1, 1, 1, 1] fun GG52 => ?_
  refine zn ?_
  refine Js.blockEnd <| Js.seq ?_
  refine zk [2, 3] (fun F U l os u => l = F [] ∧ os = U [nO, nO, nO, nO, nO, some (boxO b2 [.slice (cutA 1 A6r_0 1 c6r_0) (X6PX.pits.length - 1) (c6r_0 - 1), .slice A6r_1 X6PX.stores.length c6r_1, .int .i64 X6PX.player] 28), some (boxO b1 [.int .i64 X3RX.pits, .int .i64 X3RX.seeds, .bool X3RX.stores, .bool X3RX.skip, .bool X3RX.relay, .bool X3RX.feed, .bool X3RX.again, .int .i64 X3RX.capture, .int .i64 X3RX.slam] 25)]) ?_ ?_
  ·
   refine zdr [2, 3] ?_
   refine JH.q 0 rfl (L9 4 rfl rfl) ?_
   refine y2 1 2 ?_ ?_
   ·
    refine JHo.q rfl (L9 2 rfl rfl) ?_
    refine y1 2 ?_
    refine yst rfl rfl rfl ?_
    refine y1 3 ?_
    refine yst rfl rfl rfl ?_
    refine yd ?_
    exact zm ⟨rfl, rfl⟩ (Up.refl _ _)
   refine yst rfl rfl rfl ?_
   refine y1 1 ?_
   refine JHo.q rfl (L9 2 rfl rfl) ?_
   refine y1 3 ?_
   refine yst rfl rfl rfl ?_
   refine yd ?_
   exact zm ⟨rfl, rfl⟩ (Up.refl _ _)
  rintro _ _ u53 ⟨rfl, rfl⟩ x53
  refine zn ?_
  refine zf [0, 0, 1, 2, 2] fun GG54 => ?_
  refine zn ?_
  refine zrb [1, 0, 0] hb x53 ?_
  have hNr1_0 : (X6PX.pits.drop 1).length = X6PX.pits.length - 1 := by first | rfl | assumption | omega | (simp only [List.length_set, M.setI_length]; done) | (simp only [List.length_set, M.setI_length]; first | rfl | assumption | omega) | (simp only [List.length_drop]; first | done | rfl | omega) | (simp; done) | (simp; omega)
  refine ⟨(X3RX), ((M.Pos.mk (X6PX.pits.drop 1) X6PX.stores X6PX.player)), (X11AT), (X11SD), (cutA 1 A6r_0 1 c6r_0), (c6r_0 - 1), A6r_1, c6r_1, g6r_1, (show (.tuple #[.agg #[.int .i64 X3RX.pits, .int .i64 X3RX.seeds, .bool X3RX.stores, .bool X3RX.skip, .bool X3RX.relay, .bool X3RX.feed, .bool X3RX.again, .int .i64 X3RX.capture, .int .i64 X3RX.slam], .agg #[.slice (cutA 1 A6r_0 1 c6r_0) (X6PX.pits.length - 1) (c6r_0 - 1), .slice A6r_1 X6PX.stores.length c6r_1, .int .i64 X6PX.player]] : Value) = .tuple #[.agg #[.int .i64 X3RX.pits, .int .i64 X3RX.seeds, .bool X3RX.stores, .bool X3RX.skip, .bool X3RX.relay, .bool X3RX.feed, .bool X3RX.again, .int .i64 X3RX.capture, .int .i64 X3RX.slam], .agg #[.slice (cutA 1 A6r_0 1 c6r_0) (X6PX.pits.drop 1).length (c6r_0 - 1), .slice A6r_1 X6PX.stores.length c6r_1, .int .i64 X6PX.player]] by rw [hNr1_0]), ?_, ?_, ?_, ?_, ?_, by first | trivial | omega | (refine ⟨?_, ?_⟩ <;> dsimp only <;> first | omega | (simp only [List.length_append, List.length_cons, List.length_nil, List.length_set]; omega)), by first | trivial | omega | (refine ⟨?_, ?_⟩ <;> dsimp only <;> first | omega | (simp only [List.length_append, List.length_cons, List.length_nil, List.length_set]; omega)), by first | trivial | omega | (refine ⟨?_, ?_⟩ <;> dsimp only <;> first | omega | (simp only [List.length_append, List.length_cons, List.length_nil, List.length_set]; omega))⟩
  · first | rfl | (dsimp only; rw [hNr1_0]) | (dsimp only; simp only [hNr1_0])
  all_goals (try dsimp only)
  all_goals (first | (rw [hNr1_0]; omega) | omega | (simp only [*]; omega))
 refine zS <| Qe rfl rfl <| Qa rfl <| JL.nil ?_
 refine zi (fun h55 h55' => ?_) fun h55 h55' => ?_
 ·
  refine Js.region <| Qf fh rfl <| Q0 1 rfl rfl rfl <| zbs fun b56 => ?_
  refine JL.e (e_append (i := 4) (n' := (X6PX.stores ++ [0]).length) (vs' := ints_ (X6PX.stores ++ [0])) el_26 rfl rfl rfl rfl (src_row (i := 0) und_26 rfl rfl) (by omega) (by omega) (by first | omega | (simp only [List.length_append, List.length_cons, List.length_nil] <;> omega)) (by simp [ints_])) ?_
  rintro v58 _ _ ⟨⟨g59, rfl⟩, rfl⟩ _
  refine JL.fact (row_form' (i := 4) rfl) (fun hf60 => ?_)
  obtain ⟨A60, c60, rfl, bl60, bh60⟩ := hf60
  refine znl ?_
  refine Qf fh rfl <| zw 2 rfl rfl rfl ?_
  refine JL.nil ?_
  refine zf [1, 1, 1, 1, 1, 1, 1] fun GG61 => ?_
  refine zn ?_
  refine Js.blockEnd <| Js.seq ?_
  refine zk [2, 3] (fun F U l os u => l = F [] ∧ os = U [nO, nO, nO, nO, nO, some (boxO b2 [.slice A6r_0 X6PX.pits.length c6r_0, .slice A60 ((X6PX.stores ++ [0]).length) c60, .int .i64 X6PX.player] 28), some (boxO b1 [.int .i64 X3RX.pits, .int .i64 X3RX.seeds, .bool X3RX.stores, .bool X3RX.skip, .bool X3RX.relay, .bool X3RX.feed, .bool X3RX.again, .int .i64 X3RX.capture, .int .i64 X3RX.slam] 25)]) ?_ ?_
  ·
   refine zdr [2, 3] ?_
   refine JH.q 0 rfl (L9 4 rfl rfl) ?_
   refine y2 1 2 ?_ ?_
   ·
    refine JHo.q rfl (L9 1 rfl rfl) ?_
    refine y1 2 ?_
    refine yst rfl rfl rfl ?_
    refine y1 3 ?_
    refine yst rfl rfl rfl ?_
    refine yd ?_
    exact zm ⟨rfl, rfl⟩ (Up.refl _ _)
   refine yst rfl rfl rfl ?_
   refine y1 1 ?_
   refine JHo.q rfl (L9 1 rfl rfl) ?_
   refine y1 3 ?_
   refine yst rfl rfl rfl ?_
   refine yd ?_
   exact zm ⟨rfl, rfl⟩ (Up.refl _ _)
  rintro _ _ u62 ⟨rfl, rfl⟩ x62
  refine zn ?_
  refine zf [0, 1, 1, 2, 2] fun GG63 => ?_
  refine zn ?_
  refine Js.conv (fun w hw => St.toRx (i := 1) rfl hw) ?_
  refine zn ?_
  refine zrb [2, 0, 1] hb x62 ?_
  refine ⟨(X3RX), ((M.Pos.mk X6PX.pits (X6PX.stores ++ [0]) X6PX.player)), (X11AT), (X11SD), A6r_0, c6r_0, A60, c60, g59, rfl, ?_, ?_, ?_, ?_, ?_, by first | trivial | omega | (refine ⟨?_, ?_⟩ <;> dsimp only <;> first | omega | (simp only [List.length_append, List.length_cons, List.length_nil, List.length_set]; omega)), by first | trivial | omega | (refine ⟨?_, ?_⟩ <;> dsimp only <;> first | omega | (simp only [List.length_append, List.length_cons, List.length_nil, List.length_set]; omega)), by first | trivial | omega | (refine ⟨?_, ?_⟩ <;> dsimp only <;> first | omega | (simp only [List.length_append, List.length_cons, List.length_nil, List.length_set]; omega))⟩
  · rfl
  all_goals (try dsimp only)
  all_goals (first | (omega) | omega | (simp only [*]; omega))
 refine zS <| Qe rfl rfl <| Qa rfl <| JL.nil ?_
 refine zi (fun h64 h64' => ?_) fun h64 h64' => ?_
 ·
  refine zk [2, 3, 4, 5] (fun F U l os u => ∃ (G69 : List Nat) (b67 : Nat) (X69AT X69SD : Int) (b66 : Nat) (X69KX : Int), l = F [] ∧ os = [anyO G69, rowO 2 1 (.slice (some ⟨b67, 0, none⟩) 3 3) 3 [.int .i64 (-1), .int .i64 (IntKind.i64.wrap ((IntKind.i64.wrap (96 - (if 0 < (M.sum4 X6PX.pits) then (M.sum4 X6PX.pits) else 0))) - (M.nth X6PX.stores 1))), .int .i64 96] []] ++ U [some (boxO bs [.slice As_0 s_code cs_0, .int .i64 X69AT, .int .u64 X69SD] 113), some (boxO b7 [.slice A6r_0 X6PX.pits.length c6r_0, .slice (some ⟨b66, 0, none⟩) X6PX.stores.length c6r_1, .int .i64 X6PX.player] 28), nO, some (rowO 2 1 (.slice (some ⟨b66, 0, none⟩) X6PX.stores.length c6r_1) X6PX.stores.length (ints_ (X6PX.stores.set 0 X69KX)) g6r_1)] ∧ (X11AT ≤ X69AT) ∧ (X69AT ≤ X11AT + 2) ∧ (X69KX ∈ [(-1), (IntKind.i64.wrap ((IntKind.i64.wrap (96 - (if 0 < (M.sum4 X6PX.pits) then (M.sum4 X6PX.pits) else 0))) - (M.nth X6PX.stores 1))), 96])) ?_ ?_
  ·
   refine zdr [14, 16] ?_
   refine JH.p 0 rfl (p_fieldAddr fld_28_1.h rfl) ?_
   refine JH.p 2 rfl (p_move rfl) ?_
   refine JH.p 3 rfl (p_fieldAddr fld_28_0.h rfl) ?_
   refine JH.q 4 rfl (q_load1 ty_26.h rfl (Mem.box (i := 1) rfl rfl)) ?_
   refine JH.p 8 rfl (p_fieldAddr fld_28_1.h rfl) ?_
   refine JH.q 9 rfl (q_load1 ty_26.h rfl (Mem.box (i := 1) rfl rfl)) ?_
   refine JH.fact (row_some (i := 3) rfl (by omega)) (fun hf87 => ?_)
   obtain ⟨b87, rfl⟩ := hf87
   refine JH.p 10 rfl (p_indexAddr el_26 rfl rfl (by omega) (by omega) rfl) ?_
   refine JH.q 11 rfl (q_load1 ty_2.h rfl (Mem.row (i := 3) rfl (ints_get (i := 1) (by omega)))) ?_
   refine y2 1 5 ?_ ?_
   ·
    refine JHo.q rfl (q_load1 ty_26.h rfl (Mem.box (i := 1) rfl rfl)) ?_
    refine y1 5 ?_
    refine yv rfl rfl (fun w hw => c_spec_l04Sum X6PX.pits (ok_ hw)) ?_
    refine y1 6 ?_
    refine yv rfl rfl (fun w hw => c_spec_l00Max 0 (M.sum4 X6PX.pits)) ?_
    refine JH.p 7 rfl (p_sub rfl rfl rfl) ?_
    refine JH.p 12 rfl (p_sub rfl rfl rfl) ?_
    refine y1 13 ?_
    refine ybs rfl fun b88 => ?_
    refine y1 14 ?_
    refine zhh [1] ?_
    refine yBB 1 sp_ rfl rfl (fun w hb _ hw => c_spec_l00Src_among s_code X11AT X11SD [(-1), (IntKind.i64.wrap ((IntKind.i64.wrap (96 - (if 0 < (M.sum4 X6PX.pits) then (M.sum4 X6PX.pits) else 0))) - (M.nth X6PX.stores 1))), 96] hb (ok_ hw) (ints_rowok (xs := [(-1), (IntKind.i64.wrap ((IntKind.i64.wrap (96 - (if 0 < (M.sum4 X6PX.pits) then (M.sum4 X6PX.pits) else 0))) - (M.nth X6PX.stores 1))), 96]) (hw.pr (i := 0) rfl)) (r3 := (by simp)) (r4 := (by simp))) ?_
    rintro _ _ G90 ⟨X90KX, X90AT, X90SD, rfl, rfl, hX90_0, hX90_1, hX90_2⟩
    refine znh ?_
    refine JH.p 15 rfl (p_indexAddr el_26 rfl rfl (by omega) (by omega) rfl) ?_
    refine y1 16 ?_
    refine JHo.s rfl (e_storeRow (i := 5) (xs' := ints_ (X6PX.stores.set 0 X90KX)) ty_2.h rfl rfl rfl rfl rfl rfl (ints_lt (i := 0) (by omega)) (ints_setL (i := 0) (by omega))) (.inr rfl) ?_
    rintro _ _ _ ⟨rfl, rfl⟩ _
    refine znh ?_
    refine yd ?_
    refine zh [1, 1, 0, 0, 0, 0, 0, 0, 0, 0] ?_
    exact zm ⟨_, _, _, _, _, _, rfl, rfl, zt, zt, zt⟩ (Up.refl _ _) ⟨rfl, rfl, rfl, rfl, trivial⟩
   refine yv rfl rfl (fun w hw => c_spec_l04Sum X6PX.pits (ok_ hw)) ?_
   refine y2 1 6 ?_ ?_
   ·
    refine JHo.q rfl (q_load1 ty_26.h rfl (Mem.box (i := 1) rfl rfl)) ?_
    refine y1 6 ?_
    refine yv rfl rfl (fun w hw => c_spec_l00Max 0 (M.sum4 X6PX.pits)) ?_
    refine JH.p 7 rfl (p_sub rfl rfl rfl) ?_
    refine JH.p 12 rfl (p_sub rfl rfl rfl) ?_
    refine y1 13 ?_
    refine ybs rfl fun b92 => ?_
    refine y1 14 ?_
    refine zhh [1] ?_
    refine yBB 1 sp_ rfl rfl (fun w hb _ hw => c_spec_l00Src_among s_code X11AT X11SD [(-1), (IntKind.i64.wrap ((IntKind.i64.wrap (96 - (if 0 < (M.sum4 X6PX.pits) then (M.sum4 X6PX.pits) else 0))) - (M.nth X6PX.stores 1))), 96] hb (ok_ hw) (ints_rowok (xs := [(-1), (IntKind.i64.wrap ((IntKind.i64.wrap (96 - (if 0 < (M.sum4 X6PX.pits) then (M.sum4 X6PX.pits) else 0))) - (M.nth X6PX.stores 1))), 96]) (hw.pr (i := 0) rfl)) (r3 := (by simp)) (r4 := (by simp))) ?_
    rintro _ _ G94 ⟨X94KX, X94AT, X94SD, rfl, rfl, hX94_0, hX94_1, hX94_2⟩
    refine znh ?_
    refine JH.p 15 rfl (p_indexAddr el_26 rfl rfl (by omega) (by omega) rfl) ?_
    refine y1 16 ?_
    refine JHo.s rfl (e_storeRow (i := 5) (xs' := ints_ (X6PX.stores.set 0 X94KX)) ty_2.h rfl rfl rfl rfl rfl rfl (ints_lt (i := 0) (by omega)) (ints_setL (i := 0) (by omega))) (.inr rfl) ?_
    rintro _ _ _ ⟨rfl, rfl⟩ _
    refine znh ?_
    refine yd ?_
    refine zh [1, 1, 0, 0, 0, 0, 0, 0, 0, 0] ?_
    exact zm ⟨_, _, _, _, _, _, rfl, rfl, zt, zt, zt⟩ (Up.refl _ _) ⟨rfl, rfl, rfl, rfl, trivial⟩
   refine yv rfl rfl (fun w hw => c_spec_l00Max 0 (M.sum4 X6PX.pits)) ?_
   refine JH.p 7 rfl (p_sub rfl rfl rfl) ?_
   refine JH.p 12 rfl (p_sub rfl rfl rfl) ?_
   refine y2 1 13 ?_ ?_
   ·
    refine JHo.q rfl (q_load1 ty_26.h rfl (Mem.box (i := 1) rfl rfl)) ?_
    refine y1 13 ?_
    refine ybs rfl fun b96 => ?_
    refine y1 14 ?_
    refine zhh [1] ?_
    refine yBB 1 sp_ rfl rfl (fun w hb _ hw => c_spec_l00Src_among s_code X11AT X11SD [(-1), (IntKind.i64.wrap ((IntKind.i64.wrap (96 - (if 0 < (M.sum4 X6PX.pits) then (M.sum4 X6PX.pits) else 0))) - (M.nth X6PX.stores 1))), 96] hb (ok_ hw) (ints_rowok (xs := [(-1), (IntKind.i64.wrap ((IntKind.i64.wrap (96 - (if 0 < (M.sum4 X6PX.pits) then (M.sum4 X6PX.pits) else 0))) - (M.nth X6PX.stores 1))), 96]) (hw.pr (i := 0) rfl)) (r3 := (by simp)) (r4 := (by simp))) ?_
    rintro _ _ G98 ⟨X98KX, X98AT, X98SD, rfl, rfl, hX98_0, hX98_1, hX98_2⟩
    refine znh ?_
    refine JH.p 15 rfl (p_indexAddr el_26 rfl rfl (by omega) (by omega) rfl) ?_
    refine y1 16 ?_
    refine JHo.s rfl (e_storeRow (i := 5) (xs' := ints_ (X6PX.stores.set 0 X98KX)) ty_2.h rfl rfl rfl rfl rfl rfl (ints_lt (i := 0) (by omega)) (ints_setL (i := 0) (by omega))) (.inr rfl) ?_
    rintro _ _ _ ⟨rfl, rfl⟩ _
    refine znh ?_
    refine yd ?_
    refine zh [1, 1, 0, 0, 0, 0, 0, 0, 0, 0] ?_
    exact zm ⟨_, _, _, _, _, _, rfl, rfl, zt, zt, zt⟩ (Up.refl _ _) ⟨rfl, rfl, rfl, rfl, trivial⟩
   refine ybs rfl fun b100 => ?_
   refine y2 1 14 ?_ ?_
   ·
    refine JHo.q rfl (q_load1 ty_26.h rfl (Mem.box (i := 2) rfl rfl)) ?_
    refine y1 14 ?_
    refine zhh [1] ?_
    refine yBB 1 sp_ rfl rfl (fun w hb _ hw => c_spec_l00Src_among s_code X11AT X11SD [(-1), (IntKind.i64.wrap ((IntKind.i64.wrap (96 - (if 0 < (M.sum4 X6PX.pits) then (M.sum4 X6PX.pits) else 0))) - (M.nth X6PX.stores 1))), 96] hb (ok_ hw) (ints_rowok (xs := [(-1), (IntKind.i64.wrap ((IntKind.i64.wrap (96 - (if 0 < (M.sum4 X6PX.pits) then (M.sum4 X6PX.pits) else 0))) - (M.nth X6PX.stores 1))), 96]) (hw.pr (i := 0) rfl)) (r3 := (by simp)) (r4 := (by simp))) ?_
    rintro _ _ G102 ⟨X102KX, X102AT, X102SD, rfl, rfl, hX102_0, hX102_1, hX102_2⟩
    refine znh ?_
    refine JH.p 15 rfl (p_indexAddr el_26 rfl rfl (by omega) (by omega) rfl) ?_
    refine y1 16 ?_
    refine JHo.s rfl (e_storeRow (i := 5) (xs' := ints_ (X6PX.stores.set 0 X102KX)) ty_2.h rfl rfl rfl rfl rfl rfl (ints_lt (i := 0) (by omega)) (ints_setL (i := 0) (by omega))) (.inr rfl) ?_
    rintro _ _ _ ⟨rfl, rfl⟩ _
    refine znh ?_
    refine yd ?_
    refine zh [1, 1, 0, 0, 0, 0, 0, 0, 0, 0] ?_
    exact zm ⟨_, _, _, _, _, _, rfl, rfl, zt, zt, zt⟩ (Up.refl _ _) ⟨rfl, rfl, rfl, rfl, trivial⟩
   refine zhh [1] ?_
   refine yBB 1 sp_ rfl rfl (fun w hb _ hw => c_spec_l00Src_among s_code X11AT X11SD [(-1), (IntKind.i64.wrap ((IntKind.i64.wrap (96 - (if 0 < (M.sum4 X6PX.pits) then (M.sum4 X6PX.pits) else 0))) - (M.nth X6PX.stores 1))), 96] hb (ok_ hw) (ints_rowok (xs := [(-1), (IntKind.i64.wrap ((IntKind.i64.wrap (96 - (if 0 < (M.sum4 X6PX.pits) then (M.sum4 X6PX.pits) else 0))) - (M.nth X6PX.stores 1))), 96]) (hw.pr (i := 0) rfl)) (r3 := (by simp)) (r4 := (by simp))) ?_
   rintro _ _ G104 ⟨X104KX, X104AT, X104SD, rfl, rfl, hX104_0, hX104_1, hX104_2⟩
   refine znh ?_
   refine y1 1 ?_
   refine JHo.q rfl (q_load1 ty_26.h rfl (Mem.box (i := 3) rfl rfl)) ?_
   refine JH.p 15 rfl (p_indexAddr el_26 rfl rfl (by omega) (by omega) rfl) ?_
   refine y1 16 ?_
   refine JHo.s rfl (e_storeRow (i := 5) (xs' := ints_ (X6PX.stores.set 0 X104KX)) ty_2.h rfl rfl rfl rfl rfl rfl (ints_lt (i := 0) (by omega)) (ints_setL (i := 0) (by omega))) (.inr rfl) ?_
   rintro _ _ _ ⟨rfl, rfl⟩ _
   refine znh ?_
   refine yd ?_
   refine zh [1, 1, 0, 0, 0, 0, 0, 0, 0, 0] ?_
   exact zm ⟨_, _, _, _, _, _, rfl, rfl, zt, zt, zt⟩ (Up.refl _ _) ⟨rfl, rfl, rfl, rfl, trivial⟩
  rintro _ _ u85 ⟨G69, b67, X69AT, X69SD, b66, X69KX, rfl, rfl, f85_0, f85_1, f85_2⟩ x85
  refine zn ?_
  refine zf [2, 2, 2, 2, 2, 2, 2] fun GG106 => ?_
  refine zn ?_
  refine Js.blockEnd <| Js.seq ?_
  refine zk [2, 3] (fun F U l os u => l = F [] ∧ os = U [nO, nO, nO, nO, nO, some (boxO b2 [.slice A6r_0 X6PX.pits.length c6r_0, .slice (some ⟨b66, 0, none⟩) X6PX.stores.length c6r_1, .int .i64 X6PX.player] 28), some (boxO b1 [.int .i64 X3RX.pits, .int .i64 X3RX.seeds, .bool X3RX.stores, .bool X3RX.skip, .bool X3RX.relay, .bool X3RX.feed, .bool X3RX.again, .int .i64 X3RX.capture, .int .i64 X3RX.slam] 25)]) ?_ ?_
  ·
   refine zdr [2, 3] ?_
   refine JH.q 0 rfl (L9 4 rfl rfl) ?_
   refine y2 1 2 ?_ ?_
   ·
    refine JHo.q rfl (L9 1 rfl rfl) ?_
    refine y1 2 ?_
    refine yst rfl rfl rfl ?_
    refine y1 3 ?_
    refine yst rfl rfl rfl ?_
    refine yd ?_
    exact zm ⟨rfl, rfl⟩ (Up.refl _ _)
   refine yst rfl rfl rfl ?_
   refine y1 1 ?_
   refine JHo.q rfl (L9 1 rfl rfl) ?_
   refine y1 3 ?_
   refine yst rfl rfl rfl ?_
   refine yd ?_
   exact zm ⟨rfl, rfl⟩ (Up.refl _ _)
  rintro _ _ u107 ⟨rfl, rfl⟩ x107
  refine zn ?_
  refine zf [0, 1, 1, 2, 2] fun GG108 => ?_
  refine zn ?_
  refine Js.conv (fun w hw => St.toRx (i := 1) rfl hw) ?_
  refine zn ?_
  refine zrb [2, 0, 1] hb (x85.trans x107) ?_
  have hNr1_1 : (X6PX.stores.set 0 X69KX).length = X6PX.stores.length := by first | rfl | assumption | omega | (simp only [List.length_set, M.setI_length]; done) | (simp only [List.length_set, M.setI_length]; first | rfl | assumption | omega) | (simp only [List.length_drop]; first | done | rfl | omega) | (simp; done) | (simp; omega)
  refine ⟨(X3RX), ((M.Pos.mk X6PX.pits (X6PX.stores.set 0 X69KX) X6PX.player)), (X69AT), (X69SD), A6r_0, c6r_0, (some ⟨b66, 0, none⟩), c6r_1, g6r_1, (show (.tuple #[.agg #[.int .i64 X3RX.pits, .int .i64 X3RX.seeds, .bool X3RX.stores, .bool X3RX.skip, .bool X3RX.relay, .bool X3RX.feed, .bool X3RX.again, .int .i64 X3RX.capture, .int .i64 X3RX.slam], .agg #[.slice A6r_0 X6PX.pits.length c6r_0, .slice (some ⟨b66, 0, none⟩) X6PX.stores.length c6r_1, .int .i64 X6PX.player]] : Value) = .tuple #[.agg #[.int .i64 X3RX.pits, .int .i64 X3RX.seeds, .bool X3RX.stores, .bool X3RX.skip, .bool X3RX.relay, .bool X3RX.feed, .bool X3RX.again, .int .i64 X3RX.capture, .int .i64 X3RX.slam], .agg #[.slice A6r_0 X6PX.pits.length c6r_0, .slice (some ⟨b66, 0, none⟩) (X6PX.stores.set 0 X69KX).length c6r_1, .int .i64 X6PX.player]] by rw [hNr1_1]), ?_, ?_, ?_, ?_, ?_, by first | trivial | omega | (refine ⟨?_, ?_⟩ <;> dsimp only <;> first | omega | (simp only [List.length_append, List.length_cons, List.length_nil, List.length_set]; omega)), by first | trivial | omega | (refine ⟨?_, ?_⟩ <;> dsimp only <;> first | omega | (simp only [List.length_append, List.length_cons, List.length_nil, List.length_set]; omega)), by first | trivial | omega | (refine ⟨?_, ?_⟩ <;> dsimp only <;> first | omega | (simp only [List.length_append, List.length_cons, List.length_nil, List.length_set]; omega))⟩
  · first | rfl | (dsimp only; rw [hNr1_1]) | (dsimp only; simp only [hNr1_1])
  all_goals (try dsimp only)
  all_goals (first | (rw [hNr1_1]; omega) | omega | (simp only [*]; omega))
 refine zS <| Qe rfl rfl <| Qa rfl <| JL.nil ?_
 refine zi (fun h109 h109' => ?_) fun h109 h109' => ?_
 ·
  refine Js.region <| Qm rfl <| zBB 1 sp_ rfl (fun w hb _ hw => c_spec_l02Bent s_code X11AT X11SD hb (ok_ hw)) ?_
  rintro _ _ G110 ⟨X110RX, X110AT, X110SD, rfl, rfl, hX110_0, hX110_1⟩
  refine znl ?_
  refine zw 5 rfl rfl rfl ?_
  refine JL.nil ?_
  refine zf [0, 1, 1, 1, 1, 1, 1] fun GG111 => ?_
  refine zn ?_
  refine Js.blockEnd <| Js.seq ?_
  refine zk [2, 3] (fun F U l os u => l = F [] ∧ os = U [nO, nO, nO, nO, nO, some (boxO b2 [.slice A6r_0 X6PX.pits.length c6r_0, .slice A6r_1 X6PX.stores.length c6r_1, .int .i64 X6PX.player] 28), some (boxO b1 [.int .i64 X110RX.pits, .int .i64 X110RX.seeds, .bool X110RX.stores, .bool X110RX.skip, .bool X110RX.relay, .bool X110RX.feed, .bool X110RX.again, .int .i64 X110RX.capture, .int .i64 X110RX.slam] 25)]) ?_ ?_
  ·
   refine zdr [2, 3] ?_
   refine JH.q 0 rfl (L9 4 rfl rfl) ?_
   refine y2 1 2 ?_ ?_
   ·
    refine JHo.q rfl (L9 1 rfl rfl) ?_
    refine y1 2 ?_
    refine yst rfl rfl rfl ?_
    refine y1 3 ?_
    refine yst rfl rfl rfl ?_
    refine yd ?_
    exact zm ⟨rfl, rfl⟩ (Up.refl _ _)
   refine yst rfl rfl rfl ?_
   refine y1 1 ?_
   refine JHo.q rfl (L9 1 rfl rfl) ?_
   refine y1 3 ?_
   refine yst rfl rfl rfl ?_
   refine yd ?_
   exact zm ⟨rfl, rfl⟩ (Up.refl _ _)
  rintro _ _ u112 ⟨rfl, rfl⟩ x112
  refine zn ?_
  refine zf [0, 1, 1, 2, 2] fun GG113 => ?_
  refine zn ?_
  refine Js.conv (fun w hw => St.toRx (i := 1) rfl hw) ?_
  refine zn ?_
  refine zrb [2, 0, 1] hb x112 ?_
  refine ⟨(X110RX), (X6PX), (X110AT), (X110SD), A6r_0, c6r_0, A6r_1, c6r_1, g6r_1, rfl, ?_, ?_, ?_, ?_, ?_, by first | trivial | omega | (refine ⟨?_, ?_⟩ <;> dsimp only <;> first | omega | (simp only [List.length_append, List.length_cons, List.length_nil, List.length_set]; omega)), by first | trivial | omega | (refine ⟨?_, ?_⟩ <;> dsimp only <;> first | omega | (simp only [List.length_append, List.length_cons, List.length_nil, List.length_set]; omega)), by first | trivial | omega | (refine ⟨?_, ?_⟩ <;> dsimp only <;> first | omega | (simp only [List.length_append, List.length_cons, List.length_nil, List.length_set]; omega))⟩
  · rfl
  all_goals (try dsimp only)
  all_goals (first | (omega) | omega | (simp only [*]; omega))
 refine Js.skip <| Js.blockEnd <| Js.seq ?_
 refine zk [2, 3] (fun F U l os u => l = F [] ∧ os = U [nO, nO, nO, nO, nO, some (boxO b2 [.slice A6r_0 X6PX.pits.length c6r_0, .slice A6r_1 X6PX.stores.length c6r_1, .int .i64 X6PX.player] 28), some (boxO b1 [.int .i64 X3RX.pits, .int .i64 X3RX.seeds, .bool X3RX.stores, .bool X3RX.skip, .bool X3RX.relay, .bool X3RX.feed, .bool X3RX.again, .int .i64 X3RX.capture, .int .i64 X3RX.slam] 25)]) ?_ ?_
 ·
  refine zdr [2, 3] ?_
  refine JH.q 0 rfl (L9 4 rfl rfl) ?_
  refine y2 1 2 ?_ ?_
  ·
   refine JHo.q rfl (L9 1 rfl rfl) ?_
   refine y1 2 ?_
   refine yst rfl rfl rfl ?_
   refine y1 3 ?_
   refine yst rfl rfl rfl ?_
   refine yd ?_
   exact zm ⟨rfl, rfl⟩ (Up.refl _ _)
  refine yst rfl rfl rfl ?_
  refine y1 1 ?_
  refine JHo.q rfl (L9 1 rfl rfl) ?_
  refine y1 3 ?_
  refine yst rfl rfl rfl ?_
  refine yd ?_
  exact zm ⟨rfl, rfl⟩ (Up.refl _ _)
 rintro _ _ u114 ⟨rfl, rfl⟩ x114
 refine zn ?_
 refine zf [0, 1, 1, 2, 2] fun GG115 => ?_
 refine zn ?_
 refine Js.conv (fun w hw => St.toRx (i := 1) rfl hw) ?_
 refine zn ?_
 refine zrb [2, 0, 1] hb x114 ?_
 refine ⟨(X3RX), (X6PX), (X11AT), (X11SD), A6r_0, c6r_0, A6r_1, c6r_1, g6r_1, rfl, ?_, ?_, ?_, ?_, ?_, by first | trivial | omega | (refine ⟨?_, ?_⟩ <;> dsimp only <;> first | omega | (simp only [List.length_append, List.length_cons, List.length_nil, List.length_set]; omega)), by first | trivial | omega | (refine ⟨?_, ?_⟩ <;> dsimp only <;> first | omega | (simp only [List.length_append, List.length_cons, List.length_nil, List.length_set]; omega)), by first | trivial | omega | (refine ⟨?_, ?_⟩ <;> dsimp only <;> first | omega | (simp only [List.length_append, List.length_cons, List.length_nil, List.length_set]; omega))⟩
 · rfl
 all_goals (try dsimp only)
 all_goals (first | (omega) | omega | (simp only [*]; omega))

set_option maxHeartbeats 4000000 in
theorem c_spec_DrawGameFrom (code : Nat) {v_code : Value} {w : World} (h_code : (Ty.bytes 5 code).ok w v_code) (r0 : code ≤ 1048576 := by exact om_) : Ret Tryz.prog 27 [v_code] w (Ty.tup [Ty.ex (fun (RX : M.Rul) => True) (fun RX => Ty.agg (cRules RX)), Ty.ex (fun (PX : M.Pos) => (PX.pits.length ≤ 4194304 ∧ PX.stores.length ≤ 4194304)) (fun PX => Ty.agg (cPositionL PX))]) := by
 revert v_code; apply opn
 intro A1 c1 h1 bl1 bh1
 have h_code := h1
 refine enter @Tryz.func27 @Tryz.ntmps27 rfl rfl ?_
 refine zent ?_
 refine zS <| za zeh fun b2 => za zeh fun b3 => zN <| Qm rfl <| zcs rfl (fun w hw => c_spec_l00From code (ok_ hw)) ?_
 intro b4
 refine zB 1 sp_ rfl (fun w hb hw => c_spec_l04Bent code 0 0 hb (ok_ hw)) ?_
 rintro _ _ G5 ⟨X5RX, X5QX, X5AT, X5SD, A5rb_0, c5rb_0, A5rb_1, c5rb_1, g5rb_1, rfl, rfl, bl5_0, bl5_1, bl5_2, bl5_3, hX5_0, hX5_1, hX5_2⟩
 refine znl ?_
 refine Qx rfl rfl <| Qx rfl rfl <| zw 5 rfl rfl rfl ?_
 refine zw 4 rfl rfl rfl ?_
 refine JL.nil ?_
 exact zro (Up.refl _ _) (g := by exact (gv_tup (gvc (gv_ex X5RX (by first | trivial | assumption | omega) gv_) (gvc (gv_ex X5QX (by first | trivial | assumption | omega) (gv_agg (gvc (gv_rx po_ (by first | rfl | assumption)) (gvc gv_ (gvc gv_ gvn))))) gvn))))

end Go.Proofs.YtejnmechnhgmfaaGreat

namespace Go.Proofs.YtejnmechnhgmfaaGreat
open Go.RowKit

set_option maxHeartbeats 4000000 in
theorem c_spec_DrawSameGame (code : Nat) {v_code : Value} {w : World} (h_code : (Ty.bytes 5 code).ok w v_code) (r0 : code ≤ 1048576 := by exact om_) : Ret Tryz.prog 33 [v_code] w (Ty.tup [Ty.ex (fun (GX : M.Gam) => (GX.start.pits.length ≤ 4194304 ∧ GX.start.stores.length ≤ 4194304 ∧ GX.moves.length ≤ 4194304 ∧ GX.now.pits.length ≤ 4194304 ∧ GX.now.stores.length ≤ 4194304)) (fun GX => Ty.agg (cGame GX)), Ty.ex (fun (HX : M.Gam) => (HX.start.pits.length ≤ 4194304 ∧ HX.start.stores.length ≤ 4194304 ∧ HX.moves.length ≤ 4194304 ∧ HX.now.pits.length ≤ 4194304 ∧ HX.now.stores.length ≤ 4194304)) (fun HX => Ty.agg (cGame HX))]) := by
 revert v_code; apply opn
 intro A1 c1 h1 bl1 bh1
 have h_code := h1
 refine enter @Tryz.func33 @Tryz.ntmps33 rfl rfl ?_
 refine zent ?_
 refine zS <| za zeh fun b2 => za zeh fun b3 => zN <| Qm rfl <| zcs rfl (fun w hw => c_spec_l00From code (ok_ hw)) ?_
 intro b4
 refine Qa rfl <| zN <| Qm rfl <| zB 1 sp_ rfl (fun w hb hw => c_spec_l08Draw code 0 0 6 hb (ok_ hw)) ?_
 rintro _ _ G5 ⟨X5GX, X5AT, X5SD, A5r_9, c5r_9, g5r_9, A5r_10, c5r_10, g5r_10, A5r_12, c5r_12, g5r_12, A5r_13, c5r_13, g5r_13, A5r_14, c5r_14, g5r_14, rfl, rfl, bl5_0, bl5_1, bl5_2, bl5_3, bl5_4, bl5_5, bl5_6, bl5_7, bl5_8, bl5_9, hX5_0, hX5_1, hX5_2⟩
 refine znl ?_
 obtain ⟨⟨s1, s2, s3, s4, s5⟩, s6, s7, s8⟩ := (show M.Small X5GX ∧ X5GX.moves.length ≤ 121 ∧ X5GX.now.stores.length = 2 ∧ 1 ≤ X5GX.now.pits.length by assumption)
 refine za zeh fun b6 => zw 0 rfl rfl rfl ?_
 refine zN <| zc rfl (fun w hw => c_spec_l08Own X5GX (ok_ hw)) ?_
 intro A8 c8 bl8 bh8 A9 c9 bl9 bh9 A10 c10 bl10 bh10 A11 c11 bl11 bh11 A12 c12 bl12 bh12
 refine za zeh fun b13 => zw 0 rfl rfl rfl ?_
 refine zJ <| zS <| Qm rfl ?_
 refine zhl [7] ?_
 refine zB 1 sp_ rfl (fun w hb hw => c_spec_l00Src_pick code X5AT X5SD 6 hb (ok_ hw)) ?_
 rintro _ _ G14 ⟨X14KX, X14AT, X14SD, rfl, rfl, hX14_0, hX14_1, hX14_2, hX14_3⟩
 refine znl ?_
 refine JL.nil <| Js.block <| zS <| Qe rfl rfl <| Qa rfl <| JL.nil ?_
 refine zi (fun h15 h15' => ?_) fun h15 h15' => ?_
 ·
  refine Js.region <| Qf fh rfl <| Q0 2 rfl rfl rfl <| Qq (p_sub rfl rfl rfl) <| Qf fh rfl <| zw 2 rfl rfl rfl ?_
  refine JL.nil <| Js.blockEnd <| Js.seq ?_
  refine zk [2, 3] (fun F U l os u => l = F [] ∧ os = U [nO, nO, nO, nO, nO, nO, nO, nO, nO, nO, nO, nO, nO, nO, nO, some (boxO b3 [.int .i64 X5GX.rules.pits, .int .i64 X5GX.rules.seeds, .bool X5GX.rules.stores, .bool X5GX.rules.skip, .bool X5GX.rules.relay, .bool X5GX.rules.feed, .bool X5GX.rules.again, .int .i64 X5GX.rules.capture, .int .i64 X5GX.rules.slam, .slice A8 X5GX.start.pits.length c8, .slice A9 X5GX.start.stores.length c9, .int .i64 X5GX.start.player, .slice A10 X5GX.moves.length c10, .slice A11 X5GX.now.pits.length c11, .slice A12 X5GX.now.stores.length c12, .int .i64 X5GX.now.player, .int .i64 (IntKind.i64.wrap (1 - X5GX.resigned))] 30), some (boxO b2 [.int .i64 X5GX.rules.pits, .int .i64 X5GX.rules.seeds, .bool X5GX.rules.stores, .bool X5GX.rules.skip, .bool X5GX.rules.relay, .bool X5GX.rules.feed, .bool X5GX.rules.again, .int .i64 X5GX.rules.capture, .int .i64 X5GX.rules.slam, .slice A5r_9 X5GX.start.pits.length c5r_9, .slice A5r_10 X5GX.start.stores.length c5r_10, .int .i64 X5GX.start.player, .slice A5r_12 X5GX.moves.length c5r_12, .slice A5r_13 X5GX.now.pits.length c5r_13, .slice A5r_14 X5GX.now.stores.length c5r_14, .int .i64 X5GX.now.player, .int .i64 X5GX.resigned] 30)]) ?_ ?_
  ·
   refine zdr [2, 3] ?_
   refine JH.q 0 rfl (L9 8 rfl rfl) ?_
   refine y2 1 2 ?_ ?_
   ·
    refine JHo.q rfl (L9 2 rfl rfl) ?_
    refine y1 2 ?_
    refine yst rfl rfl rfl ?_
    refine y1 3 ?_
    refine yst rfl rfl rfl ?_
    refine yd ?_
    exact zm ⟨rfl, rfl⟩ (Up.refl _ _)
   refine yst rfl rfl rfl ?_
   refine y1 1 ?_
   refine JHo.q rfl (L9 2 rfl rfl) ?_
   refine y1 3 ?_
   refine yst rfl rfl rfl ?_
   refine yd ?_
   exact zm ⟨rfl, rfl⟩ (Up.refl _ _)
  rintro _ _ u16 ⟨rfl, rfl⟩ x16
  refine zn ?_
  exact zro x16 (g := by exact (gv_tup (gvc (gv_ex X5GX (by first | trivial | assumption | omega | (refine ⟨?_, ?_, ?_, ?_, ?_⟩ <;> dsimp only <;> first | assumption | omega | (simp only [List.length_append, List.length_cons, List.length_nil, List.length_set]; omega))) gv_) (gvc (gv_ex (M.Gam.mk X5GX.rules X5GX.start X5GX.moves X5GX.now (IntKind.i64.wrap (1 - X5GX.resigned))) (by first | trivial | assumption | omega | (refine ⟨?_, ?_, ?_, ?_, ?_⟩ <;> dsimp only <;> first | assumption | omega | (simp only [List.length_append, List.length_cons, List.length_nil, List.length_set]; omega))) gv_) gvn))))
 refine zS <| Qe rfl rfl <| Qa rfl <| JL.nil ?_
 refine zi (fun h17 h17' => ?_) fun h17 h17' => ?_
 ·
  refine Js.region <| Qf fh rfl <| Qf fh rfl <| Q0 2 rfl rfl rfl ?_
  refine JL.fact (row_some (i := 4) rfl (by omega)) (fun hf19 => ?_)
  obtain ⟨b19, rfl⟩ := hf19
  refine Qq (p_indexAddr el_26 rfl rfl (by omega) (by omega) rfl) <| Qw (q_load1 ty_2.h rfl (Mem.row (i := 4) rfl (ints_get (i := 0) (by omega)))) <| Qq (p_add rfl rfl rfl) <| Qq (p_indexAddr el_26 rfl rfl (by omega) (by omega) rfl) ?_
  refine JL.s (e_storeRow (i := 4) (xs' := ints_ (X5GX.now.pits.set 0 (IntKind.i64.wrap ((M.nth X5GX.now.pits 0) + 1)))) ty_2.h rfl rfl rfl rfl rfl rfl (ints_lt (i := 0) (by omega)) (ints_setL (i := 0) (by omega))) ?_
  rintro _ _ _ ⟨rfl, rfl⟩ _
  refine znl ?_
  refine JL.nil <| Js.blockEnd <| Js.seq ?_
  refine zk [2, 3] (fun F U l os u => l = F [] ∧ os = U [nO, nO, nO, nO, nO, nO, nO, nO, nO, nO, nO, nO, nO, nO, nO, some (boxO b3 [.int .i64 X5GX.rules.pits, .int .i64 X5GX.rules.seeds, .bool X5GX.rules.stores, .bool X5GX.rules.skip, .bool X5GX.rules.relay, .bool X5GX.rules.feed, .bool X5GX.rules.again, .int .i64 X5GX.rules.capture, .int .i64 X5GX.rules.slam, .slice A8 X5GX.start.pits.length c8, .slice A9 X5GX.start.stores.length c9, .int .i64 X5GX.start.player, .slice A10 X5GX.moves.length c10, .slice (some ⟨b19, 0, none⟩) X5GX.now.pits.length c11, .slice A12 X5GX.now.stores.length c12, .int .i64 X5GX.now.player, .int .i64 X5GX.resigned] 30), some (boxO b2 [.int .i64 X5GX.rules.pits, .int .i64 X5GX.rules.seeds, .bool X5GX.rules.stores, .bool X5GX.rules.skip, .bool X5GX.rules.relay, .bool X5GX.rules.feed, .bool X5GX.rules.again, .int .i64 X5GX.rules.capture, .int .i64 X5GX.rules.slam, .slice A5r_9 X5GX.start.pits.length c5r_9, .slice A5r_10 X5GX.start.stores.length c5r_10, .int .i64 X5GX.start.player, .slice A5r_12 X5GX.moves.length c5r_12, .slice A5r_13 X5GX.now.pits.length c5r_13, .slice A5r_14 X5GX.now.stores.length c5r_14, .int .i64 X5GX.now.player, .int .i64 X5GX.resigned] 30)]) ?_ ?_
  ·
   refine zdr [2, 3] ?_
   refine JH.q 0 rfl (L9 8 rfl rfl) ?_
   refine y2 1 2 ?_ ?_
   ·
    refine JHo.q rfl (L9 2 rfl rfl) ?_
    refine y1 2 ?_
    refine yst rfl rfl rfl ?_
    refine y1 3 ?_
    refine yst rfl rfl rfl ?_
    refine yd ?_
    exact zm ⟨rfl, rfl⟩ (Up.refl _ _)
   refine yst rfl rfl rfl ?_
   refine y1 1 ?_
   refine JHo.q rfl (L9 2 rfl rfl) ?_
   refine y1 3 ?_
   refine yst rfl rfl rfl ?_
   refine yd ?_
   exact zm ⟨rfl, rfl⟩ (Up.refl _ _)
  rintro _ _ u21 ⟨rfl, rfl⟩ x21
  refine zn ?_
  exact zro x21 (g := by exact (gv_tup (gvc (gv_ex X5GX (by first | trivial | assumption | omega | (refine ⟨?_, ?_, ?_, ?_, ?_⟩ <;> dsimp only <;> first | assumption | omega | (simp only [List.length_append, List.length_cons, List.length_nil, List.length_set]; omega))) gv_) (gvc (gv_ex (M.Gam.mk X5GX.rules X5GX.start X5GX.moves (M.Pos.mk (X5GX.now.pits.set 0 (IntKind.i64.wrap ((M.nth X5GX.now.pits 0) + 1))) X5GX.now.stores X5GX.now.player) X5GX.resigned) (by first | trivial | assumption | omega | (refine ⟨?_, ?_, ?_, ?_, ?_⟩ <;> dsimp only <;> first | assumption | omega | (simp only [List.length_append, List.length_cons, List.length_nil, List.length_set]; omega))) gv_) gvn))))
 refine zS <| Qe rfl rfl <| Qa rfl <| JL.nil ?_
 refine zi (fun h22 h22' => ?_) fun h22 h22' => ?_
 ·
  refine Js.region <| Qf fh rfl <| Q0 2 rfl rfl rfl <| zbs fun b23 => ?_
  refine JL.e (e_append (i := 6) (n' := (X5GX.moves ++ [0]).length) (vs' := ints_ (X5GX.moves ++ [0])) el_26 rfl rfl rfl rfl (src_row (i := 0) und_26 rfl rfl) (by omega) (by omega) (by first | omega | (simp only [List.length_append, List.length_cons, List.length_nil] <;> omega)) (by simp [ints_])) ?_
  rintro v25 _ _ ⟨⟨g26, rfl⟩, rfl⟩ _
  refine JL.fact (row_form' (i := 6) rfl) (fun hf27 => ?_)
  obtain ⟨A27, c27, rfl, bl27, bh27⟩ := hf27
  refine znl ?_
  refine Qf fh rfl <| zw 3 rfl rfl rfl ?_
  refine JL.nil <| Js.blockEnd <| Js.seq ?_
  refine zk [2, 3] (fun F U l os u => l = F [] ∧ os = U [nO, nO, nO, nO, nO, nO, nO, nO, nO, nO, nO, nO, nO, nO, nO, nO, some (boxO b3 [.int .i64 X5GX.rules.pits, .int .i64 X5GX.rules.seeds, .bool X5GX.rules.stores, .bool X5GX.rules.skip, .bool X5GX.rules.relay, .bool X5GX.rules.feed, .bool X5GX.rules.again, .int .i64 X5GX.rules.capture, .int .i64 X5GX.rules.slam, .slice A8 X5GX.start.pits.length c8, .slice A9 X5GX.start.stores.length c9, .int .i64 X5GX.start.player, .slice A27 ((X5GX.moves ++ [0]).length) c27, .slice A11 X5GX.now.pits.length c11, .slice A12 X5GX.now.stores.length c12, .int .i64 X5GX.now.player, .int .i64 X5GX.resigned] 30), some (boxO b2 [.int .i64 X5GX.rules.pits, .int .i64 X5GX.rules.seeds, .bool X5GX.rules.stores, .bool X5GX.rules.skip, .bool X5GX.rules.relay, .bool X5GX.rules.feed, .bool X5GX.rules.again, .int .i64 X5GX.rules.capture, .int .i64 X5GX.rules.slam, .slice A5r_9 X5GX.start.pits.length c5r_9, .slice A5r_10 X5GX.start.stores.length c5r_10, .int .i64 X5GX.start.player, .slice A5r_12 X5GX.moves.length c5r_12, .slice A5r_13 X5GX.now.pits.length c5r_13, .slice A5r_14 X5GX.now.stores.length c5r_14, .int .i64 X5GX.now.player, .int .i64 X5GX.resigned] 30)]) ?_ ?_
  ·
   refine zdr [2, 3] ?_
   refine JH.q 0 rfl (L9 9 rfl rfl) ?_
   refine y2 1 2 ?_ ?_
   ·
    refine JHo.q rfl (L9 3 rfl rfl) ?_
    refine y1 2 ?_
    refine yst rfl rfl rfl ?_
    refine y1 3 ?_
    refine yst rfl rfl rfl ?_
    refine yd ?_
    exact zm ⟨rfl, rfl⟩ (Up.refl _ _)
   refine yst rfl rfl rfl ?_
   refine y1 1 ?_
   refine JHo.q rfl (L9 3 rfl rfl) ?_
   refine y1 3 ?_
   refine yst rfl rfl rfl ?_
   refine yd ?_
   exact zm ⟨rfl, rfl⟩ (Up.refl _ _)
  rintro _ _ u28 ⟨rfl, rfl⟩ x28
  refine zn ?_
  exact zro x28 (g := by exact (gv_tup (gvc (gv_ex X5GX (by first | trivial | assumption | omega | (refine ⟨?_, ?_, ?_, ?_, ?_⟩ <;> dsimp only <;> first | assumption | omega | (simp only [List.length_append, List.length_cons, List.length_nil, List.length_set]; omega))) gv_) (gvc (gv_ex (M.Gam.mk X5GX.rules X5GX.start (X5GX.moves ++ [0]) X5GX.now X5GX.resigned) (by first | trivial | assumption | omega | (refine ⟨?_, ?_, ?_, ?_, ?_⟩ <;> dsimp only <;> first | assumption | omega | (simp only [List.length_append, List.length_cons, List.length_nil, List.length_set]; omega))) gv_) gvn))))
 refine zS <| Qe rfl rfl <| Qa rfl <| JL.nil ?_
 refine zi (fun h29 h29' => ?_) fun h29 h29' => ?_
 ·
  refine Js.region <| Qf fh rfl <| Qf fh rfl <| Q0 2 rfl rfl rfl <| Qq (p_sub rfl rfl rfl) <| Qf fh rfl <| Qf fh rfl <| zw 2 rfl rfl rfl ?_
  refine JL.nil <| Js.blockEnd <| Js.seq ?_
  refine zk [2, 3] (fun F U l os u => l = F [] ∧ os = U [nO, nO, nO, nO, nO, nO, nO, nO, nO, nO, nO, nO, nO, nO, nO, some (boxO b3 [.int .i64 X5GX.rules.pits, .int .i64 X5GX.rules.seeds, .bool X5GX.rules.stores, .bool X5GX.rules.skip, .bool X5GX.rules.relay, .bool X5GX.rules.feed, .bool X5GX.rules.again, .int .i64 X5GX.rules.capture, .int .i64 X5GX.rules.slam, .slice A8 X5GX.start.pits.length c8, .slice A9 X5GX.start.stores.length c9, .int .i64 (IntKind.i64.wrap (1 - X5GX.start.player)), .slice A10 X5GX.moves.length c10, .slice A11 X5GX.now.pits.length c11, .slice A12 X5GX.now.stores.length c12, .int .i64 X5GX.now.player, .int .i64 X5GX.resigned] 30), some (boxO b2 [.int .i64 X5GX.rules.pits, .int .i64 X5GX.rules.seeds, .bool X5GX.rules.stores, .bool X5GX.rules.skip, .bool X5GX.rules.relay, .bool X5GX.rules.feed, .bool X5GX.rules.again, .int .i64 X5GX.rules.capture, .int .i64 X5GX.rules.slam, .slice A5r_9 X5GX.start.pits.length c5r_9, .slice A5r_10 X5GX.start.stores.length c5r_10, .int .i64 X5GX.start.player, .slice A5r_12 X5GX.moves.length c5r_12, .slice A5r_13 X5GX.now.pits.length c5r_13, .slice A5r_14 X5GX.now.stores.length c5r_14, .int .i64 X5GX.now.player, .int .i64 X5GX.resigned] 30)]) ?_ ?_
  ·
   refine zdr [2, 3] ?_
   refine JH.q 0 rfl (L9 8 rfl rfl) ?_
   refine y2 1 2 ?_ ?_
   ·
    refine JHo.q rfl (L9 2 rfl rfl) ?_
    refine y1 2 ?_
    refine yst rfl rfl rfl ?_
    refine y1 3 ?_
    refine yst rfl rfl rfl ?_
    refine yd ?_
    exact zm ⟨rfl, rfl⟩ (Up.refl _ _)
   refine yst rfl rfl rfl ?_
   refine y1 1 ?_
   refine JHo.q rfl (L9 2 rfl rfl) ?_
   refine y1 3 ?_
   refine yst rfl rfl rfl ?_
   refine yd ?_
   exact zm ⟨rfl, rfl⟩ (Up.refl _ _)
  rintro _ _ u30 ⟨rfl, rfl⟩ x30
  refine zn ?_
  exact zro x30 (g := by exact (gv_tup (gvc (gv_ex X5GX (by first | trivial | assumption | omega | (refine ⟨?_, ?_, ?_, ?_, ?_⟩ <;> dsimp only <;> first | assumption | omega | (simp only [List.length_append, List.length_cons, List.length_nil, List.length_set]; omega))) gv_) (gvc (gv_ex (M.Gam.mk X5GX.rules (M.Pos.mk X5GX.start.pits X5GX.start.stores (IntKind.i64.wrap (1 - X5GX.start.player))) X5GX.moves X5GX.now X5GX.resigned) (by first | trivial | assumption | omega | (refine ⟨?_, ?_, ?_, ?_, ?_⟩ <;> dsimp only <;> first | assumption | omega | (simp only [List.length_append, List.length_cons, List.length_nil, List.length_set]; omega))) gv_) gvn))))
 refine zS <| Qe rfl rfl <| Qa rfl <| JL.nil ?_
 refine zi (fun h31 h31' => ?_) fun h31 h31' => ?_
 ·
  refine Js.region <| Qf fh rfl <| Qf fh rfl <| Q0 2 rfl rfl rfl <| Qt rfl <| Qf fh rfl <| Qf fh rfl <| zw 2 rfl rfl rfl ?_
  refine JL.nil <| Js.blockEnd <| Js.seq ?_
  refine zk [2, 3] (fun F U l os u => l = F [] ∧ os = U [nO, nO, nO, nO, nO, nO, nO, nO, nO, nO, nO, nO, nO, nO, nO, some (boxO b3 [.int .i64 X5GX.rules.pits, .int .i64 X5GX.rules.seeds, .bool X5GX.rules.stores, .bool X5GX.rules.skip, .bool X5GX.rules.relay, .bool (!X5GX.rules.feed), .bool X5GX.rules.again, .int .i64 X5GX.rules.capture, .int .i64 X5GX.rules.slam, .slice A8 X5GX.start.pits.length c8, .slice A9 X5GX.start.stores.length c9, .int .i64 X5GX.start.player, .slice A10 X5GX.moves.length c10, .slice A11 X5GX.now.pits.length c11, .slice A12 X5GX.now.stores.length c12, .int .i64 X5GX.now.player, .int .i64 X5GX.resigned] 30), some (boxO b2 [.int .i64 X5GX.rules.pits, .int .i64 X5GX.rules.seeds, .bool X5GX.rules.stores, .bool X5GX.rules.skip, .bool X5GX.rules.relay, .bool X5GX.rules.feed, .bool X5GX.rules.again, .int .i64 X5GX.rules.capture, .int .i64 X5GX.rules.slam, .slice A5r_9 X5GX.start.pits.length c5r_9, .slice A5r_10 X5GX.start.stores.length c5r_10, .int .i64 X5GX.start.player, .slice A5r_12 X5GX.moves.length c5r_12, .slice A5r_13 X5GX.now.pits.length c5r_13, .slice A5r_14 X5GX.now.stores.length c5r_14, .int .i64 X5GX.now.player, .int .i64 X5GX.resigned] 30)]) ?_ ?_
  ·
   refine zdr [2, 3] ?_
   refine JH.q 0 rfl (L9 8 rfl rfl) ?_
   refine y2 1 2 ?_ ?_
   ·
    refine JHo.q rfl (L9 2 rfl rfl) ?_
    refine y1 2 ?_
    refine yst rfl rfl rfl ?_
    refine y1 3 ?_
    refine yst rfl rfl rfl ?_
    refine yd ?_
    exact zm ⟨rfl, rfl⟩ (Up.refl _ _)
   refine yst rfl rfl rfl ?_
   refine y1 1 ?_
   refine JHo.q rfl (L9 2 rfl rfl) ?_
   refine y1 3 ?_
   refine yst rfl rfl rfl ?_
   refine yd ?_
   exact zm ⟨rfl, rfl⟩ (Up.refl _ _)
  rintro _ _ u32 ⟨rfl, rfl⟩ x32
  refine zn ?_
  exact zro x32 (g := by exact (gv_tup (gvc (gv_ex X5GX (by first | trivial | assumption | omega | (refine ⟨?_, ?_, ?_, ?_, ?_⟩ <;> dsimp only <;> first | assumption | omega | (simp only [List.length_append, List.length_cons, List.length_nil, List.length_set]; omega))) gv_) (gvc (gv_ex (M.Gam.mk (M.Rul.mk X5GX.rules.pits X5GX.rules.seeds X5GX.rules.stores X5GX.rules.skip X5GX.rules.relay (!X5GX.rules.feed) X5GX.rules.again X5GX.rules.capture X5GX.rules.slam) X5GX.start X5GX.moves X5GX.now X5GX.resigned) (by first | trivial | assumption | omega | (refine ⟨?_, ?_, ?_, ?_, ?_⟩ <;> dsimp only <;> first | assumption | omega | (simp only [List.length_append, List.length_cons, List.length_nil, List.length_set]; omega))) gv_) gvn))))
 refine Js.skip <| Js.blockEnd <| Js.seq ?_
 refine zk [2, 3] (fun F U l os u => l = F [] ∧ os = U [nO, nO, nO, nO, nO, nO, nO, nO, nO, nO, nO, nO, nO, nO, nO, some (boxO b3 [.int .i64 X5GX.rules.pits, .int .i64 X5GX.rules.seeds, .bool X5GX.rules.stores, .bool X5GX.rules.skip, .bool X5GX.rules.relay, .bool X5GX.rules.feed, .bool X5GX.rules.again, .int .i64 X5GX.rules.capture, .int .i64 X5GX.rules.slam, .slice A8 X5GX.start.pits.length c8, .slice A9 X5GX.start.stores.length c9, .int .i64 X5GX.start.player, .slice A10 X5GX.moves.length c10, .slice A11 X5GX.now.pits.length c11, .slice A12 X5GX.now.stores.length c12, .int .i64 X5GX.now.player, .int .i64 X5GX.resigned] 30), some (boxO b2 [.int .i64 X5GX.rules.pits, .int .i64 X5GX.rules.seeds, .bool X5GX.rules.stores, .bool X5GX.rules.skip, .bool X5GX.rules.relay, .bool X5GX.rules.feed, .bool X5GX.rules.again, .int .i64 X5GX.rules.capture, .int .i64 X5GX.rules.slam, .slice A5r_9 X5GX.start.pits.length c5r_9, .slice A5r_10 X5GX.start.stores.length c5r_10, .int .i64 X5GX.start.player, .slice A5r_12 X5GX.moves.length c5r_12, .slice A5r_13 X5GX.now.pits.length c5r_13, .slice A5r_14 X5GX.now.stores.length c5r_14, .int .i64 X5GX.now.player, .int .i64 X5GX.resigned] 30)]) ?_ ?_
 ·
  refine zdr [2, 3] ?_
  refine JH.q 0 rfl (L9 8 rfl rfl) ?_
  refine y2 1 2 ?_ ?_
  ·
   refine JHo.q rfl (L9 2 rfl rfl) ?_
   refine y1 2 ?_
   refine yst rfl rfl rfl ?_
   refine y1 3 ?_
   refine yst rfl rfl rfl ?_
   refine yd ?_
   exact zm ⟨rfl, rfl⟩ (Up.refl _ _)
  refine yst rfl rfl rfl ?_
  refine y1 1 ?_
  refine JHo.q rfl (L9 2 rfl rfl) ?_
  refine y1 3 ?_
  refine yst rfl rfl rfl ?_
  refine yd ?_
  exact zm ⟨rfl, rfl⟩ (Up.refl _ _)
 rintro _ _ u33 ⟨rfl, rfl⟩ x33
 refine zn ?_
 exact zro x33 (g := by exact (gv_tup (gvc (gv_ex X5GX (by first | trivial | assumption | omega | (refine ⟨?_, ?_, ?_, ?_, ?_⟩ <;> dsimp only <;> first | assumption | omega | (simp only [List.length_append, List.length_cons, List.length_nil, List.length_set]; omega))) gv_) (gvc (gv_ex X5GX (by first | trivial | assumption | omega | (refine ⟨?_, ?_, ?_, ?_, ?_⟩ <;> dsimp only <;> first | assumption | omega | (simp only [List.length_append, List.length_cons, List.length_nil, List.length_set]; omega))) gv_) gvn))))

end Go.Proofs.YtejnmechnhgmfaaGreat

namespace Go.Proofs.YtejnmechnhgmfaaGreat
open Go.RowKit

set_option maxHeartbeats 1000000 in
theorem c_spec_SameGame (a : M.Gam) {v_a : Value} (b : M.Gam) {v_b : Value} {w : World} (h_a : (Ty.agg (cGame a)).ok w v_a) (h_b : (Ty.agg (cGame b)).ok w v_b) (r0 : a.start.pits.length ≤ 4194304 := by exact om_) (r1 : a.start.stores.length ≤ 4194304 := by exact om_) (r2 : a.moves.length ≤ 4194304 := by exact om_) (r3 : a.now.pits.length ≤ 4194304 := by exact om_) (r4 : a.now.stores.length ≤ 4194304 := by exact om_) (r5 : b.start.pits.length ≤ 4194304 := by exact om_) (r6 : b.start.stores.length ≤ 4194304 := by exact om_) (r7 : b.moves.length ≤ 4194304 := by exact om_) (r8 : b.now.pits.length ≤ 4194304 := by exact om_) (r9 : b.now.stores.length ≤ 4194304 := by exact om_) : RetV Tryz.prog 21 [v_a, v_b] w (.bool (M.sameG a b)) := by
 revert v_a; apply opn
 intro A1 c1 h1 bl1 bh1 A2 c2 h2 bl2 bh2 A3 c3 h3 bl3 bh3 A4 c4 h4 bl4 bh4 A5 c5 h5 bl5 bh5
 revert v_b; apply opn
 intro A6 c6 h6 bl6 bh6 A7 c7 h7 bl7 bh7 A8 c8 h8 bl8 bh8 A9 c9 h9 bl9 bh9 A10 c10 h10 bl10 bh10
 refine enter @Tryz.func21 @Tryz.ntmps21 rfl rfl ?_
 refine zent ?_
 refine zS <| zb rfl fun b11 => zb rfl fun b12 => Qa rfl <| zN <| Qf fh rfl <| Q9 1 rfl rfl ?_
 refine Qf fh rfl <| Q9 0 rfl rfl ?_
 refine Qq (p_eqlS (by kernel_rfl) (fun w => eqs_Rules a.rules b.rules w) rfl rfl) <| Qm rfl <| zg (Gd.t1 rfl rfl rfl) (fun hc => p_fieldAddr fld_30_1.h rfl) <| zg (Gd.t1 rfl rfl rfl) (fun hc => p_fieldAddr fld_30_1.h rfl) <| zgv (Gd.t1 rfl rfl rfl) (fun hc => (opds_2 (gh hc rfl) (gh hc rfl))) (fun hc => (fun w hw => c_spec_l04Same a.start b.start ⟨_, _, [.slice A1 a.start.pits.length c1, .slice A2 a.start.stores.length c2, .int .i64 a.start.player], rfl, ⟨(ok_ hw), (ok_ hw), rfl, trivial⟩, Mem.boxR (i := 1) rfl 9 3 _ hw⟩ ⟨_, _, [.slice A6 b.start.pits.length c6, .slice A7 b.start.stores.length c7, .int .i64 b.start.player], rfl, ⟨(ok_ hw), (ok_ hw), rfl, trivial⟩, Mem.boxR (i := 0) rfl 9 3 _ hw⟩ (r0 := (by have hc9 := hc; (try simp only [decide_eq_true_eq] at hc9); omega)) (r1 := (by have hc9 := hc; (try simp only [decide_eq_true_eq] at hc9); omega)) (r2 := (by have hc9 := hc; (try simp only [decide_eq_true_eq] at hc9); omega)) (r3 := (by have hc9 := hc; (try simp only [decide_eq_true_eq] at hc9); omega)))) ?_
 refine Qq (p_pickAnd rfl rfl rfl) <| Qm rfl <| zg (Gd.t1 rfl rfl rfl) (fun hc => p_fieldAddr fld_30_2.h rfl) <| zgq (Gd.t1 rfl rfl rfl) (fun hc => q_load1 ty_26.h (gh hc rfl) (Mem.box (i := 1) rfl rfl)) <| zg (Gd.t1 rfl rfl rfl) (fun hc => p_fieldAddr fld_30_2.h rfl) <| zgq (Gd.t1 rfl rfl rfl) (fun hc => q_load1 ty_26.h (gh hc rfl) (Mem.box (i := 0) rfl rfl)) <| zgv (Gd.t1 rfl rfl rfl) (fun hc => (opds_2 (gh hc rfl) (gh hc rfl))) (fun hc => (fun w hw => c_spec_l00Same a.moves b.moves (ok_ hw) (ok_ hw) (r0 := (by have hc9 := hc; (try simp only [Bool.and_eq_true, decide_eq_true_eq] at hc9); omega)) (r1 := (by have hc9 := hc; (try simp only [Bool.and_eq_true, decide_eq_true_eq] at hc9); omega)))) ?_
 refine Qq (p_pickAnd rfl rfl rfl) <| Qm rfl <| zg (Gd.t1 rfl rfl rfl) (fun hc => p_fieldAddr fld_30_3.h rfl) <| zg (Gd.t1 rfl rfl rfl) (fun hc => p_fieldAddr fld_30_3.h rfl) <| zgv (Gd.t1 rfl rfl rfl) (fun hc => (opds_2 (gh hc rfl) (gh hc rfl))) (fun hc => (fun w hw => c_spec_l04Same a.now b.now ⟨_, _, [.slice A4 a.now.pits.length c4, .slice A5 a.now.stores.length c5, .int .i64 a.now.player], rfl, ⟨(ok_ hw), (ok_ hw), rfl, trivial⟩, Mem.boxR (i := 1) rfl 13 3 _ hw⟩ ⟨_, _, [.slice A9 b.now.pits.length c9, .slice A10 b.now.stores.length c10, .int .i64 b.now.player], rfl, ⟨(ok_ hw), (ok_ hw), rfl, trivial⟩, Mem.boxR (i := 0) rfl 13 3 _ hw⟩ (r0 := (by have hc9 := hc; (try simp only [Bool.and_eq_true, decide_eq_true_eq] at hc9); omega)) (r1 := (by have hc9 := hc; (try simp only [Bool.and_eq_true, decide_eq_true_eq] at hc9); omega)) (r2 := (by have hc9 := hc; (try simp only [Bool.and_eq_true, decide_eq_true_eq] at hc9); omega)) (r3 := (by have hc9 := hc; (try simp only [Bool.and_eq_true, decide_eq_true_eq] at hc9); omega)))) ?_
 refine Qq (p_pickAnd rfl rfl rfl) <| Qm rfl <| zg (Gd.t1 rfl rfl rfl) (fun hc => p_fieldAddr fld_30_4.h rfl) <| zgq (Gd.t1 rfl rfl rfl) (fun hc => q_load1 ty_2.h (gh hc rfl) (Mem.box (i := 1) rfl rfl)) <| zg (Gd.t1 rfl rfl rfl) (fun hc => p_fieldAddr fld_30_4.h rfl) <| zgq (Gd.t1 rfl rfl rfl) (fun hc => q_load1 ty_2.h (gh hc rfl) (Mem.box (i := 0) rfl rfl)) <| zg (Gd.t1 rfl rfl rfl) (fun hc => p_eql (gh hc rfl) (gh hc rfl)) <| Qq (p_pickAnd rfl rfl rfl) <| Qa rfl <| JL.nil ?_
 refine zR (Up.refl _ _) ?_
 simp [outV, M.sameG_eq, Bool.and_assoc]

set_option maxHeartbeats 1000000 in
theorem c_laws_f6big (code : Nat) {v_code : Value} {w : World} (h_code : (Ty.bytes 5 code).ok w v_code) : RetV Tryz.prog 6 [v_code] w (.bool (decide (4096 < (code : Int)))) := by
 revert v_code; apply opn
 intro A1 c1 h1 bl1 bh1
 have h_code := h1
 refine enter @Tryz.func6 @Tryz.ntmps6 rfl rfl ?_
 refine zent ?_
 refine zS <| Qa rfl <| zN <| Qm rfl <| Qz rfl <| Qg rfl rfl <| Qa rfl <| JL.nil ?_
 exact zr (Up.refl _ _)

set_option maxHeartbeats 1000000 in
theorem c_spec_SamePosition (a : M.Pos) {v_a : Value} (b : M.Pos) {v_b : Value} {w : World} (h_a : (Ty.agg (cPosition a)).ok w v_a) (h_b : (Ty.agg (cPosition b)).ok w v_b) (r0 : a.pits.length ≤ 4194304 := by exact om_) (r1 : a.stores.length ≤ 4194304 := by exact om_) (r2 : b.pits.length ≤ 4194304 := by exact om_) (r3 : b.stores.length ≤ 4194304 := by exact om_) : RetV Tryz.prog 17 [v_a, v_b] w (.bool (M.sameP a b)) := by
 revert v_a; apply opn
 intro A1 c1 h1 bl1 bh1 A2 c2 h2 bl2 bh2
 revert v_b; apply opn
 intro A3 c3 h3 bl3 bh3 A4 c4 h4 bl4 bh4
 refine enter @Tryz.func17 @Tryz.ntmps17 rfl rfl ?_
 refine zent ?_
 refine zS <| zb rfl fun b5 => zb rfl fun b6 => Qa rfl <| zN <| zv rfl (fun w hw => c_spec_l04Same a b (ok_ hw) (ok_ hw)) <| Qa rfl <| JL.nil ?_
 exact zr (Up.refl _ _)

end Go.Proofs.YtejnmechnhgmfaaGreat


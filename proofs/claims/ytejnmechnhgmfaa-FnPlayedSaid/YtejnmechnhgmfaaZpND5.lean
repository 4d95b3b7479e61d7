/- Walks: D5. -/
import Derived.Test.YtejnmechnhgmfaaZpTn
import Derived.Test.YtejnmechnhgmfaaZpND3
import Derived.Test.YtejnmechnhgmfaaZpND4
import Derived.Test.YtejnmechnhgmfaaZpF13
set_option linter.unusedSimpArgs false
set_option linter.unusedVariables false
set_option maxRecDepth 100000
attribute [local irreducible] Go.Proofs.Ytejnmechnhgmfaa.gv
namespace Go.Proofs.Ytejnmechnhgmfaa
open Go.RowKit

set_option maxHeartbeats 4000000 in
theorem c_spec_l08Bent (s_code : Nat) (s_at s_seed : Int) {As_0 : Option Addr} {cs_0 bs : Nat} {w : World} (hb : Bw w [boxO bs [.slice As_0 s_code cs_0, .int .i64 s_at, .int .u64 s_seed] 118]) (hps_0 : (Ty.bytes 5 s_code).ok (offW w (([boxO bs [.slice As_0 s_code cs_0, .int .i64 s_at, .int .u64 s_seed] 118] : List Own).flatMap (·.fp))) (.slice As_0 s_code cs_0)) (r0 : 0 ≤ s_at := by exact om_) (r1 : s_at ≤ 999998000 := by exact om_) (r2 : s_code ≤ 1048576 := by exact om_) : RetB Try.prog 93 [.pointer (some ⟨bs, 0, none⟩)] w [boxO bs [.slice As_0 s_code cs_0, .int .i64 s_at, .int .u64 s_seed] 118] (fun v bs' => ∃ (GX : M.Gam) (AT SD : Int) (Axr_9 : Option Addr) (cxr_9 : Nat) (gxr_9 : List Nat) (Axr_10 : Option Addr) (cxr_10 : Nat) (gxr_10 : List Nat) (Axr_12 : Option Addr) (cxr_12 : Nat) (gxr_12 : List Nat) (Axr_13 : Option Addr) (cxr_13 : Nat) (gxr_13 : List Nat) (Axr_14 : Option Addr) (cxr_14 : Nat) (gxr_14 : List Nat), v = .agg #[.int .i64 GX.rules.pits, .int .i64 GX.rules.seeds, .bool GX.rules.stores, .bool GX.rules.skip, .bool GX.rules.relay, .bool GX.rules.feed, .bool GX.rules.again, .int .i64 GX.rules.capture, .int .i64 GX.rules.slam, .slice Axr_9 GX.start.pits.length cxr_9, .slice Axr_10 GX.start.stores.length cxr_10, .int .i64 GX.start.player, .slice Axr_12 GX.moves.length cxr_12, .slice Axr_13 GX.now.pits.length cxr_13, .slice Axr_14 GX.now.stores.length cxr_14, .int .i64 GX.now.player, .int .i64 GX.resigned] ∧ bs' = [boxO bs [.slice As_0 s_code cs_0, .int .i64 AT, .int .u64 SD] 118, rowO 2 1 (.slice Axr_9 GX.start.pits.length cxr_9) GX.start.pits.length (ints_ GX.start.pits) gxr_9, rowO 2 1 (.slice Axr_10 GX.start.stores.length cxr_10) GX.start.stores.length (ints_ GX.start.stores) gxr_10, rowO 2 1 (.slice Axr_12 GX.moves.length cxr_12) GX.moves.length (ints_ GX.moves) gxr_12, rowO 2 1 (.slice Axr_13 GX.now.pits.length cxr_13) GX.now.pits.length (ints_ GX.now.pits) gxr_13, rowO 2 1 (.slice Axr_14 GX.now.stores.length cxr_14) GX.now.stores.length (ints_ GX.now.stores) gxr_14] ∧ GX.start.pits.length ≤ cxr_9 ∧ cxr_9 ≤ 9223372036854775807 ∧ GX.start.stores.length ≤ cxr_10 ∧ cxr_10 ≤ 9223372036854775807 ∧ GX.moves.length ≤ cxr_12 ∧ cxr_12 ≤ 9223372036854775807 ∧ GX.now.pits.length ≤ cxr_13 ∧ cxr_13 ≤ 9223372036854775807 ∧ GX.now.stores.length ≤ cxr_14 ∧ cxr_14 ≤ 9223372036854775807 ∧ (GX.start.pits.length ≤ 4194304 ∧ GX.start.stores.length ≤ 4194304 ∧ GX.moves.length ≤ 122 ∧ GX.now.pits.length ≤ 4194304 ∧ GX.now.stores.length = 2) ∧ (s_at ≤ AT) ∧ (AT ≤ s_at + 2000)) := by
 refine enterB hb @Try.func93 @Try.ntmps93 rfl rfl ?_
 refine zent ?_
 refine Js.trashE ?_
 refine zn ?_
 refine zS <| za zeh fun b1 => zN <| Qm rfl ?_
 refine zhl [1] ?_
 refine zBB 1 sp_ rfl (fun w hb _ hw => c_spec_l08Draw s_code s_at s_seed 12 hb (ok_ hw)) ?_
 rintro _ _ G2 ⟨X2GX, X2AT, X2SD, A2r_9, c2r_9, g2r_9, A2r_10, c2r_10, g2r_10, A2r_12, c2r_12, g2r_12, A2r_13, c2r_13, g2r_13, A2r_14, c2r_14, g2r_14, rfl, rfl, bl2_0, bl2_1, bl2_2, bl2_3, bl2_4, bl2_5, bl2_6, bl2_7, bl2_8, bl2_9, hX2_0, hX2_1, hX2_2⟩
 refine znl ?_
 refine za zeh fun b3 => zw 0 rfl rfl rfl ?_
 refine JL.nil ?_
 refine zf [0, 0, 0, 0, 0, 0, 0, 1] fun GG4 => ?_
 refine zn ?_
 refine Js.seq <| zS <| Qm rfl ?_
 refine zhl [1] ?_
 refine zBB 1 sp_ rfl (fun w hb _ hw => c_spec_l00Src_one s_code X2AT X2SD 16 hb (ok_ hw)) ?_
 rintro _ _ G5 ⟨X5BX, X5AT, X5SD, rfl, rfl, hX5_0, hX5_1⟩
 refine znl ?_
 refine JL.nil ?_
 refine zf [0, 1, 1, 1, 1, 1, 1, 1] fun GG6 => ?_
 refine zn ?_
 refine zk [0, 2, 3] (fun F U l os u => ∃ (gk : M.Gam) (at1 sd1 : Int) (A7_3_9 : Option Addr) (c7_3_9 : Nat) (g7_3_9 : List Nat) (A7_3_10 : Option Addr) (c7_3_10 : Nat) (g7_3_10 : List Nat) (A7_3_12 : Option Addr) (c7_3_12 : Nat) (g7_3_12 : List Nat) (A7_3_13 : Option Addr) (c7_3_13 : Nat) (g7_3_13 : List Nat) (A7_3_14 : Option Addr) (c7_3_14 : Nat) (g7_3_14 : List Nat) (G7_8 : List Nat), l = F [] ∧ os = U [some (boxO bs [.slice As_0 s_code cs_0, .int .i64 at1, .int .u64 sd1] 118), some (boxO b3 [.int .i64 gk.rules.pits, .int .i64 gk.rules.seeds, .bool gk.rules.stores, .bool gk.rules.skip, .bool gk.rules.relay, .bool gk.rules.feed, .bool gk.rules.again, .int .i64 gk.rules.capture, .int .i64 gk.rules.slam, .slice A7_3_9 gk.start.pits.length c7_3_9, .slice A7_3_10 gk.start.stores.length c7_3_10, .int .i64 gk.start.player, .slice A7_3_12 gk.moves.length c7_3_12, .slice A7_3_13 gk.now.pits.length c7_3_13, .slice A7_3_14 gk.now.stores.length c7_3_14, .int .i64 gk.now.player, .int .i64 gk.resigned] 35), some (rowO 2 1 (.slice A7_3_9 gk.start.pits.length c7_3_9) gk.start.pits.length (ints_ gk.start.pits) g7_3_9), some (rowO 2 1 (.slice A7_3_10 gk.start.stores.length c7_3_10) gk.start.stores.length (ints_ gk.start.stores) g7_3_10), some (rowO 2 1 (.slice A7_3_12 gk.moves.length c7_3_12) gk.moves.length (ints_ gk.moves) g7_3_12), some (rowO 2 1 (.slice A7_3_13 gk.now.pits.length c7_3_13) gk.now.pits.length (ints_ gk.now.pits) g7_3_13), some (rowO 2 1 (.slice A7_3_14 gk.now.stores.length c7_3_14) gk.now.stores.length (ints_ gk.now.stores) g7_3_14), nO, some (anyO G7_8)] ∧ (M.Small gk) ∧ (gk.moves.length ≤ 121) ∧ (gk.now.stores.length = 2) ∧ (s_at ≤ at1) ∧ (at1 ≤ s_at + 1010) ∧ (gk.start.pits.length ≤ c7_3_9) ∧ (c7_3_9 ≤ 9223372036854775807) ∧ (gk.start.stores.length ≤ c7_3_10) ∧ (c7_3_10 ≤ 9223372036854775807) ∧ (gk.moves.length ≤ c7_3_12) ∧ (c7_3_12 ≤ 9223372036854775807) ∧ (gk.now.pits.length ≤ c7_3_13) ∧ (c7_3_13 ≤ 9223372036854775807) ∧ (gk.now.stores.length ≤ c7_3_14) ∧ (c7_3_14 ≤ 9223372036854775807)) ?_ ?_
 ·
  refine zi (fun h8 h8' => ?_) fun h8 h8' => ?_
  ·
   refine Js.region <| Qm rfl <| zbs fun b9 => ?_
   refine zhl [1] ?_
   refine zBB 1 sp_ rfl (fun w hb _ hw => c_spec_l00Src_among s_code X5AT X5SD [4, 8, 12, 119, 120] hb (ok_ hw) (ints_rowok (xs := [4, 8, 12, 119, 120]) (hw.pr (i := 0) rfl)) (r3 := (by simp)) (r4 := (by simp))) ?_
   rintro _ _ G11 ⟨X11KX, X11AT, X11SD, rfl, rfl, hX11_0, hX11_1, hX11_2⟩
   refine znl ?_
   refine zc rfl (fun w hw => c_spec_l08Cycle X11KX (r0 := (by have h9 := (by assumption : _ ∈ ([4, 8, 12, 119, 120] : List Int)); simp at h9; omega)) (r1 := (by have h9 := (by assumption : _ ∈ ([4, 8, 12, 119, 120] : List Int)); simp at h9; omega))) ?_
   intro X12 hX12 A14 c14 bl14 bh14 A15 c15 bl15 bh15 A16 c16 bl16 bh16 A17 c17 bl17 bh17 A18 c18 bl18 bh18
   refine zw 8 rfl rfl rfl ?_
   refine JL.nil ?_
   refine zf [0, 0, 0, 0, 0, 0, 2, 7] fun GG19 => ?_
   refine zn ?_
   refine zf [5, 5, 4, 3, 2, 1, 0, 0] fun GG20 => ?_
   refine zn ?_
   exact zm ⟨(X12), (X11AT), (X11SD), _, _, _, _, _, _, _, _, _, _, _, _, _, _, _, _, rfl, rfl, by exact And.left (b := _ ∧ _) (by assumption), by first | assumption | omega | rfl | (dsimp only; omega), by first | assumption | omega | rfl | (dsimp only; omega), by first | assumption | omega | rfl | (dsimp only; omega), by first | assumption | omega | rfl | (dsimp only; omega), by first | assumption | omega | rfl | (dsimp only; omega), by first | assumption | omega | rfl | (dsimp only; omega), by first | assumption | omega | rfl | (dsimp only; omega), by first | assumption | omega | rfl | (dsimp only; omega), by first | assumption | omega | rfl | (dsimp only; omega), by first | assumption | omega | rfl | (dsimp only; omega), by first | assumption | omega | rfl | (dsimp only; omega), by first | assumption | omega | rfl | (dsimp only; omega), by first | assumption | omega | rfl | (dsimp only; omega), by first | assumption | omega | rfl | (dsimp only; omega)⟩ (Up.refl _ _)
  refine Js.skip ?_
  exact zm ⟨(X2GX), (X5AT), (X5SD), _, _, _, _, _, _, _, _, _, _, _, _, _, _, _, _, rfl, rfl, by exact And.left (b := _ ∧ _) (by assumption), by first | assumption | omega | rfl | (dsimp only; omega), by first | assumption | omega | rfl | (dsimp only; omega), by first | assumption | omega | rfl | (dsimp only; omega), by first | assumption | omega | rfl | (dsimp only; omega), by first | assumption | omega | rfl | (dsimp only; omega), by first | assumption | omega | rfl | (dsimp only; omega), by first | assumption | omega | rfl | (dsimp only; omega), by first | assumption | omega | rfl | (dsimp only; omega), by first | assumption | omega | rfl | (dsimp only; omega), by first | assumption | omega | rfl | (dsimp only; omega), by first | assumption | omega | rfl | (dsimp only; omega), by first | assumption | omega | rfl | (dsimp only; omega), by first | assumption | omega | rfl | (dsimp only; omega), by first | assumption | omega | rfl | (dsimp only; omega)⟩ (Up.refl _ _)
 rintro _ _ u7 ⟨gk, at1, sd1, A7_3_9, c7_3_9, g7_3_9, A7_3_10, c7_3_10, g7_3_10, A7_3_12, c7_3_12, g7_3_12, A7_3_13, c7_3_13, g7_3_13, A7_3_14, c7_3_14, g7_3_14, G7_8, rfl, rfl, hs, hm, hst, ha0, ha1, f7_5, f7_6, f7_7, f7_8, f7_9, f7_10, f7_11, f7_12, f7_13, f7_14⟩ x7
 refine zn ?_
 have s1 := hs.sp
 have s2 := hs.ss
 have s3 := hs.m
 have s4 := hs.np
 have s5 := hs.ns
 refine Js.seq <| zS <| Qm rfl <| zBB 1 sp_ rfl (fun w hb _ hw => c_spec_l00Src_pick s_code at1 sd1 30 hb (ok_ hw)) ?_
 rintro _ _ G21 ⟨X21KX, X21AT, X21SD, rfl, rfl, hX21_0, hX21_1, hX21_2, hX21_3⟩
 refine znl ?_
 refine JL.nil ?_
 refine zf [0, 1, 1, 1, 1, 1, 1, 1] fun GG22 => ?_
 refine zn ?_
 refine Js.block <| zS <| Qe rfl rfl <| Qa rfl <| JL.nil ?_
 refine zi (fun h23 h23' => ?_) fun h23 h23' => ?_
 ·
  refine Js.region <| Qm rfl <| zbs fun b24 => ?_
  refine zhl [1] ?_
  refine zBB 1 sp_ rfl (fun w hb _ hw => c_spec_l00Src_among s_code X21AT X21SD [(-2), 2, 0, 1] hb (ok_ hw) (ints_rowok (xs := [(-2), 2, 0, 1]) (hw.pr (i := 0) rfl)) (r3 := (by simp)) (r4 := (by simp))) ?_
  rintro _ _ G26 ⟨X26KX, X26AT, X26SD, rfl, rfl, hX26_0, hX26_1, hX26_2⟩
  refine znl ?_
  refine Qf fh rfl <| zw 3 rfl rfl rfl ?_
  refine JL.nil ?_
  refine zf [0, 2, 2, 2, 2, 2, 2, 2] fun GG27 => ?_
  refine zn ?_
  refine Js.blockEnd <| zS <| Q9 1 rfl rfl ?_
  refine zw 7 rfl rfl rfl ?_
  refine JL.nil ?_
  refine zf [0, 1, 1, 1, 1, 1, 1] fun GG28 => ?_
  refine zn ?_
  refine zrb [0, 0, 0, 0, 0, 0] hb x7 ?_
  refine ⟨((M.Gam.mk gk.rules gk.start gk.moves gk.now X26KX)), (X26AT), (X26SD), A7_3_9, c7_3_9, g7_3_9, A7_3_10, c7_3_10, g7_3_10, A7_3_12, c7_3_12, g7_3_12, A7_3_13, c7_3_13, g7_3_13, A7_3_14, c7_3_14, g7_3_14, rfl, ?_, ?_, ?_, ?_, ?_, ?_, ?_, ?_, ?_, ?_, ?_, by first | trivial | exact ⟨hs.sp, hs.ss, by omega, hs.np, hst⟩ | omega | (refine ⟨?_, ?_, ?_, ?_, ?_⟩ <;> dsimp only <;> first | assumption | omega | (simp only [List.length_append, List.length_cons, List.length_nil, List.length_set]; omega)), by first | trivial | exact ⟨hs.sp, hs.ss, by omega, hs.np, hst⟩ | omega | (refine ⟨?_, ?_, ?_, ?_, ?_⟩ <;> dsimp only <;> first | assumption | omega | (simp only [List.length_append, List.length_cons, List.length_nil, List.length_set]; omega)), by first | trivial | exact ⟨hs.sp, hs.ss, by omega, hs.np, hst⟩ | omega | (refine ⟨?_, ?_, ?_, ?_, ?_⟩ <;> dsimp only <;> first | assumption | omega | (simp only [List.length_append, List.length_cons, List.length_nil, List.length_set]; omega))⟩
  · rfl
  all_goals (try dsimp only)
  all_goals (first | (omega) | omega | (simp only [*]; omega))
 refine zS <| Qe rfl rfl <| Qa rfl <| JL.nil ?_
 refine zi (fun h29 h29' => ?_) fun h29 h29' => ?_
 ·
  refine zk [2, 3] (fun F U l os u => ∃ (b31 : Nat) (X30KX : Int) (G30 : List Nat) (X30AT X30SD : Int) (A35 : Option Addr) (c35 : Nat) (g34 : List Nat), l = F [] ∧ os = [rowO 2 1 (.slice (some ⟨b31, 0, none⟩) 1 1) 1 [.int .i64 X30KX] [], anyO G30] ++ U [some (boxO bs [.slice As_0 s_code cs_0, .int .i64 X30AT, .int .u64 X30SD] 118), some (boxO b3 [.int .i64 gk.rules.pits, .int .i64 gk.rules.seeds, .bool gk.rules.stores, .bool gk.rules.skip, .bool gk.rules.relay, .bool gk.rules.feed, .bool gk.rules.again, .int .i64 gk.rules.capture, .int .i64 gk.rules.slam, .slice A7_3_9 gk.start.pits.length c7_3_9, .slice A7_3_10 gk.start.stores.length c7_3_10, .int .i64 gk.start.player, .slice A35 ((gk.moves ++ [X30KX]).length) c35, .slice A7_3_13 gk.now.pits.length c7_3_13, .slice A7_3_14 gk.now.stores.length c7_3_14, .int .i64 gk.now.player, .int .i64 gk.resigned] 35), nO, nO, some (rowO 2 1 (.slice A35 ((gk.moves ++ [X30KX]).length) c35) ((gk.moves ++ [X30KX]).length) (ints_ (gk.moves ++ [X30KX])) g34)] ∧ ((gk.moves ++ [X30KX]).length ≤ c35) ∧ (c35 ≤ 9223372036854775807) ∧ (0 ≤ X30KX) ∧ (X30KX = 0 ∨ X30KX < 4) ∧ (X21AT ≤ X30AT) ∧ (X30AT ≤ X21AT + 2)) ?_ ?_
  ·
   refine zdr [3, 5, 7] ?_
   refine JH.p 0 rfl (p_fieldAddr fld_35_2.h rfl) ?_
   refine JH.p 2 rfl (p_move rfl) ?_
   refine y2 1 3 ?_ ?_
   ·
    refine JHo.q rfl (q_load1 ty_24.h rfl (Mem.box (i := 1) rfl rfl)) ?_
    refine y1 3 ?_
    refine yBB 1 sp_ rfl rfl (fun w hb _ hw => c_spec_l00Src_pick s_code X21AT X21SD 4 hb (ok_ hw)) ?_
    rintro _ _ G48 ⟨X48KX, X48AT, X48SD, rfl, rfl, hX48_0, hX48_1, hX48_2, hX48_3⟩
    refine znh ?_
    refine y1 4 ?_
    refine ybs rfl fun b49 => ?_
    refine y1 5 ?_
    refine JHo.e rfl (e_append (i := 6) (n' := (gk.moves ++ [X48KX]).length) (vs' := ints_ (gk.moves ++ [X48KX])) el_24 rfl rfl rfl rfl (src_row (i := 0) und_24 rfl rfl) (by omega) (by omega) (by first | omega | (simp only [List.length_append, List.length_cons, List.length_nil] <;> omega)) (by simp [ints_])) (.inr rfl) ?_
    rintro v51 _ _ ⟨⟨g52, rfl⟩, rfl⟩ _
    refine JH.fact (row_form' (i := 6) rfl) (fun hf53 => ?_)
    obtain ⟨A53, c53, rfl, bl53, bh53⟩ := hf53
    refine znh ?_
    refine JH.p 6 rfl (p_fieldAddr fld_35_2.h rfl) ?_
    refine y1 7 ?_
    refine yst rfl rfl rfl ?_
    refine yd ?_
    refine zh [0, 1, 0, 0, 0, 0, 0, 0, 0, 0, 0] ?_
    exact zm ⟨_, _, _, _, _, _, _, _, rfl, rfl, zt, zt, zt, zt, zt, zt⟩ (Up.refl _ _)
   refine yBB 1 sp_ rfl rfl (fun w hb _ hw => c_spec_l00Src_pick s_code X21AT X21SD 4 hb (ok_ hw)) ?_
   rintro _ _ G54 ⟨X54KX, X54AT, X54SD, rfl, rfl, hX54_0, hX54_1, hX54_2, hX54_3⟩
   refine znh ?_
   refine y2 1 4 ?_ ?_
   ·
    refine JHo.q rfl (q_load1 ty_24.h rfl (Mem.box (i := 2) rfl rfl)) ?_
    refine y1 4 ?_
    refine ybs rfl fun b55 => ?_
    refine y1 5 ?_
    refine JHo.e rfl (e_append (i := 6) (n' := (gk.moves ++ [X54KX]).length) (vs' := ints_ (gk.moves ++ [X54KX])) el_24 rfl rfl rfl rfl (src_row (i := 0) und_24 rfl rfl) (by omega) (by omega) (by first | omega | (simp only [List.length_append, List.length_cons, List.length_nil] <;> omega)) (by simp [ints_])) (.inr rfl) ?_
    rintro v57 _ _ ⟨⟨g58, rfl⟩, rfl⟩ _
    refine JH.fact (row_form' (i := 6) rfl) (fun hf59 => ?_)
    obtain ⟨A59, c59, rfl, bl59, bh59⟩ := hf59
    refine znh ?_
    refine JH.p 6 rfl (p_fieldAddr fld_35_2.h rfl) ?_
    refine y1 7 ?_
    refine yst rfl rfl rfl ?_
    refine yd ?_
    refine zh [0, 1, 0, 0, 0, 0, 0, 0, 0, 0, 0] ?_
    exact zm ⟨_, _, _, _, _, _, _, _, rfl, rfl, zt, zt, zt, zt, zt, zt⟩ (Up.refl _ _)
   refine ybs rfl fun b60 => ?_
   refine y1 1 ?_
   refine JHo.q rfl (q_load1 ty_24.h rfl (Mem.box (i := 3) rfl rfl)) ?_
   refine y1 5 ?_
   refine JHo.e rfl (e_append (i := 6) (n' := (gk.moves ++ [X54KX]).length) (vs' := ints_ (gk.moves ++ [X54KX])) el_24 rfl rfl rfl rfl (src_row (i := 0) und_24 rfl rfl) (by omega) (by omega) (by first | omega | (simp only [List.length_append, List.length_cons, List.length_nil] <;> omega)) (by simp [ints_])) (.inr rfl) ?_
   rintro v62 _ _ ⟨⟨g63, rfl⟩, rfl⟩ _
   refine JH.fact (row_form' (i := 6) rfl) (fun hf64 => ?_)
   obtain ⟨A64, c64, rfl, bl64, bh64⟩ := hf64
   refine znh ?_
   refine JH.p 6 rfl (p_fieldAddr fld_35_2.h rfl) ?_
   refine y1 7 ?_
   refine yst rfl rfl rfl ?_
   refine yd ?_
   refine zh [0, 1, 0, 0, 0, 0, 0, 0, 0, 0, 0] ?_
   exact zm ⟨_, _, _, _, _, _, _, _, rfl, rfl, zt, zt, zt, zt, zt, zt⟩ (Up.refl _ _)
  rintro _ _ u47 ⟨b31, X30KX, G30, X30AT, X30SD, A35, c35, g34, rfl, rfl, f47_0, f47_1, f47_2, f47_3, f47_4, f47_5⟩ x47
  refine zn ?_
  refine zf [2, 2, 2, 2, 2, 2, 2, 2] fun GG65 => ?_
  refine zn ?_
  refine Js.blockEnd <| zS <| Q9 1 rfl rfl ?_
  refine zw 7 rfl rfl rfl ?_
  refine JL.nil ?_
  refine zf [0, 1, 1, 1, 1, 1, 1] fun GG66 => ?_
  refine zn ?_
  refine zrb [0, 0, 0, 0, 0, 0] hb (x7.trans x47) ?_
  refine ⟨((M.Gam.mk gk.rules gk.start (gk.moves ++ [X30KX]) gk.now gk.resigned)), (X30AT), (X30SD), A7_3_9, c7_3_9, g7_3_9, A7_3_10, c7_3_10, g7_3_10, A35, c35, g34, A7_3_13, c7_3_13, g7_3_13, A7_3_14, c7_3_14, g7_3_14, rfl, ?_, ?_, ?_, ?_, ?_, ?_, ?_, ?_, ?_, ?_, ?_, by first | trivial | exact ⟨hs.sp, hs.ss, by omega, hs.np, hst⟩ | omega | (refine ⟨?_, ?_, ?_, ?_, ?_⟩ <;> dsimp only <;> first | assumption | omega | (simp only [List.length_append, List.length_cons, List.length_nil, List.length_set]; omega)), by first | trivial | exact ⟨hs.sp, hs.ss, by omega, hs.np, hst⟩ | omega | (refine ⟨?_, ?_, ?_, ?_, ?_⟩ <;> dsimp only <;> first | assumption | omega | (simp only [List.length_append, List.length_cons, List.length_nil, List.length_set]; omega)), by first | trivial | exact ⟨hs.sp, hs.ss, by omega, hs.np, hst⟩ | omega | (refine ⟨?_, ?_, ?_, ?_, ?_⟩ <;> dsimp only <;> first | assumption | omega | (simp only [List.length_append, List.length_cons, List.length_nil, List.length_set]; omega))⟩
  · rfl
  all_goals (try dsimp only)
  all_goals (first | (omega) | omega | (simp only [*]; omega))
 refine zS <| Qe rfl rfl <| Qa rfl <| JL.nil ?_
 refine zi (fun h67 h67' => ?_) fun h67 h67' => ?_
 ·
  refine Js.region <| Qf fh rfl <| Qf fh rfl <| Q0 1 rfl rfl rfl <| Qq (p_sub rfl rfl rfl) <| Qf fh rfl <| Qf fh rfl <| zw 1 rfl rfl rfl ?_
  refine JL.nil <| Js.blockEnd <| zS <| Q9 1 rfl rfl ?_
  refine zw 7 rfl rfl rfl ?_
  refine JL.nil ?_
  refine zf [0, 1, 1, 1, 1, 1, 1] fun GG68 => ?_
  refine zn ?_
  refine zrb [0, 0, 0, 0, 0, 0] hb x7 ?_
  refine ⟨((M.Gam.mk gk.rules gk.start gk.moves (M.Pos.mk gk.now.pits gk.now.stores (IntKind.i64.wrap (1 - gk.now.player))) gk.resigned)), (X21AT), (X21SD), A7_3_9, c7_3_9, g7_3_9, A7_3_10, c7_3_10, g7_3_10, A7_3_12, c7_3_12, g7_3_12, A7_3_13, c7_3_13, g7_3_13, A7_3_14, c7_3_14, g7_3_14, rfl, ?_, ?_, ?_, ?_, ?_, ?_, ?_, ?_, ?_, ?_, ?_, by first | trivial | exact ⟨hs.sp, hs.ss, by omega, hs.np, hst⟩ | omega | (refine ⟨?_, ?_, ?_, ?_, ?_⟩ <;> dsimp only <;> first | assumption | omega | (simp only [List.length_append, List.length_cons, List.length_nil, List.length_set]; omega)), by first | trivial | exact ⟨hs.sp, hs.ss, by omega, hs.np, hst⟩ | omega | (refine ⟨?_, ?_, ?_, ?_, ?_⟩ <;> dsimp only <;> first | assumption | omega | (simp only [List.length_append, List.length_cons, List.length_nil, List.length_set]; omega)), by first | trivial | exact ⟨hs.sp, hs.ss, by omega, hs.np, hst⟩ | omega | (refine ⟨?_, ?_, ?_, ?_, ?_⟩ <;> dsimp only <;> first | assumption | omega | (simp only [List.length_append, List.length_cons, List.length_nil, List.length_set]; omega))⟩
  · rfl
  all_goals (try dsimp only)
  all_goals (first | (omega) | omega | (simp only [*]; omega))
 refine zS <| Qe rfl rfl <| Qa rfl <| JL.nil ?_
 refine zi (fun h69 h69' => ?_) fun h69 h69' => ?_
 ·
  refine Js.region <| Qf fh rfl <| Qf fh rfl <| Q0 1 rfl rfl rfl ?_
  refine JL.fact (row_some (i := 6) rfl (by omega)) (fun hf71 => ?_)
  obtain ⟨b71, rfl⟩ := hf71
  refine Qq (p_indexAddr el_24 rfl rfl (by omega) (by omega) rfl) <| Qw (q_load1 ty_2.h rfl (Mem.row (i := 6) rfl (ints_get (i := 0) (by omega)))) <| Qq (p_add rfl rfl rfl) <| Qq (p_indexAddr el_24 rfl rfl (by omega) (by omega) rfl) ?_
  refine JL.s (e_storeRow (i := 6) (xs' := ints_ (gk.now.stores.set 0 (IntKind.i64.wrap ((M.nth gk.now.stores 0) + 1)))) ty_2.h rfl rfl rfl rfl rfl rfl (ints_lt (i := 0) (by omega)) (ints_setL (i := 0) (by omega))) ?_
  rintro _ _ _ ⟨rfl, rfl⟩ _
  refine znl ?_
  refine JL.nil <| Js.blockEnd <| zS <| Q9 1 rfl rfl ?_
  refine zw 7 rfl rfl rfl ?_
  refine JL.nil ?_
  refine zf [0, 1, 1, 1, 1, 1, 1] fun GG73 => ?_
  refine zn ?_
  refine zrb [0, 0, 0, 0, 0, 0] hb x7 ?_
  have hNr14 : (gk.now.stores.set 0 (IntKind.i64.wrap ((M.nth gk.now.stores 0) + 1))).length = gk.now.stores.length := by first | rfl | assumption | omega | (simp only [List.length_set, M.setI_length]; done) | (simp only [List.length_set, M.setI_length]; first | rfl | assumption | omega)
  refine ⟨((M.Gam.mk gk.rules gk.start gk.moves (M.Pos.mk gk.now.pits (gk.now.stores.set 0 (IntKind.i64.wrap ((M.nth gk.now.stores 0) + 1))) gk.now.player) gk.resigned)), (X21AT), (X21SD), A7_3_9, c7_3_9, g7_3_9, A7_3_10, c7_3_10, g7_3_10, A7_3_12, c7_3_12, g7_3_12, A7_3_13, c7_3_13, g7_3_13, (some ⟨b71, 0, none⟩), c7_3_14, g7_3_14, (show (.agg #[.int .i64 gk.rules.pits, .int .i64 gk.rules.seeds, .bool gk.rules.stores, .bool gk.rules.skip, .bool gk.rules.relay, .bool gk.rules.feed, .bool gk.rules.again, .int .i64 gk.rules.capture, .int .i64 gk.rules.slam, .slice A7_3_9 gk.start.pits.length c7_3_9, .slice A7_3_10 gk.start.stores.length c7_3_10, .int .i64 gk.start.player, .slice A7_3_12 gk.moves.length c7_3_12, .slice A7_3_13 gk.now.pits.length c7_3_13, .slice (some ⟨b71, 0, none⟩) gk.now.stores.length c7_3_14, .int .i64 gk.now.player, .int .i64 gk.resigned] : Value) = .agg #[.int .i64 gk.rules.pits, .int .i64 gk.rules.seeds, .bool gk.rules.stores, .bool gk.rules.skip, .bool gk.rules.relay, .bool gk.rules.feed, .bool gk.rules.again, .int .i64 gk.rules.capture, .int .i64 gk.rules.slam, .slice A7_3_9 gk.start.pits.length c7_3_9, .slice A7_3_10 gk.start.stores.length c7_3_10, .int .i64 gk.start.player, .slice A7_3_12 gk.moves.length c7_3_12, .slice A7_3_13 gk.now.pits.length c7_3_13, .slice (some ⟨b71, 0, none⟩) (gk.now.stores.set 0 (IntKind.i64.wrap ((M.nth gk.now.stores 0) + 1))).length c7_3_14, .int .i64 gk.now.player, .int .i64 gk.resigned] by rw [hNr14]), ?_, ?_, ?_, ?_, ?_, ?_, ?_, ?_, ?_, ?_, ?_, by first | trivial | exact ⟨hs.sp, hs.ss, by omega, hs.np, hst⟩ | omega | (refine ⟨?_, ?_, ?_, ?_, ?_⟩ <;> dsimp only <;> first | assumption | omega | (simp only [List.length_append, List.length_cons, List.length_nil, List.length_set]; omega)), by first | trivial | exact ⟨hs.sp, hs.ss, by omega, hs.np, hst⟩ | omega | (refine ⟨?_, ?_, ?_, ?_, ?_⟩ <;> dsimp only <;> first | assumption | omega | (simp only [List.length_append, List.length_cons, List.length_nil, List.length_set]; omega)), by first | trivial | exact ⟨hs.sp, hs.ss, by omega, hs.np, hst⟩ | omega | (refine ⟨?_, ?_, ?_, ?_, ?_⟩ <;> dsimp only <;> first | assumption | omega | (simp only [List.length_append, List.length_cons, List.length_nil, List.length_set]; omega))⟩
  · first | rfl | (dsimp only; rw [hNr14]) | (dsimp only; simp only [hNr14])
  all_goals (try dsimp only)
  all_goals (first | (rw [hNr14]; omega) | omega | (simp only [*]; omega))
 refine zS <| Qe rfl rfl <| Qa rfl <| JL.nil ?_
 refine zi (fun h74 h74' => ?_) fun h74 h74' => ?_
 ·
  refine Js.region <| Qm rfl <| zbs fun b75 => ?_
  refine zhl [1] ?_
  refine zBB 1 sp_ rfl (fun w hb _ hw => c_spec_l00Src_among s_code X21AT X21SD [1, 3, 9] hb (ok_ hw) (ints_rowok (xs := [1, 3, 9]) (hw.pr (i := 0) rfl)) (r3 := (by simp)) (r4 := (by simp))) ?_
  rintro _ _ G77 ⟨X77KX, X77AT, X77SD, rfl, rfl, hX77_0, hX77_1, hX77_2⟩
  refine znl ?_
  refine Qf fh rfl <| Qf fh rfl <| zw 3 rfl rfl rfl ?_
  refine JL.nil ?_
  refine zf [0, 2, 2, 2, 2, 2, 2, 2] fun GG78 => ?_
  refine zn ?_
  refine Js.blockEnd <| zS <| Q9 1 rfl rfl ?_
  refine zw 7 rfl rfl rfl ?_
  refine JL.nil ?_
  refine zf [0, 1, 1, 1, 1, 1, 1] fun GG79 => ?_
  refine zn ?_
  refine zrb [0, 0, 0, 0, 0, 0] hb x7 ?_
  refine ⟨((M.Gam.mk (M.Rul.mk X77KX gk.rules.seeds gk.rules.stores gk.rules.skip gk.rules.relay gk.rules.feed gk.rules.again gk.rules.capture gk.rules.slam) gk.start gk.moves gk.now gk.resigned)), (X77AT), (X77SD), A7_3_9, c7_3_9, g7_3_9, A7_3_10, c7_3_10, g7_3_10, A7_3_12, c7_3_12, g7_3_12, A7_3_13, c7_3_13, g7_3_13, A7_3_14, c7_3_14, g7_3_14, rfl, ?_, ?_, ?_, ?_, ?_, ?_, ?_, ?_, ?_, ?_, ?_, by first | trivial | exact ⟨hs.sp, hs.ss, by omega, hs.np, hst⟩ | omega | (refine ⟨?_, ?_, ?_, ?_, ?_⟩ <;> dsimp only <;> first | assumption | omega | (simp only [List.length_append, List.length_cons, List.length_nil, List.length_set]; omega)), by first | trivial | exact ⟨hs.sp, hs.ss, by omega, hs.np, hst⟩ | omega | (refine ⟨?_, ?_, ?_, ?_, ?_⟩ <;> dsimp only <;> first | assumption | omega | (simp only [List.length_append, List.length_cons, List.length_nil, List.length_set]; omega)), by first | trivial | exact ⟨hs.sp, hs.ss, by omega, hs.np, hst⟩ | omega | (refine ⟨?_, ?_, ?_, ?_, ?_⟩ <;> dsimp only <;> first | assumption | omega | (simp only [List.length_append, List.length_cons, List.length_nil, List.length_set]; omega))⟩
  · rfl
  all_goals (try dsimp only)
  all_goals (first | (omega) | omega | (simp only [*]; omega))
 refine zS <| Qe rfl rfl <| Qa rfl <| JL.nil ?_
 refine zi (fun h80 h80' => ?_) fun h80 h80' => ?_
 ·
  refine zS <| Qf fh rfl <| Q0 1 rfl rfl rfl <| Qz rfl <| Qg rfl rfl <| JL.nil ?_
  refine zi (fun h81 h81' => ?_) fun h81 h81' => ?_
  ·
   refine zk [2, 3] (fun F U l os u => ∃ (G82 : List Nat) (X82AT X82SD : Int) (b84 : Nat) (X82KX : Int), l = F [] ∧ os = [anyO G82] ++ U [some (boxO bs [.slice As_0 s_code cs_0, .int .i64 X82AT, .int .u64 X82SD] 118), some (boxO b3 [.int .i64 gk.rules.pits, .int .i64 gk.rules.seeds, .bool gk.rules.stores, .bool gk.rules.skip, .bool gk.rules.relay, .bool gk.rules.feed, .bool gk.rules.again, .int .i64 gk.rules.capture, .int .i64 gk.rules.slam, .slice A7_3_9 gk.start.pits.length c7_3_9, .slice A7_3_10 gk.start.stores.length c7_3_10, .int .i64 gk.start.player, .slice (some ⟨b84, 0, none⟩) gk.moves.length c7_3_12, .slice A7_3_13 gk.now.pits.length c7_3_13, .slice A7_3_14 gk.now.stores.length c7_3_14, .int .i64 gk.now.player, .int .i64 gk.resigned] 35), nO, nO, some (rowO 2 1 (.slice (some ⟨b84, 0, none⟩) gk.moves.length c7_3_12) gk.moves.length (ints_ (gk.moves.set 0 (X82KX - 1))) g7_3_12)] ∧ (X21AT ≤ X82AT) ∧ (X82AT ≤ X21AT + 2) ∧ (0 ≤ X82KX) ∧ (X82KX = 0 ∨ X82KX < 6)) ?_ ?_
   ·
    refine zdr [3, 6] ?_
    refine JH.p 0 rfl (p_fieldAddr fld_35_2.h rfl) ?_
    refine JH.p 2 rfl (p_move rfl) ?_
    refine y2 1 3 ?_ ?_
    ·
     refine JHo.q rfl (q_load1 ty_24.h rfl (Mem.box (i := 1) rfl rfl)) ?_
     refine y1 3 ?_
     refine yBB 1 sp_ rfl rfl (fun w hb _ hw => c_spec_l00Src_pick s_code X21AT X21SD 6 hb (ok_ hw)) ?_
     rintro _ _ G89 ⟨X89KX, X89AT, X89SD, rfl, rfl, hX89_0, hX89_1, hX89_2, hX89_3⟩
     refine znh ?_
     refine JH.p 4 rfl (p_sub rfl rfl (IntWalk.i64_in _ (by omega))) ?_
     refine JH.fact (row_some (i := 5) rfl (by omega)) (fun hf91 => ?_)
     obtain ⟨b91, rfl⟩ := hf91
     refine JH.p 5 rfl (p_indexAddr el_24 rfl rfl (by omega) (by omega) rfl) ?_
     refine y1 6 ?_
     refine JHo.s rfl (e_storeRow (i := 5) (xs' := ints_ (gk.moves.set 0 (X89KX - 1))) ty_2.h rfl rfl rfl rfl rfl rfl (ints_lt (i := 0) (by omega)) (ints_setL (i := 0) (by omega))) (.inr rfl) ?_
     rintro _ _ _ ⟨rfl, rfl⟩ _
     refine znh ?_
     refine yd ?_
     refine zh [1, 0, 0, 0, 0, 0, 0, 0, 0, 0] ?_
     exact zm ⟨_, _, _, _, _, rfl, rfl, zt, zt, zt, zt⟩ (Up.refl _ _)
    refine yBB 1 sp_ rfl rfl (fun w hb _ hw => c_spec_l00Src_pick s_code X21AT X21SD 6 hb (ok_ hw)) ?_
    rintro _ _ G92 ⟨X92KX, X92AT, X92SD, rfl, rfl, hX92_0, hX92_1, hX92_2, hX92_3⟩
    refine znh ?_
    refine JH.p 4 rfl (p_sub rfl rfl (IntWalk.i64_in _ (by omega))) ?_
    refine y1 1 ?_
    refine JHo.q rfl (q_load1 ty_24.h rfl (Mem.box (i := 2) rfl rfl)) ?_
    refine JH.fact (row_some (i := 5) rfl (by omega)) (fun hf94 => ?_)
    obtain ⟨b94, rfl⟩ := hf94
    refine JH.p 5 rfl (p_indexAddr el_24 rfl rfl (by omega) (by omega) rfl) ?_
    refine y1 6 ?_
    refine JHo.s rfl (e_storeRow (i := 5) (xs' := ints_ (gk.moves.set 0 (X92KX - 1))) ty_2.h rfl rfl rfl rfl rfl rfl (ints_lt (i := 0) (by omega)) (ints_setL (i := 0) (by omega))) (.inr rfl) ?_
    rintro _ _ _ ⟨rfl, rfl⟩ _
    refine znh ?_
    refine yd ?_
    refine zh [1, 0, 0, 0, 0, 0, 0, 0, 0, 0] ?_
    exact zm ⟨_, _, _, _, _, rfl, rfl, zt, zt, zt, zt⟩ (Up.refl _ _)
   rintro _ _ u88 ⟨G82, X82AT, X82SD, b84, X82KX, rfl, rfl, f88_0, f88_1, f88_2, f88_3⟩ x88
   refine zn ?_
   refine zf [1, 1, 1, 1, 1, 1, 1, 1] fun GG95 => ?_
   refine zn ?_
   refine Js.blockEnd <| zS <| Q9 1 rfl rfl ?_
   refine zw 7 rfl rfl rfl ?_
   refine JL.nil ?_
   refine zf [0, 1, 1, 1, 1, 1, 1] fun GG96 => ?_
   refine zn ?_
   refine zrb [0, 0, 0, 0, 0, 0] hb (x7.trans x88) ?_
   have hNr12 : (gk.moves.set 0 (X82KX - 1)).length = gk.moves.length := by first | rfl | assumption | omega | (simp only [List.length_set, M.setI_length]; done) | (simp only [List.length_set, M.setI_length]; first | rfl | assumption | omega)
   refine ⟨((M.Gam.mk gk.rules gk.start (gk.moves.set 0 (X82KX - 1)) gk.now gk.resigned)), (X82AT), (X82SD), A7_3_9, c7_3_9, g7_3_9, A7_3_10, c7_3_10, g7_3_10, (some ⟨b84, 0, none⟩), c7_3_12, g7_3_12, A7_3_13, c7_3_13, g7_3_13, A7_3_14, c7_3_14, g7_3_14, (show (.agg #[.int .i64 gk.rules.pits, .int .i64 gk.rules.seeds, .bool gk.rules.stores, .bool gk.rules.skip, .bool gk.rules.relay, .bool gk.rules.feed, .bool gk.rules.again, .int .i64 gk.rules.capture, .int .i64 gk.rules.slam, .slice A7_3_9 gk.start.pits.length c7_3_9, .slice A7_3_10 gk.start.stores.length c7_3_10, .int .i64 gk.start.player, .slice (some ⟨b84, 0, none⟩) gk.moves.length c7_3_12, .slice A7_3_13 gk.now.pits.length c7_3_13, .slice A7_3_14 gk.now.stores.length c7_3_14, .int .i64 gk.now.player, .int .i64 gk.resigned] : Value) = .agg #[.int .i64 gk.rules.pits, .int .i64 gk.rules.seeds, .bool gk.rules.stores, .bool gk.rules.skip, .bool gk.rules.relay, .bool gk.rules.feed, .bool gk.rules.again, .int .i64 gk.rules.capture, .int .i64 gk.rules.slam, .slice A7_3_9 gk.start.pits.length c7_3_9, .slice A7_3_10 gk.start.stores.length c7_3_10, .int .i64 gk.start.player, .slice (some ⟨b84, 0, none⟩) (gk.moves.set 0 (X82KX - 1)).length c7_3_12, .slice A7_3_13 gk.now.pits.length c7_3_13, .slice A7_3_14 gk.now.stores.length c7_3_14, .int .i64 gk.now.player, .int .i64 gk.resigned] by rw [hNr12]), ?_, ?_, ?_, ?_, ?_, ?_, ?_, ?_, ?_, ?_, ?_, by first | trivial | exact ⟨hs.sp, hs.ss, by omega, hs.np, hst⟩ | omega | (refine ⟨?_, ?_, ?_, ?_, ?_⟩ <;> dsimp only <;> first | assumption | omega | (simp only [List.length_append, List.length_cons, List.length_nil, List.length_set]; omega)), by first | trivial | exact ⟨hs.sp, hs.ss, by omega, hs.np, hst⟩ | omega | (refine ⟨?_, ?_, ?_, ?_, ?_⟩ <;> dsimp only <;> first | assumption | omega | (simp only [List.length_append, List.length_cons, List.length_nil, List.length_set]; omega)), by first | trivial | exact ⟨hs.sp, hs.ss, by omega, hs.np, hst⟩ | omega | (refine ⟨?_, ?_, ?_, ?_, ?_⟩ <;> dsimp only <;> first | assumption | omega | (simp only [List.length_append, List.length_cons, List.length_nil, List.length_set]; omega))⟩
   · first | rfl | (dsimp only; rw [hNr12]) | (dsimp only; simp only [hNr12])
   all_goals (try dsimp only)
   all_goals (first | (rw [hNr12]; omega) | omega | (simp only [*]; omega))
  refine Js.skip <| Js.blockEnd <| zS <| Q9 1 rfl rfl ?_
  refine zw 7 rfl rfl rfl ?_
  refine JL.nil ?_
  refine zf [0, 1, 1, 1, 1, 1, 1] fun GG97 => ?_
  refine zn ?_
  refine zrb [0, 0, 0, 0, 0, 0] hb x7 ?_
  refine ⟨(gk), (X21AT), (X21SD), A7_3_9, c7_3_9, g7_3_9, A7_3_10, c7_3_10, g7_3_10, A7_3_12, c7_3_12, g7_3_12, A7_3_13, c7_3_13, g7_3_13, A7_3_14, c7_3_14, g7_3_14, rfl, ?_, ?_, ?_, ?_, ?_, ?_, ?_, ?_, ?_, ?_, ?_, by first | trivial | exact ⟨hs.sp, hs.ss, by omega, hs.np, hst⟩ | omega | (refine ⟨?_, ?_, ?_, ?_, ?_⟩ <;> dsimp only <;> first | assumption | omega | (simp only [List.length_append, List.length_cons, List.length_nil, List.length_set]; omega)), by first | trivial | exact ⟨hs.sp, hs.ss, by omega, hs.np, hst⟩ | omega | (refine ⟨?_, ?_, ?_, ?_, ?_⟩ <;> dsimp only <;> first | assumption | omega | (simp only [List.length_append, List.length_cons, List.length_nil, List.length_set]; omega)), by first | trivial | exact ⟨hs.sp, hs.ss, by omega, hs.np, hst⟩ | omega | (refine ⟨?_, ?_, ?_, ?_, ?_⟩ <;> dsimp only <;> first | assumption | omega | (simp only [List.length_append, List.length_cons, List.length_nil, List.length_set]; omega))⟩
  · rfl
  all_goals (try dsimp only)
  all_goals (first | (omega) | omega | (simp only [*]; omega))
 refine Js.skip <| Js.blockEnd <| zS <| Q9 1 rfl rfl ?_
 refine zw 7 rfl rfl rfl ?_
 refine JL.nil ?_
 refine zf [0, 1, 1, 1, 1, 1, 1] fun GG98 => ?_
 refine zn ?_
 refine zrb [0, 0, 0, 0, 0, 0] hb x7 ?_
 refine ⟨(gk), (X21AT), (X21SD), A7_3_9, c7_3_9, g7_3_9, A7_3_10, c7_3_10, g7_3_10, A7_3_12, c7_3_12, g7_3_12, A7_3_13, c7_3_13, g7_3_13, A7_3_14, c7_3_14, g7_3_14, rfl, ?_, ?_, ?_, ?_, ?_, ?_, ?_, ?_, ?_, ?_, ?_, by first | trivial | exact ⟨hs.sp, hs.ss, by omega, hs.np, hst⟩ | omega | (refine ⟨?_, ?_, ?_, ?_, ?_⟩ <;> dsimp only <;> first | assumption | omega | (simp only [List.length_append, List.length_cons, List.length_nil, List.length_set]; omega)), by first | trivial | exact ⟨hs.sp, hs.ss, by omega, hs.np, hst⟩ | omega | (refine ⟨?_, ?_, ?_, ?_, ?_⟩ <;> dsimp only <;> first | assumption | omega | (simp only [List.length_append, List.length_cons, List.length_nil, List.length_set]; omega)), by first | trivial | exact ⟨hs.sp, hs.ss, by omega, hs.np, hst⟩ | omega | (refine ⟨?_, ?_, ?_, ?_, ?_⟩ <;> dsimp only <;> first | assumption | omega | (simp only [List.length_append, List.length_cons, List.length_nil, List.length_set]; omega))⟩
 · rfl
 all_goals (try dsimp only)
 all_goals (first | (omega) | omega | (simp only [*]; omega))

end Go.Proofs.Ytejnmechnhgmfaa

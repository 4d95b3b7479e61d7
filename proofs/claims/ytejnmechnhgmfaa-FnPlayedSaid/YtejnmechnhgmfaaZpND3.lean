/- Walks: D3. -/
import Derived.Test.YtejnmechnhgmfaaZpTn
import Derived.Test.YtejnmechnhgmfaaZpND2
import Derived.Test.YtejnmechnhgmfaaZpNK12
import Derived.Test.YtejnmechnhgmfaaZpF13
set_option linter.unusedSimpArgs false
set_option linter.unusedVariables false
set_option maxRecDepth 100000
attribute [local irreducible] Go.Proofs.Ytejnmechnhgmfaa.gv
namespace Go.Proofs.Ytejnmechnhgmfaa
open Go.RowKit

set_option maxHeartbeats 4000000 in
theorem c_spec_l08Draw (s_code : Nat) (s_at s_seed : Int) {As_0 : Option Addr} {cs_0 : Nat} (most : Int) {bs : Nat} {w : World} (hb : Bw w [boxO bs [.slice As_0 s_code cs_0, .int .i64 s_at, .int .u64 s_seed] 118]) (hps_0 : (Ty.bytes 5 s_code).ok (offW w (([boxO bs [.slice As_0 s_code cs_0, .int .i64 s_at, .int .u64 s_seed] 118] : List Own).flatMap (·.fp))) (.slice As_0 s_code cs_0)) (r0 : 0 ≤ s_at := by exact om_) (r1 : s_at ≤ 999999000 := by exact om_) (r2 : s_code ≤ 1048576 := by exact om_) (r3 : 0 ≤ most := by exact om_) (r4 : most ≤ 20 := by exact om_) : RetB Try.prog 115 [.pointer (some ⟨bs, 0, none⟩), .int .i64 most] w [boxO bs [.slice As_0 s_code cs_0, .int .i64 s_at, .int .u64 s_seed] 118] (fun v bs' => ∃ (GX : M.Gam) (AT SD : Int) (Axr_9 : Option Addr) (cxr_9 : Nat) (gxr_9 : List Nat) (Axr_10 : Option Addr) (cxr_10 : Nat) (gxr_10 : List Nat) (Axr_12 : Option Addr) (cxr_12 : Nat) (gxr_12 : List Nat) (Axr_13 : Option Addr) (cxr_13 : Nat) (gxr_13 : List Nat) (Axr_14 : Option Addr) (cxr_14 : Nat) (gxr_14 : List Nat), v = .agg #[.int .i64 GX.rules.pits, .int .i64 GX.rules.seeds, .bool GX.rules.stores, .bool GX.rules.skip, .bool GX.rules.relay, .bool GX.rules.feed, .bool GX.rules.again, .int .i64 GX.rules.capture, .int .i64 GX.rules.slam, .slice Axr_9 GX.start.pits.length cxr_9, .slice Axr_10 GX.start.stores.length cxr_10, .int .i64 GX.start.player, .slice Axr_12 GX.moves.length cxr_12, .slice Axr_13 GX.now.pits.length cxr_13, .slice Axr_14 GX.now.stores.length cxr_14, .int .i64 GX.now.player, .int .i64 GX.resigned] ∧ bs' = [boxO bs [.slice As_0 s_code cs_0, .int .i64 AT, .int .u64 SD] 118, rowO 2 1 (.slice Axr_9 GX.start.pits.length cxr_9) GX.start.pits.length (ints_ GX.start.pits) gxr_9, rowO 2 1 (.slice Axr_10 GX.start.stores.length cxr_10) GX.start.stores.length (ints_ GX.start.stores) gxr_10, rowO 2 1 (.slice Axr_12 GX.moves.length cxr_12) GX.moves.length (ints_ GX.moves) gxr_12, rowO 2 1 (.slice Axr_13 GX.now.pits.length cxr_13) GX.now.pits.length (ints_ GX.now.pits) gxr_13, rowO 2 1 (.slice Axr_14 GX.now.stores.length cxr_14) GX.now.stores.length (ints_ GX.now.stores) gxr_14] ∧ GX.start.pits.length ≤ cxr_9 ∧ cxr_9 ≤ 9223372036854775807 ∧ GX.start.stores.length ≤ cxr_10 ∧ cxr_10 ≤ 9223372036854775807 ∧ GX.moves.length ≤ cxr_12 ∧ cxr_12 ≤ 9223372036854775807 ∧ GX.now.pits.length ≤ cxr_13 ∧ cxr_13 ≤ 9223372036854775807 ∧ GX.now.stores.length ≤ cxr_14 ∧ cxr_14 ≤ 9223372036854775807 ∧ (M.Small GX ∧ GX.moves.length ≤ 121 ∧ GX.now.stores.length = 2) ∧ (s_at ≤ AT) ∧ (AT ≤ s_at + 1000)) := by
 refine enterB hb @Try.func115 @Try.ntmps115 rfl rfl ?_
 refine zent ?_
 refine Js.trashE ?_
 refine zn ?_
 refine zS <| za zeh fun b1 => zN <| Qm rfl ?_
 refine zhl [1] ?_
 refine zBB 1 sp_ rfl (fun w hb _ hw => c_spec_l02Draw s_code s_at s_seed hb (ok_ hw)) ?_
 rintro _ _ G2 ⟨X2RX, X2AT, X2SD, rfl, rfl, hX2_0, hX2_1, hX2_2⟩
 refine znl ?_
 refine za zeh fun b3 => zw 0 rfl rfl rfl ?_
 refine JL.nil ?_
 refine zf [0, 0, 1] fun GG4 => ?_
 refine zn ?_
 refine Js.seq <| zS <| Qm rfl ?_
 refine zhl [1] ?_
 refine zBB 1 sp_ rfl (fun w hb _ hw => c_spec_l00Src_one s_code X2AT X2SD 2 hb (ok_ hw)) ?_
 rintro _ _ G5 ⟨X5BX, X5AT, X5SD, rfl, rfl, hX5_0, hX5_1⟩
 refine znl ?_
 refine JL.nil ?_
 refine zf [0, 1, 1] fun GG6 => ?_
 refine zn ?_
 refine zk [0, 1, 4, 5] (fun F U l os u => ∃ (rr : M.Rul) (at2 sd2 : Int) (G7_3 : List Nat), l = F [] ∧ os = U [some (boxO bs [.slice As_0 s_code cs_0, .int .i64 at2, .int .u64 sd2] 118), some (boxO b3 [.int .i64 rr.pits, .int .i64 rr.seeds, .bool rr.stores, .bool rr.skip, .bool rr.relay, .bool rr.feed, .bool rr.again, .int .i64 rr.capture, .int .i64 rr.slam] 32), nO, some (anyO G7_3)] ∧ (0 ≤ rr.pits ∧ rr.pits ≤ 8) ∧ (s_at ≤ at2) ∧ (at2 ≤ s_at + 50)) ?_ ?_
 ·
  refine zi (fun h8 h8' => ?_) fun h8 h8' => ?_
  ·
   refine Js.region <| Qm rfl <| zp rfl (fun w hw => c_spec_StandardNames) ?_
   intro u9 x9 A10 c10 h10 bl10 bh10
   refine zBB 1 sp_ rfl (fun w hb _ hw => c_spec_l00Src_text s_code X5AT X5SD 4 hb (ok_ hw) (ok_ hw)) ?_
   rintro _ _ G11 ⟨X11TX, X11AT, X11SD, rfl, rfl, hX11_0, hX11_1⟩
   refine znl ?_
   refine zp rfl (fun w hw => c_spec_StandardRules X11TX) ?_
   intro u12 x12 X13 hX13 X14 hX14
   refine Qm rfl <| Qx rfl rfl <| Qx rfl rfl <| zw 2 rfl rfl rfl ?_
   refine JL.nil ?_
   refine zf [0, 1, 1] fun GG15 => ?_
   refine zn ?_
   exact zm ⟨(X13), (X11AT), (X11SD), _, rfl, rfl, by first | assumption | omega | rfl | (dsimp only; omega), by first | assumption | omega | rfl | (dsimp only; omega), by first | assumption | omega | rfl | (dsimp only; omega)⟩ (x9.trans x12)
  refine Js.skip ?_
  exact zm ⟨(X2RX), (X5AT), (X5SD), _, rfl, rfl, by first | assumption | omega | rfl | (dsimp only; omega), by first | assumption | omega | rfl | (dsimp only; omega), by first | assumption | omega | rfl | (dsimp only; omega)⟩ (Up.refl _ _)
 rintro _ _ u7 ⟨rr, at2, sd2, G7_3, rfl, rfl, hr9, hb0, hb1⟩ x7
 refine zn ?_
 refine zS <| zc rfl (fun w hw => c_spec_l04Start rr (ok_ hw)) ?_
 intro A17 c17 bl17 bh17 A18 c18 bl18 bh18
 have hl0 : (M.startP rr).pits.length = (2 * (rr).pits).toNat := by simp [M.startP]
 have hl1 : (M.startP rr).stores.length = 2 := rfl
 refine za zeh fun b19 => zw 0 rfl rfl rfl ?_
 refine zJ <| zS <| Qm rfl ?_
 refine zhl [3] ?_
 refine zBB 1 sp_ rfl (fun w hb _ hw => c_spec_l00Src_one s_code at2 sd2 3 hb (ok_ hw)) ?_
 rintro _ _ G20 ⟨X20BX, X20AT, X20SD, rfl, rfl, hX20_0, hX20_1⟩
 refine znl ?_
 refine JL.nil ?_
 refine zf [0, 1, 1, 1, 1, 1] fun GG21 => ?_
 refine zn ?_
 refine zk [0, 1, 4, 5, 6] (fun F U l os u => ∃ (pp : M.Pos) (at3 sd3 : Int) (A22_6_0 : Option Addr) (c22_6_0 : Nat) (g22_6_0 : List Nat) (A22_6_1 : Option Addr) (c22_6_1 : Nat) (g22_6_1 : List Nat) (G22_6 : List Nat), l = F [] ∧ os = U [some (boxO bs [.slice As_0 s_code cs_0, .int .i64 at3, .int .u64 sd3] 118), some (boxO b19 [.slice A22_6_0 pp.pits.length c22_6_0, .slice A22_6_1 pp.stores.length c22_6_1, .int .i64 pp.player] 33), some (rowO 2 1 (.slice A22_6_1 pp.stores.length c22_6_1) pp.stores.length (ints_ pp.stores) g22_6_1), some (rowO 2 1 (.slice A22_6_0 pp.pits.length c22_6_0) pp.pits.length (ints_ pp.pits) g22_6_0), nO, nO, some (anyO G22_6)] ∧ (pp.pits.length = (2 * rr.pits).toNat ∧ pp.stores.length = 2) ∧ (s_at ≤ at3) ∧ (at3 ≤ s_at + 270) ∧ (pp.pits.length ≤ c22_6_0) ∧ (c22_6_0 ≤ 9223372036854775807) ∧ (pp.stores.length ≤ c22_6_1) ∧ (c22_6_1 ≤ 9223372036854775807)) ?_ ?_
 ·
  refine zi (fun h23 h23' => ?_) fun h23 h23' => ?_
  ·
   refine Js.region <| Qm rfl <| zBB 1 sp_ rfl (fun w hb _ hw => c_spec_l04Draw s_code X20AT X20SD rr hb (ok_ hw) (ok_ hw)) ?_
   rintro _ _ G24 ⟨X24PX, X24AT, X24SD, A24r_0, c24r_0, g24r_0, A24r_1, c24r_1, g24r_1, rfl, rfl, bl24_0, bl24_1, bl24_2, bl24_3, hX24_0, hX24_1, hX24_2⟩
   refine znl ?_
   refine zw 4 rfl rfl rfl ?_
   refine JL.nil ?_
   refine zf [0, 0, 0, 1, 3, 3] fun GG25 => ?_
   refine zn ?_
   refine zf [0, 2, 1, 0, 0, 0] fun GG26 => ?_
   refine zn ?_
   exact zm ⟨(X24PX), (X24AT), (X24SD), _, _, _, _, _, _, _, rfl, rfl, by first | omega | exact ⟨hl0, hl1⟩, by first | assumption | omega | rfl | (dsimp only; omega), by first | assumption | omega | rfl | (dsimp only; omega), by first | assumption | omega | rfl | (dsimp only; omega), by first | assumption | omega | rfl | (dsimp only; omega), by first | assumption | omega | rfl | (dsimp only; omega), by first | assumption | omega | rfl | (dsimp only; omega)⟩ (Up.refl _ _)
  refine Js.skip ?_
  exact zm ⟨((M.startP rr)), (X20AT), (X20SD), _, _, _, _, _, _, _, rfl, rfl, by first | omega | exact ⟨hl0, hl1⟩, by first | assumption | omega | rfl | (dsimp only; omega), by first | assumption | omega | rfl | (dsimp only; omega), by first | assumption | omega | rfl | (dsimp only; omega), by first | assumption | omega | rfl | (dsimp only; omega), by first | assumption | omega | rfl | (dsimp only; omega), by first | assumption | omega | rfl | (dsimp only; omega)⟩ (Up.refl _ _)
 rintro _ _ u22 ⟨pp, at3, sd3, A22_6_0, c22_6_0, g22_6_0, A22_6_1, c22_6_1, g22_6_1, G22_6, rfl, rfl, hp9, hc0, hc1, f22_3, f22_4, f22_5, f22_6⟩ x22
 refine zn ?_
 refine zS <| zc rfl (fun w hw => c_spec_l08New rr pp (ok_ hw) (ok_ hw)) ?_
 intro A28 c28 bl28 bh28 A29 c29 bl29 bh29 A30 c30 bl30 bh30 A31 c31 bl31 bh31 A32 c32 bl32 bh32
 refine za zeh fun b33 => zw 0 rfl rfl rfl ?_
 refine JL.nil ?_
 refine zf [0, 0, 0, 0, 0, 0, 0, 4] fun GG34 => ?_
 refine zn ?_
 refine Js.seq <| zS <| Qm rfl <| Qm rfl <| Qp rfl rfl ?_
 refine zhl [6] ?_
 refine zBB 1 sp_ rfl (fun w hb _ hw => c_spec_l00Src_pick s_code at3 sd3 (most + 1) hb (ok_ hw)) ?_
 rintro _ _ G35 ⟨X35KX, X35AT, X35SD, rfl, rfl, hX35_0, hX35_1, hX35_2, hX35_3⟩
 refine znl ?_
 refine Qa rfl <| JL.nil ?_
 refine zf [0, 1, 1, 1, 1, 1, 1, 1] fun GG36 => ?_
 refine zn ?_
 refine Js.block ?_
 refine zl [0, 4, 7] (fun F U l os u m => ∃ (j at1 sd1 : Int) (gk : M.Gam) (A37_7_9 : Option Addr) (c37_7_9 : Nat) (g37_7_9 : List Nat) (A37_7_10 : Option Addr) (c37_7_10 : Nat) (g37_7_10 : List Nat) (A37_7_12 : Option Addr) (c37_7_12 : Nat) (g37_7_12 : List Nat) (A37_7_13 : Option Addr) (c37_7_13 : Nat) (g37_7_13 : List Nat) (A37_7_14 : Option Addr) (c37_7_14 : Nat) (g37_7_14 : List Nat) (G37_8 : List Nat), l = F [(8, .int .i64 j)] ∧ os = U [some (boxO bs [.slice As_0 s_code cs_0, .int .i64 at1, .int .u64 sd1] 118), some (boxO b33 [.int .i64 gk.rules.pits, .int .i64 gk.rules.seeds, .bool gk.rules.stores, .bool gk.rules.skip, .bool gk.rules.relay, .bool gk.rules.feed, .bool gk.rules.again, .int .i64 gk.rules.capture, .int .i64 gk.rules.slam, .slice A37_7_9 gk.start.pits.length c37_7_9, .slice A37_7_10 gk.start.stores.length c37_7_10, .int .i64 gk.start.player, .slice A37_7_12 gk.moves.length c37_7_12, .slice A37_7_13 gk.now.pits.length c37_7_13, .slice A37_7_14 gk.now.stores.length c37_7_14, .int .i64 gk.now.player, .int .i64 gk.resigned] 35), some (rowO 2 1 (.slice A37_7_14 gk.now.stores.length c37_7_14) gk.now.stores.length (ints_ gk.now.stores) g37_7_14), some (rowO 2 1 (.slice A37_7_13 gk.now.pits.length c37_7_13) gk.now.pits.length (ints_ gk.now.pits) g37_7_13), some (rowO 2 1 (.slice A37_7_12 gk.moves.length c37_7_12) gk.moves.length (ints_ gk.moves) g37_7_12), some (rowO 2 1 (.slice A37_7_10 gk.start.stores.length c37_7_10) gk.start.stores.length (ints_ gk.start.stores) g37_7_10), some (rowO 2 1 (.slice A37_7_9 gk.start.pits.length c37_7_9) gk.start.pits.length (ints_ gk.start.pits) g37_7_9), nO, some (anyO G37_8)] ∧ (0 ≤ j ∧ j ≤ 21) ∧ (s_at ≤ at1) ∧ (at1 + 2 * j ≤ s_at + 400) ∧ (M.Small gk) ∧ (gk.moves.length ≤ 120) ∧ (gk.now.stores.length = 2) ∧ (gk.start.pits.length ≤ c37_7_9) ∧ (c37_7_9 ≤ 9223372036854775807) ∧ (gk.start.stores.length ≤ c37_7_10) ∧ (c37_7_10 ≤ 9223372036854775807) ∧ (gk.moves.length ≤ c37_7_12) ∧ (c37_7_12 ≤ 9223372036854775807) ∧ (gk.now.pits.length ≤ c37_7_13) ∧ (c37_7_13 ≤ 9223372036854775807) ∧ (gk.now.stores.length ≤ c37_7_14) ∧ (c37_7_14 ≤ 9223372036854775807) ∧ m = j.toNat) ⟨X35KX, X35AT, X35SD, (M.Gam.mk rr pp [] pp (-1)), _, _, _, _, _, _, _, _, _, _, _, _, _, _, _, _, rfl, rfl, zt, zt, zt, by exact ⟨by dsimp only; omega, by dsimp only; omega, by simp, by dsimp only; omega, by dsimp only; omega⟩, by simp, by dsimp only; omega, zu, zu, zu, zu, zu, zu, zu, zu, zu, zu, rfl⟩ ?_
 rintro _ _ u37 _ ⟨j, at1, sd1, gk, A37_7_9, c37_7_9, g37_7_9, A37_7_10, c37_7_10, g37_7_10, A37_7_12, c37_7_12, g37_7_12, A37_7_13, c37_7_13, g37_7_13, A37_7_14, c37_7_14, g37_7_14, G37_8, rfl, rfl, hj, ha0, ha1, hs, hm, hst, f37_6, f37_7, f37_8, f37_9, f37_10, f37_11, f37_12, f37_13, f37_14, f37_15, rfl⟩ x37
 refine zn ?_
 have s1 := hs.sp
 have s2 := hs.ss
 have s3 := hs.m
 have s4 := hs.np
 have s5 := hs.ns
 refine Js.seq <| zS <| Qm rfl <| Qg rfl rfl <| JL.nil ?_
 refine zi (fun h38 h38' => ?_) fun h38 h38' => ?_
 ·
  refine Js.skip <| Js.seq <| Js.block <| zS <| Qm rfl <| zBB 1 sp_ rfl (fun w hb _ hw => c_spec_l08Legal s_code at1 sd1 gk hb (ok_ hw) (ok_ hw)) ?_
  rintro _ _ G39 ⟨X39KX, X39AT, X39SD, rfl, rfl, hX39_0, hX39_1⟩
  refine znl ?_
  refine Qa rfl <| JL.nil ?_
  refine zf [0, 1, 1, 1, 1, 1, 1, 1] fun GG40 => ?_
  refine zn ?_
  refine Js.seq <| zS <| Qm rfl <| Ql rfl rfl <| JL.nil ?_
  refine zi (fun h41 h41' => ?_) fun h41 h41' => ?_
  ·
   refine zx ?_
   refine Js.seq <| zS <| Qm rfl <| zBB 1 sp_ rfl (fun w hb _ hw => c_spec_l00Src_one s_code X39AT X39SD 10 hb (ok_ hw)) ?_
   rintro _ _ G42 ⟨X42BX, X42AT, X42SD, rfl, rfl, hX42_0, hX42_1⟩
   refine znl ?_
   refine JL.nil ?_
   refine zf [0, 1, 1, 1, 1, 1, 1, 1] fun GG43 => ?_
   refine zn ?_
   refine zi (fun h44 h44' => ?_) fun h44 h44' => ?_
   ·
    refine Js.region <| Qm rfl <| zBB 1 sp_ rfl (fun w hb _ hw => c_spec_l00Src_pick s_code X42AT X42SD 2 hb (ok_ hw)) ?_
    rintro _ _ G45 ⟨X45KX, X45AT, X45SD, rfl, rfl, hX45_0, hX45_1, hX45_2, hX45_3⟩
    refine znl ?_
    refine Qf fh rfl <| zw 2 rfl rfl rfl ?_
    refine JL.nil ?_
    refine zf [0, 1, 1, 1, 1, 1, 1, 1] fun GG46 => ?_
    refine zn ?_
    refine zS <| Q9 1 rfl rfl ?_
    refine zw 7 rfl rfl rfl ?_
    refine JL.nil ?_
    refine zf [0, 1, 1, 1, 1, 1, 1] fun GG47 => ?_
    refine zn ?_
    refine zrb [0, 4, 3, 2, 1, 0] hb ((x7.trans x22).trans x37) ?_
    refine ⟨((M.Gam.mk gk.rules gk.start gk.moves gk.now X45KX)), (X45AT), (X45SD), A37_7_9, c37_7_9, g37_7_9, A37_7_10, c37_7_10, g37_7_10, A37_7_12, c37_7_12, g37_7_12, A37_7_13, c37_7_13, g37_7_13, A37_7_14, c37_7_14, g37_7_14, rfl, ?_, ?_, ?_, ?_, ?_, ?_, ?_, ?_, ?_, ?_, ?_, by first | trivial | exact ⟨hs, by omega, hst⟩ | exact ⟨⟨hs.sp, hs.ss, hs.m, hs.np, hs.ns⟩, by dsimp only; omega, hst⟩ | omega, by first | trivial | exact ⟨hs, by omega, hst⟩ | exact ⟨⟨hs.sp, hs.ss, hs.m, hs.np, hs.ns⟩, by dsimp only; omega, hst⟩ | omega, by first | trivial | exact ⟨hs, by omega, hst⟩ | exact ⟨⟨hs.sp, hs.ss, hs.m, hs.np, hs.ns⟩, by dsimp only; omega, hst⟩ | omega⟩
    · rfl
    all_goals (try dsimp only)
    all_goals (first | (omega) | omega | (simp only [*]; omega))
   refine Js.skip <| zS <| Q9 1 rfl rfl ?_
   refine zw 7 rfl rfl rfl ?_
   refine JL.nil ?_
   refine zf [0, 1, 1, 1, 1, 1, 1] fun GG48 => ?_
   refine zn ?_
   refine zrb [0, 4, 3, 2, 1, 0] hb ((x7.trans x22).trans x37) ?_
   refine ⟨(gk), (X42AT), (X42SD), A37_7_9, c37_7_9, g37_7_9, A37_7_10, c37_7_10, g37_7_10, A37_7_12, c37_7_12, g37_7_12, A37_7_13, c37_7_13, g37_7_13, A37_7_14, c37_7_14, g37_7_14, rfl, ?_, ?_, ?_, ?_, ?_, ?_, ?_, ?_, ?_, ?_, ?_, by first | trivial | exact ⟨hs, by omega, hst⟩ | exact ⟨⟨hs.sp, hs.ss, hs.m, hs.np, hs.ns⟩, by dsimp only; omega, hst⟩ | omega, by first | trivial | exact ⟨hs, by omega, hst⟩ | exact ⟨⟨hs.sp, hs.ss, hs.m, hs.np, hs.ns⟩, by dsimp only; omega, hst⟩ | omega, by first | trivial | exact ⟨hs, by omega, hst⟩ | exact ⟨⟨hs.sp, hs.ss, hs.m, hs.np, hs.ns⟩, by dsimp only; omega, hst⟩ | omega⟩
   · rfl
   all_goals (try dsimp only)
   all_goals (first | (omega) | omega | (simp only [*]; omega))
  refine Js.skip <| zS <| Qm rfl <| zc rfl (fun w hw => c_spec_l08Play gk X39KX (ok_ hw)) ?_
  intro A51 c51 bl51 bh51 A52 c52 bl52 bh52 A53 c53 bl53 bh53 A54 c54 bl54 bh54 A55 c55 bl55 bh55
  refine Qm rfl <| Qx rfl rfl <| Qx rfl rfl <| za zeh fun b56 => zw 0 rfl rfl rfl ?_
  refine Qa rfl <| zN <| Qm rfl <| Qe rfl rfl <| JL.nil ?_
  refine zi (fun h57 h57' => ?_) fun h57 h57' => ?_
  ·
   have hz : (M.play gk X39KX).2 = 0 := by simpa using h57
   refine Js.region <| Q9 0 rfl rfl ?_
   refine zw 7 rfl rfl rfl ?_
   refine JL.nil ?_
   refine zf [1, 1, 1, 1, 1, 1, 1, 6] fun GG58 => ?_
   refine zn ?_
   refine Js.blockEnd <| Js.region <| Qm rfl <| Qs rfl rfl <| Qa rfl <| JL.nil ?_
   refine zf [5, 5, 0, 0, 0, 0, 0, 0] fun GG59 => ?_
   refine zn ?_
   exact zag ⟨j - 1, X39AT, X39SD, ((M.play gk X39KX).1), _, _, _, _, _, _, _, _, _, _, _, _, _, _, _, _, rfl, rfl, zt, zt, zt, by first | exact hs | exact hs.play hz, by first | exact hm | exact M.play_120 hm hz, by first | exact hst | exact M.play_stores hst hz, zu, zu, zu, zu, zu, zu, zu, zu, zu, zu, rfl⟩ x37
  refine Js.skip <| Js.blockEnd <| Js.region <| Qm rfl <| Qs rfl rfl <| Qa rfl <| JL.nil ?_
  refine zf [6, 6, 6, 6, 6, 6, 6, 6] fun GG60 => ?_
  refine zn ?_
  exact zag ⟨j - 1, X39AT, X39SD, gk, _, _, _, _, _, _, _, _, _, _, _, _, _, _, _, _, rfl, rfl, zt, zt, zt, by first | exact hs | exact hs.play hz, by first | exact hm | exact M.play_120 hm hz, by first | exact hst | exact M.play_stores hst hz, zu, zu, zu, zu, zu, zu, zu, zu, zu, zu, rfl⟩ x37
 refine zx ?_
 refine Js.seq <| zS <| Qm rfl <| zBB 1 sp_ rfl (fun w hb _ hw => c_spec_l00Src_one s_code at1 sd1 10 hb (ok_ hw)) ?_
 rintro _ _ G61 ⟨X61BX, X61AT, X61SD, rfl, rfl, hX61_0, hX61_1⟩
 refine znl ?_
 refine JL.nil ?_
 refine zf [0, 1, 1, 1, 1, 1, 1, 1] fun GG62 => ?_
 refine zn ?_
 refine zi (fun h63 h63' => ?_) fun h63 h63' => ?_
 ·
  refine Js.region <| Qm rfl <| zBB 1 sp_ rfl (fun w hb _ hw => c_spec_l00Src_pick s_code X61AT X61SD 2 hb (ok_ hw)) ?_
  rintro _ _ G64 ⟨X64KX, X64AT, X64SD, rfl, rfl, hX64_0, hX64_1, hX64_2, hX64_3⟩
  refine znl ?_
  refine Qf fh rfl <| zw 2 rfl rfl rfl ?_
  refine JL.nil ?_
  refine zf [0, 1, 1, 1, 1, 1, 1, 1] fun GG65 => ?_
  refine zn ?_
  refine zS <| Q9 1 rfl rfl ?_
  refine zw 7 rfl rfl rfl ?_
  refine JL.nil ?_
  refine zf [0, 1, 1, 1, 1, 1, 1] fun GG66 => ?_
  refine zn ?_
  refine zrb [0, 4, 3, 2, 1, 0] hb ((x7.trans x22).trans x37) ?_
  refine ⟨((M.Gam.mk gk.rules gk.start gk.moves gk.now X64KX)), (X64AT), (X64SD), A37_7_9, c37_7_9, g37_7_9, A37_7_10, c37_7_10, g37_7_10, A37_7_12, c37_7_12, g37_7_12, A37_7_13, c37_7_13, g37_7_13, A37_7_14, c37_7_14, g37_7_14, rfl, ?_, ?_, ?_, ?_, ?_, ?_, ?_, ?_, ?_, ?_, ?_, by first | trivial | exact ⟨hs, by omega, hst⟩ | exact ⟨⟨hs.sp, hs.ss, hs.m, hs.np, hs.ns⟩, by dsimp only; omega, hst⟩ | omega, by first | trivial | exact ⟨hs, by omega, hst⟩ | exact ⟨⟨hs.sp, hs.ss, hs.m, hs.np, hs.ns⟩, by dsimp only; omega, hst⟩ | omega, by first | trivial | exact ⟨hs, by omega, hst⟩ | exact ⟨⟨hs.sp, hs.ss, hs.m, hs.np, hs.ns⟩, by dsimp only; omega, hst⟩ | omega⟩
  · rfl
  all_goals (try dsimp only)
  all_goals (first | (omega) | omega | (simp only [*]; omega))
 refine Js.skip <| zS <| Q9 1 rfl rfl ?_
 refine zw 7 rfl rfl rfl ?_
 refine JL.nil ?_
 refine zf [0, 1, 1, 1, 1, 1, 1] fun GG67 => ?_
 refine zn ?_
 refine zrb [0, 4, 3, 2, 1, 0] hb ((x7.trans x22).trans x37) ?_
 refine ⟨(gk), (X61AT), (X61SD), A37_7_9, c37_7_9, g37_7_9, A37_7_10, c37_7_10, g37_7_10, A37_7_12, c37_7_12, g37_7_12, A37_7_13, c37_7_13, g37_7_13, A37_7_14, c37_7_14, g37_7_14, rfl, ?_, ?_, ?_, ?_, ?_, ?_, ?_, ?_, ?_, ?_, ?_, by first | trivial | exact ⟨hs, by omega, hst⟩ | exact ⟨⟨hs.sp, hs.ss, hs.m, hs.np, hs.ns⟩, by dsimp only; omega, hst⟩ | omega, by first | trivial | exact ⟨hs, by omega, hst⟩ | exact ⟨⟨hs.sp, hs.ss, hs.m, hs.np, hs.ns⟩, by dsimp only; omega, hst⟩ | omega, by first | trivial | exact ⟨hs, by omega, hst⟩ | exact ⟨⟨hs.sp, hs.ss, hs.m, hs.np, hs.ns⟩, by dsimp only; omega, hst⟩ | omega⟩
 · rfl
 all_goals (try dsimp only)
 all_goals (first | (omega) | omega | (simp only [*]; omega))

end Go.Proofs.Ytejnmechnhgmfaa

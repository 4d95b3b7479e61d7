/- Walks: D3. -/
import Derived.Test.YtcmfnlleikcpnaaGreatZxA3
import Derived.Test.YtcmfnlleikcpnaaGreatZxA6
import Derived.Test.YtcmfnlleikcpnaaGreatZxA1
set_option linter.unusedSimpArgs false
set_option linter.unusedVariables false
set_option maxRecDepth 100000
attribute [local irreducible] Go.Proofs.YtcmfnlleikcpnaaGreat.gv
set_option maxHeartbeats 12000000
namespace Go.Proofs.YtcmfnlleikcpnaaGreat
open Go.RowKit
theorem c_spec_l08Draw (s_code : Nat) (s_at s_seed : Int) {As_0 : Option Addr} {cs_0 : Nat} (most : Int) {bs : Nat} {w : World} (hb : Bw w [boxO bs [.slice As_0 s_code cs_0, .int .i64 s_at, .int .u64 s_seed] 189]) (hps_0 : (Ty.bytes 5 s_code).ok (offW w (([boxO bs [.slice As_0 s_code cs_0, .int .i64 s_at, .int .u64 s_seed] 189] : List Own).flatMap (·.fp))) (.slice As_0 s_code cs_0)) (r0 : 0 ≤ s_at := by exact om_) (r1 : s_at ≤ 999999000 := by exact om_) (r2 : s_code ≤ 1048576 := by exact om_) (r3 : 0 ≤ most := by exact om_) (r4 : most ≤ 20 := by exact om_) : RetB Tryz.prog 153 [.pointer (some ⟨bs, 0, none⟩), .int .i64 most] w [boxO bs [.slice As_0 s_code cs_0, .int .i64 s_at, .int .u64 s_seed] 189] (fun v bs' => ∃ (GX : M.Gam) (AT SD : Int) (Axr_9 : Option Addr) (cxr_9 : Nat) (gxr_9 : List Nat) (Axr_10 : Option Addr) (cxr_10 : Nat) (gxr_10 : List Nat) (Axr_12 : Option Addr) (cxr_12 : Nat) (gxr_12 : List Nat) (Axr_13 : Option Addr) (cxr_13 : Nat) (gxr_13 : List Nat) (Axr_14 : Option Addr) (cxr_14 : Nat) (gxr_14 : List Nat), v = .agg #[.int .i64 GX.rules.pits, .int .i64 GX.rules.seeds, .bool GX.rules.stores, .bool GX.rules.skip, .bool GX.rules.relay, .bool GX.rules.feed, .bool GX.rules.again, .int .i64 GX.rules.capture, .int .i64 GX.rules.slam, .slice Axr_9 GX.start.pits.length cxr_9, .slice Axr_10 GX.start.stores.length cxr_10, .int .i64 GX.start.player, .slice Axr_12 GX.moves.length cxr_12, .slice Axr_13 GX.now.pits.length cxr_13, .slice Axr_14 GX.now.stores.length cxr_14, .int .i64 GX.now.player, .int .i64 GX.resigned] ∧ bs' = [boxO bs [.slice As_0 s_code cs_0, .int .i64 AT, .int .u64 SD] 189, rowO 2 1 (.slice Axr_9 GX.start.pits.length cxr_9) GX.start.pits.length (ints_ GX.start.pits) gxr_9, rowO 2 1 (.slice Axr_10 GX.start.stores.length cxr_10) GX.start.stores.length (ints_ GX.start.stores) gxr_10, rowO 2 1 (.slice Axr_12 GX.moves.length cxr_12) GX.moves.length (ints_ GX.moves) gxr_12, rowO 2 1 (.slice Axr_13 GX.now.pits.length cxr_13) GX.now.pits.length (ints_ GX.now.pits) gxr_13, rowO 2 1 (.slice Axr_14 GX.now.stores.length cxr_14) GX.now.stores.length (ints_ GX.now.stores) gxr_14] ∧ GX.start.pits.length ≤ cxr_9 ∧ cxr_9 ≤ 9223372036854775807 ∧ GX.start.stores.length ≤ cxr_10 ∧ cxr_10 ≤ 9223372036854775807 ∧ GX.moves.length ≤ cxr_12 ∧ cxr_12 ≤ 9223372036854775807 ∧ GX.now.pits.length ≤ cxr_13 ∧ cxr_13 ≤ 9223372036854775807 ∧ GX.now.stores.length ≤ cxr_14 ∧ cxr_14 ≤ 9223372036854775807 ∧ (M.Small GX ∧ GX.moves.length ≤ 121 ∧ GX.now.stores.length = 2 ∧ 1 ≤ GX.now.pits.length) ∧ (s_at ≤ AT) ∧ (AT ≤ s_at + 1000)) := by
 refine enterB hb @Tryz.func153 @Tryz.ntmps153 rfl rfl ?_
 refine zent ?_
 refine Js.trashE ?_
 refine zn ?_
 refine zS <| za zeh fun b1 => zN <| Qm rfl ?_
 refine zhl [1] ?_
 refine zBB 1 sp_ rfl (fun w hb _ hw => c_spec_l02Draw s_code s_at s_seed hb (ok_ hw)) ?_
 rintro _ _ G2 ⟨X2RX, X2AT, X2SD, rfl, rfl, hX2_0, hX2_1, hX2_2⟩
 refine znl ?_
 refine za zeh fun b3 => zw 0 rfl rfl rfl ?_
 refine JL.nil ?_
 refine zf [0, 0, 1] fun GG4 => ?_
 refine zn ?_
 refine Js.seq <| zS <| Qm rfl ?_
 refine zhl [1] ?_
 refine zBB 1 sp_ rfl (fun w hb _ hw => c_spec_l00Src_one s_code X2AT X2SD 2 hb (ok_ hw)) ?_
 rintro _ _ G5 ⟨X5BX, X5AT, X5SD, rfl, rfl, hX5_0, hX5_1⟩
 refine znl ?_
 refine JL.nil ?_
 refine zf [0, 1, 1] fun GG6 => ?_
 refine zn ?_
 refine zk [0, 1, 4, 5] (fun F U l os u => ∃ (rr : M.Rul) (at2 sd2 : Int) (G7_3 : List Nat), l = F [] ∧ os = U [some (boxO bs [.slice As_0 s_code cs_0, .int .i64 at2, .int .u64 sd2] 189), some (boxO b3 [.int .i64 rr.pits, .int .i64 rr.seeds, .bool rr.stores, .bool rr.skip, .bool rr.relay, .bool rr.feed, .bool rr.again, .int .i64 rr.capture, .int .i64 rr.slam] 34), nO, some (anyO G7_3)] ∧ (2 ≤ rr.pits ∧ rr.pits ≤ 8) ∧ (s_at ≤ at2) ∧ (at2 ≤ s_at + 50)) ?_ ?_
 ·
  refine zi (fun h8 h8' => ?_) fun h8 h8' => ?_
  ·
   refine Js.region <| Qm rfl <| zp rfl (fun w hw => c_spec_StandardNames) ?_
   intro u9 x9 A10 c10 h10 bl10 bh10
   refine zBB 1 sp_ rfl (fun w hb _ hw => c_spec_l00Src_text s_code X5AT X5SD M.stdNames hb (ok_ hw) (ok_ hw) (r3 := (by decide)) (r4 := (by decide))) ?_
   rintro _ _ G11 ⟨X11TX, X11AT, X11SD, rfl, rfl, hX11_0, hX11_1, hX11_2⟩
   refine znl ?_
   refine zp rfl (fun w hw => c_spec_StandardRules X11TX (r0 := (by assumption))) ?_
   intro u12 x12 X13 hX13 X14 hX14
   refine Qm rfl <| Qx rfl rfl <| Qx rfl rfl <| zw 2 rfl rfl rfl ?_
   refine JL.nil ?_
   refine zf [0, 1, 1] fun GG15 => ?_
   refine zn ?_
   exact zm ⟨(X13), (X11AT), (X11SD), _, rfl, rfl, by first | assumption | omega | rfl | (dsimp only; omega) | (simp; done), by first | assumption | omega | rfl | (dsimp only; omega) | (simp; done), by first | assumption | omega | rfl | (dsimp only; omega) | (simp; done)⟩ (x9.trans x12)
  refine Js.skip ?_
  exact zm ⟨(X2RX), (X5AT), (X5SD), _, rfl, rfl, by first | assumption | omega | rfl | (dsimp only; omega) | (simp; done), by first | assumption | omega | rfl | (dsimp only; omega) | (simp; done), by first | assumption | omega | rfl | (dsimp only; omega) | (simp; done)⟩ (Up.refl _ _)
 rintro _ _ u7 ⟨rr, at2, sd2, G7_3, rfl, rfl, hr9, hb0, hb1⟩ x7
 refine zn ?_
 refine zS <| zc rfl (fun w hw => c_spec_l04Start rr (ok_ hw)) ?_
 intro A17 c17 bl17 bh17 A18 c18 bl18 bh18
 have hl0 : (M.startP rr).pits.length = (2 * (rr).pits).toNat := by simp [M.startP]
 have hl1 : (M.startP rr).stores.length = 2 := rfl
 refine za zeh fun b19 => zw 0 rfl rfl rfl ?_
 refine zJ <| zS <| Qm rfl ?_
 refine zhl [3] ?_
 refine zBB 1 sp_ rfl (fun w hb _ hw => c_spec_l00Src_one s_code at2 sd2 3 hb (ok_ hw)) ?_
 rintro _ _ G20 ⟨X20BX, X20AT, X20SD, rfl, rfl, hX20_0, hX20_1⟩
 refine znl ?_
 refine JL.nil ?_
 refine zf [0, 1, 1, 1, 1, 1] fun GG21 => ?_
 refine zn ?_
 refine zk [0, 1, 4, 5, 6] (fun F U l os u => ∃ (pp : M.Pos) (at3 sd3 : Int) (A22_6_0 : Option Addr) (c22_6_0 : Nat) (g22_6_0 : List Nat) (A22_6_1 : Option Addr) (c22_6_1 : Nat) (g22_6_1 : List Nat) (G22_6 : List Nat), l = F [] ∧ os = U [some (boxO bs [.slice As_0 s_code cs_0, .int .i64 at3, .int .u64 sd3] 189), some (boxO b19 [.slice A22_6_0 pp.pits.length c22_6_0, .slice A22_6_1 pp.stores.length c22_6_1, .int .i64 pp.player] 39), some (rowO 2 1 (.slice A22_6_1 pp.stores.length c22_6_1) pp.stores.length (ints_ pp.stores) g22_6_1), some (rowO 2 1 (.slice A22_6_0 pp.pits.length c22_6_0) pp.pits.length (ints_ pp.pits) g22_6_0), nO, nO, some (anyO G22_6)] ∧ (pp.pits.length = (2 * rr.pits).toNat ∧ pp.stores.length = 2) ∧ (s_at ≤ at3) ∧ (at3 ≤ s_at + 270) ∧ (pp.pits.length ≤ c22_6_0) ∧ (c22_6_0 ≤ 9223372036854775807) ∧ (pp.stores.length ≤ c22_6_1) ∧ (c22_6_1 ≤ 9223372036854775807)) ?_ ?_
 ·
  refine zi (fun h23 h23' => ?_) fun h23 h23' => ?_
  ·
   refine Js.region <| Qm rfl <| zBB 1 sp_ rfl (fun w hb _ hw => c_spec_l04Draw s_code X20AT X20SD rr hb (ok_ hw) (ok_ hw)) ?_
   rintro _ _ G24 ⟨X24PX, X24AT, X24SD, A24r_0, c24r_0, g24r_0, A24r_1, c24r_1, g24r_1, rfl, rfl, bl24_0, bl24_1, bl24_2, bl24_3, hX24_0, hX24_1, hX24_2⟩
   refine znl ?_
   refine zw 4 rfl rfl rfl ?_
   refine JL.nil ?_
   refine zf [0, 0, 0, 1, 1, 1, 1, 1] fun GG25 => ?_
   refine zn ?_
   refine zf [0, 2, 1, 0, 2, 2] fun GG26 => ?_
   refine zn ?_
   exact zm ⟨(X24PX), (X24AT), (X24SD), _, _, _, _, _, _, _, rfl, rfl, by first | omega | exact ⟨hl0, hl1⟩, by first | assumption | omega | rfl | (dsimp only; omega) | (simp; done), by first | assumption | omega | rfl | (dsimp only; omega) | (simp; done), by first | assumption | omega | rfl | (dsimp only; omega) | (simp; done), by first | assumption | omega | rfl | (dsimp only; omega) | (simp; done), by first | assumption | omega | rfl | (dsimp only; omega) | (simp; done), by first | assumption | omega | rfl | (dsimp only; omega) | (simp; done)⟩ (Up.refl _ _)
  refine Js.skip ?_
  exact zm ⟨((M.startP rr)), (X20AT), (X20SD), _, _, _, _, _, _, _, rfl, rfl, by first | omega | exact ⟨hl0, hl1⟩, by first | assumption | omega | rfl | (dsimp only; omega) | (simp; done), by first | assumption | omega | rfl | (dsimp only; omega) | (simp; done), by first | assumption | omega | rfl | (dsimp only; omega) | (simp; done), by first | assumption | omega | rfl | (dsimp only; omega) | (simp; done), by first | assumption | omega | rfl | (dsimp only; omega) | (simp; done), by first | assumption | omega | rfl | (dsimp only; omega) | (simp; done)⟩ (Up.refl _ _)
 rintro _ _ u22 ⟨pp, at3, sd3, A22_6_0, c22_6_0, g22_6_0, A22_6_1, c22_6_1, g22_6_1, G22_6, rfl, rfl, hp9, hc0, hc1, f22_3, f22_4, f22_5, f22_6⟩ x22
 refine zn ?_
 refine zS <| zc rfl (fun w hw => c_spec_l08New rr pp (ok_ hw) (ok_ hw)) ?_
 intro A28 c28 bl28 bh28 A29 c29 bl29 bh29 A30 c30 bl30 bh30 A31 c31 bl31 bh31 A32 c32 bl32 bh32
 refine za zeh fun b33 => zw 0 rfl rfl rfl ?_
 refine JL.nil ?_
 refine zf [0, 0, 0, 0, 0, 0, 0, 4] fun GG34 => ?_
 refine zn ?_
 refine Js.seq <| zS <| Qm rfl <| Qm rfl <| Qp rfl rfl ?_
 refine zhl [6] ?_
 refine zBB 1 sp_ rfl (fun w hb _ hw => c_spec_l00Src_pick s_code at3 sd3 (most + 1) hb (ok_ hw)) ?_
 rintro _ _ G35 ⟨X35KX, X35AT, X35SD, rfl, rfl, hX35_0, hX35_1, hX35_2, hX35_3⟩
 refine znl ?_
 refine Qa rfl <| JL.nil ?_
 refine zf [0, 1, 1, 1, 1, 1, 1, 1] fun GG36 => ?_
 refine zn ?_
 refine Js.block ?_
 refine zl [0, 4, 7] (fun F U l os u m => ∃ (j at1 sd1 : Int) (gk : M.Gam) (A37_7_9 : Option Addr) (c37_7_9 : Nat) (g37_7_9 : List Nat) (A37_7_10 : Option Addr) (c37_7_10 : Nat) (g37_7_10 : List Nat) (A37_7_12 : Option Addr) (c37_7_12 : Nat) (g37_7_12 : List Nat) (A37_7_13 : Option Addr) (c37_7_13 : Nat) (g37_7_13 : List Nat) (A37_7_14 : Option Addr) (c37_7_14 : Nat) (g37_7_14 : List Nat) (G37_8 : List Nat), l = F [(8, .int .i64 j)] ∧ os = U [some (boxO bs [.slice As_0 s_code cs_0, .int .i64 at1, .int .u64 sd1] 189), some (boxO b33 [.int .i64 gk.rules.pits, .int .i64 gk.rules.seeds, .bool gk.rules.stores, .bool gk.rules.skip, .bool gk.rules.relay, .bool gk.rules.feed, .bool gk.rules.again, .int .i64 gk.rules.capture, .int .i64 gk.rules.slam, .slice A37_7_9 gk.start.pits.length c37_7_9, .slice A37_7_10 gk.start.stores.length c37_7_10, .int .i64 gk.start.player, .slice A37_7_12 gk.moves.length c37_7_12, .slice A37_7_13 gk.now.pits.length c37_7_13, .slice A37_7_14 gk.now.stores.length c37_7_14, .int .i64 gk.now.player, .int .i64 gk.resigned] 56), some (rowO 2 1 (.slice A37_7_14 gk.now.stores.length c37_7_14) gk.now.stores.length (ints_ gk.now.stores) g37_7_14), some (rowO 2 1 (.slice A37_7_13 gk.now.pits.length c37_7_13) gk.now.pits.length (ints_ gk.now.pits) g37_7_13), some (rowO 2 1 (.slice A37_7_12 gk.moves.length c37_7_12) gk.moves.length (ints_ gk.moves) g37_7_12), some (rowO 2 1 (.slice A37_7_10 gk.start.stores.length c37_7_10) gk.start.stores.length (ints_ gk.start.stores) g37_7_10), some (rowO 2 1 (.slice A37_7_9 gk.start.pits.length c37_7_9) gk.start.pits.length (ints_ gk.start.pits) g37_7_9), nO, some (anyO G37_8)] ∧ (0 ≤ j ∧ j ≤ 21) ∧ (s_at ≤ at1) ∧ (at1 + 2 * j ≤ s_at + 400) ∧ (M.Small gk) ∧ (gk.moves.length ≤ 120) ∧ (gk.now.stores.length = 2) ∧ (1 ≤ gk.now.pits.length) ∧ (gk.start.pits.length ≤ c37_7_9) ∧ (c37_7_9 ≤ 9223372036854775807) ∧ (gk.start.stores.length ≤ c37_7_10) ∧ (c37_7_10 ≤ 9223372036854775807) ∧ (gk.moves.length ≤ c37_7_12) ∧ (c37_7_12 ≤ 9223372036854775807) ∧ (gk.now.pits.length ≤ c37_7_13) ∧ (c37_7_13 ≤ 9223372036854775807) ∧ (gk.now.stores.length ≤ c37_7_14) ∧ (c37_7_14 ≤ 9223372036854775807) ∧ m = j.toNat) ⟨X35KX, X35AT, X35SD, (M.Gam.mk rr pp [] pp (-1)), _, _, _, _, _, _, _, _, _, _, _, _, _, _, _, _, rfl, rfl, zt, zt, zt, by exact ⟨by dsimp only; omega, by dsimp only; omega, by simp, by dsimp only; omega, by dsimp only; omega⟩, by simp, by dsimp only; omega, by dsimp only; omega, zu, zu, zu, zu, zu, zu, zu, zu, zu, zu, rfl⟩ ?_
 rintro _ _ u37 _ ⟨j, at1, sd1, gk, A37_7_9, c37_7_9, g37_7_9, A37_7_10, c37_7_10, g37_7_10, A37_7_12, c37_7_12, g37_7_12, A37_7_13, c37_7_13, g37_7_13, A37_7_14, c37_7_14, g37_7_14, G37_8, rfl, rfl, hj, ha0, ha1, hs, hm, hst, hnp, f37_7, f37_8, f37_9, f37_10, f37_11, f37_12, f37_13, f37_14, f37_15, f37_16, rfl⟩ x37
 refine zn ?_
 have s1 := hs.sp
 have s2 := hs.ss
 have s3 := hs.m
 have s4 := hs.np
 have s5 := hs.ns
 refine Js.seq <| zS <| Qm rfl <| Qg rfl rfl <| JL.nil ?_
 refine zi (fun h38 h38' => ?_) fun h38 h38' => ?_
 ·
  refine Js.skip <| Js.seq <| Js.block <| zS <| Qm rfl <| zBB 1 sp_ rfl (fun w hb _ hw => c_spec_l08Legal s_code at1 sd1 gk hb (ok_ hw) (ok_ hw)) ?_
  rintro _ _ G39 ⟨X39KX, X39AT, X39SD, rfl, rfl, hX39_0, hX39_1⟩
  refine znl ?_
  refine Qa rfl <| JL.nil ?_
  refine zf [0, 1, 1, 1, 1, 1, 1, 1] fun GG40 => ?_
  refine zn ?_
  refine Js.seq <| zS <| Qm rfl <| Ql rfl rfl <| JL.nil ?_
  refine zi (fun h41 h41' => ?_) fun h41 h41' => ?_
  ·
   refine zx ?_
   refine Js.seq <| zS <| Qm rfl <| zBB 1 sp_ rfl (fun w hb _ hw => c_spec_l00Src_one s_code X39AT X39SD 10 hb (ok_ hw)) ?_
   rintro _ _ G42 ⟨X42BX, X42AT, X42SD, rfl, rfl, hX42_0, hX42_1⟩
   refine znl ?_
   refine JL.nil ?_
   refine zf [0, 1, 1, 1, 1, 1, 1, 1] fun GG43 => ?_
   refine zn ?_
   refine zi (fun h44 h44' => ?_) fun h44 h44' => ?_
   ·
    refine Js.region <| Qm rfl <| zBB 1 sp_ rfl (fun w hb _ hw => c_spec_l00Src_pick s_code X42AT X42SD 2 hb (ok_ hw)) ?_
    rintro _ _ G45 ⟨X45KX, X45AT, X45SD, rfl, rfl, hX45_0, hX45_1, hX45_2, hX45_3⟩
    refine znl ?_
    refine Qf fh rfl <| zw 2 rfl rfl rfl ?_
    refine JL.nil ?_
    refine zf [0, 1, 1, 1, 1, 1, 1, 1] fun GG46 => ?_
    refine zn ?_
    refine zS <| Q9 1 rfl rfl ?_
    refine zw 7 rfl rfl rfl ?_
    refine JL.nil ?_
    refine zf [0, 1, 1, 1, 1, 1, 1] fun GG47 => ?_
    refine zn ?_
    refine zrb [0, 4, 3, 2, 1, 0] hb ((x7.trans x22).trans x37) ?_
    refine ⟨((M.Gam.mk gk.rules gk.start gk.moves gk.now X45KX)), (X45AT), (X45SD), A37_7_9, c37_7_9, g37_7_9, A37_7_10, c37_7_10, g37_7_10, A37_7_12, c37_7_12, g37_7_12, A37_7_13, c37_7_13, g37_7_13, A37_7_14, c37_7_14, g37_7_14, rfl, ?_, ?_, ?_, ?_, ?_, ?_, ?_, ?_, ?_, ?_, ?_, by first | trivial | exact ⟨hs, by omega, hst, hnp⟩ | exact ⟨⟨hs.sp, hs.ss, hs.m, hs.np, hs.ns⟩, by dsimp only; omega, hst, hnp⟩ | omega, by first | trivial | exact ⟨hs, by omega, hst, hnp⟩ | exact ⟨⟨hs.sp, hs.ss, hs.m, hs.np, hs.ns⟩, by dsimp only; omega, hst, hnp⟩ | omega, by first | trivial | exact ⟨hs, by omega, hst, hnp⟩ | exact ⟨⟨hs.sp, hs.ss, hs.m, hs.np, hs.ns⟩, by dsimp only; omega, hst, hnp⟩ | omega⟩
    · rfl
    all_goals (try dsimp only)
    all_goals (first | (omega) | omega | (simp only [*]; omega))
   refine Js.skip <| zS <| Q9 1 rfl rfl ?_
   refine zw 7 rfl rfl rfl ?_
   refine JL.nil ?_
   refine zf [0, 1, 1, 1, 1, 1, 1] fun GG48 => ?_
   refine zn ?_
   refine zrb [0, 4, 3, 2, 1, 0] hb ((x7.trans x22).trans x37) ?_
   refine ⟨(gk), (X42AT), (X42SD), A37_7_9, c37_7_9, g37_7_9, A37_7_10, c37_7_10, g37_7_10, A37_7_12, c37_7_12, g37_7_12, A37_7_13, c37_7_13, g37_7_13, A37_7_14, c37_7_14, g37_7_14, rfl, ?_, ?_, ?_, ?_, ?_, ?_, ?_, ?_, ?_, ?_, ?_, by first | trivial | exact ⟨hs, by omega, hst, hnp⟩ | exact ⟨⟨hs.sp, hs.ss, hs.m, hs.np, hs.ns⟩, by dsimp only; omega, hst, hnp⟩ | omega, by first | trivial | exact ⟨hs, by omega, hst, hnp⟩ | exact ⟨⟨hs.sp, hs.ss, hs.m, hs.np, hs.ns⟩, by dsimp only; omega, hst, hnp⟩ | omega, by first | trivial | exact ⟨hs, by omega, hst, hnp⟩ | exact ⟨⟨hs.sp, hs.ss, hs.m, hs.np, hs.ns⟩, by dsimp only; omega, hst, hnp⟩ | omega⟩
   · rfl
   all_goals (try dsimp only)
   all_goals (first | (omega) | omega | (simp only [*]; omega))
  refine Js.skip <| zS <| Qm rfl <| zc rfl (fun w hw => c_spec_l08Play gk X39KX (ok_ hw)) ?_
  intro A51 c51 bl51 bh51 A52 c52 bl52 bh52 A53 c53 bl53 bh53 A54 c54 bl54 bh54 A55 c55 bl55 bh55
  refine Qm rfl <| Qx rfl rfl <| Qx rfl rfl <| za zeh fun b56 => zw 0 rfl rfl rfl ?_
  refine Qa rfl <| zN <| Qm rfl <| Qe rfl rfl <| JL.nil ?_
  refine zi (fun h57 h57' => ?_) fun h57 h57' => ?_
  ·
   have hz : (M.play gk X39KX).2 = 0 := by simpa using h57
   refine Js.region <| Q9 0 rfl rfl ?_
   refine zw 7 rfl rfl rfl ?_
   refine JL.nil ?_
   refine zf [1, 1, 1, 1, 1, 1, 1, 6] fun GG58 => ?_
   refine zn ?_
   refine Js.blockEnd <| Js.region <| Qm rfl <| Qs rfl rfl <| Qa rfl <| JL.nil ?_
   refine zf [5, 5, 0, 0, 0, 0, 0, 0] fun GG59 => ?_
   refine zn ?_
   exact zag ⟨j - 1, X39AT, X39SD, ((M.play gk X39KX).1), _, _, _, _, _, _, _, _, _, _, _, _, _, _, _, _, rfl, rfl, zt, zt, zt, by first | exact hs | exact hs.play hz, by first | exact hm | exact M.play_120 hm hz, by first | exact hst | exact M.play_stores hst hz, by first | exact hnp | exact M.play_pits hnp hz, zu, zu, zu, zu, zu, zu, zu, zu, zu, zu, rfl⟩ x37
  refine Js.skip <| Js.blockEnd <| Js.region <| Qm rfl <| Qs rfl rfl <| Qa rfl <| JL.nil ?_
  refine zf [6, 6, 6, 6, 6, 6, 6, 6] fun GG60 => ?_
  refine zn ?_
  exact zag ⟨j - 1, X39AT, X39SD, gk, _, _, _, _, _, _, _, _, _, _, _, _, _, _, _, _, rfl, rfl, zt, zt, zt, by first | exact hs | exact hs.play hz, by first | exact hm | exact M.play_120 hm hz, by first | exact hst | exact M.play_stores hst hz, by first | exact hnp | exact M.play_pits hnp hz, zu, zu, zu, zu, zu, zu, zu, zu, zu, zu, rfl⟩ x37
 refine zx ?_
 refine Js.seq <| zS <| Qm rfl <| zBB 1 sp_ rfl (fun w hb _ hw => c_spec_l00Src_one s_code at1 sd1 10 hb (ok_ hw)) ?_
 rintro _ _ G61 ⟨X61BX, X61AT, X61SD, rfl, rfl, hX61_0, hX61_1⟩
 refine znl ?_
 refine JL.nil ?_
 refine zf [0, 1, 1, 1, 1, 1, 1, 1] fun GG62 => ?_
 refine zn ?_
 refine zi (fun h63 h63' => ?_) fun h63 h63' => ?_
 ·
  refine Js.region <| Qm rfl <| zBB 1 sp_ rfl (fun w hb _ hw => c_spec_l00Src_pick s_code X61AT X61SD 2 hb (ok_ hw)) ?_
  rintro _ _ G64 ⟨X64KX, X64AT, X64SD, rfl, rfl, hX64_0, hX64_1, hX64_2, hX64_3⟩
  refine znl ?_
  refine Qf fh rfl <| zw 2 rfl rfl rfl ?_
  refine JL.nil ?_
  refine zf [0, 1, 1, 1, 1, 1, 1, 1] fun GG65 => ?_
  refine zn ?_
  refine zS <| Q9 1 rfl rfl ?_
  refine zw 7 rfl rfl rfl ?_
  refine JL.nil ?_
  refine zf [0, 1, 1, 1, 1, 1, 1] fun GG66 => ?_
  refine zn ?_
  refine zrb [0, 4, 3, 2, 1, 0] hb ((x7.trans x22).trans x37) ?_
  refine ⟨((M.Gam.mk gk.rules gk.start gk.moves gk.now X64KX)), (X64AT), (X64SD), A37_7_9, c37_7_9, g37_7_9, A37_7_10, c37_7_10, g37_7_10, A37_7_12, c37_7_12, g37_7_12, A37_7_13, c37_7_13, g37_7_13, A37_7_14, c37_7_14, g37_7_14, rfl, ?_, ?_, ?_, ?_, ?_, ?_, ?_, ?_, ?_, ?_, ?_, by first | trivial | exact ⟨hs, by omega, hst, hnp⟩ | exact ⟨⟨hs.sp, hs.ss, hs.m, hs.np, hs.ns⟩, by dsimp only; omega, hst, hnp⟩ | omega, by first | trivial | exact ⟨hs, by omega, hst, hnp⟩ | exact ⟨⟨hs.sp, hs.ss, hs.m, hs.np, hs.ns⟩, by dsimp only; omega, hst, hnp⟩ | omega, by first | trivial | exact ⟨hs, by omega, hst, hnp⟩ | exact ⟨⟨hs.sp, hs.ss, hs.m, hs.np, hs.ns⟩, by dsimp only; omega, hst, hnp⟩ | omega⟩
  · rfl
  all_goals (try dsimp only)
  all_goals (first | (omega) | omega | (simp only [*]; omega))
 refine Js.skip <| zS <| Q9 1 rfl rfl ?_
 refine zw 7 rfl rfl rfl ?_
 refine JL.nil ?_
 refine zf [0, 1, 1, 1, 1, 1, 1] fun GG67 => ?_
 refine zn ?_
 refine zrb [0, 4, 3, 2, 1, 0] hb ((x7.trans x22).trans x37) ?_
 refine ⟨(gk), (X61AT), (X61SD), A37_7_9, c37_7_9, g37_7_9, A37_7_10, c37_7_10, g37_7_10, A37_7_12, c37_7_12, g37_7_12, A37_7_13, c37_7_13, g37_7_13, A37_7_14, c37_7_14, g37_7_14, rfl, ?_, ?_, ?_, ?_, ?_, ?_, ?_, ?_, ?_, ?_, ?_, by first | trivial | exact ⟨hs, by omega, hst, hnp⟩ | exact ⟨⟨hs.sp, hs.ss, hs.m, hs.np, hs.ns⟩, by dsimp only; omega, hst, hnp⟩ | omega, by first | trivial | exact ⟨hs, by omega, hst, hnp⟩ | exact ⟨⟨hs.sp, hs.ss, hs.m, hs.np, hs.ns⟩, by dsimp only; omega, hst, hnp⟩ | omega, by first | trivial | exact ⟨hs, by omega, hst, hnp⟩ | exact ⟨⟨hs.sp, hs.ss, hs.m, hs.np, hs.ns⟩, by dsimp only; omega, hst, hnp⟩ | omega⟩
 · rfl
 all_goals (try dsimp only)
 all_goals (first | (omega) | omega | (simp only [*]; omega))
theorem c_spec_l08Cycle (many : Int) {w : World} (r0 : 0 ≤ many := by exact om_) (r1 : many ≤ 120 := by exact om_) : Ret Tryz.prog 154 [.int .i64 many] w (Ty.ex (fun (GX : M.Gam) => (M.Small GX ∧ GX.moves.length ≤ 121 ∧ GX.now.stores.length = 2 ∧ 1 ≤ GX.now.pits.length)) (fun GX => Ty.agg (cGame GX))) := by
 have hq0 : ([1, 0, 1, 0] : List Int).length = 4 := rfl
 refine enter @Tryz.func154 @Tryz.ntmps154 rfl rfl ?_
 refine zent ?_
 refine zS <| za zeh fun b1 => zN <| Qb ?_
 refine za zeh fun b2 => zw 0 rfl rfl rfl ?_
 refine zN <| zbs fun b3 => ?_
 refine zbs fun b5 => ?_
 refine Qb ?_
 refine za zeh fun b7 => zw 0 rfl rfl rfl ?_
 refine zN <| zc rfl (fun w hw => c_spec_l08New (M.Rul.mk 2 1 false false false false false 0 0) (M.Pos.mk [1, 0, 1, 0] [0, 0] 0) (ok_ hw) ⟨_, _, [.slice (some ⟨b3, 0, none⟩) 4 4, .slice (some ⟨b5, 0, none⟩) 2 2, .int .i64 0], rfl, ⟨(ints_rowok (xs := [1, 0, 1, 0]) (hw.pr (i := 2) rfl)), (ints_rowok (xs := [0, 0]) (hw.pr (i := 1) rfl)), rfl, trivial⟩, Mem.boxR (i := 0) rfl 0 3 _ hw⟩ (r0 := (by simp)) (r1 := (by simp))) ?_
 intro A9 c9 bl9 bh9 A10 c10 bl10 bh10 A11 c11 bl11 bh11 A12 c12 bl12 bh12 A13 c13 bl13 bh13
 refine za zeh fun b14 => zw 0 rfl rfl rfl ?_
 refine zJ <| Js.block ?_
 refine zl [0, 2, 3, 5] (fun F U l os u m => ∃ (gk : M.Gam) (A15_5_9 : Option Addr) (c15_5_9 : Nat) (g15_5_9 : List Nat) (A15_5_10 : Option Addr) (c15_5_10 : Nat) (g15_5_10 : List Nat) (A15_5_12 : Option Addr) (c15_5_12 : Nat) (g15_5_12 : List Nat) (A15_5_13 : Option Addr) (c15_5_13 : Nat) (g15_5_13 : List Nat) (A15_5_14 : Option Addr) (c15_5_14 : Nat) (g15_5_14 : List Nat), l = F [] ∧ os = U [some (boxO b14 [.int .i64 gk.rules.pits, .int .i64 gk.rules.seeds, .bool gk.rules.stores, .bool gk.rules.skip, .bool gk.rules.relay, .bool gk.rules.feed, .bool gk.rules.again, .int .i64 gk.rules.capture, .int .i64 gk.rules.slam, .slice A15_5_9 gk.start.pits.length c15_5_9, .slice A15_5_10 gk.start.stores.length c15_5_10, .int .i64 gk.start.player, .slice A15_5_12 gk.moves.length c15_5_12, .slice A15_5_13 gk.now.pits.length c15_5_13, .slice A15_5_14 gk.now.stores.length c15_5_14, .int .i64 gk.now.player, .int .i64 gk.resigned] 56), some (rowO 2 1 (.slice A15_5_14 gk.now.stores.length c15_5_14) gk.now.stores.length (ints_ gk.now.stores) g15_5_14), some (rowO 2 1 (.slice A15_5_13 gk.now.pits.length c15_5_13) gk.now.pits.length (ints_ gk.now.pits) g15_5_13), some (rowO 2 1 (.slice A15_5_12 gk.moves.length c15_5_12) gk.moves.length (ints_ gk.moves) g15_5_12), some (rowO 2 1 (.slice A15_5_10 gk.start.stores.length c15_5_10) gk.start.stores.length (ints_ gk.start.stores) g15_5_10), some (rowO 2 1 (.slice A15_5_9 gk.start.pits.length c15_5_9) gk.start.pits.length (ints_ gk.start.pits) g15_5_9)] ∧ (M.Small gk) ∧ (gk.moves.length ≤ 120) ∧ (gk.now.stores.length = 2) ∧ (1 ≤ gk.now.pits.length) ∧ (gk.start.pits.length ≤ c15_5_9) ∧ (c15_5_9 ≤ 9223372036854775807) ∧ (gk.start.stores.length ≤ c15_5_10) ∧ (c15_5_10 ≤ 9223372036854775807) ∧ (gk.moves.length ≤ c15_5_12) ∧ (c15_5_12 ≤ 9223372036854775807) ∧ (gk.now.pits.length ≤ c15_5_13) ∧ (c15_5_13 ≤ 9223372036854775807) ∧ (gk.now.stores.length ≤ c15_5_14) ∧ (c15_5_14 ≤ 9223372036854775807) ∧ m = many.toNat - gk.moves.length) ⟨(M.Gam.mk (M.Rul.mk 2 1 false false false false false 0 0) (M.Pos.mk [1, 0, 1, 0] [0, 0] 0) [] (M.Pos.mk [1, 0, 1, 0] [0, 0] 0) (-1)), _, _, _, _, _, _, _, _, _, _, _, _, _, _, _, rfl, rfl, by exact ⟨by simp, by simp, by simp, by simp, by simp⟩, by simp, by rfl, by simp, zu, zu, zu, zu, zu, zu, zu, zu, zu, zu, rfl⟩ ?_
 rintro _ _ u15 _ ⟨gk, A15_5_9, c15_5_9, g15_5_9, A15_5_10, c15_5_10, g15_5_10, A15_5_12, c15_5_12, g15_5_12, A15_5_13, c15_5_13, g15_5_13, A15_5_14, c15_5_14, g15_5_14, rfl, rfl, hs, hm, hst, hnp, f15_4, f15_5, f15_6, f15_7, f15_8, f15_9, f15_10, f15_11, f15_12, f15_13, rfl⟩ x15
 refine zn ?_
 have s1 := hs.sp
 have s2 := hs.ss
 have s3 := hs.m
 have s4 := hs.np
 have s5 := hs.ns
 have hll := M.legal_len (M.Rul.mk 2 1 false false false false false 0 0) gk.now
 refine Js.seq <| zS <| Qf fh rfl <| Q0 0 rfl rfl rfl <| Qz rfl <| Qm rfl <| Ql rfl rfl <| JL.nil ?_
 refine zi (fun h16 h16' => ?_) fun h16 h16' => ?_
 ·
  refine Js.skip <| Js.block <| zS <| Q9 9 rfl rfl ?_
  refine Qf fh rfl <| Q9 0 rfl rfl ?_
  refine zp rfl (fun w hw => c_spec_LegalMoves (M.Rul.mk 2 1 false false false false false 0 0) gk.now (ok_ hw) (ok_ hw)) ?_
  intro u17 x17 A18 c18 h18 bl18 bh18 X19 hX19
  refine Qm rfl <| Qx rfl rfl <| Qx rfl rfl <| Qa rfl <| Qa rfl <| zJ <| zS <| Qm rfl <| Qz rfl <| Qe rfl rfl <| JL.nil ?_
  refine zi (fun h20 h20' => ?_) fun h20 h20' => ?_
  ·
   refine zS <| Q9 0 rfl rfl ?_
   refine zw 10 rfl rfl rfl ?_
   refine JL.nil ?_
   exact zro (x15.trans x17) (g := by exact (gv_ex gk (by first | trivial | exact ⟨hs, by omega, hst, hnp⟩ | exact ⟨⟨hs.sp, hs.ss, hs.m, hs.np, hs.ns⟩, by dsimp only; omega, hst, hnp⟩ | omega) gv_))
  obtain ⟨b21, o21, he21, hc21⟩ := ints_elem h18 (i := ((((M.legal (M.Rul.mk 2 1 false false false false false 0 0) gk.now).length) : Int) - 1).toNat) (by omega)
  refine Js.skip <| zS <| Qm rfl <| Qm rfl <| Qz rfl <| Qs rfl rfl <| Qq (p_indexAddr el_27 rfl rfl (by omega) (by omega) he21) <| QC hc21 rfl <| zc rfl (fun w hw => c_spec_l08Play gk (M.nth (M.legal (M.Rul.mk 2 1 false false false false false 0 0) gk.now) (((((M.legal (M.Rul.mk 2 1 false false false false false 0 0) gk.now).length) : Int) - 1).toNat)) (ok_ hw)) ?_
  intro A24 c24 bl24 bh24 A25 c25 bl25 bh25 A26 c26 bl26 bh26 A27 c27 bl27 bh27 A28 c28 bl28 bh28
  refine Qm rfl <| Qx rfl rfl <| Qx rfl rfl <| za zeh fun b29 => zw 0 rfl rfl rfl ?_
  refine Qa rfl <| zJ <| zS <| Qm rfl <| Qd rfl rfl <| JL.nil ?_
  refine zi (fun h30 h30' => ?_) fun h30 h30' => ?_
  ·
   refine zS <| Q9 6 rfl rfl ?_
   refine zw 16 rfl rfl rfl ?_
   refine JL.nil ?_
   exact zro (x15.trans x17) (g := by exact (gv_ex gk (by first | trivial | exact ⟨hs, by omega, hst, hnp⟩ | exact ⟨⟨hs.sp, hs.ss, hs.m, hs.np, hs.ns⟩, by dsimp only; omega, hst, hnp⟩ | omega) gv_))
  have hz : (M.play gk (M.nth (M.legal (M.Rul.mk 2 1 false false false false false 0 0) gk.now) (((((M.legal (M.Rul.mk 2 1 false false false false false 0 0) gk.now).length) : Int) - 1).toNat))).2 = 0 := by simpa using h30
  refine Js.skip <| Js.region <| Q9 0 rfl rfl ?_
  refine zw 6 rfl rfl rfl ?_
  refine JL.nil <| Js.blockEnd ?_
  refine zd [6, 1, 1, 1, 1, 1, 6, 6, 6, 6, 6] rfl fun u31 x31 => ?_
  exact zag ⟨((M.play gk (M.nth (M.legal (M.Rul.mk 2 1 false false false false false 0 0) gk.now) (((((M.legal (M.Rul.mk 2 1 false false false false false 0 0) gk.now).length) : Int) - 1).toNat))).1), _, _, _, _, _, _, _, _, _, _, _, _, _, _, _, rfl, rfl, by first | exact hs | exact hs.play hz, by first | exact hm | exact M.play_120 hm hz, by first | exact hst | exact M.play_stores hst hz, by first | exact hnp | exact M.play_pits hnp hz, zu, zu, zu, zu, zu, zu, zu, zu, zu, zu, rfl⟩ ((x15.trans x17).trans x31) (by have := M.play_len hz; omega)
 refine zx ?_
 refine zS <| Q9 0 rfl rfl ?_
 refine zw 10 rfl rfl rfl ?_
 refine JL.nil ?_
 exact zro x15 (g := by exact (gv_ex gk (by first | trivial | exact ⟨hs, by omega, hst, hnp⟩ | exact ⟨⟨hs.sp, hs.ss, hs.m, hs.np, hs.ns⟩, by dsimp only; omega, hst, hnp⟩ | omega) gv_))
theorem c_spec_l08Bent (s_code : Nat) (s_at s_seed : Int) {As_0 : Option Addr} {cs_0 bs : Nat} {w : World} (hb : Bw w [boxO bs [.slice As_0 s_code cs_0, .int .i64 s_at, .int .u64 s_seed] 189]) (hps_0 : (Ty.bytes 5 s_code).ok (offW w (([boxO bs [.slice As_0 s_code cs_0, .int .i64 s_at, .int .u64 s_seed] 189] : List Own).flatMap (·.fp))) (.slice As_0 s_code cs_0)) (r0 : 0 ≤ s_at := by exact om_) (r1 : s_at ≤ 999998000 := by exact om_) (r2 : s_code ≤ 1048576 := by exact om_) : RetB Tryz.prog 106 [.pointer (some ⟨bs, 0, none⟩)] w [boxO bs [.slice As_0 s_code cs_0, .int .i64 s_at, .int .u64 s_seed] 189] (fun v bs' => ∃ (GX : M.Gam) (AT SD : Int) (Axr_9 : Option Addr) (cxr_9 : Nat) (gxr_9 : List Nat) (Axr_10 : Option Addr) (cxr_10 : Nat) (gxr_10 : List Nat) (Axr_12 : Option Addr) (cxr_12 : Nat) (gxr_12 : List Nat) (Axr_13 : Option Addr) (cxr_13 : Nat) (gxr_13 : List Nat) (Axr_14 : Option Addr) (cxr_14 : Nat) (gxr_14 : List Nat), v = .agg #[.int .i64 GX.rules.pits, .int .i64 GX.rules.seeds, .bool GX.rules.stores, .bool GX.rules.skip, .bool GX.rules.relay, .bool GX.rules.feed, .bool GX.rules.again, .int .i64 GX.rules.capture, .int .i64 GX.rules.slam, .slice Axr_9 GX.start.pits.length cxr_9, .slice Axr_10 GX.start.stores.length cxr_10, .int .i64 GX.start.player, .slice Axr_12 GX.moves.length cxr_12, .slice Axr_13 GX.now.pits.length cxr_13, .slice Axr_14 GX.now.stores.length cxr_14, .int .i64 GX.now.player, .int .i64 GX.resigned] ∧ bs' = [boxO bs [.slice As_0 s_code cs_0, .int .i64 AT, .int .u64 SD] 189, rowO 2 1 (.slice Axr_9 GX.start.pits.length cxr_9) GX.start.pits.length (ints_ GX.start.pits) gxr_9, rowO 2 1 (.slice Axr_10 GX.start.stores.length cxr_10) GX.start.stores.length (ints_ GX.start.stores) gxr_10, rowO 2 1 (.slice Axr_12 GX.moves.length cxr_12) GX.moves.length (ints_ GX.moves) gxr_12, rowO 2 1 (.slice Axr_13 GX.now.pits.length cxr_13) GX.now.pits.length (ints_ GX.now.pits) gxr_13, rowO 2 1 (.slice Axr_14 GX.now.stores.length cxr_14) GX.now.stores.length (ints_ GX.now.stores) gxr_14] ∧ GX.start.pits.length ≤ cxr_9 ∧ cxr_9 ≤ 9223372036854775807 ∧ GX.start.stores.length ≤ cxr_10 ∧ cxr_10 ≤ 9223372036854775807 ∧ GX.moves.length ≤ cxr_12 ∧ cxr_12 ≤ 9223372036854775807 ∧ GX.now.pits.length ≤ cxr_13 ∧ cxr_13 ≤ 9223372036854775807 ∧ GX.now.stores.length ≤ cxr_14 ∧ cxr_14 ≤ 9223372036854775807 ∧ (GX.start.pits.length ≤ 4194304 ∧ GX.start.stores.length ≤ 4194304 ∧ GX.moves.length ≤ 122 ∧ GX.now.pits.length ≤ 4194304 ∧ GX.now.stores.length = 2) ∧ (s_at ≤ AT) ∧ (AT ≤ s_at + 2000)) := by
 refine enterB hb @Tryz.func106 @Tryz.ntmps106 rfl rfl ?_
 refine zent ?_
 refine Js.trashE ?_
 refine zn ?_
 refine zS <| za zeh fun b1 => zN <| Qm rfl ?_
 refine zhl [1] ?_
 refine zBB 1 sp_ rfl (fun w hb _ hw => c_spec_l08Draw s_code s_at s_seed 12 hb (ok_ hw)) ?_
 rintro _ _ G2 ⟨X2GX, X2AT, X2SD, A2r_9, c2r_9, g2r_9, A2r_10, c2r_10, g2r_10, A2r_12, c2r_12, g2r_12, A2r_13, c2r_13, g2r_13, A2r_14, c2r_14, g2r_14, rfl, rfl, bl2_0, bl2_1, bl2_2, bl2_3, bl2_4, bl2_5, bl2_6, bl2_7, bl2_8, bl2_9, hX2_0, hX2_1, hX2_2⟩
 refine znl ?_
 refine za zeh fun b3 => zw 0 rfl rfl rfl ?_
 refine JL.nil ?_
 refine zf [0, 0, 0, 0, 0, 0, 0, 1] fun GG4 => ?_
 refine zn ?_
 refine Js.seq <| zS <| Qm rfl ?_
 refine zhl [1] ?_
 refine zBB 1 sp_ rfl (fun w hb _ hw => c_spec_l00Src_one s_code X2AT X2SD 16 hb (ok_ hw)) ?_
 rintro _ _ G5 ⟨X5BX, X5AT, X5SD, rfl, rfl, hX5_0, hX5_1⟩
 refine znl ?_
 refine JL.nil ?_
 refine zf [0, 1, 1, 1, 1, 1, 1, 1] fun GG6 => ?_
 refine zn ?_
 refine zk [0, 2, 3] (fun F U l os u => ∃ (gk : M.Gam) (at1 sd1 : Int) (A7_3_9 : Option Addr) (c7_3_9 : Nat) (g7_3_9 : List Nat) (A7_3_10 : Option Addr) (c7_3_10 : Nat) (g7_3_10 : List Nat) (A7_3_12 : Option Addr) (c7_3_12 : Nat) (g7_3_12 : List Nat) (A7_3_13 : Option Addr) (c7_3_13 : Nat) (g7_3_13 : List Nat) (A7_3_14 : Option Addr) (c7_3_14 : Nat) (g7_3_14 : List Nat) (G7_8 : List Nat), l = F [] ∧ os = U [some (boxO bs [.slice As_0 s_code cs_0, .int .i64 at1, .int .u64 sd1] 189), some (boxO b3 [.int .i64 gk.rules.pits, .int .i64 gk.rules.seeds, .bool gk.rules.stores, .bool gk.rules.skip, .bool gk.rules.relay, .bool gk.rules.feed, .bool gk.rules.again, .int .i64 gk.rules.capture, .int .i64 gk.rules.slam, .slice A7_3_9 gk.start.pits.length c7_3_9, .slice A7_3_10 gk.start.stores.length c7_3_10, .int .i64 gk.start.player, .slice A7_3_12 gk.moves.length c7_3_12, .slice A7_3_13 gk.now.pits.length c7_3_13, .slice A7_3_14 gk.now.stores.length c7_3_14, .int .i64 gk.now.player, .int .i64 gk.resigned] 56), some (rowO 2 1 (.slice A7_3_9 gk.start.pits.length c7_3_9) gk.start.pits.length (ints_ gk.start.pits) g7_3_9), some (rowO 2 1 (.slice A7_3_10 gk.start.stores.length c7_3_10) gk.start.stores.length (ints_ gk.start.stores) g7_3_10), some (rowO 2 1 (.slice A7_3_12 gk.moves.length c7_3_12) gk.moves.length (ints_ gk.moves) g7_3_12), some (rowO 2 1 (.slice A7_3_13 gk.now.pits.length c7_3_13) gk.now.pits.length (ints_ gk.now.pits) g7_3_13), some (rowO 2 1 (.slice A7_3_14 gk.now.stores.length c7_3_14) gk.now.stores.length (ints_ gk.now.stores) g7_3_14), nO, some (anyO G7_8)] ∧ (M.Small gk) ∧ (gk.moves.length ≤ 121) ∧ (gk.now.stores.length = 2) ∧ (s_at ≤ at1) ∧ (at1 ≤ s_at + 1010) ∧ (gk.start.pits.length ≤ c7_3_9) ∧ (c7_3_9 ≤ 9223372036854775807) ∧ (gk.start.stores.length ≤ c7_3_10) ∧ (c7_3_10 ≤ 9223372036854775807) ∧ (gk.moves.length ≤ c7_3_12) ∧ (c7_3_12 ≤ 9223372036854775807) ∧ (gk.now.pits.length ≤ c7_3_13) ∧ (c7_3_13 ≤ 9223372036854775807) ∧ (gk.now.stores.length ≤ c7_3_14) ∧ (c7_3_14 ≤ 9223372036854775807)) ?_ ?_
 ·
  refine zi (fun h8 h8' => ?_) fun h8 h8' => ?_
  ·
   refine Js.region <| Qm rfl <| zbs fun b9 => ?_
   refine zhl [1] ?_
   refine zBB 1 sp_ rfl (fun w hb _ hw => c_spec_l00Src_among s_code X5AT X5SD [4, 8, 12, 119, 120] hb (ok_ hw) (ints_rowok (xs := [4, 8, 12, 119, 120]) (hw.pr (i := 0) rfl)) (r3 := (by simp)) (r4 := (by simp))) ?_
   rintro _ _ G11 ⟨X11KX, X11AT, X11SD, rfl, rfl, hX11_0, hX11_1, hX11_2⟩
   refine znl ?_
   refine zc rfl (fun w hw => c_spec_l08Cycle X11KX (r0 := (by have h9 := (by assumption : _ ∈ ([4, 8, 12, 119, 120] : List Int)); simp at h9; omega)) (r1 := (by have h9 := (by assumption : _ ∈ ([4, 8, 12, 119, 120] : List Int)); simp at h9; omega))) ?_
   intro X12 hX12 A14 c14 bl14 bh14 A15 c15 bl15 bh15 A16 c16 bl16 bh16 A17 c17 bl17 bh17 A18 c18 bl18 bh18
   refine zw 8 rfl rfl rfl ?_
   refine JL.nil ?_
   refine zf [0, 0, 0, 0, 0, 0, 2, 2, 2, 2, 2, 2, 2] fun GG19 => ?_
   refine zn ?_
   refine zf [5, 5, 4, 3, 2, 1, 0, 5] fun GG20 => ?_
   refine zn ?_
   exact zm ⟨(X12), (X11AT), (X11SD), _, _, _, _, _, _, _, _, _, _, _, _, _, _, _, _, rfl, rfl, by exact And.left (b := _ ∧ _) (by assumption), by first | assumption | omega | rfl | (dsimp only; omega) | (simp; done), by first | assumption | omega | rfl | (dsimp only; omega) | (simp; done), by first | assumption | omega | rfl | (dsimp only; omega) | (simp; done), by first | assumption | omega | rfl | (dsimp only; omega) | (simp; done), by first | assumption | omega | rfl | (dsimp only; omega) | (simp; done), by first | assumption | omega | rfl | (dsimp only; omega) | (simp; done), by first | assumption | omega | rfl | (dsimp only; omega) | (simp; done), by first | assumption | omega | rfl | (dsimp only; omega) | (simp; done), by first | assumption | omega | rfl | (dsimp only; omega) | (simp; done), by first | assumption | omega | rfl | (dsimp only; omega) | (simp; done), by first | assumption | omega | rfl | (dsimp only; omega) | (simp; done), by first | assumption | omega | rfl | (dsimp only; omega) | (simp; done), by first | assumption | omega | rfl | (dsimp only; omega) | (simp; done), by first | assumption | omega | rfl | (dsimp only; omega) | (simp; done)⟩ (Up.refl _ _)
  refine Js.skip ?_
  exact zm ⟨(X2GX), (X5AT), (X5SD), _, _, _, _, _, _, _, _, _, _, _, _, _, _, _, _, rfl, rfl, by exact And.left (b := _ ∧ _) (by assumption), by first | assumption | omega | rfl | (dsimp only; omega) | (simp; done), by first | assumption | omega | rfl | (dsimp only; omega) | (simp; done), by first | assumption | omega | rfl | (dsimp only; omega) | (simp; done), by first | assumption | omega | rfl | (dsimp only; omega) | (simp; done), by first | assumption | omega | rfl | (dsimp only; omega) | (simp; done), by first | assumption | omega | rfl | (dsimp only; omega) | (simp; done), by first | assumption | omega | rfl | (dsimp only; omega) | (simp; done), by first | assumption | omega | rfl | (dsimp only; omega) | (simp; done), by first | assumption | omega | rfl | (dsimp only; omega) | (simp; done), by first | assumption | omega | rfl | (dsimp only; omega) | (simp; done), by first | assumption | omega | rfl | (dsimp only; omega) | (simp; done), by first | assumption | omega | rfl | (dsimp only; omega) | (simp; done), by first | assumption | omega | rfl | (dsimp only; omega) | (simp; done), by first | assumption | omega | rfl | (dsimp only; omega) | (simp; done)⟩ (Up.refl _ _)
 rintro _ _ u7 ⟨gk, at1, sd1, A7_3_9, c7_3_9, g7_3_9, A7_3_10, c7_3_10, g7_3_10, A7_3_12, c7_3_12, g7_3_12, A7_3_13, c7_3_13, g7_3_13, A7_3_14, c7_3_14, g7_3_14, G7_8, rfl, rfl, hs, hm, hst, ha0, ha1, f7_5, f7_6, f7_7, f7_8, f7_9, f7_10, f7_11, f7_12, f7_13, f7_14⟩ x7
 refine zn ?_
 have s1 := hs.sp
 have s2 := hs.ss
 have s3 := hs.m
 have s4 := hs.np
 have s5 := hs.ns
 refine Js.seq <| zS <| Qm rfl <| zBB 1 sp_ rfl (fun w hb _ hw => c_spec_l00Src_pick s_code at1 sd1 30 hb (ok_ hw)) ?_
 rintro _ _ G21 ⟨X21KX, X21AT, X21SD, rfl, rfl, hX21_0, hX21_1, hX21_2, hX21_3⟩
 refine znl ?_
 refine JL.nil ?_
 refine zf [0, 1, 1, 1, 1, 1, 1, 1] fun GG22 => ?_
 refine zn ?_
 refine Js.block <| zS <| Qe rfl rfl <| Qa rfl <| JL.nil ?_
 refine zi (fun h23 h23' => ?_) fun h23 h23' => ?_
 ·
  refine Js.region <| Qm rfl <| zbs fun b24 => ?_
  refine zhl [1] ?_
  refine zBB 1 sp_ rfl (fun w hb _ hw => c_spec_l00Src_among s_code X21AT X21SD [(-2), 2, 0, 1] hb (ok_ hw) (ints_rowok (xs := [(-2), 2, 0, 1]) (hw.pr (i := 0) rfl)) (r3 := (by simp)) (r4 := (by simp))) ?_
  rintro _ _ G26 ⟨X26KX, X26AT, X26SD, rfl, rfl, hX26_0, hX26_1, hX26_2⟩
  refine znl ?_
  refine Qf fh rfl <| zw 3 rfl rfl rfl ?_
  refine JL.nil ?_
  refine zf [0, 2, 2, 2, 2, 2, 2, 2] fun GG27 => ?_
  refine zn ?_
  refine Js.blockEnd <| zS <| Q9 1 rfl rfl ?_
  refine zw 7 rfl rfl rfl ?_
  refine JL.nil ?_
  refine zf [0, 1, 1, 1, 1, 1, 1] fun GG28 => ?_
  refine zn ?_
  refine zrb [0, 0, 0, 0, 0, 0] hb x7 ?_
  refine ⟨((M.Gam.mk gk.rules gk.start gk.moves gk.now X26KX)), (X26AT), (X26SD), A7_3_9, c7_3_9, g7_3_9, A7_3_10, c7_3_10, g7_3_10, A7_3_12, c7_3_12, g7_3_12, A7_3_13, c7_3_13, g7_3_13, A7_3_14, c7_3_14, g7_3_14, rfl, ?_, ?_, ?_, ?_, ?_, ?_, ?_, ?_, ?_, ?_, ?_, by first | exact xb5_ hs hst | trivial | omega, by first | exact xb5_ hs hst | trivial | omega, by first | exact xb5_ hs hst | trivial | omega⟩
  · rfl
  all_goals (try dsimp only)
  all_goals (first | (omega) | omega | (simp only [*]; omega))
 refine zS <| Qe rfl rfl <| Qa rfl <| JL.nil ?_
 refine zi (fun h29 h29' => ?_) fun h29 h29' => ?_
 ·
  refine zk [2, 3] (fun F U l os u => ∃ (b31 : Nat) (X30KX : Int) (G30 : List Nat) (X30AT X30SD : Int) (A35 : Option Addr) (c35 : Nat) (g34 : List Nat), l = F [] ∧ os = [rowO 2 1 (.slice (some ⟨b31, 0, none⟩) 1 1) 1 [.int .i64 X30KX] [], anyO G30] ++ U [some (boxO bs [.slice As_0 s_code cs_0, .int .i64 X30AT, .int .u64 X30SD] 189), some (boxO b3 [.int .i64 gk.rules.pits, .int .i64 gk.rules.seeds, .bool gk.rules.stores, .bool gk.rules.skip, .bool gk.rules.relay, .bool gk.rules.feed, .bool gk.rules.again, .int .i64 gk.rules.capture, .int .i64 gk.rules.slam, .slice A7_3_9 gk.start.pits.length c7_3_9, .slice A7_3_10 gk.start.stores.length c7_3_10, .int .i64 gk.start.player, .slice A35 ((gk.moves ++ [X30KX]).length) c35, .slice A7_3_13 gk.now.pits.length c7_3_13, .slice A7_3_14 gk.now.stores.length c7_3_14, .int .i64 gk.now.player, .int .i64 gk.resigned] 56), nO, nO, some (rowO 2 1 (.slice A35 ((gk.moves ++ [X30KX]).length) c35) ((gk.moves ++ [X30KX]).length) (ints_ (gk.moves ++ [X30KX])) g34)] ∧ ((gk.moves ++ [X30KX]).length ≤ c35) ∧ (c35 ≤ 9223372036854775807) ∧ (0 ≤ X30KX) ∧ (X30KX = 0 ∨ X30KX < 4) ∧ (X21AT ≤ X30AT) ∧ (X30AT ≤ X21AT + 2)) ?_ ?_
  ·
   refine zdr [3, 5, 7] ?_
   refine jF 0 fld_56_2 rfl rfl ?_
   refine jM 2 rfl rfl ?_
   refine y2 1 3 ?_ ?_
   ·
    refine JHo.q rfl (q_load1 ty_27.h rfl (Mem.box (i := 1) rfl rfl)) ?_
    refine y1 3 ?_
    refine yBB 1 sp_ rfl rfl (fun w hb _ hw => c_spec_l00Src_pick s_code X21AT X21SD 4 hb (ok_ hw)) ?_
    rintro _ _ G48 ⟨X48KX, X48AT, X48SD, rfl, rfl, hX48_0, hX48_1, hX48_2, hX48_3⟩
    refine znh ?_
    refine y1 4 ?_
    refine ybs rfl fun b49 => ?_
    refine y1 5 ?_
    refine JHo.e rfl (e_append (i := 6) (n' := (gk.moves ++ [X48KX]).length) (vs' := ints_ (gk.moves ++ [X48KX])) el_27 rfl rfl rfl rfl (src_row (i := 0) und_27 rfl rfl) (by omega) (by omega) ln2_ (by simp [ints_])) (.inr rfl) ?_
    rintro v51 _ _ ⟨⟨g52, rfl⟩, rfl⟩ _
    refine JH.fact (row_form' (i := 6) rfl) (fun hf53 => ?_)
    obtain ⟨A53, c53, rfl, bl53, bh53⟩ := hf53
    refine znh ?_
    refine jF 6 fld_56_2 rfl rfl ?_
    refine y1 7 ?_
    refine yst rfl rfl rfl ?_
    refine yd ?_
    refine zh [0, 1, 0, 0, 0, 0, 0, 0, 0, 0, 0] ?_
    exact zm ⟨_, _, _, _, _, _, _, _, rfl, rfl, zt, zt, zt, zt, zt, zt⟩ (Up.refl _ _) ⟨rfl, rfl, trivial⟩
   refine yBB 1 sp_ rfl rfl (fun w hb _ hw => c_spec_l00Src_pick s_code X21AT X21SD 4 hb (ok_ hw)) ?_
   rintro _ _ G54 ⟨X54KX, X54AT, X54SD, rfl, rfl, hX54_0, hX54_1, hX54_2, hX54_3⟩
   refine znh ?_
   refine y2 1 4 ?_ ?_
   ·
    refine JHo.q rfl (q_load1 ty_27.h rfl (Mem.box (i := 2) rfl rfl)) ?_
    refine y1 4 ?_
    refine ybs rfl fun b55 => ?_
    refine y1 5 ?_
    refine JHo.e rfl (e_append (i := 6) (n' := (gk.moves ++ [X54KX]).length) (vs' := ints_ (gk.moves ++ [X54KX])) el_27 rfl rfl rfl rfl (src_row (i := 0) und_27 rfl rfl) (by omega) (by omega) ln2_ (by simp [ints_])) (.inr rfl) ?_
    rintro v57 _ _ ⟨⟨g58, rfl⟩, rfl⟩ _
    refine JH.fact (row_form' (i := 6) rfl) (fun hf59 => ?_)
    obtain ⟨A59, c59, rfl, bl59, bh59⟩ := hf59
    refine znh ?_
    refine jF 6 fld_56_2 rfl rfl ?_
    refine y1 7 ?_
    refine yst rfl rfl rfl ?_
    refine yd ?_
    refine zh [0, 1, 0, 0, 0, 0, 0, 0, 0, 0, 0] ?_
    exact zm ⟨_, _, _, _, _, _, _, _, rfl, rfl, zt, zt, zt, zt, zt, zt⟩ (Up.refl _ _) ⟨rfl, rfl, trivial⟩
   refine ybs rfl fun b60 => ?_
   refine y1 1 ?_
   refine JHo.q rfl (q_load1 ty_27.h rfl (Mem.box (i := 3) rfl rfl)) ?_
   refine y1 5 ?_
   refine JHo.e rfl (e_append (i := 6) (n' := (gk.moves ++ [X54KX]).length) (vs' := ints_ (gk.moves ++ [X54KX])) el_27 rfl rfl rfl rfl (src_row (i := 0) und_27 rfl rfl) (by omega) (by omega) ln2_ (by simp [ints_])) (.inr rfl) ?_
   rintro v62 _ _ ⟨⟨g63, rfl⟩, rfl⟩ _
   refine JH.fact (row_form' (i := 6) rfl) (fun hf64 => ?_)
   obtain ⟨A64, c64, rfl, bl64, bh64⟩ := hf64
   refine znh ?_
   refine jF 6 fld_56_2 rfl rfl ?_
   refine y1 7 ?_
   refine yst rfl rfl rfl ?_
   refine yd ?_
   refine zh [0, 1, 0, 0, 0, 0, 0, 0, 0, 0, 0] ?_
   exact zm ⟨_, _, _, _, _, _, _, _, rfl, rfl, zt, zt, zt, zt, zt, zt⟩ (Up.refl _ _) ⟨rfl, rfl, trivial⟩
  rintro _ _ u47 ⟨b31, X30KX, G30, X30AT, X30SD, A35, c35, g34, rfl, rfl, f47_0, f47_1, f47_2, f47_3, f47_4, f47_5⟩ x47
  refine zn ?_
  refine zf [2, 2, 2, 2, 2, 2, 2, 2] fun GG65 => ?_
  refine zn ?_
  refine Js.blockEnd <| zS <| Q9 1 rfl rfl ?_
  refine zw 7 rfl rfl rfl ?_
  refine JL.nil ?_
  refine zf [0, 1, 1, 1, 1, 1, 1] fun GG66 => ?_
  refine zn ?_
  refine zrb [0, 0, 0, 0, 0, 0] hb (x7.trans x47) ?_
  refine ⟨((M.Gam.mk gk.rules gk.start (gk.moves ++ [X30KX]) gk.now gk.resigned)), (X30AT), (X30SD), A7_3_9, c7_3_9, g7_3_9, A7_3_10, c7_3_10, g7_3_10, A35, c35, g34, A7_3_13, c7_3_13, g7_3_13, A7_3_14, c7_3_14, g7_3_14, rfl, ?_, ?_, ?_, ?_, ?_, ?_, ?_, ?_, ?_, ?_, ?_, by first | exact xb5_ hs hst | trivial | omega, by first | exact xb5_ hs hst | trivial | omega, by first | exact xb5_ hs hst | trivial | omega⟩
  · rfl
  all_goals (try dsimp only)
  all_goals (first | (omega) | omega | (simp only [*]; omega))
 refine zS <| Qe rfl rfl <| Qa rfl <| JL.nil ?_
 refine zi (fun h67 h67' => ?_) fun h67 h67' => ?_
 ·
  refine Js.region <| Qf fh rfl <| Qf fh rfl <| Q0 1 rfl rfl rfl <| Qq (p_sub rfl rfl rfl) <| Qf fh rfl <| Qf fh rfl <| zw 1 rfl rfl rfl ?_
  refine JL.nil <| Js.blockEnd <| zS <| Q9 1 rfl rfl ?_
  refine zw 7 rfl rfl rfl ?_
  refine JL.nil ?_
  refine zf [0, 1, 1, 1, 1, 1, 1] fun GG68 => ?_
  refine zn ?_
  refine zrb [0, 0, 0, 0, 0, 0] hb x7 ?_
  refine ⟨((M.Gam.mk gk.rules gk.start gk.moves (M.Pos.mk gk.now.pits gk.now.stores (IntKind.i64.wrap (1 - gk.now.player))) gk.resigned)), (X21AT), (X21SD), A7_3_9, c7_3_9, g7_3_9, A7_3_10, c7_3_10, g7_3_10, A7_3_12, c7_3_12, g7_3_12, A7_3_13, c7_3_13, g7_3_13, A7_3_14, c7_3_14, g7_3_14, rfl, ?_, ?_, ?_, ?_, ?_, ?_, ?_, ?_, ?_, ?_, ?_, by first | exact xb5_ hs hst | trivial | omega, by first | exact xb5_ hs hst | trivial | omega, by first | exact xb5_ hs hst | trivial | omega⟩
  · rfl
  all_goals (try dsimp only)
  all_goals (first | (omega) | omega | (simp only [*]; omega))
 refine zS <| Qe rfl rfl <| Qa rfl <| JL.nil ?_
 refine zi (fun h69 h69' => ?_) fun h69 h69' => ?_
 ·
  refine Js.region <| Qf fh rfl <| Qf fh rfl <| Q0 1 rfl rfl rfl ?_
  refine JL.fact (row_some (i := 6) rfl (by omega)) (fun hf71 => ?_)
  obtain ⟨b71, rfl⟩ := hf71
  refine Qq (p_indexAddr el_27 rfl rfl (by omega) (by omega) rfl) <| Qw (q_load1 ty_2.h rfl (Mem.row (i := 6) rfl (ints_get (i := 0) (by omega)))) <| Qq (p_add rfl rfl rfl) <| Qq (p_indexAddr el_27 rfl rfl (by omega) (by omega) rfl) ?_
  refine JL.s (e_storeRow (i := 6) (xs' := ints_ (gk.now.stores.set 0 (IntKind.i64.wrap ((M.nth gk.now.stores 0) + 1)))) ty_2.h rfl rfl rfl rfl rfl rfl (ints_lt (i := 0) (by omega)) (ints_setL (i := 0) (by omega))) ?_
  rintro _ _ _ ⟨rfl, rfl⟩ _
  refine znl ?_
  refine JL.nil <| Js.blockEnd <| zS <| Q9 1 rfl rfl ?_
  refine zw 7 rfl rfl rfl ?_
  refine JL.nil ?_
  refine zf [0, 1, 1, 1, 1, 1, 1] fun GG73 => ?_
  refine zn ?_
  refine zrb [0, 0, 0, 0, 0, 0] hb x7 ?_
  have hNr14 : (gk.now.stores.set 0 (IntKind.i64.wrap ((M.nth gk.now.stores 0) + 1))).length = gk.now.stores.length := by first | rfl | assumption | omega | (simp only [List.length_set, M.setI_length]; done) | (simp only [List.length_set, M.setI_length]; first | rfl | assumption | omega)
  refine ⟨((M.Gam.mk gk.rules gk.start gk.moves (M.Pos.mk gk.now.pits (gk.now.stores.set 0 (IntKind.i64.wrap ((M.nth gk.now.stores 0) + 1))) gk.now.player) gk.resigned)), (X21AT), (X21SD), A7_3_9, c7_3_9, g7_3_9, A7_3_10, c7_3_10, g7_3_10, A7_3_12, c7_3_12, g7_3_12, A7_3_13, c7_3_13, g7_3_13, (some ⟨b71, 0, none⟩), c7_3_14, g7_3_14, (show (.agg #[.int .i64 gk.rules.pits, .int .i64 gk.rules.seeds, .bool gk.rules.stores, .bool gk.rules.skip, .bool gk.rules.relay, .bool gk.rules.feed, .bool gk.rules.again, .int .i64 gk.rules.capture, .int .i64 gk.rules.slam, .slice A7_3_9 gk.start.pits.length c7_3_9, .slice A7_3_10 gk.start.stores.length c7_3_10, .int .i64 gk.start.player, .slice A7_3_12 gk.moves.length c7_3_12, .slice A7_3_13 gk.now.pits.length c7_3_13, .slice (some ⟨b71, 0, none⟩) gk.now.stores.length c7_3_14, .int .i64 gk.now.player, .int .i64 gk.resigned] : Value) = .agg #[.int .i64 gk.rules.pits, .int .i64 gk.rules.seeds, .bool gk.rules.stores, .bool gk.rules.skip, .bool gk.rules.relay, .bool gk.rules.feed, .bool gk.rules.again, .int .i64 gk.rules.capture, .int .i64 gk.rules.slam, .slice A7_3_9 gk.start.pits.length c7_3_9, .slice A7_3_10 gk.start.stores.length c7_3_10, .int .i64 gk.start.player, .slice A7_3_12 gk.moves.length c7_3_12, .slice A7_3_13 gk.now.pits.length c7_3_13, .slice (some ⟨b71, 0, none⟩) (gk.now.stores.set 0 (IntKind.i64.wrap ((M.nth gk.now.stores 0) + 1))).length c7_3_14, .int .i64 gk.now.player, .int .i64 gk.resigned] by rw [hNr14]), ?_, ?_, ?_, ?_, ?_, ?_, ?_, ?_, ?_, ?_, ?_, by first | exact xb5_ hs hst | trivial | omega, by first | exact xb5_ hs hst | trivial | omega, by first | exact xb5_ hs hst | trivial | omega⟩
  · exact r5_ hNr14
  all_goals (try dsimp only)
  all_goals (first | (rw [hNr14]; omega) | omega | (simp only [*]; omega))
 refine zS <| Qe rfl rfl <| Qa rfl <| JL.nil ?_
 refine zi (fun h74 h74' => ?_) fun h74 h74' => ?_
 ·
  refine Js.region <| Qm rfl <| zbs fun b75 => ?_
  refine zhl [1] ?_
  refine zBB 1 sp_ rfl (fun w hb _ hw => c_spec_l00Src_among s_code X21AT X21SD [1, 3, 9] hb (ok_ hw) (ints_rowok (xs := [1, 3, 9]) (hw.pr (i := 0) rfl)) (r3 := (by simp)) (r4 := (by simp))) ?_
  rintro _ _ G77 ⟨X77KX, X77AT, X77SD, rfl, rfl, hX77_0, hX77_1, hX77_2⟩
  refine znl ?_
  refine Qf fh rfl <| Qf fh rfl <| zw 3 rfl rfl rfl ?_
  refine JL.nil ?_
  refine zf [0, 2, 2, 2, 2, 2, 2, 2] fun GG78 => ?_
  refine zn ?_
  refine Js.blockEnd <| zS <| Q9 1 rfl rfl ?_
  refine zw 7 rfl rfl rfl ?_
  refine JL.nil ?_
  refine zf [0, 1, 1, 1, 1, 1, 1] fun GG79 => ?_
  refine zn ?_
  refine zrb [0, 0, 0, 0, 0, 0] hb x7 ?_
  refine ⟨((M.Gam.mk (M.Rul.mk X77KX gk.rules.seeds gk.rules.stores gk.rules.skip gk.rules.relay gk.rules.feed gk.rules.again gk.rules.capture gk.rules.slam) gk.start gk.moves gk.now gk.resigned)), (X77AT), (X77SD), A7_3_9, c7_3_9, g7_3_9, A7_3_10, c7_3_10, g7_3_10, A7_3_12, c7_3_12, g7_3_12, A7_3_13, c7_3_13, g7_3_13, A7_3_14, c7_3_14, g7_3_14, rfl, ?_, ?_, ?_, ?_, ?_, ?_, ?_, ?_, ?_, ?_, ?_, by first | exact xb5_ hs hst | trivial | omega, by first | exact xb5_ hs hst | trivial | omega, by first | exact xb5_ hs hst | trivial | omega⟩
  · rfl
  all_goals (try dsimp only)
  all_goals (first | (omega) | omega | (simp only [*]; omega))
 refine zS <| Qe rfl rfl <| Qa rfl <| JL.nil ?_
 refine zi (fun h80 h80' => ?_) fun h80 h80' => ?_
 ·
  refine zS <| Qf fh rfl <| Q0 1 rfl rfl rfl <| Qz rfl <| Qg rfl rfl <| JL.nil ?_
  refine zi (fun h81 h81' => ?_) fun h81 h81' => ?_
  ·
   refine zk [2, 3] (fun F U l os u => ∃ (G82 : List Nat) (X82AT X82SD : Int) (b84 : Nat) (X82KX : Int), l = F [] ∧ os = [anyO G82] ++ U [some (boxO bs [.slice As_0 s_code cs_0, .int .i64 X82AT, .int .u64 X82SD] 189), some (boxO b3 [.int .i64 gk.rules.pits, .int .i64 gk.rules.seeds, .bool gk.rules.stores, .bool gk.rules.skip, .bool gk.rules.relay, .bool gk.rules.feed, .bool gk.rules.again, .int .i64 gk.rules.capture, .int .i64 gk.rules.slam, .slice A7_3_9 gk.start.pits.length c7_3_9, .slice A7_3_10 gk.start.stores.length c7_3_10, .int .i64 gk.start.player, .slice (some ⟨b84, 0, none⟩) gk.moves.length c7_3_12, .slice A7_3_13 gk.now.pits.length c7_3_13, .slice A7_3_14 gk.now.stores.length c7_3_14, .int .i64 gk.now.player, .int .i64 gk.resigned] 56), nO, nO, some (rowO 2 1 (.slice (some ⟨b84, 0, none⟩) gk.moves.length c7_3_12) gk.moves.length (ints_ (gk.moves.set 0 (X82KX - 1))) g7_3_12)] ∧ (X21AT ≤ X82AT) ∧ (X82AT ≤ X21AT + 2) ∧ (0 ≤ X82KX) ∧ (X82KX = 0 ∨ X82KX < 6)) ?_ ?_
   ·
    refine zdr [3, 6] ?_
    refine jF 0 fld_56_2 rfl rfl ?_
    refine jM 2 rfl rfl ?_
    refine y2 1 3 ?_ ?_
    ·
     refine JHo.q rfl (q_load1 ty_27.h rfl (Mem.box (i := 1) rfl rfl)) ?_
     refine y1 3 ?_
     refine yBB 1 sp_ rfl rfl (fun w hb _ hw => c_spec_l00Src_pick s_code X21AT X21SD 6 hb (ok_ hw)) ?_
     rintro _ _ G89 ⟨X89KX, X89AT, X89SD, rfl, rfl, hX89_0, hX89_1, hX89_2, hX89_3⟩
     refine znh ?_
     refine JH.p 4 rfl (p_sub rfl rfl (IntWalk.i64_in _ (by omega))) ?_
     refine JH.fact (row_some (i := 5) rfl (by omega)) (fun hf91 => ?_)
     obtain ⟨b91, rfl⟩ := hf91
     refine jI 5 el_27 rfl rfl rfl rfl ?_
     refine y1 6 ?_
     refine JHo.s rfl (e_storeRow (i := 5) (xs' := ints_ (gk.moves.set 0 (X89KX - 1))) ty_2.h rfl rfl rfl rfl rfl rfl (ints_lt (i := 0) (by omega)) (ints_setL (i := 0) (by omega))) (.inr rfl) ?_
     rintro _ _ _ ⟨rfl, rfl⟩ _
     refine znh ?_
     refine yd ?_
     refine zh [1, 0, 0, 0, 0, 0, 0, 0, 0, 0] ?_
     exact zm ⟨_, _, _, _, _, rfl, rfl, zt, zt, zt, zt⟩ (Up.refl _ _) ⟨rfl, rfl, trivial⟩
    refine yBB 1 sp_ rfl rfl (fun w hb _ hw => c_spec_l00Src_pick s_code X21AT X21SD 6 hb (ok_ hw)) ?_
    rintro _ _ G92 ⟨X92KX, X92AT, X92SD, rfl, rfl, hX92_0, hX92_1, hX92_2, hX92_3⟩
    refine znh ?_
    refine JH.p 4 rfl (p_sub rfl rfl (IntWalk.i64_in _ (by omega))) ?_
    refine y1 1 ?_
    refine JHo.q rfl (q_load1 ty_27.h rfl (Mem.box (i := 2) rfl rfl)) ?_
    refine JH.fact (row_some (i := 5) rfl (by omega)) (fun hf94 => ?_)
    obtain ⟨b94, rfl⟩ := hf94
    refine jI 5 el_27 rfl rfl rfl rfl ?_
    refine y1 6 ?_
    refine JHo.s rfl (e_storeRow (i := 5) (xs' := ints_ (gk.moves.set 0 (X92KX - 1))) ty_2.h rfl rfl rfl rfl rfl rfl (ints_lt (i := 0) (by omega)) (ints_setL (i := 0) (by omega))) (.inr rfl) ?_
    rintro _ _ _ ⟨rfl, rfl⟩ _
    refine znh ?_
    refine yd ?_
    refine zh [1, 0, 0, 0, 0, 0, 0, 0, 0, 0] ?_
    exact zm ⟨_, _, _, _, _, rfl, rfl, zt, zt, zt, zt⟩ (Up.refl _ _) ⟨rfl, rfl, trivial⟩
   rintro _ _ u88 ⟨G82, X82AT, X82SD, b84, X82KX, rfl, rfl, f88_0, f88_1, f88_2, f88_3⟩ x88
   refine zn ?_
   refine zf [1, 1, 1, 1, 1, 1, 1, 1] fun GG95 => ?_
   refine zn ?_
   refine Js.blockEnd <| zS <| Q9 1 rfl rfl ?_
   refine zw 7 rfl rfl rfl ?_
   refine JL.nil ?_
   refine zf [0, 1, 1, 1, 1, 1, 1] fun GG96 => ?_
   refine zn ?_
   refine zrb [0, 0, 0, 0, 0, 0] hb (x7.trans x88) ?_
   have hNr12 : (gk.moves.set 0 (X82KX - 1)).length = gk.moves.length := by first | rfl | assumption | omega | (simp only [List.length_set, M.setI_length]; done) | (simp only [List.length_set, M.setI_length]; first | rfl | assumption | omega)
   refine ⟨((M.Gam.mk gk.rules gk.start (gk.moves.set 0 (X82KX - 1)) gk.now gk.resigned)), (X82AT), (X82SD), A7_3_9, c7_3_9, g7_3_9, A7_3_10, c7_3_10, g7_3_10, (some ⟨b84, 0, none⟩), c7_3_12, g7_3_12, A7_3_13, c7_3_13, g7_3_13, A7_3_14, c7_3_14, g7_3_14, (show (.agg #[.int .i64 gk.rules.pits, .int .i64 gk.rules.seeds, .bool gk.rules.stores, .bool gk.rules.skip, .bool gk.rules.relay, .bool gk.rules.feed, .bool gk.rules.again, .int .i64 gk.rules.capture, .int .i64 gk.rules.slam, .slice A7_3_9 gk.start.pits.length c7_3_9, .slice A7_3_10 gk.start.stores.length c7_3_10, .int .i64 gk.start.player, .slice (some ⟨b84, 0, none⟩) gk.moves.length c7_3_12, .slice A7_3_13 gk.now.pits.length c7_3_13, .slice A7_3_14 gk.now.stores.length c7_3_14, .int .i64 gk.now.player, .int .i64 gk.resigned] : Value) = .agg #[.int .i64 gk.rules.pits, .int .i64 gk.rules.seeds, .bool gk.rules.stores, .bool gk.rules.skip, .bool gk.rules.relay, .bool gk.rules.feed, .bool gk.rules.again, .int .i64 gk.rules.capture, .int .i64 gk.rules.slam, .slice A7_3_9 gk.start.pits.length c7_3_9, .slice A7_3_10 gk.start.stores.length c7_3_10, .int .i64 gk.start.player, .slice (some ⟨b84, 0, none⟩) (gk.moves.set 0 (X82KX - 1)).length c7_3_12, .slice A7_3_13 gk.now.pits.length c7_3_13, .slice A7_3_14 gk.now.stores.length c7_3_14, .int .i64 gk.now.player, .int .i64 gk.resigned] by rw [hNr12]), ?_, ?_, ?_, ?_, ?_, ?_, ?_, ?_, ?_, ?_, ?_, by first | exact xb5_ hs hst | trivial | omega, by first | exact xb5_ hs hst | trivial | omega, by first | exact xb5_ hs hst | trivial | omega⟩
   · exact r5_ hNr12
   all_goals (try dsimp only)
   all_goals (first | (rw [hNr12]; omega) | omega | (simp only [*]; omega))
  refine Js.skip <| Js.blockEnd <| zS <| Q9 1 rfl rfl ?_
  refine zw 7 rfl rfl rfl ?_
  refine JL.nil ?_
  refine zf [0, 1, 1, 1, 1, 1, 1] fun GG97 => ?_
  refine zn ?_
  refine zrb [0, 0, 0, 0, 0, 0] hb x7 ?_
  refine ⟨(gk), (X21AT), (X21SD), A7_3_9, c7_3_9, g7_3_9, A7_3_10, c7_3_10, g7_3_10, A7_3_12, c7_3_12, g7_3_12, A7_3_13, c7_3_13, g7_3_13, A7_3_14, c7_3_14, g7_3_14, rfl, ?_, ?_, ?_, ?_, ?_, ?_, ?_, ?_, ?_, ?_, ?_, by first | exact xb5_ hs hst | trivial | omega, by first | exact xb5_ hs hst | trivial | omega, by first | exact xb5_ hs hst | trivial | omega⟩
  · rfl
  all_goals (try dsimp only)
  all_goals (first | (omega) | omega | (simp only [*]; omega))
 refine Js.skip <| Js.blockEnd <| zS <| Q9 1 rfl rfl ?_
 refine zw 7 rfl rfl rfl ?_
 refine JL.nil ?_
 refine zf [0, 1, 1, 1, 1, 1, 1] fun GG98 => ?_
 refine zn ?_
 refine zrb [0, 0, 0, 0, 0, 0] hb x7 ?_
 refine ⟨(gk), (X21AT), (X21SD), A7_3_9, c7_3_9, g7_3_9, A7_3_10, c7_3_10, g7_3_10, A7_3_12, c7_3_12, g7_3_12, A7_3_13, c7_3_13, g7_3_13, A7_3_14, c7_3_14, g7_3_14, rfl, ?_, ?_, ?_, ?_, ?_, ?_, ?_, ?_, ?_, ?_, ?_, by first | exact xb5_ hs hst | trivial | omega, by first | exact xb5_ hs hst | trivial | omega, by first | exact xb5_ hs hst | trivial | omega⟩
 · rfl
 all_goals (try dsimp only)
 all_goals (first | (omega) | omega | (simp only [*]; omega))
theorem c_spec_l04Lists (a : List Int) {v_a : Value} (b : List Int) {v_b : Value} {w : World} (h_a : (Ty.ints 2 a).ok w v_a) (h_b : (Ty.ints 2 b).ok w v_b) (r0 : a.length ≤ 4194304 := by exact om_) (r1 : b.length ≤ 4194304 := by exact om_) : RetV Tryz.prog 114 [v_a, v_b] w (.int .i64 (M.cmpL a b)) := by
 revert v_a; apply opn
 intro A1 c1 h1 bl1 bh1
 have h_a := h1
 revert v_b; apply opn
 intro A2 c2 h2 bl2 bh2
 have h_b := h2
 refine enter @Tryz.func114 @Tryz.ntmps114 rfl rfl ?_
 refine zent ?_
 refine zS <| Qa rfl <| zJ <| zS <| Qa rfl <| JL.nil <| Js.block ?_
 refine zl [0, 1] (fun F U l os u m => ∃ (k : Nat), l = F [(5, .int .i64 (k : Int))] ∧ os = U [] ∧ (M.cmpL (a.drop k) (b.drop k) = M.cmpL a b) ∧ (k ≤ a.length) ∧ (k ≤ b.length) ∧ m = a.length - k) ⟨0, rfl, rfl, by rfl, zt, zt, rfl⟩ ?_
 rintro _ _ u3 _ ⟨k, rfl, rfl, hC, hka, hkb, rfl⟩ x3
 refine zn ?_
 refine Js.seq <| zS <| Qm rfl <| Qm rfl <| Qz rfl <| Ql rfl rfl <| Qm rfl <| zg (Gd.t1 rfl rfl rfl) (fun hc => p_move rfl) <| zg (Gd.t1 rfl rfl rfl) (fun hc => p_move rfl) <| zg (Gd.t1 rfl rfl rfl) (fun hc => p_len el_27 (gh hc rfl)) <| zg (Gd.t1 rfl rfl rfl) (fun hc => p_lss (gh hc rfl) (gh hc rfl)) <| Qq (p_pickAnd rfl rfl rfl) <| JL.nil ?_
 refine zi (fun h4 h4' => ?_) fun h4 h4' => ?_
 ·
  have hab : k < a.length ∧ k < b.length := by have := h4'; omega
  refine Js.skip <| Js.seq <| Js.block <| Js.seq <| Js.seq ?_
  refine zdr [] ?_
  refine jM 0 rfl rfl ?_
  refine jM 1 rfl rfl ?_
  obtain ⟨b5, o5, he5, hc5⟩ := ints_elem (Ty.mono _ h1 x3.vis) (i := k) (by omega)
  refine jI 2 el_27 rfl rfl rfl he5 ?_
  refine jW 3 ty_2 rfl rfl hc5.vis ?_
  refine jM 4 rfl rfl ?_
  refine jM 5 rfl rfl ?_
  obtain ⟨b6, o6, he6, hc6⟩ := ints_elem (Ty.mono _ h2 x3.vis) (i := k) (by omega)
  refine jI 6 el_27 rfl rfl rfl he6 ?_
  refine jW 7 ty_2 rfl rfl hc6.vis ?_
  refine JH.p 8 rfl (p_lss rfl rfl) ?_
  refine yd ?_
  refine zi (fun h7 h7' => ?_) fun h7 h7' => ?_
  ·
   have hE := M.cmpL_lt hC hab.1 hab.2 (by have := h7'; omega)
   refine zS <| Qa rfl <| JL.nil ?_
   refine zR x3 ?_
   first | (rw [hE]; done) | (rw [hE]; rfl)
  have h1_ : ¬ M.nth a k < M.nth b k := by have := h7'; omega
  refine Js.skip <| Js.seq ?_
  refine zdr [] ?_
  refine jM 0 rfl rfl ?_
  refine jM 1 rfl rfl ?_
  obtain ⟨b8, o8, he8, hc8⟩ := ints_elem (Ty.mono _ h1 x3.vis) (i := k) (by omega)
  refine jI 2 el_27 rfl rfl rfl he8 ?_
  refine jW 3 ty_2 rfl rfl hc8.vis ?_
  refine jM 4 rfl rfl ?_
  refine jM 5 rfl rfl ?_
  obtain ⟨b9, o9, he9, hc9⟩ := ints_elem (Ty.mono _ h2 x3.vis) (i := k) (by omega)
  refine jI 6 el_27 rfl rfl rfl he9 ?_
  refine jW 7 ty_2 rfl rfl hc9.vis ?_
  refine JH.p 8 rfl (p_gtr rfl rfl) ?_
  refine yd ?_
  refine zi (fun h10 h10' => ?_) fun h10 h10' => ?_
  ·
   have hE := M.cmpL_gt hC hab.1 hab.2 (by have := h10'; omega)
   refine zS <| Qa rfl <| JL.nil ?_
   refine zR x3 ?_
   first | (rw [hE]; done) | (rw [hE]; rfl)
  have hC2 := M.cmpL_step hC hab.1 hab.2 h1_ (by have := h10'; omega)
  refine Js.skip <| Js.blockEnd <| Js.region <| Qm rfl <| Qp rfl rfl <| Qa rfl <| JL.nil ?_
  exact zag ⟨k + 1, rfl, rfl, by exact hC2, zt, zt, rfl⟩ x3
 have hE := M.cmpL_end hC (by have := h4'; omega) hka hkb
 refine zx ?_
 refine Js.seq <| zS <| Qm rfl <| Qz rfl <| Qm rfl <| Qz rfl <| Ql rfl rfl <| JL.nil ?_
 refine zi (fun h11 h11' => ?_) fun h11 h11' => ?_
 ·
  rw [if_pos (by have := h11'; omega)] at hE
  refine zS <| Qa rfl <| JL.nil ?_
  refine zR x3 ?_
  first | (rw [hE]; done) | (rw [hE]; rfl)
 rw [if_neg (by have := h11'; omega)] at hE
 refine Js.skip <| Js.seq <| zS <| Qm rfl <| Qz rfl <| Qm rfl <| Qz rfl <| Qg rfl rfl <| JL.nil ?_
 refine zi (fun h12 h12' => ?_) fun h12 h12' => ?_
 ·
  rw [if_pos (by have := h12'; omega)] at hE
  refine zS <| Qa rfl <| JL.nil ?_
  refine zR x3 ?_
  first | (rw [hE]; done) | (rw [hE]; rfl)
 rw [if_neg (by have := h12'; omega)] at hE
 refine Js.skip <| zS <| Qa rfl <| JL.nil ?_
 refine zR x3 ?_
 first | (rw [hE]; done) | (rw [hE]; rfl)
theorem c_spec_l20Pos (p : List Int) {Ap_0 : Option Addr} {cp_0 : Nat} {w : World}  : Ret Tryz.prog 143 [.slice Ap_0 p.length cp_0] w (Ty.agg [Ty.val (.slice Ap_0 p.length cp_0), Ty.ints 2 [0, 0], Ty.int 0]) := by
 refine enter @Tryz.func143 @Tryz.ntmps143 rfl rfl ?_
 refine zent ?_
 refine zS <| za zeh fun b1 => zN <| Qm rfl <| zbs fun b2 => ?_
 refine Qb ?_
 refine zw 1 rfl rfl rfl ?_
 refine JL.nil ?_
 exact zro (Up.refl _ _)
theorem c_spec_MoveFault (r : M.Rul) {v_r : Value} (p : M.Pos) {v_p : Value} (move : Int) {w : World} (h_r : (Ty.agg (cRules r)).ok w v_r) (h_p : (Ty.agg (cPosition p)).ok w v_p) (r0 : p.pits.length ≤ 4194304 := by exact om_) (r1 : p.stores.length ≤ 4194304 := by exact om_) : RetV Tryz.prog 71 [v_r, v_p, .int .i64 move] w (.int .i64 ((M.make r p move).2)) := by
 revert v_r; apply opn
 revert v_p; apply opn
 intro A1 c1 h1 bl1 bh1 A2 c2 h2 bl2 bh2
 refine enter @Tryz.func71 @Tryz.ntmps71 rfl rfl ?_
 refine zent ?_
 refine zS <| zb rfl fun b3 => zb rfl fun b4 => Qa rfl <| zN <| Qm rfl <| zp rfl (fun w hw => c_spec_l07Make r p move (ok_ hw) (ok_ hw)) ?_
 intro u5 x5 A6 c6 h6 bl6 bh6 A7 c7 h7 bl7 bh7
 refine Qm rfl <| Qx rfl rfl <| Qx rfl rfl <| za zeh fun b8 => zw 0 rfl rfl rfl ?_
 refine Qa rfl <| zN <| Qm rfl <| Qa rfl <| JL.nil ?_
 exact zr x5
theorem c_spec_l20Entry (r : M.Rul) {v_r : Value} (e : M.Ent) {v_e : Value} {w : World} (h_r : (Ty.ref (cRules r)).ok w v_r) (h_e : (Ty.ref (cBookEntry e)).ok w v_e) (r0 : e.pits.length ≤ 4194304 := by exact om_) (r1 : e.choices.length ≤ 4194304 := by exact om_) : RetV Tryz.prog 113 [v_r, v_e] w (.bool (M.okE r e)) := by
 have p5 : (M.posE e.pits).stores.length ≤ 4194304 := (by decide : ([0, 0] : List Int).length ≤ 4194304)
 have p6 : (M.posE e.pits).pits.length ≤ 4194304 := r0
 revert v_r; apply opn
 intro b1 o1 hr1
 revert v_e; apply opn
 intro b4 o4 A2 c2 h2 bl2 bh2 A3 c3 h3 bl3 bh3 hr4
 refine enter @Tryz.func113 @Tryz.ntmps113 rfl rfl ?_
 refine zent ?_
 refine zS <| Qa rfl <| zN <| Qm rfl <| Qc rfl <| Qf fh rfl <| QC (hr4 0 _ rfl) rfl <| zc rfl (fun w hw => c_spec_l20Pos e.pits) ?_
 intro A5 c5 bl5 bh5
 refine za zeh fun b6 => zw 0 rfl rfl rfl ?_
 refine zJ <| zS <| Qm rfl <| zv rfl (fun w hw => c_spec_l04Ok r (M.Pos.mk e.pits [0, 0] 0) (ok_ hw) (ok_ hw)) <| Qt rfl <| Qm rfl <| zg (Gd.f1 rfl rfl rfl) (fun hc => p_move rfl) <| zg (Gd.f1 rfl rfl rfl) (fun hc => p_nilCheck (gh hc rfl)) <| zg (Gd.f1 rfl rfl rfl) (fun hc => p_fieldAddr fld_89_1.h (gh hc rfl)) <| zgq (Gd.f1 rfl rfl rfl) (fun hc => q_load1 ty_67.h (gh hc rfl) (Mem.pub (hr4 1 _ rfl))) <| zg (Gd.f1 rfl rfl rfl) (fun hc => p_len el_67 (gh hc rfl)) <| zg (Gd.f1 rfl rfl rfl) (fun hc => p_eql (gh hc rfl) rfl) <| Qq (p_pickOr rfl rfl rfl) <| JL.nil ?_
 refine zi (fun h7 h7' => ?_) fun h7 h7' => ?_
 ·
  have hE := M.okE_p (r := r) (e := e) (by have h9 := h7; simp only [Bool.or_eq_true, Bool.not_eq_true', decide_eq_true_eq] at h9; exact h9.imp id (fun h => by omega))
  refine zS <| Qa rfl <| JL.nil ?_
  refine zR (Up.refl _ _) ?_
  first | (rw [hE, hE2]; rfl) | (rw [hE]; rfl)
 have h9 := h7
 simp at h9
 have hE := M.okE_cs h9.1 (by omega)
 refine Js.skip <| Js.seq <| zS <| Qa rfl <| JL.nil <| Js.block ?_
 refine zl [0, 1, 5] (fun F U l os u m => ∃ (k : Nat), l = F [(6, .int .i64 (k : Int))] ∧ os = U [] ∧ (M.AllB (M.chAt r (M.posE e.pits) e.choices) k) ∧ (k ≤ e.choices.length) ∧ m = e.choices.length - k) ⟨0, rfl, rfl, by exact M.AllB.zero _, zt, rfl⟩ ?_
 rintro _ _ u8 _ ⟨k, rfl, rfl, hA, hk, rfl⟩ x8
 refine zn ?_
 refine Js.seq <| zS <| Qm rfl <| Qm rfl <| Qc rfl <| Qf fh rfl <| QC ((hr4.vis x8.vis) 1 _ rfl) rfl <| Qz rfl <| Ql rfl rfl <| JL.nil ?_
 refine zi (fun h9 h9' => ?_) fun h9 h9' => ?_
 ·
  have hy10 : e.choices[k]? = some (M.cho e.choices k) := M.cho_get (by omega)
  obtain ⟨b10, o10, he10, hr10⟩ := elem_Choice (Ty.mono _ h3 x8.vis) hy10
  refine Js.skip <| Js.seq <| Js.block <| zS <| Qm rfl <| Qc rfl <| Qf fh rfl <| QC ((hr4.vis x8.vis) 1 _ rfl) rfl <| Qm rfl <| Qq (p_indexAddr el_67 rfl rfl (by omega) (by omega) he10) <| Qa rfl <| zJ <| Js.seq ?_
  refine zdr [] ?_
  refine jM 0 rfl rfl ?_
  refine JH.p 1 rfl (p_gtr rfl rfl) ?_
  refine jM 2 rfl rfl ?_
  refine JH.pg 3 rfl (Gd.t1 rfl rfl rfl) (fun hc => p_move rfl) ?_
  refine JH.pg 4 rfl (Gd.t1 rfl rfl rfl) (fun hc => p_nilCheck (gvt rfl hc)) ?_
  refine JH.pg 5 rfl (Gd.t1 rfl rfl rfl) (fun hc => p_fieldAddr fld_81_0.h (gvt rfl hc)) ?_
  refine JH.wg 6 rfl (Gd.t1 rfl rfl rfl) (fun hc os' u' hv => q_load1 ty_2.h (gvt rfl hc) (Mem.pub ((hr10.vis hv) 0 _ rfl))) ?_
  refine JH.pg 7 rfl (Gd.t1 rfl rfl rfl) (fun hc => p_move rfl) ?_
  refine JH.pg 8 rfl (Gd.t1 rfl rfl rfl) (fun hc => p_nilCheck (gvt rfl hc)) ?_
  refine JH.pg 9 rfl (Gd.t1 rfl rfl rfl) (fun hc => p_fieldAddr fld_89_1.h (gvt rfl hc)) ?_
  refine JH.wg 10 rfl (Gd.t1 rfl rfl rfl) (fun hc os' u' hv => q_load1 ty_67.h (gvt rfl hc) (Mem.pub ((hr4.vis (x8.vis.trans hv)) 1 _ rfl))) ?_
  refine JH.pg 11 rfl (Gd.t1 rfl rfl rfl) (fun hc => p_move rfl) ?_
  refine JH.pg 12 rfl (Gd.t1 rfl rfl rfl) (fun hc => p_sub (gvt rfl hc) rfl (IntWalk.i64_in _ (oh_ hc))) ?_
  have hy11 : e.choices[((k : Int) - 1).toNat]? = some (M.cho e.choices (((k : Int) - 1).toNat)) := M.cho_get (by omega)
  obtain ⟨b11, o11, he11, hr11⟩ := elem_Choice (Ty.mono _ h3 x8.vis) hy11
  refine JH.pg 13 rfl (Gd.t1 rfl rfl rfl) (fun hc => p_indexAddr el_67 (gvt rfl hc) (gvt rfl hc) (oh_ hc) (oh_ hc) he11) ?_
  refine JH.pg 14 rfl (Gd.t1 rfl rfl rfl) (fun hc => p_fieldAddr fld_81_0.h (gvt rfl hc)) ?_
  refine JH.wg 15 rfl (Gd.t1 rfl rfl rfl) (fun hc os' u' hv => q_load1 ty_2.h (gvt rfl hc) (Mem.pub ((hr11.vis hv) 0 _ rfl))) ?_
  refine JH.pg 16 rfl (Gd.t1 rfl rfl rfl) (fun hc => p_leq (gvt rfl hc) (gvt rfl hc)) ?_
  refine JH.p 17 rfl (p_pickAnd rfl rfl rfl) ?_
  refine jM 18 rfl rfl ?_
  refine JH.pg 19 rfl (Gd.f1 rfl rfl rfl) (fun hc => p_move rfl) ?_
  refine JH.pg 20 rfl (Gd.f1 rfl rfl rfl) (fun hc => p_nilCheck (gvt rfl hc)) ?_
  refine JH.pg 21 rfl (Gd.f1 rfl rfl rfl) (fun hc => p_fieldAddr fld_81_1.h (gvt rfl hc)) ?_
  refine JH.wg 22 rfl (Gd.f1 rfl rfl rfl) (fun hc os' u' hv => q_load1 ty_2.h (gvt rfl hc) (Mem.pub ((hr10.vis hv) 1 _ rfl))) ?_
  refine y1 23 ?_
  refine JHo.ge rfl (Gd.f1 rfl rfl rfl) (fun hc => e_callV fn_56.h (opds_3 (gvt rfl hc) rfl rfl) (fun w hw => c_spec_l00In ((M.cho e.choices k).games) 1 1000000)) ?_
  refine JH.pg 24 rfl (Gd.f1 rfl rfl rfl) (fun hc => p_not (gvt rfl hc)) ?_
  refine JH.p 25 rfl (p_pickOr rfl rfl rfl) ?_
  refine jM 26 rfl rfl ?_
  refine JH.pg 27 rfl (Gd.f1 rfl rfl rfl) (fun hc => p_move rfl) ?_
  refine JH.pg 28 rfl (Gd.f1 rfl rfl rfl) (fun hc => p_nilCheck (gvt rfl hc)) ?_
  refine JH.pg 29 rfl (Gd.f1 rfl rfl rfl) (fun hc => p_fieldAddr fld_81_2.h (gvt rfl hc)) ?_
  refine JH.wg 30 rfl (Gd.f1 rfl rfl rfl) (fun hc os' u' hv => q_load1 ty_2.h (gvt rfl hc) (Mem.pub ((hr10.vis hv) 2 _ rfl))) ?_
  refine JH.pg 31 rfl (Gd.f1 rfl rfl rfl) (fun hc => p_move rfl) ?_
  refine JH.pg 32 rfl (Gd.f1 rfl rfl rfl) (fun hc => p_nilCheck (gvt rfl hc)) ?_
  refine JH.pg 33 rfl (Gd.f1 rfl rfl rfl) (fun hc => p_fieldAddr fld_81_1.h (gvt rfl hc)) ?_
  refine JH.wg 34 rfl (Gd.f1 rfl rfl rfl) (fun hc os' u' hv => q_load1 ty_2.h (gvt rfl hc) (Mem.pub ((hr10.vis hv) 1 _ rfl))) ?_
  refine JH.pg 35 rfl (Gd.f1 rfl rfl rfl) (fun hc => p_mul rfl (gvt rfl hc) (IntWalk.i64_in _ (by have hc9 := hc; simp only [Bool.not_eq_true', Bool.or_eq_false_iff, Bool.not_eq_false'] at hc9; have h8 := M.betw_iff.1 hc9.2; omega))) ?_
  refine y1 36 ?_
  refine JHo.ge rfl (Gd.f1 rfl rfl rfl) (fun hc => e_callV fn_56.h (opds_3 (gvt rfl hc) rfl (gvt rfl hc)) (fun w hw => c_spec_l00In ((M.cho e.choices k).score) 0 (2 * ((M.cho e.choices k).games)))) ?_
  refine JH.pg 37 rfl (Gd.f1 rfl rfl rfl) (fun hc => p_not (gvt rfl hc)) ?_
  refine JH.p 38 rfl (p_pickOr rfl rfl rfl) ?_
  refine yd ?_
  refine zi (fun h12 h12' => ?_) fun h12 h12' => ?_
  ·
   have hN : M.chAt r (M.posE e.pits) e.choices k = false := M.chAt_18 (by exact h12)
   have hE2 : M.okCs r (M.posE e.pits) e.choices = false := M.all_no (by omega) hN
   refine zS <| Qa rfl <| JL.nil ?_
   refine zR x8 ?_
   first | (rw [hE, hE2]; rfl) | (rw [hE]; rfl)
  have h18 : M.ch18 e.choices k = false := h12
  refine Js.skip <| Js.seq ?_
  refine zdr [] ?_
  refine jM 0 rfl rfl ?_
  refine jN 1 rfl rfl ?_
  refine JH.w 2 rfl (fun os' u' hv => LS 0 (hr1.vis (x8.vis.trans hv)) rfl) ?_
  refine JH.q 3 rfl (L9 0 rfl rfl) ?_
  refine jM 4 rfl rfl ?_
  refine jN 5 rfl rfl ?_
  refine jF 6 fld_81_0 rfl rfl ?_
  refine jW 7 ty_2 rfl rfl (fun hv => (hr10.vis hv) 0 _ rfl) ?_
  refine y1 8 ?_
  refine yv rfl rfl (fun w hw => c_spec_MoveFault r (M.Pos.mk e.pits [0, 0] 0) ((M.cho e.choices k).move) (ok_ hw) (ok_ hw)) ?_
  refine JH.p 9 rfl (p_neq rfl rfl) ?_
  refine yd ?_
  refine zi (fun h13 h13' => ?_) fun h13 h13' => ?_
  ·
   have hN : M.chAt r (M.posE e.pits) e.choices k = false := M.chAt_21 (by simpa using h13)
   have hE2 : M.okCs r (M.posE e.pits) e.choices = false := M.all_no (by omega) hN
   refine zS <| Qa rfl <| JL.nil ?_
   refine zR x8 ?_
   first | (rw [hE, hE2]; rfl) | (rw [hE]; rfl)
  have hN : M.chAt r (M.posE e.pits) e.choices k = true := M.chAt_all h18 (by simpa using h13)
  refine Js.skip <| Js.blockEnd <| Js.region <| Qm rfl <| Qp rfl rfl <| Qa rfl <| JL.nil ?_
  exact zag ⟨k + 1, rfl, rfl, by exact hA.step hN, zt, rfl⟩ x8
 have hE2 : M.okCs r (M.posE e.pits) e.choices = true := M.all_yes hA (by have := h9'; omega)
 refine zx ?_
 refine zS <| Qa rfl <| JL.nil ?_
 refine zR x8 ?_
 first | (rw [hE, hE2]; rfl) | (rw [hE]; rfl)
theorem c_spec_l20Ok (b : M.Boo) {v_b : Value} {w : World} (h_b : (Ty.ref (cBook b)).ok w v_b) (r0 : b.entries.length ≤ 4194304 := by exact om_) (r1 : ∀ x ∈ b.entries, x.pits.length ≤ 4194304 ∧ x.choices.length ≤ 4194304 := by exact om_) : RetV Tryz.prog 54 [v_b] w (.bool (M.okB b)) := by
 revert v_b; apply opn
 intro b2 o2 A1 c1 h1 bl1 bh1 hr2
 refine enter @Tryz.func54 @Tryz.ntmps54 rfl rfl ?_
 refine zent ?_
 refine zS <| Qa rfl <| zJ <| zS <| Qm rfl <| Qc rfl <| Qf fh rfl <| zv rfl (fun w hw => c_spec_l02Ok b.rules (ok_ hw)) <| Qt rfl <| Qm rfl <| zg (Gd.f1 rfl rfl rfl) (fun hc => p_move rfl) <| zg (Gd.f1 rfl rfl rfl) (fun hc => p_nilCheck (gh hc rfl)) <| zg (Gd.f1 rfl rfl rfl) (fun hc => p_fieldAddr fld_37_1.h (gh hc rfl)) <| zgq (Gd.f1 rfl rfl rfl) (fun hc => q_load1 ty_35.h (gh hc rfl) (Mem.pub (hr2 9 _ rfl))) ?_
 refine zg (Gd.f1 rfl rfl rfl) (fun hc => p_len el_35 (gh hc rfl)) <| zg (Gd.f1 rfl rfl rfl) (fun hc => p_gtr (gh hc rfl) rfl) <| Qq (p_pickOr rfl rfl rfl) <| JL.nil ?_
 refine zi (fun h3 h3' => ?_) fun h3 h3' => ?_
 ·
  have hE := M.okB_r (b := b) (by have h9 := h3; simp only [Bool.or_eq_true, Bool.not_eq_true', decide_eq_true_eq] at h9; exact h9.imp id (fun h => by omega))
  refine zS <| Qa rfl <| JL.nil ?_
  refine zR (Up.refl _ _) ?_
  first | (rw [hE, hE2]; rfl) | (rw [hE]; rfl)
 have h9 := h3
 simp only [Bool.or_eq_false_iff, Bool.not_eq_false', decide_eq_false_iff_not] at h9
 have hE := M.okB_es h9.1 (by omega)
 refine Js.skip <| Js.seq <| zS <| Qa rfl <| JL.nil <| Js.block ?_
 refine zl [0] (fun F U l os u m => ∃ (k : Nat), l = F [(3, .int .i64 (k : Int))] ∧ os = U [] ∧ (M.AllB (M.entAt b.rules b.entries) k) ∧ (k ≤ b.entries.length) ∧ m = b.entries.length - k) ⟨0, rfl, rfl, by exact M.AllB.zero _, zt, rfl⟩ ?_
 rintro _ _ u4 _ ⟨k, rfl, rfl, hA, hk, rfl⟩ x4
 refine zn ?_
 refine Js.seq <| zS <| Qm rfl <| Qm rfl <| Qc rfl <| Qf fh rfl <| QC ((hr2.vis x4.vis) 9 _ rfl) rfl <| Qz rfl <| Ql rfl rfl <| JL.nil ?_
 refine zi (fun h5 h5' => ?_) fun h5 h5' => ?_
 ·
  have hkk : k < b.entries.length := by have := h5'; omega
  obtain ⟨e1_, e2_⟩ := r1 _ (M.ent_mem (es := b.entries) (k := k) (by omega))
  obtain ⟨e3_, e4_⟩ := r1 _ (M.ent_mem (es := b.entries) (k := (((k : Int) - 1).toNat)) (by omega))
  refine Js.skip <| Js.seq <| Js.block <| Js.seq ?_
  refine zdr [] ?_
  refine jM 0 rfl rfl ?_
  refine jN 1 rfl rfl ?_
  refine jF 2 fld_37_0 rfl rfl ?_
  refine jM 3 rfl rfl ?_
  refine jN 4 rfl rfl ?_
  refine jF 5 fld_37_1 rfl rfl ?_
  refine jW 6 ty_35 rfl rfl (fun hv => (hr2.vis (x4.vis.trans hv)) 9 _ rfl) ?_
  refine jM 7 rfl rfl ?_
  have hy6 : b.entries[k]? = some (M.ent b.entries k) := M.ent_get (by omega)
  obtain ⟨b6, o6, A6_0, c6_0, A6_1, c6_1, he6, hr6, h6_0, h6_1, bl6_0, bh6_0, bl6_1, bh6_1⟩ := elem_BookEntry (Ty.mono _ h1 x4.vis) hy6
  refine jI 8 el_35 rfl rfl rfl he6 ?_
  refine y1 9 ?_
  refine yv rfl rfl (fun w hw => c_spec_l20Entry b.rules (M.ent b.entries k) (ok_ hw) (ok_ hw)) ?_
  refine JH.p 10 rfl (p_not rfl) ?_
  refine jM 11 rfl rfl ?_
  refine JH.pg 12 rfl (Gd.f1 rfl rfl rfl) (fun hc => p_move rfl) ?_
  refine JH.pg 13 rfl (Gd.f1 rfl rfl rfl) (fun hc => p_gtr (gvt rfl hc) rfl) ?_
  refine JH.pg 14 rfl (Gd.f1 rfl rfl rfl) (fun hc => p_move (gvt rfl hc)) ?_
  refine JH.pg 15 rfl (Gd.t2 rfl rfl rfl) (fun hc => p_move rfl) ?_
  refine JH.pg 16 rfl (Gd.t2 rfl rfl rfl) (fun hc => p_nilCheck (gvt rfl hc)) ?_
  refine JH.pg 17 rfl (Gd.t2 rfl rfl rfl) (fun hc => p_fieldAddr fld_37_1.h (gvt rfl hc)) ?_
  refine JH.wg 18 rfl (Gd.t2 rfl rfl rfl) (fun hc os' u' hv => q_load1 ty_35.h (gvt rfl hc) (Mem.pub ((hr2.vis (x4.vis.trans hv)) 9 _ rfl))) ?_
  refine JH.pg 19 rfl (Gd.t2 rfl rfl rfl) (fun hc => p_move rfl) ?_
  refine JH.pg 20 rfl (Gd.t2 rfl rfl rfl) (fun hc => p_sub (gvt rfl hc) rfl (IntWalk.i64_in _ (by have hc9 := hc; (try simp only [Bool.and_eq_true, Bool.not_eq_true', Bool.not_eq_false', decide_eq_true_eq] at hc9); omega))) ?_
  have hy7 : b.entries[((k : Int) - 1).toNat]? = some (M.ent b.entries (((k : Int) - 1).toNat)) := M.ent_get (by omega)
  obtain ⟨b7, o7, A7_0, c7_0, A7_1, c7_1, he7, hr7, h7_0, h7_1, bl7_0, bh7_0, bl7_1, bh7_1⟩ := elem_BookEntry (Ty.mono _ h1 x4.vis) hy7
  refine JH.pg 21 rfl (Gd.t2 rfl rfl rfl) (fun hc => p_indexAddr el_35 (gvt rfl hc) (gvt rfl hc) (by have hc9 := hc; (try simp only [Bool.and_eq_true, Bool.not_eq_true', Bool.not_eq_false', decide_eq_true_eq] at hc9); omega) (by have hc9 := hc; (try simp only [Bool.and_eq_true, Bool.not_eq_true', Bool.not_eq_false', decide_eq_true_eq] at hc9); omega) he7) ?_
  refine JH.pg 22 rfl (Gd.t2 rfl rfl rfl) (fun hc => p_fieldAddr fld_89_0.h (gvt rfl hc)) ?_
  refine JH.wg 23 rfl (Gd.t2 rfl rfl rfl) (fun hc os' u' hv => q_load1 ty_27.h (gvt rfl hc) (Mem.pub ((hr7.vis hv) 0 _ rfl))) ?_
  refine JH.pg 24 rfl (Gd.t2 rfl rfl rfl) (fun hc => p_move rfl) ?_
  refine JH.pg 25 rfl (Gd.t2 rfl rfl rfl) (fun hc => p_nilCheck (gvt rfl hc)) ?_
  refine JH.pg 26 rfl (Gd.t2 rfl rfl rfl) (fun hc => p_fieldAddr fld_37_1.h (gvt rfl hc)) ?_
  refine JH.wg 27 rfl (Gd.t2 rfl rfl rfl) (fun hc os' u' hv => q_load1 ty_35.h (gvt rfl hc) (Mem.pub ((hr2.vis (x4.vis.trans hv)) 9 _ rfl))) ?_
  refine JH.pg 28 rfl (Gd.t2 rfl rfl rfl) (fun hc => p_move rfl) ?_
  have hy8 : b.entries[k]? = some (M.ent b.entries k) := M.ent_get (by omega)
  obtain ⟨b8, o8, A8_0, c8_0, A8_1, c8_1, he8, hr8, h8_0, h8_1, bl8_0, bh8_0, bl8_1, bh8_1⟩ := elem_BookEntry (Ty.mono _ h1 x4.vis) hy8
  refine JH.pg 29 rfl (Gd.t2 rfl rfl rfl) (fun hc => p_indexAddr el_35 (gvt rfl hc) (gvt rfl hc) (by have hc9 := hc; (try simp only [Bool.and_eq_true, Bool.not_eq_true', Bool.not_eq_false', decide_eq_true_eq] at hc9); omega) (by have hc9 := hc; (try simp only [Bool.and_eq_true, Bool.not_eq_true', Bool.not_eq_false', decide_eq_true_eq] at hc9); omega) he8) ?_
  refine JH.pg 30 rfl (Gd.t2 rfl rfl rfl) (fun hc => p_fieldAddr fld_89_0.h (gvt rfl hc)) ?_
  refine JH.wg 31 rfl (Gd.t2 rfl rfl rfl) (fun hc os' u' hv => q_load1 ty_27.h (gvt rfl hc) (Mem.pub ((hr8.vis hv) 0 _ rfl))) ?_
  refine y1 32 ?_
  refine JHo.ge rfl (Gd.t2 rfl rfl rfl) (fun hc => e_callV fn_114.h (opds_2 (gvt rfl hc) (gvt rfl hc)) (fun w hw => c_spec_l04Lists ((M.ent b.entries (((k : Int) - 1).toNat)).pits) ((M.ent b.entries k).pits) (ok_ hw) (ok_ hw) (r0 := (by have hc9 := hc; (try simp only [Bool.and_eq_true, Bool.not_eq_true', Bool.not_eq_false', decide_eq_true_eq] at hc9); omega)) (r1 := (by have hc9 := hc; (try simp only [Bool.and_eq_true, Bool.not_eq_true', Bool.not_eq_false', decide_eq_true_eq] at hc9); omega)))) ?_
  refine JH.pg 33 rfl (Gd.t2 rfl rfl rfl) (fun hc => p_geq (gvt rfl hc) rfl) ?_
  refine JH.pg 34 rfl (Gd.f1 rfl rfl rfl) (fun hc => p_pickAnd (gvt rfl hc) (gvl rfl hc) rfl) ?_
  refine JH.p 35 rfl (p_pickOr rfl rfl rfl) ?_
  refine yd ?_
  refine zi (fun h9 h9' => ?_) fun h9 h9' => ?_
  ·
   have hN : M.entAt b.rules b.entries k = false := M.entAt_no' (by exact h9)
   have hE2 : (List.range b.entries.length).all (M.entAt b.rules b.entries) = false := M.all_no (by omega) hN
   refine zS <| Qa rfl <| JL.nil ?_
   refine zR x4 ?_
   first | (rw [hE, hE2]; rfl) | (rw [hE]; rfl)
  have hN : M.entAt b.rules b.entries k = true := M.entAt_yes' (by exact h9)
  refine Js.skip <| Js.blockEnd <| Js.region <| Qm rfl <| Qp rfl rfl <| Qa rfl <| JL.nil ?_
  exact zag ⟨k + 1, rfl, rfl, by exact hA.step hN, zt, rfl⟩ x4
 have hE2 : (List.range b.entries.length).all (M.entAt b.rules b.entries) = true := M.all_yes hA (by have := h5'; omega)
 refine zx ?_
 refine zS <| Qa rfl <| JL.nil ?_
 refine zR x4 ?_
 first | (rw [hE, hE2]; rfl) | (rw [hE]; rfl)
theorem c_spec_l04Turn (r : M.Rul) {v_r : Value} (p : M.Pos) {v_p : Value} {w : World} (h_r : (Ty.ref (cRules r)).ok w v_r) (h_p : (Ty.ref (cPosition p)).ok w v_p) (r0 : M.okP r p = true := by exact om_) : Ret Tryz.prog 132 [v_r, v_p] w (Ty.agg (cPosition (M.turnP r p))) := by
 obtain ⟨g1, g2, g3, g4, g5, g6, g7⟩ := M.okP_bd r0
 revert v_r; apply opn
 intro b1 o1 hr1
 revert v_p; apply opn
 intro b4 o4 A2 c2 h2 bl2 bh2 A3 c3 h3 bl3 bh3 hr4
 refine enter @Tryz.func132 @Tryz.ntmps132 rfl rfl ?_
 refine zent ?_
 refine zS <| za zeh fun b5 => zJ ?_
 refine zdr [] ?_
 refine jM 0 rfl rfl ?_
 refine jN 1 rfl rfl ?_
 refine jF 2 fld_39_0 rfl rfl ?_
 refine jW 3 ty_27 rfl rfl (fun hv => (hr4.vis hv) 0 _ rfl) ?_
 refine jM 4 rfl rfl ?_
 refine jN 5 rfl rfl ?_
 refine jF 6 fld_34_0 rfl rfl ?_
 refine jW 7 ty_2 rfl rfl (fun hv => (hr1.vis hv) 0 _ rfl) ?_
 have hs6 := ints_cut (a := r.pits.toNat) (b := p.pits.length) (m := c2) h2 (by omega) (by omega) (by omega) (by omega)
 have hl6 : ((p.pits.drop r.pits.toNat).take (p.pits.length - r.pits.toNat)).length = p.pits.length - r.pits.toNat := by rw [List.length_take, List.length_drop]; omega
 refine JH.p 8 rfl (p_slice (lo' := r.pits.toNat) (hi' := p.pits.length) (mx' := c2) el_27 rfl rfl ⟨rfl, rfl⟩ ⟨_, by rw [Int.toNat_of_nonneg (by omega)]; exact rfl, by omega⟩) ?_
 refine y1 9 ?_
 refine ycs rfl rfl (fun w hw => c_spec_l00Own ((p.pits.drop r.pits.toNat).take (p.pits.length - r.pits.toNat)) (ok_ hw)) ?_
 intro A7 c7 bl7 bh7
 refine jA 10 rfl rfl ?_
 refine yd ?_
 refine Js.seq ?_
 refine zk [4] (fun F U l os u => ∃ (b14 : Nat) (A13 : Option Addr) (c13 : Nat) (g12 : List Nat), l = F [] ∧ os = [rowO 2 1 (.slice (some ⟨b14, 0, none⟩) 2 2) 2 [.int .i64 (M.nth p.stores 1), .int .i64 (M.nth p.stores 0)] []] ++ U [some (rowO 2 1 (.slice A13 ((((p.pits.drop r.pits.toNat).take (p.pits.length - r.pits.toNat)) ++ ((p.pits.drop 0).take (r.pits.toNat - 0))).length) c13) ((((p.pits.drop r.pits.toNat).take (p.pits.length - r.pits.toNat)) ++ ((p.pits.drop 0).take (r.pits.toNat - 0))).length) (ints_ (((p.pits.drop r.pits.toNat).take (p.pits.length - r.pits.toNat)) ++ ((p.pits.drop 0).take (r.pits.toNat - 0)))) g12), some (boxO b5 [.slice A13 ((((p.pits.drop r.pits.toNat).take (p.pits.length - r.pits.toNat)) ++ ((p.pits.drop 0).take (r.pits.toNat - 0))).length) c13, .slice (some ⟨b14, 0, none⟩) 2 2, .int .i64 (1 - p.player)] 39)] ∧ ((((p.pits.drop r.pits.toNat).take (p.pits.length - r.pits.toNat)) ++ ((p.pits.drop 0).take (r.pits.toNat - 0))).length ≤ c13) ∧ (c13 ≤ 9223372036854775807)) ?_ ?_
 ·
  refine zdr [10, 30] ?_
  refine jM 0 rfl rfl ?_
  refine jM 1 rfl rfl ?_
  refine jN 2 rfl rfl ?_
  refine jF 3 fld_39_0 rfl rfl ?_
  refine jW 4 ty_27 rfl rfl (fun hv => (hr4.vis hv) 0 _ rfl) ?_
  refine jM 5 rfl rfl ?_
  refine jN 6 rfl rfl ?_
  refine jF 7 fld_34_0 rfl rfl ?_
  refine jW 8 ty_2 rfl rfl (fun hv => (hr1.vis hv) 0 _ rfl) ?_
  have hs22 := ints_cut (a := 0) (b := r.pits.toNat) (m := c2) h2 (by omega) (by omega) (by omega) (by omega)
  have hl22 : ((p.pits.drop 0).take (r.pits.toNat - 0)).length = r.pits.toNat - 0 := by rw [List.length_take, List.length_drop]; omega
  refine JH.p 9 rfl (p_slice (lo' := 0) (hi' := r.pits.toNat) (mx' := c2) el_27 rfl rfl ⟨_, by rw [Int.toNat_of_nonneg (by omega)]; exact rfl, by omega⟩ rfl) ?_
  refine jM 11 rfl rfl ?_
  refine jN 12 rfl rfl ?_
  refine jF 13 fld_39_1 rfl rfl ?_
  refine jW 14 ty_27 rfl rfl (fun hv => (hr4.vis hv) 1 _ rfl) ?_
  obtain ⟨b23, o23, he23, hc23⟩ := ints_elem h3 (i := 1) (by omega)
  refine jI 15 el_27 rfl rfl rfl he23 ?_
  refine jW 16 ty_2 rfl rfl hc23.vis ?_
  refine jM 17 rfl rfl ?_
  refine jN 18 rfl rfl ?_
  refine jF 19 fld_39_1 rfl rfl ?_
  refine jW 20 ty_27 rfl rfl (fun hv => (hr4.vis hv) 1 _ rfl) ?_
  obtain ⟨b24, o24, he24, hc24⟩ := ints_elem h3 (i := 0) (by omega)
  refine jI 21 el_27 rfl rfl rfl he24 ?_
  refine jW 22 ty_2 rfl rfl hc24.vis ?_
  refine jM 24 rfl rfl ?_
  refine jN 25 rfl rfl ?_
  refine jF 26 fld_39_2 rfl rfl ?_
  refine jW 27 ty_2 rfl rfl (fun hv => (hr4.vis hv) 2 _ rfl) ?_
  refine JH.p 28 rfl (p_sub rfl rfl (IntWalk.i64_in _ (by omega))) ?_
  refine y2 10 23 ?_ ?_
  ·
   refine JHo.e rfl (e_append (i := 0) (n' := (((p.pits.drop r.pits.toNat).take (p.pits.length - r.pits.toNat)) ++ ((p.pits.drop 0).take (r.pits.toNat - 0))).length) (vs' := ints_ (((p.pits.drop r.pits.toNat).take (p.pits.length - r.pits.toNat)) ++ ((p.pits.drop 0).take (r.pits.toNat - 0)))) el_27 rfl rfl rfl rfl (src_intsN und_27 hl22 hs22) (by omega) (by omega) ln2_ (by simp [ints_])) (.inr rfl) ?_
   rintro v25 _ _ ⟨⟨g26, rfl⟩, rfl⟩ _
   refine JH.fact (row_form' (i := 0) rfl) (fun hf27 => ?_)
   obtain ⟨A27, c27, rfl, bl27, bh27⟩ := hf27
   refine znh ?_
   refine y1 23 ?_
   refine ybs rfl fun b28 => ?_
   refine JH.p 29 rfl (q_bld) ?_
   refine y1 30 ?_
   refine yst rfl rfl rfl ?_
   refine yd ?_
   exact zm ⟨_, _, _, _, rfl, rfl, zt, zt⟩ (Up.refl _ _)
  refine ybs rfl fun b30 => ?_
  refine y1 10 ?_
  refine JHo.e rfl (e_append (i := 1) (n' := (((p.pits.drop r.pits.toNat).take (p.pits.length - r.pits.toNat)) ++ ((p.pits.drop 0).take (r.pits.toNat - 0))).length) (vs' := ints_ (((p.pits.drop r.pits.toNat).take (p.pits.length - r.pits.toNat)) ++ ((p.pits.drop 0).take (r.pits.toNat - 0)))) el_27 rfl rfl rfl rfl (src_intsN und_27 hl22 hs22) (by omega) (by omega) ln2_ (by simp [ints_])) (.inr rfl) ?_
  rintro v32 _ _ ⟨⟨g33, rfl⟩, rfl⟩ _
  refine JH.fact (row_form' (i := 1) rfl) (fun hf34 => ?_)
  obtain ⟨A34, c34, rfl, bl34, bh34⟩ := hf34
  refine znh ?_
  refine JH.p 29 rfl (q_bld) ?_
  refine y1 30 ?_
  refine yst rfl rfl rfl ?_
  refine yd ?_
  exact zm ⟨_, _, _, _, rfl, rfl, zt, zt⟩ (Up.refl _ _)
 rintro _ _ u21 ⟨b14, A13, c13, g12, rfl, rfl, f21_0, f21_1⟩ x21
 refine zn ?_
 have hq0 : (((p.pits.drop r.pits.toNat).take (p.pits.length - r.pits.toNat)) ++ ((p.pits.drop 0).take (r.pits.toNat - 0))) = (M.turnP r p).pits := by first | rfl | (simp [M.turnP, List.take_of_length_le]; done) | (unfold M.turnP; simp; omega)
 have hq1 : [(M.nth p.stores 1), (M.nth p.stores 0)] = (M.turnP r p).stores := by first | rfl | (simp [M.turnP, List.take_of_length_le]; done) | (unfold M.turnP; simp; omega)
 have hq2 : (1 - p.player) = (M.turnP r p).player := by first | rfl | (simp [M.turnP, List.take_of_length_le]; done) | (unfold M.turnP; simp; omega)
 exact zro x21
theorem c_spec_l04View (r : M.Rul) {v_r : Value} (p : M.Pos) {v_p : Value} {w : World} (h_r : (Ty.ref (cRules r)).ok w v_r) (h_p : (Ty.ref (cPosition p)).ok w v_p) (r0 : M.okV r p := by exact om_) : Ret Tryz.prog 74 [v_r, v_p] w (Ty.agg (cPosition (M.viewP r p))) := by
 have hl := M.okV_len r0
 have hpl := M.okV_pl r0
 revert v_r; apply opn
 intro b1 o1 hr1
 revert v_p; apply opn
 intro b4 o4 A2 c2 h2 bl2 bh2 A3 c3 h3 bl3 bh3 hr4
 refine enter @Tryz.func74 @Tryz.ntmps74 rfl rfl ?_
 refine zent ?_
 refine zS <| za zeh fun b5 => zJ <| zS <| Qm rfl <| Qc rfl <| Qf fh rfl <| QC (hr4 2 _ rfl) rfl <| Qe rfl rfl <| JL.nil ?_
 refine zi (fun h6 h6' => ?_) fun h6 h6' => ?_
 ·
  have hn0 : ¬ p.player = 0 := by have := h6'; omega
  have hK := M.okV_turn r0 hn0
  have hE := M.viewP_1 (r := r) hn0
  refine zS <| Qm rfl <| Qm rfl <| zc rfl (fun w hw => c_spec_l04Turn r p (ok_ hw) (ok_ hw) (r0 := hK)) ?_
  intro A8 c8 bl8 bh8 A9 c9 bl9 bh9
  have hq0 : ((M.turnP r p).pits) = (M.viewP r p).pits := by rw [hE]
  have hq1 : ((M.turnP r p).stores) = (M.viewP r p).stores := by rw [hE]
  have hq2 : ((M.turnP r p).player) = (M.viewP r p).player := by rw [hE]
  refine zw 2 rfl rfl rfl ?_
  refine JL.nil ?_
  exact zro (Up.refl _ _)
 have hE := M.viewP_0 (r := r) (p := p) (by have := h6'; omega)
 refine Js.skip <| zS <| Qm rfl <| zc rfl (fun w hw => c_spec_l04Own p (ok_ hw)) ?_
 intro A11 c11 bl11 bh11 A12 c12 bl12 bh12
 have hq0 : p.pits = (M.viewP r p).pits := by rw [hE]
 have hq1 : p.stores = (M.viewP r p).stores := by rw [hE]
 have hq2 : p.player = (M.viewP r p).player := by rw [hE]
 refine zw 2 rfl rfl rfl ?_
 refine JL.nil ?_
 exact zro (Up.refl _ _)
theorem c_spec_l20Find (b : M.Boo) {v_b : Value} (q : List Int) {v_q : Value} {w : World} (h_b : (Ty.ref (cBook b)).ok w v_b) (h_q : (Ty.ints 2 q).ok w v_q) (r0 : b.entries.length ≤ 4194304 := by exact om_) (r1 : ∀ x ∈ b.entries, x.pits.length ≤ 4194304 ∧ x.choices.length ≤ 4194304 := by exact om_) (r2 : q.length ≤ 4194304 := by exact om_) : RetV Tryz.prog 130 [v_b, v_q] w (.tuple #[.int .i64 (M.findE b.entries q : Int), .bool (M.hasE b.entries q)]) := by
 revert v_b; apply opn
 intro b2 o2 A1 c1 h1 bl1 bh1 hr2
 revert v_q; apply opn
 intro A3 c3 h3 bl3 bh3
 have h_q := h3
 refine enter @Tryz.func130 @Tryz.ntmps130 rfl rfl ?_
 refine zent ?_
 refine zS <| Qa rfl <| Qa rfl <| zJ <| zS <| Qa rfl <| JL.nil <| Js.block ?_
 refine zl [0, 1] (fun F U l os u m => ∃ (k : Nat), l = F [(6, .int .i64 (k : Int))] ∧ os = U [] ∧ (k + M.findE (b.entries.drop k) q = M.findE b.entries q) ∧ (k ≤ b.entries.length) ∧ m = b.entries.length - k) ⟨0, rfl, rfl, by simp, zt, rfl⟩ ?_
 rintro _ _ u4 _ ⟨k, rfl, rfl, hL, hk, rfl⟩ x4
 refine zn ?_
 refine Js.seq <| zS <| Qm rfl <| Qm rfl <| Qc rfl <| Qf fh rfl <| QC ((hr2.vis x4.vis) 9 _ rfl) rfl <| Qz rfl <| Ql rfl rfl <| JL.nil ?_
 refine zi (fun h5 h5' => ?_) fun h5 h5' => ?_
 ·
  have hkk : k < b.entries.length := by have := h5'; omega
  obtain ⟨e1_, e2_⟩ := r1 _ (M.ent_mem (es := b.entries) (k := k) hkk)
  have hy6 : b.entries[k]? = some (M.ent b.entries k) := M.ent_get (by omega)
  obtain ⟨b6, o6, A6_0, c6_0, A6_1, c6_1, he6, hr6, h6_0, h6_1, bl6_0, bh6_0, bl6_1, bh6_1⟩ := elem_BookEntry (Ty.mono _ h1 x4.vis) hy6
  refine Js.skip <| Js.seq <| Js.block <| zS <| Qm rfl <| Qc rfl <| Qf fh rfl <| QC ((hr2.vis x4.vis) 9 _ rfl) rfl <| Qm rfl <| Qq (p_indexAddr el_35 rfl rfl (by omega) (by omega) he6) <| Qf fh rfl <| QC (hr6 0 _ rfl) rfl <| Qm rfl <| zv rfl (fun w hw => c_spec_l04Lists ((M.ent b.entries k).pits) q (ok_ hw) (ok_ hw)) ?_
  refine Qa rfl <| zN <| Qm rfl <| Qh rfl rfl <| JL.nil ?_
  refine zi (fun h7 h7' => ?_) fun h7 h7' => ?_
  ·
   have hE := M.findE_hit hL hkk (by have := h7'; omega)
   have hE2 := M.hasE_hit hE hkk
   refine zS <| Qm rfl <| Qm rfl <| Qe rfl rfl <| Qa rfl <| Qa rfl <| JL.nil ?_
   refine zR x4 ?_
   rw [hE, hE2]; rfl
  have hL2 := M.findE_step hL hkk (by have := h7'; omega)
  refine Js.skip <| Js.blockEnd <| Js.region <| Qm rfl <| Qp rfl rfl <| Qa rfl <| JL.nil ?_
  exact zag ⟨k + 1, rfl, rfl, by exact hL2, zt, rfl⟩ x4
 have hE := M.findE_end hL (by have := h5'; omega) hk
 have hE2 := M.hasE_end hE
 refine zx ?_
 refine zS <| Qm rfl <| Qc rfl <| Qf fh rfl <| QC ((hr2.vis x4.vis) 9 _ rfl) rfl <| Qz rfl <| Qa rfl <| Qa rfl <| JL.nil ?_
 refine zR x4 ?_
 rw [hE, hE2]; rfl
end Go.Proofs.YtcmfnlleikcpnaaGreat

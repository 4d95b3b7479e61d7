/- Walks: D24. -/
import Derived.Test.YtjdhgkdimanabaaGreatDoorZeA3
import Derived.Test.YtjdhgkdimanabaaGreatDoorZeA6
import Derived.Test.YtjdhgkdimanabaaGreatDoorZeA5
set_option linter.unusedSimpArgs false
set_option linter.unusedVariables false
set_option maxRecDepth 100000
attribute [local irreducible] Go.Proofs.YtjdhgkdimanabaaGreatDoor.gv
set_option maxHeartbeats 8000000
namespace Go.Proofs.YtjdhgkdimanabaaGreatDoor
open Go.RowKit
theorem c_spec_l05Endless (s_code : Nat) (s_at s_seed : Int) {As_0 : Option Addr} {cs_0 bs : Nat} {w : World} (hb : Bw w [boxO bs [.slice As_0 s_code cs_0, .int .i64 s_at, .int .u64 s_seed] 126]) (hps_0 : (Ty.bytes 5 s_code).ok (offW w (([boxO bs [.slice As_0 s_code cs_0, .int .i64 s_at, .int .u64 s_seed] 126] : List Own).flatMap (·.fp))) (.slice As_0 s_code cs_0)) (r0 : 0 ≤ s_at := by exact om_) (r1 : s_at ≤ 999997000 := by exact om_) (r2 : s_code ≤ 1048576 := by exact om_) : RetB Tryz.prog 198 [.pointer (some ⟨bs, 0, none⟩)] w [boxO bs [.slice As_0 s_code cs_0, .int .i64 s_at, .int .u64 s_seed] 126] (fun v bs' => ∃ (RX : M.Rul) (PX : M.Pos) (KX AT SD : Int) (Axrb_0 : Option Addr) (cxrb_0 : Nat) (gxrb_0 : List Nat) (Axrb_1 : Option Addr) (cxrb_1 : Nat) (gxrb_1 : List Nat), v = .tuple #[.agg #[.int .i64 RX.pits, .int .i64 RX.seeds, .bool RX.stores, .bool RX.skip, .bool RX.relay, .bool RX.feed, .bool RX.again, .int .i64 RX.capture, .int .i64 RX.slam], .agg #[.slice Axrb_0 PX.pits.length cxrb_0, .slice Axrb_1 PX.stores.length cxrb_1, .int .i64 PX.player], .int .i64 KX] ∧ bs' = [boxO bs [.slice As_0 s_code cs_0, .int .i64 AT, .int .u64 SD] 126, rowO 2 1 (.slice Axrb_0 PX.pits.length cxrb_0) PX.pits.length (ints_ PX.pits) gxrb_0, rowO 2 1 (.slice Axrb_1 PX.stores.length cxrb_1) PX.stores.length (ints_ PX.stores) gxrb_1] ∧ PX.pits.length ≤ cxrb_0 ∧ cxrb_0 ≤ 9223372036854775807 ∧ PX.stores.length ≤ cxrb_1 ∧ cxrb_1 ≤ 9223372036854775807 ∧ (RX.pits ≤ 9) ∧ (PX.pits.length ≤ 16 ∧ PX.stores.length = 2) ∧ (s_at ≤ AT) ∧ (AT ≤ s_at + 3000)) := by
 refine enterB hb @Tryz.func198 @Tryz.ntmps198 rfl rfl ?_
 refine zent ?_
 refine Js.trashE ?_
 refine zn ?_
 refine zS <| za zeh fun b1 => za zeh fun b2 => Qa rfl <| zN <| Qm rfl ?_
 refine zhl [2] ?_
 refine zBB 1 sp_ rfl (fun w hb _ hw => c_spec_l00Src_pick s_code s_at s_seed 2 hb (ok_ hw)) ?_
 rintro _ _ G3 ⟨X3KX, X3AT, X3SD, rfl, rfl, hX3_0, hX3_1, hX3_2, hX3_3⟩
 refine znl ?_
 refine Qp rfl rfl <| Qb ?_
 refine za zeh fun b4 => zw 0 rfl rfl rfl ?_
 refine JL.nil ?_
 refine zf [0, 0, 1, 1] fun GG5 => ?_
 refine zn ?_
 refine zS <| Qm rfl ?_
 refine zhl [1] ?_
 refine zBB 1 sp_ rfl (fun w hb _ hw => c_spec_l00Src_one s_code X3AT X3SD 2 hb (ok_ hw)) ?_
 rintro _ _ G6 ⟨X6BX, X6AT, X6SD, rfl, rfl, hX6_0, hX6_1⟩
 refine znl ?_
 refine Qf fh rfl <| zw 2 rfl rfl rfl ?_
 refine JL.nil ?_
 refine zf [0, 1, 1, 1] fun GG7 => ?_
 refine zn ?_
 refine Js.seq <| zS <| Qa rfl <| JL.nil <| Js.block ?_
 refine zl [0, 2, 3, 5] (fun F U l os u m => ∃ (k at1 sd1 : Int) (G8_4 : List Nat), l = F [(6, .int .i64 k)] ∧ os = U [some (boxO bs [.slice As_0 s_code cs_0, .int .i64 at1, .int .u64 sd1] 126), nO, nO, nO, some (anyO G8_4)] ∧ (0 ≤ k ∧ k ≤ 12) ∧ (s_at ≤ at1) ∧ (at1 ≤ s_at + 40 + 220 * k) ∧ m = (12 - k).toNat) ⟨0, X6AT, X6SD, _, rfl, rfl, zt, zt, zt, rfl⟩ ?_
 rintro _ _ u8 _ ⟨k, at1, sd1, G8_4, rfl, rfl, hk, ha0, ha1, rfl⟩ x8
 refine zn ?_
 refine Js.seq <| zS <| Qm rfl <| Ql rfl rfl <| JL.nil ?_
 refine zi (fun h9 h9' => ?_) fun h9 h9' => ?_
 ·
  refine Js.skip <| Js.seq <| Js.block <| zS <| Qm rfl <| zBB 1 sp_ rfl (fun w hb _ hw => c_spec_l04Draw s_code at1 sd1 (M.Rul.mk (2 + X3KX) 1 false X6BX true false false 0 0) hb (ok_ hw) (ok_ hw)) ?_
  rintro _ _ G10 ⟨X10PX, X10AT, X10SD, A10r_0, c10r_0, g10r_0, A10r_1, c10r_1, g10r_1, rfl, rfl, bl10_0, bl10_1, bl10_2, bl10_3, hX10_0, hX10_1, hX10_2⟩
  refine znl ?_
  refine za zeh fun b11 => zw 0 rfl rfl rfl ?_
  refine JL.nil ?_
  refine zf [0, 0, 0, 0, 1, 1, 1] fun GG12 => ?_
  refine zn ?_
  refine Js.seq ?_
  dsimp only at hX10_0
  refine Js.region <| Qa rfl <| JL.nil <| Js.block ?_
  refine zl [0, 2, 3, 5, 6, 7] (fun F U l os u m => ∃ (mv : Int) (G13_7 : List Nat), l = F [(8, .int .i64 mv)] ∧ os = U [nO, nO, nO, nO, nO, nO, nO, some (anyO G13_7)] ∧ (0 ≤ mv ∧ mv ≤ 8) ∧ m = (8 - mv).toNat) ⟨0, _, rfl, rfl, zt, rfl⟩ ?_
  rintro _ _ u13 _ ⟨mv, G13_7, rfl, rfl, hm, rfl⟩ x13
  refine zn ?_
  refine Js.seq <| zS <| Qm rfl <| Qf fh rfl <| Q0 4 rfl rfl rfl <| Ql rfl rfl <| JL.nil ?_
  refine zi (fun h14 h14' => ?_) fun h14 h14' => ?_
  ·
   refine Js.skip <| Js.seq <| Js.block <| zS <| Qm rfl <| zc rfl (fun w hw => c_spec_l05Move (M.Rul.mk (2 + X3KX) 1 false X6BX true false false 0 0) X10PX mv (ok_ hw) (ok_ hw)) ?_
   intro A17 c17 bl17 bh17 A18 c18 bl18 bh18 A19 c19 bl19 bh19
   refine Qm rfl <| Qx rfl rfl <| Qx rfl rfl <| Qx rfl rfl <| za zeh fun b20 => zw 0 rfl rfl rfl ?_
   refine Qa rfl <| Qa rfl <| JL.nil ?_
   refine zf [4, 4, 4, 4, 4, 4, 4] fun GG21 => ?_
   refine zn ?_
   refine zS <| Qm rfl <| Qe rfl rfl <| JL.nil ?_
   refine zi (fun h22 h22' => ?_) fun h22 h22' => ?_
   ·
    refine Js.seq ?_
    refine zk [2, 3] (fun F U l os u => l = F [(4, .int .i64 mv)] ∧ os = U [nO, nO, nO, nO, nO, some (boxO b2 [.slice A10r_0 X10PX.pits.length c10r_0, .slice A10r_1 X10PX.stores.length c10r_1, .int .i64 X10PX.player] 28), some (boxO b1 [.int .i64 (2 + X3KX), .int .i64 1, .bool false, .bool X6BX, .bool true, .bool false, .bool false, .int .i64 0, .int .i64 0] 25)]) ?_ ?_
    ·
     refine zdr [3, 4] ?_
     refine JH.q 0 rfl (L9 4 rfl rfl) ?_
     refine jM 2 rfl rfl ?_
     refine y2 1 3 ?_ ?_
     ·
      refine JHo.q rfl (L9 0 rfl rfl) ?_
      refine y1 3 ?_
      refine yst rfl rfl rfl ?_
      refine y1 4 ?_
      refine yst rfl rfl rfl ?_
      refine jA 5 rfl rfl ?_
      refine yd ?_
      exact zm ⟨rfl, rfl⟩ (Up.refl _ _)
     refine yst rfl rfl rfl ?_
     refine y1 1 ?_
     refine JHo.q rfl (L9 0 rfl rfl) ?_
     refine y1 4 ?_
     refine yst rfl rfl rfl ?_
     refine jA 5 rfl rfl ?_
     refine yd ?_
     exact zm ⟨rfl, rfl⟩ (Up.refl _ _)
    rintro _ _ u23 ⟨rfl, rfl⟩ x23
    refine zn ?_
    refine zf [1, 1, 1, 2, 2] fun GG24 => ?_
    refine zn ?_
    refine zrb [0, 0, 0] hb ((x8.trans x13).trans x23) ?_
    refine ⟨((M.Rul.mk (2 + X3KX) 1 false X6BX true false false 0 0)), (X10PX), (mv), (X10AT), (X10SD), A10r_0, c10r_0, g10r_0, A10r_1, c10r_1, g10r_1, rfl, ?_, ?_, ?_, ?_, ?_, by first | trivial | omega | (dsimp only; omega), by first | trivial | omega | (dsimp only; omega), by first | trivial | omega | (dsimp only; omega), by first | trivial | omega | (dsimp only; omega)⟩
    · rfl
    all_goals (try dsimp only)
    all_goals (first | (omega) | omega | (simp only [*]; omega) | (simp; done))
   refine Js.skip <| Js.blockEnd <| Js.region <| Qm rfl <| Qp rfl rfl <| Qa rfl <| JL.nil ?_
   exact zag ⟨mv + 1, _, rfl, rfl, zt, rfl⟩ x13
  refine zx ?_
  refine Js.blockEnd <| Js.region <| Qm rfl <| Qp rfl rfl <| Qa rfl <| JL.nil ?_
  refine zf [1, 3, 3, 3] fun GG25 => ?_
  refine zn ?_
  exact zag ⟨k + 1, X10AT, X10SD, _, rfl, rfl, zt, zt, zt, rfl⟩ (x8.trans x13)
 refine zx ?_
 have hl0 : (M.startP (M.Rul.mk (2 + X3KX) 1 false X6BX true false false 0 0)).pits.length = (2 * ((M.Rul.mk (2 + X3KX) 1 false X6BX true false false 0 0)).pits).toNat := by simp [M.startP]
 have hl1 : (M.startP (M.Rul.mk (2 + X3KX) 1 false X6BX true false false 0 0)).stores.length = 2 := rfl
 try dsimp only at hl0
 refine Js.seq ?_
 refine zdr [2, 3] ?_
 refine JH.q 0 rfl (L9 1 rfl rfl) ?_
 refine y1 1 ?_
 refine yc rfl rfl (fun w hw => c_spec_l04Start (M.Rul.mk (2 + X3KX) 1 false X6BX true false false 0 0) (ok_ hw)) ?_
 intro A27 c27 bl27 bh27 A28 c28 bl28 bh28
 refine y1 2 ?_
 refine yst rfl rfl rfl ?_
 refine y1 3 ?_
 refine yst rfl rfl rfl ?_
 refine jA 4 rfl rfl ?_
 refine yd ?_
 refine zf [0, 0, 0, 1, 1] fun GG29 => ?_
 refine zn ?_
 refine zrb [2, 1, 0] hb x8 ?_
 refine ⟨((M.Rul.mk (2 + X3KX) 1 false X6BX true false false 0 0)), ((M.startP (M.Rul.mk (2 + X3KX) 1 false X6BX true false false 0 0))), (0), (at1), (sd1), A27, c27, [], A28, c28, [], rfl, ?_, ?_, ?_, ?_, ?_, by first | trivial | omega | (dsimp only; omega), by first | trivial | omega | (dsimp only; omega), by first | trivial | omega | (dsimp only; omega), by first | trivial | omega | (dsimp only; omega)⟩
 · rfl
 all_goals (try dsimp only)
 all_goals (first | (omega) | omega | (simp only [*]; omega) | (simp; done))
theorem c_spec_l05Draw (s_code : Nat) (s_at s_seed : Int) {As_0 : Option Addr} {cs_0 bs : Nat} {w : World} (hb : Bw w [boxO bs [.slice As_0 s_code cs_0, .int .i64 s_at, .int .u64 s_seed] 126]) (hps_0 : (Ty.bytes 5 s_code).ok (offW w (([boxO bs [.slice As_0 s_code cs_0, .int .i64 s_at, .int .u64 s_seed] 126] : List Own).flatMap (·.fp))) (.slice As_0 s_code cs_0)) (r0 : 0 ≤ s_at := by exact om_) (r1 : s_at ≤ 999995000 := by exact om_) (r2 : s_code ≤ 1048576 := by exact om_) : RetB Tryz.prog 187 [.pointer (some ⟨bs, 0, none⟩)] w [boxO bs [.slice As_0 s_code cs_0, .int .i64 s_at, .int .u64 s_seed] 126] (fun v bs' => ∃ (RX : M.Rul) (PX : M.Pos) (KX AT SD : Int) (Axrb_0 : Option Addr) (cxrb_0 : Nat) (Axrb_1 : Option Addr) (cxrb_1 : Nat) (gxrb_1 : List Nat), v = .tuple #[.agg #[.int .i64 RX.pits, .int .i64 RX.seeds, .bool RX.stores, .bool RX.skip, .bool RX.relay, .bool RX.feed, .bool RX.again, .int .i64 RX.capture, .int .i64 RX.slam], .agg #[.slice Axrb_0 PX.pits.length cxrb_0, .slice Axrb_1 PX.stores.length cxrb_1, .int .i64 PX.player], .int .i64 KX] ∧ bs' = [boxO bs [.slice As_0 s_code cs_0, .int .i64 AT, .int .u64 SD] 126, rxO 2 (.slice Axrb_0 PX.pits.length cxrb_0) PX.pits.length (ints_ PX.pits), rowO 2 1 (.slice Axrb_1 PX.stores.length cxrb_1) PX.stores.length (ints_ PX.stores) gxrb_1] ∧ PX.pits.length ≤ cxrb_0 ∧ cxrb_0 ≤ 9223372036854775807 ∧ PX.stores.length ≤ cxrb_1 ∧ cxrb_1 ≤ 9223372036854775807 ∧ (RX.pits ≤ 9) ∧ (PX.pits.length ≤ 4194304 ∧ PX.stores.length ≤ 4194304) ∧ (s_at ≤ AT) ∧ (AT ≤ s_at + 5000)) := by
 refine enterB hb @Tryz.func187 @Tryz.ntmps187 rfl rfl ?_
 refine zent ?_
 refine Js.trashE ?_
 refine zn ?_
 refine zS <| za zeh fun b1 => za zeh fun b2 => Qa rfl <| zN <| Qm rfl ?_
 refine zhl [2] ?_
 refine zBB 1 sp_ rfl (fun w hb _ hw => c_spec_l04Bent s_code s_at s_seed hb (ok_ hw)) ?_
 rintro _ _ G3 ⟨X3RX, X3QX, X3AT, X3SD, A3rb_0, c3rb_0, A3rb_1, c3rb_1, g3rb_1, rfl, rfl, bl3_0, bl3_1, bl3_2, bl3_3, hX3_0, hX3_1, hX3_2, hX3_3⟩
 refine znl ?_
 refine Qm rfl <| Qx rfl rfl <| Qx rfl rfl <| za zeh fun b4 => za zeh fun b5 => zw 1 rfl rfl rfl ?_
 refine zw 0 rfl rfl rfl ?_
 refine JL.nil ?_
 refine zf [0, 0, 0, 0, 0, 1, 1] fun GG6 => ?_
 refine zn ?_
 refine Js.seq <| zS <| Qm rfl ?_
 refine zhl [2] ?_
 refine zBB 1 sp_ rfl (fun w hb _ hw => c_spec_l00Src_one s_code X3AT X3SD 12 hb (ok_ hw)) ?_
 rintro _ _ G7 ⟨X7BX, X7AT, X7SD, rfl, rfl, hX7_0, hX7_1⟩
 refine znl ?_
 refine JL.nil ?_
 refine zf [0, 1, 1, 1, 1, 1, 1] fun GG8 => ?_
 refine zn ?_
 refine zi (fun h9 h9' => ?_) fun h9 h9' => ?_
 ·
  refine zS <| Qm rfl <| zBB 1 sp_ rfl (fun w hb _ hw => c_spec_l05Endless s_code X7AT X7SD hb (ok_ hw)) ?_
  rintro _ _ G10 ⟨X10RX, X10PX, X10KX, X10AT, X10SD, A10rb_0, c10rb_0, g10rb_0, A10rb_1, c10rb_1, g10rb_1, rfl, rfl, bl10_0, bl10_1, bl10_2, bl10_3, hX10_0, hX10_1, hX10_2, hX10_3⟩
  refine znl ?_
  refine Qx rfl rfl <| Qx rfl rfl <| Qx rfl rfl <| zw 9 rfl rfl rfl ?_
  refine zw 8 rfl rfl rfl ?_
  refine Qa rfl <| JL.nil ?_
  refine zf [0, 0, 0, 5, 5] fun GG11 => ?_
  refine zn ?_
  refine Js.conv (fun w hw => St.toRx (i := 1) rfl hw) ?_
  refine zn ?_
  refine zrb [2, 0, 1] hb (Up.refl _ _) ?_
  refine ⟨(X10RX), (X10PX), (X10KX), (X10AT), (X10SD), A10rb_0, c10rb_0, A10rb_1, c10rb_1, g10rb_1, rfl, ?_, ?_, ?_, ?_, ?_, by first | trivial | omega | (dsimp only; omega) | (simp only [List.length_set, M.setI_length]; omega), by first | trivial | omega | (dsimp only; omega) | (simp only [List.length_set, M.setI_length]; omega), by first | trivial | omega | (dsimp only; omega) | (simp only [List.length_set, M.setI_length]; omega), by first | trivial | omega | (dsimp only; omega) | (simp only [List.length_set, M.setI_length]; omega)⟩
  · rfl
  all_goals (try dsimp only)
  all_goals (first | (omega) | omega | (simp only [*]; omega) | (simp; done))
 refine Js.skip <| zS <| Qm rfl <| Qf fh rfl <| Q0 2 rfl rfl rfl <| zv rfl (fun w hw => c_spec_l00Min 8 X3RX.pits) <| zv rfl (fun w hw => c_spec_l00Max 1 (if 8 < X3RX.pits then 8 else X3RX.pits)) <| zBB 1 sp_ rfl (fun w hb _ hw => c_spec_l00Src_pick s_code X7AT X7SD (if 1 < (if 8 < X3RX.pits then 8 else X3RX.pits) then (if 8 < X3RX.pits then 8 else X3RX.pits) else 1) hb (ok_ hw)) ?_
 rintro _ _ G12 ⟨X12KX, X12AT, X12SD, rfl, rfl, hX12_0, hX12_1, hX12_2, hX12_3⟩
 refine znl ?_
 refine Qa rfl <| JL.nil ?_
 refine zf [0, 1, 1, 1, 1, 1, 1] fun GG13 => ?_
 refine zn ?_
 refine Js.seq <| zS <| Qm rfl <| zBB 1 sp_ rfl (fun w hb _ hw => c_spec_l00Src_one s_code X12AT X12SD 12 hb (ok_ hw)) ?_
 rintro _ _ G14 ⟨X14BX, X14AT, X14SD, rfl, rfl, hX14_0, hX14_1⟩
 refine znl ?_
 refine JL.nil ?_
 refine zf [0, 1, 1, 1, 1, 1, 1] fun GG15 => ?_
 refine zn ?_
 refine zk [0, 2, 3, 5, 6] (fun F U l os u => ∃ (mv at5 sd5 : Int) (G16_7 : List Nat), l = F [(7, .int .i64 mv)] ∧ os = U [some (boxO bs [.slice As_0 s_code cs_0, .int .i64 at5, .int .u64 sd5] 126), nO, nO, nO, nO, nO, nO, some (anyO G16_7)] ∧ (s_at ≤ at5) ∧ (at5 ≤ s_at + 1200)) ?_ ?_
 ·
  refine zi (fun h17 h17' => ?_) fun h17 h17' => ?_
  ·
   refine Js.region <| Qm rfl <| Qf fh rfl <| Q0 2 rfl rfl rfl <| zv rfl (fun w hw => c_spec_l00Min 8 X3RX.pits) <| zbs fun b18 => ?_
   refine zhl [1] ?_
   refine zBB 1 sp_ rfl (fun w hb _ hw => c_spec_l00Src_among s_code X14AT X14SD [(-1), (if 8 < X3RX.pits then 8 else X3RX.pits)] hb (ok_ hw) (ints_rowok (xs := [(-1), (if 8 < X3RX.pits then 8 else X3RX.pits)]) (hw.pr (i := 0) rfl)) (r3 := (by simp)) (r4 := (by simp))) ?_
   rintro _ _ G20 ⟨X20KX, X20AT, X20SD, rfl, rfl, hX20_0, hX20_1, hX20_2⟩
   refine znl ?_
   refine Qa rfl <| JL.nil ?_
   refine zf [0, 2, 2, 2, 2, 2, 2] fun GG21 => ?_
   refine zn ?_
   exact zm ⟨(X20KX), (X20AT), (X20SD), _, rfl, rfl, by first | assumption | omega | rfl | (dsimp only; omega) | (simp; done), by first | assumption | omega | rfl | (dsimp only; omega) | (simp; done)⟩ (Up.refl _ _)
  refine Js.skip ?_
  exact zm ⟨(X12KX), (X14AT), (X14SD), _, rfl, rfl, by first | assumption | omega | rfl | (dsimp only; omega) | (simp; done), by first | assumption | omega | rfl | (dsimp only; omega) | (simp; done)⟩ (Up.refl _ _)
 rintro _ _ u16 ⟨mv, at5, sd5, G16_7, rfl, rfl, hb0, hb1⟩ x16
 refine zn ?_
 refine Js.seq <| Js.seq ?_
 rcases Bool.eq_false_or_eq_true ((M.okP X3RX X3QX) && (M.betw mv 0 (IntKind.i64.wrap (X3RX.pits - 1)))) with h22 | h22
 ·
  refine Js.region <| zv rfl (fun w hw => c_spec_l04Ok X3RX X3QX (okx_ hw) (okx_ hw)) <| Qm rfl <| zg (Gd.t1 rfl rfl rfl) (fun hc => p_move rfl) <| zg (Gd.t1 rfl rfl rfl) (fun hc => p_fieldAddr fld_25_0.h rfl) <| zgq (Gd.t1 rfl rfl rfl) (fun hc => q_load1 ty_2.h (gh hc rfl) (Mem.box (i := 2) rfl rfl)) <| zg (Gd.t1 rfl rfl rfl) (fun hc => p_sub (gh hc rfl) rfl rfl) <| zgv (Gd.t1 rfl rfl rfl) (fun hc => (opds_3 (gh hc rfl) rfl (gh hc rfl))) (fun hc => (fun w hw => c_spec_l00In mv 0 (IntKind.i64.wrap (X3RX.pits - 1)))) ?_
  refine Qq (p_pickAnd rfl rfl rfl) <| Qm rfl <| zT (Gd.t1 rfl rfl rfl) (show ((M.okP X3RX X3QX) && (M.betw mv 0 (IntKind.i64.wrap (X3RX.pits - 1)))) = true by first | exact h22 | (rw [h22]; rfl) | simp [h22]) <| Qm rfl <| zT (Gd.t1 rfl rfl rfl) (show ((M.okP X3RX X3QX) && (M.betw mv 0 (IntKind.i64.wrap (X3RX.pits - 1)))) = true by first | exact h22 | (rw [h22]; rfl) | simp [h22]) <| zBB 1 sp_ rfl (fun w hb _ hw => c_spec_l00Src_one s_code at5 sd5 2 hb (ok_ hw)) ?_
  rintro _ _ G23 ⟨X23BX, X23AT, X23SD, rfl, rfl, hX23_0, hX23_1⟩
  refine znl ?_
  refine Qq (p_pickAnd2 rfl rfl rfl) <| JL.nil ?_
  refine zf [0, 1, 1, 1, 1, 1, 1] fun GG24 => ?_
  refine zn ?_
  refine zi (fun h25 h25' => ?_) fun h25 h25' => ?_
  ·
   obtain ⟨ho1, ho2⟩ : M.okP X3RX X3QX = true ∧ M.betw mv 0 (IntKind.i64.wrap (X3RX.pits - 1)) = true := by simpa only [Bool.and_eq_true] using h22
   obtain ⟨g1, g2, _⟩ := M.okP_bd ho1
   rw [IntWalk.i64_in _ (by omega)] at ho2
   obtain ⟨d0, d1⟩ := M.betw_iff.1 ho2
   have hpl := M.place_bd ho1 d0 d1
   refine zS <| Qf fh rfl <| Q0 1 rfl rfl rfl <| Qf fh rfl <| Q0 2 rfl rfl rfl <| Qu rfl rfl <| Qm rfl <| Qp rfl rfl <| Qa rfl <| JL.nil ?_
   refine Js.fact (rx_some (i := 3) rfl (by omega)) (fun hf26 => ?_)
   obtain ⟨b26, o26, rfl⟩ := hf26
   refine Js.pubBox (i := 1) (j := 0) rfl rfl (fun u27 x27 hr27 => ?_)
   refine zn ?_
   refine zk [2, 3, 5, 6, 7] (fun F U l os u => ∃ (G29 : List Nat) (X29AT X29SD X29KX : Int), l = F [] ∧ os = [anyO G29] ++ U [some (boxO bs [.slice As_0 s_code cs_0, .int .i64 X29AT, .int .u64 X29SD] 126), nO, some (rxO 2 (.slice (some ⟨b26, o26, none⟩) X3QX.pits.length c3rb_0) X3QX.pits.length (ints_ (M.setI X3QX.pits ((X3QX.player * X3RX.pits) + mv) (if (IntKind.i64.wrap (1 + X29KX)) < (IntKind.i64.wrap ((IntKind.i64.wrap ((IntKind.i64.wrap (96 - (M.sum4 X3QX.pits))) - (M.sum4 X3QX.stores))) + (M.getI X3QX.pits ((X3QX.player * X3RX.pits) + mv)))) then (IntKind.i64.wrap (1 + X29KX)) else (IntKind.i64.wrap ((IntKind.i64.wrap ((IntKind.i64.wrap (96 - (M.sum4 X3QX.pits))) - (M.sum4 X3QX.stores))) + (M.getI X3QX.pits ((X3QX.player * X3RX.pits) + mv))))))))] ∧ (X23AT ≤ X29AT) ∧ (X29AT ≤ X23AT + 2) ∧ (0 ≤ X29KX) ∧ (X29KX = 0 ∨ X29KX < 20)) ?_ ?_
   ·
    refine zdr [4, 22] ?_
    refine jF 0 fld_28_0 rfl rfl ?_
    refine jW 1 ty_26 rfl rfl (fun hv => (hr27.vis hv) 0 _ rfl) ?_
    refine jM 2 rfl rfl ?_
    refine jM 3 rfl rfl ?_
    refine jF 6 fld_28_0 rfl rfl ?_
    refine jW 7 ty_26 rfl rfl (fun hv => (hr27.vis hv) 0 _ rfl) ?_
    refine jF 10 fld_28_1 rfl rfl ?_
    refine jW 11 ty_26 rfl rfl (fun hv => (hr27.vis hv) 1 _ rfl) ?_
    refine jF 14 fld_28_0 rfl rfl ?_
    refine jW 15 ty_26 rfl rfl (fun hv => (hr27.vis hv) 0 _ rfl) ?_
    refine jM 16 rfl rfl ?_
    refine jI 17 el_26 rfl rfl rfl rfl ?_
    refine y2 4 18 ?_ ?_
    ·
     refine yBB 1 sp_ rfl rfl (fun w hb _ hw => c_spec_l00Src_pick s_code X23AT X23SD 20 hb (ok_ hw)) ?_
     rintro _ _ G37 ⟨X37KX, X37AT, X37SD, rfl, rfl, hX37_0, hX37_1, hX37_2, hX37_3⟩
     refine znh ?_
     refine JH.p 5 rfl (p_add rfl rfl rfl) ?_
     refine y2 8 18 ?_ ?_
     ·
      refine yv rfl rfl (fun w hw => c_spec_l04Sum X3QX.pits (okx_ hw)) ?_
      refine JH.p 9 rfl (p_sub rfl rfl rfl) ?_
      refine y2 12 18 ?_ ?_
      ·
       refine yv rfl rfl (fun w hw => c_spec_l04Sum X3QX.stores (okx_ hw)) ?_
       refine JH.p 13 rfl (p_sub rfl rfl rfl) ?_
       refine y1 18 ?_
       refine JHo.q rfl (q_load1 ty_2.h rfl (Mem.rx (i := 3) rfl (ints_getI (i := (X3QX.player * X3RX.pits) + mv) (by omega)))) ?_
       refine JH.p 19 rfl (p_add rfl rfl rfl) ?_
       refine y1 20 ?_
       refine yv rfl rfl (fun w hw => c_spec_l00Min (IntKind.i64.wrap (1 + X37KX)) (IntKind.i64.wrap ((IntKind.i64.wrap ((IntKind.i64.wrap (96 - (M.sum4 X3QX.pits))) - (M.sum4 X3QX.stores))) + (M.getI X3QX.pits ((X3QX.player * X3RX.pits) + mv))))) ?_
       refine jI 21 el_26 rfl rfl rfl rfl ?_
       refine y1 22 ?_
       refine JHo.s rfl (e_storeRx (i := 3) (j := (((X3QX.player * X3RX.pits) + mv).toNat)) (xs' := ints_ (M.setI X3QX.pits ((X3QX.player * X3RX.pits) + mv) (if (IntKind.i64.wrap (1 + X37KX)) < (IntKind.i64.wrap ((IntKind.i64.wrap ((IntKind.i64.wrap (96 - (M.sum4 X3QX.pits))) - (M.sum4 X3QX.stores))) + (M.getI X3QX.pits ((X3QX.player * X3RX.pits) + mv)))) then (IntKind.i64.wrap (1 + X37KX)) else (IntKind.i64.wrap ((IntKind.i64.wrap ((IntKind.i64.wrap (96 - (M.sum4 X3QX.pits))) - (M.sum4 X3QX.stores))) + (M.getI X3QX.pits ((X3QX.player * X3RX.pits) + mv))))))) ty_2.h rfl rfl rfl rfl rfl (ints_lt (i := ((X3QX.player * X3RX.pits) + mv).toNat) (by omega)) (ints_setL (i := ((X3QX.player * X3RX.pits) + mv).toNat) (by omega))) (.inr rfl) ?_
       rintro _ _ _ ⟨rfl, rfl⟩ _
       refine znh ?_
       refine yd ?_
       refine zh [1, 0, 0, 0, 0, 0, 0, 0] ?_
       exact zm ⟨_, _, _, _, rfl, rfl, zt, zt, zt, zt⟩ (Up.refl _ _) ⟨rfl, rfl, rfl, rfl, rfl, trivial⟩
      refine JHo.q rfl (q_load1 ty_2.h rfl (Mem.rx (i := 3) rfl (ints_getI (i := (X3QX.player * X3RX.pits) + mv) (by omega)))) ?_
      refine y1 12 ?_
      refine yv rfl rfl (fun w hw => c_spec_l04Sum X3QX.stores (okx_ hw)) ?_
      refine JH.p 13 rfl (p_sub rfl rfl rfl) ?_
      refine JH.p 19 rfl (p_add rfl rfl rfl) ?_
      refine y1 20 ?_
      refine yv rfl rfl (fun w hw => c_spec_l00Min (IntKind.i64.wrap (1 + X37KX)) (IntKind.i64.wrap ((IntKind.i64.wrap ((IntKind.i64.wrap (96 - (M.sum4 X3QX.pits))) - (M.sum4 X3QX.stores))) + (M.getI X3QX.pits ((X3QX.player * X3RX.pits) + mv))))) ?_
      refine jI 21 el_26 rfl rfl rfl rfl ?_
      refine y1 22 ?_
      refine JHo.s rfl (e_storeRx (i := 3) (j := (((X3QX.player * X3RX.pits) + mv).toNat)) (xs' := ints_ (M.setI X3QX.pits ((X3QX.player * X3RX.pits) + mv) (if (IntKind.i64.wrap (1 + X37KX)) < (IntKind.i64.wrap ((IntKind.i64.wrap ((IntKind.i64.wrap (96 - (M.sum4 X3QX.pits))) - (M.sum4 X3QX.stores))) + (M.getI X3QX.pits ((X3QX.player * X3RX.pits) + mv)))) then (IntKind.i64.wrap (1 + X37KX)) else (IntKind.i64.wrap ((IntKind.i64.wrap ((IntKind.i64.wrap (96 - (M.sum4 X3QX.pits))) - (M.sum4 X3QX.stores))) + (M.getI X3QX.pits ((X3QX.player * X3RX.pits) + mv))))))) ty_2.h rfl rfl rfl rfl rfl (ints_lt (i := ((X3QX.player * X3RX.pits) + mv).toNat) (by omega)) (ints_setL (i := ((X3QX.player * X3RX.pits) + mv).toNat) (by omega))) (.inr rfl) ?_
      rintro _ _ _ ⟨rfl, rfl⟩ _
      refine znh ?_
      refine yd ?_
      refine zh [1, 0, 0, 0, 0, 0, 0, 0] ?_
      exact zm ⟨_, _, _, _, rfl, rfl, zt, zt, zt, zt⟩ (Up.refl _ _) ⟨rfl, rfl, rfl, rfl, rfl, trivial⟩
     refine JHo.q rfl (q_load1 ty_2.h rfl (Mem.rx (i := 3) rfl (ints_getI (i := (X3QX.player * X3RX.pits) + mv) (by omega)))) ?_
     refine y1 8 ?_
     refine yv rfl rfl (fun w hw => c_spec_l04Sum X3QX.pits (okx_ hw)) ?_
     refine JH.p 9 rfl (p_sub rfl rfl rfl) ?_
     refine y1 12 ?_
     refine yv rfl rfl (fun w hw => c_spec_l04Sum X3QX.stores (okx_ hw)) ?_
     refine JH.p 13 rfl (p_sub rfl rfl rfl) ?_
     refine JH.p 19 rfl (p_add rfl rfl rfl) ?_
     refine y1 20 ?_
     refine yv rfl rfl (fun w hw => c_spec_l00Min (IntKind.i64.wrap (1 + X37KX)) (IntKind.i64.wrap ((IntKind.i64.wrap ((IntKind.i64.wrap (96 - (M.sum4 X3QX.pits))) - (M.sum4 X3QX.stores))) + (M.getI X3QX.pits ((X3QX.player * X3RX.pits) + mv))))) ?_
     refine jI 21 el_26 rfl rfl rfl rfl ?_
     refine y1 22 ?_
     refine JHo.s rfl (e_storeRx (i := 3) (j := (((X3QX.player * X3RX.pits) + mv).toNat)) (xs' := ints_ (M.setI X3QX.pits ((X3QX.player * X3RX.pits) + mv) (if (IntKind.i64.wrap (1 + X37KX)) < (IntKind.i64.wrap ((IntKind.i64.wrap ((IntKind.i64.wrap (96 - (M.sum4 X3QX.pits))) - (M.sum4 X3QX.stores))) + (M.getI X3QX.pits ((X3QX.player * X3RX.pits) + mv)))) then (IntKind.i64.wrap (1 + X37KX)) else (IntKind.i64.wrap ((IntKind.i64.wrap ((IntKind.i64.wrap (96 - (M.sum4 X3QX.pits))) - (M.sum4 X3QX.stores))) + (M.getI X3QX.pits ((X3QX.player * X3RX.pits) + mv))))))) ty_2.h rfl rfl rfl rfl rfl (ints_lt (i := ((X3QX.player * X3RX.pits) + mv).toNat) (by omega)) (ints_setL (i := ((X3QX.player * X3RX.pits) + mv).toNat) (by omega))) (.inr rfl) ?_
     rintro _ _ _ ⟨rfl, rfl⟩ _
     refine znh ?_
     refine yd ?_
     refine zh [1, 0, 0, 0, 0, 0, 0, 0] ?_
     exact zm ⟨_, _, _, _, rfl, rfl, zt, zt, zt, zt⟩ (Up.refl _ _) ⟨rfl, rfl, rfl, rfl, rfl, trivial⟩
    refine JHo.q rfl (q_load1 ty_2.h rfl (Mem.rx (i := 2) rfl (ints_getI (i := (X3QX.player * X3RX.pits) + mv) (by omega)))) ?_
    refine y1 4 ?_
    refine yBB 1 sp_ rfl rfl (fun w hb _ hw => c_spec_l00Src_pick s_code X23AT X23SD 20 hb (ok_ hw)) ?_
    rintro _ _ G41 ⟨X41KX, X41AT, X41SD, rfl, rfl, hX41_0, hX41_1, hX41_2, hX41_3⟩
    refine znh ?_
    refine JH.p 5 rfl (p_add rfl rfl rfl) ?_
    refine y1 8 ?_
    refine yv rfl rfl (fun w hw => c_spec_l04Sum X3QX.pits (okx_ hw)) ?_
    refine JH.p 9 rfl (p_sub rfl rfl rfl) ?_
    refine y1 12 ?_
    refine yv rfl rfl (fun w hw => c_spec_l04Sum X3QX.stores (okx_ hw)) ?_
    refine JH.p 13 rfl (p_sub rfl rfl rfl) ?_
    refine JH.p 19 rfl (p_add rfl rfl rfl) ?_
    refine y1 20 ?_
    refine yv rfl rfl (fun w hw => c_spec_l00Min (IntKind.i64.wrap (1 + X41KX)) (IntKind.i64.wrap ((IntKind.i64.wrap ((IntKind.i64.wrap (96 - (M.sum4 X3QX.pits))) - (M.sum4 X3QX.stores))) + (M.getI X3QX.pits ((X3QX.player * X3RX.pits) + mv))))) ?_
    refine jI 21 el_26 rfl rfl rfl rfl ?_
    refine y1 22 ?_
    refine JHo.s rfl (e_storeRx (i := 3) (j := (((X3QX.player * X3RX.pits) + mv).toNat)) (xs' := ints_ (M.setI X3QX.pits ((X3QX.player * X3RX.pits) + mv) (if (IntKind.i64.wrap (1 + X41KX)) < (IntKind.i64.wrap ((IntKind.i64.wrap ((IntKind.i64.wrap (96 - (M.sum4 X3QX.pits))) - (M.sum4 X3QX.stores))) + (M.getI X3QX.pits ((X3QX.player * X3RX.pits) + mv)))) then (IntKind.i64.wrap (1 + X41KX)) else (IntKind.i64.wrap ((IntKind.i64.wrap ((IntKind.i64.wrap (96 - (M.sum4 X3QX.pits))) - (M.sum4 X3QX.stores))) + (M.getI X3QX.pits ((X3QX.player * X3RX.pits) + mv))))))) ty_2.h rfl rfl rfl rfl rfl (ints_lt (i := ((X3QX.player * X3RX.pits) + mv).toNat) (by omega)) (ints_setL (i := ((X3QX.player * X3RX.pits) + mv).toNat) (by omega))) (.inr rfl) ?_
    rintro _ _ _ ⟨rfl, rfl⟩ _
    refine znh ?_
    refine yd ?_
    refine zh [1, 0, 0, 0, 0, 0, 0, 0] ?_
    exact zm ⟨_, _, _, _, rfl, rfl, zt, zt, zt, zt⟩ (Up.refl _ _) ⟨rfl, rfl, rfl, rfl, rfl, trivial⟩
   rintro _ _ u35 ⟨G29, X29AT, X29SD, X29KX, rfl, rfl, f35_0, f35_1, f35_2, f35_3⟩ x35
   refine zn ?_
   refine zf [1, 1, 1, 1, 1, 1] fun GG43 => ?_
   refine zn ?_
   refine Js.seq ?_
   refine zdr [3, 4] ?_
   refine JH.q 0 rfl (L9 1 rfl rfl) ?_
   refine JH.w 1 rfl (fun os' u' hv => LS 0 (hr27.vis (x35.vis.trans hv)) rfl) ?_
   refine jM 2 rfl rfl ?_
   refine y1 3 ?_
   refine yst rfl rfl rfl ?_
   refine y1 4 ?_
   refine yst rfl rfl rfl ?_
   refine jA 5 rfl rfl ?_
   refine yd ?_
   refine zf [0, 1, 1, 1, 1] fun GG44 => ?_
   refine zn ?_
   refine zrb [0, 0, 0] hb ((x16.trans x27).trans x35) ?_
   have hNr1_0 : (M.setI X3QX.pits ((X3QX.player * X3RX.pits) + mv) (if (IntKind.i64.wrap (1 + X29KX)) < (IntKind.i64.wrap ((IntKind.i64.wrap ((IntKind.i64.wrap (96 - (M.sum4 X3QX.pits))) - (M.sum4 X3QX.stores))) + (M.getI X3QX.pits ((X3QX.player * X3RX.pits) + mv)))) then (IntKind.i64.wrap (1 + X29KX)) else (IntKind.i64.wrap ((IntKind.i64.wrap ((IntKind.i64.wrap (96 - (M.sum4 X3QX.pits))) - (M.sum4 X3QX.stores))) + (M.getI X3QX.pits ((X3QX.player * X3RX.pits) + mv)))))).length = X3QX.pits.length := by first | rfl | assumption | omega | (simp only [List.length_set, M.setI_length]; done) | (simp only [List.length_set, M.setI_length]; first | rfl | assumption | omega) | (simp only [List.length_drop]; first | done | rfl | omega) | (simp; done) | (simp; omega)
   refine ⟨(X3RX), ((M.Pos.mk (M.setI X3QX.pits ((X3QX.player * X3RX.pits) + mv) (if (IntKind.i64.wrap (1 + X29KX)) < (IntKind.i64.wrap ((IntKind.i64.wrap ((IntKind.i64.wrap (96 - (M.sum4 X3QX.pits))) - (M.sum4 X3QX.stores))) + (M.getI X3QX.pits ((X3QX.player * X3RX.pits) + mv)))) then (IntKind.i64.wrap (1 + X29KX)) else (IntKind.i64.wrap ((IntKind.i64.wrap ((IntKind.i64.wrap (96 - (M.sum4 X3QX.pits))) - (M.sum4 X3QX.stores))) + (M.getI X3QX.pits ((X3QX.player * X3RX.pits) + mv)))))) X3QX.stores X3QX.player)), (mv), (X29AT), (X29SD), (some ⟨b26, o26, none⟩), c3rb_0, A3rb_1, c3rb_1, g3rb_1, (show (.tuple #[.agg #[.int .i64 X3RX.pits, .int .i64 X3RX.seeds, .bool X3RX.stores, .bool X3RX.skip, .bool X3RX.relay, .bool X3RX.feed, .bool X3RX.again, .int .i64 X3RX.capture, .int .i64 X3RX.slam], .agg #[.slice (some ⟨b26, o26, none⟩) X3QX.pits.length c3rb_0, .slice A3rb_1 X3QX.stores.length c3rb_1, .int .i64 X3QX.player], .int .i64 mv] : Value) = .tuple #[.agg #[.int .i64 X3RX.pits, .int .i64 X3RX.seeds, .bool X3RX.stores, .bool X3RX.skip, .bool X3RX.relay, .bool X3RX.feed, .bool X3RX.again, .int .i64 X3RX.capture, .int .i64 X3RX.slam], .agg #[.slice (some ⟨b26, o26, none⟩) (M.setI X3QX.pits ((X3QX.player * X3RX.pits) + mv) (if (IntKind.i64.wrap (1 + X29KX)) < (IntKind.i64.wrap ((IntKind.i64.wrap ((IntKind.i64.wrap (96 - (M.sum4 X3QX.pits))) - (M.sum4 X3QX.stores))) + (M.getI X3QX.pits ((X3QX.player * X3RX.pits) + mv)))) then (IntKind.i64.wrap (1 + X29KX)) else (IntKind.i64.wrap ((IntKind.i64.wrap ((IntKind.i64.wrap (96 - (M.sum4 X3QX.pits))) - (M.sum4 X3QX.stores))) + (M.getI X3QX.pits ((X3QX.player * X3RX.pits) + mv)))))).length c3rb_0, .slice A3rb_1 X3QX.stores.length c3rb_1, .int .i64 X3QX.player], .int .i64 mv] by rw [hNr1_0]), ?_, ?_, ?_, ?_, ?_, by first | trivial | omega | (dsimp only; omega) | (simp only [List.length_set, M.setI_length]; omega), by first | trivial | omega | (dsimp only; omega) | (simp only [List.length_set, M.setI_length]; omega), by first | trivial | omega | (dsimp only; omega) | (simp only [List.length_set, M.setI_length]; omega), by first | trivial | omega | (dsimp only; omega) | (simp only [List.length_set, M.setI_length]; omega)⟩
   · exact r5_ hNr1_0
   all_goals (try dsimp only)
   all_goals (first | (rw [hNr1_0]; omega) | omega | (simp only [*]; omega) | (simp; done))
  refine Js.skip <| Js.seq ?_
  refine zk [2, 3] (fun F U l os u => l = F [(4, .int .i64 mv)] ∧ os = U [nO, nO, nO, nO, nO, some (boxO b2 [.slice A3rb_0 X3QX.pits.length c3rb_0, .slice A3rb_1 X3QX.stores.length c3rb_1, .int .i64 X3QX.player] 28), some (boxO b1 [.int .i64 X3RX.pits, .int .i64 X3RX.seeds, .bool X3RX.stores, .bool X3RX.skip, .bool X3RX.relay, .bool X3RX.feed, .bool X3RX.again, .int .i64 X3RX.capture, .int .i64 X3RX.slam] 25)]) ?_ ?_
  ·
   refine zdr [3, 4] ?_
   refine JH.q 0 rfl (L9 2 rfl rfl) ?_
   refine jM 2 rfl rfl ?_
   refine y2 1 3 ?_ ?_
   ·
    refine JHo.q rfl (L9 1 rfl rfl) ?_
    refine y1 3 ?_
    refine yst rfl rfl rfl ?_
    refine y1 4 ?_
    refine yst rfl rfl rfl ?_
    refine jA 5 rfl rfl ?_
    refine yd ?_
    exact zm ⟨rfl, rfl⟩ (Up.refl _ _)
   refine yst rfl rfl rfl ?_
   refine y1 1 ?_
   refine JHo.q rfl (L9 1 rfl rfl) ?_
   refine y1 4 ?_
   refine yst rfl rfl rfl ?_
   refine jA 5 rfl rfl ?_
   refine yd ?_
   exact zm ⟨rfl, rfl⟩ (Up.refl _ _)
  rintro _ _ u45 ⟨rfl, rfl⟩ x45
  refine zn ?_
  refine zf [0, 2, 2, 2, 2] fun GG46 => ?_
  refine zn ?_
  refine zrb [0, 0, 0] hb (x16.trans x45) ?_
  refine ⟨(X3RX), (X3QX), (mv), (X23AT), (X23SD), A3rb_0, c3rb_0, A3rb_1, c3rb_1, g3rb_1, rfl, ?_, ?_, ?_, ?_, ?_, by first | trivial | omega | (dsimp only; omega) | (simp only [List.length_set, M.setI_length]; omega), by first | trivial | omega | (dsimp only; omega) | (simp only [List.length_set, M.setI_length]; omega), by first | trivial | omega | (dsimp only; omega) | (simp only [List.length_set, M.setI_length]; omega), by first | trivial | omega | (dsimp only; omega) | (simp only [List.length_set, M.setI_length]; omega)⟩
  · rfl
  all_goals (try dsimp only)
  all_goals (first | (omega) | omega | (simp only [*]; omega) | (simp; done))
 refine Js.region <| zv rfl (fun w hw => c_spec_l04Ok X3RX X3QX (okx_ hw) (okx_ hw)) <| Qm rfl <| zg (Gd.t1 rfl rfl rfl) (fun hc => p_move rfl) <| zg (Gd.t1 rfl rfl rfl) (fun hc => p_fieldAddr fld_25_0.h rfl) <| zgq (Gd.t1 rfl rfl rfl) (fun hc => q_load1 ty_2.h (gh hc rfl) (Mem.box (i := 2) rfl rfl)) <| zg (Gd.t1 rfl rfl rfl) (fun hc => p_sub (gh hc rfl) rfl rfl) <| zgv (Gd.t1 rfl rfl rfl) (fun hc => (opds_3 (gh hc rfl) rfl (gh hc rfl))) (fun hc => (fun w hw => c_spec_l00In mv 0 (IntKind.i64.wrap (X3RX.pits - 1)))) ?_
 refine Qq (p_pickAnd rfl rfl rfl) <| Qm rfl ?_
 refine JL.g (v := undef) (Gd.t1 rfl rfl rfl) (fun hc => absurd hc (by first | (rw [h22]; simp; done) | simp [h22])) ?_
 refine JL.g (v := .bool false) (Gd.t1 rfl rfl rfl) (fun hc => absurd hc (by first | (rw [h22]; simp; done) | simp [h22])) ?_
 refine Qq (p_pickAnd rfl rfl rfl) <| JL.nil ?_
 -- known
 refine Js.condF rfl (by rw [h22]; rfl) ?_
 refine Js.skip <| Js.seq ?_
 refine zk [2, 3] (fun F U l os u => l = F [(4, .int .i64 mv)] ∧ os = U [nO, nO, nO, nO, nO, some (boxO b2 [.slice A3rb_0 X3QX.pits.length c3rb_0, .slice A3rb_1 X3QX.stores.length c3rb_1, .int .i64 X3QX.player] 28), some (boxO b1 [.int .i64 X3RX.pits, .int .i64 X3RX.seeds, .bool X3RX.stores, .bool X3RX.skip, .bool X3RX.relay, .bool X3RX.feed, .bool X3RX.again, .int .i64 X3RX.capture, .int .i64 X3RX.slam] 25)]) ?_ ?_
 ·
  refine zdr [3, 4] ?_
  refine JH.q 0 rfl (L9 2 rfl rfl) ?_
  refine jM 2 rfl rfl ?_
  refine y2 1 3 ?_ ?_
  ·
   refine JHo.q rfl (L9 1 rfl rfl) ?_
   refine y1 3 ?_
   refine yst rfl rfl rfl ?_
   refine y1 4 ?_
   refine yst rfl rfl rfl ?_
   refine jA 5 rfl rfl ?_
   refine yd ?_
   exact zm ⟨rfl, rfl⟩ (Up.refl _ _)
  refine yst rfl rfl rfl ?_
  refine y1 1 ?_
  refine JHo.q rfl (L9 1 rfl rfl) ?_
  refine y1 4 ?_
  refine yst rfl rfl rfl ?_
  refine jA 5 rfl rfl ?_
  refine yd ?_
  exact zm ⟨rfl, rfl⟩ (Up.refl _ _)
 rintro _ _ u47 ⟨rfl, rfl⟩ x47
 refine zn ?_
 refine zf [0, 2, 2, 2, 2] fun GG48 => ?_
 refine zn ?_
 refine zrb [0, 0, 0] hb (x16.trans x47) ?_
 refine ⟨(X3RX), (X3QX), (mv), (at5), (sd5), A3rb_0, c3rb_0, A3rb_1, c3rb_1, g3rb_1, rfl, ?_, ?_, ?_, ?_, ?_, by first | trivial | omega | (dsimp only; omega) | (simp only [List.length_set, M.setI_length]; omega), by first | trivial | omega | (dsimp only; omega) | (simp only [List.length_set, M.setI_length]; omega), by first | trivial | omega | (dsimp only; omega) | (simp only [List.length_set, M.setI_length]; omega), by first | trivial | omega | (dsimp only; omega) | (simp only [List.length_set, M.setI_length]; omega)⟩
 · rfl
 all_goals (try dsimp only)
 all_goals (first | (omega) | omega | (simp only [*]; omega) | (simp; done))
theorem c_spec_l07Draw (s_code : Nat) (s_at s_seed : Int) {As_0 : Option Addr} {cs_0 bs : Nat} {w : World} (hb : Bw w [boxO bs [.slice As_0 s_code cs_0, .int .i64 s_at, .int .u64 s_seed] 126]) (hps_0 : (Ty.bytes 5 s_code).ok (offW w (([boxO bs [.slice As_0 s_code cs_0, .int .i64 s_at, .int .u64 s_seed] 126] : List Own).flatMap (·.fp))) (.slice As_0 s_code cs_0)) (r0 : 0 ≤ s_at := by exact om_) (r1 : s_at ≤ 999994900 := by exact om_) (r2 : s_code ≤ 1048576 := by exact om_) : RetB Tryz.prog 172 [.pointer (some ⟨bs, 0, none⟩)] w [boxO bs [.slice As_0 s_code cs_0, .int .i64 s_at, .int .u64 s_seed] 126] (fun v bs' => ∃ (RX : M.Rul) (PX : M.Pos) (KX AT SD : Int) (Axrb_0 : Option Addr) (cxrb_0 : Nat) (Axrb_1 : Option Addr) (cxrb_1 : Nat) (gxrb_1 : List Nat), v = .tuple #[.agg #[.int .i64 RX.pits, .int .i64 RX.seeds, .bool RX.stores, .bool RX.skip, .bool RX.relay, .bool RX.feed, .bool RX.again, .int .i64 RX.capture, .int .i64 RX.slam], .agg #[.slice Axrb_0 PX.pits.length cxrb_0, .slice Axrb_1 PX.stores.length cxrb_1, .int .i64 PX.player], .int .i64 KX] ∧ bs' = [boxO bs [.slice As_0 s_code cs_0, .int .i64 AT, .int .u64 SD] 126, rxO 2 (.slice Axrb_0 PX.pits.length cxrb_0) PX.pits.length (ints_ PX.pits), rowO 2 1 (.slice Axrb_1 PX.stores.length cxrb_1) PX.stores.length (ints_ PX.stores) gxrb_1] ∧ PX.pits.length ≤ cxrb_0 ∧ cxrb_0 ≤ 9223372036854775807 ∧ PX.stores.length ≤ cxrb_1 ∧ cxrb_1 ≤ 9223372036854775807 ∧ (RX.pits ≤ 9) ∧ (PX.pits.length ≤ 4194304 ∧ PX.stores.length ≤ 4194304) ∧ (s_at ≤ AT) ∧ (AT ≤ s_at + 5100)) := by
 refine enterB hb @Tryz.func172 @Tryz.ntmps172 rfl rfl ?_
 refine zent ?_
 refine Js.trashE ?_
 refine zn ?_
 refine zS <| za zeh fun b1 => za zeh fun b2 => Qa rfl <| zN <| Qm rfl ?_
 refine zhl [2] ?_
 refine zBB 1 sp_ rfl (fun w hb _ hw => c_spec_l05Draw s_code s_at s_seed hb (ok_ hw)) ?_
 rintro _ _ G3 ⟨X3RX, X3PX, X3KX, X3AT, X3SD, A3rb_0, c3rb_0, A3rb_1, c3rb_1, g3rb_1, rfl, rfl, bl3_0, bl3_1, bl3_2, bl3_3, hX3_0, hX3_1, hX3_2, hX3_3⟩
 refine znl ?_
 refine Qm rfl <| Qx rfl rfl <| Qx rfl rfl <| Qx rfl rfl <| za zeh fun b4 => za zeh fun b5 => zw 1 rfl rfl rfl ?_
 refine zw 0 rfl rfl rfl ?_
 refine Qa rfl <| JL.nil ?_
 refine zf [0, 0, 0, 0, 0, 1, 1] fun GG6 => ?_
 refine zn ?_
 refine Js.seq <| Js.seq ?_
 rcases Bool.eq_false_or_eq_true (M.okP X3RX X3PX) with h7 | h7
 ·
  refine Js.region <| zv rfl (fun w hw => c_spec_l04Ok X3RX X3PX (okx_ hw) (okx_ hw)) <| Qm rfl <| zT (Gd.t1 rfl rfl rfl) (show (M.okP X3RX X3PX) = true by first | exact h7 | (rw [h7]; rfl) | simp [h7]) <| Qm rfl <| zT (Gd.t1 rfl rfl rfl) (show (M.okP X3RX X3PX) = true by first | exact h7 | (rw [h7]; rfl) | simp [h7]) ?_
  refine zhl [2] ?_
  refine zBB 1 sp_ rfl (fun w hb _ hw => c_spec_l00Src_one s_code X3AT X3SD 6 hb (ok_ hw)) ?_
  rintro _ _ G8 ⟨X8BX, X8AT, X8SD, rfl, rfl, hX8_0, hX8_1⟩
  refine znl ?_
  refine Qq (p_pickAnd2 rfl rfl rfl) <| JL.nil ?_
  refine zf [0, 1, 1, 1, 1, 1, 1] fun GG9 => ?_
  refine zn ?_
  refine zi (fun h10 h10' => ?_) fun h10 h10' => ?_
  ·
   obtain ⟨g1, g2, g3, g4, _, _, _⟩ := M.okP_bd h7
   refine zS <| Qm rfl <| zBB 1 sp_ rfl (fun w hb _ hw => c_spec_l00Src_pick s_code X8AT X8SD 2 hb (ok_ hw)) ?_
   rintro _ _ G11 ⟨X11KX, X11AT, X11SD, rfl, rfl, hX11_0, hX11_1, hX11_2, hX11_3⟩
   refine znl ?_
   refine Qa rfl <| JL.nil ?_
   refine zf [0, 1, 1, 1, 1, 1, 1] fun GG12 => ?_
   refine zn ?_
   have hm9 := M.mul01 (a := X11KX) (n := X3RX.pits) (by omega) (by omega) (by omega) (by omega)
   obtain ⟨sd9, hsd9⟩ : ∃ x : Int, x = X11KX * X3RX.pits := ⟨_, rfl⟩
   refine Js.seq <| zS <| Qm rfl <| Qf fh rfl <| Q0 2 rfl rfl rfl <| Qu rfl rfl <| Qa rfl <| JL.nil <| Js.block ?_
   refine zl [2, 3, 5, 6, 7, 8] (fun F U l os u m => ∃ (j : Int) (ys : List Int) (G13_7 : List Nat), l = F [(9, .int .i64 j)] ∧ os = U [nO, nO, nO, some (rxO 2 (.slice A3rb_0 X3PX.pits.length c3rb_0) X3PX.pits.length (ints_ ys)), nO, nO, nO, some (anyO G13_7)] ∧ (ys.length = (X3PX.pits).length) ∧ (sd9 ≤ j) ∧ (j ≤ sd9 + X3RX.pits) ∧ m = (sd9 + X3RX.pits - j).toNat) ⟨X11KX * X3RX.pits, X3PX.pits, _, rfl, rfl, by rfl, zt, zt, rfl⟩ ?_
   rintro _ _ u13 _ ⟨j, ys, G13_7, rfl, rfl, hY, hj0, hj1, rfl⟩ x13
   refine zn ?_
   refine Js.seq <| zS <| Qm rfl <| Qm rfl <| Qp rfl rfl <| Qf fh rfl <| Q0 2 rfl rfl rfl <| Qu rfl rfl <| Ql rfl rfl <| JL.nil ?_
   refine zi (fun h14 h14' => ?_) fun h14 h14' => ?_
   ·
    refine Js.skip <| Js.seq <| Js.block ?_
    refine Js.fact (rx_some (i := 3) rfl (by omega)) (fun hf15 => ?_)
    obtain ⟨b15, o15, rfl⟩ := hf15
    refine Js.region <| Qf fh rfl <| Q0 1 rfl rfl rfl <| Qm rfl <| Qq (p_indexAddr el_26 rfl rfl (by omega) (by omega) rfl) ?_
    refine JL.s (e_storeRx (i := 3) (j := j.toNat) (xs' := ints_ (M.setI ys j 0)) ty_2.h rfl rfl rfl rfl rfl (ints_lt (i := j.toNat) (by omega)) (ints_setL (i := j.toNat) (by omega))) ?_
    rintro _ _ _ ⟨rfl, rfl⟩ _
    refine znl ?_
    refine JL.nil <| Js.blockEnd <| Js.region <| Qm rfl <| Qp rfl rfl <| Qa rfl <| JL.nil ?_
    exact zag ⟨j + 1, M.setI ys j 0, _, rfl, rfl, by simp only [M.setI_length, List.length_set]; exact hY, zt, zt, rfl⟩ x13
   refine zx ?_
   refine Js.region <| Qm rfl <| Qs rfl rfl <| Qf fh rfl <| zw 1 rfl rfl rfl ?_
   refine zJ ?_
   refine zk [2, 3] (fun F U l os u => l = F [(4, .int .i64 X3KX)] ∧ os = U [nO, nO, nO, nO, nO, some (boxO b2 [.slice A3rb_0 X3PX.pits.length c3rb_0, .slice A3rb_1 X3PX.stores.length c3rb_1, .int .i64 (1 - X11KX)] 28), some (boxO b1 [.int .i64 X3RX.pits, .int .i64 X3RX.seeds, .bool X3RX.stores, .bool X3RX.skip, .bool X3RX.relay, .bool X3RX.feed, .bool X3RX.again, .int .i64 X3RX.capture, .int .i64 X3RX.slam] 25)]) ?_ ?_
   ·
    refine zdr [3, 4] ?_
    refine JH.q 0 rfl (L9 2 rfl rfl) ?_
    refine jM 2 rfl rfl ?_
    refine y2 1 3 ?_ ?_
    ·
     refine JHo.q rfl (L9 1 rfl rfl) ?_
     refine y1 3 ?_
     refine yst rfl rfl rfl ?_
     refine y1 4 ?_
     refine yst rfl rfl rfl ?_
     refine jA 5 rfl rfl ?_
     refine yd ?_
     exact zm ⟨rfl, rfl⟩ (Up.refl _ _)
    refine yst rfl rfl rfl ?_
    refine y1 1 ?_
    refine JHo.q rfl (L9 1 rfl rfl) ?_
    refine y1 4 ?_
    refine yst rfl rfl rfl ?_
    refine jA 5 rfl rfl ?_
    refine yd ?_
    exact zm ⟨rfl, rfl⟩ (Up.refl _ _)
   rintro _ _ u17 ⟨rfl, rfl⟩ x17
   refine zn ?_
   refine zf [0, 2, 2, 2, 2] fun GG18 => ?_
   refine zn ?_
   refine zrb [0, 0, 0] hb (x13.trans x17) ?_
   have hNr1_0 : ys.length = X3PX.pits.length := by first | rfl | assumption | omega | (simp only [List.length_set, M.setI_length]; done) | (simp only [List.length_set, M.setI_length]; first | rfl | assumption | omega) | (simp only [List.length_drop]; first | done | rfl | omega) | (simp; done) | (simp; omega)
   refine ⟨(X3RX), ((M.Pos.mk ys X3PX.stores (1 - X11KX))), (X3KX), (X11AT), (X11SD), A3rb_0, c3rb_0, A3rb_1, c3rb_1, g3rb_1, (show (.tuple #[.agg #[.int .i64 X3RX.pits, .int .i64 X3RX.seeds, .bool X3RX.stores, .bool X3RX.skip, .bool X3RX.relay, .bool X3RX.feed, .bool X3RX.again, .int .i64 X3RX.capture, .int .i64 X3RX.slam], .agg #[.slice A3rb_0 X3PX.pits.length c3rb_0, .slice A3rb_1 X3PX.stores.length c3rb_1, .int .i64 (1 - X11KX)], .int .i64 X3KX] : Value) = .tuple #[.agg #[.int .i64 X3RX.pits, .int .i64 X3RX.seeds, .bool X3RX.stores, .bool X3RX.skip, .bool X3RX.relay, .bool X3RX.feed, .bool X3RX.again, .int .i64 X3RX.capture, .int .i64 X3RX.slam], .agg #[.slice A3rb_0 ys.length c3rb_0, .slice A3rb_1 X3PX.stores.length c3rb_1, .int .i64 (1 - X11KX)], .int .i64 X3KX] by rw [hNr1_0]), ?_, ?_, ?_, ?_, ?_, by first | trivial | omega | (dsimp only; omega) | (simp only [List.length_set, M.setI_length]; omega), by first | trivial | omega | (dsimp only; omega) | (simp only [List.length_set, M.setI_length]; omega), by first | trivial | omega | (dsimp only; omega) | (simp only [List.length_set, M.setI_length]; omega), by first | trivial | omega | (dsimp only; omega) | (simp only [List.length_set, M.setI_length]; omega)⟩
   · exact r5_ hNr1_0
   all_goals (try dsimp only)
   all_goals (first | (rw [hNr1_0]; omega) | omega | (simp only [*]; omega) | (simp; done))
  refine Js.skip <| Js.seq ?_
  refine zk [2, 3] (fun F U l os u => l = F [(4, .int .i64 X3KX)] ∧ os = U [nO, nO, nO, nO, nO, some (boxO b2 [.slice A3rb_0 X3PX.pits.length c3rb_0, .slice A3rb_1 X3PX.stores.length c3rb_1, .int .i64 X3PX.player] 28), some (boxO b1 [.int .i64 X3RX.pits, .int .i64 X3RX.seeds, .bool X3RX.stores, .bool X3RX.skip, .bool X3RX.relay, .bool X3RX.feed, .bool X3RX.again, .int .i64 X3RX.capture, .int .i64 X3RX.slam] 25)]) ?_ ?_
  ·
   refine zdr [3, 4] ?_
   refine JH.q 0 rfl (L9 2 rfl rfl) ?_
   refine jM 2 rfl rfl ?_
   refine y2 1 3 ?_ ?_
   ·
    refine JHo.q rfl (L9 1 rfl rfl) ?_
    refine y1 3 ?_
    refine yst rfl rfl rfl ?_
    refine y1 4 ?_
    refine yst rfl rfl rfl ?_
    refine jA 5 rfl rfl ?_
    refine yd ?_
    exact zm ⟨rfl, rfl⟩ (Up.refl _ _)
   refine yst rfl rfl rfl ?_
   refine y1 1 ?_
   refine JHo.q rfl (L9 1 rfl rfl) ?_
   refine y1 4 ?_
   refine yst rfl rfl rfl ?_
   refine jA 5 rfl rfl ?_
   refine yd ?_
   exact zm ⟨rfl, rfl⟩ (Up.refl _ _)
  rintro _ _ u19 ⟨rfl, rfl⟩ x19
  refine zn ?_
  refine zf [0, 2, 2, 2, 2] fun GG20 => ?_
  refine zn ?_
  refine zrb [0, 0, 0] hb x19 ?_
  refine ⟨(X3RX), (X3PX), (X3KX), (X8AT), (X8SD), A3rb_0, c3rb_0, A3rb_1, c3rb_1, g3rb_1, rfl, ?_, ?_, ?_, ?_, ?_, by first | trivial | omega | (dsimp only; omega) | (simp only [List.length_set, M.setI_length]; omega), by first | trivial | omega | (dsimp only; omega) | (simp only [List.length_set, M.setI_length]; omega), by first | trivial | omega | (dsimp only; omega) | (simp only [List.length_set, M.setI_length]; omega), by first | trivial | omega | (dsimp only; omega) | (simp only [List.length_set, M.setI_length]; omega)⟩
  · rfl
  all_goals (try dsimp only)
  all_goals (first | (omega) | omega | (simp only [*]; omega) | (simp; done))
 refine Js.region <| zv rfl (fun w hw => c_spec_l04Ok X3RX X3PX (okx_ hw) (okx_ hw)) <| Qm rfl ?_
 refine JL.g (v := undef) (Gd.t1 rfl rfl rfl) (fun hc => absurd hc (by first | (rw [h7]; simp; done) | simp [h7])) ?_
 refine JL.g (v := .bool false) (Gd.t1 rfl rfl rfl) (fun hc => absurd hc (by first | (rw [h7]; simp; done) | simp [h7])) ?_
 refine Qq (p_pickAnd rfl rfl rfl) <| JL.nil ?_
 -- known
 refine Js.condF rfl (by rw [h7]; rfl) ?_
 refine Js.skip <| Js.seq ?_
 refine zk [2, 3] (fun F U l os u => l = F [(4, .int .i64 X3KX)] ∧ os = U [nO, nO, nO, nO, nO, some (boxO b2 [.slice A3rb_0 X3PX.pits.length c3rb_0, .slice A3rb_1 X3PX.stores.length c3rb_1, .int .i64 X3PX.player] 28), some (boxO b1 [.int .i64 X3RX.pits, .int .i64 X3RX.seeds, .bool X3RX.stores, .bool X3RX.skip, .bool X3RX.relay, .bool X3RX.feed, .bool X3RX.again, .int .i64 X3RX.capture, .int .i64 X3RX.slam] 25)]) ?_ ?_
 ·
  refine zdr [3, 4] ?_
  refine JH.q 0 rfl (L9 1 rfl rfl) ?_
  refine jM 2 rfl rfl ?_
  refine y2 1 3 ?_ ?_
  ·
   refine JHo.q rfl (L9 0 rfl rfl) ?_
   refine y1 3 ?_
   refine yst rfl rfl rfl ?_
   refine y1 4 ?_
   refine yst rfl rfl rfl ?_
   refine jA 5 rfl rfl ?_
   refine yd ?_
   exact zm ⟨rfl, rfl⟩ (Up.refl _ _)
  refine yst rfl rfl rfl ?_
  refine y1 1 ?_
  refine JHo.q rfl (L9 0 rfl rfl) ?_
  refine y1 4 ?_
  refine yst rfl rfl rfl ?_
  refine jA 5 rfl rfl ?_
  refine yd ?_
  exact zm ⟨rfl, rfl⟩ (Up.refl _ _)
 rintro _ _ u21 ⟨rfl, rfl⟩ x21
 refine zn ?_
 refine zf [2, 2, 2, 2, 2] fun GG22 => ?_
 refine zn ?_
 refine zrb [0, 0, 0] hb x21 ?_
 refine ⟨(X3RX), (X3PX), (X3KX), (X3AT), (X3SD), A3rb_0, c3rb_0, A3rb_1, c3rb_1, g3rb_1, rfl, ?_, ?_, ?_, ?_, ?_, by first | trivial | omega | (dsimp only; omega) | (simp only [List.length_set, M.setI_length]; omega), by first | trivial | omega | (dsimp only; omega) | (simp only [List.length_set, M.setI_length]; omega), by first | trivial | omega | (dsimp only; omega) | (simp only [List.length_set, M.setI_length]; omega), by first | trivial | omega | (dsimp only; omega) | (simp only [List.length_set, M.setI_length]; omega)⟩
 · rfl
 all_goals (try dsimp only)
 all_goals (first | (omega) | omega | (simp only [*]; omega) | (simp; done))
theorem c_spec_l07Pos (s_code : Nat) (s_at s_seed : Int) {As_0 : Option Addr} {cs_0 bs : Nat} {w : World} (hb : Bw w [boxO bs [.slice As_0 s_code cs_0, .int .i64 s_at, .int .u64 s_seed] 126]) (hps_0 : (Ty.bytes 5 s_code).ok (offW w (([boxO bs [.slice As_0 s_code cs_0, .int .i64 s_at, .int .u64 s_seed] 126] : List Own).flatMap (·.fp))) (.slice As_0 s_code cs_0)) (r0 : 0 ≤ s_at := by exact om_) (r1 : s_at ≤ 999994900 := by exact om_) (r2 : s_code ≤ 1048576 := by exact om_) : RetB Tryz.prog 137 [.pointer (some ⟨bs, 0, none⟩)] w [boxO bs [.slice As_0 s_code cs_0, .int .i64 s_at, .int .u64 s_seed] 126] (fun v bs' => ∃ (RX : M.Rul) (PX : M.Pos) (AT SD : Int) (Axrb_0 : Option Addr) (cxrb_0 : Nat) (Axrb_1 : Option Addr) (cxrb_1 : Nat) (gxrb_1 : List Nat), v = .tuple #[.agg #[.int .i64 RX.pits, .int .i64 RX.seeds, .bool RX.stores, .bool RX.skip, .bool RX.relay, .bool RX.feed, .bool RX.again, .int .i64 RX.capture, .int .i64 RX.slam], .agg #[.slice Axrb_0 PX.pits.length cxrb_0, .slice Axrb_1 PX.stores.length cxrb_1, .int .i64 PX.player]] ∧ bs' = [boxO bs [.slice As_0 s_code cs_0, .int .i64 AT, .int .u64 SD] 126, rxO 2 (.slice Axrb_0 PX.pits.length cxrb_0) PX.pits.length (ints_ PX.pits), rowO 2 1 (.slice Axrb_1 PX.stores.length cxrb_1) PX.stores.length (ints_ PX.stores) gxrb_1] ∧ PX.pits.length ≤ cxrb_0 ∧ cxrb_0 ≤ 9223372036854775807 ∧ PX.stores.length ≤ cxrb_1 ∧ cxrb_1 ≤ 9223372036854775807 ∧ (RX.pits ≤ 9) ∧ (PX.pits.length ≤ 4194304 ∧ PX.stores.length ≤ 4194304) ∧ (s_at ≤ AT) ∧ (AT ≤ s_at + 5100)) := by
 refine enterB hb @Tryz.func137 @Tryz.ntmps137 rfl rfl ?_
 refine zent ?_
 refine Js.trashE ?_
 refine zn ?_
 refine zS <| za zeh fun b1 => za zeh fun b2 => zN <| Qm rfl ?_
 refine zhl [2] ?_
 refine zBB 1 sp_ rfl (fun w hb _ hw => c_spec_l07Draw s_code s_at s_seed hb (ok_ hw)) ?_
 rintro _ _ G3 ⟨X3RX, X3PX, X3KX, X3AT, X3SD, A3rb_0, c3rb_0, A3rb_1, c3rb_1, g3rb_1, rfl, rfl, bl3_0, bl3_1, bl3_2, bl3_3, hX3_0, hX3_1, hX3_2, hX3_3⟩
 refine znl ?_
 refine Qm rfl <| Qx rfl rfl <| Qx rfl rfl <| Qx rfl rfl <| za zeh fun b4 => za zeh fun b5 => zw 1 rfl rfl rfl ?_
 refine zw 0 rfl rfl rfl ?_
 refine Qa rfl <| JL.nil ?_
 refine zf [0, 0, 0, 0, 0, 1, 1] fun GG6 => ?_
 refine zn ?_
 refine Js.seq ?_
 refine zk [2, 3] (fun F U l os u => l = F [] ∧ os = U [nO, nO, nO, nO, nO, some (boxO b2 [.slice A3rb_0 X3PX.pits.length c3rb_0, .slice A3rb_1 X3PX.stores.length c3rb_1, .int .i64 X3PX.player] 28), some (boxO b1 [.int .i64 X3RX.pits, .int .i64 X3RX.seeds, .bool X3RX.stores, .bool X3RX.skip, .bool X3RX.relay, .bool X3RX.feed, .bool X3RX.again, .int .i64 X3RX.capture, .int .i64 X3RX.slam] 25)]) ?_ ?_
 ·
  refine zdr [2, 3] ?_
  refine JH.q 0 rfl (L9 1 rfl rfl) ?_
  refine y2 1 2 ?_ ?_
  ·
   refine JHo.q rfl (L9 0 rfl rfl) ?_
   refine y1 2 ?_
   refine yst rfl rfl rfl ?_
   refine y1 3 ?_
   refine yst rfl rfl rfl ?_
   refine yd ?_
   exact zm ⟨rfl, rfl⟩ (Up.refl _ _)
  refine yst rfl rfl rfl ?_
  refine y1 1 ?_
  refine JHo.q rfl (L9 0 rfl rfl) ?_
  refine y1 3 ?_
  refine yst rfl rfl rfl ?_
  refine yd ?_
  exact zm ⟨rfl, rfl⟩ (Up.refl _ _)
 rintro _ _ u7 ⟨rfl, rfl⟩ x7
 refine zn ?_
 refine zf [2, 2, 2, 2, 2] fun GG8 => ?_
 refine zn ?_
 refine zrb [0, 0, 0] hb x7 ?_
 refine ⟨(X3RX), (X3PX), (X3AT), (X3SD), A3rb_0, c3rb_0, A3rb_1, c3rb_1, g3rb_1, rfl, ?_, ?_, ?_, ?_, ?_, by first | trivial | assumption | omega | (dsimp only; omega), by first | trivial | assumption | omega | (dsimp only; omega), by first | trivial | assumption | omega | (dsimp only; omega), by first | trivial | assumption | omega | (dsimp only; omega)⟩
 · rfl
 all_goals (try dsimp only)
 all_goals (first | (omega) | omega | (simp only [*]; omega) | (simp; done))
theorem c_spec_l15Draw (s_code : Nat) (s_at s_seed : Int) {As_0 : Option Addr} {cs_0 bs : Nat} {w : World} (hb : Bw w [boxO bs [.slice As_0 s_code cs_0, .int .i64 s_at, .int .u64 s_seed] 126]) (hps_0 : (Ty.bytes 5 s_code).ok (offW w (([boxO bs [.slice As_0 s_code cs_0, .int .i64 s_at, .int .u64 s_seed] 126] : List Own).flatMap (·.fp))) (.slice As_0 s_code cs_0)) (r0 : 0 ≤ s_at := by exact om_) (r1 : s_at ≤ 999994800 := by exact om_) (r2 : s_code ≤ 1048576 := by exact om_) : RetB Tryz.prog 88 [.pointer (some ⟨bs, 0, none⟩)] w [boxO bs [.slice As_0 s_code cs_0, .int .i64 s_at, .int .u64 s_seed] 126] (fun v bs' => ∃ (RX : M.Rul) (PX : M.Pos) (AT SD : Int) (Axrb_0 : Option Addr) (cxrb_0 : Nat) (Axrb_1 : Option Addr) (cxrb_1 : Nat) (gxrb_1 : List Nat), v = .tuple #[.agg #[.int .i64 RX.pits, .int .i64 RX.seeds, .bool RX.stores, .bool RX.skip, .bool RX.relay, .bool RX.feed, .bool RX.again, .int .i64 RX.capture, .int .i64 RX.slam], .agg #[.slice Axrb_0 PX.pits.length cxrb_0, .slice Axrb_1 PX.stores.length cxrb_1, .int .i64 PX.player]] ∧ bs' = [boxO bs [.slice As_0 s_code cs_0, .int .i64 AT, .int .u64 SD] 126, rxO 2 (.slice Axrb_0 PX.pits.length cxrb_0) PX.pits.length (ints_ PX.pits), rowO 2 1 (.slice Axrb_1 PX.stores.length cxrb_1) PX.stores.length (ints_ PX.stores) gxrb_1] ∧ PX.pits.length ≤ cxrb_0 ∧ cxrb_0 ≤ 9223372036854775807 ∧ PX.stores.length ≤ cxrb_1 ∧ cxrb_1 ≤ 9223372036854775807 ∧ (RX.pits ≤ 9) ∧ (PX.pits.length ≤ 4194304 ∧ PX.stores.length ≤ 4194304) ∧ (s_at ≤ AT) ∧ (AT ≤ s_at + 5200)) := by
 refine enterB hb @Tryz.func88 @Tryz.ntmps88 rfl rfl ?_
 refine zent ?_
 refine Js.trashE ?_
 refine zn ?_
 refine zS <| za zeh fun b1 => za zeh fun b2 => zJ <| zS <| Qm rfl ?_
 refine zhl [2] ?_
 refine zBB 1 sp_ rfl (fun w hb _ hw => c_spec_l00Src_one s_code s_at s_seed 8 hb (ok_ hw)) ?_
 rintro _ _ G3 ⟨X3BX, X3AT, X3SD, rfl, rfl, hX3_0, hX3_1⟩
 refine znl ?_
 refine JL.nil ?_
 refine zf [0, 1, 1] fun GG4 => ?_
 refine zn ?_
 refine zi (fun h5 h5' => ?_) fun h5 h5' => ?_
 ·
  refine zS <| Qm rfl <| zBB 1 sp_ rfl (fun w hb _ hw => c_spec_l07Pos s_code X3AT X3SD hb (ok_ hw)) ?_
  rintro _ _ G6 ⟨X6RX, X6PX, X6AT, X6SD, A6rb_0, c6rb_0, A6rb_1, c6rb_1, g6rb_1, rfl, rfl, bl6_0, bl6_1, bl6_2, bl6_3, hX6_0, hX6_1, hX6_2, hX6_3⟩
  refine znl ?_
  refine Qx rfl rfl <| Qx rfl rfl <| zw 5 rfl rfl rfl ?_
  refine zw 4 rfl rfl rfl ?_
  refine JL.nil ?_
  refine zf [0, 0, 0, 1, 1] fun GG7 => ?_
  refine zn ?_
  refine zrb [0, 0, 0] hb (Up.refl _ _) ?_
  refine ⟨(X6RX), (X6PX), (X6AT), (X6SD), A6rb_0, c6rb_0, A6rb_1, c6rb_1, g6rb_1, rfl, ?_, ?_, ?_, ?_, ?_, by first | trivial | assumption | omega | (dsimp only; omega) | (simp only [List.length_set, M.setI_length]; omega), by first | trivial | assumption | omega | (dsimp only; omega) | (simp only [List.length_set, M.setI_length]; omega), by first | trivial | assumption | omega | (dsimp only; omega) | (simp only [List.length_set, M.setI_length]; omega), by first | trivial | assumption | omega | (dsimp only; omega) | (simp only [List.length_set, M.setI_length]; omega)⟩
  · rfl
  all_goals (try dsimp only)
  all_goals (first | (omega) | omega | (simp only [*]; omega) | (simp; done))
 refine Js.skip <| zS <| Qm rfl <| zBB 1 sp_ rfl (fun w hb _ hw => c_spec_l02Draw s_code X3AT X3SD hb (ok_ hw)) ?_
 rintro _ _ G8 ⟨X8RX, X8AT, X8SD, rfl, rfl, hX8_0, hX8_1, hX8_2⟩
 refine znl ?_
 refine za zeh fun b9 => zw 0 rfl rfl rfl ?_
 refine JL.nil ?_
 refine zf [0, 0, 1, 1] fun GG10 => ?_
 refine zn ?_
 refine zS <| Qm rfl ?_
 refine zhl [1] ?_
 refine zBB 1 sp_ rfl (fun w hb _ hw => c_spec_l00Src_pick s_code X8AT X8SD 2 hb (ok_ hw)) ?_
 rintro _ _ G11 ⟨X11KX, X11AT, X11SD, rfl, rfl, hX11_0, hX11_1, hX11_2, hX11_3⟩
 refine znl ?_
 refine Qp rfl rfl <| Qf fh rfl <| zw 2 rfl rfl rfl ?_
 refine JL.nil ?_
 refine zf [0, 1, 1, 1] fun GG12 => ?_
 refine zn ?_
 refine zS <| zc rfl (fun w hw => c_spec_l04Start (M.Rul.mk (2 + X11KX) X8RX.seeds X8RX.stores X8RX.skip X8RX.relay X8RX.feed X8RX.again X8RX.capture X8RX.slam) (ok_ hw)) ?_
 intro A14 c14 bl14 bh14 A15 c15 bl15 bh15
 have hl0 : (M.startP (M.Rul.mk (2 + X11KX) X8RX.seeds X8RX.stores X8RX.skip X8RX.relay X8RX.feed X8RX.again X8RX.capture X8RX.slam)).pits.length = (2 * ((M.Rul.mk (2 + X11KX) X8RX.seeds X8RX.stores X8RX.skip X8RX.relay X8RX.feed X8RX.again X8RX.capture X8RX.slam)).pits).toNat := by simp [M.startP]
 have hl1 : (M.startP (M.Rul.mk (2 + X11KX) X8RX.seeds X8RX.stores X8RX.skip X8RX.relay X8RX.feed X8RX.again X8RX.capture X8RX.slam)).stores.length = 2 := rfl
 try dsimp only at hl0
 refine za zeh fun b16 => zw 0 rfl rfl rfl ?_
 refine zJ <| zS <| Qa rfl <| JL.nil <| Js.block ?_
 refine zl [0, 2, 3, 4, 5] (fun F U l os u m => ∃ (k : Nat) (at1 sd1 : Int) (xs : List Int) (G17_7 : List Nat), l = F [(6, .int .i64 (k : Int))] ∧ os = U [nO, nO, some (rowO 2 1 (.slice A14 (((M.startP (M.Rul.mk (2 + X11KX) X8RX.seeds X8RX.stores X8RX.skip X8RX.relay X8RX.feed X8RX.again X8RX.capture X8RX.slam)).pits).length) c14) (((M.startP (M.Rul.mk (2 + X11KX) X8RX.seeds X8RX.stores X8RX.skip X8RX.relay X8RX.feed X8RX.again X8RX.capture X8RX.slam)).pits).length) (ints_ xs) []), some (boxO bs [.slice As_0 s_code cs_0, .int .i64 at1, .int .u64 sd1] 126), nO, nO, nO, some (anyO G17_7)] ∧ (xs.length = ((M.startP (M.Rul.mk (2 + X11KX) X8RX.seeds X8RX.stores X8RX.skip X8RX.relay X8RX.feed X8RX.again X8RX.capture X8RX.slam)).pits).length) ∧ (k ≤ xs.length) ∧ (s_at ≤ at1) ∧ (at1 ≤ s_at + 60 + 4 * k) ∧ m = xs.length - k) ⟨0, X11AT, X11SD, (M.startP (M.Rul.mk (2 + X11KX) X8RX.seeds X8RX.stores X8RX.skip X8RX.relay X8RX.feed X8RX.again X8RX.capture X8RX.slam)).pits, _, rfl, rfl, by rfl, zt, zt, zt, rfl⟩ ?_
 rintro _ _ u17 _ ⟨k, at1, sd1, xs, G17_7, rfl, rfl, hX, hk, ha0, ha1, rfl⟩ x17
 refine zn ?_
 refine Js.seq <| zS <| Qm rfl <| Qf fh rfl <| Q0 0 rfl rfl rfl <| Qz rfl <| Ql rfl rfl <| JL.nil ?_
 refine zi (fun h18 h18' => ?_) fun h18 h18' => ?_
 ·
  refine Js.skip <| Js.seq <| Js.block <| Js.seq ?_
  refine Js.fact (row_some (i := 2) rfl (by omega)) (fun hf19 => ?_)
  obtain ⟨b19, rfl⟩ := hf19
  refine zk [0, 2, 3, 4, 5, 6] (fun F U l os u => ∃ (G20 : List Nat) (X20KX X20AT X20SD : Int), l = F [] ∧ os = [anyO G20] ++ U [nO, nO, some (rowO 2 1 (.slice (some ⟨b19, 0, none⟩) (((M.startP (M.Rul.mk (2 + X11KX) X8RX.seeds X8RX.stores X8RX.skip X8RX.relay X8RX.feed X8RX.again X8RX.capture X8RX.slam)).pits).length) c14) (((M.startP (M.Rul.mk (2 + X11KX) X8RX.seeds X8RX.stores X8RX.skip X8RX.relay X8RX.feed X8RX.again X8RX.capture X8RX.slam)).pits).length) (ints_ (xs.set k X20KX)) []), some (boxO bs [.slice As_0 s_code cs_0, .int .i64 X20AT, .int .u64 X20SD] 126)] ∧ (0 ≤ X20KX) ∧ (X20KX = 0 ∨ X20KX < 4) ∧ (at1 ≤ X20AT) ∧ (X20AT ≤ at1 + 2)) ?_ ?_
  ·
   refine zdr [4, 6] ?_
   refine jF 0 fld_28_0 rfl rfl ?_
   refine jM 2 rfl rfl ?_
   refine jM 3 rfl rfl ?_
   refine y2 1 4 ?_ ?_
   ·
    refine JHo.q rfl (q_load1 ty_26.h rfl (Mem.box (i := 0) rfl rfl)) ?_
    refine y1 4 ?_
    refine zhh [3] ?_
    refine yBB 1 sp_ rfl rfl (fun w hb _ hw => c_spec_l00Src_pick s_code at1 sd1 4 hb (ok_ hw)) ?_
    rintro _ _ G25 ⟨X25KX, X25AT, X25SD, rfl, rfl, hX25_0, hX25_1, hX25_2, hX25_3⟩
    refine znh ?_
    refine jI 5 el_26 rfl rfl rfl rfl ?_
    refine y1 6 ?_
    refine JHo.s rfl (e_storeRow (i := 4) (xs' := ints_ (xs.set k X25KX)) ty_2.h rfl rfl rfl rfl rfl rfl (ints_lt (i := k) (by first | omega | (simp only [List.length_set]; omega))) (ints_setL (i := k) (by first | omega | (simp only [List.length_set]; omega)))) (.inr rfl) ?_
    rintro _ _ _ ⟨rfl, rfl⟩ _
    refine znh ?_
    refine yd ?_
    refine zh [1, 1, 1, 1, 0, 0, 0, 0, 0] ?_
    exact zm ⟨_, _, _, _, rfl, rfl, zt, zt, zt, zt⟩ (Up.refl _ _) ⟨rfl, rfl, rfl, rfl, rfl, rfl, trivial⟩
   refine zhh [3] ?_
   refine yBB 1 sp_ rfl rfl (fun w hb _ hw => c_spec_l00Src_pick s_code at1 sd1 4 hb (ok_ hw)) ?_
   rintro _ _ G27 ⟨X27KX, X27AT, X27SD, rfl, rfl, hX27_0, hX27_1, hX27_2, hX27_3⟩
   refine znh ?_
   refine y1 1 ?_
   refine JHo.q rfl (q_load1 ty_26.h rfl (Mem.box (i := 2) rfl rfl)) ?_
   refine jI 5 el_26 rfl rfl rfl rfl ?_
   refine y1 6 ?_
   refine JHo.s rfl (e_storeRow (i := 4) (xs' := ints_ (xs.set k X27KX)) ty_2.h rfl rfl rfl rfl rfl rfl (ints_lt (i := k) (by first | omega | (simp only [List.length_set]; omega))) (ints_setL (i := k) (by first | omega | (simp only [List.length_set]; omega)))) (.inr rfl) ?_
   rintro _ _ _ ⟨rfl, rfl⟩ _
   refine znh ?_
   refine yd ?_
   refine zh [1, 1, 1, 1, 0, 0, 0, 0, 0] ?_
   exact zm ⟨_, _, _, _, rfl, rfl, zt, zt, zt, zt⟩ (Up.refl _ _) ⟨rfl, rfl, rfl, rfl, rfl, rfl, trivial⟩
  rintro _ _ u24 ⟨G20, X20KX, X20AT, X20SD, rfl, rfl, f24_0, f24_1, f24_2, f24_3⟩ x24
  refine zn ?_
  refine zf [1, 1, 1, 1, 1, 1, 1] fun GG29 => ?_
  refine zn ?_
  refine zS <| Qm rfl ?_
  refine zhl [3] ?_
  refine zBB 1 sp_ rfl (fun w hb _ hw => c_spec_l00Src_one s_code X20AT X20SD 3 hb (ok_ hw)) ?_
  rintro _ _ G30 ⟨X30BX, X30AT, X30SD, rfl, rfl, hX30_0, hX30_1⟩
  refine znl ?_
  refine JL.nil ?_
  refine zf [0, 1, 1, 1, 1, 1, 1] fun GG31 => ?_
  refine zn ?_
  refine zi (fun h32 h32' => ?_) fun h32 h32' => ?_
  ·
   refine Js.region <| Qf fh rfl <| Q0 1 rfl rfl rfl <| Qm rfl <| Qq (p_indexAddr el_26 rfl rfl (by omega) (by omega) rfl) ?_
   refine JL.s (e_storeRow (i := 3) (xs' := ints_ ((xs.set k X20KX).set k 0)) ty_2.h rfl rfl rfl rfl rfl rfl (ints_lt (i := k) (by first | omega | (simp only [List.length_set]; omega))) (ints_setL (i := k) (by first | omega | (simp only [List.length_set]; omega)))) ?_
   rintro _ _ _ ⟨rfl, rfl⟩ _
   refine znl ?_
   refine JL.nil <| Js.blockEnd <| Js.region <| Qm rfl <| Qp rfl rfl <| Qa rfl <| JL.nil ?_
   refine zf [1, 1, 1, 0, 0, 0, 0] fun GG34 => ?_
   refine zn ?_
   exact zag ⟨k + 1, X30AT, X30SD, (xs.set k X20KX).set k 0, _, rfl, rfl, by simp only [List.length_set]; exact hX, by simp only [List.length_set]; omega, zt, zt, rfl⟩ (x17.trans x24) (by simp only [List.length_set]; omega)
  refine Js.skip <| Js.blockEnd <| Js.region <| Qm rfl <| Qp rfl rfl <| Qa rfl <| JL.nil ?_
  refine zf [1, 1, 1, 0, 0, 0, 0] fun GG35 => ?_
  refine zn ?_
  exact zag ⟨k + 1, X30AT, X30SD, xs.set k X20KX, _, rfl, rfl, by simp only [List.length_set]; exact hX, by simp only [List.length_set]; omega, zt, zt, rfl⟩ (x17.trans x24) (by simp only [List.length_set]; omega)
 refine zx ?_
 refine zS <| Qm rfl ?_
 refine zhl [3] ?_
 refine zBB 1 sp_ rfl (fun w hb _ hw => c_spec_l00Src_pick s_code at1 sd1 2 hb (ok_ hw)) ?_
 rintro _ _ G36 ⟨X36KX, X36AT, X36SD, rfl, rfl, hX36_0, hX36_1, hX36_2, hX36_3⟩
 refine znl ?_
 refine Qf fh rfl <| zw 2 rfl rfl rfl ?_
 refine JL.nil ?_
 refine zf [0, 1, 1, 1, 1, 1, 1] fun GG37 => ?_
 refine zn ?_
 refine Js.seq ?_
 refine zk [2, 3] (fun F U l os u => l = F [] ∧ os = U [nO, nO, nO, nO, nO, some (boxO b2 [.slice A14 (((M.startP (M.Rul.mk (2 + X11KX) X8RX.seeds X8RX.stores X8RX.skip X8RX.relay X8RX.feed X8RX.again X8RX.capture X8RX.slam)).pits).length) c14, .slice A15 (((M.startP (M.Rul.mk (2 + X11KX) X8RX.seeds X8RX.stores X8RX.skip X8RX.relay X8RX.feed X8RX.again X8RX.capture X8RX.slam)).stores).length) c15, .int .i64 X36KX] 28), some (boxO b1 [.int .i64 (2 + X11KX), .int .i64 X8RX.seeds, .bool X8RX.stores, .bool X8RX.skip, .bool X8RX.relay, .bool X8RX.feed, .bool X8RX.again, .int .i64 X8RX.capture, .int .i64 X8RX.slam] 25)]) ?_ ?_
 ·
  refine zdr [2, 3] ?_
  refine JH.q 0 rfl (L9 4 rfl rfl) ?_
  refine y2 1 2 ?_ ?_
  ·
   refine JHo.q rfl (L9 1 rfl rfl) ?_
   refine y1 2 ?_
   refine yst rfl rfl rfl ?_
   refine y1 3 ?_
   refine yst rfl rfl rfl ?_
   refine yd ?_
   exact zm ⟨rfl, rfl⟩ (Up.refl _ _)
  refine yst rfl rfl rfl ?_
  refine y1 1 ?_
  refine JHo.q rfl (L9 1 rfl rfl) ?_
  refine y1 3 ?_
  refine yst rfl rfl rfl ?_
  refine yd ?_
  exact zm ⟨rfl, rfl⟩ (Up.refl _ _)
 rintro _ _ u38 ⟨rfl, rfl⟩ x38
 refine zn ?_
 refine zf [0, 1, 1, 2, 2] fun GG39 => ?_
 refine zn ?_
 refine Js.conv (fun w hw => St.toRx (i := 2) rfl hw) ?_
 refine zn ?_
 refine zrb [2, 0, 1] hb (x17.trans x38) ?_
 have hNr1_0 : xs.length = ((M.startP (M.Rul.mk (2 + X11KX) X8RX.seeds X8RX.stores X8RX.skip X8RX.relay X8RX.feed X8RX.again X8RX.capture X8RX.slam)).pits).length := by first | rfl | assumption | omega | (simp only [List.length_set, M.setI_length]; done) | (simp only [List.length_set, M.setI_length]; first | rfl | assumption | omega) | (simp only [List.length_drop]; first | done | rfl | omega) | (simp; done) | (simp; omega)
 refine ⟨((M.Rul.mk (2 + X11KX) X8RX.seeds X8RX.stores X8RX.skip X8RX.relay X8RX.feed X8RX.again X8RX.capture X8RX.slam)), ((M.Pos.mk xs ((M.startP (M.Rul.mk (2 + X11KX) X8RX.seeds X8RX.stores X8RX.skip X8RX.relay X8RX.feed X8RX.again X8RX.capture X8RX.slam)).stores) X36KX)), (X36AT), (X36SD), A14, c14, A15, c15, [], (show (.tuple #[.agg #[.int .i64 (2 + X11KX), .int .i64 X8RX.seeds, .bool X8RX.stores, .bool X8RX.skip, .bool X8RX.relay, .bool X8RX.feed, .bool X8RX.again, .int .i64 X8RX.capture, .int .i64 X8RX.slam], .agg #[.slice A14 (((M.startP (M.Rul.mk (2 + X11KX) X8RX.seeds X8RX.stores X8RX.skip X8RX.relay X8RX.feed X8RX.again X8RX.capture X8RX.slam)).pits).length) c14, .slice A15 (((M.startP (M.Rul.mk (2 + X11KX) X8RX.seeds X8RX.stores X8RX.skip X8RX.relay X8RX.feed X8RX.again X8RX.capture X8RX.slam)).stores).length) c15, .int .i64 X36KX]] : Value) = .tuple #[.agg #[.int .i64 (2 + X11KX), .int .i64 X8RX.seeds, .bool X8RX.stores, .bool X8RX.skip, .bool X8RX.relay, .bool X8RX.feed, .bool X8RX.again, .int .i64 X8RX.capture, .int .i64 X8RX.slam], .agg #[.slice A14 xs.length c14, .slice A15 ((M.startP (M.Rul.mk (2 + X11KX) X8RX.seeds X8RX.stores X8RX.skip X8RX.relay X8RX.feed X8RX.again X8RX.capture X8RX.slam)).stores).length c15, .int .i64 X36KX]] by rw [hNr1_0]), ?_, ?_, ?_, ?_, ?_, by first | trivial | assumption | omega | (dsimp only; omega) | (simp only [List.length_set, M.setI_length]; omega), by first | trivial | assumption | omega | (dsimp only; omega) | (simp only [List.length_set, M.setI_length]; omega), by first | trivial | assumption | omega | (dsimp only; omega) | (simp only [List.length_set, M.setI_length]; omega), by first | trivial | assumption | omega | (dsimp only; omega) | (simp only [List.length_set, M.setI_length]; omega)⟩
 · exact r5_ hNr1_0
 all_goals (try dsimp only)
 all_goals (first | (rw [hNr1_0]; omega) | omega | (simp only [*]; omega) | (simp; done))
theorem c_impl_newSowing (r : M.Rul) {v_r : Value} (p : M.Pos) {v_p : Value} {w : World} (h_r : (Ty.agg (cRules r)).ok w v_r) (h_p : (Ty.agg (cPosition p)).ok w v_p) (r0 : p.pits.length ≤ 4194304 := by exact om_) (r1 : p.stores.length ≤ 4194304 := by exact om_) : Ret Tryz.prog 178 [v_r, v_p] w (Ty.box 185 (csowing (M.Sow.mk r p.player (M.Sw.mk p.pits p.stores 0 0) []))) := by
 revert v_r; apply opn
 revert v_p; apply opn
 intro A1 c1 h1 bl1 bh1 A2 c2 h2 bl2 bh2
 refine enter @Tryz.func178 @Tryz.ntmps178 rfl rfl ?_
 refine zent ?_
 refine zS <| zb rfl fun b3 => zb rfl fun b4 => Qa rfl <| zN <| Q9 0 rfl rfl ?_
 refine zc rfl (fun w hw => c_impl_Position_copied p (ok_ hw)) ?_
 intro A6 c6 bl6 bh6 A7 c7 bl7 bh7
 refine za zeh fun b8 => zw 0 rfl rfl rfl ?_
 refine zN <| Q9 4 rfl rfl ?_
 refine Qf fh rfl <| Q0 3 rfl rfl rfl <| Qf fh rfl <| Q0 0 rfl rfl rfl <| Qf fh rfl <| Q0 0 rfl rfl rfl <| Qb ?_
 refine zbs fun b9 => ?_
 refine Qb ?_
 refine zb rfl fun b11 => Qa rfl <| JL.nil ?_
 exact zro (Up.refl _ _)
theorem c_impl_sowing_lap (s_rules : M.Rul) (s_player : Int) (s_sown : M.Sw) (s_path : List Int) {As_10 : Option Addr} {cs_10 : Nat} {gs_10 : List Nat} {As_11 : Option Addr} {cs_11 : Nat} {gs_11 : List Nat} {As_14 : Option Addr} {cs_14 : Nat} {gs_14 : List Nat} (from_ : Int) {bs : Nat} {w : World} (hb : Bw w [boxO bs [.int .i64 s_rules.pits, .int .i64 s_rules.seeds, .bool s_rules.stores, .bool s_rules.skip, .bool s_rules.relay, .bool s_rules.feed, .bool s_rules.again, .int .i64 s_rules.capture, .int .i64 s_rules.slam, .int .i64 s_player, .slice As_10 s_sown.pits.length cs_10, .slice As_11 s_sown.stores.length cs_11, .int .i64 s_sown.last, .int .i64 s_sown.laps, .slice As_14 s_path.length cs_14] 185, rowO 2 1 (.slice As_10 s_sown.pits.length cs_10) s_sown.pits.length (ints_ s_sown.pits) gs_10, rowO 2 1 (.slice As_11 s_sown.stores.length cs_11) s_sown.stores.length (ints_ s_sown.stores) gs_11, rowO 2 1 (.slice As_14 s_path.length cs_14) s_path.length (ints_ s_path) gs_14]) (bd0 : s_sown.pits.length ≤ cs_10 := by exact om_) (bd1 : cs_10 ≤ 9223372036854775807 := by exact om_) (bd2 : s_sown.stores.length ≤ cs_11 := by exact om_) (bd3 : cs_11 ≤ 9223372036854775807 := by exact om_) (bd4 : s_path.length ≤ cs_14 := by exact om_) (bd5 : cs_14 ≤ 9223372036854775807 := by exact om_) (r0 : 2 ≤ s_rules.pits := by exact om_) (r1 : s_rules.pits ≤ 8 := by exact om_) (r2 : s_player = 0 ∨ s_player = 1 := by exact om_) (r3 : 0 ≤ from_ := by exact om_) (r4 : from_ < 2 * s_rules.pits := by exact om_) (r5 : M.Good s_rules s_sown.pits s_sown.stores 0 := by exact om_) (r6 : 0 < (M.getI s_sown.pits from_) := by exact om_) (r7 : 0 ≤ s_sown.laps := by exact om_) (r8 : s_sown.laps ≤ 99 := by exact om_) (r9 : s_path.length ≤ 10000 := by exact om_) : RetB Tryz.prog 194 [.pointer (some ⟨bs, 0, none⟩), .int .i64 from_] w [boxO bs [.int .i64 s_rules.pits, .int .i64 s_rules.seeds, .bool s_rules.stores, .bool s_rules.skip, .bool s_rules.relay, .bool s_rules.feed, .bool s_rules.again, .int .i64 s_rules.capture, .int .i64 s_rules.slam, .int .i64 s_player, .slice As_10 s_sown.pits.length cs_10, .slice As_11 s_sown.stores.length cs_11, .int .i64 s_sown.last, .int .i64 s_sown.laps, .slice As_14 s_path.length cs_14] 185, rowO 2 1 (.slice As_10 s_sown.pits.length cs_10) s_sown.pits.length (ints_ s_sown.pits) gs_10, rowO 2 1 (.slice As_11 s_sown.stores.length cs_11) s_sown.stores.length (ints_ s_sown.stores) gs_11, rowO 2 1 (.slice As_14 s_path.length cs_14) s_path.length (ints_ s_path) gs_14] (fun v bs' => ∃ (Axs_10 : Option Addr) (cxs_10 : Nat) (gxs_10 : List Nat) (Axs_11 : Option Addr) (cxs_11 : Nat) (gxs_11 : List Nat) (Axs_14 : Option Addr) (cxs_14 : Nat) (gxs_14 : List Nat), v = .bool (M.more s_rules (M.lap s_rules s_player from_ s_sown s_path).1) ∧ bs' = [boxO bs [.int .i64 s_rules.pits, .int .i64 s_rules.seeds, .bool s_rules.stores, .bool s_rules.skip, .bool s_rules.relay, .bool s_rules.feed, .bool s_rules.again, .int .i64 s_rules.capture, .int .i64 s_rules.slam, .int .i64 s_player, .slice Axs_10 ((((M.lap s_rules s_player from_ s_sown s_path).1).pits).length) cxs_10, .slice Axs_11 ((((M.lap s_rules s_player from_ s_sown s_path).1).stores).length) cxs_11, .int .i64 (((M.lap s_rules s_player from_ s_sown s_path).1).last), .int .i64 (((M.lap s_rules s_player from_ s_sown s_path).1).laps), .slice Axs_14 (((M.lap s_rules s_player from_ s_sown s_path).2).length) cxs_14] 185, rowO 2 1 (.slice Axs_10 ((((M.lap s_rules s_player from_ s_sown s_path).1).pits).length) cxs_10) ((((M.lap s_rules s_player from_ s_sown s_path).1).pits).length) (ints_ (((M.lap s_rules s_player from_ s_sown s_path).1).pits)) gxs_10, rowO 2 1 (.slice Axs_11 ((((M.lap s_rules s_player from_ s_sown s_path).1).stores).length) cxs_11) ((((M.lap s_rules s_player from_ s_sown s_path).1).stores).length) (ints_ (((M.lap s_rules s_player from_ s_sown s_path).1).stores)) gxs_11, rowO 2 1 (.slice Axs_14 (((M.lap s_rules s_player from_ s_sown s_path).2).length) cxs_14) (((M.lap s_rules s_player from_ s_sown s_path).2).length) (ints_ ((M.lap s_rules s_player from_ s_sown s_path).2)) gxs_14] ∧ (((M.lap s_rules s_player from_ s_sown s_path).1).pits).length ≤ cxs_10 ∧ cxs_10 ≤ 9223372036854775807 ∧ (((M.lap s_rules s_player from_ s_sown s_path).1).stores).length ≤ cxs_11 ∧ cxs_11 ≤ 9223372036854775807 ∧ ((M.lap s_rules s_player from_ s_sown s_path).2).length ≤ cxs_14 ∧ cxs_14 ≤ 9223372036854775807) := by
 have l1 := r5.lp
 have l2 := r5.ls
 have hk0 := r5.pit from_
 refine enterB hb @Tryz.func194 @Tryz.ntmps194 rfl rfl ?_
 refine zent ?_
 refine Js.trashE ?_
 refine zn ?_
 refine Js.fact (row_some (i := 1) rfl (by omega)) (fun hf1 => ?_)
 obtain ⟨b1, rfl⟩ := hf1
 refine Js.fact (row_some (i := 2) rfl (by omega)) (fun hf2 => ?_)
 obtain ⟨b2, rfl⟩ := hf2
 refine zS <| Qa rfl <| zN <| Qm rfl <| Qc rfl <| Qf fh rfl <| Qf fh rfl <| Q0 0 rfl rfl rfl <| Qm rfl <| Qq (p_indexAddr el_26 rfl rfl (by omega) (by omega) rfl) <| Qw (q_load1 ty_2.h rfl (Mem.row (i := 1) rfl (ints_getI (i := from_) (by omega)))) <| Qm rfl <| Qa rfl <| Qa rfl ?_
 refine Qa rfl <| zN <| Qm rfl <| Qc rfl <| Qf fh rfl <| Qf fh rfl <| Q0 0 rfl rfl rfl <| Qm rfl <| Qq (p_indexAddr el_26 rfl rfl (by omega) (by omega) rfl) ?_
 refine JL.s (e_storeRow (i := 1) (xs' := ints_ (M.setI s_sown.pits from_ 0)) ty_2.h rfl rfl rfl rfl rfl rfl (ints_lt (i := from_.toNat) (by omega)) (ints_setL (i := from_.toNat) (by omega))) ?_
 rintro _ _ _ ⟨rfl, rfl⟩ _
 refine znl ?_
 refine zJ <| Js.block ?_
 refine zl [0, 1] (fun F U l os u m => ∃ (k place before : Int) (ps ss path : List Int) (A5_0_14 : Option Addr) (c5_0_14 : Nat) (g5_0_14 : List Nat) (G5_4 : List Nat), l = F [(5, .int .i64 k), (6, .int .i64 place), (7, .int .i64 before)] ∧ os = U [some (boxO bs [.int .i64 s_rules.pits, .int .i64 s_rules.seeds, .bool s_rules.stores, .bool s_rules.skip, .bool s_rules.relay, .bool s_rules.feed, .bool s_rules.again, .int .i64 s_rules.capture, .int .i64 s_rules.slam, .int .i64 s_player, .slice (some ⟨b1, 0, none⟩) s_sown.pits.length cs_10, .slice (some ⟨b2, 0, none⟩) s_sown.stores.length cs_11, .int .i64 s_sown.last, .int .i64 s_sown.laps, .slice A5_0_14 path.length c5_0_14] 185), some (rowO 2 1 (.slice (some ⟨b1, 0, none⟩) s_sown.pits.length cs_10) s_sown.pits.length (ints_ ps) gs_10), some (rowO 2 1 (.slice (some ⟨b2, 0, none⟩) s_sown.stores.length cs_11) s_sown.stores.length (ints_ ss) gs_11), some (rowO 2 1 (.slice A5_0_14 path.length c5_0_14) path.length (ints_ path) g5_0_14), some (anyO G5_4)] ∧ (M.sow s_rules s_player from_ k.toNat place ps ss path = M.sow s_rules s_player from_ (M.getI s_sown.pits from_).toNat from_ (M.setI s_sown.pits from_ 0) s_sown.stores s_path) ∧ (M.Good s_rules ps ss k) ∧ (-1 ≤ place) ∧ (place < 2 * s_rules.pits) ∧ ((path.length : Int) + k = s_path.length + (M.getI s_sown.pits from_)) ∧ (k = (M.getI s_sown.pits from_) ∨ (0 ≤ place → M.getI ps place = before + 1)) ∧ (path.length ≤ c5_0_14) ∧ (c5_0_14 ≤ 9223372036854775807) ∧ m = k.toNat) ⟨M.getI s_sown.pits from_, from_, 0, M.setI s_sown.pits from_ 0, s_sown.stores, s_path, _, _, _, _, rfl, rfl, by rfl, by exact r5.takeUp r3 r4, zt, zt, zt, by exact .inl rfl, zu, zu, rfl⟩ ?_
 rintro _ _ u5 _ ⟨k, place, before, ps, ss, path, A5_0_14, c5_0_14, g5_0_14, G5_4, rfl, rfl, hS, hG, p0, p1, hl, hB, f5_6, f5_7, rfl⟩ x5
 refine zn ?_
 have l3 := hG.lp
 have l4 := hG.ls
 have hs0 := hG.store s_player
 have k0 := hG.n0
 refine Js.seq <| zS <| Qm rfl <| Qg rfl rfl <| JL.nil ?_
 refine zi (fun h6 h6' => ?_) fun h6 h6' => ?_
 ·
  refine Js.skip <| Js.seq <| Js.block <| Js.seq ?_
  refine zdr [] ?_
  refine jM 0 rfl rfl ?_
  refine jN 1 rfl rfl ?_
  refine jF 2 fld_185_0 rfl rfl ?_
  refine JH.q 3 rfl (L9 0 rfl rfl) ?_
  refine jM 4 rfl rfl ?_
  refine jN 5 rfl rfl ?_
  refine jF 6 fld_185_1 rfl rfl ?_
  refine jB 7 0 ty_2 rfl rfl rfl rfl ?_
  refine jM 8 rfl rfl ?_
  refine y1 9 ?_
  refine yv rfl rfl (fun w hw => c_impl_Rules_after s_rules s_player place (ok_ hw)) ?_
  refine jA 10 rfl rfl ?_
  refine yd ?_
  refine Js.seq <| zS <| Qm rfl <| Qc rfl <| Qf fh rfl <| Qf fh rfl <| Q0 0 rfl rfl rfl <| Qm rfl <| zg (Gd.t1 rfl rfl rfl) (fun hc => p_move rfl) <| zg (Gd.t1 rfl rfl rfl) (fun hc => p_move rfl) <| zg (Gd.t1 rfl rfl rfl) (fun hc => p_eql (gh hc rfl) (gh hc rfl)) <| Qq (p_pickAnd rfl rfl rfl) <| JL.nil ?_
  refine zi (fun h7 h7' => ?_) fun h7 h7' => ?_
  ·
   have hc : s_rules.skip = true ∧ M.after s_rules s_player place = from_ := by simpa using h7
   have hq : M.nxt s_rules s_player from_ place = M.after s_rules s_player (M.after s_rules s_player place) := by rw [M.nxt_yes hc, hc.2]
   have ha := M.after_bd s_rules r1 r0 r2 p0
   refine zdr [] ?_
   refine jM 0 rfl rfl ?_
   refine jN 1 rfl rfl ?_
   refine jF 2 fld_185_0 rfl rfl ?_
   refine JH.q 3 rfl (L9 0 rfl rfl) ?_
   refine jM 4 rfl rfl ?_
   refine jN 5 rfl rfl ?_
   refine jF 6 fld_185_1 rfl rfl ?_
   refine jB 7 0 ty_2 rfl rfl rfl rfl ?_
   refine jM 8 rfl rfl ?_
   refine y1 9 ?_
   refine yv rfl rfl (fun w hw => c_impl_Rules_after s_rules s_player (M.after s_rules s_player place) (ok_ hw)) ?_
   refine jA 10 rfl rfl ?_
   refine yd ?_
   have hqb := M.nxt_bd s_rules (frm := from_) r1 r0 r2 p0 r3
   rw [hq] at hqb
   refine Js.seq <| zS <| Qm rfl <| Ql rfl rfl <| JL.nil ?_
   refine zi (fun h8 h8' => ?_) fun h8 h8' => ?_
   ·
    have hS2 : M.sow s_rules s_player from_ (k - 1).toNat (M.after s_rules s_player (M.after s_rules s_player place)) ps (M.setI ss s_player (M.getI ss s_player + 1)) (path ++ [(M.after s_rules s_player (M.after s_rules s_player place))]) = M.sow s_rules s_player from_ (M.getI s_sown.pits from_).toNat from_ (M.setI s_sown.pits from_ 0) s_sown.stores s_path := by rw [← hS, show k.toNat = (k - 1).toNat + 1 by omega, M.sow_succ hq, if_pos (by omega)]
    have hG2 := hG.putStore (k := s_player) (by omega) (by omega) (by omega)
    have hB2 : 0 ≤ (M.after s_rules s_player (M.after s_rules s_player place)) → M.getI ps (M.after s_rules s_player (M.after s_rules s_player place)) = before + 1 := fun h => by omega
    refine zdr [13] ?_
    refine jM 0 rfl rfl ?_
    refine jN 1 rfl rfl ?_
    refine jF 2 fld_185_2 rfl rfl ?_
    refine jF 3 fld_139_1 rfl rfl ?_
    refine jB 4 0 ty_26 rfl rfl rfl rfl ?_
    refine jM 5 rfl rfl ?_
    refine jN 6 rfl rfl ?_
    refine jF 7 fld_185_1 rfl rfl ?_
    refine jB 8 0 ty_2 rfl rfl rfl rfl ?_
    refine jI 9 el_26 rfl rfl rfl rfl ?_
    refine JH.q 10 rfl (q_load1 ty_2.h rfl (Mem.row (i := 2) rfl (ints_getI (i := s_player) (by omega)))) ?_
    refine JH.p 11 rfl (p_add rfl rfl (IntWalk.i64_in _ (by omega))) ?_
    refine jI 12 el_26 rfl rfl rfl rfl ?_
    refine y1 13 ?_
    refine JHo.s rfl (e_storeRow (i := 2) (xs' := ints_ (M.setI ss s_player ((M.getI ss s_player) + 1))) ty_2.h rfl rfl rfl rfl rfl rfl (ints_lt (i := s_player.toNat) (by omega)) (ints_setL (i := s_player.toNat) (by omega))) (.inr rfl) ?_
    rintro _ _ _ ⟨rfl, rfl⟩ _
    refine znh ?_
    refine yd ?_
    refine Js.region <| Qm rfl <| Qm rfl <| Qc rfl <| Qf fh rfl <| Q0 0 rfl rfl rfl <| Qm rfl <| zbs fun b11 => ?_
    refine JL.e (e_append (i := 4) (n' := (path ++ [(M.after s_rules s_player (M.after s_rules s_player place))]).length) (vs' := ints_ (path ++ [(M.after s_rules s_player (M.after s_rules s_player place))])) el_26 rfl rfl rfl rfl (src_row (i := 0) und_26 rfl rfl) (by omega) (by omega) ln2_ (by simp [ints_])) ?_
    rintro v13 _ _ ⟨⟨g14, rfl⟩, rfl⟩ _
    refine JL.fact (row_form' (i := 4) rfl) (fun hf15 => ?_)
    obtain ⟨A15, c15, rfl, bl15, bh15⟩ := hf15
    refine znl ?_
    refine Qc rfl <| Qf fh rfl <| zw 1 rfl rfl rfl ?_
    refine JL.nil <| Js.blockEnd <| Js.region <| Qm rfl <| Qs rfl rfl <| Qa rfl <| JL.nil ?_
    refine zf [1, 1, 1, 1] fun GG16 => ?_
    refine zn ?_
    exact zag ⟨k - 1, M.after s_rules s_player (M.after s_rules s_player place), before, ps, M.setI ss s_player ((M.getI ss s_player) + 1), path ++ [(M.after s_rules s_player (M.after s_rules s_player place))], _, _, _, _, rfl, rfl, by exact hS2, by exact hG2, zt, zt, by simp only [List.length_append, List.length_cons, List.length_nil]; omega, by exact .inr hB2, zu, zu, rfl⟩ x5
   have hS2 : M.sow s_rules s_player from_ (k - 1).toNat (M.after s_rules s_player (M.after s_rules s_player place)) (M.setI ps (M.after s_rules s_player (M.after s_rules s_player place)) (M.getI ps (M.after s_rules s_player (M.after s_rules s_player place)) + 1)) ss (path ++ [(M.after s_rules s_player (M.after s_rules s_player place))]) = M.sow s_rules s_player from_ (M.getI s_sown.pits from_).toNat from_ (M.setI s_sown.pits from_ 0) s_sown.stores s_path := by rw [← hS, show k.toNat = (k - 1).toNat + 1 by omega, M.sow_succ hq, if_neg (by omega)]
   have hG2 := hG.putPit (k := (M.after s_rules s_player (M.after s_rules s_player place))) (by omega) (by omega) hqb.2
   have hpq := hG.pit (M.after s_rules s_player (M.after s_rules s_player place))
   have hB2 : 0 ≤ (M.after s_rules s_player (M.after s_rules s_player place)) → M.getI (M.setI ps (M.after s_rules s_player (M.after s_rules s_player place)) (M.getI ps (M.after s_rules s_player (M.after s_rules s_player place)) + 1)) (M.after s_rules s_player (M.after s_rules s_player place)) = M.getI ps (M.after s_rules s_player (M.after s_rules s_player place)) + 1 := fun h => M.getI_setI_same h (by omega) _
   refine zS <| Qm rfl <| Qc rfl <| Qf fh rfl <| Qf fh rfl <| Q0 0 rfl rfl rfl <| Qm rfl <| Qq (p_indexAddr el_26 rfl rfl (by omega) (by omega) rfl) <| Qw (q_load1 ty_2.h rfl (Mem.row (i := 1) rfl (ints_getI (i := M.after s_rules s_player (M.after s_rules s_player place)) (by omega)))) <| Qa rfl <| zG <| Qm rfl <| Qc rfl <| Qf fh rfl ?_
   refine Qf fh rfl <| Q0 0 rfl rfl rfl <| Qm rfl <| Qq (p_indexAddr el_26 rfl rfl (by omega) (by omega) rfl) <| Qw (q_load1 ty_2.h rfl (Mem.row (i := 1) rfl (ints_getI (i := M.after s_rules s_player (M.after s_rules s_player place)) (by omega)))) <| Qp rfl rfl <| Qq (p_indexAddr el_26 rfl rfl (by omega) (by omega) rfl) ?_
   refine JL.s (e_storeRow (i := 1) (xs' := ints_ (M.setI ps (M.after s_rules s_player (M.after s_rules s_player place)) ((M.getI ps (M.after s_rules s_player (M.after s_rules s_player place))) + 1))) ty_2.h rfl rfl rfl rfl rfl rfl (ints_lt (i := (M.after s_rules s_player (M.after s_rules s_player place)).toNat) (by omega)) (ints_setL (i := (M.after s_rules s_player (M.after s_rules s_player place)).toNat) (by omega))) ?_
   rintro _ _ _ ⟨rfl, rfl⟩ _
   refine znl ?_
   refine zG <| Qm rfl <| Qm rfl <| Qc rfl <| Qf fh rfl <| Q0 0 rfl rfl rfl <| Qm rfl <| zbs fun b20 => ?_
   refine JL.e (e_append (i := 4) (n' := (path ++ [(M.after s_rules s_player (M.after s_rules s_player place))]).length) (vs' := ints_ (path ++ [(M.after s_rules s_player (M.after s_rules s_player place))])) el_26 rfl rfl rfl rfl (src_row (i := 0) und_26 rfl rfl) (by omega) (by omega) ln2_ (by simp [ints_])) ?_
   rintro v22 _ _ ⟨⟨g23, rfl⟩, rfl⟩ _
   refine JL.fact (row_form' (i := 4) rfl) (fun hf24 => ?_)
   obtain ⟨A24, c24, rfl, bl24, bh24⟩ := hf24
   refine znl ?_
   refine Qc rfl <| Qf fh rfl <| zw 1 rfl rfl rfl ?_
   refine JL.nil <| Js.blockEnd <| Js.region <| Qm rfl <| Qs rfl rfl <| Qa rfl <| JL.nil ?_
   refine zf [1, 1, 1, 1] fun GG25 => ?_
   refine zn ?_
   exact zag ⟨k - 1, M.after s_rules s_player (M.after s_rules s_player place), M.getI ps (M.after s_rules s_player (M.after s_rules s_player place)), M.setI ps (M.after s_rules s_player (M.after s_rules s_player place)) ((M.getI ps (M.after s_rules s_player (M.after s_rules s_player place))) + 1), ss, path ++ [(M.after s_rules s_player (M.after s_rules s_player place))], _, _, _, _, rfl, rfl, by exact hS2, by exact hG2, zt, zt, by simp only [List.length_append, List.length_cons, List.length_nil]; omega, by exact .inr hB2, zu, zu, rfl⟩ x5
  have hc : ¬(s_rules.skip = true ∧ M.after s_rules s_player place = from_) := by simpa using h7
  have hq := M.nxt_no hc
  have hqb := M.nxt_bd s_rules (frm := from_) r1 r0 r2 p0 r3
  rw [hq] at hqb
  refine Js.skip <| Js.seq <| zS <| Qm rfl <| Ql rfl rfl <| JL.nil ?_
  refine zi (fun h26 h26' => ?_) fun h26 h26' => ?_
  ·
   have hS2 : M.sow s_rules s_player from_ (k - 1).toNat (M.after s_rules s_player place) ps (M.setI ss s_player (M.getI ss s_player + 1)) (path ++ [(M.after s_rules s_player place)]) = M.sow s_rules s_player from_ (M.getI s_sown.pits from_).toNat from_ (M.setI s_sown.pits from_ 0) s_sown.stores s_path := by rw [← hS, show k.toNat = (k - 1).toNat + 1 by omega, M.sow_succ hq, if_pos (by omega)]
   have hG2 := hG.putStore (k := s_player) (by omega) (by omega) (by omega)
   have hB2 : 0 ≤ (M.after s_rules s_player place) → M.getI ps (M.after s_rules s_player place) = before + 1 := fun h => by omega
   refine zdr [13] ?_
   refine jM 0 rfl rfl ?_
   refine jN 1 rfl rfl ?_
   refine jF 2 fld_185_2 rfl rfl ?_
   refine jF 3 fld_139_1 rfl rfl ?_
   refine jB 4 0 ty_26 rfl rfl rfl rfl ?_
   refine jM 5 rfl rfl ?_
   refine jN 6 rfl rfl ?_
   refine jF 7 fld_185_1 rfl rfl ?_
   refine jB 8 0 ty_2 rfl rfl rfl rfl ?_
   refine jI 9 el_26 rfl rfl rfl rfl ?_
   refine JH.q 10 rfl (q_load1 ty_2.h rfl (Mem.row (i := 2) rfl (ints_getI (i := s_player) (by omega)))) ?_
   refine JH.p 11 rfl (p_add rfl rfl (IntWalk.i64_in _ (by omega))) ?_
   refine jI 12 el_26 rfl rfl rfl rfl ?_
   refine y1 13 ?_
   refine JHo.s rfl (e_storeRow (i := 2) (xs' := ints_ (M.setI ss s_player ((M.getI ss s_player) + 1))) ty_2.h rfl rfl rfl rfl rfl rfl (ints_lt (i := s_player.toNat) (by omega)) (ints_setL (i := s_player.toNat) (by omega))) (.inr rfl) ?_
   rintro _ _ _ ⟨rfl, rfl⟩ _
   refine znh ?_
   refine yd ?_
   refine Js.region <| Qm rfl <| Qm rfl <| Qc rfl <| Qf fh rfl <| Q0 0 rfl rfl rfl <| Qm rfl <| zbs fun b29 => ?_
   refine JL.e (e_append (i := 4) (n' := (path ++ [(M.after s_rules s_player place)]).length) (vs' := ints_ (path ++ [(M.after s_rules s_player place)])) el_26 rfl rfl rfl rfl (src_row (i := 0) und_26 rfl rfl) (by omega) (by omega) ln2_ (by simp [ints_])) ?_
   rintro v31 _ _ ⟨⟨g32, rfl⟩, rfl⟩ _
   refine JL.fact (row_form' (i := 4) rfl) (fun hf33 => ?_)
   obtain ⟨A33, c33, rfl, bl33, bh33⟩ := hf33
   refine znl ?_
   refine Qc rfl <| Qf fh rfl <| zw 1 rfl rfl rfl ?_
   refine JL.nil <| Js.blockEnd <| Js.region <| Qm rfl <| Qs rfl rfl <| Qa rfl <| JL.nil ?_
   refine zf [1, 1, 1, 1] fun GG34 => ?_
   refine zn ?_
   exact zag ⟨k - 1, M.after s_rules s_player place, before, ps, M.setI ss s_player ((M.getI ss s_player) + 1), path ++ [(M.after s_rules s_player place)], _, _, _, _, rfl, rfl, by exact hS2, by exact hG2, zt, zt, by simp only [List.length_append, List.length_cons, List.length_nil]; omega, by exact .inr hB2, zu, zu, rfl⟩ x5
  have hS2 : M.sow s_rules s_player from_ (k - 1).toNat (M.after s_rules s_player place) (M.setI ps (M.after s_rules s_player place) (M.getI ps (M.after s_rules s_player place) + 1)) ss (path ++ [(M.after s_rules s_player place)]) = M.sow s_rules s_player from_ (M.getI s_sown.pits from_).toNat from_ (M.setI s_sown.pits from_ 0) s_sown.stores s_path := by rw [← hS, show k.toNat = (k - 1).toNat + 1 by omega, M.sow_succ hq, if_neg (by omega)]
  have hG2 := hG.putPit (k := (M.after s_rules s_player place)) (by omega) (by omega) hqb.2
  have hpq := hG.pit (M.after s_rules s_player place)
  have hB2 : 0 ≤ (M.after s_rules s_player place) → M.getI (M.setI ps (M.after s_rules s_player place) (M.getI ps (M.after s_rules s_player place) + 1)) (M.after s_rules s_player place) = M.getI ps (M.after s_rules s_player place) + 1 := fun h => M.getI_setI_same h (by omega) _
  refine zS <| Qm rfl <| Qc rfl <| Qf fh rfl <| Qf fh rfl <| Q0 0 rfl rfl rfl <| Qm rfl <| Qq (p_indexAddr el_26 rfl rfl (by omega) (by omega) rfl) <| Qw (q_load1 ty_2.h rfl (Mem.row (i := 1) rfl (ints_getI (i := M.after s_rules s_player place) (by omega)))) <| Qa rfl <| zG <| Qm rfl <| Qc rfl <| Qf fh rfl ?_
  refine Qf fh rfl <| Q0 0 rfl rfl rfl <| Qm rfl <| Qq (p_indexAddr el_26 rfl rfl (by omega) (by omega) rfl) <| Qw (q_load1 ty_2.h rfl (Mem.row (i := 1) rfl (ints_getI (i := M.after s_rules s_player place) (by omega)))) <| Qp rfl rfl <| Qq (p_indexAddr el_26 rfl rfl (by omega) (by omega) rfl) ?_
  refine JL.s (e_storeRow (i := 1) (xs' := ints_ (M.setI ps (M.after s_rules s_player place) ((M.getI ps (M.after s_rules s_player place)) + 1))) ty_2.h rfl rfl rfl rfl rfl rfl (ints_lt (i := (M.after s_rules s_player place).toNat) (by omega)) (ints_setL (i := (M.after s_rules s_player place).toNat) (by omega))) ?_
  rintro _ _ _ ⟨rfl, rfl⟩ _
  refine znl ?_
  refine zG <| Qm rfl <| Qm rfl <| Qc rfl <| Qf fh rfl <| Q0 0 rfl rfl rfl <| Qm rfl <| zbs fun b38 => ?_
  refine JL.e (e_append (i := 4) (n' := (path ++ [(M.after s_rules s_player place)]).length) (vs' := ints_ (path ++ [(M.after s_rules s_player place)])) el_26 rfl rfl rfl rfl (src_row (i := 0) und_26 rfl rfl) (by omega) (by omega) ln2_ (by simp [ints_])) ?_
  rintro v40 _ _ ⟨⟨g41, rfl⟩, rfl⟩ _
  refine JL.fact (row_form' (i := 4) rfl) (fun hf42 => ?_)
  obtain ⟨A42, c42, rfl, bl42, bh42⟩ := hf42
  refine znl ?_
  refine Qc rfl <| Qf fh rfl <| zw 1 rfl rfl rfl ?_
  refine JL.nil <| Js.blockEnd <| Js.region <| Qm rfl <| Qs rfl rfl <| Qa rfl <| JL.nil ?_
  refine zf [1, 1, 1, 1] fun GG43 => ?_
  refine zn ?_
  exact zag ⟨k - 1, M.after s_rules s_player place, M.getI ps (M.after s_rules s_player place), M.setI ps (M.after s_rules s_player place) ((M.getI ps (M.after s_rules s_player place)) + 1), ss, path ++ [(M.after s_rules s_player place)], _, _, _, _, rfl, rfl, by exact hS2, by exact hG2, zt, zt, by simp only [List.length_append, List.length_cons, List.length_nil]; omega, by exact .inr hB2, zu, zu, rfl⟩ x5
 have hL : M.lap s_rules s_player from_ s_sown s_path = (⟨ps, ss, place, s_sown.laps + 1⟩, path) := by unfold M.lap; rw [← hS]; simp [show k.toNat = 0 by omega, M.sow]
 have hB3 := hB.resolve_left (by omega)
 refine zx ?_
 refine zS <| Qm rfl <| Qm rfl <| Qc rfl <| Qf fh rfl <| Qf fh rfl <| zw 0 rfl rfl rfl ?_
 refine zN <| Qm rfl <| Qc rfl <| Qf fh rfl <| Qf fh rfl <| Q0 0 rfl rfl rfl <| Qp rfl rfl <| Qc rfl <| Qf fh rfl <| Qf fh rfl <| zw 0 rfl rfl rfl ?_
 refine zN <| Qm rfl <| Qc rfl <| Qf fh rfl <| Qf fh rfl <| Q0 0 rfl rfl rfl <| Qm rfl <| zg (Gd.t1 rfl rfl rfl) (fun hc => p_move rfl) <| zg (Gd.t1 rfl rfl rfl) (fun hc => p_geq (gh hc rfl) rfl) <| Qq (p_pickAnd rfl rfl rfl) <| Qm rfl <| zg (Gd.t1 rfl rfl rfl) (fun hc => p_move rfl) <| zg (Gd.t1 rfl rfl rfl) (fun hc => p_gtr (gh hc rfl) rfl) <| Qq (p_pickAnd rfl rfl rfl) ?_
 refine Qa rfl <| JL.nil ?_
 refine zrb [0, 0, 0, 0] hb x5 ?_
 have e5 : 0 ≤ place → (1 < M.getI ps place ↔ 0 < before) := fun h => by rw [hB3 h]; omega
 clear hS
 have hE : (.bool ((s_rules.relay && (decide (0 ≤ place))) && (decide (0 < before))) : Value) = .bool (M.more s_rules (M.lap s_rules s_player from_ s_sown s_path).1) := by rw [hL]; by_cases hp : 0 ≤ place <;> simp [M.more, hp, e5]
 have hN11 : (((M.lap s_rules s_player from_ s_sown s_path).1).pits).length = s_sown.pits.length := by first | (rw [hL]; done) | (rw [hL]; show ps.length = _; omega) | (rw [hL]; show ss.length = _; omega)
 have hE11 : ((M.lap s_rules s_player from_ s_sown s_path).1).pits = ps := by rw [hL]
 have hN12 : (((M.lap s_rules s_player from_ s_sown s_path).1).stores).length = s_sown.stores.length := by first | (rw [hL]; done) | (rw [hL]; show ps.length = _; omega) | (rw [hL]; show ss.length = _; omega)
 have hE12 : ((M.lap s_rules s_player from_ s_sown s_path).1).stores = ss := by rw [hL]
 have hE13 : ((M.lap s_rules s_player from_ s_sown s_path).1).last = place := by rw [hL]
 have hE14 : ((M.lap s_rules s_player from_ s_sown s_path).1).laps = (s_sown.laps + 1) := by rw [hL]
 have hN15 : ((M.lap s_rules s_player from_ s_sown s_path).2).length = path.length := by first | (rw [hL]; done) | (rw [hL]; show ps.length = _; omega) | (rw [hL]; show ss.length = _; omega)
 have hE15 : (M.lap s_rules s_player from_ s_sown s_path).2 = path := by rw [hL]
 refine ⟨(some ⟨b1, 0, none⟩), cs_10, gs_10, (some ⟨b2, 0, none⟩), cs_11, gs_11, A5_0_14, c5_0_14, g5_0_14, hE, ?_, ?_, ?_, ?_, ?_, ?_, ?_⟩
 · rw [hN11, hE11, hN12, hE12, hE13, hE14, hN15, hE15]
 all_goals (first | (rw [hN11, hE11, hN12, hE12, hE13, hE14, hN15, hE15]; omega) | omega | (simp only [*]; omega) | (simp; done))
theorem c_impl_sowing_move (s_rules : M.Rul) (s_player : Int) (s_sown : M.Sw) (s_path : List Int) {As_10 : Option Addr} {cs_10 : Nat} {gs_10 : List Nat} {As_11 : Option Addr} {cs_11 : Nat} {gs_11 : List Nat} {As_14 : Option Addr} {cs_14 : Nat} {gs_14 : List Nat} (from_ : Int) {bs : Nat} {w : World} (hb : Bw w [boxO bs [.int .i64 s_rules.pits, .int .i64 s_rules.seeds, .bool s_rules.stores, .bool s_rules.skip, .bool s_rules.relay, .bool s_rules.feed, .bool s_rules.again, .int .i64 s_rules.capture, .int .i64 s_rules.slam, .int .i64 s_player, .slice As_10 s_sown.pits.length cs_10, .slice As_11 s_sown.stores.length cs_11, .int .i64 s_sown.last, .int .i64 s_sown.laps, .slice As_14 s_path.length cs_14] 185, rowO 2 1 (.slice As_10 s_sown.pits.length cs_10) s_sown.pits.length (ints_ s_sown.pits) gs_10, rowO 2 1 (.slice As_11 s_sown.stores.length cs_11) s_sown.stores.length (ints_ s_sown.stores) gs_11, rowO 2 1 (.slice As_14 s_path.length cs_14) s_path.length (ints_ s_path) gs_14]) (bd0 : s_sown.pits.length ≤ cs_10 := by exact om_) (bd1 : cs_10 ≤ 9223372036854775807 := by exact om_) (bd2 : s_sown.stores.length ≤ cs_11 := by exact om_) (bd3 : cs_11 ≤ 9223372036854775807 := by exact om_) (bd4 : s_path.length ≤ cs_14 := by exact om_) (bd5 : cs_14 ≤ 9223372036854775807 := by exact om_) (r0 : 2 ≤ s_rules.pits := by exact om_) (r1 : s_rules.pits ≤ 8 := by exact om_) (r2 : s_player = 0 ∨ s_player = 1 := by exact om_) (r3 : 0 ≤ from_ := by exact om_) (r4 : from_ < 2 * s_rules.pits := by exact om_) (r5 : M.Good s_rules s_sown.pits s_sown.stores 0 := by exact om_) (r6 : 0 < (M.getI s_sown.pits from_) := by exact om_) (r7 : s_sown.laps = 0 := by exact om_) (r8 : s_path.length = 0 := by exact om_) : RetB Tryz.prog 179 [.pointer (some ⟨bs, 0, none⟩), .int .i64 from_] w [boxO bs [.int .i64 s_rules.pits, .int .i64 s_rules.seeds, .bool s_rules.stores, .bool s_rules.skip, .bool s_rules.relay, .bool s_rules.feed, .bool s_rules.again, .int .i64 s_rules.capture, .int .i64 s_rules.slam, .int .i64 s_player, .slice As_10 s_sown.pits.length cs_10, .slice As_11 s_sown.stores.length cs_11, .int .i64 s_sown.last, .int .i64 s_sown.laps, .slice As_14 s_path.length cs_14] 185, rowO 2 1 (.slice As_10 s_sown.pits.length cs_10) s_sown.pits.length (ints_ s_sown.pits) gs_10, rowO 2 1 (.slice As_11 s_sown.stores.length cs_11) s_sown.stores.length (ints_ s_sown.stores) gs_11, rowO 2 1 (.slice As_14 s_path.length cs_14) s_path.length (ints_ s_path) gs_14] (fun v bs' => ∃ (Axs_10 : Option Addr) (cxs_10 : Nat) (gxs_10 : List Nat) (Axs_11 : Option Addr) (cxs_11 : Nat) (gxs_11 : List Nat) (Axs_14 : Option Addr) (cxs_14 : Nat) (gxs_14 : List Nat), v = .bool ((M.mvT s_rules s_player 100 from_ s_sown s_path).1) ∧ bs' = [boxO bs [.int .i64 s_rules.pits, .int .i64 s_rules.seeds, .bool s_rules.stores, .bool s_rules.skip, .bool s_rules.relay, .bool s_rules.feed, .bool s_rules.again, .int .i64 s_rules.capture, .int .i64 s_rules.slam, .int .i64 s_player, .slice Axs_10 ((((M.mvT s_rules s_player 100 from_ s_sown s_path).2.1).pits).length) cxs_10, .slice Axs_11 ((((M.mvT s_rules s_player 100 from_ s_sown s_path).2.1).stores).length) cxs_11, .int .i64 (((M.mvT s_rules s_player 100 from_ s_sown s_path).2.1).last), .int .i64 (((M.mvT s_rules s_player 100 from_ s_sown s_path).2.1).laps), .slice Axs_14 (((M.mvT s_rules s_player 100 from_ s_sown s_path).2.2).length) cxs_14] 185, rowO 2 1 (.slice Axs_10 ((((M.mvT s_rules s_player 100 from_ s_sown s_path).2.1).pits).length) cxs_10) ((((M.mvT s_rules s_player 100 from_ s_sown s_path).2.1).pits).length) (ints_ (((M.mvT s_rules s_player 100 from_ s_sown s_path).2.1).pits)) gxs_10, rowO 2 1 (.slice Axs_11 ((((M.mvT s_rules s_player 100 from_ s_sown s_path).2.1).stores).length) cxs_11) ((((M.mvT s_rules s_player 100 from_ s_sown s_path).2.1).stores).length) (ints_ (((M.mvT s_rules s_player 100 from_ s_sown s_path).2.1).stores)) gxs_11, rowO 2 1 (.slice Axs_14 (((M.mvT s_rules s_player 100 from_ s_sown s_path).2.2).length) cxs_14) (((M.mvT s_rules s_player 100 from_ s_sown s_path).2.2).length) (ints_ ((M.mvT s_rules s_player 100 from_ s_sown s_path).2.2)) gxs_14] ∧ (((M.mvT s_rules s_player 100 from_ s_sown s_path).2.1).pits).length ≤ cxs_10 ∧ cxs_10 ≤ 9223372036854775807 ∧ (((M.mvT s_rules s_player 100 from_ s_sown s_path).2.1).stores).length ≤ cxs_11 ∧ cxs_11 ≤ 9223372036854775807 ∧ ((M.mvT s_rules s_player 100 from_ s_sown s_path).2.2).length ≤ cxs_14 ∧ cxs_14 ≤ 9223372036854775807) := by
 refine enterB hb @Tryz.func179 @Tryz.ntmps179 rfl rfl ?_
 refine zent ?_
 refine Js.trashE ?_
 refine zn ?_
 refine zS <| Qa rfl <| zJ <| Js.block ?_
 refine zl [0] (fun F U l os u m => ∃ (frm : Int) (sw : M.Sw) (path : List Int) (A1_0_10 : Option Addr) (c1_0_10 : Nat) (g1_0_10 : List Nat) (A1_0_11 : Option Addr) (c1_0_11 : Nat) (g1_0_11 : List Nat) (A1_0_14 : Option Addr) (c1_0_14 : Nat) (g1_0_14 : List Nat) (G1_4 : List Nat), l = F [(1, .int .i64 frm)] ∧ os = U [some (boxO bs [.int .i64 s_rules.pits, .int .i64 s_rules.seeds, .bool s_rules.stores, .bool s_rules.skip, .bool s_rules.relay, .bool s_rules.feed, .bool s_rules.again, .int .i64 s_rules.capture, .int .i64 s_rules.slam, .int .i64 s_player, .slice A1_0_10 sw.pits.length c1_0_10, .slice A1_0_11 sw.stores.length c1_0_11, .int .i64 sw.last, .int .i64 sw.laps, .slice A1_0_14 path.length c1_0_14] 185), some (rowO 2 1 (.slice A1_0_10 sw.pits.length c1_0_10) sw.pits.length (ints_ sw.pits) g1_0_10), some (rowO 2 1 (.slice A1_0_11 sw.stores.length c1_0_11) sw.stores.length (ints_ sw.stores) g1_0_11), some (rowO 2 1 (.slice A1_0_14 path.length c1_0_14) path.length (ints_ path) g1_0_14), some (anyO G1_4)] ∧ (M.mvT s_rules s_player (100 - sw.laps).toNat frm sw path = M.mvT s_rules s_player 100 from_ s_sown s_path) ∧ (M.Good s_rules sw.pits sw.stores 0) ∧ (0 ≤ frm) ∧ (frm < 2 * s_rules.pits) ∧ (0 < M.getI sw.pits frm) ∧ (0 ≤ sw.laps) ∧ (sw.laps ≤ 99) ∧ (path.length ≤ 96 * sw.laps) ∧ (sw.pits.length ≤ c1_0_10) ∧ (c1_0_10 ≤ 9223372036854775807) ∧ (sw.stores.length ≤ c1_0_11) ∧ (c1_0_11 ≤ 9223372036854775807) ∧ (path.length ≤ c1_0_14) ∧ (c1_0_14 ≤ 9223372036854775807) ∧ m = (100 - sw.laps).toNat) ⟨from_, s_sown, s_path, _, _, _, _, _, _, _, _, _, _, rfl, rfl, by rw [r7]; rfl, by exact r5, zt, zt, by exact r6, zt, zt, zt, zu, zu, zu, zu, zu, zu, rfl⟩ ?_
 rintro _ _ u1 _ ⟨frm, sw, path, A1_0_10, c1_0_10, g1_0_10, A1_0_11, c1_0_11, g1_0_11, A1_0_14, c1_0_14, g1_0_14, G1_4, rfl, rfl, hS, hG, f0, f1, hg, la0, la1, hl, f1_8, f1_9, f1_10, f1_11, f1_12, f1_13, rfl⟩ x1
 refine zn ?_
 obtain ⟨ha, hb1, hc, hd, he, hf⟩ := M.lap_keeps s_rules path r1 r0 r2 f0 f1 hG
 refine Js.seq <| zS <| Qm rfl <| Qm rfl <| zBB 4 sp_ rfl (fun w hb _ hw => c_impl_sowing_lap s_rules s_player sw path frm hb) ?_
 rintro _ _ G2 ⟨A2s_10, c2s_10, g2s_10, A2s_11, c2s_11, g2s_11, A2s_14, c2s_14, g2s_14, rfl, rfl, bl2_0, bl2_1, bl2_2, bl2_3, bl2_4, bl2_5⟩
 refine znl ?_
 refine JL.nil ?_
 refine zi (fun h3 h3' => ?_) fun h3 h3' => ?_
 ·
  have hm2 := M.more_get h3
  refine Js.skip <| Js.block <| Js.seq <| zS <| Qm rfl <| Qc rfl <| Qf fh rfl <| Qf fh rfl <| Q0 0 rfl rfl rfl <| Qe rfl rfl <| JL.nil ?_
  refine zi (fun h4 h4' => ?_) fun h4 h4' => ?_
  ·
   have hL : M.mvT s_rules s_player 100 from_ s_sown s_path = (false, (M.lap s_rules s_player frm sw path).1, (M.lap s_rules s_player frm sw path).2) := by rw [← hS, show (100 - sw.laps).toNat = 0 + 1 by omega, M.mvT_yes (by assumption)]; rfl
   refine zS <| Qa rfl <| JL.nil ?_
   refine zrb [0, 0, 0, 0] hb x1 ?_
   have hE : (.bool false : Value) = .bool ((M.mvT s_rules s_player 100 from_ s_sown s_path).1) := by rw [hL]
   have hN11 : (((M.mvT s_rules s_player 100 from_ s_sown s_path).2.1).pits).length = (((M.lap s_rules s_player frm sw path).1).pits).length := by rw [hL]
   have hE11 : ((M.mvT s_rules s_player 100 from_ s_sown s_path).2.1).pits = (((M.lap s_rules s_player frm sw path).1).pits) := by rw [hL]
   have hN12 : (((M.mvT s_rules s_player 100 from_ s_sown s_path).2.1).stores).length = (((M.lap s_rules s_player frm sw path).1).stores).length := by rw [hL]
   have hE12 : ((M.mvT s_rules s_player 100 from_ s_sown s_path).2.1).stores = (((M.lap s_rules s_player frm sw path).1).stores) := by rw [hL]
   have hE13 : ((M.mvT s_rules s_player 100 from_ s_sown s_path).2.1).last = (((M.lap s_rules s_player frm sw path).1).last) := by rw [hL]
   have hE14 : ((M.mvT s_rules s_player 100 from_ s_sown s_path).2.1).laps = (((M.lap s_rules s_player frm sw path).1).laps) := by rw [hL]
   have hN15 : ((M.mvT s_rules s_player 100 from_ s_sown s_path).2.2).length = ((M.lap s_rules s_player frm sw path).2).length := by rw [hL]
   have hE15 : (M.mvT s_rules s_player 100 from_ s_sown s_path).2.2 = ((M.lap s_rules s_player frm sw path).2) := by rw [hL]
   refine ⟨A2s_10, c2s_10, g2s_10, A2s_11, c2s_11, g2s_11, A2s_14, c2s_14, g2s_14, hE, ?_, ?_, ?_, ?_, ?_, ?_, ?_⟩
   · rw [hN11, hE11, hN12, hE12, hE13, hE14, hN15, hE15]
   all_goals (first | (rw [hN11, hE11, hN12, hE12, hE13, hE14, hN15, hE15]; omega) | omega | (simp only [*]; omega) | (simp; done))
  have hS2 : M.mvT s_rules s_player (100 - (M.lap s_rules s_player frm sw path).1.laps).toNat (M.lap s_rules s_player frm sw path).1.last (M.lap s_rules s_player frm sw path).1 (M.lap s_rules s_player frm sw path).2 = M.mvT s_rules s_player 100 from_ s_sown s_path := by rw [← hS, hf, show (100 - sw.laps).toNat = (100 - (sw.laps + 1)).toNat + 1 by omega, M.mvT_yes (by assumption)]
  refine Js.skip <| Js.region <| Qm rfl <| Qc rfl <| Qf fh rfl <| Qf fh rfl <| Q0 0 rfl rfl rfl <| Qa rfl <| JL.nil <| Js.blockEnd ?_
  refine zf [0, 0, 0, 0] fun GG5 => ?_
  refine zn ?_
  exact zag ⟨((M.lap s_rules s_player frm sw path).1).last, (M.lap s_rules s_player frm sw path).1, (M.lap s_rules s_player frm sw path).2, _, _, _, _, _, _, _, _, _, _, rfl, rfl, by exact hS2, by exact ha, by exact hm2.1, by exact hc, by omega, by omega, by omega, by omega, zu, zu, zu, zu, zu, zu, rfl⟩ x1
 have hL : M.mvT s_rules s_player 100 from_ s_sown s_path = (true, (M.lap s_rules s_player frm sw path).1, (M.lap s_rules s_player frm sw path).2) := by rw [← hS, show (100 - sw.laps).toNat = (99 - sw.laps).toNat + 1 by omega, M.mvT_no h3]
 refine zx ?_
 refine zS <| Qa rfl <| JL.nil ?_
 refine zrb [0, 0, 0, 0] hb x1 ?_
 have hE : (.bool true : Value) = .bool ((M.mvT s_rules s_player 100 from_ s_sown s_path).1) := by rw [hL]
 have hN11 : (((M.mvT s_rules s_player 100 from_ s_sown s_path).2.1).pits).length = (((M.lap s_rules s_player frm sw path).1).pits).length := by rw [hL]
 have hE11 : ((M.mvT s_rules s_player 100 from_ s_sown s_path).2.1).pits = (((M.lap s_rules s_player frm sw path).1).pits) := by rw [hL]
 have hN12 : (((M.mvT s_rules s_player 100 from_ s_sown s_path).2.1).stores).length = (((M.lap s_rules s_player frm sw path).1).stores).length := by rw [hL]
 have hE12 : ((M.mvT s_rules s_player 100 from_ s_sown s_path).2.1).stores = (((M.lap s_rules s_player frm sw path).1).stores) := by rw [hL]
 have hE13 : ((M.mvT s_rules s_player 100 from_ s_sown s_path).2.1).last = (((M.lap s_rules s_player frm sw path).1).last) := by rw [hL]
 have hE14 : ((M.mvT s_rules s_player 100 from_ s_sown s_path).2.1).laps = (((M.lap s_rules s_player frm sw path).1).laps) := by rw [hL]
 have hN15 : ((M.mvT s_rules s_player 100 from_ s_sown s_path).2.2).length = ((M.lap s_rules s_player frm sw path).2).length := by rw [hL]
 have hE15 : (M.mvT s_rules s_player 100 from_ s_sown s_path).2.2 = ((M.lap s_rules s_player frm sw path).2) := by rw [hL]
 refine ⟨A2s_10, c2s_10, g2s_10, A2s_11, c2s_11, g2s_11, A2s_14, c2s_14, g2s_14, hE, ?_, ?_, ?_, ?_, ?_, ?_, ?_⟩
 · rw [hN11, hE11, hN12, hE12, hE13, hE14, hN15, hE15]
 all_goals (first | (rw [hN11, hE11, hN12, hE12, hE13, hE14, hN15, hE15]; omega) | omega | (simp only [*]; omega) | (simp; done))
theorem c_impl_sowMove (r : M.Rul) {v_r : Value} (p : M.Pos) {v_p : Value} (move : Int) {w : World} (h_r : (Ty.agg (cRules r)).ok w v_r) (h_p : (Ty.agg (cPosition p)).ok w v_p) (r0 : p.pits.length ≤ 4194304 := by exact om_) (r1 : p.stores.length ≤ 4194304 := by exact om_) : Ret Tryz.prog 150 [v_r, v_p, .int .i64 move] w (Ty.tup [Ty.opt (decide ((M.sowMove r p move).1 = 0)) (Ty.box 185 (csowing (M.Sow.mk r p.player (M.sowMove r p move).2.1 (M.sowMove r p move).2.2))), Ty.int ((M.sowMove r p move).1)]) := by
 revert v_r; apply opn
 revert v_p; apply opn
 intro A1 c1 h1 bl1 bh1 A2 c2 h2 bl2 bh2
 refine enter @Tryz.func150 @Tryz.ntmps150 rfl rfl ?_
 refine zent ?_
 refine zS <| zb rfl fun b3 => zb rfl fun b4 => Qa rfl <| Qa rfl <| zJ <| zS <| Q9 1 rfl rfl ?_
 refine Q9 0 rfl rfl ?_
 refine Qm rfl <| zv rfl (fun w hw => c_impl_sowCode r p move (ok_ hw) (ok_ hw)) <| Qa rfl <| zN <| Qm rfl <| Qd rfl rfl <| JL.nil ?_
 refine zi (fun h5 h5' => ?_) fun h5 h5' => ?_
 ·
  have hn : M.sowCode r p move ≠ 0 := by simpa using h5
  have hM := M.sowMove_code hn
  have hM0 : ¬ M.sowCode r p move = 0 := hn
  have hq0 : (decide ((M.sowMove r p move).1 = 0)) = false := by rw [hM]; simpa using hM0
  have hq1 : (M.sowCode r p move) = (M.sowMove r p move).1 := by rw [hM]
  refine zS <| Qm rfl <| Qa rfl <| Qa rfl <| JL.nil ?_
  exact zro (Up.refl _ _)
 have hc0 : M.sowCode r p move = 0 := by simpa using h5
 obtain ⟨hok, m0, m1, hg0⟩ := M.sowCode_ok hc0
 obtain ⟨g1, g2, g3, g4, g5, g6, g7⟩ := M.okP_bd hok
 have hq := M.mul_bd g7 g1 g2
 have hG := M.Good.of_ok hok
 refine Js.skip <| zS <| Q9 1 rfl rfl ?_
 refine Q9 0 rfl rfl ?_
 refine zcs rfl (fun w hw => c_impl_newSowing r p (ok_ hw) (ok_ hw)) ?_
 intro b6 A7 c7 bl7 bh7 A8 c8 bl8 bh8 A9 c9 bl9 bh9
 refine Qa rfl <| zJ <| zS <| Qm rfl <| Q9 5 rfl rfl ?_
 refine Qf fh rfl <| Q0 4 rfl rfl rfl <| Qm rfl <| zv rfl (fun w hw => c_impl_Rules_pitOf r p.player move (ok_ hw)) ?_
 refine zhl [0, 2, 1, 0] ?_
 refine zB 4 sp_ rfl (fun w hb hw => c_impl_sowing_move r p.player (M.Sw.mk p.pits p.stores 0 0) [] (p.player * r.pits + move) hb (r5 := hG) (r6 := hg0) (r7 := rfl) (r8 := rfl)) ?_
 rintro _ _ G10 ⟨A10s_10, c10s_10, g10s_10, A10s_11, c10s_11, g10s_11, A10s_14, c10s_14, g10s_14, rfl, rfl, bl10_0, bl10_1, bl10_2, bl10_3, bl10_4, bl10_5⟩
 refine znl ?_
 refine Qt rfl <| JL.nil ?_
 refine zi (fun h11 h11' => ?_) fun h11 h11' => ?_
 ·
  have hM := M.sowMove_end hc0 (by simpa using h11)
  have hq0 : (decide ((M.sowMove r p move).1 = 0)) = false := by rw [hM]; rfl
  have hq1 : 10 = (M.sowMove r p move).1 := by rw [hM]
  refine zS <| Qa rfl <| Qa rfl <| JL.nil ?_
  exact zro (Up.refl _ _)
 have hM := M.sowMove_yes hc0 (by simpa using h11)
 have hq0 : (decide ((M.sowMove r p move).1 = 0)) = true := by rw [hM]; rfl
 have hq1 : (((M.mvT r p.player 100 (p.player * r.pits + move) (M.Sw.mk p.pits p.stores 0 0) []).2.1).pits) = ((M.sowMove r p move).2.1).pits := by rw [hM]
 have hq2 : (((M.mvT r p.player 100 (p.player * r.pits + move) (M.Sw.mk p.pits p.stores 0 0) []).2.1).stores) = ((M.sowMove r p move).2.1).stores := by rw [hM]
 have hq3 : (((M.mvT r p.player 100 (p.player * r.pits + move) (M.Sw.mk p.pits p.stores 0 0) []).2.1).last) = ((M.sowMove r p move).2.1).last := by rw [hM]
 have hq4 : (((M.mvT r p.player 100 (p.player * r.pits + move) (M.Sw.mk p.pits p.stores 0 0) []).2.1).laps) = ((M.sowMove r p move).2.1).laps := by rw [hM]
 have hq5 : ((M.mvT r p.player 100 (p.player * r.pits + move) (M.Sw.mk p.pits p.stores 0 0) []).2.2) = (M.sowMove r p move).2.2 := by rw [hM]
 have hq6 : 0 = (M.sowMove r p move).1 := by rw [hM]
 refine Js.skip <| zS <| Qm rfl <| Qa rfl <| Qa rfl <| JL.nil ?_
 exact zro (Up.refl _ _)
end Go.Proofs.YtjdhgkdimanabaaGreatDoor

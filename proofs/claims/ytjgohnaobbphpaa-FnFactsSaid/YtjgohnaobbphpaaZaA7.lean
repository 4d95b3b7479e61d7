/- Walks: D24. -/
import Derived.Test.YtjgohnaobbphpaaZaA3
import Derived.Test.YtjgohnaobbphpaaZaA6
import Derived.Test.YtjgohnaobbphpaaZaA5
set_option linter.unusedSimpArgs false
set_option linter.unusedVariables false
set_option maxRecDepth 100000
attribute [local irreducible] Go.Proofs.Ytjgohnaobbphpaa.gv
set_option maxHeartbeats 8000000
namespace Go.Proofs.Ytjgohnaobbphpaa
open Go.RowKit
theorem c_spec_l05Endless (s_code : Nat) (s_at s_seed : Int) {As_0 : Option Addr} {cs_0 bs : Nat} {w : World} (hb : Bw w [boxO bs [.slice As_0 s_code cs_0, .int .i64 s_at, .int .u64 s_seed] 105]) (hps_0 : (Ty.bytes 5 s_code).ok (offW w (([boxO bs [.slice As_0 s_code cs_0, .int .i64 s_at, .int .u64 s_seed] 105] : List Own).flatMap (·.fp))) (.slice As_0 s_code cs_0)) (r0 : 0 ≤ s_at := by exact om_) (r1 : s_at ≤ 999997000 := by exact om_) (r2 : s_code ≤ 1048576 := by exact om_) : RetB Try.prog 40 [.pointer (some ⟨bs, 0, none⟩)] w [boxO bs [.slice As_0 s_code cs_0, .int .i64 s_at, .int .u64 s_seed] 105] (fun v bs' => ∃ (RX : M.Rul) (PX : M.Pos) (KX AT SD : Int) (Axrb_0 : Option Addr) (cxrb_0 : Nat) (gxrb_0 : List Nat) (Axrb_1 : Option Addr) (cxrb_1 : Nat) (gxrb_1 : List Nat), v = .tuple #[.agg #[.int .i64 RX.pits, .int .i64 RX.seeds, .bool RX.stores, .bool RX.skip, .bool RX.relay, .bool RX.feed, .bool RX.again, .int .i64 RX.capture, .int .i64 RX.slam], .agg #[.slice Axrb_0 PX.pits.length cxrb_0, .slice Axrb_1 PX.stores.length cxrb_1, .int .i64 PX.player], .int .i64 KX] ∧ bs' = [boxO bs [.slice As_0 s_code cs_0, .int .i64 AT, .int .u64 SD] 105, rowO 2 1 (.slice Axrb_0 PX.pits.length cxrb_0) PX.pits.length (ints_ PX.pits) gxrb_0, rowO 2 1 (.slice Axrb_1 PX.stores.length cxrb_1) PX.stores.length (ints_ PX.stores) gxrb_1] ∧ PX.pits.length ≤ cxrb_0 ∧ cxrb_0 ≤ 9223372036854775807 ∧ PX.stores.length ≤ cxrb_1 ∧ cxrb_1 ≤ 9223372036854775807 ∧ (RX.pits ≤ 9) ∧ (PX.pits.length ≤ 16 ∧ PX.stores.length = 2) ∧ (s_at ≤ AT) ∧ (AT ≤ s_at + 3000)) := by
 refine enterB hb @Try.func40 @Try.ntmps40 rfl rfl ?_
 refine zent ?_
 refine Js.trashE ?_
 refine zn ?_
 refine zS <| za zeh fun b1 => za zeh fun b2 => Qa rfl <| zN <| Qm rfl ?_
 refine zhl [2] ?_
 refine zBB 1 sp_ rfl (fun w hb _ hw => c_spec_l00Src_pick s_code s_at s_seed 2 hb (ok_ hw)) ?_
 rintro _ _ G3 ⟨X3KX, X3AT, X3SD, rfl, rfl, hX3_0, hX3_1, hX3_2, hX3_3⟩
 refine znl ?_
 refine Qp rfl rfl <| Qb ?_
 refine za zeh fun b4 => zw 0 rfl rfl rfl ?_
 refine JL.nil ?_
 refine zf [0, 0, 1, 1] fun GG5 => ?_
 refine zn ?_
 refine zS <| Qm rfl ?_
 refine zhl [1] ?_
 refine zBB 1 sp_ rfl (fun w hb _ hw => c_spec_l00Src_one s_code X3AT X3SD 2 hb (ok_ hw)) ?_
 rintro _ _ G6 ⟨X6BX, X6AT, X6SD, rfl, rfl, hX6_0, hX6_1⟩
 refine znl ?_
 refine Qf fh rfl <| zw 2 rfl rfl rfl ?_
 refine JL.nil ?_
 refine zf [0, 1, 1, 1] fun GG7 => ?_
 refine zn ?_
 refine Js.seq <| zS <| Qa rfl <| JL.nil <| Js.block ?_
 refine zl [0, 2, 3, 5] (fun F U l os u m => ∃ (k at1 sd1 : Int) (G8_4 : List Nat), l = F [(6, .int .i64 k)] ∧ os = U [some (boxO bs [.slice As_0 s_code cs_0, .int .i64 at1, .int .u64 sd1] 105), nO, nO, nO, some (anyO G8_4)] ∧ (0 ≤ k ∧ k ≤ 12) ∧ (s_at ≤ at1) ∧ (at1 ≤ s_at + 40 + 220 * k) ∧ m = (12 - k).toNat) ⟨0, X6AT, X6SD, _, rfl, rfl, zt, zt, zt, rfl⟩ ?_
 rintro _ _ u8 _ ⟨k, at1, sd1, G8_4, rfl, rfl, hk, ha0, ha1, rfl⟩ x8
 refine zn ?_
 refine Js.seq <| zS <| Qm rfl <| Ql rfl rfl <| JL.nil ?_
 refine zi (fun h9 h9' => ?_) fun h9 h9' => ?_
 ·
  refine Js.skip <| Js.seq <| Js.block <| zS <| Qm rfl <| zBB 1 sp_ rfl (fun w hb _ hw => c_spec_l04Draw s_code at1 sd1 (M.Rul.mk (2 + X3KX) 1 false X6BX true false false 0 0) hb (ok_ hw) (ok_ hw)) ?_
  rintro _ _ G10 ⟨X10PX, X10AT, X10SD, A10r_0, c10r_0, g10r_0, A10r_1, c10r_1, g10r_1, rfl, rfl, bl10_0, bl10_1, bl10_2, bl10_3, hX10_0, hX10_1, hX10_2⟩
  refine znl ?_
  refine za zeh fun b11 => zw 0 rfl rfl rfl ?_
  refine JL.nil ?_
  refine zf [0, 0, 0, 0, 1, 1, 1] fun GG12 => ?_
  refine zn ?_
  refine Js.seq ?_
  dsimp only at hX10_0
  refine Js.region <| Qa rfl <| JL.nil <| Js.block ?_
  refine zl [0, 2, 3, 5, 6, 7] (fun F U l os u m => ∃ (mv : Int) (G13_7 : List Nat), l = F [(8, .int .i64 mv)] ∧ os = U [nO, nO, nO, nO, nO, nO, nO, some (anyO G13_7)] ∧ (0 ≤ mv ∧ mv ≤ 8) ∧ m = (8 - mv).toNat) ⟨0, _, rfl, rfl, zt, rfl⟩ ?_
  rintro _ _ u13 _ ⟨mv, G13_7, rfl, rfl, hm, rfl⟩ x13
  refine zn ?_
  refine Js.seq <| zS <| Qm rfl <| Qf fh rfl <| Q0 4 rfl rfl rfl <| Ql rfl rfl <| JL.nil ?_
  refine zi (fun h14 h14' => ?_) fun h14 h14' => ?_
  ·
   refine Js.skip <| Js.seq <| Js.block <| zS <| Qm rfl <| zc rfl (fun w hw => c_spec_l05Move (M.Rul.mk (2 + X3KX) 1 false X6BX true false false 0 0) X10PX mv (ok_ hw) (ok_ hw)) ?_
   intro A17 c17 bl17 bh17 A18 c18 bl18 bh18 A19 c19 bl19 bh19
   refine Qm rfl <| Qx rfl rfl <| Qx rfl rfl <| Qx rfl rfl <| za zeh fun b20 => zw 0 rfl rfl rfl ?_
   refine Qa rfl <| Qa rfl <| JL.nil ?_
   refine zf [4, 4, 4, 4, 4, 4, 4] fun GG21 => ?_
   refine zn ?_
   refine zS <| Qm rfl <| Qe rfl rfl <| JL.nil ?_
   refine zi (fun h22 h22' => ?_) fun h22 h22' => ?_
   ·
    refine Js.seq ?_
    refine zk [2, 3] (fun F U l os u => l = F [(4, .int .i64 mv)] ∧ os = U [nO, nO, nO, nO, nO, some (boxO b2 [.slice A10r_0 X10PX.pits.length c10r_0, .slice A10r_1 X10PX.stores.length c10r_1, .int .i64 X10PX.player] 28), some (boxO b1 [.int .i64 (2 + X3KX), .int .i64 1, .bool false, .bool X6BX, .bool true, .bool false, .bool false, .int .i64 0, .int .i64 0] 25)]) ?_ ?_
    ·
     refine zdr [3, 4] ?_
     refine JH.q 0 rfl (L9 4 rfl rfl) ?_
     refine jM 2 rfl rfl ?_
     refine y2 1 3 ?_ ?_
     ·
      refine JHo.q rfl (L9 0 rfl rfl) ?_
      refine y1 3 ?_
      refine yst rfl rfl rfl ?_
      refine y1 4 ?_
      refine yst rfl rfl rfl ?_
      refine jA 5 rfl rfl ?_
      refine yd ?_
      exact zm ⟨rfl, rfl⟩ (Up.refl _ _)
     refine yst rfl rfl rfl ?_
     refine y1 1 ?_
     refine JHo.q rfl (L9 0 rfl rfl) ?_
     refine y1 4 ?_
     refine yst rfl rfl rfl ?_
     refine jA 5 rfl rfl ?_
     refine yd ?_
     exact zm ⟨rfl, rfl⟩ (Up.refl _ _)
    rintro _ _ u23 ⟨rfl, rfl⟩ x23
    refine zn ?_
    refine zf [1, 1, 1, 2, 2] fun GG24 => ?_
    refine zn ?_
    refine zrb [0, 0, 0] hb ((x8.trans x13).trans x23) ?_
    refine ⟨((M.Rul.mk (2 + X3KX) 1 false X6BX true false false 0 0)), (X10PX), (mv), (X10AT), (X10SD), A10r_0, c10r_0, g10r_0, A10r_1, c10r_1, g10r_1, rfl, ?_, ?_, ?_, ?_, ?_, by first | trivial | omega | (dsimp only; omega), by first | trivial | omega | (dsimp only; omega), by first | trivial | omega | (dsimp only; omega), by first | trivial | omega | (dsimp only; omega)⟩
    · rfl
    all_goals (try dsimp only)
    all_goals (first | (omega) | omega | (simp only [*]; omega) | (simp; done))
   refine Js.skip <| Js.blockEnd <| Js.region <| Qm rfl <| Qp rfl rfl <| Qa rfl <| JL.nil ?_
   exact zag ⟨mv + 1, _, rfl, rfl, zt, rfl⟩ x13
  refine zx ?_
  refine Js.blockEnd <| Js.region <| Qm rfl <| Qp rfl rfl <| Qa rfl <| JL.nil ?_
  refine zf [1, 3, 3, 3] fun GG25 => ?_
  refine zn ?_
  exact zag ⟨k + 1, X10AT, X10SD, _, rfl, rfl, zt, zt, zt, rfl⟩ (x8.trans x13)
 refine zx ?_
 have hl0 : (M.startP (M.Rul.mk (2 + X3KX) 1 false X6BX true false false 0 0)).pits.length = (2 * ((M.Rul.mk (2 + X3KX) 1 false X6BX true false false 0 0)).pits).toNat := by simp [M.startP]
 have hl1 : (M.startP (M.Rul.mk (2 + X3KX) 1 false X6BX true false false 0 0)).stores.length = 2 := rfl
 try dsimp only at hl0
 refine Js.seq ?_
 refine zdr [2, 3] ?_
 refine JH.q 0 rfl (L9 1 rfl rfl) ?_
 refine y1 1 ?_
 refine yc rfl rfl (fun w hw => c_spec_l04Start (M.Rul.mk (2 + X3KX) 1 false X6BX true false false 0 0) (ok_ hw)) ?_
 intro A27 c27 bl27 bh27 A28 c28 bl28 bh28
 refine y1 2 ?_
 refine yst rfl rfl rfl ?_
 refine y1 3 ?_
 refine yst rfl rfl rfl ?_
 refine jA 4 rfl rfl ?_
 refine yd ?_
 refine zf [0, 0, 0, 1, 1] fun GG29 => ?_
 refine zn ?_
 refine zrb [2, 1, 0] hb x8 ?_
 refine ⟨((M.Rul.mk (2 + X3KX) 1 false X6BX true false false 0 0)), ((M.startP (M.Rul.mk (2 + X3KX) 1 false X6BX true false false 0 0))), (0), (at1), (sd1), A27, c27, [], A28, c28, [], rfl, ?_, ?_, ?_, ?_, ?_, by first | trivial | omega | (dsimp only; omega), by first | trivial | omega | (dsimp only; omega), by first | trivial | omega | (dsimp only; omega), by first | trivial | omega | (dsimp only; omega)⟩
 · rfl
 all_goals (try dsimp only)
 all_goals (first | (omega) | omega | (simp only [*]; omega) | (simp; done))
theorem c_spec_l05Draw (s_code : Nat) (s_at s_seed : Int) {As_0 : Option Addr} {cs_0 bs : Nat} {w : World} (hb : Bw w [boxO bs [.slice As_0 s_code cs_0, .int .i64 s_at, .int .u64 s_seed] 105]) (hps_0 : (Ty.bytes 5 s_code).ok (offW w (([boxO bs [.slice As_0 s_code cs_0, .int .i64 s_at, .int .u64 s_seed] 105] : List Own).flatMap (·.fp))) (.slice As_0 s_code cs_0)) (r0 : 0 ≤ s_at := by exact om_) (r1 : s_at ≤ 999995000 := by exact om_) (r2 : s_code ≤ 1048576 := by exact om_) : RetB Try.prog 61 [.pointer (some ⟨bs, 0, none⟩)] w [boxO bs [.slice As_0 s_code cs_0, .int .i64 s_at, .int .u64 s_seed] 105] (fun v bs' => ∃ (RX : M.Rul) (PX : M.Pos) (KX AT SD : Int) (Axrb_0 : Option Addr) (cxrb_0 : Nat) (Axrb_1 : Option Addr) (cxrb_1 : Nat) (gxrb_1 : List Nat), v = .tuple #[.agg #[.int .i64 RX.pits, .int .i64 RX.seeds, .bool RX.stores, .bool RX.skip, .bool RX.relay, .bool RX.feed, .bool RX.again, .int .i64 RX.capture, .int .i64 RX.slam], .agg #[.slice Axrb_0 PX.pits.length cxrb_0, .slice Axrb_1 PX.stores.length cxrb_1, .int .i64 PX.player], .int .i64 KX] ∧ bs' = [boxO bs [.slice As_0 s_code cs_0, .int .i64 AT, .int .u64 SD] 105, rxO 2 (.slice Axrb_0 PX.pits.length cxrb_0) PX.pits.length (ints_ PX.pits), rowO 2 1 (.slice Axrb_1 PX.stores.length cxrb_1) PX.stores.length (ints_ PX.stores) gxrb_1] ∧ PX.pits.length ≤ cxrb_0 ∧ cxrb_0 ≤ 9223372036854775807 ∧ PX.stores.length ≤ cxrb_1 ∧ cxrb_1 ≤ 9223372036854775807 ∧ (RX.pits ≤ 9) ∧ (PX.pits.length ≤ 4194304 ∧ PX.stores.length ≤ 4194304) ∧ (s_at ≤ AT) ∧ (AT ≤ s_at + 5000)) := by
 refine enterB hb @Try.func61 @Try.ntmps61 rfl rfl ?_
 refine zent ?_
 refine Js.trashE ?_
 refine zn ?_
 refine zS <| za zeh fun b1 => za zeh fun b2 => Qa rfl <| zN <| Qm rfl ?_
 refine zhl [2] ?_
 refine zBB 1 sp_ rfl (fun w hb _ hw => c_spec_l04Bent s_code s_at s_seed hb (ok_ hw)) ?_
 rintro _ _ G3 ⟨X3RX, X3QX, X3AT, X3SD, A3rb_0, c3rb_0, A3rb_1, c3rb_1, g3rb_1, rfl, rfl, bl3_0, bl3_1, bl3_2, bl3_3, hX3_0, hX3_1, hX3_2, hX3_3⟩
 refine znl ?_
 refine Qm rfl <| Qx rfl rfl <| Qx rfl rfl <| za zeh fun b4 => za zeh fun b5 => zw 1 rfl rfl rfl ?_
 refine zw 0 rfl rfl rfl ?_
 refine JL.nil ?_
 refine zf [0, 0, 0, 0, 0, 1, 1] fun GG6 => ?_
 refine zn ?_
 refine Js.seq <| zS <| Qm rfl ?_
 refine zhl [2] ?_
 refine zBB 1 sp_ rfl (fun w hb _ hw => c_spec_l00Src_one s_code X3AT X3SD 12 hb (ok_ hw)) ?_
 rintro _ _ G7 ⟨X7BX, X7AT, X7SD, rfl, rfl, hX7_0, hX7_1⟩
 refine znl ?_
 refine JL.nil ?_
 refine zf [0, 1, 1, 1, 1, 1, 1] fun GG8 => ?_
 refine zn ?_
 refine zi (fun h9 h9' => ?_) fun h9 h9' => ?_
 ·
  refine zS <| Qm rfl <| zBB 1 sp_ rfl (fun w hb _ hw => c_spec_l05Endless s_code X7AT X7SD hb (ok_ hw)) ?_
  rintro _ _ G10 ⟨X10RX, X10PX, X10KX, X10AT, X10SD, A10rb_0, c10rb_0, g10rb_0, A10rb_1, c10rb_1, g10rb_1, rfl, rfl, bl10_0, bl10_1, bl10_2, bl10_3, hX10_0, hX10_1, hX10_2, hX10_3⟩
  refine znl ?_
  refine Qx rfl rfl <| Qx rfl rfl <| Qx rfl rfl <| zw 9 rfl rfl rfl ?_
  refine zw 8 rfl rfl rfl ?_
  refine Qa rfl <| JL.nil ?_
  refine zf [0, 0, 0, 5, 5] fun GG11 => ?_
  refine zn ?_
  refine Js.conv (fun w hw => St.toRx (i := 1) rfl hw) ?_
  refine zn ?_
  refine zrb [2, 0, 1] hb (Up.refl _ _) ?_
  refine ⟨(X10RX), (X10PX), (X10KX), (X10AT), (X10SD), A10rb_0, c10rb_0, A10rb_1, c10rb_1, g10rb_1, rfl, ?_, ?_, ?_, ?_, ?_, by first | trivial | omega | (dsimp only; omega) | (simp only [List.length_set, M.setI_length]; omega), by first | trivial | omega | (dsimp only; omega) | (simp only [List.length_set, M.setI_length]; omega), by first | trivial | omega | (dsimp only; omega) | (simp only [List.length_set, M.setI_length]; omega), by first | trivial | omega | (dsimp only; omega) | (simp only [List.length_set, M.setI_length]; omega)⟩
  · rfl
  all_goals (try dsimp only)
  all_goals (first | (omega) | omega | (simp only [*]; omega) | (simp; done))
 refine Js.skip <| zS <| Qm rfl <| Qf fh rfl <| Q0 2 rfl rfl rfl <| zv rfl (fun w hw => c_spec_l00Min 8 X3RX.pits) <| zv rfl (fun w hw => c_spec_l00Max 1 (if 8 < X3RX.pits then 8 else X3RX.pits)) <| zBB 1 sp_ rfl (fun w hb _ hw => c_spec_l00Src_pick s_code X7AT X7SD (if 1 < (if 8 < X3RX.pits then 8 else X3RX.pits) then (if 8 < X3RX.pits then 8 else X3RX.pits) else 1) hb (ok_ hw)) ?_
 rintro _ _ G12 ⟨X12KX, X12AT, X12SD, rfl, rfl, hX12_0, hX12_1, hX12_2, hX12_3⟩
 refine znl ?_
 refine Qa rfl <| JL.nil ?_
 refine zf [0, 1, 1, 1, 1, 1, 1] fun GG13 => ?_
 refine zn ?_
 refine Js.seq <| zS <| Qm rfl <| zBB 1 sp_ rfl (fun w hb _ hw => c_spec_l00Src_one s_code X12AT X12SD 12 hb (ok_ hw)) ?_
 rintro _ _ G14 ⟨X14BX, X14AT, X14SD, rfl, rfl, hX14_0, hX14_1⟩
 refine znl ?_
 refine JL.nil ?_
 refine zf [0, 1, 1, 1, 1, 1, 1] fun GG15 => ?_
 refine zn ?_
 refine zk [0, 2, 3, 5, 6] (fun F U l os u => ∃ (mv at5 sd5 : Int) (G16_7 : List Nat), l = F [(7, .int .i64 mv)] ∧ os = U [some (boxO bs [.slice As_0 s_code cs_0, .int .i64 at5, .int .u64 sd5] 105), nO, nO, nO, nO, nO, nO, some (anyO G16_7)] ∧ (s_at ≤ at5) ∧ (at5 ≤ s_at + 1200)) ?_ ?_
 ·
  refine zi (fun h17 h17' => ?_) fun h17 h17' => ?_
  ·
   refine Js.region <| Qm rfl <| Qf fh rfl <| Q0 2 rfl rfl rfl <| zv rfl (fun w hw => c_spec_l00Min 8 X3RX.pits) <| zbs fun b18 => ?_
   refine zhl [1] ?_
   refine zBB 1 sp_ rfl (fun w hb _ hw => c_spec_l00Src_among s_code X14AT X14SD [(-1), (if 8 < X3RX.pits then 8 else X3RX.pits)] hb (ok_ hw) (ints_rowok (xs := [(-1), (if 8 < X3RX.pits then 8 else X3RX.pits)]) (hw.pr (i := 0) rfl)) (r3 := (by simp)) (r4 := (by simp))) ?_
   rintro _ _ G20 ⟨X20KX, X20AT, X20SD, rfl, rfl, hX20_0, hX20_1, hX20_2⟩
   refine znl ?_
   refine Qa rfl <| JL.nil ?_
   refine zf [0, 2, 2, 2, 2, 2, 2] fun GG21 => ?_
   refine zn ?_
   exact zm ⟨(X20KX), (X20AT), (X20SD), _, rfl, rfl, by first | assumption | omega | rfl | (dsimp only; omega) | (simp; done), by first | assumption | omega | rfl | (dsimp only; omega) | (simp; done)⟩ (Up.refl _ _)
  refine Js.skip ?_
  exact zm ⟨(X12KX), (X14AT), (X14SD), _, rfl, rfl, by first | assumption | omega | rfl | (dsimp only; omega) | (simp; done), by first | assumption | omega | rfl | (dsimp only; omega) | (simp; done)⟩ (Up.refl _ _)
 rintro _ _ u16 ⟨mv, at5, sd5, G16_7, rfl, rfl, hb0, hb1⟩ x16
 refine zn ?_
 refine Js.seq <| Js.seq ?_
 rcases Bool.eq_false_or_eq_true ((M.okP X3RX X3QX) && (M.betw mv 0 (IntKind.i64.wrap (X3RX.pits - 1)))) with h22 | h22
 ·
  refine Js.region <| zv rfl (fun w hw => c_spec_l04Ok X3RX X3QX (okx_ hw) (okx_ hw)) <| Qm rfl <| zg (Gd.t1 rfl rfl rfl) (fun hc => p_move rfl) <| zg (Gd.t1 rfl rfl rfl) (fun hc => p_fieldAddr fld_25_0.h rfl) <| zgq (Gd.t1 rfl rfl rfl) (fun hc => q_load1 ty_2.h (gh hc rfl) (Mem.box (i := 2) rfl rfl)) <| zg (Gd.t1 rfl rfl rfl) (fun hc => p_sub (gh hc rfl) rfl rfl) <| zgv (Gd.t1 rfl rfl rfl) (fun hc => (opds_3 (gh hc rfl) rfl (gh hc rfl))) (fun hc => (fun w hw => c_spec_l00In mv 0 (IntKind.i64.wrap (X3RX.pits - 1)))) ?_
  refine Qq (p_pickAnd rfl rfl rfl) <| Qm rfl <| zT (Gd.t1 rfl rfl rfl) (show ((M.okP X3RX X3QX) && (M.betw mv 0 (IntKind.i64.wrap (X3RX.pits - 1)))) = true by first | exact h22 | (rw [h22]; rfl) | simp [h22]) <| Qm rfl <| zT (Gd.t1 rfl rfl rfl) (show ((M.okP X3RX X3QX) && (M.betw mv 0 (IntKind.i64.wrap (X3RX.pits - 1)))) = true by first | exact h22 | (rw [h22]; rfl) | simp [h22]) <| zBB 1 sp_ rfl (fun w hb _ hw => c_spec_l00Src_one s_code at5 sd5 2 hb (ok_ hw)) ?_
  rintro _ _ G23 ⟨X23BX, X23AT, X23SD, rfl, rfl, hX23_0, hX23_1⟩
  refine znl ?_
  refine Qq (p_pickAnd2 rfl rfl rfl) <| JL.nil ?_
  refine zf [0, 1, 1, 1, 1, 1, 1] fun GG24 => ?_
  refine zn ?_
  refine zi (fun h25 h25' => ?_) fun h25 h25' => ?_
  ·
   obtain ⟨ho1, ho2⟩ : M.okP X3RX X3QX = true ∧ M.betw mv 0 (IntKind.i64.wrap (X3RX.pits - 1)) = true := by simpa only [Bool.and_eq_true] using h22
   obtain ⟨g1, g2, _⟩ := M.okP_bd ho1
   rw [IntWalk.i64_in _ (by omega)] at ho2
   obtain ⟨d0, d1⟩ := M.betw_iff.1 ho2
   have hpl := M.place_bd ho1 d0 d1
   refine zS <| Qf fh rfl <| Q0 1 rfl rfl rfl <| Qf fh rfl <| Q0 2 rfl rfl rfl <| Qu rfl rfl <| Qm rfl <| Qp rfl rfl <| Qa rfl <| JL.nil ?_
   refine Js.fact (rx_some (i := 3) rfl (by omega)) (fun hf26 => ?_)
   obtain ⟨b26, o26, rfl⟩ := hf26
   refine Js.pubBox (i := 1) (j := 0) rfl rfl (fun u27 x27 hr27 => ?_)
   refine zn ?_
   refine zk [2, 3, 5, 6, 7] (fun F U l os u => ∃ (G29 : List Nat) (X29AT X29SD X29KX : Int), l = F [] ∧ os = [anyO G29] ++ U [some (boxO bs [.slice As_0 s_code cs_0, .int .i64 X29AT, .int .u64 X29SD] 105), nO, some (rxO 2 (.slice (some ⟨b26, o26, none⟩) X3QX.pits.length c3rb_0) X3QX.pits.length (ints_ (M.setI X3QX.pits ((X3QX.player * X3RX.pits) + mv) (if (IntKind.i64.wrap (1 + X29KX)) < (IntKind.i64.wrap ((IntKind.i64.wrap ((IntKind.i64.wrap (96 - (M.sum4 X3QX.pits))) - (M.sum4 X3QX.stores))) + (M.getI X3QX.pits ((X3QX.player * X3RX.pits) + mv)))) then (IntKind.i64.wrap (1 + X29KX)) else (IntKind.i64.wrap ((IntKind.i64.wrap ((IntKind.i64.wrap (96 - (M.sum4 X3QX.pits))) - (M.sum4 X3QX.stores))) + (M.getI X3QX.pits ((X3QX.player * X3RX.pits) + mv))))))))] ∧ (X23AT ≤ X29AT) ∧ (X29AT ≤ X23AT + 2) ∧ (0 ≤ X29KX) ∧ (X29KX = 0 ∨ X29KX < 20)) ?_ ?_
   ·
    refine zdr [4, 22] ?_
    refine jF 0 fld_28_0 rfl rfl ?_
    refine jW 1 ty_26 rfl rfl (fun hv => (hr27.vis hv) 0 _ rfl) ?_
    refine jM 2 rfl rfl ?_
    refine jM 3 rfl rfl ?_
    refine jF 6 fld_28_0 rfl rfl ?_
    refine jW 7 ty_26 rfl rfl (fun hv => (hr27.vis hv) 0 _ rfl) ?_
    refine jF 10 fld_28_1 rfl rfl ?_
    refine jW 11 ty_26 rfl rfl (fun hv => (hr27.vis hv) 1 _ rfl) ?_
    refine jF 14 fld_28_0 rfl rfl ?_
    refine jW 15 ty_26 rfl rfl (fun hv => (hr27.vis hv) 0 _ rfl) ?_
    refine jM 16 rfl rfl ?_
    refine jI 17 el_26 rfl rfl rfl rfl ?_
    refine y2 4 18 ?_ ?_
    ·
     refine yBB 1 sp_ rfl rfl (fun w hb _ hw => c_spec_l00Src_pick s_code X23AT X23SD 20 hb (ok_ hw)) ?_
     rintro _ _ G37 ⟨X37KX, X37AT, X37SD, rfl, rfl, hX37_0, hX37_1, hX37_2, hX37_3⟩
     refine znh ?_
     refine JH.p 5 rfl (p_add rfl rfl rfl) ?_
     refine y2 8 18 ?_ ?_
     ·
      refine yv rfl rfl (fun w hw => c_spec_l04Sum X3QX.pits (okx_ hw)) ?_
      refine JH.p 9 rfl (p_sub rfl rfl rfl) ?_
      refine y2 12 18 ?_ ?_
      ·
       refine yv rfl rfl (fun w hw => c_spec_l04Sum X3QX.stores (okx_ hw)) ?_
       refine JH.p 13 rfl (p_sub rfl rfl rfl) ?_
       refine y1 18 ?_
       refine JHo.q rfl (q_load1 ty_2.h rfl (Mem.rx (i := 3) rfl (ints_getI (i := (X3QX.player * X3RX.pits) + mv) (by omega)))) ?_
       refine JH.p 19 rfl (p_add rfl rfl rfl) ?_
       refine y1 20 ?_
       refine yv rfl rfl (fun w hw => c_spec_l00Min (IntKind.i64.wrap (1 + X37KX)) (IntKind.i64.wrap ((IntKind.i64.wrap ((IntKind.i64.wrap (96 - (M.sum4 X3QX.pits))) - (M.sum4 X3QX.stores))) + (M.getI X3QX.pits ((X3QX.player * X3RX.pits) + mv))))) ?_
       refine jI 21 el_26 rfl rfl rfl rfl ?_
       refine y1 22 ?_
       refine JHo.s rfl (e_storeRx (i := 3) (j := (((X3QX.player * X3RX.pits) + mv).toNat)) (xs' := ints_ (M.setI X3QX.pits ((X3QX.player * X3RX.pits) + mv) (if (IntKind.i64.wrap (1 + X37KX)) < (IntKind.i64.wrap ((IntKind.i64.wrap ((IntKind.i64.wrap (96 - (M.sum4 X3QX.pits))) - (M.sum4 X3QX.stores))) + (M.getI X3QX.pits ((X3QX.player * X3RX.pits) + mv)))) then (IntKind.i64.wrap (1 + X37KX)) else (IntKind.i64.wrap ((IntKind.i64.wrap ((IntKind.i64.wrap (96 - (M.sum4 X3QX.pits))) - (M.sum4 X3QX.stores))) + (M.getI X3QX.pits ((X3QX.player * X3RX.pits) + mv))))))) ty_2.h rfl rfl rfl rfl rfl (ints_lt (i := ((X3QX.player * X3RX.pits) + mv).toNat) (by omega)) (ints_setL (i := ((X3QX.player * X3RX.pits) + mv).toNat) (by omega))) (.inr rfl) ?_
       rintro _ _ _ ⟨rfl, rfl⟩ _
       refine znh ?_
       refine yd ?_
       refine zh [1, 0, 0, 0, 0, 0, 0, 0] ?_
       exact zm ⟨_, _, _, _, rfl, rfl, zt, zt, zt, zt⟩ (Up.refl _ _) ⟨rfl, rfl, rfl, rfl, rfl, trivial⟩
      refine JHo.q rfl (q_load1 ty_2.h rfl (Mem.rx (i := 3) rfl (ints_getI (i := (X3QX.player * X3RX.pits) + mv) (by omega)))) ?_
      refine y1 12 ?_
      refine yv rfl rfl (fun w hw => c_spec_l04Sum X3QX.stores (okx_ hw)) ?_
      refine JH.p 13 rfl (p_sub rfl rfl rfl) ?_
      refine JH.p 19 rfl (p_add rfl rfl rfl) ?_
      refine y1 20 ?_
      refine yv rfl rfl (fun w hw => c_spec_l00Min (IntKind.i64.wrap (1 + X37KX)) (IntKind.i64.wrap ((IntKind.i64.wrap ((IntKind.i64.wrap (96 - (M.sum4 X3QX.pits))) - (M.sum4 X3QX.stores))) + (M.getI X3QX.pits ((X3QX.player * X3RX.pits) + mv))))) ?_
      refine jI 21 el_26 rfl rfl rfl rfl ?_
      refine y1 22 ?_
      refine JHo.s rfl (e_storeRx (i := 3) (j := (((X3QX.player * X3RX.pits) + mv).toNat)) (xs' := ints_ (M.setI X3QX.pits ((X3QX.player * X3RX.pits) + mv) (if (IntKind.i64.wrap (1 + X37KX)) < (IntKind.i64.wrap ((IntKind.i64.wrap ((IntKind.i64.wrap (96 - (M.sum4 X3QX.pits))) - (M.sum4 X3QX.stores))) + (M.getI X3QX.pits ((X3QX.player * X3RX.pits) + mv)))) then (IntKind.i64.wrap (1 + X37KX)) else (IntKind.i64.wrap ((IntKind.i64.wrap ((IntKind.i64.wrap (96 - (M.sum4 X3QX.pits))) - (M.sum4 X3QX.stores))) + (M.getI X3QX.pits ((X3QX.player * X3RX.pits) + mv))))))) ty_2.h rfl rfl rfl rfl rfl (ints_lt (i := ((X3QX.player * X3RX.pits) + mv).toNat) (by omega)) (ints_setL (i := ((X3QX.player * X3RX.pits) + mv).toNat) (by omega))) (.inr rfl) ?_
      rintro _ _ _ ⟨rfl, rfl⟩ _
      refine znh ?_
      refine yd ?_
      refine zh [1, 0, 0, 0, 0, 0, 0, 0] ?_
      exact zm ⟨_, _, _, _, rfl, rfl, zt, zt, zt, zt⟩ (Up.refl _ _) ⟨rfl, rfl, rfl, rfl, rfl, trivial⟩
     refine JHo.q rfl (q_load1 ty_2.h rfl (Mem.rx (i := 3) rfl (ints_getI (i := (X3QX.player * X3RX.pits) + mv) (by omega)))) ?_
     refine y1 8 ?_
     refine yv rfl rfl (fun w hw => c_spec_l04Sum X3QX.pits (okx_ hw)) ?_
     refine JH.p 9 rfl (p_sub rfl rfl rfl) ?_
     refine y1 12 ?_
     refine yv rfl rfl (fun w hw => c_spec_l04Sum X3QX.stores (okx_ hw)) ?_
     refine JH.p 13 rfl (p_sub rfl rfl rfl) ?_
     refine JH.p 19 rfl (p_add rfl rfl rfl) ?_
     refine y1 20 ?_
     refine yv rfl rfl (fun w hw => c_spec_l00Min (IntKind.i64.wrap (1 + X37KX)) (IntKind.i64.wrap ((IntKind.i64.wrap ((IntKind.i64.wrap (96 - (M.sum4 X3QX.pits))) - (M.sum4 X3QX.stores))) + (M.getI X3QX.pits ((X3QX.player * X3RX.pits) + mv))))) ?_
     refine jI 21 el_26 rfl rfl rfl rfl ?_
     refine y1 22 ?_
     refine JHo.s rfl (e_storeRx (i := 3) (j := (((X3QX.player * X3RX.pits) + mv).toNat)) (xs' := ints_ (M.setI X3QX.pits ((X3QX.player * X3RX.pits) + mv) (if (IntKind.i64.wrap (1 + X37KX)) < (IntKind.i64.wrap ((IntKind.i64.wrap ((IntKind.i64.wrap (96 - (M.sum4 X3QX.pits))) - (M.sum4 X3QX.stores))) + (M.getI X3QX.pits ((X3QX.player * X3RX.pits) + mv)))) then (IntKind.i64.wrap (1 + X37KX)) else (IntKind.i64.wrap ((IntKind.i64.wrap ((IntKind.i64.wrap (96 - (M.sum4 X3QX.pits))) - (M.sum4 X3QX.stores))) + (M.getI X3QX.pits ((X3QX.player * X3RX.pits) + mv))))))) ty_2.h rfl rfl rfl rfl rfl (ints_lt (i := ((X3QX.player * X3RX.pits) + mv).toNat) (by omega)) (ints_setL (i := ((X3QX.player * X3RX.pits) + mv).toNat) (by omega))) (.inr rfl) ?_
     rintro _ _ _ ⟨rfl, rfl⟩ _
     refine znh ?_
     refine yd ?_
     refine zh [1, 0, 0, 0, 0, 0, 0, 0] ?_
     exact zm ⟨_, _, _, _, rfl, rfl, zt, zt, zt, zt⟩ (Up.refl _ _) ⟨rfl, rfl, rfl, rfl, rfl, trivial⟩
    refine JHo.q rfl (q_load1 ty_2.h rfl (Mem.rx (i := 2) rfl (ints_getI (i := (X3QX.player * X3RX.pits) + mv) (by omega)))) ?_
    refine y1 4 ?_
    refine yBB 1 sp_ rfl rfl (fun w hb _ hw => c_spec_l00Src_pick s_code X23AT X23SD 20 hb (ok_ hw)) ?_
    rintro _ _ G41 ⟨X41KX, X41AT, X41SD, rfl, rfl, hX41_0, hX41_1, hX41_2, hX41_3⟩
    refine znh ?_
    refine JH.p 5 rfl (p_add rfl rfl rfl) ?_
    refine y1 8 ?_
    refine yv rfl rfl (fun w hw => c_spec_l04Sum X3QX.pits (okx_ hw)) ?_
    refine JH.p 9 rfl (p_sub rfl rfl rfl) ?_
    refine y1 12 ?_
    refine yv rfl rfl (fun w hw => c_spec_l04Sum X3QX.stores (okx_ hw)) ?_
    refine JH.p 13 rfl (p_sub rfl rfl rfl) ?_
    refine JH.p 19 rfl (p_add rfl rfl rfl) ?_
    refine y1 20 ?_
    refine yv rfl rfl (fun w hw => c_spec_l00Min (IntKind.i64.wrap (1 + X41KX)) (IntKind.i64.wrap ((IntKind.i64.wrap ((IntKind.i64.wrap (96 - (M.sum4 X3QX.pits))) - (M.sum4 X3QX.stores))) + (M.getI X3QX.pits ((X3QX.player * X3RX.pits) + mv))))) ?_
    refine jI 21 el_26 rfl rfl rfl rfl ?_
    refine y1 22 ?_
    refine JHo.s rfl (e_storeRx (i := 3) (j := (((X3QX.player * X3RX.pits) + mv).toNat)) (xs' := ints_ (M.setI X3QX.pits ((X3QX.player * X3RX.pits) + mv) (if (IntKind.i64.wrap (1 + X41KX)) < (IntKind.i64.wrap ((IntKind.i64.wrap ((IntKind.i64.wrap (96 - (M.sum4 X3QX.pits))) - (M.sum4 X3QX.stores))) + (M.getI X3QX.pits ((X3QX.player * X3RX.pits) + mv)))) then (IntKind.i64.wrap (1 + X41KX)) else (IntKind.i64.wrap ((IntKind.i64.wrap ((IntKind.i64.wrap (96 - (M.sum4 X3QX.pits))) - (M.sum4 X3QX.stores))) + (M.getI X3QX.pits ((X3QX.player * X3RX.pits) + mv))))))) ty_2.h rfl rfl rfl rfl rfl (ints_lt (i := ((X3QX.player * X3RX.pits) + mv).toNat) (by omega)) (ints_setL (i := ((X3QX.player * X3RX.pits) + mv).toNat) (by omega))) (.inr rfl) ?_
    rintro _ _ _ ⟨rfl, rfl⟩ _
    refine znh ?_
    refine yd ?_
    refine zh [1, 0, 0, 0, 0, 0, 0, 0] ?_
    exact zm ⟨_, _, _, _, rfl, rfl, zt, zt, zt, zt⟩ (Up.refl _ _) ⟨rfl, rfl, rfl, rfl, rfl, trivial⟩
   rintro _ _ u35 ⟨G29, X29AT, X29SD, X29KX, rfl, rfl, f35_0, f35_1, f35_2, f35_3⟩ x35
   refine zn ?_
   refine zf [1, 1, 1, 1, 1, 1] fun GG43 => ?_
   refine zn ?_
   refine Js.seq ?_
   refine zdr [3, 4] ?_
   refine JH.q 0 rfl (L9 1 rfl rfl) ?_
   refine JH.w 1 rfl (fun os' u' hv => LS 0 (hr27.vis (x35.vis.trans hv)) rfl) ?_
   refine jM 2 rfl rfl ?_
   refine y1 3 ?_
   refine yst rfl rfl rfl ?_
   refine y1 4 ?_
   refine yst rfl rfl rfl ?_
   refine jA 5 rfl rfl ?_
   refine yd ?_
   refine zf [0, 1, 1, 1, 1] fun GG44 => ?_
   refine zn ?_
   refine zrb [0, 0, 0] hb ((x16.trans x27).trans x35) ?_
   have hNr1_0 : (M.setI X3QX.pits ((X3QX.player * X3RX.pits) + mv) (if (IntKind.i64.wrap (1 + X29KX)) < (IntKind.i64.wrap ((IntKind.i64.wrap ((IntKind.i64.wrap (96 - (M.sum4 X3QX.pits))) - (M.sum4 X3QX.stores))) + (M.getI X3QX.pits ((X3QX.player * X3RX.pits) + mv)))) then (IntKind.i64.wrap (1 + X29KX)) else (IntKind.i64.wrap ((IntKind.i64.wrap ((IntKind.i64.wrap (96 - (M.sum4 X3QX.pits))) - (M.sum4 X3QX.stores))) + (M.getI X3QX.pits ((X3QX.player * X3RX.pits) + mv)))))).length = X3QX.pits.length := by first | rfl | assumption | omega | (simp only [List.length_set, M.setI_length]; done) | (simp only [List.length_set, M.setI_length]; first | rfl | assumption | omega) | (simp only [List.length_drop]; first | done | rfl | omega) | (simp; done) | (simp; omega)
   refine ⟨(X3RX), ((M.Pos.mk (M.setI X3QX.pits ((X3QX.player * X3RX.pits) + mv) (if (IntKind.i64.wrap (1 + X29KX)) < (IntKind.i64.wrap ((IntKind.i64.wrap ((IntKind.i64.wrap (96 - (M.sum4 X3QX.pits))) - (M.sum4 X3QX.stores))) + (M.getI X3QX.pits ((X3QX.player * X3RX.pits) + mv)))) then (IntKind.i64.wrap (1 + X29KX)) else (IntKind.i64.wrap ((IntKind.i64.wrap ((IntKind.i64.wrap (96 - (M.sum4 X3QX.pits))) - (M.sum4 X3QX.stores))) + (M.getI X3QX.pits ((X3QX.player * X3RX.pits) + mv)))))) X3QX.stores X3QX.player)), (mv), (X29AT), (X29SD), (some ⟨b26, o26, none⟩), c3rb_0, A3rb_1, c3rb_1, g3rb_1, (show (.tuple #[.agg #[.int .i64 X3RX.pits, .int .i64 X3RX.seeds, .bool X3RX.stores, .bool X3RX.skip, .bool X3RX.relay, .bool X3RX.feed, .bool X3RX.again, .int .i64 X3RX.capture, .int .i64 X3RX.slam], .agg #[.slice (some ⟨b26, o26, none⟩) X3QX.pits.length c3rb_0, .slice A3rb_1 X3QX.stores.length c3rb_1, .int .i64 X3QX.player], .int .i64 mv] : Value) = .tuple #[.agg #[.int .i64 X3RX.pits, .int .i64 X3RX.seeds, .bool X3RX.stores, .bool X3RX.skip, .bool X3RX.relay, .bool X3RX.feed, .bool X3RX.again, .int .i64 X3RX.capture, .int .i64 X3RX.slam], .agg #[.slice (some ⟨b26, o26, none⟩) (M.setI X3QX.pits ((X3QX.player * X3RX.pits) + mv) (if (IntKind.i64.wrap (1 + X29KX)) < (IntKind.i64.wrap ((IntKind.i64.wrap ((IntKind.i64.wrap (96 - (M.sum4 X3QX.pits))) - (M.sum4 X3QX.stores))) + (M.getI X3QX.pits ((X3QX.player * X3RX.pits) + mv)))) then (IntKind.i64.wrap (1 + X29KX)) else (IntKind.i64.wrap ((IntKind.i64.wrap ((IntKind.i64.wrap (96 - (M.sum4 X3QX.pits))) - (M.sum4 X3QX.stores))) + (M.getI X3QX.pits ((X3QX.player * X3RX.pits) + mv)))))).length c3rb_0, .slice A3rb_1 X3QX.stores.length c3rb_1, .int .i64 X3QX.player], .int .i64 mv] by rw [hNr1_0]), ?_, ?_, ?_, ?_, ?_, by first | trivial | omega | (dsimp only; omega) | (simp only [List.length_set, M.setI_length]; omega), by first | trivial | omega | (dsimp only; omega) | (simp only [List.length_set, M.setI_length]; omega), by first | trivial | omega | (dsimp only; omega) | (simp only [List.length_set, M.setI_length]; omega), by first | trivial | omega | (dsimp only; omega) | (simp only [List.length_set, M.setI_length]; omega)⟩
   · exact r5_ hNr1_0
   all_goals (try dsimp only)
   all_goals (first | (rw [hNr1_0]; omega) | omega | (simp only [*]; omega) | (simp; done))
  refine Js.skip <| Js.seq ?_
  refine zk [2, 3] (fun F U l os u => l = F [(4, .int .i64 mv)] ∧ os = U [nO, nO, nO, nO, nO, some (boxO b2 [.slice A3rb_0 X3QX.pits.length c3rb_0, .slice A3rb_1 X3QX.stores.length c3rb_1, .int .i64 X3QX.player] 28), some (boxO b1 [.int .i64 X3RX.pits, .int .i64 X3RX.seeds, .bool X3RX.stores, .bool X3RX.skip, .bool X3RX.relay, .bool X3RX.feed, .bool X3RX.again, .int .i64 X3RX.capture, .int .i64 X3RX.slam] 25)]) ?_ ?_
  ·
   refine zdr [3, 4] ?_
   refine JH.q 0 rfl (L9 2 rfl rfl) ?_
   refine jM 2 rfl rfl ?_
   refine y2 1 3 ?_ ?_
   ·
    refine JHo.q rfl (L9 1 rfl rfl) ?_
    refine y1 3 ?_
    refine yst rfl rfl rfl ?_
    refine y1 4 ?_
    refine yst rfl rfl rfl ?_
    refine jA 5 rfl rfl ?_
    refine yd ?_
    exact zm ⟨rfl, rfl⟩ (Up.refl _ _)
   refine yst rfl rfl rfl ?_
   refine y1 1 ?_
   refine JHo.q rfl (L9 1 rfl rfl) ?_
   refine y1 4 ?_
   refine yst rfl rfl rfl ?_
   refine jA 5 rfl rfl ?_
   refine yd ?_
   exact zm ⟨rfl, rfl⟩ (Up.refl _ _)
  rintro _ _ u45 ⟨rfl, rfl⟩ x45
  refine zn ?_
  refine zf [0, 2, 2, 2, 2] fun GG46 => ?_
  refine zn ?_
  refine zrb [0, 0, 0] hb (x16.trans x45) ?_
  refine ⟨(X3RX), (X3QX), (mv), (X23AT), (X23SD), A3rb_0, c3rb_0, A3rb_1, c3rb_1, g3rb_1, rfl, ?_, ?_, ?_, ?_, ?_, by first | trivial | omega | (dsimp only; omega) | (simp only [List.length_set, M.setI_length]; omega), by first | trivial | omega | (dsimp only; omega) | (simp only [List.length_set, M.setI_length]; omega), by first | trivial | omega | (dsimp only; omega) | (simp only [List.length_set, M.setI_length]; omega), by first | trivial | omega | (dsimp only; omega) | (simp only [List.length_set, M.setI_length]; omega)⟩
  · rfl
  all_goals (try dsimp only)
  all_goals (first | (omega) | omega | (simp only [*]; omega) | (simp; done))
 refine Js.region <| zv rfl (fun w hw => c_spec_l04Ok X3RX X3QX (okx_ hw) (okx_ hw)) <| Qm rfl <| zg (Gd.t1 rfl rfl rfl) (fun hc => p_move rfl) <| zg (Gd.t1 rfl rfl rfl) (fun hc => p_fieldAddr fld_25_0.h rfl) <| zgq (Gd.t1 rfl rfl rfl) (fun hc => q_load1 ty_2.h (gh hc rfl) (Mem.box (i := 2) rfl rfl)) <| zg (Gd.t1 rfl rfl rfl) (fun hc => p_sub (gh hc rfl) rfl rfl) <| zgv (Gd.t1 rfl rfl rfl) (fun hc => (opds_3 (gh hc rfl) rfl (gh hc rfl))) (fun hc => (fun w hw => c_spec_l00In mv 0 (IntKind.i64.wrap (X3RX.pits - 1)))) ?_
 refine Qq (p_pickAnd rfl rfl rfl) <| Qm rfl ?_
 refine JL.g (v := undef) (Gd.t1 rfl rfl rfl) (fun hc => absurd hc (by first | (rw [h22]; simp; done) | simp [h22])) ?_
 refine JL.g (v := .bool false) (Gd.t1 rfl rfl rfl) (fun hc => absurd hc (by first | (rw [h22]; simp; done) | simp [h22])) ?_
 refine Qq (p_pickAnd rfl rfl rfl) <| JL.nil ?_
 -- known
 refine Js.condF rfl (by rw [h22]; rfl) ?_
 refine Js.skip <| Js.seq ?_
 refine zk [2, 3] (fun F U l os u => l = F [(4, .int .i64 mv)] ∧ os = U [nO, nO, nO, nO, nO, some (boxO b2 [.slice A3rb_0 X3QX.pits.length c3rb_0, .slice A3rb_1 X3QX.stores.length c3rb_1, .int .i64 X3QX.player] 28), some (boxO b1 [.int .i64 X3RX.pits, .int .i64 X3RX.seeds, .bool X3RX.stores, .bool X3RX.skip, .bool X3RX.relay, .bool X3RX.feed, .bool X3RX.again, .int .i64 X3RX.capture, .int .i64 X3RX.slam] 25)]) ?_ ?_
 ·
  refine zdr [3, 4] ?_
  refine JH.q 0 rfl (L9 2 rfl rfl) ?_
  refine jM 2 rfl rfl ?_
  refine y2 1 3 ?_ ?_
  ·
   refine JHo.q rfl (L9 1 rfl rfl) ?_
   refine y1 3 ?_
   refine yst rfl rfl rfl ?_
   refine y1 4 ?_
   refine yst rfl rfl rfl ?_
   refine jA 5 rfl rfl ?_
   refine yd ?_
   exact zm ⟨rfl, rfl⟩ (Up.refl _ _)
  refine yst rfl rfl rfl ?_
  refine y1 1 ?_
  refine JHo.q rfl (L9 1 rfl rfl) ?_
  refine y1 4 ?_
  refine yst rfl rfl rfl ?_
  refine jA 5 rfl rfl ?_
  refine yd ?_
  exact zm ⟨rfl, rfl⟩ (Up.refl _ _)
 rintro _ _ u47 ⟨rfl, rfl⟩ x47
 refine zn ?_
 refine zf [0, 2, 2, 2, 2] fun GG48 => ?_
 refine zn ?_
 refine zrb [0, 0, 0] hb (x16.trans x47) ?_
 refine ⟨(X3RX), (X3QX), (mv), (at5), (sd5), A3rb_0, c3rb_0, A3rb_1, c3rb_1, g3rb_1, rfl, ?_, ?_, ?_, ?_, ?_, by first | trivial | omega | (dsimp only; omega) | (simp only [List.length_set, M.setI_length]; omega), by first | trivial | omega | (dsimp only; omega) | (simp only [List.length_set, M.setI_length]; omega), by first | trivial | omega | (dsimp only; omega) | (simp only [List.length_set, M.setI_length]; omega), by first | trivial | omega | (dsimp only; omega) | (simp only [List.length_set, M.setI_length]; omega)⟩
 · rfl
 all_goals (try dsimp only)
 all_goals (first | (omega) | omega | (simp only [*]; omega) | (simp; done))
theorem c_spec_l07Draw (s_code : Nat) (s_at s_seed : Int) {As_0 : Option Addr} {cs_0 bs : Nat} {w : World} (hb : Bw w [boxO bs [.slice As_0 s_code cs_0, .int .i64 s_at, .int .u64 s_seed] 105]) (hps_0 : (Ty.bytes 5 s_code).ok (offW w (([boxO bs [.slice As_0 s_code cs_0, .int .i64 s_at, .int .u64 s_seed] 105] : List Own).flatMap (·.fp))) (.slice As_0 s_code cs_0)) (r0 : 0 ≤ s_at := by exact om_) (r1 : s_at ≤ 999994900 := by exact om_) (r2 : s_code ≤ 1048576 := by exact om_) : RetB Try.prog 29 [.pointer (some ⟨bs, 0, none⟩)] w [boxO bs [.slice As_0 s_code cs_0, .int .i64 s_at, .int .u64 s_seed] 105] (fun v bs' => ∃ (RX : M.Rul) (PX : M.Pos) (KX AT SD : Int) (Axrb_0 : Option Addr) (cxrb_0 : Nat) (Axrb_1 : Option Addr) (cxrb_1 : Nat) (gxrb_1 : List Nat), v = .tuple #[.agg #[.int .i64 RX.pits, .int .i64 RX.seeds, .bool RX.stores, .bool RX.skip, .bool RX.relay, .bool RX.feed, .bool RX.again, .int .i64 RX.capture, .int .i64 RX.slam], .agg #[.slice Axrb_0 PX.pits.length cxrb_0, .slice Axrb_1 PX.stores.length cxrb_1, .int .i64 PX.player], .int .i64 KX] ∧ bs' = [boxO bs [.slice As_0 s_code cs_0, .int .i64 AT, .int .u64 SD] 105, rxO 2 (.slice Axrb_0 PX.pits.length cxrb_0) PX.pits.length (ints_ PX.pits), rowO 2 1 (.slice Axrb_1 PX.stores.length cxrb_1) PX.stores.length (ints_ PX.stores) gxrb_1] ∧ PX.pits.length ≤ cxrb_0 ∧ cxrb_0 ≤ 9223372036854775807 ∧ PX.stores.length ≤ cxrb_1 ∧ cxrb_1 ≤ 9223372036854775807 ∧ (RX.pits ≤ 9) ∧ (PX.pits.length ≤ 4194304 ∧ PX.stores.length ≤ 4194304) ∧ (s_at ≤ AT) ∧ (AT ≤ s_at + 5100)) := by
 refine enterB hb @Try.func29 @Try.ntmps29 rfl rfl ?_
 refine zent ?_
 refine Js.trashE ?_
 refine zn ?_
 refine zS <| za zeh fun b1 => za zeh fun b2 => Qa rfl <| zN <| Qm rfl ?_
 refine zhl [2] ?_
 refine zBB 1 sp_ rfl (fun w hb _ hw => c_spec_l05Draw s_code s_at s_seed hb (ok_ hw)) ?_
 rintro _ _ G3 ⟨X3RX, X3PX, X3KX, X3AT, X3SD, A3rb_0, c3rb_0, A3rb_1, c3rb_1, g3rb_1, rfl, rfl, bl3_0, bl3_1, bl3_2, bl3_3, hX3_0, hX3_1, hX3_2, hX3_3⟩
 refine znl ?_
 refine Qm rfl <| Qx rfl rfl <| Qx rfl rfl <| Qx rfl rfl <| za zeh fun b4 => za zeh fun b5 => zw 1 rfl rfl rfl ?_
 refine zw 0 rfl rfl rfl ?_
 refine Qa rfl <| JL.nil ?_
 refine zf [0, 0, 0, 0, 0, 1, 1] fun GG6 => ?_
 refine zn ?_
 refine Js.seq <| Js.seq ?_
 rcases Bool.eq_false_or_eq_true (M.okP X3RX X3PX) with h7 | h7
 ·
  refine Js.region <| zv rfl (fun w hw => c_spec_l04Ok X3RX X3PX (okx_ hw) (okx_ hw)) <| Qm rfl <| zT (Gd.t1 rfl rfl rfl) (show (M.okP X3RX X3PX) = true by first | exact h7 | (rw [h7]; rfl) | simp [h7]) <| Qm rfl <| zT (Gd.t1 rfl rfl rfl) (show (M.okP X3RX X3PX) = true by first | exact h7 | (rw [h7]; rfl) | simp [h7]) ?_
  refine zhl [2] ?_
  refine zBB 1 sp_ rfl (fun w hb _ hw => c_spec_l00Src_one s_code X3AT X3SD 6 hb (ok_ hw)) ?_
  rintro _ _ G8 ⟨X8BX, X8AT, X8SD, rfl, rfl, hX8_0, hX8_1⟩
  refine znl ?_
  refine Qq (p_pickAnd2 rfl rfl rfl) <| JL.nil ?_
  refine zf [0, 1, 1, 1, 1, 1, 1] fun GG9 => ?_
  refine zn ?_
  refine zi (fun h10 h10' => ?_) fun h10 h10' => ?_
  ·
   obtain ⟨g1, g2, g3, g4, _, _, _⟩ := M.okP_bd h7
   refine zS <| Qm rfl <| zBB 1 sp_ rfl (fun w hb _ hw => c_spec_l00Src_pick s_code X8AT X8SD 2 hb (ok_ hw)) ?_
   rintro _ _ G11 ⟨X11KX, X11AT, X11SD, rfl, rfl, hX11_0, hX11_1, hX11_2, hX11_3⟩
   refine znl ?_
   refine Qa rfl <| JL.nil ?_
   refine zf [0, 1, 1, 1, 1, 1, 1] fun GG12 => ?_
   refine zn ?_
   have hm9 := M.mul01 (a := X11KX) (n := X3RX.pits) (by omega) (by omega) (by omega) (by omega)
   obtain ⟨sd9, hsd9⟩ : ∃ x : Int, x = X11KX * X3RX.pits := ⟨_, rfl⟩
   refine Js.seq <| zS <| Qm rfl <| Qf fh rfl <| Q0 2 rfl rfl rfl <| Qu rfl rfl <| Qa rfl <| JL.nil <| Js.block ?_
   refine zl [2, 3, 5, 6, 7, 8] (fun F U l os u m => ∃ (j : Int) (ys : List Int) (G13_7 : List Nat), l = F [(9, .int .i64 j)] ∧ os = U [nO, nO, nO, some (rxO 2 (.slice A3rb_0 X3PX.pits.length c3rb_0) X3PX.pits.length (ints_ ys)), nO, nO, nO, some (anyO G13_7)] ∧ (ys.length = (X3PX.pits).length) ∧ (sd9 ≤ j) ∧ (j ≤ sd9 + X3RX.pits) ∧ m = (sd9 + X3RX.pits - j).toNat) ⟨X11KX * X3RX.pits, X3PX.pits, _, rfl, rfl, by rfl, zt, zt, rfl⟩ ?_
   rintro _ _ u13 _ ⟨j, ys, G13_7, rfl, rfl, hY, hj0, hj1, rfl⟩ x13
   refine zn ?_
   refine Js.seq <| zS <| Qm rfl <| Qm rfl <| Qp rfl rfl <| Qf fh rfl <| Q0 2 rfl rfl rfl <| Qu rfl rfl <| Ql rfl rfl <| JL.nil ?_
   refine zi (fun h14 h14' => ?_) fun h14 h14' => ?_
   ·
    refine Js.skip <| Js.seq <| Js.block ?_
    refine Js.fact (rx_some (i := 3) rfl (by omega)) (fun hf15 => ?_)
    obtain ⟨b15, o15, rfl⟩ := hf15
    refine Js.region <| Qf fh rfl <| Q0 1 rfl rfl rfl <| Qm rfl <| Qq (p_indexAddr el_26 rfl rfl (by omega) (by omega) rfl) ?_
    refine JL.s (e_storeRx (i := 3) (j := j.toNat) (xs' := ints_ (M.setI ys j 0)) ty_2.h rfl rfl rfl rfl rfl (ints_lt (i := j.toNat) (by omega)) (ints_setL (i := j.toNat) (by omega))) ?_
    rintro _ _ _ ⟨rfl, rfl⟩ _
    refine znl ?_
    refine JL.nil <| Js.blockEnd <| Js.region <| Qm rfl <| Qp rfl rfl <| Qa rfl <| JL.nil ?_
    exact zag ⟨j + 1, M.setI ys j 0, _, rfl, rfl, by simp only [M.setI_length, List.length_set]; exact hY, zt, zt, rfl⟩ x13
   refine zx ?_
   refine Js.region <| Qm rfl <| Qs rfl rfl <| Qf fh rfl <| zw 1 rfl rfl rfl ?_
   refine zJ ?_
   refine zk [2, 3] (fun F U l os u => l = F [(4, .int .i64 X3KX)] ∧ os = U [nO, nO, nO, nO, nO, some (boxO b2 [.slice A3rb_0 X3PX.pits.length c3rb_0, .slice A3rb_1 X3PX.stores.length c3rb_1, .int .i64 (1 - X11KX)] 28), some (boxO b1 [.int .i64 X3RX.pits, .int .i64 X3RX.seeds, .bool X3RX.stores, .bool X3RX.skip, .bool X3RX.relay, .bool X3RX.feed, .bool X3RX.again, .int .i64 X3RX.capture, .int .i64 X3RX.slam] 25)]) ?_ ?_
   ·
    refine zdr [3, 4] ?_
    refine JH.q 0 rfl (L9 2 rfl rfl) ?_
    refine jM 2 rfl rfl ?_
    refine y2 1 3 ?_ ?_
    ·
     refine JHo.q rfl (L9 1 rfl rfl) ?_
     refine y1 3 ?_
     refine yst rfl rfl rfl ?_
     refine y1 4 ?_
     refine yst rfl rfl rfl ?_
     refine jA 5 rfl rfl ?_
     refine yd ?_
     exact zm ⟨rfl, rfl⟩ (Up.refl _ _)
    refine yst rfl rfl rfl ?_
    refine y1 1 ?_
    refine JHo.q rfl (L9 1 rfl rfl) ?_
    refine y1 4 ?_
    refine yst rfl rfl rfl ?_
    refine jA 5 rfl rfl ?_
    refine yd ?_
    exact zm ⟨rfl, rfl⟩ (Up.refl _ _)
   rintro _ _ u17 ⟨rfl, rfl⟩ x17
   refine zn ?_
   refine zf [0, 2, 2, 2, 2] fun GG18 => ?_
   refine zn ?_
   refine zrb [0, 0, 0] hb (x13.trans x17) ?_
   have hNr1_0 : ys.length = X3PX.pits.length := by first | rfl | assumption | omega | (simp only [List.length_set, M.setI_length]; done) | (simp only [List.length_set, M.setI_length]; first | rfl | assumption | omega) | (simp only [List.length_drop]; first | done | rfl | omega) | (simp; done) | (simp; omega)
   refine ⟨(X3RX), ((M.Pos.mk ys X3PX.stores (1 - X11KX))), (X3KX), (X11AT), (X11SD), A3rb_0, c3rb_0, A3rb_1, c3rb_1, g3rb_1, (show (.tuple #[.agg #[.int .i64 X3RX.pits, .int .i64 X3RX.seeds, .bool X3RX.stores, .bool X3RX.skip, .bool X3RX.relay, .bool X3RX.feed, .bool X3RX.again, .int .i64 X3RX.capture, .int .i64 X3RX.slam], .agg #[.slice A3rb_0 X3PX.pits.length c3rb_0, .slice A3rb_1 X3PX.stores.length c3rb_1, .int .i64 (1 - X11KX)], .int .i64 X3KX] : Value) = .tuple #[.agg #[.int .i64 X3RX.pits, .int .i64 X3RX.seeds, .bool X3RX.stores, .bool X3RX.skip, .bool X3RX.relay, .bool X3RX.feed, .bool X3RX.again, .int .i64 X3RX.capture, .int .i64 X3RX.slam], .agg #[.slice A3rb_0 ys.length c3rb_0, .slice A3rb_1 X3PX.stores.length c3rb_1, .int .i64 (1 - X11KX)], .int .i64 X3KX] by rw [hNr1_0]), ?_, ?_, ?_, ?_, ?_, by first | trivial | omega | (dsimp only; omega) | (simp only [List.length_set, M.setI_length]; omega), by first | trivial | omega | (dsimp only; omega) | (simp only [List.length_set, M.setI_length]; omega), by first | trivial | omega | (dsimp only; omega) | (simp only [List.length_set, M.setI_length]; omega), by first | trivial | omega | (dsimp only; omega) | (simp only [List.length_set, M.setI_length]; omega)⟩
   · exact r5_ hNr1_0
   all_goals (try dsimp only)
   all_goals (first | (rw [hNr1_0]; omega) | omega | (simp only [*]; omega) | (simp; done))
  refine Js.skip <| Js.seq ?_
  refine zk [2, 3] (fun F U l os u => l = F [(4, .int .i64 X3KX)] ∧ os = U [nO, nO, nO, nO, nO, some (boxO b2 [.slice A3rb_0 X3PX.pits.length c3rb_0, .slice A3rb_1 X3PX.stores.length c3rb_1, .int .i64 X3PX.player] 28), some (boxO b1 [.int .i64 X3RX.pits, .int .i64 X3RX.seeds, .bool X3RX.stores, .bool X3RX.skip, .bool X3RX.relay, .bool X3RX.feed, .bool X3RX.again, .int .i64 X3RX.capture, .int .i64 X3RX.slam] 25)]) ?_ ?_
  ·
   refine zdr [3, 4] ?_
   refine JH.q 0 rfl (L9 2 rfl rfl) ?_
   refine jM 2 rfl rfl ?_
   refine y2 1 3 ?_ ?_
   ·
    refine JHo.q rfl (L9 1 rfl rfl) ?_
    refine y1 3 ?_
    refine yst rfl rfl rfl ?_
    refine y1 4 ?_
    refine yst rfl rfl rfl ?_
    refine jA 5 rfl rfl ?_
    refine yd ?_
    exact zm ⟨rfl, rfl⟩ (Up.refl _ _)
   refine yst rfl rfl rfl ?_
   refine y1 1 ?_
   refine JHo.q rfl (L9 1 rfl rfl) ?_
   refine y1 4 ?_
   refine yst rfl rfl rfl ?_
   refine jA 5 rfl rfl ?_
   refine yd ?_
   exact zm ⟨rfl, rfl⟩ (Up.refl _ _)
  rintro _ _ u19 ⟨rfl, rfl⟩ x19
  refine zn ?_
  refine zf [0, 2, 2, 2, 2] fun GG20 => ?_
  refine zn ?_
  refine zrb [0, 0, 0] hb x19 ?_
  refine ⟨(X3RX), (X3PX), (X3KX), (X8AT), (X8SD), A3rb_0, c3rb_0, A3rb_1, c3rb_1, g3rb_1, rfl, ?_, ?_, ?_, ?_, ?_, by first | trivial | omega | (dsimp only; omega) | (simp only [List.length_set, M.setI_length]; omega), by first | trivial | omega | (dsimp only; omega) | (simp only [List.length_set, M.setI_length]; omega), by first | trivial | omega | (dsimp only; omega) | (simp only [List.length_set, M.setI_length]; omega), by first | trivial | omega | (dsimp only; omega) | (simp only [List.length_set, M.setI_length]; omega)⟩
  · rfl
  all_goals (try dsimp only)
  all_goals (first | (omega) | omega | (simp only [*]; omega) | (simp; done))
 refine Js.region <| zv rfl (fun w hw => c_spec_l04Ok X3RX X3PX (okx_ hw) (okx_ hw)) <| Qm rfl ?_
 refine JL.g (v := undef) (Gd.t1 rfl rfl rfl) (fun hc => absurd hc (by first | (rw [h7]; simp; done) | simp [h7])) ?_
 refine JL.g (v := .bool false) (Gd.t1 rfl rfl rfl) (fun hc => absurd hc (by first | (rw [h7]; simp; done) | simp [h7])) ?_
 refine Qq (p_pickAnd rfl rfl rfl) <| JL.nil ?_
 -- known
 refine Js.condF rfl (by rw [h7]; rfl) ?_
 refine Js.skip <| Js.seq ?_
 refine zk [2, 3] (fun F U l os u => l = F [(4, .int .i64 X3KX)] ∧ os = U [nO, nO, nO, nO, nO, some (boxO b2 [.slice A3rb_0 X3PX.pits.length c3rb_0, .slice A3rb_1 X3PX.stores.length c3rb_1, .int .i64 X3PX.player] 28), some (boxO b1 [.int .i64 X3RX.pits, .int .i64 X3RX.seeds, .bool X3RX.stores, .bool X3RX.skip, .bool X3RX.relay, .bool X3RX.feed, .bool X3RX.again, .int .i64 X3RX.capture, .int .i64 X3RX.slam] 25)]) ?_ ?_
 ·
  refine zdr [3, 4] ?_
  refine JH.q 0 rfl (L9 1 rfl rfl) ?_
  refine jM 2 rfl rfl ?_
  refine y2 1 3 ?_ ?_
  ·
   refine JHo.q rfl (L9 0 rfl rfl) ?_
   refine y1 3 ?_
   refine yst rfl rfl rfl ?_
   refine y1 4 ?_
   refine yst rfl rfl rfl ?_
   refine jA 5 rfl rfl ?_
   refine yd ?_
   exact zm ⟨rfl, rfl⟩ (Up.refl _ _)
  refine yst rfl rfl rfl ?_
  refine y1 1 ?_
  refine JHo.q rfl (L9 0 rfl rfl) ?_
  refine y1 4 ?_
  refine yst rfl rfl rfl ?_
  refine jA 5 rfl rfl ?_
  refine yd ?_
  exact zm ⟨rfl, rfl⟩ (Up.refl _ _)
 rintro _ _ u21 ⟨rfl, rfl⟩ x21
 refine zn ?_
 refine zf [2, 2, 2, 2, 2] fun GG22 => ?_
 refine zn ?_
 refine zrb [0, 0, 0] hb x21 ?_
 refine ⟨(X3RX), (X3PX), (X3KX), (X3AT), (X3SD), A3rb_0, c3rb_0, A3rb_1, c3rb_1, g3rb_1, rfl, ?_, ?_, ?_, ?_, ?_, by first | trivial | omega | (dsimp only; omega) | (simp only [List.length_set, M.setI_length]; omega), by first | trivial | omega | (dsimp only; omega) | (simp only [List.length_set, M.setI_length]; omega), by first | trivial | omega | (dsimp only; omega) | (simp only [List.length_set, M.setI_length]; omega), by first | trivial | omega | (dsimp only; omega) | (simp only [List.length_set, M.setI_length]; omega)⟩
 · rfl
 all_goals (try dsimp only)
 all_goals (first | (omega) | omega | (simp only [*]; omega) | (simp; done))
theorem c_impl_newSowing (r : M.Rul) {v_r : Value} (p : M.Pos) {v_p : Value} {w : World} (h_r : (Ty.agg (cRules r)).ok w v_r) (h_p : (Ty.agg (cPosition p)).ok w v_p) (r0 : p.pits.length ≤ 4194304 := by exact om_) (r1 : p.stores.length ≤ 4194304 := by exact om_) : Ret Try.prog 41 [v_r, v_p] w (Ty.box 60 (csowing (M.Sow.mk r p.player (M.Sw.mk p.pits p.stores 0 0) []))) := by
 revert v_r; apply opn
 revert v_p; apply opn
 intro A1 c1 h1 bl1 bh1 A2 c2 h2 bl2 bh2
 refine enter @Try.func41 @Try.ntmps41 rfl rfl ?_
 refine zent ?_
 refine zS <| zb rfl fun b3 => zb rfl fun b4 => Qa rfl <| zN <| Q9 0 rfl rfl ?_
 refine zc rfl (fun w hw => c_impl_Position_copied p (ok_ hw)) ?_
 intro A6 c6 bl6 bh6 A7 c7 bl7 bh7
 refine za zeh fun b8 => zw 0 rfl rfl rfl ?_
 refine zN <| Q9 4 rfl rfl ?_
 refine Qf fh rfl <| Q0 3 rfl rfl rfl <| Qf fh rfl <| Q0 0 rfl rfl rfl <| Qf fh rfl <| Q0 0 rfl rfl rfl <| Qb ?_
 refine zbs fun b9 => ?_
 refine Qb ?_
 refine zb rfl fun b11 => Qa rfl <| JL.nil ?_
 exact zro (Up.refl _ _)
theorem c_impl_sowing_lap (s_rules : M.Rul) (s_player : Int) (s_sown : M.Sw) (s_path : List Int) {As_10 : Option Addr} {cs_10 : Nat} {gs_10 : List Nat} {As_11 : Option Addr} {cs_11 : Nat} {gs_11 : List Nat} {As_14 : Option Addr} {cs_14 : Nat} {gs_14 : List Nat} (from_ : Int) {bs : Nat} {w : World} (hb : Bw w [boxO bs [.int .i64 s_rules.pits, .int .i64 s_rules.seeds, .bool s_rules.stores, .bool s_rules.skip, .bool s_rules.relay, .bool s_rules.feed, .bool s_rules.again, .int .i64 s_rules.capture, .int .i64 s_rules.slam, .int .i64 s_player, .slice As_10 s_sown.pits.length cs_10, .slice As_11 s_sown.stores.length cs_11, .int .i64 s_sown.last, .int .i64 s_sown.laps, .slice As_14 s_path.length cs_14] 60, rowO 2 1 (.slice As_10 s_sown.pits.length cs_10) s_sown.pits.length (ints_ s_sown.pits) gs_10, rowO 2 1 (.slice As_11 s_sown.stores.length cs_11) s_sown.stores.length (ints_ s_sown.stores) gs_11, rowO 2 1 (.slice As_14 s_path.length cs_14) s_path.length (ints_ s_path) gs_14]) (bd0 : s_sown.pits.length ≤ cs_10 := by exact om_) (bd1 : cs_10 ≤ 9223372036854775807 := by exact om_) (bd2 : s_sown.stores.length ≤ cs_11 := by exact om_) (bd3 : cs_11 ≤ 9223372036854775807 := by exact om_) (bd4 : s_path.length ≤ cs_14 := by exact om_) (bd5 : cs_14 ≤ 9223372036854775807 := by exact om_) (r0 : 2 ≤ s_rules.pits := by exact om_) (r1 : s_rules.pits ≤ 8 := by exact om_) (r2 : s_player = 0 ∨ s_player = 1 := by exact om_) (r3 : 0 ≤ from_ := by exact om_) (r4 : from_ < 2 * s_rules.pits := by exact om_) (r5 : M.Good s_rules s_sown.pits s_sown.stores 0 := by exact om_) (r6 : 0 < (M.getI s_sown.pits from_) := by exact om_) (r7 : 0 ≤ s_sown.laps := by exact om_) (r8 : s_sown.laps ≤ 99 := by exact om_) (r9 : s_path.length ≤ 10000 := by exact om_) : RetB Try.prog 43 [.pointer (some ⟨bs, 0, none⟩), .int .i64 from_] w [boxO bs [.int .i64 s_rules.pits, .int .i64 s_rules.seeds, .bool s_rules.stores, .bool s_rules.skip, .bool s_rules.relay, .bool s_rules.feed, .bool s_rules.again, .int .i64 s_rules.capture, .int .i64 s_rules.slam, .int .i64 s_player, .slice As_10 s_sown.pits.length cs_10, .slice As_11 s_sown.stores.length cs_11, .int .i64 s_sown.last, .int .i64 s_sown.laps, .slice As_14 s_path.length cs_14] 60, rowO 2 1 (.slice As_10 s_sown.pits.length cs_10) s_sown.pits.length (ints_ s_sown.pits) gs_10, rowO 2 1 (.slice As_11 s_sown.stores.length cs_11) s_sown.stores.length (ints_ s_sown.stores) gs_11, rowO 2 1 (.slice As_14 s_path.length cs_14) s_path.length (ints_ s_path) gs_14] (fun v bs' => ∃ (Axs_10 : Option Addr) (cxs_10 : Nat) (gxs_10 : List Nat) (Axs_11 : Option Addr) (cxs_11 : Nat) (gxs_11 : List Nat) (Axs_14 : Option Addr) (cxs_14 : Nat) (gxs_14 : List Nat), v = .bool (M.more s_rules (M.lap s_rules s_player from_ s_sown s_path).1) ∧ bs' = [boxO bs [.int .i64 s_rules.pits, .int .i64 s_rules.seeds, .bool s_rules.stores, .bool s_rules.skip, .bool s_rules.relay, .bool s_rules.feed, .bool s_rules.again, .int .i64 s_rules.capture, .int .i64 s_rules.slam, .int .i64 s_player, .slice Axs_10 ((((M.lap s_rules s_player from_ s_sown s_path).1).pits).length) cxs_10, .slice Axs_11 ((((M.lap s_rules s_player from_ s_sown s_path).1).stores).length) cxs_11, .int .i64 (((M.lap s_rules s_player from_ s_sown s_path).1).last), .int .i64 (((M.lap s_rules s_player from_ s_sown s_path).1).laps), .slice Axs_14 (((M.lap s_rules s_player from_ s_sown s_path).2).length) cxs_14] 60, rowO 2 1 (.slice Axs_10 ((((M.lap s_rules s_player from_ s_sown s_path).1).pits).length) cxs_10) ((((M.lap s_rules s_player from_ s_sown s_path).1).pits).length) (ints_ (((M.lap s_rules s_player from_ s_sown s_path).1).pits)) gxs_10, rowO 2 1 (.slice Axs_11 ((((M.lap s_rules s_player from_ s_sown s_path).1).stores).length) cxs_11) ((((M.lap s_rules s_player from_ s_sown s_path).1).stores).length) (ints_ (((M.lap s_rules s_player from_ s_sown s_path).1).stores)) gxs_11, rowO 2 1 (.slice Axs_14 (((M.lap s_rules s_player from_ s_sown s_path).2).length) cxs_14) (((M.lap s_rules s_player from_ s_sown s_path).2).length) (ints_ ((M.lap s_rules s_player from_ s_sown s_path).2)) gxs_14] ∧ (((M.lap s_rules s_player from_ s_sown s_path).1).pits).length ≤ cxs_10 ∧ cxs_10 ≤ 9223372036854775807 ∧ (((M.lap s_rules s_player from_ s_sown s_path).1).stores).length ≤ cxs_11 ∧ cxs_11 ≤ 9223372036854775807 ∧ ((M.lap s_rules s_player from_ s_sown s_path).2).length ≤ cxs_14 ∧ cxs_14 ≤ 9223372036854775807) := by
 have l1 := r5.lp
 have l2 := r5.ls
 have hk0 := r5.pit from_
 refine enterB hb @Try.func43 @Try.ntmps43 rfl rfl ?_
 refine zent ?_
 refine Js.trashE ?_
 refine zn ?_
 refine Js.fact (row_some (i := 1) rfl (by omega)) (fun hf1 => ?_)
 obtain ⟨b1, rfl⟩ := hf1
 refine Js.fact (row_some (i := 2) rfl (by omega)) (fun hf2 => ?_)
 obtain ⟨b2, rfl⟩ := hf2
 refine zS <| Qa rfl <| zN <| Qm rfl <| Qc rfl <| Qf fh rfl <| Qf fh rfl <| Q0 0 rfl rfl rfl <| Qm rfl <| Qq (p_indexAddr el_26 rfl rfl (by omega) (by omega) rfl) <| Qw (q_load1 ty_2.h rfl (Mem.row (i := 1) rfl (ints_getI (i := from_) (by omega)))) <| Qm rfl <| Qa rfl <| Qa rfl ?_
 refine Qa rfl <| zN <| Qm rfl <| Qc rfl <| Qf fh rfl <| Qf fh rfl <| Q0 0 rfl rfl rfl <| Qm rfl <| Qq (p_indexAddr el_26 rfl rfl (by omega) (by omega) rfl) ?_
 refine JL.s (e_storeRow (i := 1) (xs' := ints_ (M.setI s_sown.pits from_ 0)) ty_2.h rfl rfl rfl rfl rfl rfl (ints_lt (i := from_.toNat) (by omega)) (ints_setL (i := from_.toNat) (by omega))) ?_
 rintro _ _ _ ⟨rfl, rfl⟩ _
 refine znl ?_
 refine zJ <| Js.block ?_
 refine zl [0, 1] (fun F U l os u m => ∃ (k place before : Int) (ps ss path : List Int) (A5_0_14 : Option Addr) (c5_0_14 : Nat) (g5_0_14 : List Nat) (G5_4 : List Nat), l = F [(5, .int .i64 k), (6, .int .i64 place), (7, .int .i64 before)] ∧ os = U [some (boxO bs [.int .i64 s_rules.pits, .int .i64 s_rules.seeds, .bool s_rules.stores, .bool s_rules.skip, .bool s_rules.relay, .bool s_rules.feed, .bool s_rules.again, .int .i64 s_rules.capture, .int .i64 s_rules.slam, .int .i64 s_player, .slice (some ⟨b1, 0, none⟩) s_sown.pits.length cs_10, .slice (some ⟨b2, 0, none⟩) s_sown.stores.length cs_11, .int .i64 s_sown.last, .int .i64 s_sown.laps, .slice A5_0_14 path.length c5_0_14] 60), some (rowO 2 1 (.slice (some ⟨b1, 0, none⟩) s_sown.pits.length cs_10) s_sown.pits.length (ints_ ps) gs_10), some (rowO 2 1 (.slice (some ⟨b2, 0, none⟩) s_sown.stores.length cs_11) s_sown.stores.length (ints_ ss) gs_11), some (rowO 2 1 (.slice A5_0_14 path.length c5_0_14) path.length (ints_ path) g5_0_14), some (anyO G5_4)] ∧ (M.sow s_rules s_player from_ k.toNat place ps ss path = M.sow s_rules s_player from_ (M.getI s_sown.pits from_).toNat from_ (M.setI s_sown.pits from_ 0) s_sown.stores s_path) ∧ (M.Good s_rules ps ss k) ∧ (-1 ≤ place) ∧ (place < 2 * s_rules.pits) ∧ ((path.length : Int) + k = s_path.length + (M.getI s_sown.pits from_)) ∧ (k = (M.getI s_sown.pits from_) ∨ (0 ≤ place → M.getI ps place = before + 1)) ∧ (path.length ≤ c5_0_14) ∧ (c5_0_14 ≤ 9223372036854775807) ∧ m = k.toNat) ⟨M.getI s_sown.pits from_, from_, 0, M.setI s_sown.pits from_ 0, s_sown.stores, s_path, _, _, _, _, rfl, rfl, by rfl, by exact r5.takeUp r3 r4, zt, zt, zt, by exact .inl rfl, zu, zu, rfl⟩ ?_
 rintro _ _ u5 _ ⟨k, place, before, ps, ss, path, A5_0_14, c5_0_14, g5_0_14, G5_4, rfl, rfl, hS, hG, p0, p1, hl, hB, f5_6, f5_7, rfl⟩ x5
 refine zn ?_
 have l3 := hG.lp
 have l4 := hG.ls
 have hs0 := hG.store s_player
 have k0 := hG.n0
 refine Js.seq <| zS <| Qm rfl <| Qg rfl rfl <| JL.nil ?_
 refine zi (fun h6 h6' => ?_) fun h6 h6' => ?_
 ·
  refine Js.skip <| Js.seq <| Js.block <| Js.seq ?_
  refine zdr [] ?_
  refine jM 0 rfl rfl ?_
  refine jN 1 rfl rfl ?_
  refine jF 2 fld_60_0 rfl rfl ?_
  refine JH.q 3 rfl (L9 0 rfl rfl) ?_
  refine jM 4 rfl rfl ?_
  refine jN 5 rfl rfl ?_
  refine jF 6 fld_60_1 rfl rfl ?_
  refine jB 7 0 ty_2 rfl rfl rfl rfl ?_
  refine jM 8 rfl rfl ?_
  refine y1 9 ?_
  refine yv rfl rfl (fun w hw => c_impl_Rules_after s_rules s_player place (ok_ hw)) ?_
  refine jA 10 rfl rfl ?_
  refine yd ?_
  refine Js.seq <| zS <| Qm rfl <| Qc rfl <| Qf fh rfl <| Qf fh rfl <| Q0 0 rfl rfl rfl <| Qm rfl <| zg (Gd.t1 rfl rfl rfl) (fun hc => p_move rfl) <| zg (Gd.t1 rfl rfl rfl) (fun hc => p_move rfl) <| zg (Gd.t1 rfl rfl rfl) (fun hc => p_eql (gh hc rfl) (gh hc rfl)) <| Qq (p_pickAnd rfl rfl rfl) <| JL.nil ?_
  refine zi (fun h7 h7' => ?_) fun h7 h7' => ?_
  ·
   have hc : s_rules.skip = true ∧ M.after s_rules s_player place = from_ := by simpa using h7
   have hq : M.nxt s_rules s_player from_ place = M.after s_rules s_player (M.after s_rules s_player place) := by rw [M.nxt_yes hc, hc.2]
   have ha := M.after_bd s_rules r1 r0 r2 p0
   refine zdr [] ?_
   refine jM 0 rfl rfl ?_
   refine jN 1 rfl rfl ?_
   refine jF 2 fld_60_0 rfl rfl ?_
   refine JH.q 3 rfl (L9 0 rfl rfl) ?_
   refine jM 4 rfl rfl ?_
   refine jN 5 rfl rfl ?_
   refine jF 6 fld_60_1 rfl rfl ?_
   refine jB 7 0 ty_2 rfl rfl rfl rfl ?_
   refine jM 8 rfl rfl ?_
   refine y1 9 ?_
   refine yv rfl rfl (fun w hw => c_impl_Rules_after s_rules s_player (M.after s_rules s_player place) (ok_ hw)) ?_
   refine jA 10 rfl rfl ?_
   refine yd ?_
   have hqb := M.nxt_bd s_rules (frm := from_) r1 r0 r2 p0 r3
   rw [hq] at hqb
   refine Js.seq <| zS <| Qm rfl <| Ql rfl rfl <| JL.nil ?_
   refine zi (fun h8 h8' => ?_) fun h8 h8' => ?_
   ·
    have hS2 : M.sow s_rules s_player from_ (k - 1).toNat (M.after s_rules s_player (M.after s_rules s_player place)) ps (M.setI ss s_player (M.getI ss s_player + 1)) (path ++ [(M.after s_rules s_player (M.after s_rules s_player place))]) = M.sow s_rules s_player from_ (M.getI s_sown.pits from_).toNat from_ (M.setI s_sown.pits from_ 0) s_sown.stores s_path := by rw [← hS, show k.toNat = (k - 1).toNat + 1 by omega, M.sow_succ hq, if_pos (by omega)]
    have hG2 := hG.putStore (k := s_player) (by omega) (by omega) (by omega)
    have hB2 : 0 ≤ (M.after s_rules s_player (M.after s_rules s_player place)) → M.getI ps (M.after s_rules s_player (M.after s_rules s_player place)) = before + 1 := fun h => by omega
    refine zdr [13] ?_
    refine jM 0 rfl rfl ?_
    refine jN 1 rfl rfl ?_
    refine jF 2 fld_60_2 rfl rfl ?_
    refine jF 3 fld_58_1 rfl rfl ?_
    refine jB 4 0 ty_26 rfl rfl rfl rfl ?_
    refine jM 5 rfl rfl ?_
    refine jN 6 rfl rfl ?_
    refine jF 7 fld_60_1 rfl rfl ?_
    refine jB 8 0 ty_2 rfl rfl rfl rfl ?_
    refine jI 9 el_26 rfl rfl rfl rfl ?_
    refine JH.q 10 rfl (q_load1 ty_2.h rfl (Mem.row (i := 2) rfl (ints_getI (i := s_player) (by omega)))) ?_
    refine JH.p 11 rfl (p_add rfl rfl (IntWalk.i64_in _ (by omega))) ?_
    refine jI 12 el_26 rfl rfl rfl rfl ?_
    refine y1 13 ?_
    refine JHo.s rfl (e_storeRow (i := 2) (xs' := ints_ (M.setI ss s_player ((M.getI ss s_player) + 1))) ty_2.h rfl rfl rfl rfl rfl rfl (ints_lt (i := s_player.toNat) (by omega)) (ints_setL (i := s_player.toNat) (by omega))) (.inr rfl) ?_
    rintro _ _ _ ⟨rfl, rfl⟩ _
    refine znh ?_
    refine yd ?_
    refine Js.region <| Qm rfl <| Qm rfl <| Qc rfl <| Qf fh rfl <| Q0 0 rfl rfl rfl <| Qm rfl <| zbs fun b11 => ?_
    refine JL.e (e_append (i := 4) (n' := (path ++ [(M.after s_rules s_player (M.after s_rules s_player place))]).length) (vs' := ints_ (path ++ [(M.after s_rules s_player (M.after s_rules s_player place))])) el_26 rfl rfl rfl rfl (src_row (i := 0) und_26 rfl rfl) (by omega) (by omega) ln2_ (by simp [ints_])) ?_
    rintro v13 _ _ ⟨⟨g14, rfl⟩, rfl⟩ _
    refine JL.fact (row_form' (i := 4) rfl) (fun hf15 => ?_)
    obtain ⟨A15, c15, rfl, bl15, bh15⟩ := hf15
    refine znl ?_
    refine Qc rfl <| Qf fh rfl <| zw 1 rfl rfl rfl ?_
    refine JL.nil <| Js.blockEnd <| Js.region <| Qm rfl <| Qs rfl rfl <| Qa rfl <| JL.nil ?_
    refine zf [1, 1, 1, 1] fun GG16 => ?_
    refine zn ?_
    exact zag ⟨k - 1, M.after s_rules s_player (M.after s_rules s_player place), before, ps, M.setI ss s_player ((M.getI ss s_player) + 1), path ++ [(M.after s_rules s_player (M.after s_rules s_player place))], _, _, _, _, rfl, rfl, by exact hS2, by exact hG2, zt, zt, by simp only [List.length_append, List.length_cons, List.length_nil]; omega, by exact .inr hB2, zu, zu, rfl⟩ x5
   have hS2 : M.sow s_rules s_player from_ (k - 1).toNat (M.after s_rules s_player (M.after s_rules s_player place)) (M.setI ps (M.after s_rules s_player (M.after s_rules s_player place)) (M.getI ps (M.after s_rules s_player (M.after s_rules s_player place)) + 1)) ss (path ++ [(M.after s_rules s_player (M.after s_rules s_player place))]) = M.sow s_rules s_player from_ (M.getI s_sown.pits from_).toNat from_ (M.setI s_sown.pits from_ 0) s_sown.stores s_path := by rw [← hS, show k.toNat = (k - 1).toNat + 1 by omega, M.sow_succ hq, if_neg (by omega)]
   have hG2 := hG.putPit (k := (M.after s_rules s_player (M.after s_rules s_player place))) (by omega) (by omega) hqb.2
   have hpq := hG.pit (M.after s_rules s_player (M.after s_rules s_player place))
   have hB2 : 0 ≤ (M.after s_rules s_player (M.after s_rules s_player place)) → M.getI (M.setI ps (M.after s_rules s_player (M.after s_rules s_player place)) (M.getI ps (M.after s_rules s_player (M.after s_rules s_player place)) + 1)) (M.after s_rules s_player (M.after s_rules s_player place)) = M.getI ps (M.after s_rules s_player (M.after s_rules s_player place)) + 1 := fun h => M.getI_setI_same h (by omega) _
   refine zS <| Qm rfl <| Qc rfl <| Qf fh rfl <| Qf fh rfl <| Q0 0 rfl rfl rfl <| Qm rfl <| Qq (p_indexAddr el_26 rfl rfl (by omega) (by omega) rfl) <| Qw (q_load1 ty_2.h rfl (Mem.row (i := 1) rfl (ints_getI (i := M.after s_rules s_player (M.after s_rules s_player place)) (by omega)))) <| Qa rfl <| zG <| Qm rfl <| Qc rfl <| Qf fh rfl ?_
   refine Qf fh rfl <| Q0 0 rfl rfl rfl <| Qm rfl <| Qq (p_indexAddr el_26 rfl rfl (by omega) (by omega) rfl) <| Qw (q_load1 ty_2.h rfl (Mem.row (i := 1) rfl (ints_getI (i := M.after s_rules s_player (M.after s_rules s_player place)) (by omega)))) <| Qp rfl rfl <| Qq (p_indexAddr el_26 rfl rfl (by omega) (by omega) rfl) ?_
   refine JL.s (e_storeRow (i := 1) (xs' := ints_ (M.setI ps (M.after s_rules s_player (M.after s_rules s_player place)) ((M.getI ps (M.after s_rules s_player (M.after s_rules s_player place))) + 1))) ty_2.h rfl rfl rfl rfl rfl rfl (ints_lt (i := (M.after s_rules s_player (M.after s_rules s_player place)).toNat) (by omega)) (ints_setL (i := (M.after s_rules s_player (M.after s_rules s_player place)).toNat) (by omega))) ?_
   rintro _ _ _ ⟨rfl, rfl⟩ _
   refine znl ?_
   refine zG <| Qm rfl <| Qm rfl <| Qc rfl <| Qf fh rfl <| Q0 0 rfl rfl rfl <| Qm rfl <| zbs fun b20 => ?_
   refine JL.e (e_append (i := 4) (n' := (path ++ [(M.after s_rules s_player (M.after s_rules s_player place))]).length) (vs' := ints_ (path ++ [(M.after s_rules s_player (M.after s_rules s_player place))])) el_26 rfl rfl rfl rfl (src_row (i := 0) und_26 rfl rfl) (by omega) (by omega) ln2_ (by simp [ints_])) ?_
   rintro v22 _ _ ⟨⟨g23, rfl⟩, rfl⟩ _
   refine JL.fact (row_form' (i := 4) rfl) (fun hf24 => ?_)
   obtain ⟨A24, c24, rfl, bl24, bh24⟩ := hf24
   refine znl ?_
   refine Qc rfl <| Qf fh rfl <| zw 1 rfl rfl rfl ?_
   refine JL.nil <| Js.blockEnd <| Js.region <| Qm rfl <| Qs rfl rfl <| Qa rfl <| JL.nil ?_
   refine zf [1, 1, 1, 1] fun GG25 => ?_
   refine zn ?_
   exact zag ⟨k - 1, M.after s_rules s_player (M.after s_rules s_player place), M.getI ps (M.after s_rules s_player (M.after s_rules s_player place)), M.setI ps (M.after s_rules s_player (M.after s_rules s_player place)) ((M.getI ps (M.after s_rules s_player (M.after s_rules s_player place))) + 1), ss, path ++ [(M.after s_rules s_player (M.after s_rules s_player place))], _, _, _, _, rfl, rfl, by exact hS2, by exact hG2, zt, zt, by simp only [List.length_append, List.length_cons, List.length_nil]; omega, by exact .inr hB2, zu, zu, rfl⟩ x5
  have hc : ¬(s_rules.skip = true ∧ M.after s_rules s_player place = from_) := by simpa using h7
  have hq := M.nxt_no hc
  have hqb := M.nxt_bd s_rules (frm := from_) r1 r0 r2 p0 r3
  rw [hq] at hqb
  refine Js.skip <| Js.seq <| zS <| Qm rfl <| Ql rfl rfl <| JL.nil ?_
  refine zi (fun h26 h26' => ?_) fun h26 h26' => ?_
  ·
   have hS2 : M.sow s_rules s_player from_ (k - 1).toNat (M.after s_rules s_player place) ps (M.setI ss s_player (M.getI ss s_player + 1)) (path ++ [(M.after s_rules s_player place)]) = M.sow s_rules s_player from_ (M.getI s_sown.pits from_).toNat from_ (M.setI s_sown.pits from_ 0) s_sown.stores s_path := by rw [← hS, show k.toNat = (k - 1).toNat + 1 by omega, M.sow_succ hq, if_pos (by omega)]
   have hG2 := hG.putStore (k := s_player) (by omega) (by omega) (by omega)
   have hB2 : 0 ≤ (M.after s_rules s_player place) → M.getI ps (M.after s_rules s_player place) = before + 1 := fun h => by omega
   refine zdr [13] ?_
   refine jM 0 rfl rfl ?_
   refine jN 1 rfl rfl ?_
   refine jF 2 fld_60_2 rfl rfl ?_
   refine jF 3 fld_58_1 rfl rfl ?_
   refine jB 4 0 ty_26 rfl rfl rfl rfl ?_
   refine jM 5 rfl rfl ?_
   refine jN 6 rfl rfl ?_
   refine jF 7 fld_60_1 rfl rfl ?_
   refine jB 8 0 ty_2 rfl rfl rfl rfl ?_
   refine jI 9 el_26 rfl rfl rfl rfl ?_
   refine JH.q 10 rfl (q_load1 ty_2.h rfl (Mem.row (i := 2) rfl (ints_getI (i := s_player) (by omega)))) ?_
   refine JH.p 11 rfl (p_add rfl rfl (IntWalk.i64_in _ (by omega))) ?_
   refine jI 12 el_26 rfl rfl rfl rfl ?_
   refine y1 13 ?_
   refine JHo.s rfl (e_storeRow (i := 2) (xs' := ints_ (M.setI ss s_player ((M.getI ss s_player) + 1))) ty_2.h rfl rfl rfl rfl rfl rfl (ints_lt (i := s_player.toNat) (by omega)) (ints_setL (i := s_player.toNat) (by omega))) (.inr rfl) ?_
   rintro _ _ _ ⟨rfl, rfl⟩ _
   refine znh ?_
   refine yd ?_
   refine Js.region <| Qm rfl <| Qm rfl <| Qc rfl <| Qf fh rfl <| Q0 0 rfl rfl rfl <| Qm rfl <| zbs fun b29 => ?_
   refine JL.e (e_append (i := 4) (n' := (path ++ [(M.after s_rules s_player place)]).length) (vs' := ints_ (path ++ [(M.after s_rules s_player place)])) el_26 rfl rfl rfl rfl (src_row (i := 0) und_26 rfl rfl) (by omega) (by omega) ln2_ (by simp [ints_])) ?_
   rintro v31 _ _ ⟨⟨g32, rfl⟩, rfl⟩ _
   refine JL.fact (row_form' (i := 4) rfl) (fun hf33 => ?_)
   obtain ⟨A33, c33, rfl, bl33, bh33⟩ := hf33
   refine znl ?_
   refine Qc rfl <| Qf fh rfl <| zw 1 rfl rfl rfl ?_
   refine JL.nil <| Js.blockEnd <| Js.region <| Qm rfl <| Qs rfl rfl <| Qa rfl <| JL.nil ?_
   refine zf [1, 1, 1, 1] fun GG34 => ?_
   refine zn ?_
   exact zag ⟨k - 1, M.after s_rules s_player place, before, ps, M.setI ss s_player ((M.getI ss s_player) + 1), path ++ [(M.after s_rules s_player place)], _, _, _, _, rfl, rfl, by exact hS2, by exact hG2, zt, zt, by simp only [List.length_append, List.length_cons, List.length_nil]; omega, by exact .inr hB2, zu, zu, rfl⟩ x5
  have hS2 : M.sow s_rules s_player from_ (k - 1).toNat (M.after s_rules s_player place) (M.setI ps (M.after s_rules s_player place) (M.getI ps (M.after s_rules s_player place) + 1)) ss (path ++ [(M.after s_rules s_player place)]) = M.sow s_rules s_player from_ (M.getI s_sown.pits from_).toNat from_ (M.setI s_sown.pits from_ 0) s_sown.stores s_path := by rw [← hS, show k.toNat = (k - 1).toNat + 1 by omega, M.sow_succ hq, if_neg (by omega)]
  have hG2 := hG.putPit (k := (M.after s_rules s_player place)) (by omega) (by omega) hqb.2
  have hpq := hG.pit (M.after s_rules s_player place)
  have hB2 : 0 ≤ (M.after s_rules s_player place) → M.getI (M.setI ps (M.after s_rules s_player place) (M.getI ps (M.after s_rules s_player place) + 1)) (M.after s_rules s_player place) = M.getI ps (M.after s_rules s_player place) + 1 := fun h => M.getI_setI_same h (by omega) _
  refine zS <| Qm rfl <| Qc rfl <| Qf fh rfl <| Qf fh rfl <| Q0 0 rfl rfl rfl <| Qm rfl <| Qq (p_indexAddr el_26 rfl rfl (by omega) (by omega) rfl) <| Qw (q_load1 ty_2.h rfl (Mem.row (i := 1) rfl (ints_getI (i := M.after s_rules s_player place) (by omega)))) <| Qa rfl <| zG <| Qm rfl <| Qc rfl <| Qf fh rfl ?_
  refine Qf fh rfl <| Q0 0 rfl rfl rfl <| Qm rfl <| Qq (p_indexAddr el_26 rfl rfl (by omega) (by omega) rfl) <| Qw (q_load1 ty_2.h rfl (Mem.row (i := 1) rfl (ints_getI (i := M.after s_rules s_player place) (by omega)))) <| Qp rfl rfl <| Qq (p_indexAddr el_26 rfl rfl (by omega) (by omega) rfl) ?_
  refine JL.s (e_storeRow (i := 1) (xs' := ints_ (M.setI ps (M.after s_rules s_player place) ((M.getI ps (M.after s_rules s_player place)) + 1))) ty_2.h rfl rfl rfl rfl rfl rfl (ints_lt (i := (M.after s_rules s_player place).toNat) (by omega)) (ints_setL (i := (M.after s_rules s_player place).toNat) (by omega))) ?_
  rintro _ _ _ ⟨rfl, rfl⟩ _
  refine znl ?_
  refine zG <| Qm rfl <| Qm rfl <| Qc rfl <| Qf fh rfl <| Q0 0 rfl rfl rfl <| Qm rfl <| zbs fun b38 => ?_
  refine JL.e (e_append (i := 4) (n' := (path ++ [(M.after s_rules s_player place)]).length) (vs' := ints_ (path ++ [(M.after s_rules s_player place)])) el_26 rfl rfl rfl rfl (src_row (i := 0) und_26 rfl rfl) (by omega) (by omega) ln2_ (by simp [ints_])) ?_
  rintro v40 _ _ ⟨⟨g41, rfl⟩, rfl⟩ _
  refine JL.fact (row_form' (i := 4) rfl) (fun hf42 => ?_)
  obtain ⟨A42, c42, rfl, bl42, bh42⟩ := hf42
  refine znl ?_
  refine Qc rfl <| Qf fh rfl <| zw 1 rfl rfl rfl ?_
  refine JL.nil <| Js.blockEnd <| Js.region <| Qm rfl <| Qs rfl rfl <| Qa rfl <| JL.nil ?_
  refine zf [1, 1, 1, 1] fun GG43 => ?_
  refine zn ?_
  exact zag ⟨k - 1, M.after s_rules s_player place, M.getI ps (M.after s_rules s_player place), M.setI ps (M.after s_rules s_player place) ((M.getI ps (M.after s_rules s_player place)) + 1), ss, path ++ [(M.after s_rules s_player place)], _, _, _, _, rfl, rfl, by exact hS2, by exact hG2, zt, zt, by simp only [List.length_append, List.length_cons, List.length_nil]; omega, by exact .inr hB2, zu, zu, rfl⟩ x5
 have hL : M.lap s_rules s_player from_ s_sown s_path = (⟨ps, ss, place, s_sown.laps + 1⟩, path) := by unfold M.lap; rw [← hS]; simp [show k.toNat = 0 by omega, M.sow]
 have hB3 := hB.resolve_left (by omega)
 refine zx ?_
 refine zS <| Qm rfl <| Qm rfl <| Qc rfl <| Qf fh rfl <| Qf fh rfl <| zw 0 rfl rfl rfl ?_
 refine zN <| Qm rfl <| Qc rfl <| Qf fh rfl <| Qf fh rfl <| Q0 0 rfl rfl rfl <| Qp rfl rfl <| Qc rfl <| Qf fh rfl <| Qf fh rfl <| zw 0 rfl rfl rfl ?_
 refine zN <| Qm rfl <| Qc rfl <| Qf fh rfl <| Qf fh rfl <| Q0 0 rfl rfl rfl <| Qm rfl <| zg (Gd.t1 rfl rfl rfl) (fun hc => p_move rfl) <| zg (Gd.t1 rfl rfl rfl) (fun hc => p_geq (gh hc rfl) rfl) <| Qq (p_pickAnd rfl rfl rfl) <| Qm rfl <| zg (Gd.t1 rfl rfl rfl) (fun hc => p_move rfl) <| zg (Gd.t1 rfl rfl rfl) (fun hc => p_gtr (gh hc rfl) rfl) <| Qq (p_pickAnd rfl rfl rfl) ?_
 refine Qa rfl <| JL.nil ?_
 refine zrb [0, 0, 0, 0] hb x5 ?_
 have e5 : 0 ≤ place → (1 < M.getI ps place ↔ 0 < before) := fun h => by rw [hB3 h]; omega
 clear hS
 have hE : (.bool ((s_rules.relay && (decide (0 ≤ place))) && (decide (0 < before))) : Value) = .bool (M.more s_rules (M.lap s_rules s_player from_ s_sown s_path).1) := by rw [hL]; by_cases hp : 0 ≤ place <;> simp [M.more, hp, e5]
 have hN11 : (((M.lap s_rules s_player from_ s_sown s_path).1).pits).length = s_sown.pits.length := by first | (rw [hL]; done) | (rw [hL]; show ps.length = _; omega) | (rw [hL]; show ss.length = _; omega)
 have hE11 : ((M.lap s_rules s_player from_ s_sown s_path).1).pits = ps := by rw [hL]
 have hN12 : (((M.lap s_rules s_player from_ s_sown s_path).1).stores).length = s_sown.stores.length := by first | (rw [hL]; done) | (rw [hL]; show ps.length = _; omega) | (rw [hL]; show ss.length = _; omega)
 have hE12 : ((M.lap s_rules s_player from_ s_sown s_path).1).stores = ss := by rw [hL]
 have hE13 : ((M.lap s_rules s_player from_ s_sown s_path).1).last = place := by rw [hL]
 have hE14 : ((M.lap s_rules s_player from_ s_sown s_path).1).laps = (s_sown.laps + 1) := by rw [hL]
 have hN15 : ((M.lap s_rules s_player from_ s_sown s_path).2).length = path.length := by first | (rw [hL]; done) | (rw [hL]; show ps.length = _; omega) | (rw [hL]; show ss.length = _; omega)
 have hE15 : (M.lap s_rules s_player from_ s_sown s_path).2 = path := by rw [hL]
 refine ⟨(some ⟨b1, 0, none⟩), cs_10, gs_10, (some ⟨b2, 0, none⟩), cs_11, gs_11, A5_0_14, c5_0_14, g5_0_14, hE, ?_, ?_, ?_, ?_, ?_, ?_, ?_⟩
 · rw [hN11, hE11, hN12, hE12, hE13, hE14, hN15, hE15]
 all_goals (first | (rw [hN11, hE11, hN12, hE12, hE13, hE14, hN15, hE15]; omega) | omega | (simp only [*]; omega) | (simp; done))
theorem c_impl_sowing_move (s_rules : M.Rul) (s_player : Int) (s_sown : M.Sw) (s_path : List Int) {As_10 : Option Addr} {cs_10 : Nat} {gs_10 : List Nat} {As_11 : Option Addr} {cs_11 : Nat} {gs_11 : List Nat} {As_14 : Option Addr} {cs_14 : Nat} {gs_14 : List Nat} (from_ : Int) {bs : Nat} {w : World} (hb : Bw w [boxO bs [.int .i64 s_rules.pits, .int .i64 s_rules.seeds, .bool s_rules.stores, .bool s_rules.skip, .bool s_rules.relay, .bool s_rules.feed, .bool s_rules.again, .int .i64 s_rules.capture, .int .i64 s_rules.slam, .int .i64 s_player, .slice As_10 s_sown.pits.length cs_10, .slice As_11 s_sown.stores.length cs_11, .int .i64 s_sown.last, .int .i64 s_sown.laps, .slice As_14 s_path.length cs_14] 60, rowO 2 1 (.slice As_10 s_sown.pits.length cs_10) s_sown.pits.length (ints_ s_sown.pits) gs_10, rowO 2 1 (.slice As_11 s_sown.stores.length cs_11) s_sown.stores.length (ints_ s_sown.stores) gs_11, rowO 2 1 (.slice As_14 s_path.length cs_14) s_path.length (ints_ s_path) gs_14]) (bd0 : s_sown.pits.length ≤ cs_10 := by exact om_) (bd1 : cs_10 ≤ 9223372036854775807 := by exact om_) (bd2 : s_sown.stores.length ≤ cs_11 := by exact om_) (bd3 : cs_11 ≤ 9223372036854775807 := by exact om_) (bd4 : s_path.length ≤ cs_14 := by exact om_) (bd5 : cs_14 ≤ 9223372036854775807 := by exact om_) (r0 : 2 ≤ s_rules.pits := by exact om_) (r1 : s_rules.pits ≤ 8 := by exact om_) (r2 : s_player = 0 ∨ s_player = 1 := by exact om_) (r3 : 0 ≤ from_ := by exact om_) (r4 : from_ < 2 * s_rules.pits := by exact om_) (r5 : M.Good s_rules s_sown.pits s_sown.stores 0 := by exact om_) (r6 : 0 < (M.getI s_sown.pits from_) := by exact om_) (r7 : s_sown.laps = 0 := by exact om_) (r8 : s_path.length = 0 := by exact om_) : RetB Try.prog 53 [.pointer (some ⟨bs, 0, none⟩), .int .i64 from_] w [boxO bs [.int .i64 s_rules.pits, .int .i64 s_rules.seeds, .bool s_rules.stores, .bool s_rules.skip, .bool s_rules.relay, .bool s_rules.feed, .bool s_rules.again, .int .i64 s_rules.capture, .int .i64 s_rules.slam, .int .i64 s_player, .slice As_10 s_sown.pits.length cs_10, .slice As_11 s_sown.stores.length cs_11, .int .i64 s_sown.last, .int .i64 s_sown.laps, .slice As_14 s_path.length cs_14] 60, rowO 2 1 (.slice As_10 s_sown.pits.length cs_10) s_sown.pits.length (ints_ s_sown.pits) gs_10, rowO 2 1 (.slice As_11 s_sown.stores.length cs_11) s_sown.stores.length (ints_ s_sown.stores) gs_11, rowO 2 1 (.slice As_14 s_path.length cs_14) s_path.length (ints_ s_path) gs_14] (fun v bs' => ∃ (Axs_10 : Option Addr) (cxs_10 : Nat) (gxs_10 : List Nat) (Axs_11 : Option Addr) (cxs_11 : Nat) (gxs_11 : List Nat) (Axs_14 : Option Addr) (cxs_14 : Nat) (gxs_14 : List Nat), v = .bool ((M.mvT s_rules s_player 100 from_ s_sown s_path).1) ∧ bs' = [boxO bs [.int .i64 s_rules.pits, .int .i64 s_rules.seeds, .bool s_rules.stores, .bool s_rules.skip, .bool s_rules.relay, .bool s_rules.feed, .bool s_rules.again, .int .i64 s_rules.capture, .int .i64 s_rules.slam, .int .i64 s_player, .slice Axs_10 ((((M.mvT s_rules s_player 100 from_ s_sown s_path).2.1).pits).length) cxs_10, .slice Axs_11 ((((M.mvT s_rules s_player 100 from_ s_sown s_path).2.1).stores).length) cxs_11, .int .i64 (((M.mvT s_rules s_player 100 from_ s_sown s_path).2.1).last), .int .i64 (((M.mvT s_rules s_player 100 from_ s_sown s_path).2.1).laps), .slice Axs_14 (((M.mvT s_rules s_player 100 from_ s_sown s_path).2.2).length) cxs_14] 60, rowO 2 1 (.slice Axs_10 ((((M.mvT s_rules s_player 100 from_ s_sown s_path).2.1).pits).length) cxs_10) ((((M.mvT s_rules s_player 100 from_ s_sown s_path).2.1).pits).length) (ints_ (((M.mvT s_rules s_player 100 from_ s_sown s_path).2.1).pits)) gxs_10, rowO 2 1 (.slice Axs_11 ((((M.mvT s_rules s_player 100 from_ s_sown s_path).2.1).stores).length) cxs_11) ((((M.mvT s_rules s_player 100 from_ s_sown s_path).2.1).stores).length) (ints_ (((M.mvT s_rules s_player 100 from_ s_sown s_path).2.1).stores)) gxs_11, rowO 2 1 (.slice Axs_14 (((M.mvT s_rules s_player 100 from_ s_sown s_path).2.2).length) cxs_14) (((M.mvT s_rules s_player 100 from_ s_sown s_path).2.2).length) (ints_ ((M.mvT s_rules s_player 100 from_ s_sown s_path).2.2)) gxs_14] ∧ (((M.mvT s_rules s_player 100 from_ s_sown s_path).2.1).pits).length ≤ cxs_10 ∧ cxs_10 ≤ 9223372036854775807 ∧ (((M.mvT s_rules s_player 100 from_ s_sown s_path).2.1).stores).length ≤ cxs_11 ∧ cxs_11 ≤ 9223372036854775807 ∧ ((M.mvT s_rules s_player 100 from_ s_sown s_path).2.2).length ≤ cxs_14 ∧ cxs_14 ≤ 9223372036854775807) := by
 refine enterB hb @Try.func53 @Try.ntmps53 rfl rfl ?_
 refine zent ?_
 refine Js.trashE ?_
 refine zn ?_
 refine zS <| Qa rfl <| zJ <| Js.block ?_
 refine zl [0] (fun F U l os u m => ∃ (frm : Int) (sw : M.Sw) (path : List Int) (A1_0_10 : Option Addr) (c1_0_10 : Nat) (g1_0_10 : List Nat) (A1_0_11 : Option Addr) (c1_0_11 : Nat) (g1_0_11 : List Nat) (A1_0_14 : Option Addr) (c1_0_14 : Nat) (g1_0_14 : List Nat) (G1_4 : List Nat), l = F [(1, .int .i64 frm)] ∧ os = U [some (boxO bs [.int .i64 s_rules.pits, .int .i64 s_rules.seeds, .bool s_rules.stores, .bool s_rules.skip, .bool s_rules.relay, .bool s_rules.feed, .bool s_rules.again, .int .i64 s_rules.capture, .int .i64 s_rules.slam, .int .i64 s_player, .slice A1_0_10 sw.pits.length c1_0_10, .slice A1_0_11 sw.stores.length c1_0_11, .int .i64 sw.last, .int .i64 sw.laps, .slice A1_0_14 path.length c1_0_14] 60), some (rowO 2 1 (.slice A1_0_10 sw.pits.length c1_0_10) sw.pits.length (ints_ sw.pits) g1_0_10), some (rowO 2 1 (.slice A1_0_11 sw.stores.length c1_0_11) sw.stores.length (ints_ sw.stores) g1_0_11), some (rowO 2 1 (.slice A1_0_14 path.length c1_0_14) path.length (ints_ path) g1_0_14), some (anyO G1_4)] ∧ (M.mvT s_rules s_player (100 - sw.laps).toNat frm sw path = M.mvT s_rules s_player 100 from_ s_sown s_path) ∧ (M.Good s_rules sw.pits sw.stores 0) ∧ (0 ≤ frm) ∧ (frm < 2 * s_rules.pits) ∧ (0 < M.getI sw.pits frm) ∧ (0 ≤ sw.laps) ∧ (sw.laps ≤ 99) ∧ (path.length ≤ 96 * sw.laps) ∧ (sw.pits.length ≤ c1_0_10) ∧ (c1_0_10 ≤ 9223372036854775807) ∧ (sw.stores.length ≤ c1_0_11) ∧ (c1_0_11 ≤ 9223372036854775807) ∧ (path.length ≤ c1_0_14) ∧ (c1_0_14 ≤ 9223372036854775807) ∧ m = (100 - sw.laps).toNat) ⟨from_, s_sown, s_path, _, _, _, _, _, _, _, _, _, _, rfl, rfl, by rw [r7]; rfl, by exact r5, zt, zt, by exact r6, zt, zt, zt, zu, zu, zu, zu, zu, zu, rfl⟩ ?_
 rintro _ _ u1 _ ⟨frm, sw, path, A1_0_10, c1_0_10, g1_0_10, A1_0_11, c1_0_11, g1_0_11, A1_0_14, c1_0_14, g1_0_14, G1_4, rfl, rfl, hS, hG, f0, f1, hg, la0, la1, hl, f1_8, f1_9, f1_10, f1_11, f1_12, f1_13, rfl⟩ x1
 refine zn ?_
 obtain ⟨ha, hb1, hc, hd, he, hf⟩ := M.lap_keeps s_rules path r1 r0 r2 f0 f1 hG
 refine Js.seq <| zS <| Qm rfl <| Qm rfl <| zBB 4 sp_ rfl (fun w hb _ hw => c_impl_sowing_lap s_rules s_player sw path frm hb) ?_
 rintro _ _ G2 ⟨A2s_10, c2s_10, g2s_10, A2s_11, c2s_11, g2s_11, A2s_14, c2s_14, g2s_14, rfl, rfl, bl2_0, bl2_1, bl2_2, bl2_3, bl2_4, bl2_5⟩
 refine znl ?_
 refine JL.nil ?_
 refine zi (fun h3 h3' => ?_) fun h3 h3' => ?_
 ·
  have hm2 := M.more_get h3
  refine Js.skip <| Js.block <| Js.seq <| zS <| Qm rfl <| Qc rfl <| Qf fh rfl <| Qf fh rfl <| Q0 0 rfl rfl rfl <| Qe rfl rfl <| JL.nil ?_
  refine zi (fun h4 h4' => ?_) fun h4 h4' => ?_
  ·
   have hL : M.mvT s_rules s_player 100 from_ s_sown s_path = (false, (M.lap s_rules s_player frm sw path).1, (M.lap s_rules s_player frm sw path).2) := by rw [← hS, show (100 - sw.laps).toNat = 0 + 1 by omega, M.mvT_yes (by assumption)]; rfl
   refine zS <| Qa rfl <| JL.nil ?_
   refine zrb [0, 0, 0, 0] hb x1 ?_
   have hE : (.bool false : Value) = .bool ((M.mvT s_rules s_player 100 from_ s_sown s_path).1) := by rw [hL]
   have hN11 : (((M.mvT s_rules s_player 100 from_ s_sown s_path).2.1).pits).length = (((M.lap s_rules s_player frm sw path).1).pits).length := by rw [hL]
   have hE11 : ((M.mvT s_rules s_player 100 from_ s_sown s_path).2.1).pits = (((M.lap s_rules s_player frm sw path).1).pits) := by rw [hL]
   have hN12 : (((M.mvT s_rules s_player 100 from_ s_sown s_path).2.1).stores).length = (((M.lap s_rules s_player frm sw path).1).stores).length := by rw [hL]
   have hE12 : ((M.mvT s_rules s_player 100 from_ s_sown s_path).2.1).stores = (((M.lap s_rules s_player frm sw path).1).stores) := by rw [hL]
   have hE13 : ((M.mvT s_rules s_player 100 from_ s_sown s_path).2.1).last = (((M.lap s_rules s_player frm sw path).1).last) := by rw [hL]
   have hE14 : ((M.mvT s_rules s_player 100 from_ s_sown s_path).2.1).laps = (((M.lap s_rules s_player frm sw path).1).laps) := by rw [hL]
   have hN15 : ((M.mvT s_rules s_player 100 from_ s_sown s_path).2.2).length = ((M.lap s_rules s_player frm sw path).2).length := by rw [hL]
   have hE15 : (M.mvT s_rules s_player 100 from_ s_sown s_path).2.2 = ((M.lap s_rules s_player frm sw path).2) := by rw [hL]
   refine ⟨A2s_10, c2s_10, g2s_10, A2s_11, c2s_11, g2s_11, A2s_14, c2s_14, g2s_14, hE, ?_, ?_, ?_, ?_, ?_, ?_, ?_⟩
   · rw [hN11, hE11, hN12, hE12, hE13, hE14, hN15, hE15]
   all_goals (first | (rw [hN11, hE11, hN12, hE12, hE13, hE14, hN15, hE15]; omega) | omega | (simp only [*]; omega) | (simp; done))
  have hS2 : M.mvT s_rules s_player (100 - (M.lap s_rules s_player frm sw path).1.laps).toNat (M.lap s_rules s_player frm sw path).1.last (M.lap s_rules s_player frm sw path).1 (M.lap s_rules s_player frm sw path).2 = M.mvT s_rules s_player 100 from_ s_sown s_path := by rw [← hS, hf, show (100 - sw.laps).toNat = (100 - (sw.laps + 1)).toNat + 1 by omega, M.mvT_yes (by assumption)]
  refine Js.skip <| Js.region <| Qm rfl <| Qc rfl <| Qf fh rfl <| Qf fh rfl <| Q0 0 rfl rfl rfl <| Qa rfl <| JL.nil <| Js.blockEnd ?_
  refine zf [0, 0, 0, 0] fun GG5 => ?_
  refine zn ?_
  exact zag ⟨((M.lap s_rules s_player frm sw path).1).last, (M.lap s_rules s_player frm sw path).1, (M.lap s_rules s_player frm sw path).2, _, _, _, _, _, _, _, _, _, _, rfl, rfl, by exact hS2, by exact ha, by exact hm2.1, by exact hc, by omega, by omega, by omega, by omega, zu, zu, zu, zu, zu, zu, rfl⟩ x1
 have hL : M.mvT s_rules s_player 100 from_ s_sown s_path = (true, (M.lap s_rules s_player frm sw path).1, (M.lap s_rules s_player frm sw path).2) := by rw [← hS, show (100 - sw.laps).toNat = (99 - sw.laps).toNat + 1 by omega, M.mvT_no h3]
 refine zx ?_
 refine zS <| Qa rfl <| JL.nil ?_
 refine zrb [0, 0, 0, 0] hb x1 ?_
 have hE : (.bool true : Value) = .bool ((M.mvT s_rules s_player 100 from_ s_sown s_path).1) := by rw [hL]
 have hN11 : (((M.mvT s_rules s_player 100 from_ s_sown s_path).2.1).pits).length = (((M.lap s_rules s_player frm sw path).1).pits).length := by rw [hL]
 have hE11 : ((M.mvT s_rules s_player 100 from_ s_sown s_path).2.1).pits = (((M.lap s_rules s_player frm sw path).1).pits) := by rw [hL]
 have hN12 : (((M.mvT s_rules s_player 100 from_ s_sown s_path).2.1).stores).length = (((M.lap s_rules s_player frm sw path).1).stores).length := by rw [hL]
 have hE12 : ((M.mvT s_rules s_player 100 from_ s_sown s_path).2.1).stores = (((M.lap s_rules s_player frm sw path).1).stores) := by rw [hL]
 have hE13 : ((M.mvT s_rules s_player 100 from_ s_sown s_path).2.1).last = (((M.lap s_rules s_player frm sw path).1).last) := by rw [hL]
 have hE14 : ((M.mvT s_rules s_player 100 from_ s_sown s_path).2.1).laps = (((M.lap s_rules s_player frm sw path).1).laps) := by rw [hL]
 have hN15 : ((M.mvT s_rules s_player 100 from_ s_sown s_path).2.2).length = ((M.lap s_rules s_player frm sw path).2).length := by rw [hL]
 have hE15 : (M.mvT s_rules s_player 100 from_ s_sown s_path).2.2 = ((M.lap s_rules s_player frm sw path).2) := by rw [hL]
 refine ⟨A2s_10, c2s_10, g2s_10, A2s_11, c2s_11, g2s_11, A2s_14, c2s_14, g2s_14, hE, ?_, ?_, ?_, ?_, ?_, ?_, ?_⟩
 · rw [hN11, hE11, hN12, hE12, hE13, hE14, hN15, hE15]
 all_goals (first | (rw [hN11, hE11, hN12, hE12, hE13, hE14, hN15, hE15]; omega) | omega | (simp only [*]; omega) | (simp; done))
theorem c_impl_sowMove (r : M.Rul) {v_r : Value} (p : M.Pos) {v_p : Value} (move : Int) {w : World} (h_r : (Ty.agg (cRules r)).ok w v_r) (h_p : (Ty.agg (cPosition p)).ok w v_p) (r0 : p.pits.length ≤ 4194304 := by exact om_) (r1 : p.stores.length ≤ 4194304 := by exact om_) : Ret Try.prog 24 [v_r, v_p, .int .i64 move] w (Ty.tup [Ty.opt (decide ((M.sowMove r p move).1 = 0)) (Ty.box 60 (csowing (M.Sow.mk r p.player (M.sowMove r p move).2.1 (M.sowMove r p move).2.2))), Ty.int ((M.sowMove r p move).1)]) := by
 revert v_r; apply opn
 revert v_p; apply opn
 intro A1 c1 h1 bl1 bh1 A2 c2 h2 bl2 bh2
 refine enter @Try.func24 @Try.ntmps24 rfl rfl ?_
 refine zent ?_
 refine zS <| zb rfl fun b3 => zb rfl fun b4 => Qa rfl <| Qa rfl <| zJ <| zS <| Q9 1 rfl rfl ?_
 refine Q9 0 rfl rfl ?_
 refine Qm rfl <| zv rfl (fun w hw => c_impl_sowCode r p move (ok_ hw) (ok_ hw)) <| Qa rfl <| zN <| Qm rfl <| Qd rfl rfl <| JL.nil ?_
 refine zi (fun h5 h5' => ?_) fun h5 h5' => ?_
 ·
  have hn : M.sowCode r p move ≠ 0 := by simpa using h5
  have hM := M.sowMove_code hn
  have hM0 : ¬ M.sowCode r p move = 0 := hn
  have hq0 : (decide ((M.sowMove r p move).1 = 0)) = false := by rw [hM]; simpa using hM0
  have hq1 : (M.sowCode r p move) = (M.sowMove r p move).1 := by rw [hM]
  refine zS <| Qm rfl <| Qa rfl <| Qa rfl <| JL.nil ?_
  exact zro (Up.refl _ _)
 have hc0 : M.sowCode r p move = 0 := by simpa using h5
 obtain ⟨hok, m0, m1, hg0⟩ := M.sowCode_ok hc0
 obtain ⟨g1, g2, g3, g4, g5, g6, g7⟩ := M.okP_bd hok
 have hq := M.mul_bd g7 g1 g2
 have hG := M.Good.of_ok hok
 refine Js.skip <| zS <| Q9 1 rfl rfl ?_
 refine Q9 0 rfl rfl ?_
 refine zcs rfl (fun w hw => c_impl_newSowing r p (ok_ hw) (ok_ hw)) ?_
 intro b6 A7 c7 bl7 bh7 A8 c8 bl8 bh8 A9 c9 bl9 bh9
 refine Qa rfl <| zJ <| zS <| Qm rfl <| Q9 5 rfl rfl ?_
 refine Qf fh rfl <| Q0 4 rfl rfl rfl <| Qm rfl <| zv rfl (fun w hw => c_impl_Rules_pitOf r p.player move (ok_ hw)) ?_
 refine zhl [0, 2, 1, 0] ?_
 refine zB 4 sp_ rfl (fun w hb hw => c_impl_sowing_move r p.player (M.Sw.mk p.pits p.stores 0 0) [] (p.player * r.pits + move) hb (r5 := hG) (r6 := hg0) (r7 := rfl) (r8 := rfl)) ?_
 rintro _ _ G10 ⟨A10s_10, c10s_10, g10s_10, A10s_11, c10s_11, g10s_11, A10s_14, c10s_14, g10s_14, rfl, rfl, bl10_0, bl10_1, bl10_2, bl10_3, bl10_4, bl10_5⟩
 refine znl ?_
 refine Qt rfl <| JL.nil ?_
 refine zi (fun h11 h11' => ?_) fun h11 h11' => ?_
 ·
  have hM := M.sowMove_end hc0 (by simpa using h11)
  have hq0 : (decide ((M.sowMove r p move).1 = 0)) = false := by rw [hM]; rfl
  have hq1 : 10 = (M.sowMove r p move).1 := by rw [hM]
  refine zS <| Qa rfl <| Qa rfl <| JL.nil ?_
  exact zro (Up.refl _ _)
 have hM := M.sowMove_yes hc0 (by simpa using h11)
 have hq0 : (decide ((M.sowMove r p move).1 = 0)) = true := by rw [hM]; rfl
 have hq1 : (((M.mvT r p.player 100 (p.player * r.pits + move) (M.Sw.mk p.pits p.stores 0 0) []).2.1).pits) = ((M.sowMove r p move).2.1).pits := by rw [hM]
 have hq2 : (((M.mvT r p.player 100 (p.player * r.pits + move) (M.Sw.mk p.pits p.stores 0 0) []).2.1).stores) = ((M.sowMove r p move).2.1).stores := by rw [hM]
 have hq3 : (((M.mvT r p.player 100 (p.player * r.pits + move) (M.Sw.mk p.pits p.stores 0 0) []).2.1).last) = ((M.sowMove r p move).2.1).last := by rw [hM]
 have hq4 : (((M.mvT r p.player 100 (p.player * r.pits + move) (M.Sw.mk p.pits p.stores 0 0) []).2.1).laps) = ((M.sowMove r p move).2.1).laps := by rw [hM]
 have hq5 : ((M.mvT r p.player 100 (p.player * r.pits + move) (M.Sw.mk p.pits p.stores 0 0) []).2.2) = (M.sowMove r p move).2.2 := by rw [hM]
 have hq6 : 0 = (M.sowMove r p move).1 := by rw [hM]
 refine Js.skip <| zS <| Qm rfl <| Qa rfl <| Qa rfl <| JL.nil ?_
 exact zro (Up.refl _ _)
theorem c_impl_Rules_taken (r : M.Rul) {v_r : Value} (s : M.Sw) {v_s : Value} (player : Int) {w : World} (h_r : (Ty.agg (cRules r)).ok w v_r) (h_s : (Ty.agg (cSown s)).ok w v_s) (r0 : 2 ≤ r.pits := by exact om_) (r1 : r.pits ≤ 8 := by exact om_) (r2 : player = 0 ∨ player = 1 := by exact om_) (r3 : M.Good r s.pits s.stores 0 := by exact om_) (r4 : -1 ≤ s.last := by exact om_) (r5 : s.last < 2 * r.pits := by exact om_) : Ret Try.prog 46 [v_r, v_s, .int .i64 player] w (Ty.ints 2 (M.taken r s player)) := by
 have l1 := r3.lp
 have l2 := r3.ls
 have hv : 0 ≤ M.getI s.pits s.last := M.nn_nth r3.np _
 have hv9 := r3.pit s.last
 revert v_r; apply opn
 revert v_s; apply opn
 intro A1 c1 h1 bl1 bh1 A2 c2 h2 bl2 bh2
 refine enter @Try.func46 @Try.ntmps46 rfl rfl ?_
 refine zent ?_
 obtain ⟨b3, o3, rfl⟩ := ints_some h1 (by omega)
 refine zS <| zb rfl fun b4 => zb rfl fun b5 => Qa rfl <| zN <| zbs fun b6 => ?_
 refine Qa rfl <| zJ <| zS <| Qf fh rfl <| Q0 1 rfl rfl rfl <| Ql rfl rfl <| JL.nil ?_
 refine zi (fun h8 h8' => ?_) fun h8 h8' => ?_
 ·
  have hR : M.taken r s player = [] := by unfold M.taken; rw [if_pos (by simpa using h8)]
  have hq0 : [] = M.taken r s player := by rw [hR]
  refine zS <| Qm rfl <| Qa rfl <| JL.nil ?_
  exact zro (Up.refl _ _)
 have hl0 : ¬ s.last < 0 := by simpa using h8
 refine Js.skip <| zS <| Q9 2 rfl rfl ?_
 refine Qf fh rfl <| Q0 1 rfl rfl rfl <| zv rfl (fun w hw => c_impl_Rules_owner r s.last (ok_ hw)) <| Qm rfl <| Qe rfl rfl <| Qa rfl <| zJ <| zS <| Qf fh rfl <| Q0 2 rfl rfl rfl <| JL.nil <| Js.block <| zS <| Qe rfl rfl ?_
 refine Qa rfl <| JL.nil ?_
 refine zi (fun h9 h9' => ?_) fun h9 h9' => ?_
 ·
  have hcap : r.capture = 1 := by simpa using h9
  refine zS <| Qf fh rfl <| Q0 1 rfl rfl rfl <| Qa rfl <| JL.nil <| Js.block ?_
  refine zl [2, 3, 4] (fun F U l os u m => ∃ (k : Int) (out : List Int) (A10_7 : Option Addr) (c10_7 : Nat) (g10_7 : List Nat), l = F [(7, .slice A10_7 out.length c10_7), (9, .int .i64 k)] ∧ os = U [some (rowO 2 1 (.slice A10_7 out.length c10_7) out.length (ints_ out) g10_7)] ∧ (out ++ M.ttI r player s.pits k = M.ttI r player s.pits s.last) ∧ (-1 ≤ k) ∧ (k < 2 * r.pits) ∧ ((out.length : Int) + k = s.last) ∧ (out.length ≤ c10_7) ∧ (c10_7 ≤ 9223372036854775807) ∧ m = (k + 1).toNat) ⟨s.last, [], _, _, _, rfl, rfl, by rfl, zt, zt, by simp, zu, zu, rfl⟩ ?_
  rintro _ _ u10 _ ⟨k, out, A10_7, c10_7, g10_7, rfl, rfl, hS, k0, k1, hl, f10_4, f10_5, rfl⟩ x10
  refine zn ?_
  refine Js.seq <| zS <| Qm rfl <| Qh rfl rfl <| Qm rfl <| zgq (Gd.t1 rfl rfl rfl) (fun hc => L9 2 rfl rfl) <| zg (Gd.t1 rfl rfl rfl) (fun hc => p_move rfl) <| zgv (Gd.t1 rfl rfl rfl) (fun hc => (opds_2 (gh hc rfl) (gh hc rfl))) (fun hc => (fun w hw => c_impl_Rules_owner r k (ok_ hw) (r0 := (oh_ hc)) (r1 := (oh_ hc)) (r2 := (oh_ hc)) (r3 := (oh_ hc)))) ?_
  refine zg (Gd.t1 rfl rfl rfl) (fun hc => p_move rfl) <| zg (Gd.t1 rfl rfl rfl) (fun hc => p_neq (gh hc rfl) (gh hc rfl)) <| Qq (p_pickAnd rfl rfl rfl) <| Qm rfl <| zg (Gd.t1 rfl rfl rfl) (fun hc => p_fieldAddr fld_58_0.h rfl) <| zgq (Gd.t1 rfl rfl rfl) (fun hc => q_load1 ty_26.h (gh hc rfl) (Mem.box (i := 1) rfl rfl)) <| zg (Gd.t1 rfl rfl rfl) (fun hc => p_move rfl) <| zg (Gd.t1 rfl rfl rfl) (fun hc => p_indexAddr el_26 (gh hc rfl) (gh hc rfl) (by have hc9 := hc; (try simp only [Bool.and_eq_true, decide_eq_true_eq, Bool.not_eq_true', decide_eq_false_iff_not] at hc9); omega) (by have hc9 := hc; (try simp only [Bool.and_eq_true, decide_eq_true_eq, Bool.not_eq_true', decide_eq_false_iff_not] at hc9); omega) rfl) ?_
  refine zgq (Gd.t1 rfl rfl rfl) (fun hc => q_load1 ty_2.h (gh hc rfl) (Mem.pub (ints_cellI (i := k) (Ty.mono _ h1 x10.vis) (by have hc9 := hc; (try simp only [Bool.and_eq_true, decide_eq_true_eq, Bool.not_eq_true', decide_eq_false_iff_not] at hc9); omega)))) ?_
  refine zgv (Gd.t1 rfl rfl rfl) (fun hc => (opds_3 (gh hc rfl) rfl rfl)) (fun hc => (fun w hw => c_impl_between (M.getI s.pits k) 2 3)) ?_
  refine Qq (p_pickAnd rfl rfl rfl) <| JL.nil ?_
  refine zi (fun h12 h12' => ?_) fun h12 h12' => ?_
  ·
   obtain ⟨⟨c0, c1⟩, c2⟩ : (0 ≤ k ∧ ¬ M.owner r k = player) ∧ M.betw (M.getI s.pits k) 2 3 = true := by simpa using h12
   have hS2 : (out ++ [k]) ++ M.ttI r player s.pits (k - 1) = M.ttI r player s.pits s.last := by rw [← hS, M.ttI_yes c0 c1 c2]; simp
   refine Js.skip <| Js.seq <| Js.block <| Js.region <| Qm rfl <| Qm rfl <| zbs fun b13 => ?_
   refine JL.e (e_append (i := 1) (n' := (out ++ [k]).length) (vs' := ints_ (out ++ [k])) el_26 rfl rfl rfl rfl (src_row (i := 0) und_26 rfl rfl) (by omega) (by omega) ln2_ (by simp [ints_])) ?_
   rintro v15 _ _ ⟨⟨g16, rfl⟩, rfl⟩ _
   refine JL.fact (row_form' (i := 1) rfl) (fun hf17 => ?_)
   obtain ⟨A17, c17, rfl, bl17, bh17⟩ := hf17
   refine znl ?_
   refine Qa rfl <| JL.nil <| Js.blockEnd <| Js.region <| Qm rfl <| Qs rfl rfl <| Qa rfl <| JL.nil ?_
   refine zd [1, 1, 1] rfl fun u18 x18 => ?_
   exact zag ⟨k - 1, out ++ [k], _, _, _, rfl, rfl, by exact hS2, zt, zt, by simp only [List.length_append, List.length_cons, List.length_nil]; omega, zu, zu, rfl⟩ (x10.trans x18)
  have hF : M.ttI r player s.pits k = [] := by rcases h12' with (h | h) | h; exact M.ttI_neg h; exact M.ttI_no (.inl h); exact M.ttI_no (.inr h)
  rw [hF, List.append_nil] at hS
  have hR : M.taken r s player = out := by unfold M.taken; rw [if_neg hl0, if_pos hcap, hS]; simp [M.ttI, hl0]
  refine zx ?_
  have hq0 : out = M.taken r s player := by rw [hR]
  refine Js.blockEnd <| zS <| Qm rfl <| Qa rfl <| JL.nil ?_
  exact zro x10
 have hcap1 : ¬ r.capture = 1 := by simpa using h9
 refine zS <| Qe rfl rfl <| Qa rfl <| JL.nil ?_
 refine zi (fun h19 h19' => ?_) fun h19 h19' => ?_
 ·
  have hcap : r.capture = 2 := by simpa using h19
  have ho : M.opp r s.last = 2 * r.pits - 1 - s.last := rfl
  have ho : M.opp r s.last = 2 * r.pits - 1 - s.last := rfl
  refine zS <| Q9 2 rfl rfl ?_
  refine Qf fh rfl <| Q0 1 rfl rfl rfl <| zv rfl (fun w hw => c_impl_Rules_opposite r s.last (ok_ hw)) <| Qa rfl <| zN <| Qm rfl <| Qm rfl <| zg (Gd.t1 rfl rfl rfl) (fun hc => p_fieldAddr fld_58_0.h rfl) <| zgq (Gd.t1 rfl rfl rfl) (fun hc => q_load1 ty_26.h (gh hc rfl) (Mem.box (i := 1) rfl rfl)) <| zg (Gd.t1 rfl rfl rfl) (fun hc => p_fieldAddr fld_58_2.h rfl) <| zgq (Gd.t1 rfl rfl rfl) (fun hc => q_load1 ty_2.h (gh hc rfl) (Mem.box (i := 1) rfl rfl)) <| zg (Gd.t1 rfl rfl rfl) (fun hc => p_indexAddr el_26 (gh hc rfl) (gh hc rfl) (oh_ hc) (oh_ hc) rfl) ?_
  refine zgq (Gd.t1 rfl rfl rfl) (fun hc => q_load1 ty_2.h (gh hc rfl) (Mem.pub (ints_cellI (i := s.last) h1 (oh_ hc)))) ?_
  refine zg (Gd.t1 rfl rfl rfl) (fun hc => p_eql (gh hc rfl) rfl) <| Qq (p_pickAnd rfl rfl rfl) <| Qm rfl <| zg (Gd.t1 rfl rfl rfl) (fun hc => p_fieldAddr fld_58_0.h rfl) <| zgq (Gd.t1 rfl rfl rfl) (fun hc => q_load1 ty_26.h (gh hc rfl) (Mem.box (i := 1) rfl rfl)) <| zg (Gd.t1 rfl rfl rfl) (fun hc => p_move rfl) <| zg (Gd.t1 rfl rfl rfl) (fun hc => p_indexAddr el_26 (gh hc rfl) (gh hc rfl) (by have hc9 := hc; (try simp only [Bool.and_eq_true, decide_eq_true_eq] at hc9); omega) (by have hc9 := hc; (try simp only [Bool.and_eq_true, decide_eq_true_eq] at hc9); omega) rfl) ?_
  refine zgq (Gd.t1 rfl rfl rfl) (fun hc => q_load1 ty_2.h (gh hc rfl) (Mem.pub (ints_cellI (i := M.opp r s.last) h1 (by have hc9 := hc; (try simp only [Bool.and_eq_true, decide_eq_true_eq] at hc9); omega)))) ?_
  refine zg (Gd.t1 rfl rfl rfl) (fun hc => p_gtr (gh hc rfl) rfl) <| Qq (p_pickAnd rfl rfl rfl) <| JL.nil ?_
  refine zi (fun h22 h22' => ?_) fun h22 h22' => ?_
  ·
   have hR : M.taken r s player = [s.last, M.opp r s.last] := by unfold M.taken; rw [if_neg hl0, if_neg hcap1, if_pos hcap, if_pos (by simpa [and_assoc] using h22)]
   refine Js.region <| Qm rfl <| Qf fh rfl <| Q0 1 rfl rfl rfl <| Qm rfl <| zbs fun b23 => ?_
   refine JL.e (e_append (i := 1) (n' := 2) (vs' := ints_ [s.last, (M.opp r s.last)]) el_26 rfl rfl rfl rfl (src_row (i := 0) und_26 rfl rfl) (by omega) (by omega) ln2_ (by simp [ints_])) ?_
   rintro v25 _ _ ⟨⟨g26, rfl⟩, rfl⟩ _
   refine JL.fact (row_form' (i := 1) rfl) (fun hf27 => ?_)
   obtain ⟨A27, c27, rfl, bl27, bh27⟩ := hf27
   refine znl ?_
   have hq0 : [s.last, (M.opp r s.last)] = M.taken r s player := by rw [hR]
   refine Qa rfl <| JL.nil <| Js.blockEnd <| zS <| Qm rfl <| Qa rfl <| JL.nil ?_
   exact zro (Up.refl _ _)
  have hR : M.taken r s player = [] := by unfold M.taken; rw [if_neg hl0, if_neg hcap1, if_pos hcap, if_neg (by simpa [and_assoc] using h22)]
  have hq0 : [] = M.taken r s player := by rw [hR]
  refine Js.skip <| Js.blockEnd <| zS <| Qm rfl <| Qa rfl <| JL.nil ?_
  exact zro (Up.refl _ _)
 have hcap2 : ¬ r.capture = 2 := by simpa using h19
 refine zS <| Qe rfl rfl <| Qa rfl <| JL.nil ?_
 refine zi (fun h28 h28' => ?_) fun h28 h28' => ?_
 ·
  have hcap : r.capture = 3 := by simpa using h28
  refine zS <| Qm rfl <| Qt rfl <| Qm rfl <| zg (Gd.t1 rfl rfl rfl) (fun hc => p_fieldAddr fld_58_0.h rfl) <| zgq (Gd.t1 rfl rfl rfl) (fun hc => q_load1 ty_26.h (gh hc rfl) (Mem.box (i := 1) rfl rfl)) <| zg (Gd.t1 rfl rfl rfl) (fun hc => p_fieldAddr fld_58_2.h rfl) <| zgq (Gd.t1 rfl rfl rfl) (fun hc => q_load1 ty_2.h (gh hc rfl) (Mem.box (i := 1) rfl rfl)) <| zg (Gd.t1 rfl rfl rfl) (fun hc => p_indexAddr el_26 (gh hc rfl) (gh hc rfl) (by have hc9 := hc; (try simp only [Bool.not_eq_true', decide_eq_false_iff_not] at hc9); omega) (by have hc9 := hc; (try simp only [Bool.not_eq_true', decide_eq_false_iff_not] at hc9); omega) rfl) ?_
  refine zgq (Gd.t1 rfl rfl rfl) (fun hc => q_load1 ty_2.h (gh hc rfl) (Mem.pub (ints_cellI (i := s.last) h1 (by have hc9 := hc; (try simp only [Bool.not_eq_true', decide_eq_false_iff_not] at hc9); omega)))) ?_
  refine zg (Gd.t1 rfl rfl rfl) (fun hc => p_rem (gh hc rfl) rfl (by have hc9 := hc; (try simp only [Bool.not_eq_true', decide_eq_false_iff_not] at hc9); omega) (Int.tmod_eq_emod_of_nonneg (by have hc9 := hc; (try simp only [Bool.not_eq_true', decide_eq_false_iff_not] at hc9); omega))) ?_
  refine zg (Gd.t1 rfl rfl rfl) (fun hc => p_eql (gh hc rfl) rfl) <| Qq (p_pickAnd rfl rfl rfl) <| JL.nil ?_
  refine zi (fun h30 h30' => ?_) fun h30 h30' => ?_
  ·
   have hR : M.taken r s player = [s.last] := by unfold M.taken; rw [if_neg hl0, if_neg hcap1, if_neg hcap2, if_pos hcap, if_pos (by simpa using h30)]
   refine Js.region <| Qm rfl <| Qf fh rfl <| Q0 1 rfl rfl rfl <| zbs fun b31 => ?_
   refine JL.e (e_append (i := 1) (n' := 1) (vs' := ints_ [s.last]) el_26 rfl rfl rfl rfl (src_row (i := 0) und_26 rfl rfl) (by omega) (by omega) ln2_ (by simp [ints_])) ?_
   rintro v33 _ _ ⟨⟨g34, rfl⟩, rfl⟩ _
   refine JL.fact (row_form' (i := 1) rfl) (fun hf35 => ?_)
   obtain ⟨A35, c35, rfl, bl35, bh35⟩ := hf35
   refine znl ?_
   have hq0 : [s.last] = M.taken r s player := by rw [hR]
   refine Qa rfl <| JL.nil <| Js.blockEnd <| zS <| Qm rfl <| Qa rfl <| JL.nil ?_
   exact zro (Up.refl _ _)
  have hR : M.taken r s player = [] := by unfold M.taken; rw [if_neg hl0, if_neg hcap1, if_neg hcap2, if_pos hcap, if_neg (by simpa using h30)]
  have hq0 : [] = M.taken r s player := by rw [hR]
  refine Js.skip <| Js.blockEnd <| zS <| Qm rfl <| Qa rfl <| JL.nil ?_
  exact zro (Up.refl _ _)
 have hcap3 : ¬ r.capture = 3 := by simpa using h28
 have hR : M.taken r s player = [] := by unfold M.taken; rw [if_neg hl0, if_neg hcap1, if_neg hcap2, if_neg hcap3]
 have hq0 : [] = M.taken r s player := by rw [hR]
 refine Js.skip <| Js.blockEnd <| zS <| Qm rfl <| Qa rfl <| JL.nil ?_
 exact zro (Up.refl _ _)
theorem c_impl_Rules_slams (r : M.Rul) {v_r : Value} (s : M.Sw) {v_s : Value} (player : Int) {w : World} (h_r : (Ty.agg (cRules r)).ok w v_r) (h_s : (Ty.agg (cSown s)).ok w v_s) (r0 : 2 ≤ r.pits := by exact om_) (r1 : r.pits ≤ 8 := by exact om_) (r2 : player = 0 ∨ player = 1 := by exact om_) (r3 : M.Good r s.pits s.stores 0 := by exact om_) (r4 : -1 ≤ s.last := by exact om_) (r5 : s.last < 2 * r.pits := by exact om_) : RetV Try.prog 79 [v_r, v_s, .int .i64 player] w (.bool (M.slams r s player)) := by
 have l1 := r3.lp
 have l2 := r3.ls
 have hao := M.Good.ok r3
 have hlen := M.taken_len (s := s) (player := player) r5 r1
 revert v_r; apply opn
 revert v_s; apply opn
 intro A1 c1 h1 bl1 bh1 A2 c2 h2 bl2 bh2
 refine enter @Try.func79 @Try.ntmps79 rfl rfl ?_
 refine zent ?_
 obtain ⟨b3, o3, rfl⟩ := ints_some h1 (by omega)
 refine zS <| zb rfl fun b4 => zb rfl fun b5 => Qa rfl <| zN <| Q9 1 rfl rfl ?_
 refine Qf fh rfl <| Q0 0 rfl rfl rfl <| Qm rfl <| Qs rfl rfl <| zv rfl (fun w hw => c_impl_Rules_side r s.pits (1 - player) (ok_ hw) (ok_ hw) (r4 := hao.1)) <| Qa rfl <| Qa rfl <| zJ <| zS <| Q9 1 rfl rfl ?_
 refine Q9 0 rfl rfl ?_
 refine Qm rfl <| zp rfl (fun w hw => c_impl_Rules_taken r s player (ok_ hw) (ok_ hw) (r3 := r3)) ?_
 intro u6 x6 A7 c7 h7 bl7 bh7
 refine Qz rfl <| Qm rfl <| JL.nil <| Js.block ?_
 refine zl [2, 3, 4, 7, 20, 21] (fun F U l os u m => ∃ (k : Nat) (g : Int), l = F [(8, .int .i64 g), (22, .int .i64 (k : Int))] ∧ os = U [] ∧ (g + M.gone r s player ((M.taken r s player).drop k) = M.gone r s player (M.taken r s player)) ∧ (k ≤ (M.taken r s player).length) ∧ (0 ≤ g) ∧ (g ≤ 96 * k) ∧ m = (M.taken r s player).length - k) ⟨0, 0, rfl, rfl, by simp, zt, zt, zt, rfl⟩ ?_
 rintro _ _ u8 _ ⟨k, g, rfl, rfl, hS, hk, g0, g1, rfl⟩ x8
 refine zn ?_
 refine zS <| Ql rfl rfl <| zJ ?_
 refine zi (fun h9 h9' => ?_) fun h9 h9' => ?_
 ·
  have hk2 : k < (M.taken r s player).length := by have := h9; simp at this; omega
  have hx := M.taken_mem (r := r) (s := s) (player := player) r5 (M.nth_mem hk2)
  have hvx := r3.pit (M.nth (M.taken r s player) k)
  have hS1 := hS
  rw [M.drop_nth hk2, M.gone_cons] at hS1
  obtain ⟨b10, o10, he10, hc10⟩ := ints_elem (Ty.mono _ h7 x8.vis) (i := k) (by omega)
  refine Js.skip <| Js.seq <| Js.block <| zS <| Qq (p_indexAddr el_26 rfl rfl (by omega) (by omega) he10) <| QC hc10 rfl <| Qa rfl <| zN <| Q9 1 rfl rfl ?_
  refine Qm rfl <| zv rfl (fun w hw => c_impl_Rules_owner r (M.nth (M.taken r s player) k) (ok_ hw)) <| Qm rfl <| Qd rfl rfl <| JL.nil ?_
  refine zi (fun h11 h11' => ?_) fun h11 h11' => ?_
  ·
   have hS2 : (g + M.getI s.pits (M.nth (M.taken r s player) k)) + M.gone r s player ((M.taken r s player).drop (k + 1)) = M.gone r s player (M.taken r s player) := by rw [if_neg (by simpa using h11)] at hS1; omega
   refine Js.region <| Qm rfl <| Qf fh rfl <| Q0 0 rfl rfl rfl <| Qm rfl <| Qq (p_indexAddr el_26 rfl rfl (by omega) (by omega) rfl) <| Qw (q_load1 ty_2.h rfl (Mem.pub (ints_cellI (i := M.nth (M.taken r s player) k) (Ty.mono _ h1 (x6.vis.trans x8.vis)) (by omega)))) <| Qp rfl rfl <| Qa rfl <| JL.nil <| Js.blockEnd <| Js.region <| Qp rfl rfl <| Qm rfl ?_
   refine JL.nil ?_
   exact zag ⟨k + 1, g + (M.getI s.pits (M.nth (M.taken r s player) k)), rfl, rfl, by exact hS2, zt, zt, zt, rfl⟩ x8
  have hS2 : g + M.gone r s player ((M.taken r s player).drop (k + 1)) = M.gone r s player (M.taken r s player) := by rw [if_pos (by simpa using h11)] at hS1; omega
  refine Js.skip <| Js.blockEnd <| Js.region <| Qp rfl rfl <| Qm rfl <| JL.nil ?_
  exact zag ⟨k + 1, g, rfl, rfl, by exact hS2, zt, zt, zt, rfl⟩ x8
 have hg : g = M.gone r s player (M.taken r s player) := by rw [← hS, List.drop_eq_nil_of_le (by omega), M.gone_nil]; omega
 refine zx ?_
 refine zS <| Qm rfl <| Qg rfl rfl <| Qm rfl <| zg (Gd.t1 rfl rfl rfl) (fun hc => p_move rfl) <| zg (Gd.t1 rfl rfl rfl) (fun hc => p_move rfl) <| zg (Gd.t1 rfl rfl rfl) (fun hc => p_eql (gh hc rfl) (gh hc rfl)) <| Qq (p_pickAnd rfl rfl rfl) <| Qa rfl <| JL.nil ?_
 refine zR (x6.trans x8) ?_
 subst hg; simp [outV, M.slams]
theorem c_impl_Rules_captured (r : M.Rul) {v_r : Value} (s : M.Sw) {v_s : Value} (player : Int) {w : World} (h_r : (Ty.agg (cRules r)).ok w v_r) (h_s : (Ty.agg (cSown s)).ok w v_s) (r0 : 2 ≤ r.pits := by exact om_) (r1 : r.pits ≤ 8 := by exact om_) (r2 : player = 0 ∨ player = 1 := by exact om_) (r3 : M.Good r s.pits s.stores 0 := by exact om_) (r4 : -1 ≤ s.last := by exact om_) (r5 : s.last < 2 * r.pits := by exact om_) : Ret Try.prog 45 [v_r, v_s, .int .i64 player] w (Ty.ints 2 (M.captured r s player)) := by
 revert v_r; apply opn
 revert v_s; apply opn
 intro A1 c1 h1 bl1 bh1 A2 c2 h2 bl2 bh2
 refine enter @Try.func45 @Try.ntmps45 rfl rfl ?_
 refine zent ?_
 refine zS <| zb rfl fun b3 => zb rfl fun b4 => Qa rfl <| zJ <| zS <| Qf fh rfl <| Q0 1 rfl rfl rfl <| Qe rfl rfl <| Qm rfl <| zgq (Gd.t1 rfl rfl rfl) (fun hc => L9 1 rfl rfl) <| zgq (Gd.t1 rfl rfl rfl) (fun hc => L9 0 rfl rfl) <| zg (Gd.t1 rfl rfl rfl) (fun hc => p_move rfl) <| zgv (Gd.t1 rfl rfl rfl) (fun hc => (opds_3 (gh hc rfl) (gh hc rfl) (gh hc rfl))) (fun hc => (fun w hw => c_impl_Rules_slams r s player (ok_ hw) (ok_ hw) (r0 := (oh_ hc)) (r1 := (oh_ hc)) (r2 := (oh_ hc)) (r3 := r3) (r4 := (oh_ hc)) (r5 := (oh_ hc)))) ?_
 refine Qq (p_pickAnd rfl rfl rfl) <| JL.nil ?_
 refine zi (fun h5 h5' => ?_) fun h5 h5' => ?_
 ·
  have hR : M.captured r s player = [] := by unfold M.captured; rw [if_pos (by simpa using h5)]
  have hq0 : [] = M.captured r s player := by rw [hR]
  refine zS <| zbs fun b6 => ?_
  refine Qa rfl <| JL.nil ?_
  exact zro (Up.refl _ _)
 have hR : M.captured r s player = M.taken r s player := by unfold M.captured; rw [if_neg (by simpa using h5)]
 refine Js.skip <| zS <| Q9 1 rfl rfl ?_
 refine Q9 0 rfl rfl ?_
 refine Qm rfl <| zcs rfl (fun w hw => c_impl_Rules_taken r s player (ok_ hw) (ok_ hw) (r3 := r3)) ?_
 intro A8 c8 bl8 bh8
 have hq0 : (M.taken r s player) = M.captured r s player := by rw [hR]
 refine Qa rfl <| JL.nil ?_
 exact zro (Up.refl _ _)
theorem c_impl_Rules_takeCaptures (r : M.Rul) {v_r : Value} (s : M.Sw) {v_s : Value} (player : Int) {w : World} (h_r : (Ty.agg (cRules r)).ok w v_r) (h_s : (Ty.agg (cSown s)).ok w v_s) (r0 : 2 ≤ r.pits := by exact om_) (r1 : r.pits ≤ 8 := by exact om_) (r2 : player = 0 ∨ player = 1 := by exact om_) (r3 : M.Good r s.pits s.stores 0 := by exact om_) (r4 : -1 ≤ s.last := by exact om_) (r5 : s.last < 2 * r.pits := by exact om_) : Ret Try.prog 86 [v_r, v_s, .int .i64 player] w (Ty.agg (cSown (M.take r s player))) := by
 have l1 := r3.lp
 have l2 := r3.ls
 have hlen := M.captured_len (s := s) (player := player) r5 r1
 revert v_r; apply opn
 revert v_s; apply opn
 intro A1 c1 h1 bl1 bh1 A2 c2 h2 bl2 bh2
 refine enter @Try.func86 @Try.ntmps86 rfl rfl ?_
 refine zent ?_
 obtain ⟨b3, o3, rfl⟩ := ints_some h1 (by omega)
 obtain ⟨b4, o4, rfl⟩ := ints_some h2 (by omega)
 refine zS <| zb rfl fun b5 => zb rfl fun b6 => za zeh fun b7 => zN <| Q9 2 rfl rfl ?_
 refine Q9 1 rfl rfl ?_
 refine Qm rfl <| zp rfl (fun w hw => c_impl_Rules_captured r s player (ok_ hw) (ok_ hw) (r3 := r3)) ?_
 intro u8 x8 A9 c9 h9 bl9 bh9
 refine Qa rfl <| zJ ?_
 refine zdr [7, 9] ?_
 refine jF 0 fld_58_0 rfl rfl ?_
 refine jB 1 1 ty_26 rfl rfl rfl rfl ?_
 refine jF 3 fld_58_1 rfl rfl ?_
 refine jB 4 1 ty_26 rfl rfl rfl rfl ?_
 refine y1 2 ?_
 refine ycs rfl rfl (fun w hw => c_impl_copyNumbers s.pits (ok_ hw)) ?_
 intro A10 c10 bl10 bh10
 refine jF 6 fld_58_0 rfl rfl ?_
 refine y1 5 ?_
 refine ycs rfl rfl (fun w hw => c_impl_copyNumbers s.stores (ok_ hw)) ?_
 intro A11 c11 bl11 bh11
 refine y1 7 ?_
 refine yst rfl rfl rfl ?_
 refine jF 8 fld_58_1 rfl rfl ?_
 refine y1 9 ?_
 refine yst rfl rfl rfl ?_
 refine yd ?_
 refine Js.fact (row_some (i := 0) rfl (by omega)) (fun hf12 => ?_)
 obtain ⟨b12, rfl⟩ := hf12
 refine Js.fact (row_some (i := 1) rfl (by omega)) (fun hf13 => ?_)
 obtain ⟨b13, rfl⟩ := hf13
 refine Js.seq <| zS <| Qm rfl <| Qz rfl <| Qm rfl <| JL.nil <| Js.block ?_
 refine zl [2, 4, 6, 22, 23] (fun F U l os u m => ∃ (k : Nat) (ps ss : List Int), l = F [(24, .int .i64 (k : Int))] ∧ os = U [some (rowO 2 1 (.slice (some ⟨b12, 0, none⟩) s.stores.length c11) s.stores.length (ints_ ss) []), some (rowO 2 1 (.slice (some ⟨b13, 0, none⟩) s.pits.length c10) s.pits.length (ints_ ps) [])] ∧ (M.takeL player ((M.captured r s player).drop k) ps ss = M.takeL player (M.captured r s player) s.pits s.stores) ∧ (k ≤ (M.captured r s player).length) ∧ (M.Good r ps ss 0) ∧ m = (M.captured r s player).length - k) ⟨0, s.pits, s.stores, rfl, rfl, by rfl, zt, by exact r3, rfl⟩ ?_
 rintro _ _ u14 _ ⟨k, ps, ss, rfl, rfl, hS, hk, hG, rfl⟩ x14
 refine zn ?_
 have l3 := hG.lp
 have l4 := hG.ls
 refine zS <| Ql rfl rfl <| zJ ?_
 refine zi (fun h15 h15' => ?_) fun h15 h15' => ?_
 ·
  have hk2 : k < (M.captured r s player).length := by have := h15; simp at this; omega
  have hx := M.captured_mem (r := r) (s := s) (player := player) r5 (M.nth_mem hk2)
  have hvx := hG.pit (M.nth (M.captured r s player) k)
  have hvs := hG.store player
  obtain ⟨b16, o16, he16, hc16⟩ := ints_elem (Ty.mono _ h9 x14.vis) (i := k) (by omega)
  refine Js.skip <| Js.seq <| Js.block <| zS <| Qq (p_indexAddr el_26 rfl rfl (by omega) (by omega) he16) <| QC hc16 rfl <| Qa rfl <| zJ ?_
  refine zdr [12] ?_
  refine jF 0 fld_58_1 rfl rfl ?_
  refine jB 1 3 ty_26 rfl rfl rfl rfl ?_
  refine jM 2 rfl rfl ?_
  refine jI 3 el_26 rfl rfl rfl rfl ?_
  refine JH.q 4 rfl (q_load1 ty_2.h rfl (Mem.row (i := 0) rfl (ints_getI (i := player) (by omega)))) ?_
  refine jF 5 fld_58_0 rfl rfl ?_
  refine jB 6 3 ty_26 rfl rfl rfl rfl ?_
  refine jM 7 rfl rfl ?_
  refine jI 8 el_26 rfl rfl rfl rfl ?_
  refine JH.q 9 rfl (q_load1 ty_2.h rfl (Mem.row (i := 1) rfl (ints_getI (i := M.nth (M.captured r s player) k) (by omega)))) ?_
  refine JH.p 10 rfl (p_add rfl rfl (IntWalk.i64_in _ (by omega))) ?_
  refine jI 11 el_26 rfl rfl rfl rfl ?_
  refine y1 12 ?_
  refine JHo.s rfl (e_storeRow (i := 0) (xs' := ints_ (M.setI ss player ((M.getI ss player) + (M.getI ps (M.nth (M.captured r s player) k))))) ty_2.h rfl rfl rfl rfl rfl rfl (ints_lt (i := player.toNat) (by omega)) (ints_setL (i := player.toNat) (by omega))) (.inr rfl) ?_
  rintro _ _ _ ⟨rfl, rfl⟩ _
  refine znh ?_
  refine yd ?_
  refine Js.region <| Qf fh rfl <| Q0 3 rfl rfl rfl <| Qm rfl <| Qq (p_indexAddr el_26 rfl rfl (by omega) (by omega) rfl) ?_
  refine JL.s (e_storeRow (i := 1) (xs' := ints_ (M.setI ps (M.nth (M.captured r s player) k) 0)) ty_2.h rfl rfl rfl rfl rfl rfl (ints_lt (i := (M.nth (M.captured r s player) k).toNat) (by omega)) (ints_setL (i := (M.nth (M.captured r s player) k).toNat) (by omega))) ?_
  rintro _ _ _ ⟨rfl, rfl⟩ _
  refine znl ?_
  refine JL.nil <| Js.blockEnd <| Js.region <| Qp rfl rfl <| Qm rfl <| JL.nil ?_
  exact zag ⟨k + 1, M.setI ps (M.nth (M.captured r s player) k) 0, M.setI ss player ((M.getI ss player) + (M.getI ps (M.nth (M.captured r s player) k))), rfl, rfl, by rw [M.drop_nth hk2, M.takeL] at hS; exact hS, zt, by exact hG.takeStep hx.1 hx.2 (by omega) (by omega), rfl⟩ x14
 rw [List.drop_eq_nil_of_le (by omega), M.take_eq r5 (by omega) (by omega)] at hS
 injection hS with hT1 hT2
 refine zx ?_
 have hq0 : ps = (M.take r s player).pits := by first | exact hT1 | exact hT2 | rfl
 have hq1 : ss = (M.take r s player).stores := by first | exact hT1 | exact hT2 | rfl
 have hq2 : s.last = (M.take r s player).last := by first | exact hT1 | exact hT2 | rfl
 have hq3 : s.laps = (M.take r s player).laps := by first | exact hT1 | exact hT2 | rfl
 refine zS <| Q9 3 rfl rfl ?_
 refine zw 2 rfl rfl rfl ?_
 refine JL.nil ?_
 exact zro (x8.trans x14)
theorem c_impl_Rules_mustFeed (r : M.Rul) {v_r : Value} (p : M.Pos) {v_p : Value} {w : World} (h_r : (Ty.agg (cRules r)).ok w v_r) (h_p : (Ty.agg (cPosition p)).ok w v_p) (r0 : M.okP r p = true := by exact om_) : RetV Try.prog 87 [v_r, v_p] w (.bool (M.mustFeed r p)) := by
 obtain ⟨g1, g2, g3, g4, g5, g6, g7⟩ := M.okP_bd r0
 revert v_r; apply opn
 revert v_p; apply opn
 intro A1 c1 h1 bl1 bh1 A2 c2 h2 bl2 bh2
 refine enter @Try.func87 @Try.ntmps87 rfl rfl ?_
 refine zent ?_
 refine zS <| zb rfl fun b3 => zb rfl fun b4 => Qa rfl <| zN <| Qf fh rfl <| Q0 1 rfl rfl rfl <| Qm rfl <| zgq (Gd.t1 rfl rfl rfl) (fun hc => L9 1 rfl rfl) <| zg (Gd.t1 rfl rfl rfl) (fun hc => p_fieldAddr fld_28_0.h rfl) <| zgq (Gd.t1 rfl rfl rfl) (fun hc => q_load1 ty_26.h (gh hc rfl) (Mem.box (i := 0) rfl rfl)) <| zg (Gd.t1 rfl rfl rfl) (fun hc => p_fieldAddr fld_28_2.h rfl) <| zgq (Gd.t1 rfl rfl rfl) (fun hc => q_load1 ty_2.h (gh hc rfl) (Mem.box (i := 0) rfl rfl)) <| zg (Gd.t1 rfl rfl rfl) (fun hc => p_sub rfl (gh hc rfl) (IntWalk.i64_in _ (by omega))) ?_
 refine zgv (Gd.t1 rfl rfl rfl) (fun hc => (opds_3 (gh hc rfl) (gh hc rfl) (gh hc rfl))) (fun hc => (fun w hw => c_impl_Rules_side r p.pits (1 - p.player) (ok_ hw) (ok_ hw) (r4 := g5))) ?_
 refine zg (Gd.t1 rfl rfl rfl) (fun hc => p_eql (gh hc rfl) rfl) <| Qq (p_pickAnd rfl rfl rfl) <| Qa rfl <| JL.nil ?_
 refine zR (Up.refl _ _) ?_
 simp [outV, M.mustFeed]
theorem c_impl_Rules_done (r : M.Rul) {v_r : Value} (p : M.Pos) {v_p : Value} (move : Int) {w : World} (h_r : (Ty.agg (cRules r)).ok w v_r) (h_p : (Ty.agg (cPosition p)).ok w v_p) (r0 : p.pits.length ≤ 4194304 := by exact om_) (r1 : p.stores.length ≤ 4194304 := by exact om_) : Ret Try.prog 51 [v_r, v_p, .int .i64 move] w (Ty.tup [Ty.agg (cSown ((M.done r p move).1)), Ty.int ((M.done r p move).2)]) := by
 revert v_r; apply opn
 revert v_p; apply opn
 intro A1 c1 h1 bl1 bh1 A2 c2 h2 bl2 bh2
 refine enter @Try.func51 @Try.ntmps51 rfl rfl ?_
 refine zent ?_
 refine zS <| zb rfl fun b3 => zb rfl fun b4 => za zeh fun b5 => Qa rfl <| zN <| Q9 2 rfl rfl ?_
 refine Q9 1 rfl rfl ?_
 refine Qm rfl <| zp rfl (fun w hw => c_impl_sowMove r p move (ok_ hw) (ok_ hw)) ?_
 intro u6 x6 v7 h7
 refine Qm rfl <| Qx rfl rfl <| Qx rfl rfl <| Qa rfl <| Qa rfl <| zJ <| zS <| Qm rfl <| Qd rfl rfl <| JL.nil ?_
 refine zi (fun h8 h8' => ?_) fun h8 h8' => ?_
 ·
  have hz : ¬ (M.sowMove r p move).1 = 0 := by simpa using h8
  have hD : M.done r p move = (M.Sw.zero, (M.sowMove r p move).1) := by unfold M.done; rw [if_pos hz]
  have hq0 : [] = ((M.done r p move).1).pits := rp_ hD
  have hq1 : [] = ((M.done r p move).1).stores := rp_ hD
  have hq2 : 0 = ((M.done r p move).1).last := rp_ hD
  have hq3 : 0 = ((M.done r p move).1).laps := rp_ hD
  have hq4 : ((M.sowMove r p move).1) = (M.done r p move).2 := rp_ hD
  refine zS <| Qb ?_
  refine Qm rfl <| zw 0 rfl rfl rfl ?_
  refine Qa rfl <| JL.nil ?_
  exact zro x6
 have hz : (M.sowMove r p move).1 = 0 := by simpa using h8
 obtain ⟨hok, m0, m1, hG, q0, q1, hsum⟩ := M.sowMove_ok hz
 obtain ⟨g1, g2, g3, g4, g5, g6, g7⟩ := M.okP_bd hok
 have hG2 := (M.take_keeps g7 hG q1).1
 have hao := M.Good.ok hG2
 have hl2 := hG2.lp
 have ⟨g8, g9⟩ : p.pits.length ≤ 4194304 ∧ p.stores.length ≤ 4194304 := by omega
 refine Js.skip <| Js.seq ?_
 refine zk [3, 4, 6] (fun F U l os u => ∃ (b9 o9 b11 : Nat) (A10_0 : Option Addr) (c10_0 : Nat) (A10_1 : Option Addr) (c10_1 : Nat) (f10 : List Nat) (A9_10 : Option Addr) (c9_10 : Nat) (A9_11 : Option Addr) (c9_11 : Nat) (A9_14 : Option Addr) (c9_14 : Nat), l = F [(8, .pointer (some ⟨b9, o9, none⟩)), (10, .pointer (some ⟨b11, 0, none⟩))] ∧ os = [boxO b11 [.slice A10_0 (((M.take r ((M.sowMove r p move).2.1) p.player).pits).length) c10_0, .slice A10_1 (((M.take r ((M.sowMove r p move).2.1) p.player).stores).length) c10_1, .int .i64 ((M.take r ((M.sowMove r p move).2.1) p.player).last), .int .i64 ((M.take r ((M.sowMove r p move).2.1) p.player).laps)] 58, ownC (cSown (M.take r ((M.sowMove r p move).2.1) p.player)) [.slice A10_0 (((M.take r ((M.sowMove r p move).2.1) p.player).pits).length) c10_0, .slice A10_1 (((M.take r ((M.sowMove r p move).2.1) p.player).stores).length) c10_1, .int .i64 ((M.take r ((M.sowMove r p move).2.1) p.player).last), .int .i64 ((M.take r ((M.sowMove r p move).2.1) p.player).laps)] f10] ++ U [] ∧ (RowAt u b9 o9 [.int .i64 r.pits, .int .i64 r.seeds, .bool r.stores, .bool r.skip, .bool r.relay, .bool r.feed, .bool r.again, .int .i64 r.capture, .int .i64 r.slam, .int .i64 p.player, .slice A9_10 ((((M.sowMove r p move).2.1).pits).length) c9_10, .slice A9_11 ((((M.sowMove r p move).2.1).stores).length) c9_11, .int .i64 (((M.sowMove r p move).2.1).last), .int .i64 (((M.sowMove r p move).2.1).laps), .slice A9_14 (((M.sowMove r p move).2.2).length) c9_14]) ∧ ((((M.sowMove r p move).2.1).pits).length ≤ c9_10) ∧ (c9_10 ≤ 9223372036854775807) ∧ ((Ty.ints 2 (((M.sowMove r p move).2.1).pits)).ok u (.slice A9_10 ((((M.sowMove r p move).2.1).pits).length) c9_10)) ∧ ((((M.sowMove r p move).2.1).stores).length ≤ c9_11) ∧ (c9_11 ≤ 9223372036854775807) ∧ ((Ty.ints 2 (((M.sowMove r p move).2.1).stores)).ok u (.slice A9_11 ((((M.sowMove r p move).2.1).stores).length) c9_11)) ∧ (((M.sowMove r p move).2.2).length ≤ c9_14) ∧ (c9_14 ≤ 9223372036854775807) ∧ ((Ty.ints 2 ((M.sowMove r p move).2.2)).ok u (.slice A9_14 (((M.sowMove r p move).2.2).length) c9_14)) ∧ (((M.take r ((M.sowMove r p move).2.1) p.player).pits).length ≤ c10_0) ∧ (c10_0 ≤ 9223372036854775807) ∧ (((M.take r ((M.sowMove r p move).2.1) p.player).stores).length ≤ c10_1) ∧ (c10_1 ≤ 9223372036854775807)) ?_ ?_
 ·
  refine zdr [9] ?_
  refine JH.q 0 rfl (L9 2 rfl rfl) ?_
  refine jM 1 rfl rfl ?_
  obtain ⟨b15, o15, A15_10, c15_10, A15_11, c15_11, A15_14, c15_14, rfl, hr15, h15_10, h15_11, h15_14, bl15_10, bh15_10, bl15_11, bh15_11, bl15_14, bh15_14⟩ := ref_sowing (box_ref (opt_yes h7 (by exact decide_eq_true hz)))
  refine jN 2 rfl rfl ?_
  refine jF 3 fld_60_2 rfl rfl ?_
  refine JH.w 4 rfl (fun os' u' hv => LS 10 (hr15.vis hv) rfl) ?_
  refine jF 5 fld_28_2 rfl rfl ?_
  refine jB 6 1 ty_2 rfl rfl rfl rfl ?_
  refine y2 7 8 ?_ ?_
  ·
   refine ycs rfl rfl (fun w hw => c_impl_Rules_takeCaptures r ((M.sowMove r p move).2.1) p.player (ok_ hw) (ok_ hw) (r3 := hG)) ?_
   intro A16_0 c16_0 bl16_0 bh16_0 A16_1 c16_1 bl16_1 bh16_1 f16
   refine y1 8 ?_
   refine ya rfl fun b17 => ?_
   refine y1 9 ?_
   refine yst rfl rfl rfl ?_
   refine yd ?_
   exact zm ⟨_, _, _, _, _, _, _, _, _, _, _, _, _, _, rfl, rfl, hr15, zt, zt, h15_10, zt, zt, h15_11, zt, zt, h15_14, zt, zt, zt, zt⟩ (Up.refl _ _)
  refine ya rfl fun b18 => ?_
  refine y1 7 ?_
  refine ycs rfl rfl (fun w hw => c_impl_Rules_takeCaptures r ((M.sowMove r p move).2.1) p.player (ok_ hw) (ok_ hw) (r3 := hG)) ?_
  intro A19_0 c19_0 bl19_0 bh19_0 A19_1 c19_1 bl19_1 bh19_1 f19
  refine y1 9 ?_
  refine yst rfl rfl rfl ?_
  refine yd ?_
  refine zh [1, 0, 0, 0, 0] ?_
  exact zm ⟨_, _, _, _, _, _, _, _, _, _, _, _, _, _, rfl, rfl, hr15, zt, zt, h15_10, zt, zt, h15_11, zt, zt, h15_14, zt, zt, zt, zt⟩ (Up.refl _ _)
 rintro _ _ u14 ⟨b9, o9, b11, A10_0, c10_0, A10_1, c10_1, f10, A9_10, c9_10, A9_11, c9_11, A9_14, c9_14, rfl, rfl, f14_0, f14_1, f14_2, f14_3, f14_4, f14_5, f14_6, f14_7, f14_8, f14_9, f14_10, f14_11, f14_12, f14_13⟩ x14
 refine zn ?_
 refine Js.seq <| Js.seq ?_
 refine zdr [] ?_
 refine jF 0 fld_25_8 rfl rfl ?_
 refine jB 1 4 ty_2 rfl rfl rfl rfl ?_
 refine JH.p 2 rfl (p_eql rfl rfl) ?_
 refine jM 3 rfl rfl ?_
 refine JH.qg 4 rfl (Gd.t1 rfl rfl rfl) (fun hc => L9 4 rfl rfl) ?_
 refine JH.pg 5 rfl (Gd.t1 rfl rfl rfl) (fun hc => p_move rfl) ?_
 refine JH.pg 6 rfl (Gd.t1 rfl rfl rfl) (fun hc => p_nilCheck (gvt rfl hc)) ?_
 refine JH.pg 7 rfl (Gd.t1 rfl rfl rfl) (fun hc => p_fieldAddr fld_60_2.h (gvt rfl hc)) ?_
 refine JH.wg 8 rfl (Gd.t1 rfl rfl rfl) (fun hc os' u' hv => LS 10 (f14_0.vis hv) (gvt rfl hc)) ?_
 refine JH.pg 9 rfl (Gd.t1 rfl rfl rfl) (fun hc => p_fieldAddr fld_28_2.h rfl) ?_
 refine JH.qg 10 rfl (Gd.t1 rfl rfl rfl) (fun hc => q_load1 ty_2.h (gvt rfl hc) (Mem.box (i := 3) rfl rfl)) ?_
 refine y1 11 ?_
 refine JHo.ge rfl (Gd.t1 rfl rfl rfl) (fun hc => e_callV fn_79.h (opds_3 (gvt rfl hc) (gvt rfl hc) (gvt rfl hc)) (fun w hw => c_impl_Rules_slams r ((M.sowMove r p move).2.1) p.player (ok_ hw) (ok_ hw) (r0 := (oh_ hc)) (r1 := (oh_ hc)) (r2 := (oh_ hc)) (r3 := hG) (r4 := (oh_ hc)) (r5 := (oh_ hc)))) ?_
 refine JH.p 12 rfl (p_pickAnd rfl rfl rfl) ?_
 refine jM 13 rfl rfl ?_
 refine JH.qg 14 rfl (Gd.f1 rfl rfl rfl) (fun hc => L9 4 rfl rfl) ?_
 refine JH.qg 15 rfl (Gd.f1 rfl rfl rfl) (fun hc => L9 3 rfl rfl) ?_
 refine y1 16 ?_
 refine JHo.ge rfl (Gd.f1 rfl rfl rfl) (fun hc => e_callV fn_87.h (opds_2 (gvt rfl hc) (gvt rfl hc)) (fun w hw => c_impl_Rules_mustFeed r p (ok_ hw) (ok_ hw) (r0 := hok))) ?_
 refine JH.pg 17 rfl (Gd.f1 rfl rfl rfl) (fun hc => p_move (gvt rfl hc)) ?_
 refine JH.qg 18 rfl (Gd.t2 rfl rfl rfl) (fun hc => L9 4 rfl rfl) ?_
 refine JH.pg 19 rfl (Gd.t2 rfl rfl rfl) (fun hc => p_fieldAddr fld_58_0.h rfl) ?_
 refine JH.qg 20 rfl (Gd.t2 rfl rfl rfl) (fun hc => q_load1 ty_26.h (gvt rfl hc) (Mem.box (i := 0) rfl rfl)) ?_
 refine JH.pg 21 rfl (Gd.t2 rfl rfl rfl) (fun hc => p_fieldAddr fld_28_2.h rfl) ?_
 refine JH.qg 22 rfl (Gd.t2 rfl rfl rfl) (fun hc => q_load1 ty_2.h (gvt rfl hc) (Mem.box (i := 3) rfl rfl)) ?_
 refine JH.pg 23 rfl (Gd.t2 rfl rfl rfl) (fun hc => p_sub rfl (gvt rfl hc) (IntWalk.i64_in _ (by have hc9 := hc; (try simp only [Bool.and_eq_true, Bool.not_eq_true', Bool.and_eq_false_iff, decide_eq_false_iff_not] at hc9); omega))) ?_
 refine y1 24 ?_
 refine JHo.ge rfl (Gd.t2 rfl rfl rfl) (fun hc => e_callV fn_88.h (opds_3 (gvt rfl hc) (gvt rfl hc) (gvt rfl hc)) (fun w hw => c_impl_Rules_side r ((M.take r ((M.sowMove r p move).2.1) p.player).pits) (1 - p.player) (ok_ hw) (ok_ hw) (r0 := (by have hc9 := hc; (try simp only [Bool.and_eq_true, Bool.not_eq_true', Bool.and_eq_false_iff, decide_eq_false_iff_not] at hc9); omega)) (r1 := (by have hc9 := hc; (try simp only [Bool.and_eq_true, Bool.not_eq_true', Bool.and_eq_false_iff, decide_eq_false_iff_not] at hc9); omega)) (r2 := (by have hc9 := hc; (try simp only [Bool.and_eq_true, Bool.not_eq_true', Bool.and_eq_false_iff, decide_eq_false_iff_not] at hc9); omega)) (r3 := (by have hc9 := hc; (try simp only [Bool.and_eq_true, Bool.not_eq_true', Bool.and_eq_false_iff, decide_eq_false_iff_not] at hc9); omega)) (r4 := hao.1))) ?_
 refine JH.pg 25 rfl (Gd.t2 rfl rfl rfl) (fun hc => p_eql (gvt rfl hc) rfl) ?_
 refine JH.pg 26 rfl (Gd.f1 rfl rfl rfl) (fun hc => p_pickAnd (gvt rfl hc) (gvl rfl hc) rfl) ?_
 refine JH.p 27 rfl (p_pickOr rfl rfl rfl) ?_
 refine yd ?_
 refine zi (fun h20 h20' => ?_) fun h20 h20' => ?_
 ·
  have hD : M.done r p move = (M.Sw.zero, 9) := by unfold M.done; rw [if_neg (by simpa using hz), if_pos (by simpa using h20)]
  have hq0 : [] = ((M.done r p move).1).pits := rp_ hD
  have hq1 : [] = ((M.done r p move).1).stores := rp_ hD
  have hq2 : 0 = ((M.done r p move).1).last := rp_ hD
  have hq3 : 0 = ((M.done r p move).1).laps := rp_ hD
  have hq4 : 9 = (M.done r p move).2 := rp_ hD
  refine zS <| Qb ?_
  refine zw 2 rfl rfl rfl ?_
  refine Qa rfl <| JL.nil ?_
  exact zro (x6.trans x14)
 have hD : M.done r p move = (M.take r (M.sowMove r p move).2.1 p.player, 0) := by unfold M.done; rw [if_neg (by simpa using hz), if_neg (by simpa using h20)]
 have hq0 : (M.take r ((M.sowMove r p move).2.1) p.player) = (M.done r p move).1 := rp_ hD
 have hq1 : 0 = (M.done r p move).2 := rp_ hD
 refine Js.skip <| zS <| Q9 0 rfl rfl ?_
 refine zw 2 rfl rfl rfl ?_
 refine Qa rfl <| JL.nil ?_
 exact zro (x6.trans x14)
theorem c_impl_MoveFault (r : M.Rul) {v_r : Value} (p : M.Pos) {v_p : Value} (move : Int) {w : World} (h_r : (Ty.agg (cRules r)).ok w v_r) (h_p : (Ty.agg (cPosition p)).ok w v_p) (r0 : p.pits.length ≤ 4194304 := by exact om_) (r1 : p.stores.length ≤ 4194304 := by exact om_) : RetV Try.prog 23 [v_r, v_p, .int .i64 move] w (.int .i64 ((M.done r p move).2)) := by
 revert v_r; apply opn
 revert v_p; apply opn
 intro A1 c1 h1 bl1 bh1 A2 c2 h2 bl2 bh2
 refine enter @Try.func23 @Try.ntmps23 rfl rfl ?_
 refine zent ?_
 refine zS <| zb rfl fun b3 => zb rfl fun b4 => Qa rfl <| zN <| Q9 1 rfl rfl ?_
 refine Q9 0 rfl rfl ?_
 refine Qm rfl <| zp rfl (fun w hw => c_impl_Rules_done r p move (ok_ hw) (ok_ hw)) ?_
 intro u5 x5 A6 c6 h6 bl6 bh6 A7 c7 h7 bl7 bh7
 refine Qm rfl <| Qx rfl rfl <| Qx rfl rfl <| za zeh fun b8 => zw 0 rfl rfl rfl ?_
 refine Qa rfl <| zN <| Qm rfl <| Qa rfl <| JL.nil ?_
 exact zr x5
end Go.Proofs.Ytjgohnaobbphpaa

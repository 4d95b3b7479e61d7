/- Walks: D24. -/
import Derived.Test.YtmgnckfhghibeaaZdA3
import Derived.Test.YtmgnckfhghibeaaZdA5
import Derived.Test.YtmgnckfhghibeaaZdA4
set_option linter.unusedSimpArgs false
set_option linter.unusedVariables false
set_option maxRecDepth 100000
attribute [local irreducible] Go.Proofs.Ytmgnckfhghibeaa.gv
set_option maxHeartbeats 8000000
namespace Go.Proofs.Ytmgnckfhghibeaa
open Go.RowKit
theorem c_spec_l05Endless (s_code : Nat) (s_at s_seed : Int) {As_0 : Option Addr} {cs_0 bs : Nat} {w : World} (hb : Bw w [boxO bs [.slice As_0 s_code cs_0, .int .i64 s_at, .int .u64 s_seed] 91]) (hps_0 : (Ty.bytes 5 s_code).ok (offW w (([boxO bs [.slice As_0 s_code cs_0, .int .i64 s_at, .int .u64 s_seed] 91] : List Own).flatMap (·.fp))) (.slice As_0 s_code cs_0)) (r0 : 0 ≤ s_at := by exact om_) (r1 : s_at ≤ 999997000 := by exact om_) (r2 : s_code ≤ 1048576 := by exact om_) : RetB Try.prog 101 [.pointer (some ⟨bs, 0, none⟩)] w [boxO bs [.slice As_0 s_code cs_0, .int .i64 s_at, .int .u64 s_seed] 91] (fun v bs' => ∃ (RX : M.Rul) (PX : M.Pos) (KX AT SD : Int) (Axrb_0 : Option Addr) (cxrb_0 : Nat) (gxrb_0 : List Nat) (Axrb_1 : Option Addr) (cxrb_1 : Nat) (gxrb_1 : List Nat), v = .tuple #[.agg #[.int .i64 RX.pits, .int .i64 RX.seeds, .bool RX.stores, .bool RX.skip, .bool RX.relay, .bool RX.feed, .bool RX.again, .int .i64 RX.capture, .int .i64 RX.slam], .agg #[.slice Axrb_0 PX.pits.length cxrb_0, .slice Axrb_1 PX.stores.length cxrb_1, .int .i64 PX.player], .int .i64 KX] ∧ bs' = [boxO bs [.slice As_0 s_code cs_0, .int .i64 AT, .int .u64 SD] 91, rowO 2 1 (.slice Axrb_0 PX.pits.length cxrb_0) PX.pits.length (ints_ PX.pits) gxrb_0, rowO 2 1 (.slice Axrb_1 PX.stores.length cxrb_1) PX.stores.length (ints_ PX.stores) gxrb_1] ∧ PX.pits.length ≤ cxrb_0 ∧ cxrb_0 ≤ 9223372036854775807 ∧ PX.stores.length ≤ cxrb_1 ∧ cxrb_1 ≤ 9223372036854775807 ∧ (RX.pits ≤ 9) ∧ (PX.pits.length ≤ 16 ∧ PX.stores.length = 2) ∧ (s_at ≤ AT) ∧ (AT ≤ s_at + 3000)) := by
 refine enterB hb @Try.func101 @Try.ntmps101 rfl rfl ?_
 refine zent ?_
 refine Js.trashE ?_
 refine zn ?_
 refine zS <| za zeh fun b1 => za zeh fun b2 => Qa rfl <| zN <| Qm rfl ?_
 refine zhl [2] ?_
 refine zBB 1 sp_ rfl (fun w hb _ hw => c_spec_l00Src_pick s_code s_at s_seed 2 hb (ok_ hw)) ?_
 rintro _ _ G3 ⟨X3KX, X3AT, X3SD, rfl, rfl, hX3_0, hX3_1, hX3_2, hX3_3⟩
 refine znl ?_
 refine Qp rfl rfl <| Qb ?_
 refine za zeh fun b4 => zw 0 rfl rfl rfl ?_
 refine JL.nil ?_
 refine zf [0, 0, 1, 1] fun GG5 => ?_
 refine zn ?_
 refine zS <| Qm rfl ?_
 refine zhl [1] ?_
 refine zBB 1 sp_ rfl (fun w hb _ hw => c_spec_l00Src_one s_code X3AT X3SD 2 hb (ok_ hw)) ?_
 rintro _ _ G6 ⟨X6BX, X6AT, X6SD, rfl, rfl, hX6_0, hX6_1⟩
 refine znl ?_
 refine Qf fh rfl <| zw 2 rfl rfl rfl ?_
 refine JL.nil ?_
 refine zf [0, 1, 1, 1] fun GG7 => ?_
 refine zn ?_
 refine Js.seq <| zS <| Qa rfl <| JL.nil <| Js.block ?_
 refine zl [0, 2, 3, 5] (fun F U l os u m => ∃ (k at1 sd1 : Int) (G8_4 : List Nat), l = F [(6, .int .i64 k)] ∧ os = U [some (boxO bs [.slice As_0 s_code cs_0, .int .i64 at1, .int .u64 sd1] 91), nO, nO, nO, some (anyO G8_4)] ∧ (0 ≤ k ∧ k ≤ 12) ∧ (s_at ≤ at1) ∧ (at1 ≤ s_at + 40 + 220 * k) ∧ m = (12 - k).toNat) ⟨0, X6AT, X6SD, _, rfl, rfl, zt, zt, zt, rfl⟩ ?_
 rintro _ _ u8 _ ⟨k, at1, sd1, G8_4, rfl, rfl, hk, ha0, ha1, rfl⟩ x8
 refine zn ?_
 refine Js.seq <| zS <| Qm rfl <| Ql rfl rfl <| JL.nil ?_
 refine zi (fun h9 h9' => ?_) fun h9 h9' => ?_
 ·
  refine Js.skip <| Js.seq <| Js.block <| zS <| Qm rfl <| zBB 1 sp_ rfl (fun w hb _ hw => c_spec_l04Draw s_code at1 sd1 (M.Rul.mk (2 + X3KX) 1 false X6BX true false false 0 0) hb (ok_ hw) (ok_ hw)) ?_
  rintro _ _ G10 ⟨X10PX, X10AT, X10SD, A10r_0, c10r_0, g10r_0, A10r_1, c10r_1, g10r_1, rfl, rfl, bl10_0, bl10_1, bl10_2, bl10_3, hX10_0, hX10_1, hX10_2⟩
  refine znl ?_
  refine za zeh fun b11 => zw 0 rfl rfl rfl ?_
  refine JL.nil ?_
  refine zf [0, 0, 0, 0, 1, 1, 1] fun GG12 => ?_
  refine zn ?_
  refine Js.seq ?_
  dsimp only at hX10_0
  refine Js.region <| Qa rfl <| JL.nil <| Js.block ?_
  refine zl [0, 2, 3, 5, 6, 7] (fun F U l os u m => ∃ (mv : Int) (G13_7 : List Nat), l = F [(8, .int .i64 mv)] ∧ os = U [nO, nO, nO, nO, nO, nO, nO, some (anyO G13_7)] ∧ (0 ≤ mv ∧ mv ≤ 8) ∧ m = (8 - mv).toNat) ⟨0, _, rfl, rfl, zt, rfl⟩ ?_
  rintro _ _ u13 _ ⟨mv, G13_7, rfl, rfl, hm, rfl⟩ x13
  refine zn ?_
  refine Js.seq <| zS <| Qm rfl <| Qf fh rfl <| Q0 4 rfl rfl rfl <| Ql rfl rfl <| JL.nil ?_
  refine zi (fun h14 h14' => ?_) fun h14 h14' => ?_
  ·
   refine Js.skip <| Js.seq <| Js.block <| zS <| Qm rfl <| zc rfl (fun w hw => c_spec_l05Move (M.Rul.mk (2 + X3KX) 1 false X6BX true false false 0 0) X10PX mv (ok_ hw) (ok_ hw)) ?_
   intro A17 c17 bl17 bh17 A18 c18 bl18 bh18 A19 c19 bl19 bh19
   refine Qm rfl <| Qx rfl rfl <| Qx rfl rfl <| Qx rfl rfl <| za zeh fun b20 => zw 0 rfl rfl rfl ?_
   refine Qa rfl <| Qa rfl <| JL.nil ?_
   refine zf [4, 4, 4, 4, 4, 4, 4] fun GG21 => ?_
   refine zn ?_
   refine zS <| Qm rfl <| Qe rfl rfl <| JL.nil ?_
   refine zi (fun h22 h22' => ?_) fun h22 h22' => ?_
   ·
    refine Js.seq ?_
    refine zk [2, 3] (fun F U l os u => l = F [(4, .int .i64 mv)] ∧ os = U [nO, nO, nO, nO, nO, some (boxO b2 [.slice A10r_0 X10PX.pits.length c10r_0, .slice A10r_1 X10PX.stores.length c10r_1, .int .i64 X10PX.player] 31), some (boxO b1 [.int .i64 (2 + X3KX), .int .i64 1, .bool false, .bool X6BX, .bool true, .bool false, .bool false, .int .i64 0, .int .i64 0] 25)]) ?_ ?_
    ·
     refine zdr [3, 4] ?_
     refine JH.q 0 rfl (L9 4 rfl rfl) ?_
     refine jM 2 rfl rfl ?_
     refine y2 1 3 ?_ ?_
     ·
      refine JHo.q rfl (L9 0 rfl rfl) ?_
      refine y1 3 ?_
      refine yst rfl rfl rfl ?_
      refine y1 4 ?_
      refine yst rfl rfl rfl ?_
      refine jA 5 rfl rfl ?_
      refine yd ?_
      exact zm ⟨rfl, rfl⟩ (Up.refl _ _)
     refine yst rfl rfl rfl ?_
     refine y1 1 ?_
     refine JHo.q rfl (L9 0 rfl rfl) ?_
     refine y1 4 ?_
     refine yst rfl rfl rfl ?_
     refine jA 5 rfl rfl ?_
     refine yd ?_
     exact zm ⟨rfl, rfl⟩ (Up.refl _ _)
    rintro _ _ u23 ⟨rfl, rfl⟩ x23
    refine zn ?_
    refine zf [1, 1, 1, 2, 2] fun GG24 => ?_
    refine zn ?_
    refine zrb [0, 0, 0] hb ((x8.trans x13).trans x23) ?_
    refine ⟨((M.Rul.mk (2 + X3KX) 1 false X6BX true false false 0 0)), (X10PX), (mv), (X10AT), (X10SD), A10r_0, c10r_0, g10r_0, A10r_1, c10r_1, g10r_1, rfl, ?_, ?_, ?_, ?_, ?_, by first | trivial | omega | (dsimp only; omega), by first | trivial | omega | (dsimp only; omega), by first | trivial | omega | (dsimp only; omega), by first | trivial | omega | (dsimp only; omega)⟩
    · rfl
    all_goals (try dsimp only)
    all_goals (first | (omega) | omega | (simp only [*]; omega) | (simp; done))
   refine Js.skip <| Js.blockEnd <| Js.region <| Qm rfl <| Qp rfl rfl <| Qa rfl <| JL.nil ?_
   exact zag ⟨mv + 1, _, rfl, rfl, zt, rfl⟩ x13
  refine zx ?_
  refine Js.blockEnd <| Js.region <| Qm rfl <| Qp rfl rfl <| Qa rfl <| JL.nil ?_
  refine zf [1, 3, 3, 3] fun GG25 => ?_
  refine zn ?_
  exact zag ⟨k + 1, X10AT, X10SD, _, rfl, rfl, zt, zt, zt, rfl⟩ (x8.trans x13)
 refine zx ?_
 have hl0 : (M.startP (M.Rul.mk (2 + X3KX) 1 false X6BX true false false 0 0)).pits.length = (2 * ((M.Rul.mk (2 + X3KX) 1 false X6BX true false false 0 0)).pits).toNat := by simp [M.startP]
 have hl1 : (M.startP (M.Rul.mk (2 + X3KX) 1 false X6BX true false false 0 0)).stores.length = 2 := rfl
 try dsimp only at hl0
 refine Js.seq ?_
 refine zdr [2, 3] ?_
 refine JH.q 0 rfl (L9 1 rfl rfl) ?_
 refine y1 1 ?_
 refine yc rfl rfl (fun w hw => c_spec_l04Start (M.Rul.mk (2 + X3KX) 1 false X6BX true false false 0 0) (ok_ hw)) ?_
 intro A27 c27 bl27 bh27 A28 c28 bl28 bh28
 refine y1 2 ?_
 refine yst rfl rfl rfl ?_
 refine y1 3 ?_
 refine yst rfl rfl rfl ?_
 refine jA 4 rfl rfl ?_
 refine yd ?_
 refine zf [0, 0, 0, 1, 1] fun GG29 => ?_
 refine zn ?_
 refine zrb [2, 1, 0] hb x8 ?_
 refine ⟨((M.Rul.mk (2 + X3KX) 1 false X6BX true false false 0 0)), ((M.startP (M.Rul.mk (2 + X3KX) 1 false X6BX true false false 0 0))), (0), (at1), (sd1), A27, c27, [], A28, c28, [], rfl, ?_, ?_, ?_, ?_, ?_, by first | trivial | omega | (dsimp only; omega), by first | trivial | omega | (dsimp only; omega), by first | trivial | omega | (dsimp only; omega), by first | trivial | omega | (dsimp only; omega)⟩
 · rfl
 all_goals (try dsimp only)
 all_goals (first | (omega) | omega | (simp only [*]; omega) | (simp; done))
theorem c_spec_l05Draw (s_code : Nat) (s_at s_seed : Int) {As_0 : Option Addr} {cs_0 bs : Nat} {w : World} (hb : Bw w [boxO bs [.slice As_0 s_code cs_0, .int .i64 s_at, .int .u64 s_seed] 91]) (hps_0 : (Ty.bytes 5 s_code).ok (offW w (([boxO bs [.slice As_0 s_code cs_0, .int .i64 s_at, .int .u64 s_seed] 91] : List Own).flatMap (·.fp))) (.slice As_0 s_code cs_0)) (r0 : 0 ≤ s_at := by exact om_) (r1 : s_at ≤ 999995000 := by exact om_) (r2 : s_code ≤ 1048576 := by exact om_) : RetB Try.prog 93 [.pointer (some ⟨bs, 0, none⟩)] w [boxO bs [.slice As_0 s_code cs_0, .int .i64 s_at, .int .u64 s_seed] 91] (fun v bs' => ∃ (RX : M.Rul) (PX : M.Pos) (KX AT SD : Int) (Axrb_0 : Option Addr) (cxrb_0 : Nat) (Axrb_1 : Option Addr) (cxrb_1 : Nat) (gxrb_1 : List Nat), v = .tuple #[.agg #[.int .i64 RX.pits, .int .i64 RX.seeds, .bool RX.stores, .bool RX.skip, .bool RX.relay, .bool RX.feed, .bool RX.again, .int .i64 RX.capture, .int .i64 RX.slam], .agg #[.slice Axrb_0 PX.pits.length cxrb_0, .slice Axrb_1 PX.stores.length cxrb_1, .int .i64 PX.player], .int .i64 KX] ∧ bs' = [boxO bs [.slice As_0 s_code cs_0, .int .i64 AT, .int .u64 SD] 91, rxO 2 (.slice Axrb_0 PX.pits.length cxrb_0) PX.pits.length (ints_ PX.pits), rowO 2 1 (.slice Axrb_1 PX.stores.length cxrb_1) PX.stores.length (ints_ PX.stores) gxrb_1] ∧ PX.pits.length ≤ cxrb_0 ∧ cxrb_0 ≤ 9223372036854775807 ∧ PX.stores.length ≤ cxrb_1 ∧ cxrb_1 ≤ 9223372036854775807 ∧ (RX.pits ≤ 9) ∧ (PX.pits.length ≤ 4194304 ∧ PX.stores.length ≤ 4194304) ∧ (s_at ≤ AT) ∧ (AT ≤ s_at + 5000)) := by
 refine enterB hb @Try.func93 @Try.ntmps93 rfl rfl ?_
 refine zent ?_
 refine Js.trashE ?_
 refine zn ?_
 refine zS <| za zeh fun b1 => za zeh fun b2 => Qa rfl <| zN <| Qm rfl ?_
 refine zhl [2] ?_
 refine zBB 1 sp_ rfl (fun w hb _ hw => c_spec_l04Bent s_code s_at s_seed hb (ok_ hw)) ?_
 rintro _ _ G3 ⟨X3RX, X3QX, X3AT, X3SD, A3rb_0, c3rb_0, A3rb_1, c3rb_1, g3rb_1, rfl, rfl, bl3_0, bl3_1, bl3_2, bl3_3, hX3_0, hX3_1, hX3_2, hX3_3⟩
 refine znl ?_
 refine Qm rfl <| Qx rfl rfl <| Qx rfl rfl <| za zeh fun b4 => za zeh fun b5 => zw 1 rfl rfl rfl ?_
 refine zw 0 rfl rfl rfl ?_
 refine JL.nil ?_
 refine zf [0, 0, 0, 0, 0, 1, 1] fun GG6 => ?_
 refine zn ?_
 refine Js.seq <| zS <| Qm rfl ?_
 refine zhl [2] ?_
 refine zBB 1 sp_ rfl (fun w hb _ hw => c_spec_l00Src_one s_code X3AT X3SD 12 hb (ok_ hw)) ?_
 rintro _ _ G7 ⟨X7BX, X7AT, X7SD, rfl, rfl, hX7_0, hX7_1⟩
 refine znl ?_
 refine JL.nil ?_
 refine zf [0, 1, 1, 1, 1, 1, 1] fun GG8 => ?_
 refine zn ?_
 refine zi (fun h9 h9' => ?_) fun h9 h9' => ?_
 ·
  refine zS <| Qm rfl <| zBB 1 sp_ rfl (fun w hb _ hw => c_spec_l05Endless s_code X7AT X7SD hb (ok_ hw)) ?_
  rintro _ _ G10 ⟨X10RX, X10PX, X10KX, X10AT, X10SD, A10rb_0, c10rb_0, g10rb_0, A10rb_1, c10rb_1, g10rb_1, rfl, rfl, bl10_0, bl10_1, bl10_2, bl10_3, hX10_0, hX10_1, hX10_2, hX10_3⟩
  refine znl ?_
  refine Qx rfl rfl <| Qx rfl rfl <| Qx rfl rfl <| zw 9 rfl rfl rfl ?_
  refine zw 8 rfl rfl rfl ?_
  refine Qa rfl <| JL.nil ?_
  refine zf [0, 0, 0, 5, 5] fun GG11 => ?_
  refine zn ?_
  refine Js.conv (fun w hw => St.toRx (i := 1) rfl hw) ?_
  refine zn ?_
  refine zrb [2, 0, 1] hb (Up.refl _ _) ?_
  refine ⟨(X10RX), (X10PX), (X10KX), (X10AT), (X10SD), A10rb_0, c10rb_0, A10rb_1, c10rb_1, g10rb_1, rfl, ?_, ?_, ?_, ?_, ?_, by first | trivial | omega | (dsimp only; omega) | (simp only [List.length_set, M.setI_length]; omega), by first | trivial | omega | (dsimp only; omega) | (simp only [List.length_set, M.setI_length]; omega), by first | trivial | omega | (dsimp only; omega) | (simp only [List.length_set, M.setI_length]; omega), by first | trivial | omega | (dsimp only; omega) | (simp only [List.length_set, M.setI_length]; omega)⟩
  · rfl
  all_goals (try dsimp only)
  all_goals (first | (omega) | omega | (simp only [*]; omega) | (simp; done))
 refine Js.skip <| zS <| Qm rfl <| Qf fh rfl <| Q0 2 rfl rfl rfl <| zv rfl (fun w hw => c_spec_l00Min 8 X3RX.pits) <| zv rfl (fun w hw => c_spec_l00Max 1 (if 8 < X3RX.pits then 8 else X3RX.pits)) <| zBB 1 sp_ rfl (fun w hb _ hw => c_spec_l00Src_pick s_code X7AT X7SD (if 1 < (if 8 < X3RX.pits then 8 else X3RX.pits) then (if 8 < X3RX.pits then 8 else X3RX.pits) else 1) hb (ok_ hw)) ?_
 rintro _ _ G12 ⟨X12KX, X12AT, X12SD, rfl, rfl, hX12_0, hX12_1, hX12_2, hX12_3⟩
 refine znl ?_
 refine Qa rfl <| JL.nil ?_
 refine zf [0, 1, 1, 1, 1, 1, 1] fun GG13 => ?_
 refine zn ?_
 refine Js.seq <| zS <| Qm rfl <| zBB 1 sp_ rfl (fun w hb _ hw => c_spec_l00Src_one s_code X12AT X12SD 12 hb (ok_ hw)) ?_
 rintro _ _ G14 ⟨X14BX, X14AT, X14SD, rfl, rfl, hX14_0, hX14_1⟩
 refine znl ?_
 refine JL.nil ?_
 refine zf [0, 1, 1, 1, 1, 1, 1] fun GG15 => ?_
 refine zn ?_
 refine zk [0, 2, 3, 5, 6] (fun F U l os u => ∃ (mv at5 sd5 : Int) (G16_7 : List Nat), l = F [(7, .int .i64 mv)] ∧ os = U [some (boxO bs [.slice As_0 s_code cs_0, .int .i64 at5, .int .u64 sd5] 91), nO, nO, nO, nO, nO, nO, some (anyO G16_7)] ∧ (s_at ≤ at5) ∧ (at5 ≤ s_at + 1200)) ?_ ?_
 ·
  refine zi (fun h17 h17' => ?_) fun h17 h17' => ?_
  ·
   refine Js.region <| Qm rfl <| Qf fh rfl <| Q0 2 rfl rfl rfl <| zv rfl (fun w hw => c_spec_l00Min 8 X3RX.pits) <| zbs fun b18 => ?_
   refine zhl [1] ?_
   refine zBB 1 sp_ rfl (fun w hb _ hw => c_spec_l00Src_among s_code X14AT X14SD [(-1), (if 8 < X3RX.pits then 8 else X3RX.pits)] hb (ok_ hw) (ints_rowok (xs := [(-1), (if 8 < X3RX.pits then 8 else X3RX.pits)]) (hw.pr (i := 0) rfl)) (r3 := (by simp)) (r4 := (by simp))) ?_
   rintro _ _ G20 ⟨X20KX, X20AT, X20SD, rfl, rfl, hX20_0, hX20_1, hX20_2⟩
   refine znl ?_
   refine Qa rfl <| JL.nil ?_
   refine zf [0, 2, 2, 2, 2, 2, 2] fun GG21 => ?_
   refine zn ?_
   exact zm ⟨(X20KX), (X20AT), (X20SD), _, rfl, rfl, by first | assumption | omega | rfl | (dsimp only; omega) | (simp; done), by first | assumption | omega | rfl | (dsimp only; omega) | (simp; done)⟩ (Up.refl _ _)
  refine Js.skip ?_
  exact zm ⟨(X12KX), (X14AT), (X14SD), _, rfl, rfl, by first | assumption | omega | rfl | (dsimp only; omega) | (simp; done), by first | assumption | omega | rfl | (dsimp only; omega) | (simp; done)⟩ (Up.refl _ _)
 rintro _ _ u16 ⟨mv, at5, sd5, G16_7, rfl, rfl, hb0, hb1⟩ x16
 refine zn ?_
 refine Js.seq <| Js.seq ?_
 rcases Bool.eq_false_or_eq_true ((M.okP X3RX X3QX) && (M.betw mv 0 (IntKind.i64.wrap (X3RX.pits - 1)))) with h22 | h22
 ·
  refine Js.region <| zv rfl (fun w hw => c_spec_l04Ok X3RX X3QX (okx_ hw) (okx_ hw)) <| Qm rfl <| zg (Gd.t1 rfl rfl rfl) (fun hc => p_move rfl) <| zg (Gd.t1 rfl rfl rfl) (fun hc => p_fieldAddr fld_25_0.h rfl) <| zgq (Gd.t1 rfl rfl rfl) (fun hc => q_load1 ty_2.h (gh hc rfl) (Mem.box (i := 2) rfl rfl)) <| zg (Gd.t1 rfl rfl rfl) (fun hc => p_sub (gh hc rfl) rfl rfl) <| zgv (Gd.t1 rfl rfl rfl) (fun hc => (opds_3 (gh hc rfl) rfl (gh hc rfl))) (fun hc => (fun w hw => c_spec_l00In mv 0 (IntKind.i64.wrap (X3RX.pits - 1)))) ?_
  refine Qq (p_pickAnd rfl rfl rfl) <| Qm rfl <| zT (Gd.t1 rfl rfl rfl) (show ((M.okP X3RX X3QX) && (M.betw mv 0 (IntKind.i64.wrap (X3RX.pits - 1)))) = true by first | exact h22 | (rw [h22]; rfl) | simp [h22]) <| Qm rfl <| zT (Gd.t1 rfl rfl rfl) (show ((M.okP X3RX X3QX) && (M.betw mv 0 (IntKind.i64.wrap (X3RX.pits - 1)))) = true by first | exact h22 | (rw [h22]; rfl) | simp [h22]) <| zBB 1 sp_ rfl (fun w hb _ hw => c_spec_l00Src_one s_code at5 sd5 2 hb (ok_ hw)) ?_
  rintro _ _ G23 ⟨X23BX, X23AT, X23SD, rfl, rfl, hX23_0, hX23_1⟩
  refine znl ?_
  refine Qq (p_pickAnd2 rfl rfl rfl) <| JL.nil ?_
  refine zf [0, 1, 1, 1, 1, 1, 1] fun GG24 => ?_
  refine zn ?_
  refine zi (fun h25 h25' => ?_) fun h25 h25' => ?_
  ·
   obtain ⟨ho1, ho2⟩ : M.okP X3RX X3QX = true ∧ M.betw mv 0 (IntKind.i64.wrap (X3RX.pits - 1)) = true := by simpa only [Bool.and_eq_true] using h22
   obtain ⟨g1, g2, _⟩ := M.okP_bd ho1
   rw [IntWalk.i64_in _ (by omega)] at ho2
   obtain ⟨d0, d1⟩ := M.betw_iff.1 ho2
   have hpl := M.place_bd ho1 d0 d1
   refine zS <| Qf fh rfl <| Q0 1 rfl rfl rfl <| Qf fh rfl <| Q0 2 rfl rfl rfl <| Qu rfl rfl <| Qm rfl <| Qp rfl rfl <| Qa rfl <| JL.nil ?_
   refine Js.fact (rx_some (i := 3) rfl (by omega)) (fun hf26 => ?_)
   obtain ⟨b26, o26, rfl⟩ := hf26
   refine Js.pubBox (i := 1) (j := 0) rfl rfl (fun u27 x27 hr27 => ?_)
   refine zn ?_
   refine zk [2, 3, 5, 6, 7] (fun F U l os u => ∃ (G29 : List Nat) (X29AT X29SD X29KX : Int), l = F [] ∧ os = [anyO G29] ++ U [some (boxO bs [.slice As_0 s_code cs_0, .int .i64 X29AT, .int .u64 X29SD] 91), nO, some (rxO 2 (.slice (some ⟨b26, o26, none⟩) X3QX.pits.length c3rb_0) X3QX.pits.length (ints_ (M.setI X3QX.pits ((X3QX.player * X3RX.pits) + mv) (if (IntKind.i64.wrap (1 + X29KX)) < (IntKind.i64.wrap ((IntKind.i64.wrap ((IntKind.i64.wrap (96 - (M.sum4 X3QX.pits))) - (M.sum4 X3QX.stores))) + (M.getI X3QX.pits ((X3QX.player * X3RX.pits) + mv)))) then (IntKind.i64.wrap (1 + X29KX)) else (IntKind.i64.wrap ((IntKind.i64.wrap ((IntKind.i64.wrap (96 - (M.sum4 X3QX.pits))) - (M.sum4 X3QX.stores))) + (M.getI X3QX.pits ((X3QX.player * X3RX.pits) + mv))))))))] ∧ (X23AT ≤ X29AT) ∧ (X29AT ≤ X23AT + 2) ∧ (0 ≤ X29KX) ∧ (X29KX = 0 ∨ X29KX < 20)) ?_ ?_
   ·
    refine zdr [4, 22] ?_
    refine jF 0 fld_31_0 rfl rfl ?_
    refine jW 1 ty_29 rfl rfl (fun hv => (hr27.vis hv) 0 _ rfl) ?_
    refine jM 2 rfl rfl ?_
    refine jM 3 rfl rfl ?_
    refine jF 6 fld_31_0 rfl rfl ?_
    refine jW 7 ty_29 rfl rfl (fun hv => (hr27.vis hv) 0 _ rfl) ?_
    refine jF 10 fld_31_1 rfl rfl ?_
    refine jW 11 ty_29 rfl rfl (fun hv => (hr27.vis hv) 1 _ rfl) ?_
    refine jF 14 fld_31_0 rfl rfl ?_
    refine jW 15 ty_29 rfl rfl (fun hv => (hr27.vis hv) 0 _ rfl) ?_
    refine jM 16 rfl rfl ?_
    refine jI 17 el_29 rfl rfl rfl rfl ?_
    refine y2 4 18 ?_ ?_
    ·
     refine yBB 1 sp_ rfl rfl (fun w hb _ hw => c_spec_l00Src_pick s_code X23AT X23SD 20 hb (ok_ hw)) ?_
     rintro _ _ G37 ⟨X37KX, X37AT, X37SD, rfl, rfl, hX37_0, hX37_1, hX37_2, hX37_3⟩
     refine znh ?_
     refine JH.p 5 rfl (p_add rfl rfl rfl) ?_
     refine y2 8 18 ?_ ?_
     ·
      refine yv rfl rfl (fun w hw => c_spec_l04Sum X3QX.pits (okx_ hw)) ?_
      refine JH.p 9 rfl (p_sub rfl rfl rfl) ?_
      refine y2 12 18 ?_ ?_
      ·
       refine yv rfl rfl (fun w hw => c_spec_l04Sum X3QX.stores (okx_ hw)) ?_
       refine JH.p 13 rfl (p_sub rfl rfl rfl) ?_
       refine y1 18 ?_
       refine JHo.q rfl (q_load1 ty_2.h rfl (Mem.rx (i := 3) rfl (ints_getI (i := (X3QX.player * X3RX.pits) + mv) (by omega)))) ?_
       refine JH.p 19 rfl (p_add rfl rfl rfl) ?_
       refine y1 20 ?_
       refine yv rfl rfl (fun w hw => c_spec_l00Min (IntKind.i64.wrap (1 + X37KX)) (IntKind.i64.wrap ((IntKind.i64.wrap ((IntKind.i64.wrap (96 - (M.sum4 X3QX.pits))) - (M.sum4 X3QX.stores))) + (M.getI X3QX.pits ((X3QX.player * X3RX.pits) + mv))))) ?_
       refine jI 21 el_29 rfl rfl rfl rfl ?_
       refine y1 22 ?_
       refine JHo.s rfl (e_storeRx (i := 3) (j := (((X3QX.player * X3RX.pits) + mv).toNat)) (xs' := ints_ (M.setI X3QX.pits ((X3QX.player * X3RX.pits) + mv) (if (IntKind.i64.wrap (1 + X37KX)) < (IntKind.i64.wrap ((IntKind.i64.wrap ((IntKind.i64.wrap (96 - (M.sum4 X3QX.pits))) - (M.sum4 X3QX.stores))) + (M.getI X3QX.pits ((X3QX.player * X3RX.pits) + mv)))) then (IntKind.i64.wrap (1 + X37KX)) else (IntKind.i64.wrap ((IntKind.i64.wrap ((IntKind.i64.wrap (96 - (M.sum4 X3QX.pits))) - (M.sum4 X3QX.stores))) + (M.getI X3QX.pits ((X3QX.player * X3RX.pits) + mv))))))) ty_2.h rfl rfl rfl rfl rfl (ints_lt (i := ((X3QX.player * X3RX.pits) + mv).toNat) (by omega)) (ints_setL (i := ((X3QX.player * X3RX.pits) + mv).toNat) (by omega))) (.inr rfl) ?_
       rintro _ _ _ ⟨rfl, rfl⟩ _
       refine znh ?_
       refine yd ?_
       refine zh [1, 0, 0, 0, 0, 0, 0, 0] ?_
       exact zm ⟨_, _, _, _, rfl, rfl, zt, zt, zt, zt⟩ (Up.refl _ _) ⟨rfl, rfl, rfl, rfl, rfl, trivial⟩
      refine JHo.q rfl (q_load1 ty_2.h rfl (Mem.rx (i := 3) rfl (ints_getI (i := (X3QX.player * X3RX.pits) + mv) (by omega)))) ?_
      refine y1 12 ?_
      refine yv rfl rfl (fun w hw => c_spec_l04Sum X3QX.stores (okx_ hw)) ?_
      refine JH.p 13 rfl (p_sub rfl rfl rfl) ?_
      refine JH.p 19 rfl (p_add rfl rfl rfl) ?_
      refine y1 20 ?_
      refine yv rfl rfl (fun w hw => c_spec_l00Min (IntKind.i64.wrap (1 + X37KX)) (IntKind.i64.wrap ((IntKind.i64.wrap ((IntKind.i64.wrap (96 - (M.sum4 X3QX.pits))) - (M.sum4 X3QX.stores))) + (M.getI X3QX.pits ((X3QX.player * X3RX.pits) + mv))))) ?_
      refine jI 21 el_29 rfl rfl rfl rfl ?_
      refine y1 22 ?_
      refine JHo.s rfl (e_storeRx (i := 3) (j := (((X3QX.player * X3RX.pits) + mv).toNat)) (xs' := ints_ (M.setI X3QX.pits ((X3QX.player * X3RX.pits) + mv) (if (IntKind.i64.wrap (1 + X37KX)) < (IntKind.i64.wrap ((IntKind.i64.wrap ((IntKind.i64.wrap (96 - (M.sum4 X3QX.pits))) - (M.sum4 X3QX.stores))) + (M.getI X3QX.pits ((X3QX.player * X3RX.pits) + mv)))) then (IntKind.i64.wrap (1 + X37KX)) else (IntKind.i64.wrap ((IntKind.i64.wrap ((IntKind.i64.wrap (96 - (M.sum4 X3QX.pits))) - (M.sum4 X3QX.stores))) + (M.getI X3QX.pits ((X3QX.player * X3RX.pits) + mv))))))) ty_2.h rfl rfl rfl rfl rfl (ints_lt (i := ((X3QX.player * X3RX.pits) + mv).toNat) (by omega)) (ints_setL (i := ((X3QX.player * X3RX.pits) + mv).toNat) (by omega))) (.inr rfl) ?_
      rintro _ _ _ ⟨rfl, rfl⟩ _
      refine znh ?_
      refine yd ?_
      refine zh [1, 0, 0, 0, 0, 0, 0, 0] ?_
      exact zm ⟨_, _, _, _, rfl, rfl, zt, zt, zt, zt⟩ (Up.refl _ _) ⟨rfl, rfl, rfl, rfl, rfl, trivial⟩
     refine JHo.q rfl (q_load1 ty_2.h rfl (Mem.rx (i := 3) rfl (ints_getI (i := (X3QX.player * X3RX.pits) + mv) (by omega)))) ?_
     refine y1 8 ?_
     refine yv rfl rfl (fun w hw => c_spec_l04Sum X3QX.pits (okx_ hw)) ?_
     refine JH.p 9 rfl (p_sub rfl rfl rfl) ?_
     refine y1 12 ?_
     refine yv rfl rfl (fun w hw => c_spec_l04Sum X3QX.stores (okx_ hw)) ?_
     refine JH.p 13 rfl (p_sub rfl rfl rfl) ?_
     refine JH.p 19 rfl (p_add rfl rfl rfl) ?_
     refine y1 20 ?_
     refine yv rfl rfl (fun w hw => c_spec_l00Min (IntKind.i64.wrap (1 + X37KX)) (IntKind.i64.wrap ((IntKind.i64.wrap ((IntKind.i64.wrap (96 - (M.sum4 X3QX.pits))) - (M.sum4 X3QX.stores))) + (M.getI X3QX.pits ((X3QX.player * X3RX.pits) + mv))))) ?_
     refine jI 21 el_29 rfl rfl rfl rfl ?_
     refine y1 22 ?_
     refine JHo.s rfl (e_storeRx (i := 3) (j := (((X3QX.player * X3RX.pits) + mv).toNat)) (xs' := ints_ (M.setI X3QX.pits ((X3QX.player * X3RX.pits) + mv) (if (IntKind.i64.wrap (1 + X37KX)) < (IntKind.i64.wrap ((IntKind.i64.wrap ((IntKind.i64.wrap (96 - (M.sum4 X3QX.pits))) - (M.sum4 X3QX.stores))) + (M.getI X3QX.pits ((X3QX.player * X3RX.pits) + mv)))) then (IntKind.i64.wrap (1 + X37KX)) else (IntKind.i64.wrap ((IntKind.i64.wrap ((IntKind.i64.wrap (96 - (M.sum4 X3QX.pits))) - (M.sum4 X3QX.stores))) + (M.getI X3QX.pits ((X3QX.player * X3RX.pits) + mv))))))) ty_2.h rfl rfl rfl rfl rfl (ints_lt (i := ((X3QX.player * X3RX.pits) + mv).toNat) (by omega)) (ints_setL (i := ((X3QX.player * X3RX.pits) + mv).toNat) (by omega))) (.inr rfl) ?_
     rintro _ _ _ ⟨rfl, rfl⟩ _
     refine znh ?_
     refine yd ?_
     refine zh [1, 0, 0, 0, 0, 0, 0, 0] ?_
     exact zm ⟨_, _, _, _, rfl, rfl, zt, zt, zt, zt⟩ (Up.refl _ _) ⟨rfl, rfl, rfl, rfl, rfl, trivial⟩
    refine JHo.q rfl (q_load1 ty_2.h rfl (Mem.rx (i := 2) rfl (ints_getI (i := (X3QX.player * X3RX.pits) + mv) (by omega)))) ?_
    refine y1 4 ?_
    refine yBB 1 sp_ rfl rfl (fun w hb _ hw => c_spec_l00Src_pick s_code X23AT X23SD 20 hb (ok_ hw)) ?_
    rintro _ _ G41 ⟨X41KX, X41AT, X41SD, rfl, rfl, hX41_0, hX41_1, hX41_2, hX41_3⟩
    refine znh ?_
    refine JH.p 5 rfl (p_add rfl rfl rfl) ?_
    refine y1 8 ?_
    refine yv rfl rfl (fun w hw => c_spec_l04Sum X3QX.pits (okx_ hw)) ?_
    refine JH.p 9 rfl (p_sub rfl rfl rfl) ?_
    refine y1 12 ?_
    refine yv rfl rfl (fun w hw => c_spec_l04Sum X3QX.stores (okx_ hw)) ?_
    refine JH.p 13 rfl (p_sub rfl rfl rfl) ?_
    refine JH.p 19 rfl (p_add rfl rfl rfl) ?_
    refine y1 20 ?_
    refine yv rfl rfl (fun w hw => c_spec_l00Min (IntKind.i64.wrap (1 + X41KX)) (IntKind.i64.wrap ((IntKind.i64.wrap ((IntKind.i64.wrap (96 - (M.sum4 X3QX.pits))) - (M.sum4 X3QX.stores))) + (M.getI X3QX.pits ((X3QX.player * X3RX.pits) + mv))))) ?_
    refine jI 21 el_29 rfl rfl rfl rfl ?_
    refine y1 22 ?_
    refine JHo.s rfl (e_storeRx (i := 3) (j := (((X3QX.player * X3RX.pits) + mv).toNat)) (xs' := ints_ (M.setI X3QX.pits ((X3QX.player * X3RX.pits) + mv) (if (IntKind.i64.wrap (1 + X41KX)) < (IntKind.i64.wrap ((IntKind.i64.wrap ((IntKind.i64.wrap (96 - (M.sum4 X3QX.pits))) - (M.sum4 X3QX.stores))) + (M.getI X3QX.pits ((X3QX.player * X3RX.pits) + mv)))) then (IntKind.i64.wrap (1 + X41KX)) else (IntKind.i64.wrap ((IntKind.i64.wrap ((IntKind.i64.wrap (96 - (M.sum4 X3QX.pits))) - (M.sum4 X3QX.stores))) + (M.getI X3QX.pits ((X3QX.player * X3RX.pits) + mv))))))) ty_2.h rfl rfl rfl rfl rfl (ints_lt (i := ((X3QX.player * X3RX.pits) + mv).toNat) (by omega)) (ints_setL (i := ((X3QX.player * X3RX.pits) + mv).toNat) (by omega))) (.inr rfl) ?_
    rintro _ _ _ ⟨rfl, rfl⟩ _
    refine znh ?_
    refine yd ?_
    refine zh [1, 0, 0, 0, 0, 0, 0, 0] ?_
    exact zm ⟨_, _, _, _, rfl, rfl, zt, zt, zt, zt⟩ (Up.refl _ _) ⟨rfl, rfl, rfl, rfl, rfl, trivial⟩
   rintro _ _ u35 ⟨G29, X29AT, X29SD, X29KX, rfl, rfl, f35_0, f35_1, f35_2, f35_3⟩ x35
   refine zn ?_
   refine zf [1, 1, 1, 1, 1, 1] fun GG43 => ?_
   refine zn ?_
   refine Js.seq ?_
   refine zdr [3, 4] ?_
   refine JH.q 0 rfl (L9 1 rfl rfl) ?_
   refine JH.w 1 rfl (fun os' u' hv => LS 0 (hr27.vis (x35.vis.trans hv)) rfl) ?_
   refine jM 2 rfl rfl ?_
   refine y1 3 ?_
   refine yst rfl rfl rfl ?_
   refine y1 4 ?_
   refine yst rfl rfl rfl ?_
   refine jA 5 rfl rfl ?_
   refine yd ?_
   refine zf [0, 1, 1, 1, 1] fun GG44 => ?_
   refine zn ?_
   refine zrb [0, 0, 0] hb ((x16.trans x27).trans x35) ?_
   have hNr1_0 : (M.setI X3QX.pits ((X3QX.player * X3RX.pits) + mv) (if (IntKind.i64.wrap (1 + X29KX)) < (IntKind.i64.wrap ((IntKind.i64.wrap ((IntKind.i64.wrap (96 - (M.sum4 X3QX.pits))) - (M.sum4 X3QX.stores))) + (M.getI X3QX.pits ((X3QX.player * X3RX.pits) + mv)))) then (IntKind.i64.wrap (1 + X29KX)) else (IntKind.i64.wrap ((IntKind.i64.wrap ((IntKind.i64.wrap (96 - (M.sum4 X3QX.pits))) - (M.sum4 X3QX.stores))) + (M.getI X3QX.pits ((X3QX.player * X3RX.pits) + mv)))))).length = X3QX.pits.length := by first | rfl | assumption | omega | (simp only [List.length_set, M.setI_length]; done) | (simp only [List.length_set, M.setI_length]; first | rfl | assumption | omega) | (simp only [List.length_drop]; first | done | rfl | omega) | (simp; done) | (simp; omega)
   refine ⟨(X3RX), ((M.Pos.mk (M.setI X3QX.pits ((X3QX.player * X3RX.pits) + mv) (if (IntKind.i64.wrap (1 + X29KX)) < (IntKind.i64.wrap ((IntKind.i64.wrap ((IntKind.i64.wrap (96 - (M.sum4 X3QX.pits))) - (M.sum4 X3QX.stores))) + (M.getI X3QX.pits ((X3QX.player * X3RX.pits) + mv)))) then (IntKind.i64.wrap (1 + X29KX)) else (IntKind.i64.wrap ((IntKind.i64.wrap ((IntKind.i64.wrap (96 - (M.sum4 X3QX.pits))) - (M.sum4 X3QX.stores))) + (M.getI X3QX.pits ((X3QX.player * X3RX.pits) + mv)))))) X3QX.stores X3QX.player)), (mv), (X29AT), (X29SD), (some ⟨b26, o26, none⟩), c3rb_0, A3rb_1, c3rb_1, g3rb_1, (show (.tuple #[.agg #[.int .i64 X3RX.pits, .int .i64 X3RX.seeds, .bool X3RX.stores, .bool X3RX.skip, .bool X3RX.relay, .bool X3RX.feed, .bool X3RX.again, .int .i64 X3RX.capture, .int .i64 X3RX.slam], .agg #[.slice (some ⟨b26, o26, none⟩) X3QX.pits.length c3rb_0, .slice A3rb_1 X3QX.stores.length c3rb_1, .int .i64 X3QX.player], .int .i64 mv] : Value) = .tuple #[.agg #[.int .i64 X3RX.pits, .int .i64 X3RX.seeds, .bool X3RX.stores, .bool X3RX.skip, .bool X3RX.relay, .bool X3RX.feed, .bool X3RX.again, .int .i64 X3RX.capture, .int .i64 X3RX.slam], .agg #[.slice (some ⟨b26, o26, none⟩) (M.setI X3QX.pits ((X3QX.player * X3RX.pits) + mv) (if (IntKind.i64.wrap (1 + X29KX)) < (IntKind.i64.wrap ((IntKind.i64.wrap ((IntKind.i64.wrap (96 - (M.sum4 X3QX.pits))) - (M.sum4 X3QX.stores))) + (M.getI X3QX.pits ((X3QX.player * X3RX.pits) + mv)))) then (IntKind.i64.wrap (1 + X29KX)) else (IntKind.i64.wrap ((IntKind.i64.wrap ((IntKind.i64.wrap (96 - (M.sum4 X3QX.pits))) - (M.sum4 X3QX.stores))) + (M.getI X3QX.pits ((X3QX.player * X3RX.pits) + mv)))))).length c3rb_0, .slice A3rb_1 X3QX.stores.length c3rb_1, .int .i64 X3QX.player], .int .i64 mv] by rw [hNr1_0]), ?_, ?_, ?_, ?_, ?_, by first | trivial | omega | (dsimp only; omega) | (simp only [List.length_set, M.setI_length]; omega), by first | trivial | omega | (dsimp only; omega) | (simp only [List.length_set, M.setI_length]; omega), by first | trivial | omega | (dsimp only; omega) | (simp only [List.length_set, M.setI_length]; omega), by first | trivial | omega | (dsimp only; omega) | (simp only [List.length_set, M.setI_length]; omega)⟩
   · exact r5_ hNr1_0
   all_goals (try dsimp only)
   all_goals (first | (rw [hNr1_0]; omega) | omega | (simp only [*]; omega) | (simp; done))
  refine Js.skip <| Js.seq ?_
  refine zk [2, 3] (fun F U l os u => l = F [(4, .int .i64 mv)] ∧ os = U [nO, nO, nO, nO, nO, some (boxO b2 [.slice A3rb_0 X3QX.pits.length c3rb_0, .slice A3rb_1 X3QX.stores.length c3rb_1, .int .i64 X3QX.player] 31), some (boxO b1 [.int .i64 X3RX.pits, .int .i64 X3RX.seeds, .bool X3RX.stores, .bool X3RX.skip, .bool X3RX.relay, .bool X3RX.feed, .bool X3RX.again, .int .i64 X3RX.capture, .int .i64 X3RX.slam] 25)]) ?_ ?_
  ·
   refine zdr [3, 4] ?_
   refine JH.q 0 rfl (L9 2 rfl rfl) ?_
   refine jM 2 rfl rfl ?_
   refine y2 1 3 ?_ ?_
   ·
    refine JHo.q rfl (L9 1 rfl rfl) ?_
    refine y1 3 ?_
    refine yst rfl rfl rfl ?_
    refine y1 4 ?_
    refine yst rfl rfl rfl ?_
    refine jA 5 rfl rfl ?_
    refine yd ?_
    exact zm ⟨rfl, rfl⟩ (Up.refl _ _)
   refine yst rfl rfl rfl ?_
   refine y1 1 ?_
   refine JHo.q rfl (L9 1 rfl rfl) ?_
   refine y1 4 ?_
   refine yst rfl rfl rfl ?_
   refine jA 5 rfl rfl ?_
   refine yd ?_
   exact zm ⟨rfl, rfl⟩ (Up.refl _ _)
  rintro _ _ u45 ⟨rfl, rfl⟩ x45
  refine zn ?_
  refine zf [0, 2, 2, 2, 2] fun GG46 => ?_
  refine zn ?_
  refine zrb [0, 0, 0] hb (x16.trans x45) ?_
  refine ⟨(X3RX), (X3QX), (mv), (X23AT), (X23SD), A3rb_0, c3rb_0, A3rb_1, c3rb_1, g3rb_1, rfl, ?_, ?_, ?_, ?_, ?_, by first | trivial | omega | (dsimp only; omega) | (simp only [List.length_set, M.setI_length]; omega), by first | trivial | omega | (dsimp only; omega) | (simp only [List.length_set, M.setI_length]; omega), by first | trivial | omega | (dsimp only; omega) | (simp only [List.length_set, M.setI_length]; omega), by first | trivial | omega | (dsimp only; omega) | (simp only [List.length_set, M.setI_length]; omega)⟩
  · rfl
  all_goals (try dsimp only)
  all_goals (first | (omega) | omega | (simp only [*]; omega) | (simp; done))
 refine Js.region <| zv rfl (fun w hw => c_spec_l04Ok X3RX X3QX (okx_ hw) (okx_ hw)) <| Qm rfl <| zg (Gd.t1 rfl rfl rfl) (fun hc => p_move rfl) <| zg (Gd.t1 rfl rfl rfl) (fun hc => p_fieldAddr fld_25_0.h rfl) <| zgq (Gd.t1 rfl rfl rfl) (fun hc => q_load1 ty_2.h (gh hc rfl) (Mem.box (i := 2) rfl rfl)) <| zg (Gd.t1 rfl rfl rfl) (fun hc => p_sub (gh hc rfl) rfl rfl) <| zgv (Gd.t1 rfl rfl rfl) (fun hc => (opds_3 (gh hc rfl) rfl (gh hc rfl))) (fun hc => (fun w hw => c_spec_l00In mv 0 (IntKind.i64.wrap (X3RX.pits - 1)))) ?_
 refine Qq (p_pickAnd rfl rfl rfl) <| Qm rfl ?_
 refine JL.g (v := undef) (Gd.t1 rfl rfl rfl) (fun hc => absurd hc (by first | (rw [h22]; simp; done) | simp [h22])) ?_
 refine JL.g (v := .bool false) (Gd.t1 rfl rfl rfl) (fun hc => absurd hc (by first | (rw [h22]; simp; done) | simp [h22])) ?_
 refine Qq (p_pickAnd rfl rfl rfl) <| JL.nil ?_
 -- known
 refine Js.condF rfl (by rw [h22]; rfl) ?_
 refine Js.skip <| Js.seq ?_
 refine zk [2, 3] (fun F U l os u => l = F [(4, .int .i64 mv)] ∧ os = U [nO, nO, nO, nO, nO, some (boxO b2 [.slice A3rb_0 X3QX.pits.length c3rb_0, .slice A3rb_1 X3QX.stores.length c3rb_1, .int .i64 X3QX.player] 31), some (boxO b1 [.int .i64 X3RX.pits, .int .i64 X3RX.seeds, .bool X3RX.stores, .bool X3RX.skip, .bool X3RX.relay, .bool X3RX.feed, .bool X3RX.again, .int .i64 X3RX.capture, .int .i64 X3RX.slam] 25)]) ?_ ?_
 ·
  refine zdr [3, 4] ?_
  refine JH.q 0 rfl (L9 2 rfl rfl) ?_
  refine jM 2 rfl rfl ?_
  refine y2 1 3 ?_ ?_
  ·
   refine JHo.q rfl (L9 1 rfl rfl) ?_
   refine y1 3 ?_
   refine yst rfl rfl rfl ?_
   refine y1 4 ?_
   refine yst rfl rfl rfl ?_
   refine jA 5 rfl rfl ?_
   refine yd ?_
   exact zm ⟨rfl, rfl⟩ (Up.refl _ _)
  refine yst rfl rfl rfl ?_
  refine y1 1 ?_
  refine JHo.q rfl (L9 1 rfl rfl) ?_
  refine y1 4 ?_
  refine yst rfl rfl rfl ?_
  refine jA 5 rfl rfl ?_
  refine yd ?_
  exact zm ⟨rfl, rfl⟩ (Up.refl _ _)
 rintro _ _ u47 ⟨rfl, rfl⟩ x47
 refine zn ?_
 refine zf [0, 2, 2, 2, 2] fun GG48 => ?_
 refine zn ?_
 refine zrb [0, 0, 0] hb (x16.trans x47) ?_
 refine ⟨(X3RX), (X3QX), (mv), (at5), (sd5), A3rb_0, c3rb_0, A3rb_1, c3rb_1, g3rb_1, rfl, ?_, ?_, ?_, ?_, ?_, by first | trivial | omega | (dsimp only; omega) | (simp only [List.length_set, M.setI_length]; omega), by first | trivial | omega | (dsimp only; omega) | (simp only [List.length_set, M.setI_length]; omega), by first | trivial | omega | (dsimp only; omega) | (simp only [List.length_set, M.setI_length]; omega), by first | trivial | omega | (dsimp only; omega) | (simp only [List.length_set, M.setI_length]; omega)⟩
 · rfl
 all_goals (try dsimp only)
 all_goals (first | (omega) | omega | (simp only [*]; omega) | (simp; done))
theorem c_spec_l07Draw (s_code : Nat) (s_at s_seed : Int) {As_0 : Option Addr} {cs_0 bs : Nat} {w : World} (hb : Bw w [boxO bs [.slice As_0 s_code cs_0, .int .i64 s_at, .int .u64 s_seed] 91]) (hps_0 : (Ty.bytes 5 s_code).ok (offW w (([boxO bs [.slice As_0 s_code cs_0, .int .i64 s_at, .int .u64 s_seed] 91] : List Own).flatMap (·.fp))) (.slice As_0 s_code cs_0)) (r0 : 0 ≤ s_at := by exact om_) (r1 : s_at ≤ 999994900 := by exact om_) (r2 : s_code ≤ 1048576 := by exact om_) : RetB Try.prog 88 [.pointer (some ⟨bs, 0, none⟩)] w [boxO bs [.slice As_0 s_code cs_0, .int .i64 s_at, .int .u64 s_seed] 91] (fun v bs' => ∃ (RX : M.Rul) (PX : M.Pos) (KX AT SD : Int) (Axrb_0 : Option Addr) (cxrb_0 : Nat) (Axrb_1 : Option Addr) (cxrb_1 : Nat) (gxrb_1 : List Nat), v = .tuple #[.agg #[.int .i64 RX.pits, .int .i64 RX.seeds, .bool RX.stores, .bool RX.skip, .bool RX.relay, .bool RX.feed, .bool RX.again, .int .i64 RX.capture, .int .i64 RX.slam], .agg #[.slice Axrb_0 PX.pits.length cxrb_0, .slice Axrb_1 PX.stores.length cxrb_1, .int .i64 PX.player], .int .i64 KX] ∧ bs' = [boxO bs [.slice As_0 s_code cs_0, .int .i64 AT, .int .u64 SD] 91, rxO 2 (.slice Axrb_0 PX.pits.length cxrb_0) PX.pits.length (ints_ PX.pits), rowO 2 1 (.slice Axrb_1 PX.stores.length cxrb_1) PX.stores.length (ints_ PX.stores) gxrb_1] ∧ PX.pits.length ≤ cxrb_0 ∧ cxrb_0 ≤ 9223372036854775807 ∧ PX.stores.length ≤ cxrb_1 ∧ cxrb_1 ≤ 9223372036854775807 ∧ (RX.pits ≤ 9) ∧ (PX.pits.length ≤ 4194304 ∧ PX.stores.length ≤ 4194304) ∧ (s_at ≤ AT) ∧ (AT ≤ s_at + 5100)) := by
 refine enterB hb @Try.func88 @Try.ntmps88 rfl rfl ?_
 refine zent ?_
 refine Js.trashE ?_
 refine zn ?_
 refine zS <| za zeh fun b1 => za zeh fun b2 => Qa rfl <| zN <| Qm rfl ?_
 refine zhl [2] ?_
 refine zBB 1 sp_ rfl (fun w hb _ hw => c_spec_l05Draw s_code s_at s_seed hb (ok_ hw)) ?_
 rintro _ _ G3 ⟨X3RX, X3PX, X3KX, X3AT, X3SD, A3rb_0, c3rb_0, A3rb_1, c3rb_1, g3rb_1, rfl, rfl, bl3_0, bl3_1, bl3_2, bl3_3, hX3_0, hX3_1, hX3_2, hX3_3⟩
 refine znl ?_
 refine Qm rfl <| Qx rfl rfl <| Qx rfl rfl <| Qx rfl rfl <| za zeh fun b4 => za zeh fun b5 => zw 1 rfl rfl rfl ?_
 refine zw 0 rfl rfl rfl ?_
 refine Qa rfl <| JL.nil ?_
 refine zf [0, 0, 0, 0, 0, 1, 1] fun GG6 => ?_
 refine zn ?_
 refine Js.seq <| Js.seq ?_
 rcases Bool.eq_false_or_eq_true (M.okP X3RX X3PX) with h7 | h7
 ·
  refine Js.region <| zv rfl (fun w hw => c_spec_l04Ok X3RX X3PX (okx_ hw) (okx_ hw)) <| Qm rfl <| zT (Gd.t1 rfl rfl rfl) (show (M.okP X3RX X3PX) = true by first | exact h7 | (rw [h7]; rfl) | simp [h7]) <| Qm rfl <| zT (Gd.t1 rfl rfl rfl) (show (M.okP X3RX X3PX) = true by first | exact h7 | (rw [h7]; rfl) | simp [h7]) ?_
  refine zhl [2] ?_
  refine zBB 1 sp_ rfl (fun w hb _ hw => c_spec_l00Src_one s_code X3AT X3SD 6 hb (ok_ hw)) ?_
  rintro _ _ G8 ⟨X8BX, X8AT, X8SD, rfl, rfl, hX8_0, hX8_1⟩
  refine znl ?_
  refine Qq (p_pickAnd2 rfl rfl rfl) <| JL.nil ?_
  refine zf [0, 1, 1, 1, 1, 1, 1] fun GG9 => ?_
  refine zn ?_
  refine zi (fun h10 h10' => ?_) fun h10 h10' => ?_
  ·
   obtain ⟨g1, g2, g3, g4, _, _, _⟩ := M.okP_bd h7
   refine zS <| Qm rfl <| zBB 1 sp_ rfl (fun w hb _ hw => c_spec_l00Src_pick s_code X8AT X8SD 2 hb (ok_ hw)) ?_
   rintro _ _ G11 ⟨X11KX, X11AT, X11SD, rfl, rfl, hX11_0, hX11_1, hX11_2, hX11_3⟩
   refine znl ?_
   refine Qa rfl <| JL.nil ?_
   refine zf [0, 1, 1, 1, 1, 1, 1] fun GG12 => ?_
   refine zn ?_
   have hm9 := M.mul01 (a := X11KX) (n := X3RX.pits) (by omega) (by omega) (by omega) (by omega)
   obtain ⟨sd9, hsd9⟩ : ∃ x : Int, x = X11KX * X3RX.pits := ⟨_, rfl⟩
   refine Js.seq <| zS <| Qm rfl <| Qf fh rfl <| Q0 2 rfl rfl rfl <| Qu rfl rfl <| Qa rfl <| JL.nil <| Js.block ?_
   refine zl [2, 3, 5, 6, 7, 8] (fun F U l os u m => ∃ (j : Int) (ys : List Int) (G13_7 : List Nat), l = F [(9, .int .i64 j)] ∧ os = U [nO, nO, nO, some (rxO 2 (.slice A3rb_0 X3PX.pits.length c3rb_0) X3PX.pits.length (ints_ ys)), nO, nO, nO, some (anyO G13_7)] ∧ (ys.length = (X3PX.pits).length) ∧ (sd9 ≤ j) ∧ (j ≤ sd9 + X3RX.pits) ∧ m = (sd9 + X3RX.pits - j).toNat) ⟨X11KX * X3RX.pits, X3PX.pits, _, rfl, rfl, by rfl, zt, zt, rfl⟩ ?_
   rintro _ _ u13 _ ⟨j, ys, G13_7, rfl, rfl, hY, hj0, hj1, rfl⟩ x13
   refine zn ?_
   refine Js.seq <| zS <| Qm rfl <| Qm rfl <| Qp rfl rfl <| Qf fh rfl <| Q0 2 rfl rfl rfl <| Qu rfl rfl <| Ql rfl rfl <| JL.nil ?_
   refine zi (fun h14 h14' => ?_) fun h14 h14' => ?_
   ·
    refine Js.skip <| Js.seq <| Js.block ?_
    refine Js.fact (rx_some (i := 3) rfl (by omega)) (fun hf15 => ?_)
    obtain ⟨b15, o15, rfl⟩ := hf15
    refine Js.region <| Qf fh rfl <| Q0 1 rfl rfl rfl <| Qm rfl <| Qq (p_indexAddr el_29 rfl rfl (by omega) (by omega) rfl) ?_
    refine JL.s (e_storeRx (i := 3) (j := j.toNat) (xs' := ints_ (M.setI ys j 0)) ty_2.h rfl rfl rfl rfl rfl (ints_lt (i := j.toNat) (by omega)) (ints_setL (i := j.toNat) (by omega))) ?_
    rintro _ _ _ ⟨rfl, rfl⟩ _
    refine znl ?_
    refine JL.nil <| Js.blockEnd <| Js.region <| Qm rfl <| Qp rfl rfl <| Qa rfl <| JL.nil ?_
    exact zag ⟨j + 1, M.setI ys j 0, _, rfl, rfl, by simp only [M.setI_length, List.length_set]; exact hY, zt, zt, rfl⟩ x13
   refine zx ?_
   refine Js.region <| Qm rfl <| Qs rfl rfl <| Qf fh rfl <| zw 1 rfl rfl rfl ?_
   refine zJ ?_
   refine zk [2, 3] (fun F U l os u => l = F [(4, .int .i64 X3KX)] ∧ os = U [nO, nO, nO, nO, nO, some (boxO b2 [.slice A3rb_0 X3PX.pits.length c3rb_0, .slice A3rb_1 X3PX.stores.length c3rb_1, .int .i64 (1 - X11KX)] 31), some (boxO b1 [.int .i64 X3RX.pits, .int .i64 X3RX.seeds, .bool X3RX.stores, .bool X3RX.skip, .bool X3RX.relay, .bool X3RX.feed, .bool X3RX.again, .int .i64 X3RX.capture, .int .i64 X3RX.slam] 25)]) ?_ ?_
   ·
    refine zdr [3, 4] ?_
    refine JH.q 0 rfl (L9 2 rfl rfl) ?_
    refine jM 2 rfl rfl ?_
    refine y2 1 3 ?_ ?_
    ·
     refine JHo.q rfl (L9 1 rfl rfl) ?_
     refine y1 3 ?_
     refine yst rfl rfl rfl ?_
     refine y1 4 ?_
     refine yst rfl rfl rfl ?_
     refine jA 5 rfl rfl ?_
     refine yd ?_
     exact zm ⟨rfl, rfl⟩ (Up.refl _ _)
    refine yst rfl rfl rfl ?_
    refine y1 1 ?_
    refine JHo.q rfl (L9 1 rfl rfl) ?_
    refine y1 4 ?_
    refine yst rfl rfl rfl ?_
    refine jA 5 rfl rfl ?_
    refine yd ?_
    exact zm ⟨rfl, rfl⟩ (Up.refl _ _)
   rintro _ _ u17 ⟨rfl, rfl⟩ x17
   refine zn ?_
   refine zf [0, 2, 2, 2, 2] fun GG18 => ?_
   refine zn ?_
   refine zrb [0, 0, 0] hb (x13.trans x17) ?_
   have hNr1_0 : ys.length = X3PX.pits.length := by first | rfl | assumption | omega | (simp only [List.length_set, M.setI_length]; done) | (simp only [List.length_set, M.setI_length]; first | rfl | assumption | omega) | (simp only [List.length_drop]; first | done | rfl | omega) | (simp; done) | (simp; omega)
   refine ⟨(X3RX), ((M.Pos.mk ys X3PX.stores (1 - X11KX))), (X3KX), (X11AT), (X11SD), A3rb_0, c3rb_0, A3rb_1, c3rb_1, g3rb_1, (show (.tuple #[.agg #[.int .i64 X3RX.pits, .int .i64 X3RX.seeds, .bool X3RX.stores, .bool X3RX.skip, .bool X3RX.relay, .bool X3RX.feed, .bool X3RX.again, .int .i64 X3RX.capture, .int .i64 X3RX.slam], .agg #[.slice A3rb_0 X3PX.pits.length c3rb_0, .slice A3rb_1 X3PX.stores.length c3rb_1, .int .i64 (1 - X11KX)], .int .i64 X3KX] : Value) = .tuple #[.agg #[.int .i64 X3RX.pits, .int .i64 X3RX.seeds, .bool X3RX.stores, .bool X3RX.skip, .bool X3RX.relay, .bool X3RX.feed, .bool X3RX.again, .int .i64 X3RX.capture, .int .i64 X3RX.slam], .agg #[.slice A3rb_0 ys.length c3rb_0, .slice A3rb_1 X3PX.stores.length c3rb_1, .int .i64 (1 - X11KX)], .int .i64 X3KX] by rw [hNr1_0]), ?_, ?_, ?_, ?_, ?_, by first | trivial | omega | (dsimp only; omega) | (simp only [List.length_set, M.setI_length]; omega), by first | trivial | omega | (dsimp only; omega) | (simp only [List.length_set, M.setI_length]; omega), by first | trivial | omega | (dsimp only; omega) | (simp only [List.length_set, M.setI_length]; omega), by first | trivial | omega | (dsimp only; omega) | (simp only [List.length_set, M.setI_length]; omega)⟩
   · exact r5_ hNr1_0
   all_goals (try dsimp only)
   all_goals (first | (rw [hNr1_0]; omega) | omega | (simp only [*]; omega) | (simp; done))
  refine Js.skip <| Js.seq ?_
  refine zk [2, 3] (fun F U l os u => l = F [(4, .int .i64 X3KX)] ∧ os = U [nO, nO, nO, nO, nO, some (boxO b2 [.slice A3rb_0 X3PX.pits.length c3rb_0, .slice A3rb_1 X3PX.stores.length c3rb_1, .int .i64 X3PX.player] 31), some (boxO b1 [.int .i64 X3RX.pits, .int .i64 X3RX.seeds, .bool X3RX.stores, .bool X3RX.skip, .bool X3RX.relay, .bool X3RX.feed, .bool X3RX.again, .int .i64 X3RX.capture, .int .i64 X3RX.slam] 25)]) ?_ ?_
  ·
   refine zdr [3, 4] ?_
   refine JH.q 0 rfl (L9 2 rfl rfl) ?_
   refine jM 2 rfl rfl ?_
   refine y2 1 3 ?_ ?_
   ·
    refine JHo.q rfl (L9 1 rfl rfl) ?_
    refine y1 3 ?_
    refine yst rfl rfl rfl ?_
    refine y1 4 ?_
    refine yst rfl rfl rfl ?_
    refine jA 5 rfl rfl ?_
    refine yd ?_
    exact zm ⟨rfl, rfl⟩ (Up.refl _ _)
   refine yst rfl rfl rfl ?_
   refine y1 1 ?_
   refine JHo.q rfl (L9 1 rfl rfl) ?_
   refine y1 4 ?_
   refine yst rfl rfl rfl ?_
   refine jA 5 rfl rfl ?_
   refine yd ?_
   exact zm ⟨rfl, rfl⟩ (Up.refl _ _)
  rintro _ _ u19 ⟨rfl, rfl⟩ x19
  refine zn ?_
  refine zf [0, 2, 2, 2, 2] fun GG20 => ?_
  refine zn ?_
  refine zrb [0, 0, 0] hb x19 ?_
  refine ⟨(X3RX), (X3PX), (X3KX), (X8AT), (X8SD), A3rb_0, c3rb_0, A3rb_1, c3rb_1, g3rb_1, rfl, ?_, ?_, ?_, ?_, ?_, by first | trivial | omega | (dsimp only; omega) | (simp only [List.length_set, M.setI_length]; omega), by first | trivial | omega | (dsimp only; omega) | (simp only [List.length_set, M.setI_length]; omega), by first | trivial | omega | (dsimp only; omega) | (simp only [List.length_set, M.setI_length]; omega), by first | trivial | omega | (dsimp only; omega) | (simp only [List.length_set, M.setI_length]; omega)⟩
  · rfl
  all_goals (try dsimp only)
  all_goals (first | (omega) | omega | (simp only [*]; omega) | (simp; done))
 refine Js.region <| zv rfl (fun w hw => c_spec_l04Ok X3RX X3PX (okx_ hw) (okx_ hw)) <| Qm rfl ?_
 refine JL.g (v := undef) (Gd.t1 rfl rfl rfl) (fun hc => absurd hc (by first | (rw [h7]; simp; done) | simp [h7])) ?_
 refine JL.g (v := .bool false) (Gd.t1 rfl rfl rfl) (fun hc => absurd hc (by first | (rw [h7]; simp; done) | simp [h7])) ?_
 refine Qq (p_pickAnd rfl rfl rfl) <| JL.nil ?_
 -- known
 refine Js.condF rfl (by rw [h7]; rfl) ?_
 refine Js.skip <| Js.seq ?_
 refine zk [2, 3] (fun F U l os u => l = F [(4, .int .i64 X3KX)] ∧ os = U [nO, nO, nO, nO, nO, some (boxO b2 [.slice A3rb_0 X3PX.pits.length c3rb_0, .slice A3rb_1 X3PX.stores.length c3rb_1, .int .i64 X3PX.player] 31), some (boxO b1 [.int .i64 X3RX.pits, .int .i64 X3RX.seeds, .bool X3RX.stores, .bool X3RX.skip, .bool X3RX.relay, .bool X3RX.feed, .bool X3RX.again, .int .i64 X3RX.capture, .int .i64 X3RX.slam] 25)]) ?_ ?_
 ·
  refine zdr [3, 4] ?_
  refine JH.q 0 rfl (L9 1 rfl rfl) ?_
  refine jM 2 rfl rfl ?_
  refine y2 1 3 ?_ ?_
  ·
   refine JHo.q rfl (L9 0 rfl rfl) ?_
   refine y1 3 ?_
   refine yst rfl rfl rfl ?_
   refine y1 4 ?_
   refine yst rfl rfl rfl ?_
   refine jA 5 rfl rfl ?_
   refine yd ?_
   exact zm ⟨rfl, rfl⟩ (Up.refl _ _)
  refine yst rfl rfl rfl ?_
  refine y1 1 ?_
  refine JHo.q rfl (L9 0 rfl rfl) ?_
  refine y1 4 ?_
  refine yst rfl rfl rfl ?_
  refine jA 5 rfl rfl ?_
  refine yd ?_
  exact zm ⟨rfl, rfl⟩ (Up.refl _ _)
 rintro _ _ u21 ⟨rfl, rfl⟩ x21
 refine zn ?_
 refine zf [2, 2, 2, 2, 2] fun GG22 => ?_
 refine zn ?_
 refine zrb [0, 0, 0] hb x21 ?_
 refine ⟨(X3RX), (X3PX), (X3KX), (X3AT), (X3SD), A3rb_0, c3rb_0, A3rb_1, c3rb_1, g3rb_1, rfl, ?_, ?_, ?_, ?_, ?_, by first | trivial | omega | (dsimp only; omega) | (simp only [List.length_set, M.setI_length]; omega), by first | trivial | omega | (dsimp only; omega) | (simp only [List.length_set, M.setI_length]; omega), by first | trivial | omega | (dsimp only; omega) | (simp only [List.length_set, M.setI_length]; omega), by first | trivial | omega | (dsimp only; omega) | (simp only [List.length_set, M.setI_length]; omega)⟩
 · rfl
 all_goals (try dsimp only)
 all_goals (first | (omega) | omega | (simp only [*]; omega) | (simp; done))
theorem c_spec_l07Pos (s_code : Nat) (s_at s_seed : Int) {As_0 : Option Addr} {cs_0 bs : Nat} {w : World} (hb : Bw w [boxO bs [.slice As_0 s_code cs_0, .int .i64 s_at, .int .u64 s_seed] 91]) (hps_0 : (Ty.bytes 5 s_code).ok (offW w (([boxO bs [.slice As_0 s_code cs_0, .int .i64 s_at, .int .u64 s_seed] 91] : List Own).flatMap (·.fp))) (.slice As_0 s_code cs_0)) (r0 : 0 ≤ s_at := by exact om_) (r1 : s_at ≤ 999994900 := by exact om_) (r2 : s_code ≤ 1048576 := by exact om_) : RetB Try.prog 80 [.pointer (some ⟨bs, 0, none⟩)] w [boxO bs [.slice As_0 s_code cs_0, .int .i64 s_at, .int .u64 s_seed] 91] (fun v bs' => ∃ (RX : M.Rul) (PX : M.Pos) (AT SD : Int) (Axrb_0 : Option Addr) (cxrb_0 : Nat) (Axrb_1 : Option Addr) (cxrb_1 : Nat) (gxrb_1 : List Nat), v = .tuple #[.agg #[.int .i64 RX.pits, .int .i64 RX.seeds, .bool RX.stores, .bool RX.skip, .bool RX.relay, .bool RX.feed, .bool RX.again, .int .i64 RX.capture, .int .i64 RX.slam], .agg #[.slice Axrb_0 PX.pits.length cxrb_0, .slice Axrb_1 PX.stores.length cxrb_1, .int .i64 PX.player]] ∧ bs' = [boxO bs [.slice As_0 s_code cs_0, .int .i64 AT, .int .u64 SD] 91, rxO 2 (.slice Axrb_0 PX.pits.length cxrb_0) PX.pits.length (ints_ PX.pits), rowO 2 1 (.slice Axrb_1 PX.stores.length cxrb_1) PX.stores.length (ints_ PX.stores) gxrb_1] ∧ PX.pits.length ≤ cxrb_0 ∧ cxrb_0 ≤ 9223372036854775807 ∧ PX.stores.length ≤ cxrb_1 ∧ cxrb_1 ≤ 9223372036854775807 ∧ (RX.pits ≤ 9) ∧ (PX.pits.length ≤ 4194304 ∧ PX.stores.length ≤ 4194304) ∧ (s_at ≤ AT) ∧ (AT ≤ s_at + 5100)) := by
 refine enterB hb @Try.func80 @Try.ntmps80 rfl rfl ?_
 refine zent ?_
 refine Js.trashE ?_
 refine zn ?_
 refine zS <| za zeh fun b1 => za zeh fun b2 => zN <| Qm rfl ?_
 refine zhl [2] ?_
 refine zBB 1 sp_ rfl (fun w hb _ hw => c_spec_l07Draw s_code s_at s_seed hb (ok_ hw)) ?_
 rintro _ _ G3 ⟨X3RX, X3PX, X3KX, X3AT, X3SD, A3rb_0, c3rb_0, A3rb_1, c3rb_1, g3rb_1, rfl, rfl, bl3_0, bl3_1, bl3_2, bl3_3, hX3_0, hX3_1, hX3_2, hX3_3⟩
 refine znl ?_
 refine Qm rfl <| Qx rfl rfl <| Qx rfl rfl <| Qx rfl rfl <| za zeh fun b4 => za zeh fun b5 => zw 1 rfl rfl rfl ?_
 refine zw 0 rfl rfl rfl ?_
 refine Qa rfl <| JL.nil ?_
 refine zf [0, 0, 0, 0, 0, 1, 1] fun GG6 => ?_
 refine zn ?_
 refine Js.seq ?_
 refine zk [2, 3] (fun F U l os u => l = F [] ∧ os = U [nO, nO, nO, nO, nO, some (boxO b2 [.slice A3rb_0 X3PX.pits.length c3rb_0, .slice A3rb_1 X3PX.stores.length c3rb_1, .int .i64 X3PX.player] 31), some (boxO b1 [.int .i64 X3RX.pits, .int .i64 X3RX.seeds, .bool X3RX.stores, .bool X3RX.skip, .bool X3RX.relay, .bool X3RX.feed, .bool X3RX.again, .int .i64 X3RX.capture, .int .i64 X3RX.slam] 25)]) ?_ ?_
 ·
  refine zdr [2, 3] ?_
  refine JH.q 0 rfl (L9 1 rfl rfl) ?_
  refine y2 1 2 ?_ ?_
  ·
   refine JHo.q rfl (L9 0 rfl rfl) ?_
   refine y1 2 ?_
   refine yst rfl rfl rfl ?_
   refine y1 3 ?_
   refine yst rfl rfl rfl ?_
   refine yd ?_
   exact zm ⟨rfl, rfl⟩ (Up.refl _ _)
  refine yst rfl rfl rfl ?_
  refine y1 1 ?_
  refine JHo.q rfl (L9 0 rfl rfl) ?_
  refine y1 3 ?_
  refine yst rfl rfl rfl ?_
  refine yd ?_
  exact zm ⟨rfl, rfl⟩ (Up.refl _ _)
 rintro _ _ u7 ⟨rfl, rfl⟩ x7
 refine zn ?_
 refine zf [2, 2, 2, 2, 2] fun GG8 => ?_
 refine zn ?_
 refine zrb [0, 0, 0] hb x7 ?_
 refine ⟨(X3RX), (X3PX), (X3AT), (X3SD), A3rb_0, c3rb_0, A3rb_1, c3rb_1, g3rb_1, rfl, ?_, ?_, ?_, ?_, ?_, by first | trivial | assumption | omega | (dsimp only; omega), by first | trivial | assumption | omega | (dsimp only; omega), by first | trivial | assumption | omega | (dsimp only; omega), by first | trivial | assumption | omega | (dsimp only; omega)⟩
 · rfl
 all_goals (try dsimp only)
 all_goals (first | (omega) | omega | (simp only [*]; omega) | (simp; done))
theorem c_spec_l15Draw (s_code : Nat) (s_at s_seed : Int) {As_0 : Option Addr} {cs_0 bs : Nat} {w : World} (hb : Bw w [boxO bs [.slice As_0 s_code cs_0, .int .i64 s_at, .int .u64 s_seed] 91]) (hps_0 : (Ty.bytes 5 s_code).ok (offW w (([boxO bs [.slice As_0 s_code cs_0, .int .i64 s_at, .int .u64 s_seed] 91] : List Own).flatMap (·.fp))) (.slice As_0 s_code cs_0)) (r0 : 0 ≤ s_at := by exact om_) (r1 : s_at ≤ 999994800 := by exact om_) (r2 : s_code ≤ 1048576 := by exact om_) : RetB Try.prog 70 [.pointer (some ⟨bs, 0, none⟩)] w [boxO bs [.slice As_0 s_code cs_0, .int .i64 s_at, .int .u64 s_seed] 91] (fun v bs' => ∃ (RX : M.Rul) (PX : M.Pos) (AT SD : Int) (Axrb_0 : Option Addr) (cxrb_0 : Nat) (Axrb_1 : Option Addr) (cxrb_1 : Nat) (gxrb_1 : List Nat), v = .tuple #[.agg #[.int .i64 RX.pits, .int .i64 RX.seeds, .bool RX.stores, .bool RX.skip, .bool RX.relay, .bool RX.feed, .bool RX.again, .int .i64 RX.capture, .int .i64 RX.slam], .agg #[.slice Axrb_0 PX.pits.length cxrb_0, .slice Axrb_1 PX.stores.length cxrb_1, .int .i64 PX.player]] ∧ bs' = [boxO bs [.slice As_0 s_code cs_0, .int .i64 AT, .int .u64 SD] 91, rxO 2 (.slice Axrb_0 PX.pits.length cxrb_0) PX.pits.length (ints_ PX.pits), rowO 2 1 (.slice Axrb_1 PX.stores.length cxrb_1) PX.stores.length (ints_ PX.stores) gxrb_1] ∧ PX.pits.length ≤ cxrb_0 ∧ cxrb_0 ≤ 9223372036854775807 ∧ PX.stores.length ≤ cxrb_1 ∧ cxrb_1 ≤ 9223372036854775807 ∧ (RX.pits ≤ 9) ∧ (PX.pits.length ≤ 4194304 ∧ PX.stores.length ≤ 4194304) ∧ (s_at ≤ AT) ∧ (AT ≤ s_at + 5200)) := by
 refine enterB hb @Try.func70 @Try.ntmps70 rfl rfl ?_
 refine zent ?_
 refine Js.trashE ?_
 refine zn ?_
 refine zS <| za zeh fun b1 => za zeh fun b2 => zJ <| zS <| Qm rfl ?_
 refine zhl [2] ?_
 refine zBB 1 sp_ rfl (fun w hb _ hw => c_spec_l00Src_one s_code s_at s_seed 8 hb (ok_ hw)) ?_
 rintro _ _ G3 ⟨X3BX, X3AT, X3SD, rfl, rfl, hX3_0, hX3_1⟩
 refine znl ?_
 refine JL.nil ?_
 refine zf [0, 1, 1] fun GG4 => ?_
 refine zn ?_
 refine zi (fun h5 h5' => ?_) fun h5 h5' => ?_
 ·
  refine zS <| Qm rfl <| zBB 1 sp_ rfl (fun w hb _ hw => c_spec_l07Pos s_code X3AT X3SD hb (ok_ hw)) ?_
  rintro _ _ G6 ⟨X6RX, X6PX, X6AT, X6SD, A6rb_0, c6rb_0, A6rb_1, c6rb_1, g6rb_1, rfl, rfl, bl6_0, bl6_1, bl6_2, bl6_3, hX6_0, hX6_1, hX6_2, hX6_3⟩
  refine znl ?_
  refine Qx rfl rfl <| Qx rfl rfl <| zw 5 rfl rfl rfl ?_
  refine zw 4 rfl rfl rfl ?_
  refine JL.nil ?_
  refine zf [0, 0, 0, 1, 1] fun GG7 => ?_
  refine zn ?_
  refine zrb [0, 0, 0] hb (Up.refl _ _) ?_
  refine ⟨(X6RX), (X6PX), (X6AT), (X6SD), A6rb_0, c6rb_0, A6rb_1, c6rb_1, g6rb_1, rfl, ?_, ?_, ?_, ?_, ?_, by first | trivial | assumption | omega | (dsimp only; omega) | (simp only [List.length_set, M.setI_length]; omega), by first | trivial | assumption | omega | (dsimp only; omega) | (simp only [List.length_set, M.setI_length]; omega), by first | trivial | assumption | omega | (dsimp only; omega) | (simp only [List.length_set, M.setI_length]; omega), by first | trivial | assumption | omega | (dsimp only; omega) | (simp only [List.length_set, M.setI_length]; omega)⟩
  · rfl
  all_goals (try dsimp only)
  all_goals (first | (omega) | omega | (simp only [*]; omega) | (simp; done))
 refine Js.skip <| zS <| Qm rfl <| zBB 1 sp_ rfl (fun w hb _ hw => c_spec_l02Draw s_code X3AT X3SD hb (ok_ hw)) ?_
 rintro _ _ G8 ⟨X8RX, X8AT, X8SD, rfl, rfl, hX8_0, hX8_1, hX8_2⟩
 refine znl ?_
 refine za zeh fun b9 => zw 0 rfl rfl rfl ?_
 refine JL.nil ?_
 refine zf [0, 0, 1, 1] fun GG10 => ?_
 refine zn ?_
 refine zS <| Qm rfl ?_
 refine zhl [1] ?_
 refine zBB 1 sp_ rfl (fun w hb _ hw => c_spec_l00Src_pick s_code X8AT X8SD 2 hb (ok_ hw)) ?_
 rintro _ _ G11 ⟨X11KX, X11AT, X11SD, rfl, rfl, hX11_0, hX11_1, hX11_2, hX11_3⟩
 refine znl ?_
 refine Qp rfl rfl <| Qf fh rfl <| zw 2 rfl rfl rfl ?_
 refine JL.nil ?_
 refine zf [0, 1, 1, 1] fun GG12 => ?_
 refine zn ?_
 refine zS <| zc rfl (fun w hw => c_spec_l04Start (M.Rul.mk (2 + X11KX) X8RX.seeds X8RX.stores X8RX.skip X8RX.relay X8RX.feed X8RX.again X8RX.capture X8RX.slam) (ok_ hw)) ?_
 intro A14 c14 bl14 bh14 A15 c15 bl15 bh15
 have hl0 : (M.startP (M.Rul.mk (2 + X11KX) X8RX.seeds X8RX.stores X8RX.skip X8RX.relay X8RX.feed X8RX.again X8RX.capture X8RX.slam)).pits.length = (2 * ((M.Rul.mk (2 + X11KX) X8RX.seeds X8RX.stores X8RX.skip X8RX.relay X8RX.feed X8RX.again X8RX.capture X8RX.slam)).pits).toNat := by simp [M.startP]
 have hl1 : (M.startP (M.Rul.mk (2 + X11KX) X8RX.seeds X8RX.stores X8RX.skip X8RX.relay X8RX.feed X8RX.again X8RX.capture X8RX.slam)).stores.length = 2 := rfl
 try dsimp only at hl0
 refine za zeh fun b16 => zw 0 rfl rfl rfl ?_
 refine zJ <| zS <| Qa rfl <| JL.nil <| Js.block ?_
 refine zl [0, 2, 3, 4, 5] (fun F U l os u m => ∃ (k : Nat) (at1 sd1 : Int) (xs : List Int) (G17_7 : List Nat), l = F [(6, .int .i64 (k : Int))] ∧ os = U [nO, nO, some (rowO 2 1 (.slice A14 (((M.startP (M.Rul.mk (2 + X11KX) X8RX.seeds X8RX.stores X8RX.skip X8RX.relay X8RX.feed X8RX.again X8RX.capture X8RX.slam)).pits).length) c14) (((M.startP (M.Rul.mk (2 + X11KX) X8RX.seeds X8RX.stores X8RX.skip X8RX.relay X8RX.feed X8RX.again X8RX.capture X8RX.slam)).pits).length) (ints_ xs) []), some (boxO bs [.slice As_0 s_code cs_0, .int .i64 at1, .int .u64 sd1] 91), nO, nO, nO, some (anyO G17_7)] ∧ (xs.length = ((M.startP (M.Rul.mk (2 + X11KX) X8RX.seeds X8RX.stores X8RX.skip X8RX.relay X8RX.feed X8RX.again X8RX.capture X8RX.slam)).pits).length) ∧ (k ≤ xs.length) ∧ (s_at ≤ at1) ∧ (at1 ≤ s_at + 60 + 4 * k) ∧ m = xs.length - k) ⟨0, X11AT, X11SD, (M.startP (M.Rul.mk (2 + X11KX) X8RX.seeds X8RX.stores X8RX.skip X8RX.relay X8RX.feed X8RX.again X8RX.capture X8RX.slam)).pits, _, rfl, rfl, by rfl, zt, zt, zt, rfl⟩ ?_
 rintro _ _ u17 _ ⟨k, at1, sd1, xs, G17_7, rfl, rfl, hX, hk, ha0, ha1, rfl⟩ x17
 refine zn ?_
 refine Js.seq <| zS <| Qm rfl <| Qf fh rfl <| Q0 0 rfl rfl rfl <| Qz rfl <| Ql rfl rfl <| JL.nil ?_
 refine zi (fun h18 h18' => ?_) fun h18 h18' => ?_
 ·
  refine Js.skip <| Js.seq <| Js.block <| Js.seq ?_
  refine Js.fact (row_some (i := 2) rfl (by omega)) (fun hf19 => ?_)
  obtain ⟨b19, rfl⟩ := hf19
  refine zk [0, 2, 3, 4, 5, 6] (fun F U l os u => ∃ (G20 : List Nat) (X20KX X20AT X20SD : Int), l = F [] ∧ os = [anyO G20] ++ U [nO, nO, some (rowO 2 1 (.slice (some ⟨b19, 0, none⟩) (((M.startP (M.Rul.mk (2 + X11KX) X8RX.seeds X8RX.stores X8RX.skip X8RX.relay X8RX.feed X8RX.again X8RX.capture X8RX.slam)).pits).length) c14) (((M.startP (M.Rul.mk (2 + X11KX) X8RX.seeds X8RX.stores X8RX.skip X8RX.relay X8RX.feed X8RX.again X8RX.capture X8RX.slam)).pits).length) (ints_ (xs.set k X20KX)) []), some (boxO bs [.slice As_0 s_code cs_0, .int .i64 X20AT, .int .u64 X20SD] 91)] ∧ (0 ≤ X20KX) ∧ (X20KX = 0 ∨ X20KX < 4) ∧ (at1 ≤ X20AT) ∧ (X20AT ≤ at1 + 2)) ?_ ?_
  ·
   refine zdr [4, 6] ?_
   refine jF 0 fld_31_0 rfl rfl ?_
   refine jM 2 rfl rfl ?_
   refine jM 3 rfl rfl ?_
   refine y2 1 4 ?_ ?_
   ·
    refine JHo.q rfl (q_load1 ty_29.h rfl (Mem.box (i := 0) rfl rfl)) ?_
    refine y1 4 ?_
    refine zhh [3] ?_
    refine yBB 1 sp_ rfl rfl (fun w hb _ hw => c_spec_l00Src_pick s_code at1 sd1 4 hb (ok_ hw)) ?_
    rintro _ _ G25 ⟨X25KX, X25AT, X25SD, rfl, rfl, hX25_0, hX25_1, hX25_2, hX25_3⟩
    refine znh ?_
    refine jI 5 el_29 rfl rfl rfl rfl ?_
    refine y1 6 ?_
    refine JHo.s rfl (e_storeRow (i := 4) (xs' := ints_ (xs.set k X25KX)) ty_2.h rfl rfl rfl rfl rfl rfl (ints_lt (i := k) (by first | omega | (simp only [List.length_set]; omega))) (ints_setL (i := k) (by first | omega | (simp only [List.length_set]; omega)))) (.inr rfl) ?_
    rintro _ _ _ ⟨rfl, rfl⟩ _
    refine znh ?_
    refine yd ?_
    refine zh [1, 1, 1, 1, 0, 0, 0, 0, 0] ?_
    exact zm ⟨_, _, _, _, rfl, rfl, zt, zt, zt, zt⟩ (Up.refl _ _) ⟨rfl, rfl, rfl, rfl, rfl, rfl, trivial⟩
   refine zhh [3] ?_
   refine yBB 1 sp_ rfl rfl (fun w hb _ hw => c_spec_l00Src_pick s_code at1 sd1 4 hb (ok_ hw)) ?_
   rintro _ _ G27 ⟨X27KX, X27AT, X27SD, rfl, rfl, hX27_0, hX27_1, hX27_2, hX27_3⟩
   refine znh ?_
   refine y1 1 ?_
   refine JHo.q rfl (q_load1 ty_29.h rfl (Mem.box (i := 2) rfl rfl)) ?_
   refine jI 5 el_29 rfl rfl rfl rfl ?_
   refine y1 6 ?_
   refine JHo.s rfl (e_storeRow (i := 4) (xs' := ints_ (xs.set k X27KX)) ty_2.h rfl rfl rfl rfl rfl rfl (ints_lt (i := k) (by first | omega | (simp only [List.length_set]; omega))) (ints_setL (i := k) (by first | omega | (simp only [List.length_set]; omega)))) (.inr rfl) ?_
   rintro _ _ _ ⟨rfl, rfl⟩ _
   refine znh ?_
   refine yd ?_
   refine zh [1, 1, 1, 1, 0, 0, 0, 0, 0] ?_
   exact zm ⟨_, _, _, _, rfl, rfl, zt, zt, zt, zt⟩ (Up.refl _ _) ⟨rfl, rfl, rfl, rfl, rfl, rfl, trivial⟩
  rintro _ _ u24 ⟨G20, X20KX, X20AT, X20SD, rfl, rfl, f24_0, f24_1, f24_2, f24_3⟩ x24
  refine zn ?_
  refine zf [1, 1, 1, 1, 1, 1, 1] fun GG29 => ?_
  refine zn ?_
  refine zS <| Qm rfl ?_
  refine zhl [3] ?_
  refine zBB 1 sp_ rfl (fun w hb _ hw => c_spec_l00Src_one s_code X20AT X20SD 3 hb (ok_ hw)) ?_
  rintro _ _ G30 ⟨X30BX, X30AT, X30SD, rfl, rfl, hX30_0, hX30_1⟩
  refine znl ?_
  refine JL.nil ?_
  refine zf [0, 1, 1, 1, 1, 1, 1] fun GG31 => ?_
  refine zn ?_
  refine zi (fun h32 h32' => ?_) fun h32 h32' => ?_
  ·
   refine Js.region <| Qf fh rfl <| Q0 1 rfl rfl rfl <| Qm rfl <| Qq (p_indexAddr el_29 rfl rfl (by omega) (by omega) rfl) ?_
   refine JL.s (e_storeRow (i := 3) (xs' := ints_ ((xs.set k X20KX).set k 0)) ty_2.h rfl rfl rfl rfl rfl rfl (ints_lt (i := k) (by first | omega | (simp only [List.length_set]; omega))) (ints_setL (i := k) (by first | omega | (simp only [List.length_set]; omega)))) ?_
   rintro _ _ _ ⟨rfl, rfl⟩ _
   refine znl ?_
   refine JL.nil <| Js.blockEnd <| Js.region <| Qm rfl <| Qp rfl rfl <| Qa rfl <| JL.nil ?_
   refine zf [1, 1, 1, 0, 0, 0, 0] fun GG34 => ?_
   refine zn ?_
   exact zag ⟨k + 1, X30AT, X30SD, (xs.set k X20KX).set k 0, _, rfl, rfl, by simp only [List.length_set]; exact hX, by simp only [List.length_set]; omega, zt, zt, rfl⟩ (x17.trans x24) (by simp only [List.length_set]; omega)
  refine Js.skip <| Js.blockEnd <| Js.region <| Qm rfl <| Qp rfl rfl <| Qa rfl <| JL.nil ?_
  refine zf [1, 1, 1, 0, 0, 0, 0] fun GG35 => ?_
  refine zn ?_
  exact zag ⟨k + 1, X30AT, X30SD, xs.set k X20KX, _, rfl, rfl, by simp only [List.length_set]; exact hX, by simp only [List.length_set]; omega, zt, zt, rfl⟩ (x17.trans x24) (by simp only [List.length_set]; omega)
 refine zx ?_
 refine zS <| Qm rfl ?_
 refine zhl [3] ?_
 refine zBB 1 sp_ rfl (fun w hb _ hw => c_spec_l00Src_pick s_code at1 sd1 2 hb (ok_ hw)) ?_
 rintro _ _ G36 ⟨X36KX, X36AT, X36SD, rfl, rfl, hX36_0, hX36_1, hX36_2, hX36_3⟩
 refine znl ?_
 refine Qf fh rfl <| zw 2 rfl rfl rfl ?_
 refine JL.nil ?_
 refine zf [0, 1, 1, 1, 1, 1, 1] fun GG37 => ?_
 refine zn ?_
 refine Js.seq ?_
 refine zk [2, 3] (fun F U l os u => l = F [] ∧ os = U [nO, nO, nO, nO, nO, some (boxO b2 [.slice A14 (((M.startP (M.Rul.mk (2 + X11KX) X8RX.seeds X8RX.stores X8RX.skip X8RX.relay X8RX.feed X8RX.again X8RX.capture X8RX.slam)).pits).length) c14, .slice A15 (((M.startP (M.Rul.mk (2 + X11KX) X8RX.seeds X8RX.stores X8RX.skip X8RX.relay X8RX.feed X8RX.again X8RX.capture X8RX.slam)).stores).length) c15, .int .i64 X36KX] 31), some (boxO b1 [.int .i64 (2 + X11KX), .int .i64 X8RX.seeds, .bool X8RX.stores, .bool X8RX.skip, .bool X8RX.relay, .bool X8RX.feed, .bool X8RX.again, .int .i64 X8RX.capture, .int .i64 X8RX.slam] 25)]) ?_ ?_
 ·
  refine zdr [2, 3] ?_
  refine JH.q 0 rfl (L9 4 rfl rfl) ?_
  refine y2 1 2 ?_ ?_
  ·
   refine JHo.q rfl (L9 1 rfl rfl) ?_
   refine y1 2 ?_
   refine yst rfl rfl rfl ?_
   refine y1 3 ?_
   refine yst rfl rfl rfl ?_
   refine yd ?_
   exact zm ⟨rfl, rfl⟩ (Up.refl _ _)
  refine yst rfl rfl rfl ?_
  refine y1 1 ?_
  refine JHo.q rfl (L9 1 rfl rfl) ?_
  refine y1 3 ?_
  refine yst rfl rfl rfl ?_
  refine yd ?_
  exact zm ⟨rfl, rfl⟩ (Up.refl _ _)
 rintro _ _ u38 ⟨rfl, rfl⟩ x38
 refine zn ?_
 refine zf [0, 1, 1, 2, 2] fun GG39 => ?_
 refine zn ?_
 refine Js.conv (fun w hw => St.toRx (i := 2) rfl hw) ?_
 refine zn ?_
 refine zrb [2, 0, 1] hb (x17.trans x38) ?_
 have hNr1_0 : xs.length = ((M.startP (M.Rul.mk (2 + X11KX) X8RX.seeds X8RX.stores X8RX.skip X8RX.relay X8RX.feed X8RX.again X8RX.capture X8RX.slam)).pits).length := by first | rfl | assumption | omega | (simp only [List.length_set, M.setI_length]; done) | (simp only [List.length_set, M.setI_length]; first | rfl | assumption | omega) | (simp only [List.length_drop]; first | done | rfl | omega) | (simp; done) | (simp; omega)
 refine ⟨((M.Rul.mk (2 + X11KX) X8RX.seeds X8RX.stores X8RX.skip X8RX.relay X8RX.feed X8RX.again X8RX.capture X8RX.slam)), ((M.Pos.mk xs ((M.startP (M.Rul.mk (2 + X11KX) X8RX.seeds X8RX.stores X8RX.skip X8RX.relay X8RX.feed X8RX.again X8RX.capture X8RX.slam)).stores) X36KX)), (X36AT), (X36SD), A14, c14, A15, c15, [], (show (.tuple #[.agg #[.int .i64 (2 + X11KX), .int .i64 X8RX.seeds, .bool X8RX.stores, .bool X8RX.skip, .bool X8RX.relay, .bool X8RX.feed, .bool X8RX.again, .int .i64 X8RX.capture, .int .i64 X8RX.slam], .agg #[.slice A14 (((M.startP (M.Rul.mk (2 + X11KX) X8RX.seeds X8RX.stores X8RX.skip X8RX.relay X8RX.feed X8RX.again X8RX.capture X8RX.slam)).pits).length) c14, .slice A15 (((M.startP (M.Rul.mk (2 + X11KX) X8RX.seeds X8RX.stores X8RX.skip X8RX.relay X8RX.feed X8RX.again X8RX.capture X8RX.slam)).stores).length) c15, .int .i64 X36KX]] : Value) = .tuple #[.agg #[.int .i64 (2 + X11KX), .int .i64 X8RX.seeds, .bool X8RX.stores, .bool X8RX.skip, .bool X8RX.relay, .bool X8RX.feed, .bool X8RX.again, .int .i64 X8RX.capture, .int .i64 X8RX.slam], .agg #[.slice A14 xs.length c14, .slice A15 ((M.startP (M.Rul.mk (2 + X11KX) X8RX.seeds X8RX.stores X8RX.skip X8RX.relay X8RX.feed X8RX.again X8RX.capture X8RX.slam)).stores).length c15, .int .i64 X36KX]] by rw [hNr1_0]), ?_, ?_, ?_, ?_, ?_, by first | trivial | assumption | omega | (dsimp only; omega) | (simp only [List.length_set, M.setI_length]; omega), by first | trivial | assumption | omega | (dsimp only; omega) | (simp only [List.length_set, M.setI_length]; omega), by first | trivial | assumption | omega | (dsimp only; omega) | (simp only [List.length_set, M.setI_length]; omega), by first | trivial | assumption | omega | (dsimp only; omega) | (simp only [List.length_set, M.setI_length]; omega)⟩
 · exact r5_ hNr1_0
 all_goals (try dsimp only)
 all_goals (first | (rw [hNr1_0]; omega) | omega | (simp only [*]; omega) | (simp; done))
theorem c_spec_l15End (r : M.Rul) {v_r : Value} (p : M.Pos) {v_p : Value} {w : World} (h_r : (Ty.ref (cRules r)).ok w v_r) (h_p : (Ty.ref (cPosition p)).ok w v_p) (r0 : M.okP r p = true := by exact om_) : RetV Try.prog 78 [v_r, v_p] w (.int .i64 (M.endV r p)) := by
 obtain ⟨g1, g2, g3, g4, g5, g6, g7⟩ := M.okP_bd r0
 have g8 := M.results_8 r0
 have b1 := M.side_bd g5 g2 p.player
 have b2 := M.side_bd g5 g2 (1 - p.player)
 revert v_r; apply opn
 intro b1 o1 hr1
 revert v_p; apply opn
 intro b4 o4 A2 c2 h2 bl2 bh2 A3 c3 h3 bl3 bh3 hr4
 refine enter @Try.func78 @Try.ntmps78 rfl rfl ?_
 refine zent ?_
 refine zS <| Qa rfl <| zJ ?_
 refine zdr [] ?_
 refine jM 0 rfl rfl ?_
 refine jM 1 rfl rfl ?_
 refine jN 2 rfl rfl ?_
 refine jF 3 fld_31_0 rfl rfl ?_
 refine jW 4 ty_29 rfl rfl (fun hv => (hr4.vis hv) 0 _ rfl) ?_
 refine jM 5 rfl rfl ?_
 refine jN 6 rfl rfl ?_
 refine jF 7 fld_31_2 rfl rfl ?_
 refine jW 8 ty_2 rfl rfl (fun hv => (hr4.vis hv) 2 _ rfl) ?_
 refine jM 10 rfl rfl ?_
 refine jM 11 rfl rfl ?_
 refine jN 12 rfl rfl ?_
 refine jF 13 fld_31_0 rfl rfl ?_
 refine jW 14 ty_29 rfl rfl (fun hv => (hr4.vis hv) 0 _ rfl) ?_
 refine jM 15 rfl rfl ?_
 refine jN 16 rfl rfl ?_
 refine jF 17 fld_31_2 rfl rfl ?_
 refine jW 18 ty_2 rfl rfl (fun hv => (hr4.vis hv) 2 _ rfl) ?_
 refine JH.p 19 rfl (p_sub rfl rfl (IntWalk.i64_in _ (by omega))) ?_
 refine y1 9 ?_
 refine yv rfl rfl (fun w hw => c_spec_l04Side r p.pits p.player (ok_ hw) (ok_ hw) (r4 := g5)) ?_
 refine y1 20 ?_
 refine yv rfl rfl (fun w hw => c_spec_l04Side r p.pits (1 - p.player) (ok_ hw) (ok_ hw) (r4 := g5)) ?_
 refine JH.p 21 rfl (p_sub rfl rfl (IntWalk.i64_in _ (by omega))) ?_
 refine jA 22 rfl rfl ?_
 refine yd ?_
 refine zR (Up.refl _ _) ?_
 rfl
def S_spec_l15S_value (N : Nat) : Prop := ∀ (s_r : M.Rul) (s_size : Int) (bs_0 : Nat) (os_0 : Nat) (p : M.Pos) (v_p : Value) (depth : Int) (bs : Nat) (w : World) (hb : Bw w [boxO bs [.pointer (some ⟨bs_0, os_0, none⟩), .int .i64 s_size] 117]) (hps_0 : RowAt (offW w (([boxO bs [.pointer (some ⟨bs_0, os_0, none⟩), .int .i64 s_size] 117] : List Own).flatMap (·.fp))) bs_0 os_0 [.int .i64 s_r.pits, .int .i64 s_r.seeds, .bool s_r.stores, .bool s_r.skip, .bool s_r.relay, .bool s_r.feed, .bool s_r.again, .int .i64 s_r.capture, .int .i64 s_r.slam]) (h_p : (Ty.ref (cPosition p)).ok (offW w (([boxO bs [.pointer (some ⟨bs_0, os_0, none⟩), .int .i64 s_size] 117] : List Own).flatMap (·.fp))) v_p) (r0 : M.okP s_r p = true) (r1 : 0 ≤ depth) (r2 : depth ≤ 8) (r3 : 0 ≤ s_size) (r4 : s_size ≤ 100000) (_ : depth.toNat = N), RetB Try.prog 77 [.pointer (some ⟨bs, 0, none⟩), v_p, .int .i64 depth] w [boxO bs [.pointer (some ⟨bs_0, os_0, none⟩), .int .i64 s_size] 117] (fun v bs' => v = .int .i64 ((M.sv s_r depth.toNat p s_size).1) ∧ bs' = [boxO bs [.pointer (some ⟨bs_0, os_0, none⟩), .int .i64 ((M.sv s_r depth.toNat p s_size).2)] 117])
theorem c_spec_l15S_option_ (N : Nat) (ih : ∀ m, m < N → S_spec_l15S_value m) (s_r : M.Rul) (s_size : Int) (bs_0 : Nat) (os_0 : Nat) (x : M.Res) (v_x : Value) (depth : Int) (bs : Nat) (w : World) (hb : Bw w [boxO bs [.pointer (some ⟨bs_0, os_0, none⟩), .int .i64 s_size] 117]) (hps_0 : RowAt (offW w (([boxO bs [.pointer (some ⟨bs_0, os_0, none⟩), .int .i64 s_size] 117] : List Own).flatMap (·.fp))) bs_0 os_0 [.int .i64 s_r.pits, .int .i64 s_r.seeds, .bool s_r.stores, .bool s_r.skip, .bool s_r.relay, .bool s_r.feed, .bool s_r.again, .int .i64 s_r.capture, .int .i64 s_r.slam]) (h_x : (Ty.ref (cResult x)).ok (offW w (([boxO bs [.pointer (some ⟨bs_0, os_0, none⟩), .int .i64 s_size] 117] : List Own).flatMap (·.fp))) v_x) (r0 : M.okP s_r x.next = true) (r1 : 1 ≤ depth) (r2 : depth ≤ 8) (r3 : 0 ≤ s_size) (r4 : s_size ≤ 100000) (r5 : -96 ≤ x.gain ∧ x.gain ≤ 96) (hN : depth.toNat = N) : RetB Try.prog 86 [.pointer (some ⟨bs, 0, none⟩), v_x, .int .i64 depth] w [boxO bs [.pointer (some ⟨bs_0, os_0, none⟩), .int .i64 s_size] 117] (fun v bs' => v = .int .i64 (M.moveV x (M.sv s_r (depth - 1).toNat x.next s_size).1) ∧ bs' = [boxO bs [.pointer (some ⟨bs_0, os_0, none⟩), .int .i64 ((M.sv s_r (depth - 1).toNat x.next s_size).2)] 117]) := by
 have hvb := M.sv_vbd (depth - 1).toNat x.next s_size r0
 have g9 := M.okP_len r0
 revert v_x; apply opn
 intro b3 o3 A1 c1 h1 bl1 bh1 A2 c2 h2 bl2 bh2 hr3
 refine enterB hb @Try.func86 @Try.ntmps86 rfl rfl ?_
 refine zent ?_
 refine Js.trashE ?_
 refine zn ?_
 refine zS <| Qa rfl <| zN <| Qm rfl <| Qm rfl <| Qc rfl <| Qf fh rfl <| Qm rfl <| Qs rfl rfl <| zBB 1 sp_ rfl (fun w hb _ hw => ih ((depth - 1).toNat) (by omega) s_r s_size bs_0 os_0 x.next _ (depth - 1) bs w hb (hps_0.vis hw.vis) (ok_ hw) r0 (by omega) (by omega) (by omega) (by omega) rfl) ?_
 rintro _ _ G4 ⟨rfl, rfl⟩
 refine znl ?_
 refine Qa rfl <| zJ <| zS <| Qm rfl <| Qc rfl <| Qf fh rfl <| QC (hr3 2 _ rfl) rfl <| JL.nil ?_
 refine zi (fun h5 h5' => ?_) fun h5 h5' => ?_
 ·
  have hQ := M.moveV_y (v := (M.sv s_r (depth - 1).toNat x.next s_size).1) h5
  refine zS <| Qm rfl <| Qc rfl <| Qf fh rfl <| QC (hr3 1 _ rfl) rfl <| Qm rfl <| Qp rfl rfl <| Qa rfl <| JL.nil ?_
  refine zrb [0] hb (Up.refl _ _) ?_
  have hE : (.int .i64 (x.gain + ((M.sv s_r (depth - 1).toNat x.next s_size).1)) : Value) = .int .i64 (M.moveV x (M.sv s_r (depth - 1).toNat x.next s_size).1) := by rw [hQ]
  exact ⟨hE, rfl⟩
 have hQ := M.moveV_n (v := (M.sv s_r (depth - 1).toNat x.next s_size).1) (by simpa using h5)
 refine Js.skip <| zS <| Qm rfl <| Qc rfl <| Qf fh rfl <| QC (hr3 1 _ rfl) rfl <| Qm rfl <| Qs rfl rfl <| Qa rfl <| JL.nil ?_
 refine zrb [0] hb (Up.refl _ _) ?_
 have hE : (.int .i64 (x.gain - ((M.sv s_r (depth - 1).toNat x.next s_size).1)) : Value) = .int .i64 (M.moveV x (M.sv s_r (depth - 1).toNat x.next s_size).1) := by rw [hQ]
 exact ⟨hE, rfl⟩
theorem c_spec_l15S_value_ : ∀ N, S_spec_l15S_value N := by
 intro N
 induction N using Nat.strongRecOn with
 | ind N ih =>
 intro s_r s_size bs_0 os_0 p v_p depth bs w hb hps_0 h_p r0 r1 r2 r3 r4 hN
 obtain ⟨g1, g2, g3, g4, g5, g6, g7⟩ := M.okP_bd r0
 have g8 := M.results_8 r0
 have g9 := M.okP_len r0
 have g10 := M.results_8R (M.okP_okR r0)
 revert v_p; apply opn
 intro b3 o3 A1 c1 h1 bl1 bh1 A2 c2 h2 bl2 bh2 hr3
 refine enterB hb @Try.func77 @Try.ntmps77 rfl rfl ?_
 refine zent ?_
 refine Js.trashE ?_
 refine zn ?_
 refine zS <| Qa rfl <| zN <| Qm rfl <| Qc rfl <| Qf fh rfl <| Q0 0 rfl rfl rfl <| Qp rfl rfl <| Qc rfl <| Qf fh rfl <| zw 0 rfl rfl rfl ?_
 refine zJ <| zS <| Qm rfl <| Qc rfl <| Qf fh rfl <| Q0 0 rfl rfl rfl <| Qg rfl rfl <| JL.nil ?_
 refine zi (fun h4 h4' => ?_) fun h4 h4' => ?_
 ·
  have hQ := M.sv_big (r := s_r) (d := depth.toNat) (p := p) (s := s_size) (by have := h4'; omega)
  refine zS <| Qa rfl <| JL.nil ?_
  refine zrb [0] hb (Up.refl _ _) ?_
  have hE : (.int .i64 0 : Value) = .int .i64 ((M.sv s_r depth.toNat p s_size).1) := by rw [hQ]
  have hE1 : (M.sv s_r depth.toNat p s_size).2 = (s_size + 1) := by rw [hQ]
  refine ⟨hE, ?_⟩
  · rw [hE1]
 have hbg : ¬ 3000 < s_size + 1 := by have := h4'; omega
 refine Js.skip <| zS <| Qm rfl <| Qc rfl <| Qf fh rfl <| Q0 0 rfl rfl rfl <| Qm rfl <| zp rfl (fun w hw => c_spec_l07All s_r p (ok_ hw) (ok_ hw) (r0 := r0)) ?_
 intro u5 x5 A6 c6 h6 bl6 bh6
 refine Qa rfl <| zJ <| zS <| Qm rfl <| Qz rfl <| Qe rfl rfl <| JL.nil ?_
 refine zi (fun h7 h7' => ?_) fun h7 h7' => ?_
 ·
  have hQ := M.sv_end (r := s_r) (p := p) (d := depth.toNat) hbg (by have := h7'; omega)
  refine zS <| Qm rfl <| Qc rfl <| Qf fh rfl <| Q0 0 rfl rfl rfl <| Qm rfl <| zv rfl (fun w hw => c_spec_l15End s_r p (ok_ hw) (ok_ hw) (r0 := r0)) <| Qa rfl <| JL.nil ?_
  refine zrb [0] hb x5 ?_
  have hE : (.int .i64 (M.endV s_r p) : Value) = .int .i64 ((M.sv s_r depth.toNat p s_size).1) := by rw [hQ]
  have hE1 : (M.sv s_r depth.toNat p s_size).2 = (s_size + 1) := by rw [hQ]
  refine ⟨hE, ?_⟩
  · rw [hE1]
 have hne : (M.results s_r p).length ≠ 0 := by have := h7'; omega
 refine Js.skip <| Js.seq <| zS <| Qm rfl <| Qe rfl rfl <| JL.nil ?_
 refine zi (fun h8 h8' => ?_) fun h8 h8' => ?_
 ·
  have hQ : (M.sv s_r depth.toNat p s_size) = (0, s_size + 1) := by rw [show depth.toNat = 0 by have := h8'; omega]; exact M.sv_0 hbg hne
  refine zS <| Qa rfl <| JL.nil ?_
  refine zrb [0] hb x5 ?_
  have hE : (.int .i64 0 : Value) = .int .i64 ((M.sv s_r depth.toNat p s_size).1) := by rw [hQ]
  have hE1 : (M.sv s_r depth.toNat p s_size).2 = (s_size + 1) := by rw [hQ]
  refine ⟨hE, ?_⟩
  · rw [hE1]
 have hd : 1 ≤ depth := by have := h8'; omega
 refine Js.skip <| zS <| Qa rfl <| zJ <| zS <| Qa rfl <| JL.nil <| Js.block ?_
 refine zl [0, 2, 7] (fun F U l os u m => ∃ (k : Nat) (b z : Int) (G9_1 : List Nat), l = F [(8, .int .i64 b), (9, .int .i64 (k : Int))] ∧ os = U [some (boxO bs [.pointer (some ⟨bs_0, os_0, none⟩), .int .i64 z] 117), some (anyO G9_1)] ∧ (M.svL (M.sv s_r (depth - 1).toNat) (decide (k = 0)) b z ((M.results s_r p).drop k) = (M.sv s_r depth.toNat p s_size)) ∧ (0 ≤ z) ∧ (z ≤ 3001 + 8 * (depth - 1) + k) ∧ (-2000 ≤ b) ∧ (b ≤ 2000) ∧ (k ≤ (M.results s_r p).length) ∧ m = (M.results s_r p).length - k) ⟨0, 0, s_size + 1, _, rfl, rfl, by exact (M.sv_d hbg hne hd).symm, zt, zt, zt, zt, zt, rfl⟩ ?_
 rintro _ _ u9 _ ⟨k, b, z, G9_1, rfl, rfl, hS, z0, z1, b0, b1, hk, rfl⟩ x9
 refine zn ?_
 refine Js.seq <| zS <| Qm rfl <| Qm rfl <| Qz rfl <| Ql rfl rfl <| JL.nil ?_
 refine zi (fun h10 h10' => ?_) fun h10 h10' => ?_
 ·
  obtain ⟨y11, hy11⟩ : ∃ x, (M.results s_r p)[k]? = some x := ⟨_, List.getElem?_eq_getElem (by omega)⟩
  obtain ⟨b11, o11, A11_3, c11_3, A11_4, c11_4, he11, hr11, h11_3, h11_4, bl11_3, bh11_3, bl11_4, bh11_4⟩ := elem_Result (Ty.mono _ h6 x9.vis) hy11
  have hgb9 := M.results_gain (M.results_get0 hy11)
  have hsb9 := M.sv_bd (depth - 1).toNat y11.next z g10
  have hvb9 := M.moveV_bd hgb9 (M.sv_vbd (depth - 1).toNat y11.next z (M.results_ok (M.results_get0 hy11)))
  refine Js.skip <| Js.seq <| Js.block <| zS <| Qm rfl <| Qm rfl <| Qm rfl <| Qq (p_indexAddr el_107 rfl rfl (by omega) (by omega) he11) <| Qm rfl <| zBB 1 sp_ rfl (fun w hb _ hw => c_spec_l15S_option_ _ ih s_r z bs_0 os_0 y11 _ depth bs w hb (hps_0.vis ((x5.vis.trans x9.vis).trans hw.vis)) (ok_ hw) (M.results_ok (M.results_get0 hy11)) (by omega) (by omega) (by omega) (by omega) hgb9 (by omega)) ?_
  rintro _ _ G12 ⟨rfl, rfl⟩
  refine znl ?_
  refine Qa rfl <| zN <| Qm rfl <| Qe rfl rfl <| Qm rfl <| zg (Gd.f1 rfl rfl rfl) (fun hc => p_move rfl) <| zg (Gd.f1 rfl rfl rfl) (fun hc => p_move rfl) <| zg (Gd.f1 rfl rfl rfl) (fun hc => p_gtr (gh hc rfl) (gh hc rfl)) <| Qq (p_pickOr rfl rfl rfl) <| JL.nil ?_
  refine zi (fun h13 h13' => ?_) fun h13 h13' => ?_
  ·
   have hS2 := M.svL_y hS hy11 (by have := h13'; omega)
   refine Js.region <| Qm rfl <| Qa rfl <| JL.nil <| Js.blockEnd <| Js.region <| Qm rfl <| Qp rfl rfl <| Qa rfl <| JL.nil ?_
   refine zf [0] fun GG14 => ?_
   refine zn ?_
   exact zag ⟨k + 1, M.moveV y11 (M.sv s_r (depth - 1).toNat y11.next z).1, (M.sv s_r (depth - 1).toNat y11.next z).2, _, rfl, rfl, by exact hS2, zt, zt, zt, zt, zt, rfl⟩ x9
  have hS2 := M.svL_n hS hy11 (by have := h13'; omega)
  refine Js.skip <| Js.blockEnd <| Js.region <| Qm rfl <| Qp rfl rfl <| Qa rfl <| JL.nil ?_
  refine zf [0] fun GG15 => ?_
  refine zn ?_
  exact zag ⟨k + 1, b, (M.sv s_r (depth - 1).toNat y11.next z).2, _, rfl, rfl, by exact hS2, zt, zt, zt, zt, zt, rfl⟩ x9
 have hQ := M.svL_e hS (by have := h10'; omega)
 refine zx ?_
 refine zS <| Qm rfl <| Qa rfl <| JL.nil ?_
 refine zrb [0] hb (x5.trans x9) ?_
 have hE : (.int .i64 b : Value) = .int .i64 ((M.sv s_r depth.toNat p s_size).1) := by rw [hQ]
 have hE1 : (M.sv s_r depth.toNat p s_size).2 = z := by rw [hQ]
 refine ⟨hE, ?_⟩
 · rw [hE1]
theorem c_spec_l15S_value (s_r : M.Rul) (s_size : Int) {bs_0 os_0 : Nat} (p : M.Pos) {v_p : Value} (depth : Int) {bs : Nat} {w : World} (hb : Bw w [boxO bs [.pointer (some ⟨bs_0, os_0, none⟩), .int .i64 s_size] 117]) (hps_0 : RowAt (offW w (([boxO bs [.pointer (some ⟨bs_0, os_0, none⟩), .int .i64 s_size] 117] : List Own).flatMap (·.fp))) bs_0 os_0 [.int .i64 s_r.pits, .int .i64 s_r.seeds, .bool s_r.stores, .bool s_r.skip, .bool s_r.relay, .bool s_r.feed, .bool s_r.again, .int .i64 s_r.capture, .int .i64 s_r.slam]) (h_p : (Ty.ref (cPosition p)).ok (offW w (([boxO bs [.pointer (some ⟨bs_0, os_0, none⟩), .int .i64 s_size] 117] : List Own).flatMap (·.fp))) v_p) (r0 : M.okP s_r p = true := by exact om_) (r1 : 0 ≤ depth := by exact om_) (r2 : depth ≤ 8 := by exact om_) (r3 : 0 ≤ s_size := by exact om_) (r4 : s_size ≤ 100000 := by exact om_) : RetB Try.prog 77 [.pointer (some ⟨bs, 0, none⟩), v_p, .int .i64 depth] w [boxO bs [.pointer (some ⟨bs_0, os_0, none⟩), .int .i64 s_size] 117] (fun v bs' => v = .int .i64 ((M.sv s_r depth.toNat p s_size).1) ∧ bs' = [boxO bs [.pointer (some ⟨bs_0, os_0, none⟩), .int .i64 ((M.sv s_r depth.toNat p s_size).2)] 117]) := c_spec_l15S_value_ _ s_r s_size bs_0 os_0 p v_p depth bs w hb hps_0 h_p r0 r1 r2 r3 r4 rfl
theorem c_spec_l15Code (r : M.Rul) {v_r : Value} (p : M.Pos) {v_p : Value} (depth : Int) {w : World} (h_r : (Ty.ref (cRules r)).ok w v_r) (h_p : (Ty.ref (cPosition p)).ok w v_p) (r0 : p.pits.length ≤ 4194304 := by exact om_) (r1 : p.stores.length ≤ 4194304 := by exact om_) : RetV Try.prog 76 [v_r, v_p, .int .i64 depth] w (.int .i64 (M.baseC r p depth)) := by
 revert v_r; apply opn
 intro b1 o1 hr1
 revert v_p; apply opn
 intro b4 o4 A2 c2 h2 bl2 bh2 A3 c3 h3 bl3 bh3 hr4
 refine enter @Try.func76 @Try.ntmps76 rfl rfl ?_
 refine zent ?_
 refine zS <| Qa rfl <| zJ <| zS <| Qm rfl <| Qm rfl <| zv rfl (fun w hw => c_spec_l04Ok r p (ok_ hw) (ok_ hw)) <| Qt rfl <| JL.nil ?_
 refine zi (fun h5 h5' => ?_) fun h5 h5' => ?_
 ·
  have hE := M.baseC_1 (depth := depth) (by simpa using h5)
  refine zS <| Qa rfl <| JL.nil ?_
  refine zR (Up.refl _ _) ?_
  rw [hE]; rfl
 have hok : M.okP r p = true := by simpa using h5
 refine Js.skip <| Js.seq <| zS <| Qm rfl <| zv rfl (fun w hw => c_spec_l00In depth 0 8) <| Qt rfl <| JL.nil ?_
 refine zi (fun h6 h6' => ?_) fun h6 h6' => ?_
 ·
  have hE := M.baseC_2 hok (by simpa using h6)
  refine zS <| Qa rfl <| JL.nil ?_
  refine zR (Up.refl _ _) ?_
  rw [hE]; rfl
 have hE := M.baseC_0 hok (by simpa using h6)
 refine Js.skip <| zS <| Qa rfl <| JL.nil ?_
 refine zR (Up.refl _ _) ?_
 rw [hE]; rfl
theorem c_spec_l15Ask (r : M.Rul) {v_r : Value} (p : M.Pos) {v_p : Value} (depth : Int) {w : World} (h_r : (Ty.ref (cRules r)).ok w v_r) (h_p : (Ty.ref (cPosition p)).ok w v_p) (r0 : p.pits.length ≤ 4194304 := by exact om_) (r1 : p.stores.length ≤ 4194304 := by exact om_) : RetV Try.prog 68 [v_r, v_p, .int .i64 depth] w (.tuple #[.int .i64 ((M.ask r p depth).1), .int .i64 ((M.ask r p depth).2.1), .int .i64 ((M.ask r p depth).2.2)]) := by
 revert v_r; apply opn
 intro b1 o1 hr1
 revert v_p; apply opn
 intro b4 o4 A2 c2 h2 bl2 bh2 A3 c3 h3 bl3 bh3 hr4
 refine enter @Try.func68 @Try.ntmps68 rfl rfl ?_
 refine zent ?_
 refine zS <| Qa rfl <| Qa rfl <| Qa rfl <| zN <| Qm rfl <| Qm rfl <| Qm rfl <| zv rfl (fun w hw => c_spec_l15Code r p depth (ok_ hw) (ok_ hw)) <| Qa rfl <| zJ <| zS <| Qm rfl <| Qd rfl rfl ?_
 refine JL.nil ?_
 refine zi (fun h5 h5' => ?_) fun h5 h5' => ?_
 ·
  have hE := M.ask_b (r := r) (p := p) (depth := depth) (by simpa using h5)
  refine zS <| Qm rfl <| Qa rfl <| Qa rfl <| Qa rfl <| JL.nil ?_
  refine zR (Up.refl _ _) ?_
  rw [hE]; rfl
 have hz : M.baseC r p depth = 0 := by simpa using h5
 have ho := M.baseC_ok hz
 refine Js.skip <| zS <| Qm rfl <| Qb ?_
 refine zb rfl fun b6 => Qa rfl <| zN <| Qm rfl <| Qm rfl <| Qm rfl <| zB 1 sp_ rfl (fun w hb hw => c_spec_l15S_value r 0 p depth hb (hr1.vis hw.vis) (ok_ hw) (r0 := ho.1)) ?_
 rintro _ _ G7 ⟨rfl, rfl⟩
 refine znl ?_
 refine Qa rfl <| zJ <| zS <| Qm rfl <| Qc rfl <| Qf fh rfl <| Q0 0 rfl rfl rfl <| Qg rfl rfl <| JL.nil ?_
 refine zi (fun h8 h8' => ?_) fun h8 h8' => ?_
 ·
  have hE := M.ask_5 hz (by simpa using h8)
  refine zS <| Qa rfl <| Qa rfl <| Qa rfl <| JL.nil ?_
  refine zR (Up.refl _ _) ?_
  rw [hE]; rfl
 have hE := M.ask_0 hz (by simpa using h8)
 refine Js.skip <| Js.seq ?_
 refine zdr [] ?_
 refine jM 0 rfl rfl ?_
 refine jM 1 rfl rfl ?_
 refine jN 2 rfl rfl ?_
 refine jF 3 fld_117_1 rfl rfl ?_
 refine jB 4 0 ty_2 rfl rfl rfl rfl ?_
 refine jA 5 rfl rfl ?_
 refine jA 6 rfl rfl ?_
 refine jA 7 rfl rfl ?_
 refine yd ?_
 refine zR (Up.refl _ _) ?_
 rw [hE]; rfl
theorem c_spec_l16Key (x : M.Slo) {bx_p ox_p : Nat} {Ax_1 : Option Addr} {cx_1 : Nat} {w : World} (hex_1 : (Ty.ints 2 x.pits).ok w (.slice Ax_1 x.pits.length cx_1)) (hrx : RowAt w bx_p ox_p [.bool x.used, .slice Ax_1 x.pits.length cx_1, .int .i64 x.player, .int .i64 x.depth, .int .i64 x.value, .int .i64 x.bound]) (bd0 : x.pits.length ≤ cx_1 := by exact om_) (bd1 : cx_1 ≤ 9223372036854775807 := by exact om_) : Ret Try.prog 44 [.pointer (some ⟨bx_p, ox_p, none⟩)] w (Ty.agg [Ty.val (.slice Ax_1 x.pits.length cx_1), Ty.ints 2 [0, 0], Ty.int x.player]) := by
 refine enter @Try.func44 @Try.ntmps44 rfl rfl ?_
 refine zent ?_
 refine zS <| za zeh fun b1 => zJ ?_
 refine zdr [10] ?_
 refine jM 0 rfl rfl ?_
 refine jN 1 rfl rfl ?_
 refine jF 2 fld_45_1 rfl rfl ?_
 refine jW 3 ty_29 rfl rfl (fun hv => (hrx.vis hv) 1 _ rfl) ?_
 refine jM 5 rfl rfl ?_
 refine jN 6 rfl rfl ?_
 refine jF 7 fld_45_2 rfl rfl ?_
 refine jW 8 ty_2 rfl rfl (fun hv => (hrx.vis hv) 2 _ rfl) ?_
 refine y1 4 ?_
 refine ybs rfl fun b2 => ?_
 refine JH.p 9 rfl (q_bld) ?_
 refine y1 10 ?_
 refine yst rfl rfl rfl ?_
 refine yd ?_
 exact zro (Up.refl _ _)
theorem c_spec_l16Hash (pits : List Int) {v_pits : Value} (player size : Int) {w : World} (h_pits : (Ty.ints 2 pits).ok w v_pits) (r0 : M.allOk pits = true := by exact om_) (r1 : 0 ≤ player ∧ player ≤ 1 := by exact om_) (r2 : 0 < size := by exact om_) (r3 : size ≤ 4194304 := by exact om_) (r4 : pits.length ≤ 4194304 := by exact om_) : RetV Try.prog 64 [v_pits, .int .i64 player, .int .i64 size] w (.int .i64 (M.hashP pits player % size)) := by
 revert v_pits; apply opn
 intro A1 c1 h1 bl1 bh1
 have h_pits := h1
 refine enter @Try.func64 @Try.ntmps64 rfl rfl ?_
 refine zent ?_
 refine zS <| Qa rfl <| zN <| Qm rfl <| Qp rfl rfl <| Qa rfl <| zJ <| zS <| Qa rfl <| JL.nil <| Js.block ?_
 refine zl [0, 2] (fun F U l os u m => ∃ (k : Nat) (h : Int), l = F [(7, .int .i64 h), (8, .int .i64 (k : Int))] ∧ os = U [] ∧ (h = (pits.take k).foldl M.hashF (player + 1)) ∧ (0 ≤ h) ∧ (h < 1000003) ∧ (k ≤ pits.length) ∧ m = pits.length - k) ⟨0, player + 1, rfl, rfl, by rfl, by omega, by omega, zt, rfl⟩ ?_
 rintro _ _ u2 _ ⟨k, h, rfl, rfl, hH, hg0, hg1, hk, rfl⟩ x2
 refine zn ?_
 refine Js.seq <| zS <| Qm rfl <| Qm rfl <| Qz rfl <| Ql rfl rfl <| JL.nil ?_
 refine zi (fun h3 h3' => ?_) fun h3 h3' => ?_
 ·
  have hkk : k < pits.length := by have := h3'; omega
  have hx9 := M.allOk_nth r0 k
  obtain ⟨b4, o4, he4, hc4⟩ := ints_elem (Ty.mono _ h1 x2.vis) (i := k) (by omega)
  refine Js.skip <| Js.seq <| Js.block <| Js.region <| Qm rfl <| Qu rfl rfl <| Qm rfl <| Qm rfl <| Qq (p_indexAddr el_29 rfl rfl (by omega) (by omega) he4) <| QC hc4 rfl <| Qp rfl rfl <| Qq (p_rem rfl rfl (by omega) (Int.tmod_eq_emod_of_nonneg (by omega))) <| Qa rfl <| JL.nil ?_
  refine Js.blockEnd <| Js.region <| Qm rfl <| Qp rfl rfl <| Qa rfl <| JL.nil ?_
  exact zag ⟨k + 1, ((31 * h) + (M.nth pits k)) % 1000003, rfl, rfl, by rw [M.hash_step (by assumption), ← hH], by omega, by omega, zt, rfl⟩ x2
 have hE : h = M.hashP pits player := by rw [hH]; exact M.hash_all (by have := h3'; omega)
 refine zx ?_
 have hrn5 := Int.emod_nonneg h (b := size) (by omega)
 have hrl5 := Int.emod_lt_of_pos h (show 0 < size by omega)
 refine zS <| Qm rfl <| Qm rfl <| Qq (p_rem rfl rfl (by omega) (Int.tmod_eq_emod_of_nonneg (by omega))) <| Qa rfl <| JL.nil ?_
 refine zR x2 ?_
 rw [hE]; rfl
theorem c_spec_l16Value (n : Int) {w : World}  : RetV Try.prog 38 [.int .i64 n] w (.bool (M.betw n (-96) 96)) := by
 refine enter @Try.func38 @Try.ntmps38 rfl rfl ?_
 refine zent ?_
 refine zS <| Qa rfl <| zN <| Qm rfl <| zv rfl (fun w hw => c_spec_l00In n (-96) 96) <| Qa rfl <| JL.nil ?_
 exact zr (Up.refl _ _)
theorem c_spec_l07AllL (r : M.Rul) {v_r : Value} (p : M.Pos) {v_p : Value} {w : World} (h_r : (Ty.ref (cRules r)).ok w v_r) (h_p : (Ty.ref (cPosition p)).ok w v_p) (r0 : r.pits ≤ 9 := by exact om_) (r1 : p.pits.length ≤ 4194304 := by exact om_) (r2 : p.stores.length ≤ 4194304 := by exact om_) : Ret Try.prog 71 [v_r, v_p] w (Ty.sl 110 6 (M.results r p).length (lResult (M.results r p))) := by
 revert v_r; apply opn
 intro b1 o1 hr1
 revert v_p; apply opn
 intro b4 o4 A2 c2 h2 bl2 bh2 A3 c3 h3 bl3 bh3 hr4
 refine enter @Try.func71 @Try.ntmps71 rfl rfl ?_
 refine zent ?_
 refine zS <| Qa rfl <| zN <| zbs fun b5 => ?_
 refine Qa rfl <| zJ <| zS <| Qa rfl <| JL.nil <| Js.block ?_
 refine Js.vals (Ts := lResult []) (vs := []) (fun w => rfl) ?_
 refine zl [0, 1] (fun F U l os u m => ∃ (k : Nat) (acc : List M.Res) (A7_5 : Option Addr) (c7_5 : Nat) (g7_5 : List Nat) (vs7_5 : List Value) (fl7_5 : List Nat), l = F [(5, .slice A7_5 acc.length c7_5), (6, .int .i64 (k : Int))] ∧ os = U [some (ownC (lResult acc) vs7_5 fl7_5), some (rowO 110 6 (.slice A7_5 acc.length c7_5) acc.length vs7_5 g7_5)] ∧ (acc = M.resultsTo r p k) ∧ ((k : Int) ≤ r.pits ∨ k = 0) ∧ (k ≤ 9) ∧ (acc.length ≤ c7_5) ∧ (c7_5 ≤ 9223372036854775807) ∧ m = (r.pits - k).toNat) ⟨0, [], _, _, _, _, _, rfl, rfl, by rfl, zt, zt, zu, zu, rfl⟩ ?_
 rintro _ _ u7 _ ⟨k, acc, A7_5, c7_5, g7_5, vs7_5, fl7_5, rfl, rfl, hacc, hk, hk9, f7_3, f7_4, rfl⟩ x7
 refine zn ?_
 have hlen := M.resultsTo_len (r := r) (p := p) k
 have hlacc : acc.length ≤ k := by rw [hacc]; exact hlen
 refine Js.seq <| zS <| Qm rfl <| Qm rfl <| Qc rfl <| Qf fh rfl <| QC ((hr1.vis x7.vis) 0 _ rfl) rfl <| Ql rfl rfl <| JL.nil ?_
 refine zi (fun h8 h8' => ?_) fun h8 h8' => ?_
 ·
  refine Js.skip <| Js.seq <| Js.block <| zS <| Qm rfl <| Qm rfl <| Qm rfl <| zc rfl (fun w hw => c_spec_l07Make r p (k : Int) (ok_ hw) (ok_ hw)) ?_
  intro A11 c11 bl11 bh11 A12 c12 bl12 bh12
  refine Qm rfl <| Qx rfl rfl <| Qx rfl rfl <| za zeh fun b13 => zw 0 rfl rfl rfl ?_
  refine Qa rfl <| zN <| Qm rfl <| Qe rfl rfl <| JL.nil ?_
  refine zi (fun h14 h14' => ?_) fun h14 h14' => ?_
  ·
   have hacc2 := (M.resultsTo_yes2 (r := r) (p := p) (k := k) (by simpa using h14)).symm
   refine Js.region <| Qm rfl <| Q9 0 rfl rfl ?_
   refine zbs fun b15 => ?_
   refine JL.e (e_append (i := 5) (n' := (acc ++ [((M.make r p (k : Int)).1)]).length) (vs' := vs7_5 ++ [.int .i64 (((M.make r p (k : Int)).1).move), .int .i64 (((M.make r p (k : Int)).1).gain), .bool (((M.make r p (k : Int)).1).again), .slice A11 (((((M.make r p (k : Int)).1).next).pits).length) c11, .slice A12 (((((M.make r p (k : Int)).1).next).stores).length) c12, .int .i64 ((((M.make r p (k : Int)).1).next).player)]) el_107 rfl rfl rfl rfl (src_row (i := 0) und_107 rfl rfl) (by omega) (by omega) ln2_ (rfl)) ?_
   rintro v17 _ _ ⟨⟨g18, rfl⟩, rfl⟩ _
   refine JL.fact (row_form' (i := 5) rfl) (fun hf19 => ?_)
   obtain ⟨A19, c19, rfl, bl19, bh19⟩ := hf19
   refine znl ?_
   refine Qa rfl <| JL.nil ?_
   refine Js.pack2 (i := 3) (j := 2) (cResult ((M.make r p (k : Int)).1)) [.int .i64 (((M.make r p (k : Int)).1).move), .int .i64 (((M.make r p (k : Int)).1).gain), .bool (((M.make r p (k : Int)).1).again), .slice A11 (((((M.make r p (k : Int)).1).next).pits).length) c11, .slice A12 (((((M.make r p (k : Int)).1).next).stores).length) c12, .int .i64 ((((M.make r p (k : Int)).1).next).player)] rfl rfl (fun w h1 h2 => pack_Result (ints_row h1 rfl) (ints_row h2 rfl)) (fun f20 => ?_)
   refine Js.joinL (i := 3) (j := 0) (Vs := lResult (acc ++ [((M.make r p (k : Int)).1)])) rfl rfl (lResult_snoc _ _) (fun f21 => ?_)
   refine zn ?_
   refine Js.blockEnd <| Js.region <| Qm rfl <| Qp rfl rfl <| Qa rfl <| JL.nil ?_
   refine zd [0, 2] rfl fun u22 x22 => ?_
   exact zag ⟨k + 1, acc ++ [((M.make r p (k : Int)).1)], _, _, _, _, _, rfl, rfl, by rw [hacc]; exact hacc2, zt, zt, zu, zu, rfl⟩ (x7.trans x22)
  have hacc2 := (M.resultsTo_no2 (r := r) (p := p) (k := k) (by simpa using h14)).symm
  refine Js.skip <| Js.blockEnd <| Js.region <| Qm rfl <| Qp rfl rfl <| Qa rfl <| JL.nil ?_
  refine zd [3, 3] rfl fun u23 x23 => ?_
  exact zag ⟨k + 1, acc, _, _, _, _, _, rfl, rfl, by rw [hacc]; exact hacc2, zt, zt, zu, zu, rfl⟩ (x7.trans x23)
 have hR : acc = M.results r p := by rw [hacc]; unfold M.results; rw [show k = r.pits.toNat by have := h8'; omega]
 refine zx ?_
 have hq0 : acc = M.results r p := by exact hR
 refine zS <| Qm rfl <| Qa rfl <| JL.nil ?_
 exact zro x7
theorem c_spec_NewMemory (r : M.Rul) {v_r : Value} (size : Int) {w : World} (h_r : (Ty.agg (cRules r)).ok w v_r) : Ret Try.prog 26 [v_r, .int .i64 size] w (Ty.tup [Ty.agg (cMemory ((M.newM r size).1)), Ty.int ((M.newM r size).2)]) := by
 revert v_r; apply opn
 refine enter @Try.func26 @Try.ntmps26 rfl rfl ?_
 refine zent ?_
 refine zS <| zb rfl fun b1 => za zeh fun b2 => Qa rfl <| zJ <| zS <| zv rfl (fun w hw => c_spec_l02Ok r (ok_ hw)) <| Qt rfl <| JL.nil ?_
 refine zi (fun h3 h3' => ?_) fun h3 h3' => ?_
 ·
  have hE := M.newM_1 (n := size) (by simpa using h3)
  have hq0 : 0 = (((M.newM r size).1).rules).pits := by first | (rw [hE]; done) | (rw [hE]; rfl) | (rw [hE]; assumption)
  have hq1 : 0 = (((M.newM r size).1).rules).seeds := by first | (rw [hE]; done) | (rw [hE]; rfl) | (rw [hE]; assumption)
  have hq2 : false = (((M.newM r size).1).rules).stores := by first | (rw [hE]; done) | (rw [hE]; rfl) | (rw [hE]; assumption)
  have hq3 : false = (((M.newM r size).1).rules).skip := by first | (rw [hE]; done) | (rw [hE]; rfl) | (rw [hE]; assumption)
  have hq4 : false = (((M.newM r size).1).rules).relay := by first | (rw [hE]; done) | (rw [hE]; rfl) | (rw [hE]; assumption)
  have hq5 : false = (((M.newM r size).1).rules).feed := by first | (rw [hE]; done) | (rw [hE]; rfl) | (rw [hE]; assumption)
  have hq6 : false = (((M.newM r size).1).rules).again := by first | (rw [hE]; done) | (rw [hE]; rfl) | (rw [hE]; assumption)
  have hq7 : 0 = (((M.newM r size).1).rules).capture := by first | (rw [hE]; done) | (rw [hE]; rfl) | (rw [hE]; assumption)
  have hq8 : 0 = (((M.newM r size).1).rules).slam := by first | (rw [hE]; done) | (rw [hE]; rfl) | (rw [hE]; assumption)
  have hq9 : [] = ((M.newM r size).1).slots := by first | (rw [hE]; done) | (rw [hE]; rfl) | (rw [hE]; assumption)
  have hq10 : 1 = (M.newM r size).2 := by first | (rw [hE]; done) | (rw [hE]; rfl) | (rw [hE]; assumption)
  refine zS <| Qb ?_
  refine zw 0 rfl rfl rfl ?_
  refine Qa rfl <| JL.nil ?_
  exact zro (Up.refl _ _)
 have hr9 : M.okR r = true := by simpa using h3
 refine Js.skip <| Js.seq <| zS <| Qm rfl <| zv rfl (fun w hw => c_spec_l00In size 1 64) <| Qt rfl <| JL.nil ?_
 refine zi (fun h4 h4' => ?_) fun h4 h4' => ?_
 ·
  have hE := M.newM_2 hr9 (by simpa using h4)
  have hq0 : 0 = (((M.newM r size).1).rules).pits := by first | (rw [hE]; done) | (rw [hE]; rfl) | (rw [hE]; assumption)
  have hq1 : 0 = (((M.newM r size).1).rules).seeds := by first | (rw [hE]; done) | (rw [hE]; rfl) | (rw [hE]; assumption)
  have hq2 : false = (((M.newM r size).1).rules).stores := by first | (rw [hE]; done) | (rw [hE]; rfl) | (rw [hE]; assumption)
  have hq3 : false = (((M.newM r size).1).rules).skip := by first | (rw [hE]; done) | (rw [hE]; rfl) | (rw [hE]; assumption)
  have hq4 : false = (((M.newM r size).1).rules).relay := by first | (rw [hE]; done) | (rw [hE]; rfl) | (rw [hE]; assumption)
  have hq5 : false = (((M.newM r size).1).rules).feed := by first | (rw [hE]; done) | (rw [hE]; rfl) | (rw [hE]; assumption)
  have hq6 : false = (((M.newM r size).1).rules).again := by first | (rw [hE]; done) | (rw [hE]; rfl) | (rw [hE]; assumption)
  have hq7 : 0 = (((M.newM r size).1).rules).capture := by first | (rw [hE]; done) | (rw [hE]; rfl) | (rw [hE]; assumption)
  have hq8 : 0 = (((M.newM r size).1).rules).slam := by first | (rw [hE]; done) | (rw [hE]; rfl) | (rw [hE]; assumption)
  have hq9 : [] = ((M.newM r size).1).slots := by first | (rw [hE]; done) | (rw [hE]; rfl) | (rw [hE]; assumption)
  have hq10 : 2 = (M.newM r size).2 := by first | (rw [hE]; done) | (rw [hE]; rfl) | (rw [hE]; assumption)
  refine zS <| Qb ?_
  refine zw 0 rfl rfl rfl ?_
  refine Qa rfl <| JL.nil ?_
  exact zro (Up.refl _ _)
 have hb9 : M.betw size 1 64 = true := by simpa using h4
 obtain ⟨s0, s1⟩ := M.betw_iff.1 hb9
 have hE := M.newM_0 hr9 hb9
 refine Js.skip <| Js.seq ?_
 refine zdr [4] ?_
 refine JH.q 0 rfl (L9 1 rfl rfl) ?_
 refine jM 1 rfl rfl ?_
 refine y1 2 ?_
 refine ymkL cSlot lSlot M.Slo.zero rfl (a0 := size) (m := size.toNat) (by omega) (by omega) zown_Slot ?_
 intro b5 xs6 hx6
 have hl6 : xs6.length = size.toNat := by rw [hx6]; exact List.length_replicate
 refine JH.p 3 rfl (q_bld) ?_
 refine y1 4 ?_
 refine yst rfl rfl rfl ?_
 refine jA 5 rfl rfl ?_
 refine yd ?_
 have hq0 : r.pits = (((M.newM r size).1).rules).pits := by first | (rw [hE]; done) | (rw [hE]; rfl) | (rw [hE]; assumption)
 have hq1 : r.seeds = (((M.newM r size).1).rules).seeds := by first | (rw [hE]; done) | (rw [hE]; rfl) | (rw [hE]; assumption)
 have hq2 : r.stores = (((M.newM r size).1).rules).stores := by first | (rw [hE]; done) | (rw [hE]; rfl) | (rw [hE]; assumption)
 have hq3 : r.skip = (((M.newM r size).1).rules).skip := by first | (rw [hE]; done) | (rw [hE]; rfl) | (rw [hE]; assumption)
 have hq4 : r.relay = (((M.newM r size).1).rules).relay := by first | (rw [hE]; done) | (rw [hE]; rfl) | (rw [hE]; assumption)
 have hq5 : r.feed = (((M.newM r size).1).rules).feed := by first | (rw [hE]; done) | (rw [hE]; rfl) | (rw [hE]; assumption)
 have hq6 : r.again = (((M.newM r size).1).rules).again := by first | (rw [hE]; done) | (rw [hE]; rfl) | (rw [hE]; assumption)
 have hq7 : r.capture = (((M.newM r size).1).rules).capture := by first | (rw [hE]; done) | (rw [hE]; rfl) | (rw [hE]; assumption)
 have hq8 : r.slam = (((M.newM r size).1).rules).slam := by first | (rw [hE]; done) | (rw [hE]; rfl) | (rw [hE]; assumption)
 have hq9 : xs6 = ((M.newM r size).1).slots := by first | (rw [hE]; done) | (rw [hE]; rfl) | (rw [hE]; assumption)
 have hq10 : 0 = (M.newM r size).2 := by first | (rw [hE]; done) | (rw [hE]; rfl) | (rw [hE]; assumption)
 exact zro (Up.refl _ _)
theorem c_spec_l16Slot (mem : M.Mem) {v_mem : Value} (k : Int) {w : World} (h_mem : (Ty.ref (cMemory mem)).ok w v_mem) (r0 : mem.slots.length ≤ 4194304 := by exact om_) (r1 : ∀ x ∈ mem.slots, x.pits.length ≤ 4194304 := by exact om_) (r2 : 0 ≤ k := by exact om_) (r3 : k < mem.slots.length := by exact om_) : RetV Try.prog 67 [v_mem, .int .i64 k] w (.bool (M.okSI mem.rules mem.slots.length k (M.slo mem.slots k.toNat))) := by
 have hsz := r1 _ (M.slo_mem (l := mem.slots) (k := k.toNat) (by omega))
 revert v_mem; apply opn
 intro b2 o2 A1 c1 h1 bl1 bh1 hr2
 refine enter @Try.func67 @Try.ntmps67 rfl rfl ?_
 refine zent ?_
 have hy3 : mem.slots[k.toNat]? = some (M.slo mem.slots k.toNat) := M.slo_get (by omega)
 obtain ⟨b3, o3, A3_1, c3_1, he3, hr3, h3_1, bl3_1, bh3_1⟩ := elem_Slot h1 hy3
 refine zS <| Qa rfl <| zN <| Qm rfl <| Qc rfl <| Qf fh rfl <| QC (hr2 9 _ rfl) rfl <| Qm rfl <| Qq (p_indexAddr el_26 rfl rfl (by omega) (by omega) he3) <| Qa rfl <| zJ <| zS <| Qm rfl <| Qc rfl ?_
 refine Qf fh rfl <| QC (hr3 0 _ rfl) rfl <| Qt rfl <| JL.nil ?_
 refine zi (fun h4 h4' => ?_) fun h4 h4' => ?_
 ·
  have hE := M.okSI_n (r := mem.rules) (n := mem.slots.length) (i := k) (s := (M.slo mem.slots k.toNat)) (by simpa using h4)
  refine zS <| Qm rfl <| Qc rfl <| Qf fh rfl <| QC (hr3 1 _ rfl) rfl <| Qz rfl <| Qe rfl rfl <| Qm rfl <| zg (Gd.t1 rfl rfl rfl) (fun hc => p_move rfl) <| zg (Gd.t1 rfl rfl rfl) (fun hc => p_nilCheck (gh hc rfl)) <| zg (Gd.t1 rfl rfl rfl) (fun hc => p_fieldAddr fld_45_2.h (gh hc rfl)) <| zgq (Gd.t1 rfl rfl rfl) (fun hc => q_load1 ty_2.h (gh hc rfl) (Mem.pub (hr3 2 _ rfl))) <| zg (Gd.t1 rfl rfl rfl) (fun hc => p_eql (gh hc rfl) rfl) <| Qq (p_pickAnd rfl rfl rfl) ?_
  refine Qm rfl <| zg (Gd.t1 rfl rfl rfl) (fun hc => p_move rfl) <| zg (Gd.t1 rfl rfl rfl) (fun hc => p_nilCheck (gh hc rfl)) <| zg (Gd.t1 rfl rfl rfl) (fun hc => p_fieldAddr fld_45_3.h (gh hc rfl)) <| zgq (Gd.t1 rfl rfl rfl) (fun hc => q_load1 ty_2.h (gh hc rfl) (Mem.pub (hr3 3 _ rfl))) <| zg (Gd.t1 rfl rfl rfl) (fun hc => p_eql (gh hc rfl) rfl) <| Qq (p_pickAnd rfl rfl rfl) <| Qm rfl <| zg (Gd.t1 rfl rfl rfl) (fun hc => p_move rfl) <| zg (Gd.t1 rfl rfl rfl) (fun hc => p_nilCheck (gh hc rfl)) <| zg (Gd.t1 rfl rfl rfl) (fun hc => p_fieldAddr fld_45_4.h (gh hc rfl)) <| zgq (Gd.t1 rfl rfl rfl) (fun hc => q_load1 ty_2.h (gh hc rfl) (Mem.pub (hr3 4 _ rfl))) <| zg (Gd.t1 rfl rfl rfl) (fun hc => p_eql (gh hc rfl) rfl) <| Qq (p_pickAnd rfl rfl rfl) ?_
  refine Qm rfl <| zg (Gd.t1 rfl rfl rfl) (fun hc => p_move rfl) <| zg (Gd.t1 rfl rfl rfl) (fun hc => p_nilCheck (gh hc rfl)) <| zg (Gd.t1 rfl rfl rfl) (fun hc => p_fieldAddr fld_45_5.h (gh hc rfl)) <| zgq (Gd.t1 rfl rfl rfl) (fun hc => q_load1 ty_2.h (gh hc rfl) (Mem.pub (hr3 5 _ rfl))) <| zg (Gd.t1 rfl rfl rfl) (fun hc => p_eql (gh hc rfl) rfl) <| Qq (p_pickAnd rfl rfl rfl) <| Qa rfl <| JL.nil ?_
  refine zR (Up.refl _ _) ?_
  first | (rw [hE]; rfl) | (rw [hE, hn9]; rfl) | (rw [hE, ho9, hc9]; rfl) | (rw [hE]; simp [outV, M.freeS, Bool.and_assoc]; done)
 have hE := M.okSI_y (r := mem.rules) (n := mem.slots.length) (i := k) (s := (M.slo mem.slots k.toNat)) (by simpa using h4)
 refine Js.skip <| zS <| Qm rfl <| zc rfl (fun w hw => c_spec_l16Key (M.slo mem.slots k.toNat) (Ty.mono _ h3_1 hw.vis) (hr3.vis hw.vis)) ?_
 intro A5 c5 bl5 bh5
 refine za zeh fun b6 => zw 0 rfl rfl rfl ?_
 refine zJ <| zS <| Qm rfl <| Qc rfl <| Qf fh rfl <| zv rfl (fun w hw => c_spec_l04Ok mem.rules (M.Pos.mk ((M.slo mem.slots k.toNat).pits) [0, 0] ((M.slo mem.slots k.toNat).player)) (ok_ hw) (ok_ hw)) <| Qt rfl <| Qm rfl <| zg (Gd.f1 rfl rfl rfl) (fun hc => p_move rfl) <| zg (Gd.f1 rfl rfl rfl) (fun hc => p_nilCheck (gh hc rfl)) <| zg (Gd.f1 rfl rfl rfl) (fun hc => p_fieldAddr fld_45_3.h (gh hc rfl)) <| zgq (Gd.f1 rfl rfl rfl) (fun hc => q_load1 ty_2.h (gh hc rfl) (Mem.pub (hr3 3 _ rfl))) <| zgv (Gd.f1 rfl rfl rfl) (fun hc => (opds_3 (gh hc rfl) rfl rfl)) (fun hc => (fun w hw => c_spec_l00In ((M.slo mem.slots k.toNat).depth) 1 8)) ?_
 refine zg (Gd.f1 rfl rfl rfl) (fun hc => p_not (gh hc rfl)) <| Qq (p_pickOr rfl rfl rfl) <| Qm rfl <| zg (Gd.f1 rfl rfl rfl) (fun hc => p_move rfl) <| zg (Gd.f1 rfl rfl rfl) (fun hc => p_nilCheck (gh hc rfl)) <| zg (Gd.f1 rfl rfl rfl) (fun hc => p_fieldAddr fld_45_4.h (gh hc rfl)) <| zgq (Gd.f1 rfl rfl rfl) (fun hc => q_load1 ty_2.h (gh hc rfl) (Mem.pub (hr3 4 _ rfl))) <| zgv (Gd.f1 rfl rfl rfl) (fun hc => (opds_1 (gh hc rfl))) (fun hc => (fun w hw => c_spec_l16Value ((M.slo mem.slots k.toNat).value))) ?_
 refine zg (Gd.f1 rfl rfl rfl) (fun hc => p_not (gh hc rfl)) <| Qq (p_pickOr rfl rfl rfl) <| Qm rfl <| zg (Gd.f1 rfl rfl rfl) (fun hc => p_move rfl) <| zg (Gd.f1 rfl rfl rfl) (fun hc => p_nilCheck (gh hc rfl)) <| zg (Gd.f1 rfl rfl rfl) (fun hc => p_fieldAddr fld_45_5.h (gh hc rfl)) <| zgq (Gd.f1 rfl rfl rfl) (fun hc => q_load1 ty_2.h (gh hc rfl) (Mem.pub (hr3 5 _ rfl))) <| zgv (Gd.f1 rfl rfl rfl) (fun hc => (opds_3 (gh hc rfl) rfl rfl)) (fun hc => (fun w hw => c_spec_l00In ((M.slo mem.slots k.toNat).bound) 0 2)) ?_
 refine zg (Gd.f1 rfl rfl rfl) (fun hc => p_not (gh hc rfl)) <| Qq (p_pickOr rfl rfl rfl) <| JL.nil ?_
 refine zi (fun h7 h7' => ?_) fun h7 h7' => ?_
 ·
  have hn9 : (M.okP mem.rules (M.posS (M.slo mem.slots k.toNat)) && M.okCt (M.slo mem.slots k.toNat).depth (M.slo mem.slots k.toNat).value (M.slo mem.slots k.toNat).bound) = false := M.okCt_no (by have h9 := h7; simpa using h9)
  refine zS <| Qa rfl <| JL.nil ?_
  refine zR (Up.refl _ _) ?_
  first | (rw [hE]; rfl) | (rw [hE, hn9]; rfl) | (rw [hE, ho9, hc9]; rfl) | (rw [hE]; simp [outV, M.freeS, Bool.and_assoc]; done)
 obtain ⟨ho9, hc9⟩ := M.okCt_yes (by have h9 := h7; simpa using h9)
 obtain ⟨g1, g2, g3, g4, g5, g6, g7⟩ := M.okP_bd ho9
 have g7 : (M.slo mem.slots k.toNat).player = 0 ∨ (M.slo mem.slots k.toNat).player = 1 := g7
 refine Js.skip <| Js.seq ?_
 refine zdr [] ?_
 refine jM 0 rfl rfl ?_
 refine jN 1 rfl rfl ?_
 refine jF 2 fld_45_1 rfl rfl ?_
 refine jW 3 ty_29 rfl rfl (fun hv => (hr3.vis hv) 1 _ rfl) ?_
 refine jM 4 rfl rfl ?_
 refine jN 5 rfl rfl ?_
 refine jF 6 fld_45_2 rfl rfl ?_
 refine jW 7 ty_2 rfl rfl (fun hv => (hr3.vis hv) 2 _ rfl) ?_
 refine jM 8 rfl rfl ?_
 refine jN 9 rfl rfl ?_
 refine jF 10 fld_28_1 rfl rfl ?_
 refine jW 11 ty_26 rfl rfl (fun hv => (hr2.vis hv) 9 _ rfl) ?_
 refine JH.p 12 rfl (p_len el_26 rfl) ?_
 refine jM 14 rfl rfl ?_
 refine y1 13 ?_
 refine yv rfl rfl (fun w hw => c_spec_l16Hash ((M.slo mem.slots k.toNat).pits) ((M.slo mem.slots k.toNat).player) (mem.slots.length : Int) (ok_ hw) (r0 := g5) (r1 := (by constructor <;> omega))) ?_
 refine JH.p 15 rfl (p_eql rfl rfl) ?_
 refine jA 16 rfl rfl ?_
 refine yd ?_
 refine zR (Up.refl _ _) ?_
 first | (rw [hE]; rfl) | (rw [hE, hn9]; rfl) | (rw [hE, ho9, hc9]; rfl) | (rw [hE]; simp [outV, M.freeS, Bool.and_assoc]; done)
theorem c_spec_l16Ok (mem : M.Mem) {v_mem : Value} {w : World} (h_mem : (Ty.ref (cMemory mem)).ok w v_mem) (r0 : mem.slots.length ≤ 4194304 := by exact om_) (r1 : ∀ x ∈ mem.slots, x.pits.length ≤ 4194304 := by exact om_) : RetV Try.prog 52 [v_mem] w (.bool (M.okM mem)) := by
 revert v_mem; apply opn
 intro b2 o2 A1 c1 h1 bl1 bh1 hr2
 refine enter @Try.func52 @Try.ntmps52 rfl rfl ?_
 refine zent ?_
 refine zS <| Qa rfl <| zJ <| zS <| Qm rfl <| Qc rfl <| Qf fh rfl <| zv rfl (fun w hw => c_spec_l02Ok mem.rules (ok_ hw)) <| Qt rfl <| Qm rfl <| zg (Gd.f1 rfl rfl rfl) (fun hc => p_move rfl) <| zg (Gd.f1 rfl rfl rfl) (fun hc => p_nilCheck (gh hc rfl)) <| zg (Gd.f1 rfl rfl rfl) (fun hc => p_fieldAddr fld_28_1.h (gh hc rfl)) <| zgq (Gd.f1 rfl rfl rfl) (fun hc => q_load1 ty_26.h (gh hc rfl) (Mem.pub (hr2 9 _ rfl))) ?_
 refine zg (Gd.f1 rfl rfl rfl) (fun hc => p_len el_26 (gh hc rfl)) <| zgv (Gd.f1 rfl rfl rfl) (fun hc => (opds_3 (gh hc rfl) rfl rfl)) (fun hc => (fun w hw => c_spec_l00In (mem.slots.length : Int) 1 64)) ?_
 refine zg (Gd.f1 rfl rfl rfl) (fun hc => p_not (gh hc rfl)) <| Qq (p_pickOr rfl rfl rfl) <| JL.nil ?_
 refine zi (fun h3 h3' => ?_) fun h3 h3' => ?_
 ·
  have hE : M.okM mem = false := by by_cases e : M.okR mem.rules = true; (exact M.okM_l (by have h9 := h3; simpa [e] using h9)); exact M.okM_r (by simpa using e)
  refine zS <| Qa rfl <| JL.nil ?_
  refine zR (Up.refl _ _) ?_
  rw [hE]; rfl
 obtain ⟨hr, hb⟩ : M.okR mem.rules = true ∧ M.betw (mem.slots.length : Int) 1 64 = true := by have h9 := h3; simpa using h9
 obtain ⟨hl1, hl2⟩ := M.betw_iff.1 hb
 refine Js.skip <| Js.seq <| zS <| Qa rfl <| JL.nil <| Js.block ?_
 refine zl [0] (fun F U l os u m => ∃ (k : Nat), l = F [(3, .int .i64 (k : Int))] ∧ os = U [] ∧ (k ≤ mem.slots.length) ∧ (∀ i : Nat, i < k → M.okSI mem.rules mem.slots.length i (M.slo mem.slots i) = true) ∧ m = mem.slots.length - k) ⟨0, rfl, rfl, zt, by exact fun i hi => absurd hi (by omega), rfl⟩ ?_
 rintro _ _ u4 _ ⟨k, rfl, rfl, hk, hA, rfl⟩ x4
 refine zn ?_
 refine Js.seq <| zS <| Qm rfl <| Qm rfl <| Qc rfl <| Qf fh rfl <| QC ((hr2.vis x4.vis) 9 _ rfl) rfl <| Qz rfl <| Ql rfl rfl <| JL.nil ?_
 refine zi (fun h5 h5' => ?_) fun h5 h5' => ?_
 ·
  have hkk : k < mem.slots.length := by have := h5'; omega
  refine Js.skip <| Js.seq <| Js.block <| zS <| Qm rfl <| Qm rfl <| zv rfl (fun w hw => c_spec_l16Slot mem (k : Int) (ok_ hw) (r1 := r1)) <| Qt rfl <| JL.nil ?_
  refine zi (fun h6 h6' => ?_) fun h6 h6' => ?_
  ·
   have hE := M.okM_no hkk (by simpa using h6)
   refine zS <| Qa rfl <| JL.nil ?_
   refine zR x4 ?_
   rw [hE]; rfl
  have hx9 : M.okSI mem.rules mem.slots.length k (M.slo mem.slots k) = true := by simpa using h6
  have hA2 : ∀ i : Nat, i < k + 1 → M.okSI mem.rules mem.slots.length i (M.slo mem.slots i) = true := fun i hi => by rcases Nat.lt_succ_iff_lt_or_eq.1 hi with h9 | h9; (exact hA i h9); subst h9; exact hx9
  refine Js.skip <| Js.blockEnd <| Js.region <| Qm rfl <| Qp rfl rfl <| Qa rfl <| JL.nil ?_
  exact zag ⟨k + 1, rfl, rfl, zt, by exact hA2, rfl⟩ x4
 have hE : M.okM mem = true := M.okM_of hr (by omega) (by omega) (fun i hi => hA i (by have := h5'; omega))
 refine zx ?_
 refine zS <| Qa rfl <| JL.nil ?_
 refine zR x4 ?_
 rw [hE]; rfl
theorem c_spec_l16Same (a : M.Slo) {v_a : Value} (b : M.Slo) {v_b : Value} {w : World} (h_a : (Ty.ref (cSlot a)).ok w v_a) (h_b : (Ty.ref (cSlot b)).ok w v_b) (r0 : a.pits.length ≤ 4194304 := by exact om_) (r1 : b.pits.length ≤ 4194304 := by exact om_) : RetV Try.prog 48 [v_a, v_b] w (.bool (M.sameS a b)) := by
 revert v_a; apply opn
 intro b2 o2 A1 c1 h1 bl1 bh1 hr2
 revert v_b; apply opn
 intro b4 o4 A3 c3 h3 bl3 bh3 hr4
 refine enter @Try.func48 @Try.ntmps48 rfl rfl ?_
 refine zent ?_
 refine zS <| Qa rfl <| zJ ?_
 refine zdr [] ?_
 refine jM 0 rfl rfl ?_
 refine jN 1 rfl rfl ?_
 refine jF 2 fld_45_0 rfl rfl ?_
 refine jW 3 ty_4 rfl rfl (fun hv => (hr2.vis hv) 0 _ rfl) ?_
 refine jM 4 rfl rfl ?_
 refine jN 5 rfl rfl ?_
 refine jF 6 fld_45_0 rfl rfl ?_
 refine jW 7 ty_4 rfl rfl (fun hv => (hr4.vis hv) 0 _ rfl) ?_
 refine JH.p 8 rfl (p_eqlB und_4 rfl rfl) ?_
 refine jM 9 rfl rfl ?_
 refine JH.pg 10 rfl (Gd.t1 rfl rfl rfl) (fun hc => p_move rfl) ?_
 refine JH.pg 11 rfl (Gd.t1 rfl rfl rfl) (fun hc => p_nilCheck (gvt rfl hc)) ?_
 refine JH.pg 12 rfl (Gd.t1 rfl rfl rfl) (fun hc => p_fieldAddr fld_45_1.h (gvt rfl hc)) ?_
 refine JH.wg 13 rfl (Gd.t1 rfl rfl rfl) (fun hc os' u' hv => q_load1 ty_29.h (gvt rfl hc) (Mem.pub ((hr2.vis hv) 1 _ rfl))) ?_
 refine JH.pg 14 rfl (Gd.t1 rfl rfl rfl) (fun hc => p_move rfl) ?_
 refine JH.pg 15 rfl (Gd.t1 rfl rfl rfl) (fun hc => p_nilCheck (gvt rfl hc)) ?_
 refine JH.pg 16 rfl (Gd.t1 rfl rfl rfl) (fun hc => p_fieldAddr fld_45_1.h (gvt rfl hc)) ?_
 refine JH.wg 17 rfl (Gd.t1 rfl rfl rfl) (fun hc os' u' hv => q_load1 ty_29.h (gvt rfl hc) (Mem.pub ((hr4.vis hv) 1 _ rfl))) ?_
 refine y1 18 ?_
 refine JHo.ge rfl (Gd.t1 rfl rfl rfl) (fun hc => e_callV fn_66.h (opds_2 (gvt rfl hc) (gvt rfl hc)) (fun w hw => c_spec_l00Same a.pits b.pits (ok_ hw) (ok_ hw))) ?_
 refine JH.p 19 rfl (p_pickAnd rfl rfl rfl) ?_
 refine jM 20 rfl rfl ?_
 refine JH.pg 21 rfl (Gd.t1 rfl rfl rfl) (fun hc => p_move rfl) ?_
 refine JH.pg 22 rfl (Gd.t1 rfl rfl rfl) (fun hc => p_nilCheck (gvt rfl hc)) ?_
 refine JH.pg 23 rfl (Gd.t1 rfl rfl rfl) (fun hc => p_fieldAddr fld_45_2.h (gvt rfl hc)) ?_
 refine JH.wg 24 rfl (Gd.t1 rfl rfl rfl) (fun hc os' u' hv => q_load1 ty_2.h (gvt rfl hc) (Mem.pub ((hr2.vis hv) 2 _ rfl))) ?_
 refine JH.pg 25 rfl (Gd.t1 rfl rfl rfl) (fun hc => p_move rfl) ?_
 refine JH.pg 26 rfl (Gd.t1 rfl rfl rfl) (fun hc => p_nilCheck (gvt rfl hc)) ?_
 refine JH.pg 27 rfl (Gd.t1 rfl rfl rfl) (fun hc => p_fieldAddr fld_45_2.h (gvt rfl hc)) ?_
 refine JH.wg 28 rfl (Gd.t1 rfl rfl rfl) (fun hc os' u' hv => q_load1 ty_2.h (gvt rfl hc) (Mem.pub ((hr4.vis hv) 2 _ rfl))) ?_
 refine JH.pg 29 rfl (Gd.t1 rfl rfl rfl) (fun hc => p_eql (gvt rfl hc) (gvt rfl hc)) ?_
 refine JH.p 30 rfl (p_pickAnd rfl rfl rfl) ?_
 refine jM 31 rfl rfl ?_
 refine JH.pg 32 rfl (Gd.t1 rfl rfl rfl) (fun hc => p_move rfl) ?_
 refine JH.pg 33 rfl (Gd.t1 rfl rfl rfl) (fun hc => p_nilCheck (gvt rfl hc)) ?_
 refine JH.pg 34 rfl (Gd.t1 rfl rfl rfl) (fun hc => p_fieldAddr fld_45_3.h (gvt rfl hc)) ?_
 refine JH.wg 35 rfl (Gd.t1 rfl rfl rfl) (fun hc os' u' hv => q_load1 ty_2.h (gvt rfl hc) (Mem.pub ((hr2.vis hv) 3 _ rfl))) ?_
 refine JH.pg 36 rfl (Gd.t1 rfl rfl rfl) (fun hc => p_move rfl) ?_
 refine JH.pg 37 rfl (Gd.t1 rfl rfl rfl) (fun hc => p_nilCheck (gvt rfl hc)) ?_
 refine JH.pg 38 rfl (Gd.t1 rfl rfl rfl) (fun hc => p_fieldAddr fld_45_3.h (gvt rfl hc)) ?_
 refine JH.wg 39 rfl (Gd.t1 rfl rfl rfl) (fun hc os' u' hv => q_load1 ty_2.h (gvt rfl hc) (Mem.pub ((hr4.vis hv) 3 _ rfl))) ?_
 refine JH.pg 40 rfl (Gd.t1 rfl rfl rfl) (fun hc => p_eql (gvt rfl hc) (gvt rfl hc)) ?_
 refine JH.p 41 rfl (p_pickAnd rfl rfl rfl) ?_
 refine jM 42 rfl rfl ?_
 refine JH.pg 43 rfl (Gd.t1 rfl rfl rfl) (fun hc => p_move rfl) ?_
 refine JH.pg 44 rfl (Gd.t1 rfl rfl rfl) (fun hc => p_nilCheck (gvt rfl hc)) ?_
 refine JH.pg 45 rfl (Gd.t1 rfl rfl rfl) (fun hc => p_fieldAddr fld_45_4.h (gvt rfl hc)) ?_
 refine JH.wg 46 rfl (Gd.t1 rfl rfl rfl) (fun hc os' u' hv => q_load1 ty_2.h (gvt rfl hc) (Mem.pub ((hr2.vis hv) 4 _ rfl))) ?_
 refine JH.pg 47 rfl (Gd.t1 rfl rfl rfl) (fun hc => p_move rfl) ?_
 refine JH.pg 48 rfl (Gd.t1 rfl rfl rfl) (fun hc => p_nilCheck (gvt rfl hc)) ?_
 refine JH.pg 49 rfl (Gd.t1 rfl rfl rfl) (fun hc => p_fieldAddr fld_45_4.h (gvt rfl hc)) ?_
 refine JH.wg 50 rfl (Gd.t1 rfl rfl rfl) (fun hc os' u' hv => q_load1 ty_2.h (gvt rfl hc) (Mem.pub ((hr4.vis hv) 4 _ rfl))) ?_
 refine JH.pg 51 rfl (Gd.t1 rfl rfl rfl) (fun hc => p_eql (gvt rfl hc) (gvt rfl hc)) ?_
 refine JH.p 52 rfl (p_pickAnd rfl rfl rfl) ?_
 refine jM 53 rfl rfl ?_
 refine JH.pg 54 rfl (Gd.t1 rfl rfl rfl) (fun hc => p_move rfl) ?_
 refine JH.pg 55 rfl (Gd.t1 rfl rfl rfl) (fun hc => p_nilCheck (gvt rfl hc)) ?_
 refine JH.pg 56 rfl (Gd.t1 rfl rfl rfl) (fun hc => p_fieldAddr fld_45_5.h (gvt rfl hc)) ?_
 refine JH.wg 57 rfl (Gd.t1 rfl rfl rfl) (fun hc os' u' hv => q_load1 ty_2.h (gvt rfl hc) (Mem.pub ((hr2.vis hv) 5 _ rfl))) ?_
 refine JH.pg 58 rfl (Gd.t1 rfl rfl rfl) (fun hc => p_move rfl) ?_
 refine JH.pg 59 rfl (Gd.t1 rfl rfl rfl) (fun hc => p_nilCheck (gvt rfl hc)) ?_
 refine JH.pg 60 rfl (Gd.t1 rfl rfl rfl) (fun hc => p_fieldAddr fld_45_5.h (gvt rfl hc)) ?_
 refine JH.wg 61 rfl (Gd.t1 rfl rfl rfl) (fun hc os' u' hv => q_load1 ty_2.h (gvt rfl hc) (Mem.pub ((hr4.vis hv) 5 _ rfl))) ?_
 refine JH.pg 62 rfl (Gd.t1 rfl rfl rfl) (fun hc => p_eql (gvt rfl hc) (gvt rfl hc)) ?_
 refine JH.p 63 rfl (p_pickAnd rfl rfl rfl) ?_
 refine jA 64 rfl rfl ?_
 refine yd ?_
 refine zR (Up.refl _ _) ?_
 first | rfl | (simp [outV, M.sameS, Bool.and_assoc]; done)
theorem c_spec_SameMemory (a : M.Mem) {v_a : Value} (b : M.Mem) {v_b : Value} {w : World} (h_a : (Ty.agg (cMemory a)).ok w v_a) (h_b : (Ty.agg (cMemory b)).ok w v_b) (r0 : a.slots.length ≤ 4194304 := by exact om_) (r1 : ∀ x ∈ a.slots, x.pits.length ≤ 4194304 := by exact om_) (r2 : b.slots.length ≤ 4194304 := by exact om_) (r3 : ∀ x ∈ b.slots, x.pits.length ≤ 4194304 := by exact om_) : RetV Try.prog 14 [v_a, v_b] w (.bool (M.sameM a b)) := by
 revert v_a; apply opn
 intro A1 c1 h1 bl1 bh1
 revert v_b; apply opn
 intro A2 c2 h2 bl2 bh2
 refine enter @Try.func14 @Try.ntmps14 rfl rfl ?_
 refine zent ?_
 refine zS <| zb rfl fun b3 => zb rfl fun b4 => Qa rfl <| zJ <| zS <| Qf fh rfl <| Q9 1 rfl rfl ?_
 refine Qf fh rfl <| Q9 0 rfl rfl ?_
 refine Qq (p_neqS (by kernel_rfl) (fun w => eqs_Rules a.rules b.rules w) rfl rfl) <| Qm rfl <| zg (Gd.f1 rfl rfl rfl) (fun hc => p_fieldAddr fld_28_1.h rfl) <| zgq (Gd.f1 rfl rfl rfl) (fun hc => q_load1 ty_26.h (gh hc rfl) (Mem.box (i := 1) rfl rfl)) <| zg (Gd.f1 rfl rfl rfl) (fun hc => p_len el_26 (gh hc rfl)) <| zg (Gd.f1 rfl rfl rfl) (fun hc => p_fieldAddr fld_28_1.h rfl) <| zgq (Gd.f1 rfl rfl rfl) (fun hc => q_load1 ty_26.h (gh hc rfl) (Mem.box (i := 0) rfl rfl)) <| zg (Gd.f1 rfl rfl rfl) (fun hc => p_len el_26 (gh hc rfl)) <| zg (Gd.f1 rfl rfl rfl) (fun hc => p_neq (gh hc rfl) (gh hc rfl)) <| Qq (p_pickOr rfl rfl rfl) <| JL.nil ?_
 refine zi (fun h5 h5' => ?_) fun h5 h5' => ?_
 ·
  have hE := M.sameM_no (a := a) (b := b) (by have h9 := h5; simpa using h9)
  refine zS <| Qa rfl <| JL.nil ?_
  refine zR (Up.refl _ _) ?_
  rw [hE]; rfl
 obtain ⟨hr, hl⟩ : a.rules = b.rules ∧ a.slots.length = b.slots.length := M.sameM_h (by have h9 := h5; simpa using h9)
 refine Js.skip <| Js.seq <| zS <| Qa rfl <| JL.nil <| Js.block ?_
 refine zl [2, 3] (fun F U l os u m => ∃ (k : Nat), l = F [(5, .int .i64 (k : Int))] ∧ os = U [] ∧ (k ≤ a.slots.length) ∧ (∀ i : Nat, i < k → M.slo a.slots i = M.slo b.slots i) ∧ m = a.slots.length - k) ⟨0, rfl, rfl, zt, by exact fun i hi => absurd hi (by omega), rfl⟩ ?_
 rintro _ _ u6 _ ⟨k, rfl, rfl, hk, hA, rfl⟩ x6
 refine zn ?_
 refine Js.seq <| zS <| Qm rfl <| Qf fh rfl <| Q0 1 rfl rfl rfl <| Qz rfl <| Ql rfl rfl <| JL.nil ?_
 refine zi (fun h7 h7' => ?_) fun h7 h7' => ?_
 ·
  have hkk : k < a.slots.length := by have := h7'; omega
  have ha9 := r1 _ (M.slo_mem (l := a.slots) (k := k) (by omega))
  have hb9 := r3 _ (M.slo_mem (l := b.slots) (k := k) (by omega))
  refine Js.skip <| Js.seq <| Js.block <| Js.seq ?_
  refine zdr [] ?_
  refine jF 0 fld_28_1 rfl rfl ?_
  refine jB 1 1 ty_26 rfl rfl rfl rfl ?_
  refine jM 2 rfl rfl ?_
  have hy8 : a.slots[k]? = some (M.slo a.slots k) := M.slo_get (by omega)
  obtain ⟨b8, o8, A8_1, c8_1, he8, hr8, h8_1, bl8_1, bh8_1⟩ := elem_Slot (Ty.mono _ h1 x6.vis) hy8
  refine jI 3 el_26 rfl rfl rfl he8 ?_
  refine jF 4 fld_28_1 rfl rfl ?_
  refine jB 5 0 ty_26 rfl rfl rfl rfl ?_
  refine jM 6 rfl rfl ?_
  have hy9 : b.slots[k]? = some (M.slo b.slots k) := M.slo_get (by omega)
  obtain ⟨b9, o9, A9_1, c9_1, he9, hr9, h9_1, bl9_1, bh9_1⟩ := elem_Slot (Ty.mono _ h2 x6.vis) hy9
  refine jI 7 el_26 rfl rfl rfl he9 ?_
  refine y1 8 ?_
  refine yv rfl rfl (fun w hw => c_spec_l16Same (M.slo a.slots k) (M.slo b.slots k) (ok_ hw) (ok_ hw)) ?_
  refine JH.p 9 rfl (p_not rfl) ?_
  refine yd ?_
  refine zi (fun h10 h10' => ?_) fun h10 h10' => ?_
  ·
   have hE := M.sameM_x (a := a) (b := b) (k := k) (by have h9 := h10; simpa using h9)
   refine zS <| Qa rfl <| JL.nil ?_
   refine zR x6 ?_
   rw [hE]; rfl
  have hx9 : M.slo a.slots k = M.slo b.slots k := M.sameS_iff.1 (by simpa using h10)
  have hA2 : ∀ i : Nat, i < k + 1 → M.slo a.slots i = M.slo b.slots i := fun i hi => by rcases Nat.lt_succ_iff_lt_or_eq.1 hi with h9 | h9; (exact hA i h9); subst h9; exact hx9
  refine Js.skip <| Js.blockEnd <| Js.region <| Qm rfl <| Qp rfl rfl <| Qa rfl <| JL.nil ?_
  exact zag ⟨k + 1, rfl, rfl, zt, by exact hA2, rfl⟩ x6
 have hE := M.sameM_y hr hl (fun i hi => hA i (by have := h7'; omega))
 refine zx ?_
 refine zS <| Qa rfl <| JL.nil ?_
 refine zR x6 ?_
 rw [hE]; rfl
theorem c_spec_l16Own (mem : M.Mem) {v_mem : Value} {w : World} (h_mem : (Ty.ref (cMemory mem)).ok w v_mem) (r0 : mem.slots.length ≤ 4194304 := by exact om_) (r1 : ∀ x ∈ mem.slots, x.pits.length ≤ 4194304 := by exact om_) : Ret Try.prog 39 [v_mem] w (Ty.agg (cMemory mem)) := by
 revert v_mem; apply opn
 intro b2 o2 A1 c1 h1 bl1 bh1 hr2
 refine enter @Try.func39 @Try.ntmps39 rfl rfl ?_
 refine zent ?_
 refine zS <| za zeh fun b3 => zN <| Qm rfl <| Qc rfl <| Qf fh rfl <| QS 0 hr2 rfl ?_
 refine Qb ?_
 refine za zeh fun b4 => zw 0 rfl rfl rfl ?_
 refine zJ <| zS <| Qa rfl <| JL.nil <| Js.block ?_
 refine Js.conv (fun w hw => St.nilRowS 45 6 hw) ?_
 refine Js.vals (Ts := lSlot []) (vs := []) (fun w => rfl) ?_
 refine zl [0, 2, 3] (fun F U l os u m => ∃ (k : Nat) (acc : List M.Slo) (A5_3_9 : Option Addr) (c5_3_9 : Nat) (g5_3_9 : List Nat) (vs5_3_9 : List Value) (fl5_3_9 : List Nat), l = F [(4, .int .i64 (k : Int))] ∧ os = U [some (ownC (lSlot acc) vs5_3_9 fl5_3_9), some (rowO 45 6 (.slice A5_3_9 acc.length c5_3_9) acc.length vs5_3_9 g5_3_9), some (boxO b4 [.int .i64 mem.rules.pits, .int .i64 mem.rules.seeds, .bool mem.rules.stores, .bool mem.rules.skip, .bool mem.rules.relay, .bool mem.rules.feed, .bool mem.rules.again, .int .i64 mem.rules.capture, .int .i64 mem.rules.slam, .slice A5_3_9 acc.length c5_3_9] 28)] ∧ (acc = mem.slots.take k) ∧ (k ≤ mem.slots.length) ∧ (acc.length ≤ c5_3_9) ∧ (c5_3_9 ≤ 9223372036854775807) ∧ m = mem.slots.length - k) ⟨0, [], _, _, _, _, _, rfl, rfl, by rfl, zt, zu, zu, rfl⟩ ?_
 rintro _ _ u5 _ ⟨k, acc, A5_3_9, c5_3_9, g5_3_9, vs5_3_9, fl5_3_9, rfl, rfl, hA, hk, f5_2, f5_3, rfl⟩ x5
 refine zn ?_
 have hla : acc.length = k := by rw [hA, List.length_take]; omega
 refine Js.seq <| zS <| Qm rfl <| Qm rfl <| Qc rfl <| Qf fh rfl <| QC ((hr2.vis x5.vis) 9 _ rfl) rfl <| Qz rfl <| Ql rfl rfl <| JL.nil ?_
 refine zi (fun h6 h6' => ?_) fun h6 h6' => ?_
 ·
  have hkk : k < mem.slots.length := by have := h6'; omega
  have e1_ := r1 _ (M.slo_mem (l := mem.slots) (k := k) hkk)
  have hA2 := M.takeS hkk
  rw [← hA] at hA2
  have hA2 := hA2.symm
  have hy7 : mem.slots[k]? = some (M.slo mem.slots k) := M.slo_get (by omega)
  obtain ⟨b7, o7, A7_1, c7_1, he7, hr7, h7_1, bl7_1, bh7_1⟩ := elem_Slot (Ty.mono _ h1 x5.vis) hy7
  refine Js.skip <| Js.seq <| Js.block <| zS <| Qm rfl <| Qc rfl <| Qf fh rfl <| QC ((hr2.vis x5.vis) 9 _ rfl) rfl <| Qm rfl <| Qq (p_indexAddr el_26 rfl rfl (by omega) (by omega) he7) <| QS 0 hr7 rfl ?_
  refine za zeh fun b8 => zw 0 rfl rfl rfl ?_
  refine zN <| Qf fh rfl <| Q0 0 rfl rfl rfl <| zcs rfl (fun w hw => c_spec_l00Own ((M.slo mem.slots k).pits) (ok_ hw)) ?_
  intro A9 c9 bl9 bh9
  refine Qf fh rfl <| zw 1 rfl rfl rfl ?_
  refine zG <| Qf fh rfl <| Q0 4 rfl rfl rfl <| Q9 1 rfl rfl ?_
  refine zbs fun b10 => ?_
  refine JL.e (e_append (i := 4) (n' := (acc ++ [(M.slo mem.slots k)]).length) (vs' := vs5_3_9 ++ [.bool ((M.slo mem.slots k).used), .slice A9 (((M.slo mem.slots k).pits).length) c9, .int .i64 ((M.slo mem.slots k).player), .int .i64 ((M.slo mem.slots k).depth), .int .i64 ((M.slo mem.slots k).value), .int .i64 ((M.slo mem.slots k).bound)]) el_26 rfl rfl rfl rfl (src_row (i := 0) und_26 rfl rfl) (by omega) (by omega) ln2_ (rfl)) ?_
  rintro v12 _ _ ⟨⟨g13, rfl⟩, rfl⟩ _
  refine JL.fact (row_form' (i := 4) rfl) (fun hf14 => ?_)
  obtain ⟨A14, c14, rfl, bl14, bh14⟩ := hf14
  refine znl ?_
  refine Qf fh rfl <| zw 5 rfl rfl rfl ?_
  refine JL.nil ?_
  refine Js.pk (cSlot (M.slo mem.slots k)) [.bool ((M.slo mem.slots k).used), .slice A9 (((M.slo mem.slots k).pits).length) c9, .int .i64 ((M.slo mem.slots k).player), .int .i64 ((M.slo mem.slots k).depth), .int .i64 ((M.slo mem.slots k).value), .int .i64 ((M.slo mem.slots k).bound)] (fun f16 G16 => ?_)
  refine zn ?_
  refine Js.joinL (i := 4) (j := 0) (Vs := lSlot (acc ++ [(M.slo mem.slots k)])) rfl rfl (lSlot_snoc _ _) (fun f17 => ?_)
  refine zn ?_
  refine Js.blockEnd <| Js.region <| Qm rfl <| Qp rfl rfl <| Qa rfl <| JL.nil ?_
  refine zd [0, 3, 3, 3] rfl fun u18 x18 => ?_
  exact zag ⟨k + 1, acc ++ [(M.slo mem.slots k)], _, _, _, _, _, rfl, rfl, by exact hA2, zt, zu, zu, rfl⟩ (x5.trans x18)
 have hE : acc = mem.slots := by rw [hA, List.take_of_length_le (by have := h6'; omega)]
 refine zx ?_
 have hq0 : acc = mem.slots := by first | rfl | (rw [hE]; done) | (rw [hE]; rfl)
 refine zS <| Q9 2 rfl rfl ?_
 refine zw 3 rfl rfl rfl ?_
 refine JL.nil ?_
 exact zro x5
theorem c_spec_l16Code (mem : M.Mem) {v_mem : Value} (p : M.Pos) {v_p : Value} {w : World} (h_mem : (Ty.ref (cMemory mem)).ok w v_mem) (h_p : (Ty.ref (cPosition p)).ok w v_p) (r0 : mem.slots.length ≤ 4194304 := by exact om_) (r1 : ∀ x ∈ mem.slots, x.pits.length ≤ 4194304 := by exact om_) (r2 : p.pits.length ≤ 4194304 := by exact om_) (r3 : p.stores.length ≤ 4194304 := by exact om_) : RetV Try.prog 36 [v_mem, v_p] w (.int .i64 (M.remC mem p)) := by
 revert v_mem; apply opn
 intro b2 o2 A1 c1 h1 bl1 bh1 hr2
 revert v_p; apply opn
 intro b5 o5 A3 c3 h3 bl3 bh3 A4 c4 h4 bl4 bh4 hr5
 refine enter @Try.func36 @Try.ntmps36 rfl rfl ?_
 refine zent ?_
 refine zS <| Qa rfl <| zJ <| zS <| Qm rfl <| zv rfl (fun w hw => c_spec_l16Ok mem (ok_ hw) (r1 := r1)) <| Qt rfl <| Qm rfl <| zg (Gd.f1 rfl rfl rfl) (fun hc => p_move rfl) <| zg (Gd.f1 rfl rfl rfl) (fun hc => p_nilCheck (gh hc rfl)) <| zg (Gd.f1 rfl rfl rfl) (fun hc => p_fieldAddr fld_28_0.h (gh hc rfl)) <| zg (Gd.f1 rfl rfl rfl) (fun hc => p_move rfl) <| zgv (Gd.f1 rfl rfl rfl) (fun hc => (opds_2 (gh hc rfl) (gh hc rfl))) (fun hc => (fun w hw => c_spec_l04Ok mem.rules p (ok_ hw) (ok_ hw) (r0 := (by have hc9 := hc; (try simp only [Bool.not_eq_true', Bool.not_eq_false'] at hc9); omega)) (r1 := (by have hc9 := hc; (try simp only [Bool.not_eq_true', Bool.not_eq_false'] at hc9); omega)))) ?_
 refine zg (Gd.f1 rfl rfl rfl) (fun hc => p_not (gh hc rfl)) <| Qq (p_pickOr rfl rfl rfl) <| JL.nil ?_
 refine zi (fun h6 h6' => ?_) fun h6 h6' => ?_
 ·
  have hE := M.remC_1 (m := mem) (p := p) (by have h9 := h6; rintro h8; simp only [M.remB, Bool.and_eq_true] at h8; simp [h8.1, h8.2] at h9)
  refine zS <| Qa rfl <| JL.nil ?_
  refine zR (Up.refl _ _) ?_
  rw [hE]; rfl
 have hE := M.remC_0 (m := mem) (p := p) (by have h9 := h6; simpa [M.remB] using h9)
 refine Js.skip <| zS <| Qa rfl <| JL.nil ?_
 refine zR (Up.refl _ _) ?_
 rw [hE]; rfl
theorem c_spec_l16Place (mem : M.Mem) {v_mem : Value} (p : M.Pos) {v_p : Value} {w : World} (h_mem : (Ty.ref (cMemory mem)).ok w v_mem) (h_p : (Ty.ref (cPosition p)).ok w v_p) (r0 : M.okP mem.rules p = true := by exact om_) (r1 : 0 < mem.slots.length := by exact om_) (r2 : mem.slots.length ≤ 4194304 := by exact om_) : RetV Try.prog 42 [v_mem, v_p] w (.int .i64 (M.plc mem.slots.length p.pits p.player)) := by
 obtain ⟨g1, g2, g3, g4, g5, g6, g7⟩ := M.okP_bd r0
 revert v_mem; apply opn
 intro b2 o2 A1 c1 h1 bl1 bh1 hr2
 revert v_p; apply opn
 intro b5 o5 A3 c3 h3 bl3 bh3 A4 c4 h4 bl4 bh4 hr5
 refine enter @Try.func42 @Try.ntmps42 rfl rfl ?_
 refine zent ?_
 refine zS <| Qa rfl <| zJ ?_
 refine zdr [] ?_
 refine jM 0 rfl rfl ?_
 refine jN 1 rfl rfl ?_
 refine jF 2 fld_31_0 rfl rfl ?_
 refine jW 3 ty_29 rfl rfl (fun hv => (hr5.vis hv) 0 _ rfl) ?_
 refine jM 4 rfl rfl ?_
 refine jN 5 rfl rfl ?_
 refine jF 6 fld_31_2 rfl rfl ?_
 refine jW 7 ty_2 rfl rfl (fun hv => (hr5.vis hv) 2 _ rfl) ?_
 refine jM 8 rfl rfl ?_
 refine jN 9 rfl rfl ?_
 refine jF 10 fld_28_1 rfl rfl ?_
 refine jW 11 ty_26 rfl rfl (fun hv => (hr2.vis hv) 9 _ rfl) ?_
 refine JH.p 12 rfl (p_len el_26 rfl) ?_
 refine y1 13 ?_
 refine yv rfl rfl (fun w hw => c_spec_l16Hash p.pits p.player (mem.slots.length : Int) (ok_ hw) (r0 := g5) (r1 := (by constructor <;> omega))) ?_
 refine jA 14 rfl rfl ?_
 refine yd ?_
 refine zR (Up.refl _ _) ?_
 rfl
end Go.Proofs.Ytmgnckfhghibeaa

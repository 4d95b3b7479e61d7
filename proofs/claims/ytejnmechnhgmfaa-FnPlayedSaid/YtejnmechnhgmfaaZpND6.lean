/- Walks: D6. -/
import Derived.Test.YtejnmechnhgmfaaZpTn
import Derived.Test.YtejnmechnhgmfaaZpND5
import Derived.Test.YtejnmechnhgmfaaZpF13
set_option linter.unusedSimpArgs false
set_option linter.unusedVariables false
set_option maxRecDepth 100000
attribute [local irreducible] Go.Proofs.Ytejnmechnhgmfaa.gv
namespace Go.Proofs.Ytejnmechnhgmfaa
open Go.RowKit

set_option maxHeartbeats 4000000 in
theorem c_spec_DrawPlayMove (code : Nat) {v_code : Value} {w : World} (h_code : (Ty.bytes 5 code).ok w v_code) (r0 : code ≤ 1048576 := by exact om_) : Ret Try.prog 59 [v_code] w (Ty.tup [Ty.ex (fun (GX : M.Gam) => (GX.start.pits.length ≤ 4194304 ∧ GX.start.stores.length ≤ 4194304 ∧ GX.moves.length ≤ 122 ∧ GX.now.pits.length ≤ 4194304 ∧ GX.now.stores.length = 2)) (fun GX => Ty.agg (cGame GX)), Ty.ex (fun (KX : Int) => True) (fun KX => Ty.int KX)]) := by
 revert v_code; apply opn
 intro A1 c1 h1 bl1 bh1
 have h_code := h1
 refine enter @Try.func59 @Try.ntmps59 rfl rfl ?_
 refine zent ?_
 refine zS <| za zeh fun b2 => Qa rfl <| zN <| Qm rfl <| zcs rfl (fun w hw => c_spec_l00From code (ok_ hw)) ?_
 intro b3
 refine Qa rfl <| zN <| Qm rfl <| zB 1 sp_ rfl (fun w hb hw => c_spec_l08Bent code 0 0 hb (ok_ hw)) ?_
 rintro _ _ G4 ⟨X4GX, X4AT, X4SD, A4r_9, c4r_9, g4r_9, A4r_10, c4r_10, g4r_10, A4r_12, c4r_12, g4r_12, A4r_13, c4r_13, g4r_13, A4r_14, c4r_14, g4r_14, rfl, rfl, bl4_0, bl4_1, bl4_2, bl4_3, bl4_4, bl4_5, bl4_6, bl4_7, bl4_8, bl4_9, hX4_0, hX4_1, hX4_2⟩
 refine znl ?_
 obtain ⟨s1, s2, s3, s4, s5⟩ := (show X4GX.start.pits.length ≤ 4194304 ∧ X4GX.start.stores.length ≤ 4194304 ∧ X4GX.moves.length ≤ 122 ∧ X4GX.now.pits.length ≤ 4194304 ∧ X4GX.now.stores.length = 2 by assumption)
 refine za zeh fun b5 => zw 0 rfl rfl rfl ?_
 refine zJ <| Js.seq ?_
 rcases Bool.eq_false_or_eq_true (M.okG X4GX) with h6 | h6
 ·
  refine Js.region <| zv rfl (fun w hw => c_spec_l08Ok X4GX (ok_ hw)) <| Qm rfl <| zT (Gd.t1 rfl rfl rfl) (show (M.okG X4GX) = true by simp [h6]) <| Qm rfl <| zT (Gd.t1 rfl rfl rfl) (show (M.okG X4GX) = true by simp [h6]) ?_
  refine zhl [1] ?_
  refine zB 1 sp_ rfl (fun w hb hw => c_spec_l00Src_one code X4AT X4SD 4 hb (ok_ hw)) ?_
  rintro _ _ G7 ⟨X7BX, X7AT, X7SD, rfl, rfl, hX7_0, hX7_1⟩
  refine znl ?_
  refine zT (Gd.t1 rfl rfl rfl) (show (M.okG X4GX) = true by simp [h6]) <| Qt rfl <| Qq (p_pickAnd2 rfl rfl rfl) <| JL.nil ?_
  refine zi (fun h8 h8' => ?_) fun h8 h8' => ?_
  ·
   refine Js.seq ?_
   refine zk [2] (fun F U l os u => ∃ (X9KX : Int) (G9 : List Nat) (X9AT X9SD : Int), l = F [(3, .int .i64 X9KX)] ∧ os = [anyO G9] ++ U [some (boxO b3 [.slice A1 code c1, .int .i64 X9AT, .int .u64 X9SD] 118), nO, nO, nO, nO, nO, nO, nO, nO, some (boxO b2 [.int .i64 X4GX.rules.pits, .int .i64 X4GX.rules.seeds, .bool X4GX.rules.stores, .bool X4GX.rules.skip, .bool X4GX.rules.relay, .bool X4GX.rules.feed, .bool X4GX.rules.again, .int .i64 X4GX.rules.capture, .int .i64 X4GX.rules.slam, .slice A4r_9 X4GX.start.pits.length c4r_9, .slice A4r_10 X4GX.start.stores.length c4r_10, .int .i64 X4GX.start.player, .slice A4r_12 X4GX.moves.length c4r_12, .slice A4r_13 X4GX.now.pits.length c4r_13, .slice A4r_14 X4GX.now.stores.length c4r_14, .int .i64 X4GX.now.player, .int .i64 X4GX.resigned] 35)] ∧ (X7AT ≤ X9AT) ∧ (X9AT ≤ X7AT + 2)) ?_ ?_
   ·
    refine zdr [2, 3] ?_
    refine JH.p 1 rfl (p_move rfl) ?_
    refine y2 0 2 ?_ ?_
    ·
     refine JHo.q rfl (L9 2 rfl rfl) ?_
     refine y1 2 ?_
     refine yB 1 sp_ rfl rfl (fun w hb hw => c_spec_l08Legal code X7AT X7SD X4GX hb (ok_ hw) (ok_ hw)) ?_
     rintro _ _ G12 ⟨X12KX, X12AT, X12SD, rfl, rfl, hX12_0, hX12_1⟩
     refine znh ?_
     refine y1 3 ?_
     refine yst rfl rfl rfl ?_
     refine JH.p 4 rfl (p_assign rfl) ?_
     refine yd ?_
     refine zh [1, 0, 0, 0, 0, 0, 0, 0, 0, 0, 0] ?_
     exact zm ⟨_, _, _, _, rfl, rfl, zt, zt⟩ (Up.refl _ _)
    refine yB 1 sp_ rfl rfl (fun w hb hw => c_spec_l08Legal code X7AT X7SD X4GX hb (ok_ hw) (ok_ hw)) ?_
    rintro _ _ G13 ⟨X13KX, X13AT, X13SD, rfl, rfl, hX13_0, hX13_1⟩
    refine znh ?_
    refine y1 0 ?_
    refine JHo.q rfl (L9 3 rfl rfl) ?_
    refine y1 3 ?_
    refine yst rfl rfl rfl ?_
    refine JH.p 4 rfl (p_assign rfl) ?_
    refine yd ?_
    refine zh [1, 0, 0, 0, 0, 0, 0, 0, 0, 0, 0] ?_
    exact zm ⟨_, _, _, _, rfl, rfl, zt, zt⟩ (Up.refl _ _)
   rintro _ _ u11 ⟨X9KX, G9, X9AT, X9SD, rfl, rfl, f11_0, f11_1⟩ x11
   refine zn ?_
   exact zro x11 (g := by exact (gv_tup (gvc (gv_ex X4GX (by first | trivial | assumption | omega) gv_) (gvc (gv_ex X9KX (by first | trivial | assumption | omega) gv_) gvn))))
  refine Js.skip <| Js.seq ?_
  refine zk [2] (fun F U l os u => ∃ (X14KX : Int) (G14 : List Nat) (X14AT X14SD : Int), l = F [(3, .int .i64 (X14KX - 1))] ∧ os = [anyO G14] ++ U [some (boxO b3 [.slice A1 code c1, .int .i64 X14AT, .int .u64 X14SD] 118), nO, nO, nO, nO, nO, nO, nO, nO, some (boxO b2 [.int .i64 X4GX.rules.pits, .int .i64 X4GX.rules.seeds, .bool X4GX.rules.stores, .bool X4GX.rules.skip, .bool X4GX.rules.relay, .bool X4GX.rules.feed, .bool X4GX.rules.again, .int .i64 X4GX.rules.capture, .int .i64 X4GX.rules.slam, .slice A4r_9 X4GX.start.pits.length c4r_9, .slice A4r_10 X4GX.start.stores.length c4r_10, .int .i64 X4GX.start.player, .slice A4r_12 X4GX.moves.length c4r_12, .slice A4r_13 X4GX.now.pits.length c4r_13, .slice A4r_14 X4GX.now.stores.length c4r_14, .int .i64 X4GX.now.player, .int .i64 X4GX.resigned] 35)] ∧ (0 ≤ X14KX) ∧ (X14KX = 0 ∨ X14KX < 9) ∧ (X7AT ≤ X14AT) ∧ (X14AT ≤ X7AT + 2)) ?_ ?_
  ·
   refine zdr [2, 4] ?_
   refine JH.p 1 rfl (p_move rfl) ?_
   refine y2 0 2 ?_ ?_
   ·
    refine JHo.q rfl (L9 2 rfl rfl) ?_
    refine y1 2 ?_
    refine yB 1 sp_ rfl rfl (fun w hb hw => c_spec_l00Src_pick code X7AT X7SD 9 hb (ok_ hw)) ?_
    rintro _ _ G17 ⟨X17KX, X17AT, X17SD, rfl, rfl, hX17_0, hX17_1, hX17_2, hX17_3⟩
    refine znh ?_
    refine JH.p 3 rfl (p_sub rfl rfl (IntWalk.i64_in _ (by omega))) ?_
    refine y1 4 ?_
    refine yst rfl rfl rfl ?_
    refine JH.p 5 rfl (p_assign rfl) ?_
    refine yd ?_
    refine zh [1, 0, 0, 0, 0, 0, 0, 0, 0, 0, 0] ?_
    exact zm ⟨_, _, _, _, rfl, rfl, zt, zt, zt, zt⟩ (Up.refl _ _)
   refine yB 1 sp_ rfl rfl (fun w hb hw => c_spec_l00Src_pick code X7AT X7SD 9 hb (ok_ hw)) ?_
   rintro _ _ G18 ⟨X18KX, X18AT, X18SD, rfl, rfl, hX18_0, hX18_1, hX18_2, hX18_3⟩
   refine znh ?_
   refine JH.p 3 rfl (p_sub rfl rfl (IntWalk.i64_in _ (by omega))) ?_
   refine y1 0 ?_
   refine JHo.q rfl (L9 3 rfl rfl) ?_
   refine y1 4 ?_
   refine yst rfl rfl rfl ?_
   refine JH.p 5 rfl (p_assign rfl) ?_
   refine yd ?_
   refine zh [1, 0, 0, 0, 0, 0, 0, 0, 0, 0, 0] ?_
   exact zm ⟨_, _, _, _, rfl, rfl, zt, zt, zt, zt⟩ (Up.refl _ _)
  rintro _ _ u16 ⟨X14KX, G14, X14AT, X14SD, rfl, rfl, f16_0, f16_1, f16_2, f16_3⟩ x16
  refine zn ?_
  exact zro x16 (g := by exact (gv_tup (gvc (gv_ex X4GX (by first | trivial | assumption | omega) gv_) (gvc (gv_ex (X14KX - 1) (by first | trivial | assumption | omega) gv_) gvn))))
 refine Js.region <| zv rfl (fun w hw => c_spec_l08Ok X4GX (ok_ hw)) <| Qm rfl ?_
 refine JL.g (v := undef) (Gd.t1 rfl rfl rfl) (fun hc => absurd hc (by simp [h6])) ?_
 refine JL.g (v := .bool false) (Gd.t1 rfl rfl rfl) (fun hc => absurd hc (by simp [h6])) ?_
 refine JL.g (v := .bool false) (Gd.t1 rfl rfl rfl) (fun hc => absurd hc (by simp [h6])) ?_
 refine Qq (p_pickAnd rfl rfl rfl) <| JL.nil ?_
 refine zi (fun h19 h19' => ?_) fun h19 h19' => ?_
 ·
  refine Js.seq ?_
  refine zk [2] (fun F U l os u => ∃ (X20KX : Int) (G20 : List Nat) (X20AT X20SD : Int), l = F [(3, .int .i64 X20KX)] ∧ os = [anyO G20] ++ U [nO, some (boxO b3 [.slice A1 code c1, .int .i64 X20AT, .int .u64 X20SD] 118), nO, nO, nO, nO, nO, nO, some (boxO b2 [.int .i64 X4GX.rules.pits, .int .i64 X4GX.rules.seeds, .bool X4GX.rules.stores, .bool X4GX.rules.skip, .bool X4GX.rules.relay, .bool X4GX.rules.feed, .bool X4GX.rules.again, .int .i64 X4GX.rules.capture, .int .i64 X4GX.rules.slam, .slice A4r_9 X4GX.start.pits.length c4r_9, .slice A4r_10 X4GX.start.stores.length c4r_10, .int .i64 X4GX.start.player, .slice A4r_12 X4GX.moves.length c4r_12, .slice A4r_13 X4GX.now.pits.length c4r_13, .slice A4r_14 X4GX.now.stores.length c4r_14, .int .i64 X4GX.now.player, .int .i64 X4GX.resigned] 35)] ∧ (X4AT ≤ X20AT) ∧ (X20AT ≤ X4AT + 2)) ?_ ?_
  ·
   refine zdr [2, 3] ?_
   refine JH.p 1 rfl (p_move rfl) ?_
   refine y2 0 2 ?_ ?_
   ·
    refine JHo.q rfl (L9 0 rfl rfl) ?_
    refine y1 2 ?_
    refine zhh [1] ?_
    refine yB 1 sp_ rfl rfl (fun w hb hw => c_spec_l08Legal code X4AT X4SD X4GX hb (ok_ hw) (ok_ hw)) ?_
    rintro _ _ G23 ⟨X23KX, X23AT, X23SD, rfl, rfl, hX23_0, hX23_1⟩
    refine znh ?_
    refine y1 3 ?_
    refine yst rfl rfl rfl ?_
    refine JH.p 4 rfl (p_assign rfl) ?_
    refine yd ?_
    refine zh [1, 1, 0, 0, 0, 0, 0, 0, 0, 0] ?_
    exact zm ⟨_, _, _, _, rfl, rfl, zt, zt⟩ (Up.refl _ _)
   refine zhh [1] ?_
   refine yB 1 sp_ rfl rfl (fun w hb hw => c_spec_l08Legal code X4AT X4SD X4GX hb (ok_ hw) (ok_ hw)) ?_
   rintro _ _ G24 ⟨X24KX, X24AT, X24SD, rfl, rfl, hX24_0, hX24_1⟩
   refine znh ?_
   refine y1 0 ?_
   refine JHo.q rfl (L9 2 rfl rfl) ?_
   refine y1 3 ?_
   refine yst rfl rfl rfl ?_
   refine JH.p 4 rfl (p_assign rfl) ?_
   refine yd ?_
   refine zh [1, 1, 0, 0, 0, 0, 0, 0, 0, 0] ?_
   exact zm ⟨_, _, _, _, rfl, rfl, zt, zt⟩ (Up.refl _ _)
  rintro _ _ u22 ⟨X20KX, G20, X20AT, X20SD, rfl, rfl, f22_0, f22_1⟩ x22
  refine zn ?_
  exact zro x22 (g := by exact (gv_tup (gvc (gv_ex X4GX (by first | trivial | assumption | omega) gv_) (gvc (gv_ex X20KX (by first | trivial | assumption | omega) gv_) gvn))))
 refine Js.skip <| Js.seq ?_
 refine zk [2] (fun F U l os u => ∃ (X25KX : Int) (G25 : List Nat) (X25AT X25SD : Int), l = F [(3, .int .i64 (X25KX - 1))] ∧ os = [anyO G25] ++ U [nO, some (boxO b3 [.slice A1 code c1, .int .i64 X25AT, .int .u64 X25SD] 118), nO, nO, nO, nO, nO, nO, some (boxO b2 [.int .i64 X4GX.rules.pits, .int .i64 X4GX.rules.seeds, .bool X4GX.rules.stores, .bool X4GX.rules.skip, .bool X4GX.rules.relay, .bool X4GX.rules.feed, .bool X4GX.rules.again, .int .i64 X4GX.rules.capture, .int .i64 X4GX.rules.slam, .slice A4r_9 X4GX.start.pits.length c4r_9, .slice A4r_10 X4GX.start.stores.length c4r_10, .int .i64 X4GX.start.player, .slice A4r_12 X4GX.moves.length c4r_12, .slice A4r_13 X4GX.now.pits.length c4r_13, .slice A4r_14 X4GX.now.stores.length c4r_14, .int .i64 X4GX.now.player, .int .i64 X4GX.resigned] 35)] ∧ (0 ≤ X25KX) ∧ (X25KX = 0 ∨ X25KX < 9) ∧ (X4AT ≤ X25AT) ∧ (X25AT ≤ X4AT + 2)) ?_ ?_
 ·
  refine zdr [2, 4] ?_
  refine JH.p 1 rfl (p_move rfl) ?_
  refine y2 0 2 ?_ ?_
  ·
   refine JHo.q rfl (L9 0 rfl rfl) ?_
   refine y1 2 ?_
   refine zhh [1] ?_
   refine yB 1 sp_ rfl rfl (fun w hb hw => c_spec_l00Src_pick code X4AT X4SD 9 hb (ok_ hw)) ?_
   rintro _ _ G28 ⟨X28KX, X28AT, X28SD, rfl, rfl, hX28_0, hX28_1, hX28_2, hX28_3⟩
   refine znh ?_
   refine JH.p 3 rfl (p_sub rfl rfl (IntWalk.i64_in _ (by omega))) ?_
   refine y1 4 ?_
   refine yst rfl rfl rfl ?_
   refine JH.p 5 rfl (p_assign rfl) ?_
   refine yd ?_
   refine zh [1, 1, 0, 0, 0, 0, 0, 0, 0, 0] ?_
   exact zm ⟨_, _, _, _, rfl, rfl, zt, zt, zt, zt⟩ (Up.refl _ _)
  refine zhh [1] ?_
  refine yB 1 sp_ rfl rfl (fun w hb hw => c_spec_l00Src_pick code X4AT X4SD 9 hb (ok_ hw)) ?_
  rintro _ _ G29 ⟨X29KX, X29AT, X29SD, rfl, rfl, hX29_0, hX29_1, hX29_2, hX29_3⟩
  refine znh ?_
  refine JH.p 3 rfl (p_sub rfl rfl (IntWalk.i64_in _ (by omega))) ?_
  refine y1 0 ?_
  refine JHo.q rfl (L9 2 rfl rfl) ?_
  refine y1 4 ?_
  refine yst rfl rfl rfl ?_
  refine JH.p 5 rfl (p_assign rfl) ?_
  refine yd ?_
  refine zh [1, 1, 0, 0, 0, 0, 0, 0, 0, 0] ?_
  exact zm ⟨_, _, _, _, rfl, rfl, zt, zt, zt, zt⟩ (Up.refl _ _)
 rintro _ _ u27 ⟨X25KX, G25, X25AT, X25SD, rfl, rfl, f27_0, f27_1, f27_2, f27_3⟩ x27
 refine zn ?_
 exact zro x27 (g := by exact (gv_tup (gvc (gv_ex X4GX (by first | trivial | assumption | omega) gv_) (gvc (gv_ex (X25KX - 1) (by first | trivial | assumption | omega) gv_) gvn))))

set_option maxHeartbeats 4000000 in
theorem c_spec_DrawUndoMove (code : Nat) {v_code : Value} {w : World} (h_code : (Ty.bytes 5 code).ok w v_code) (r0 : code ≤ 1048576 := by exact om_) : Ret Try.prog 60 [v_code] w (Ty.ex (fun (GX : M.Gam) => (GX.start.pits.length ≤ 4194304 ∧ GX.start.stores.length ≤ 4194304 ∧ GX.moves.length ≤ 122 ∧ GX.now.pits.length ≤ 4194304 ∧ GX.now.stores.length = 2)) (fun GX => Ty.agg (cGame GX))) := by
 revert v_code; apply opn
 intro A1 c1 h1 bl1 bh1
 have h_code := h1
 refine enter @Try.func60 @Try.ntmps60 rfl rfl ?_
 refine zent ?_
 refine zS <| za zeh fun b2 => zN <| Qm rfl <| zcs rfl (fun w hw => c_spec_l00From code (ok_ hw)) ?_
 intro b3
 refine zB 1 sp_ rfl (fun w hb hw => c_spec_l08Bent code 0 0 hb (ok_ hw)) ?_
 rintro _ _ G4 ⟨X4GX, X4AT, X4SD, A4r_9, c4r_9, g4r_9, A4r_10, c4r_10, g4r_10, A4r_12, c4r_12, g4r_12, A4r_13, c4r_13, g4r_13, A4r_14, c4r_14, g4r_14, rfl, rfl, bl4_0, bl4_1, bl4_2, bl4_3, bl4_4, bl4_5, bl4_6, bl4_7, bl4_8, bl4_9, hX4_0, hX4_1, hX4_2⟩
 refine znl ?_
 refine zw 7 rfl rfl rfl ?_
 refine JL.nil ?_
 exact zro (Up.refl _ _) (g := by exact (gv_ex X4GX (by first | trivial | assumption | omega) gv_))

end Go.Proofs.Ytejnmechnhgmfaa

/- Walks: G5. -/
import Derived.Test.YtejnmechnhgmfaaZpTn
import Derived.Test.YtejnmechnhgmfaaZpNG4
set_option linter.unusedSimpArgs false
set_option linter.unusedVariables false
set_option maxRecDepth 100000
attribute [local irreducible] Go.Proofs.Ytejnmechnhgmfaa.gv
namespace Go.Proofs.Ytejnmechnhgmfaa
open Go.RowKit

set_option maxHeartbeats 1000000 in
theorem c_impl_Game_played (g : M.Gam) {v_g : Value} {w : World} (h_g : (Ty.agg (cGame g)).ok w v_g) (r0 : g.start.pits.length ≤ 4194304 := by exact om_) (r1 : g.start.stores.length ≤ 4194304 := by exact om_) (r2 : g.moves.length ≤ 4194304 := by exact om_) (r3 : g.now.pits.length ≤ 4194304 := by exact om_) (r4 : g.now.stores.length ≤ 4194304 := by exact om_) : Ret Try.prog 72 [v_g] w (Ty.tup [Ty.sl 33 3 (M.playedP g).length (lPosition (M.playedP g)), Ty.sl 84 6 (M.playedR g).length (lResultL (M.playedR g)), Ty.bool (M.playedOk g)]) := by
 revert v_g; apply opn
 intro A1 c1 h1 bl1 bh1 A2 c2 h2 bl2 bh2 A3 c3 h3 bl3 bh3 A4 c4 h4 bl4 bh4 A5 c5 h5 bl5 bh5
 refine enter @Try.func72 @Try.ntmps72 rfl rfl ?_
 refine zent ?_
 refine zS <| zb rfl fun b6 => Qa rfl <| Qa rfl <| Qa rfl <| zJ ?_
 refine zk [1] (fun F U l os u => ∃ (b12 b8 b10 : Nat) (A7_0 : Option Addr) (c7_0 : Nat) (A7_1 : Option Addr) (c7_1 : Nat) (f7 : List Nat), l = F [(5, .pointer (some ⟨b12, 0, none⟩)), (6, .slice (some ⟨b8, 0, none⟩) 1 1), (7, .slice (some ⟨b10, 0, none⟩) 0 0)] ∧ os = [boxO b12 [.slice A1 g.start.pits.length c1, .slice A2 g.start.stores.length c2, .int .i64 g.start.player] 33, rowO 84 6 (.slice (some ⟨b10, 0, none⟩) 0 0) 0 [] [], rowO 33 3 (.slice (some ⟨b8, 0, none⟩) 1 1) 1 [.slice A7_0 g.start.pits.length c7_0, .slice A7_1 g.start.stores.length c7_1, .int .i64 g.start.player] [], ownC (cPosition g.start) [.slice A7_0 g.start.pits.length c7_0, .slice A7_1 g.start.stores.length c7_1, .int .i64 g.start.player] f7] ++ U []) ?_ ?_
 ·
  refine zdr [8] ?_
  refine JH.p 0 rfl (p_fieldAddr fld_35_1.h rfl) ?_
  refine JH.q 1 rfl (L9 0 rfl rfl) ?_
  refine JH.p 2 rfl (p_fieldAddr fld_35_1.h rfl) ?_
  refine JH.q 3 rfl (L9 0 rfl rfl) ?_
  refine y3 4 6 7 ?_ ?_ ?_
  ·
   refine ycs rfl rfl (fun w hw => c_impl_Position_copied g.start (ok_ hw)) ?_
   intro A96_0 c96_0 bl96_0 bh96_0 A96_1 c96_1 bl96_1 bh96_1 f96
   refine y3 5 6 7 ?_ ?_ ?_
   ·
    refine ybs rfl fun b97 => ?_
    refine y2 6 7 ?_ ?_
    ·
     refine ybs rfl fun b99 => ?_
     refine y1 7 ?_
     refine ya rfl fun b101 => ?_
     refine y1 8 ?_
     refine yst rfl rfl rfl ?_
     refine JH.p 9 rfl (p_assign rfl) ?_
     refine JH.p 10 rfl (p_assign rfl) ?_
     refine yd ?_
     exact zm ⟨_, _, _, _, _, _, _, _, rfl, rfl⟩ (Up.refl _ _)
    refine ya rfl fun b102 => ?_
    refine y2 6 8 ?_ ?_
    ·
     refine ybs rfl fun b103 => ?_
     refine y1 8 ?_
     refine yst rfl rfl rfl ?_
     refine JH.p 9 rfl (p_assign rfl) ?_
     refine JH.p 10 rfl (p_assign rfl) ?_
     refine yd ?_
     refine zh [1, 0, 0, 0, 0] ?_
     exact zm ⟨_, _, _, _, _, _, _, _, rfl, rfl⟩ (Up.refl _ _)
    refine yst rfl rfl rfl ?_
    refine JH.p 9 rfl (p_assign rfl) ?_
    refine y1 6 ?_
    refine ybs rfl fun b105 => ?_
    refine JH.p 10 rfl (p_assign rfl) ?_
    refine yd ?_
    refine zh [1, 0, 0, 0, 0] ?_
    exact zm ⟨_, _, _, _, _, _, _, _, rfl, rfl⟩ (Up.refl _ _)
   ·
    refine ybs rfl fun b107 => ?_
    refine y2 5 7 ?_ ?_
    ·
     refine ybs rfl fun b109 => ?_
     refine y1 7 ?_
     refine ya rfl fun b111 => ?_
     refine y1 8 ?_
     refine yst rfl rfl rfl ?_
     refine JH.p 9 rfl (p_assign rfl) ?_
     refine JH.p 10 rfl (p_assign rfl) ?_
     refine yd ?_
     refine zh [0, 1, 0, 0, 0] ?_
     exact zm ⟨_, _, _, _, _, _, _, _, rfl, rfl⟩ (Up.refl _ _)
    refine ya rfl fun b112 => ?_
    refine y2 5 8 ?_ ?_
    ·
     refine ybs rfl fun b113 => ?_
     refine y1 8 ?_
     refine yst rfl rfl rfl ?_
     refine JH.p 9 rfl (p_assign rfl) ?_
     refine JH.p 10 rfl (p_assign rfl) ?_
     refine yd ?_
     refine zh [1, 1, 0, 0, 0] ?_
     exact zm ⟨_, _, _, _, _, _, _, _, rfl, rfl⟩ (Up.refl _ _)
    refine yst rfl rfl rfl ?_
    refine y1 5 ?_
    refine ybs rfl fun b115 => ?_
    refine JH.p 9 rfl (p_assign rfl) ?_
    refine JH.p 10 rfl (p_assign rfl) ?_
    refine yd ?_
    refine zh [1, 1, 0, 0, 0] ?_
    exact zm ⟨_, _, _, _, _, _, _, _, rfl, rfl⟩ (Up.refl _ _)
   refine ya rfl fun b117 => ?_
   refine y3 5 6 8 ?_ ?_ ?_
   ·
    refine ybs rfl fun b118 => ?_
    refine y2 6 8 ?_ ?_
    ·
     refine ybs rfl fun b120 => ?_
     refine y1 8 ?_
     refine yst rfl rfl rfl ?_
     refine JH.p 9 rfl (p_assign rfl) ?_
     refine JH.p 10 rfl (p_assign rfl) ?_
     refine yd ?_
     refine zh [2, 0, 0, 0, 0] ?_
     exact zm ⟨_, _, _, _, _, _, _, _, rfl, rfl⟩ (Up.refl _ _)
    refine yst rfl rfl rfl ?_
    refine JH.p 9 rfl (p_assign rfl) ?_
    refine y1 6 ?_
    refine ybs rfl fun b122 => ?_
    refine JH.p 10 rfl (p_assign rfl) ?_
    refine yd ?_
    refine zh [2, 0, 0, 0, 0] ?_
    exact zm ⟨_, _, _, _, _, _, _, _, rfl, rfl⟩ (Up.refl _ _)
   ·
    refine ybs rfl fun b124 => ?_
    refine y2 5 8 ?_ ?_
    ·
     refine ybs rfl fun b126 => ?_
     refine y1 8 ?_
     refine yst rfl rfl rfl ?_
     refine JH.p 9 rfl (p_assign rfl) ?_
     refine JH.p 10 rfl (p_assign rfl) ?_
     refine yd ?_
     refine zh [2, 1, 0, 0, 0] ?_
     exact zm ⟨_, _, _, _, _, _, _, _, rfl, rfl⟩ (Up.refl _ _)
    refine yst rfl rfl rfl ?_
    refine y1 5 ?_
    refine ybs rfl fun b128 => ?_
    refine JH.p 9 rfl (p_assign rfl) ?_
    refine JH.p 10 rfl (p_assign rfl) ?_
    refine yd ?_
    refine zh [2, 1, 0, 0, 0] ?_
    exact zm ⟨_, _, _, _, _, _, _, _, rfl, rfl⟩ (Up.refl _ _)
   refine yst rfl rfl rfl ?_
   refine y2 5 6 ?_ ?_
   ·
    refine ybs rfl fun b130 => ?_
    refine JH.p 9 rfl (p_assign rfl) ?_
    refine y1 6 ?_
    refine ybs rfl fun b132 => ?_
    refine JH.p 10 rfl (p_assign rfl) ?_
    refine yd ?_
    refine zh [2, 0, 0, 0, 0] ?_
    exact zm ⟨_, _, _, _, _, _, _, _, rfl, rfl⟩ (Up.refl _ _)
   refine ybs rfl fun b134 => ?_
   refine y1 5 ?_
   refine ybs rfl fun b136 => ?_
   refine JH.p 9 rfl (p_assign rfl) ?_
   refine JH.p 10 rfl (p_assign rfl) ?_
   refine yd ?_
   refine zh [2, 1, 0, 0, 0] ?_
   exact zm ⟨_, _, _, _, _, _, _, _, rfl, rfl⟩ (Up.refl _ _)
  ·
   refine ybs rfl fun b138 => ?_
   refine y2 4 7 ?_ ?_
   ·
    refine ycs rfl rfl (fun w hw => c_impl_Position_copied g.start (ok_ hw)) ?_
    intro A140_0 c140_0 bl140_0 bh140_0 A140_1 c140_1 bl140_1 bh140_1 f140
    refine y2 5 7 ?_ ?_
    ·
     refine ybs rfl fun b141 => ?_
     refine y1 7 ?_
     refine ya rfl fun b143 => ?_
     refine y1 8 ?_
     refine yst rfl rfl rfl ?_
     refine JH.p 9 rfl (p_assign rfl) ?_
     refine JH.p 10 rfl (p_assign rfl) ?_
     refine yd ?_
     refine zh [0, 2, 0, 0, 0] ?_
     exact zm ⟨_, _, _, _, _, _, _, _, rfl, rfl⟩ (Up.refl _ _)
    refine ya rfl fun b144 => ?_
    refine y2 5 8 ?_ ?_
    ·
     refine ybs rfl fun b145 => ?_
     refine y1 8 ?_
     refine yst rfl rfl rfl ?_
     refine JH.p 9 rfl (p_assign rfl) ?_
     refine JH.p 10 rfl (p_assign rfl) ?_
     refine yd ?_
     refine zh [1, 2, 0, 0, 0] ?_
     exact zm ⟨_, _, _, _, _, _, _, _, rfl, rfl⟩ (Up.refl _ _)
    refine yst rfl rfl rfl ?_
    refine y1 5 ?_
    refine ybs rfl fun b147 => ?_
    refine JH.p 9 rfl (p_assign rfl) ?_
    refine JH.p 10 rfl (p_assign rfl) ?_
    refine yd ?_
    refine zh [1, 2, 0, 0, 0] ?_
    exact zm ⟨_, _, _, _, _, _, _, _, rfl, rfl⟩ (Up.refl _ _)
   refine ya rfl fun b149 => ?_
   refine y1 4 ?_
   refine ycs rfl rfl (fun w hw => c_impl_Position_copied g.start (ok_ hw)) ?_
   intro A150_0 c150_0 bl150_0 bh150_0 A150_1 c150_1 bl150_1 bh150_1 f150
   refine y2 5 8 ?_ ?_
   ·
    refine ybs rfl fun b151 => ?_
    refine y1 8 ?_
    refine yst rfl rfl rfl ?_
    refine JH.p 9 rfl (p_assign rfl) ?_
    refine JH.p 10 rfl (p_assign rfl) ?_
    refine yd ?_
    refine zh [2, 2, 0, 0, 0] ?_
    exact zm ⟨_, _, _, _, _, _, _, _, rfl, rfl⟩ (Up.refl _ _)
   refine yst rfl rfl rfl ?_
   refine y1 5 ?_
   refine ybs rfl fun b153 => ?_
   refine JH.p 9 rfl (p_assign rfl) ?_
   refine JH.p 10 rfl (p_assign rfl) ?_
   refine yd ?_
   refine zh [2, 2, 0, 0, 0] ?_
   exact zm ⟨_, _, _, _, _, _, _, _, rfl, rfl⟩ (Up.refl _ _)
  refine ya rfl fun b155 => ?_
  refine y2 4 6 ?_ ?_
  ·
   refine ycs rfl rfl (fun w hw => c_impl_Position_copied g.start (ok_ hw)) ?_
   intro A156_0 c156_0 bl156_0 bh156_0 A156_1 c156_1 bl156_1 bh156_1 f156
   refine y3 5 6 8 ?_ ?_ ?_
   ·
    refine ybs rfl fun b157 => ?_
    refine y2 6 8 ?_ ?_
    ·
     refine ybs rfl fun b159 => ?_
     refine y1 8 ?_
     refine yst rfl rfl rfl ?_
     refine JH.p 9 rfl (p_assign rfl) ?_
     refine JH.p 10 rfl (p_assign rfl) ?_
     refine yd ?_
     refine zh [3, 0, 0, 0, 0] ?_
     exact zm ⟨_, _, _, _, _, _, _, _, rfl, rfl⟩ (Up.refl _ _)
    refine yst rfl rfl rfl ?_
    refine JH.p 9 rfl (p_assign rfl) ?_
    refine y1 6 ?_
    refine ybs rfl fun b161 => ?_
    refine JH.p 10 rfl (p_assign rfl) ?_
    refine yd ?_
    refine zh [3, 0, 0, 0, 0] ?_
    exact zm ⟨_, _, _, _, _, _, _, _, rfl, rfl⟩ (Up.refl _ _)
   ·
    refine ybs rfl fun b163 => ?_
    refine y2 5 8 ?_ ?_
    ·
     refine ybs rfl fun b165 => ?_
     refine y1 8 ?_
     refine yst rfl rfl rfl ?_
     refine JH.p 9 rfl (p_assign rfl) ?_
     refine JH.p 10 rfl (p_assign rfl) ?_
     refine yd ?_
     refine zh [3, 1, 0, 0, 0] ?_
     exact zm ⟨_, _, _, _, _, _, _, _, rfl, rfl⟩ (Up.refl _ _)
    refine yst rfl rfl rfl ?_
    refine y1 5 ?_
    refine ybs rfl fun b167 => ?_
    refine JH.p 9 rfl (p_assign rfl) ?_
    refine JH.p 10 rfl (p_assign rfl) ?_
    refine yd ?_
    refine zh [3, 1, 0, 0, 0] ?_
    exact zm ⟨_, _, _, _, _, _, _, _, rfl, rfl⟩ (Up.refl _ _)
   refine yst rfl rfl rfl ?_
   refine y2 5 6 ?_ ?_
   ·
    refine ybs rfl fun b169 => ?_
    refine JH.p 9 rfl (p_assign rfl) ?_
    refine y1 6 ?_
    refine ybs rfl fun b171 => ?_
    refine JH.p 10 rfl (p_assign rfl) ?_
    refine yd ?_
    refine zh [3, 0, 0, 0, 0] ?_
    exact zm ⟨_, _, _, _, _, _, _, _, rfl, rfl⟩ (Up.refl _ _)
   refine ybs rfl fun b173 => ?_
   refine y1 5 ?_
   refine ybs rfl fun b175 => ?_
   refine JH.p 9 rfl (p_assign rfl) ?_
   refine JH.p 10 rfl (p_assign rfl) ?_
   refine yd ?_
   refine zh [3, 1, 0, 0, 0] ?_
   exact zm ⟨_, _, _, _, _, _, _, _, rfl, rfl⟩ (Up.refl _ _)
  refine ybs rfl fun b177 => ?_
  refine y1 4 ?_
  refine ycs rfl rfl (fun w hw => c_impl_Position_copied g.start (ok_ hw)) ?_
  intro A179_0 c179_0 bl179_0 bh179_0 A179_1 c179_1 bl179_1 bh179_1 f179
  refine y2 5 8 ?_ ?_
  ·
   refine ybs rfl fun b180 => ?_
   refine y1 8 ?_
   refine yst rfl rfl rfl ?_
   refine JH.p 9 rfl (p_assign rfl) ?_
   refine JH.p 10 rfl (p_assign rfl) ?_
   refine yd ?_
   refine zh [3, 2, 0, 0, 0] ?_
   exact zm ⟨_, _, _, _, _, _, _, _, rfl, rfl⟩ (Up.refl _ _)
  refine yst rfl rfl rfl ?_
  refine y1 5 ?_
  refine ybs rfl fun b182 => ?_
  refine JH.p 9 rfl (p_assign rfl) ?_
  refine JH.p 10 rfl (p_assign rfl) ?_
  refine yd ?_
  refine zh [3, 2, 0, 0, 0] ?_
  exact zm ⟨_, _, _, _, _, _, _, _, rfl, rfl⟩ (Up.refl _ _)
 rintro _ _ u95 ⟨b12, b8, b10, A7_0, c7_0, A7_1, c7_1, f7, rfl, rfl⟩ x95
 refine zn ?_
 refine Js.seq <| zS <| Qf fh rfl <| Q0 4 rfl rfl rfl <| Qz rfl <| Qm rfl <| JL.nil <| Js.block ?_
 refine Js.vals (Ts := lPosition []) (vs := []) (fun w => rfl) ?_
 refine Js.joinL (i := 0) (j := 3) (Vs := lPosition ([] ++ [g.start])) rfl rfl (lPosition_snoc _ _) (fun f186 => ?_)
 refine zn ?_
 refine Js.vals (Ts := lResultL []) (vs := []) (fun w => rfl) ?_
 refine zl [1, 5, 20, 21] (fun F U l os u m => ∃ (k : Nat) (now : M.Pos) (out : List M.Pos) (made : List M.Res) (A184_6 : Option Addr) (c184_6 : Nat) (g184_6 : List Nat) (vs184_6 : List Value) (fl184_6 : List Nat) (A184_7 : Option Addr) (c184_7 : Nat) (g184_7 : List Nat) (vs184_7 : List Value) (fl184_7 : List Nat) (A184_5_0 : Option Addr) (c184_5_0 : Nat) (A184_5_1 : Option Addr) (c184_5_1 : Nat), l = F [(6, .slice A184_6 out.length c184_6), (7, .slice A184_7 made.length c184_7), (22, .int .i64 (k : Int))] ∧ os = U [some (ownC (lResultL made) vs184_7 fl184_7), some (ownC (lPosition out) vs184_6 fl184_6), some (boxO b12 [.slice A184_5_0 now.pits.length c184_5_0, .slice A184_5_1 now.stores.length c184_5_1, .int .i64 now.player] 33), some (rowO 84 6 (.slice A184_7 made.length c184_7) made.length vs184_7 g184_7), some (rowO 33 3 (.slice A184_6 out.length c184_6) out.length vs184_6 g184_6)] ∧ (M.Run g.rules g.start g.moves k now made) ∧ (out = M.hist g.start made) ∧ (now.pits.length ≤ 4194304) ∧ (now.stores.length ≤ 4194304) ∧ (out.length ≤ c184_6) ∧ (c184_6 ≤ 9223372036854775807) ∧ (made.length ≤ c184_7) ∧ (c184_7 ≤ 9223372036854775807) ∧ ((Ty.ints 2 now.pits).ok u (.slice A184_5_0 now.pits.length c184_5_0)) ∧ (now.pits.length ≤ c184_5_0) ∧ (c184_5_0 ≤ 9223372036854775807) ∧ ((Ty.ints 2 now.stores).ok u (.slice A184_5_1 now.stores.length c184_5_1)) ∧ (now.stores.length ≤ c184_5_1) ∧ (c184_5_1 ≤ 9223372036854775807) ∧ m = g.moves.length - k) ⟨0, g.start, [g.start], [], _, _, _, _, _, _, _, _, _, _, _, _, _, _, rfl, rfl, by exact M.Run.zero _ _ _, by rfl, zt, zt, zu, zu, zu, zu, (Ty.mono _ h1 x95.vis), zu, zu, (Ty.mono _ h2 x95.vis), zu, zu, rfl⟩ ?_
 rintro _ _ u184 _ ⟨k, now, out, made, A184_6, c184_6, g184_6, vs184_6, fl184_6, A184_7, c184_7, g184_7, vs184_7, fl184_7, A184_5_0, c184_5_0, A184_5_1, c184_5_1, rfl, rfl, hR, hO, n0, n1, f184_4, f184_5, f184_6, f184_7, f184_8, f184_9, f184_10, f184_11, f184_12, f184_13, rfl⟩ x184
 refine zn ?_
 have hl1 := hR.len
 have hl3 := hR.le
 have hlO : out.length = made.length + 1 := by rw [hO]; simp
 refine zS <| Ql rfl rfl <| zJ ?_
 refine zi (fun h187 h187' => ?_) fun h187 h187' => ?_
 ·
  obtain ⟨b188, o188, he188, hc188⟩ := ints_elem (Ty.mono _ h3 (x95.vis.trans x184.vis)) (i := k) (by omega)
  refine Js.skip <| Js.seq <| Js.block <| zS <| Qq (p_indexAddr el_24 rfl rfl (by omega) (by omega) he188) <| QC hc188 rfl <| Qa rfl <| zN <| Qf fh rfl <| Q9 5 rfl rfl ?_
  refine Q9 2 rfl rfl ?_
  refine Qm rfl <| zp rfl (fun w hw => c_impl_Rules_resultOf g.rules now (M.nth g.moves k) (ok_ hw) (ok_ hw)) ?_
  intro u189 x189 A190 c190 h190 bl190 bh190 A191 c191 h191 bl191 bh191
  refine Qm rfl <| Qx rfl rfl <| Qx rfl rfl <| za zeh fun b192 => zw 0 rfl rfl rfl ?_
  refine Qa rfl <| zJ <| zS <| Qm rfl <| Qd rfl rfl <| JL.nil ?_
  refine zi (fun h193 h193' => ?_) fun h193 h193' => ?_
  ·
   obtain ⟨hP1, hP2, hP3⟩ := hR.broken (by omega) (by simpa using h193)
   have hq0 : [] = M.playedP g := by first | exact hP1.symm | exact congrArg Value.bool hP1.symm | exact hP2.symm | exact hP3.symm
   have hq1 : [] = M.playedR g := by first | exact hP1.symm | exact congrArg Value.bool hP1.symm | exact hP2.symm | exact hP3.symm
   have hq2 : false = M.playedOk g := by first | exact hP1.symm | exact congrArg Value.bool hP1.symm | exact hP2.symm | exact hP3.symm
   refine zS <| Qa rfl <| Qa rfl <| Qa rfl <| JL.nil ?_
   exact zro ((x95.trans x184).trans x189)
  have hm : (M.make g.rules now (M.nth g.moves k)).2 = 0 := by simpa using h193
  have hR2 := hR.step (by omega) hm
  have hl2 := M.okP_len (M.make_ok hm).2.2.2.1
  refine Js.skip <| zS <| Qf fh rfl <| Q9 0 rfl rfl ?_
  refine zw 3 rfl rfl rfl ?_
  refine JL.nil ?_
  refine zk [1, 5, 20, 21, 22] (fun F U l os u => ∃ (A199 : Option Addr) (c199 : Nat) (A204 : Option Addr) (c204 b200 b195 : Nat) (A194_0 : Option Addr) (c194_0 : Nat) (A194_1 : Option Addr) (c194_1 : Nat) (f194 g203 g198 : List Nat), l = F [(6, .slice A199 ((out ++ [(((M.make g.rules now (M.nth g.moves k)).1).next)]).length) c199), (7, .slice A204 ((made ++ [((M.make g.rules now (M.nth g.moves k)).1)]).length) c204)] ∧ os = [rowO 84 6 (.slice (some ⟨b200, 0, none⟩) 1 1) 1 [.int .i64 (((M.make g.rules now (M.nth g.moves k)).1).move), .int .i64 (((M.make g.rules now (M.nth g.moves k)).1).gain), .bool (((M.make g.rules now (M.nth g.moves k)).1).again), .slice A190 (((((M.make g.rules now (M.nth g.moves k)).1).next).pits).length) c190, .slice A191 (((((M.make g.rules now (M.nth g.moves k)).1).next).stores).length) c191, .int .i64 ((((M.make g.rules now (M.nth g.moves k)).1).next).player)] [], rowO 33 3 (.slice (some ⟨b195, 0, none⟩) 1 1) 1 [.slice A194_0 (((((M.make g.rules now (M.nth g.moves k)).1).next).pits).length) c194_0, .slice A194_1 (((((M.make g.rules now (M.nth g.moves k)).1).next).stores).length) c194_1, .int .i64 ((((M.make g.rules now (M.nth g.moves k)).1).next).player)] [], ownC (cPosition (((M.make g.rules now (M.nth g.moves k)).1).next)) [.slice A194_0 (((((M.make g.rules now (M.nth g.moves k)).1).next).pits).length) c194_0, .slice A194_1 (((((M.make g.rules now (M.nth g.moves k)).1).next).stores).length) c194_1, .int .i64 ((((M.make g.rules now (M.nth g.moves k)).1).next).player)] f194] ++ U [nO, nO, nO, nO, some (rowO 84 6 (.slice A204 ((made ++ [((M.make g.rules now (M.nth g.moves k)).1)]).length) c204) ((made ++ [((M.make g.rules now (M.nth g.moves k)).1)]).length) (vs184_7 ++ [.int .i64 (((M.make g.rules now (M.nth g.moves k)).1).move), .int .i64 (((M.make g.rules now (M.nth g.moves k)).1).gain), .bool (((M.make g.rules now (M.nth g.moves k)).1).again), .slice A190 (((((M.make g.rules now (M.nth g.moves k)).1).next).pits).length) c190, .slice A191 (((((M.make g.rules now (M.nth g.moves k)).1).next).stores).length) c191, .int .i64 ((((M.make g.rules now (M.nth g.moves k)).1).next).player)]) g203), some (rowO 33 3 (.slice A199 ((out ++ [(((M.make g.rules now (M.nth g.moves k)).1).next)]).length) c199) ((out ++ [(((M.make g.rules now (M.nth g.moves k)).1).next)]).length) (vs184_6 ++ [.slice A194_0 (((((M.make g.rules now (M.nth g.moves k)).1).next).pits).length) c194_0, .slice A194_1 (((((M.make g.rules now (M.nth g.moves k)).1).next).stores).length) c194_1, .int .i64 ((((M.make g.rules now (M.nth g.moves k)).1).next).player)]) g198)] ∧ ((out ++ [(((M.make g.rules now (M.nth g.moves k)).1).next)]).length ≤ c199) ∧ (c199 ≤ 9223372036854775807) ∧ ((made ++ [((M.make g.rules now (M.nth g.moves k)).1)]).length ≤ c204) ∧ (c204 ≤ 9223372036854775807)) ?_ ?_
  ·
   refine zdr [4, 8] ?_
   refine JH.p 0 rfl (p_move rfl) ?_
   refine JH.q 1 rfl (L9 3 rfl rfl) ?_
   refine JH.p 5 rfl (p_move rfl) ?_
   refine y2 2 6 ?_ ?_
   ·
    refine ycs rfl rfl (fun w hw => c_impl_Position_copied (((M.make g.rules now (M.nth g.moves k)).1).next) (ok_ hw)) ?_
    intro A290_0 c290_0 bl290_0 bh290_0 A290_1 c290_1 bl290_1 bh290_1 f290
    refine y2 3 6 ?_ ?_
    ·
     refine ybs rfl fun b291 => ?_
     refine y2 4 6 ?_ ?_
     ·
      refine JHo.e rfl (e_append (i := 7) (n' := (out ++ [(((M.make g.rules now (M.nth g.moves k)).1).next)]).length) (vs' := vs184_6 ++ [.slice A290_0 (((((M.make g.rules now (M.nth g.moves k)).1).next).pits).length) c290_0, .slice A290_1 (((((M.make g.rules now (M.nth g.moves k)).1).next).stores).length) c290_1, .int .i64 ((((M.make g.rules now (M.nth g.moves k)).1).next).player)]) el_44 rfl rfl rfl rfl (src_row (i := 0) und_44 rfl rfl) (by omega) (by omega) (by first | omega | (simp only [List.length_append, List.length_cons, List.length_nil] <;> omega)) (rfl)) (.inr rfl) ?_
      rintro v293 _ _ ⟨⟨g294, rfl⟩, rfl⟩ _
      refine JH.fact (row_form' (i := 7) rfl) (fun hf295 => ?_)
      obtain ⟨A295, c295, rfl, bl295, bh295⟩ := hf295
      refine znh ?_
      refine y1 6 ?_
      refine JHo.q rfl (L9 2 rfl rfl) ?_
      refine y1 7 ?_
      refine ybs rfl fun b296 => ?_
      refine y1 8 ?_
      refine JHo.e rfl (e_append (i := 7) (n' := (made ++ [((M.make g.rules now (M.nth g.moves k)).1)]).length) (vs' := vs184_7 ++ [.int .i64 (((M.make g.rules now (M.nth g.moves k)).1).move), .int .i64 (((M.make g.rules now (M.nth g.moves k)).1).gain), .bool (((M.make g.rules now (M.nth g.moves k)).1).again), .slice A190 (((((M.make g.rules now (M.nth g.moves k)).1).next).pits).length) c190, .slice A191 (((((M.make g.rules now (M.nth g.moves k)).1).next).stores).length) c191, .int .i64 ((((M.make g.rules now (M.nth g.moves k)).1).next).player)]) el_74 rfl rfl rfl rfl (src_row (i := 0) und_74 rfl rfl) (by omega) (by omega) (by first | omega | (simp only [List.length_append, List.length_cons, List.length_nil] <;> omega)) (rfl)) (.inr rfl) ?_
      rintro v298 _ _ ⟨⟨g299, rfl⟩, rfl⟩ _
      refine JH.fact (row_form' (i := 7) rfl) (fun hf300 => ?_)
      obtain ⟨A300, c300, rfl, bl300, bh300⟩ := hf300
      refine znh ?_
      refine JH.p 9 rfl (p_assign rfl) ?_
      refine JH.p 10 rfl (p_assign rfl) ?_
      refine yd ?_
      exact zm ⟨_, _, _, _, _, _, _, _, _, _, _, _, _, rfl, rfl, zt, zt, zt, zt⟩ (Up.refl _ _)
     refine JHo.q rfl (L9 2 rfl rfl) ?_
     refine y2 4 7 ?_ ?_
     ·
      refine JHo.e rfl (e_append (i := 7) (n' := (out ++ [(((M.make g.rules now (M.nth g.moves k)).1).next)]).length) (vs' := vs184_6 ++ [.slice A290_0 (((((M.make g.rules now (M.nth g.moves k)).1).next).pits).length) c290_0, .slice A290_1 (((((M.make g.rules now (M.nth g.moves k)).1).next).stores).length) c290_1, .int .i64 ((((M.make g.rules now (M.nth g.moves k)).1).next).player)]) el_44 rfl rfl rfl rfl (src_row (i := 0) und_44 rfl rfl) (by omega) (by omega) (by first | omega | (simp only [List.length_append, List.length_cons, List.length_nil] <;> omega)) (rfl)) (.inr rfl) ?_
      rintro v301 _ _ ⟨⟨g302, rfl⟩, rfl⟩ _
      refine JH.fact (row_form' (i := 7) rfl) (fun hf303 => ?_)
      obtain ⟨A303, c303, rfl, bl303, bh303⟩ := hf303
      refine znh ?_
      refine y1 7 ?_
      refine ybs rfl fun b304 => ?_
      refine y1 8 ?_
      refine JHo.e rfl (e_append (i := 7) (n' := (made ++ [((M.make g.rules now (M.nth g.moves k)).1)]).length) (vs' := vs184_7 ++ [.int .i64 (((M.make g.rules now (M.nth g.moves k)).1).move), .int .i64 (((M.make g.rules now (M.nth g.moves k)).1).gain), .bool (((M.make g.rules now (M.nth g.moves k)).1).again), .slice A190 (((((M.make g.rules now (M.nth g.moves k)).1).next).pits).length) c190, .slice A191 (((((M.make g.rules now (M.nth g.moves k)).1).next).stores).length) c191, .int .i64 ((((M.make g.rules now (M.nth g.moves k)).1).next).player)]) el_74 rfl rfl rfl rfl (src_row (i := 0) und_74 rfl rfl) (by omega) (by omega) (by first | omega | (simp only [List.length_append, List.length_cons, List.length_nil] <;> omega)) (rfl)) (.inr rfl) ?_
      rintro v306 _ _ ⟨⟨g307, rfl⟩, rfl⟩ _
      refine JH.fact (row_form' (i := 7) rfl) (fun hf308 => ?_)
      obtain ⟨A308, c308, rfl, bl308, bh308⟩ := hf308
      refine znh ?_
      refine JH.p 9 rfl (p_assign rfl) ?_
      refine JH.p 10 rfl (p_assign rfl) ?_
      refine yd ?_
      exact zm ⟨_, _, _, _, _, _, _, _, _, _, _, _, _, rfl, rfl, zt, zt, zt, zt⟩ (Up.refl _ _)
     refine ybs rfl fun b309 => ?_
     refine y1 4 ?_
     refine JHo.e rfl (e_append (i := 8) (n' := (out ++ [(((M.make g.rules now (M.nth g.moves k)).1).next)]).length) (vs' := vs184_6 ++ [.slice A290_0 (((((M.make g.rules now (M.nth g.moves k)).1).next).pits).length) c290_0, .slice A290_1 (((((M.make g.rules now (M.nth g.moves k)).1).next).stores).length) c290_1, .int .i64 ((((M.make g.rules now (M.nth g.moves k)).1).next).player)]) el_44 rfl rfl rfl rfl (src_row (i := 1) und_44 rfl rfl) (by omega) (by omega) (by first | omega | (simp only [List.length_append, List.length_cons, List.length_nil] <;> omega)) (rfl)) (.inr rfl) ?_
     rintro v311 _ _ ⟨⟨g312, rfl⟩, rfl⟩ _
     refine JH.fact (row_form' (i := 8) rfl) (fun hf313 => ?_)
     obtain ⟨A313, c313, rfl, bl313, bh313⟩ := hf313
     refine znh ?_
     refine y1 8 ?_
     refine JHo.e rfl (e_append (i := 7) (n' := (made ++ [((M.make g.rules now (M.nth g.moves k)).1)]).length) (vs' := vs184_7 ++ [.int .i64 (((M.make g.rules now (M.nth g.moves k)).1).move), .int .i64 (((M.make g.rules now (M.nth g.moves k)).1).gain), .bool (((M.make g.rules now (M.nth g.moves k)).1).again), .slice A190 (((((M.make g.rules now (M.nth g.moves k)).1).next).pits).length) c190, .slice A191 (((((M.make g.rules now (M.nth g.moves k)).1).next).stores).length) c191, .int .i64 ((((M.make g.rules now (M.nth g.moves k)).1).next).player)]) el_74 rfl rfl rfl rfl (src_row (i := 0) und_74 rfl rfl) (by omega) (by omega) (by first | omega | (simp only [List.length_append, List.length_cons, List.length_nil] <;> omega)) (rfl)) (.inr rfl) ?_
     rintro v314 _ _ ⟨⟨g315, rfl⟩, rfl⟩ _
     refine JH.fact (row_form' (i := 7) rfl) (fun hf316 => ?_)
     obtain ⟨A316, c316, rfl, bl316, bh316⟩ := hf316
     refine znh ?_
     refine JH.p 9 rfl (p_assign rfl) ?_
     refine JH.p 10 rfl (p_assign rfl) ?_
     refine yd ?_
     exact zm ⟨_, _, _, _, _, _, _, _, _, _, _, _, _, rfl, rfl, zt, zt, zt, zt⟩ (Up.refl _ _)
    refine JHo.q rfl (L9 1 rfl rfl) ?_
    refine y2 3 7 ?_ ?_
    ·
     refine ybs rfl fun b317 => ?_
     refine y2 4 7 ?_ ?_
     ·
      refine JHo.e rfl (e_append (i := 7) (n' := (out ++ [(((M.make g.rules now (M.nth g.moves k)).1).next)]).length) (vs' := vs184_6 ++ [.slice A290_0 (((((M.make g.rules now (M.nth g.moves k)).1).next).pits).length) c290_0, .slice A290_1 (((((M.make g.rules now (M.nth g.moves k)).1).next).stores).length) c290_1, .int .i64 ((((M.make g.rules now (M.nth g.moves k)).1).next).player)]) el_44 rfl rfl rfl rfl (src_row (i := 0) und_44 rfl rfl) (by omega) (by omega) (by first | omega | (simp only [List.length_append, List.length_cons, List.length_nil] <;> omega)) (rfl)) (.inr rfl) ?_
      rintro v319 _ _ ⟨⟨g320, rfl⟩, rfl⟩ _
      refine JH.fact (row_form' (i := 7) rfl) (fun hf321 => ?_)
      obtain ⟨A321, c321, rfl, bl321, bh321⟩ := hf321
      refine znh ?_
      refine y1 7 ?_
      refine ybs rfl fun b322 => ?_
      refine y1 8 ?_
      refine JHo.e rfl (e_append (i := 7) (n' := (made ++ [((M.make g.rules now (M.nth g.moves k)).1)]).length) (vs' := vs184_7 ++ [.int .i64 (((M.make g.rules now (M.nth g.moves k)).1).move), .int .i64 (((M.make g.rules now (M.nth g.moves k)).1).gain), .bool (((M.make g.rules now (M.nth g.moves k)).1).again), .slice A190 (((((M.make g.rules now (M.nth g.moves k)).1).next).pits).length) c190, .slice A191 (((((M.make g.rules now (M.nth g.moves k)).1).next).stores).length) c191, .int .i64 ((((M.make g.rules now (M.nth g.moves k)).1).next).player)]) el_74 rfl rfl rfl rfl (src_row (i := 0) und_74 rfl rfl) (by omega) (by omega) (by first | omega | (simp only [List.length_append, List.length_cons, List.length_nil] <;> omega)) (rfl)) (.inr rfl) ?_
      rintro v324 _ _ ⟨⟨g325, rfl⟩, rfl⟩ _
      refine JH.fact (row_form' (i := 7) rfl) (fun hf326 => ?_)
      obtain ⟨A326, c326, rfl, bl326, bh326⟩ := hf326
      refine znh ?_
      refine JH.p 9 rfl (p_assign rfl) ?_
      refine JH.p 10 rfl (p_assign rfl) ?_
      refine yd ?_
      exact zm ⟨_, _, _, _, _, _, _, _, _, _, _, _, _, rfl, rfl, zt, zt, zt, zt⟩ (Up.refl _ _)
     refine ybs rfl fun b327 => ?_
     refine y1 4 ?_
     refine JHo.e rfl (e_append (i := 8) (n' := (out ++ [(((M.make g.rules now (M.nth g.moves k)).1).next)]).length) (vs' := vs184_6 ++ [.slice A290_0 (((((M.make g.rules now (M.nth g.moves k)).1).next).pits).length) c290_0, .slice A290_1 (((((M.make g.rules now (M.nth g.moves k)).1).next).stores).length) c290_1, .int .i64 ((((M.make g.rules now (M.nth g.moves k)).1).next).player)]) el_44 rfl rfl rfl rfl (src_row (i := 1) und_44 rfl rfl) (by omega) (by omega) (by first | omega | (simp only [List.length_append, List.length_cons, List.length_nil] <;> omega)) (rfl)) (.inr rfl) ?_
     rintro v329 _ _ ⟨⟨g330, rfl⟩, rfl⟩ _
     refine JH.fact (row_form' (i := 8) rfl) (fun hf331 => ?_)
     obtain ⟨A331, c331, rfl, bl331, bh331⟩ := hf331
     refine znh ?_
     refine y1 8 ?_
     refine JHo.e rfl (e_append (i := 7) (n' := (made ++ [((M.make g.rules now (M.nth g.moves k)).1)]).length) (vs' := vs184_7 ++ [.int .i64 (((M.make g.rules now (M.nth g.moves k)).1).move), .int .i64 (((M.make g.rules now (M.nth g.moves k)).1).gain), .bool (((M.make g.rules now (M.nth g.moves k)).1).again), .slice A190 (((((M.make g.rules now (M.nth g.moves k)).1).next).pits).length) c190, .slice A191 (((((M.make g.rules now (M.nth g.moves k)).1).next).stores).length) c191, .int .i64 ((((M.make g.rules now (M.nth g.moves k)).1).next).player)]) el_74 rfl rfl rfl rfl (src_row (i := 0) und_74 rfl rfl) (by omega) (by omega) (by first | omega | (simp only [List.length_append, List.length_cons, List.length_nil] <;> omega)) (rfl)) (.inr rfl) ?_
     rintro v332 _ _ ⟨⟨g333, rfl⟩, rfl⟩ _
     refine JH.fact (row_form' (i := 7) rfl) (fun hf334 => ?_)
     obtain ⟨A334, c334, rfl, bl334, bh334⟩ := hf334
     refine znh ?_
     refine JH.p 9 rfl (p_assign rfl) ?_
     refine JH.p 10 rfl (p_assign rfl) ?_
     refine yd ?_
     exact zm ⟨_, _, _, _, _, _, _, _, _, _, _, _, _, rfl, rfl, zt, zt, zt, zt⟩ (Up.refl _ _)
    refine ybs rfl fun b335 => ?_
    refine y1 3 ?_
    refine ybs rfl fun b337 => ?_
    refine y1 4 ?_
    refine JHo.e rfl (e_append (i := 8) (n' := (out ++ [(((M.make g.rules now (M.nth g.moves k)).1).next)]).length) (vs' := vs184_6 ++ [.slice A290_0 (((((M.make g.rules now (M.nth g.moves k)).1).next).pits).length) c290_0, .slice A290_1 (((((M.make g.rules now (M.nth g.moves k)).1).next).stores).length) c290_1, .int .i64 ((((M.make g.rules now (M.nth g.moves k)).1).next).player)]) el_44 rfl rfl rfl rfl (src_row (i := 0) und_44 rfl rfl) (by omega) (by omega) (by first | omega | (simp only [List.length_append, List.length_cons, List.length_nil] <;> omega)) (rfl)) (.inr rfl) ?_
    rintro v339 _ _ ⟨⟨g340, rfl⟩, rfl⟩ _
    refine JH.fact (row_form' (i := 8) rfl) (fun hf341 => ?_)
    obtain ⟨A341, c341, rfl, bl341, bh341⟩ := hf341
    refine znh ?_
    refine y1 8 ?_
    refine JHo.e rfl (e_append (i := 7) (n' := (made ++ [((M.make g.rules now (M.nth g.moves k)).1)]).length) (vs' := vs184_7 ++ [.int .i64 (((M.make g.rules now (M.nth g.moves k)).1).move), .int .i64 (((M.make g.rules now (M.nth g.moves k)).1).gain), .bool (((M.make g.rules now (M.nth g.moves k)).1).again), .slice A190 (((((M.make g.rules now (M.nth g.moves k)).1).next).pits).length) c190, .slice A191 (((((M.make g.rules now (M.nth g.moves k)).1).next).stores).length) c191, .int .i64 ((((M.make g.rules now (M.nth g.moves k)).1).next).player)]) el_74 rfl rfl rfl rfl (src_row (i := 1) und_74 rfl rfl) (by omega) (by omega) (by first | omega | (simp only [List.length_append, List.length_cons, List.length_nil] <;> omega)) (rfl)) (.inr rfl) ?_
    rintro v342 _ _ ⟨⟨g343, rfl⟩, rfl⟩ _
    refine JH.fact (row_form' (i := 7) rfl) (fun hf344 => ?_)
    obtain ⟨A344, c344, rfl, bl344, bh344⟩ := hf344
    refine znh ?_
    refine JH.p 9 rfl (p_assign rfl) ?_
    refine JH.p 10 rfl (p_assign rfl) ?_
    refine yd ?_
    refine zh [1, 0, 0, 0, 0, 0, 0, 0, 0, 0] ?_
    exact zm ⟨_, _, _, _, _, _, _, _, _, _, _, _, _, rfl, rfl, zt, zt, zt, zt⟩ (Up.refl _ _)
   refine JHo.q rfl (L9 0 rfl rfl) ?_
   refine y2 2 7 ?_ ?_
   ·
    refine ycs rfl rfl (fun w hw => c_impl_Position_copied (((M.make g.rules now (M.nth g.moves k)).1).next) (ok_ hw)) ?_
    intro A345_0 c345_0 bl345_0 bh345_0 A345_1 c345_1 bl345_1 bh345_1 f345
    refine y2 3 7 ?_ ?_
    ·
     refine ybs rfl fun b346 => ?_
     refine y2 4 7 ?_ ?_
     ·
      refine JHo.e rfl (e_append (i := 7) (n' := (out ++ [(((M.make g.rules now (M.nth g.moves k)).1).next)]).length) (vs' := vs184_6 ++ [.slice A345_0 (((((M.make g.rules now (M.nth g.moves k)).1).next).pits).length) c345_0, .slice A345_1 (((((M.make g.rules now (M.nth g.moves k)).1).next).stores).length) c345_1, .int .i64 ((((M.make g.rules now (M.nth g.moves k)).1).next).player)]) el_44 rfl rfl rfl rfl (src_row (i := 0) und_44 rfl rfl) (by omega) (by omega) (by first | omega | (simp only [List.length_append, List.length_cons, List.length_nil] <;> omega)) (rfl)) (.inr rfl) ?_
      rintro v348 _ _ ⟨⟨g349, rfl⟩, rfl⟩ _
      refine JH.fact (row_form' (i := 7) rfl) (fun hf350 => ?_)
      obtain ⟨A350, c350, rfl, bl350, bh350⟩ := hf350
      refine znh ?_
      refine y1 7 ?_
      refine ybs rfl fun b351 => ?_
      refine y1 8 ?_
      refine JHo.e rfl (e_append (i := 7) (n' := (made ++ [((M.make g.rules now (M.nth g.moves k)).1)]).length) (vs' := vs184_7 ++ [.int .i64 (((M.make g.rules now (M.nth g.moves k)).1).move), .int .i64 (((M.make g.rules now (M.nth g.moves k)).1).gain), .bool (((M.make g.rules now (M.nth g.moves k)).1).again), .slice A190 (((((M.make g.rules now (M.nth g.moves k)).1).next).pits).length) c190, .slice A191 (((((M.make g.rules now (M.nth g.moves k)).1).next).stores).length) c191, .int .i64 ((((M.make g.rules now (M.nth g.moves k)).1).next).player)]) el_74 rfl rfl rfl rfl (src_row (i := 0) und_74 rfl rfl) (by omega) (by omega) (by first | omega | (simp only [List.length_append, List.length_cons, List.length_nil] <;> omega)) (rfl)) (.inr rfl) ?_
      rintro v353 _ _ ⟨⟨g354, rfl⟩, rfl⟩ _
      refine JH.fact (row_form' (i := 7) rfl) (fun hf355 => ?_)
      obtain ⟨A355, c355, rfl, bl355, bh355⟩ := hf355
      refine znh ?_
      refine JH.p 9 rfl (p_assign rfl) ?_
      refine JH.p 10 rfl (p_assign rfl) ?_
      refine yd ?_
      exact zm ⟨_, _, _, _, _, _, _, _, _, _, _, _, _, rfl, rfl, zt, zt, zt, zt⟩ (Up.refl _ _)
     refine ybs rfl fun b356 => ?_
     refine y1 4 ?_
     refine JHo.e rfl (e_append (i := 8) (n' := (out ++ [(((M.make g.rules now (M.nth g.moves k)).1).next)]).length) (vs' := vs184_6 ++ [.slice A345_0 (((((M.make g.rules now (M.nth g.moves k)).1).next).pits).length) c345_0, .slice A345_1 (((((M.make g.rules now (M.nth g.moves k)).1).next).stores).length) c345_1, .int .i64 ((((M.make g.rules now (M.nth g.moves k)).1).next).player)]) el_44 rfl rfl rfl rfl (src_row (i := 1) und_44 rfl rfl) (by omega) (by omega) (by first | omega | (simp only [List.length_append, List.length_cons, List.length_nil] <;> omega)) (rfl)) (.inr rfl) ?_
     rintro v358 _ _ ⟨⟨g359, rfl⟩, rfl⟩ _
     refine JH.fact (row_form' (i := 8) rfl) (fun hf360 => ?_)
     obtain ⟨A360, c360, rfl, bl360, bh360⟩ := hf360
     refine znh ?_
     refine y1 8 ?_
     refine JHo.e rfl (e_append (i := 7) (n' := (made ++ [((M.make g.rules now (M.nth g.moves k)).1)]).length) (vs' := vs184_7 ++ [.int .i64 (((M.make g.rules now (M.nth g.moves k)).1).move), .int .i64 (((M.make g.rules now (M.nth g.moves k)).1).gain), .bool (((M.make g.rules now (M.nth g.moves k)).1).again), .slice A190 (((((M.make g.rules now (M.nth g.moves k)).1).next).pits).length) c190, .slice A191 (((((M.make g.rules now (M.nth g.moves k)).1).next).stores).length) c191, .int .i64 ((((M.make g.rules now (M.nth g.moves k)).1).next).player)]) el_74 rfl rfl rfl rfl (src_row (i := 0) und_74 rfl rfl) (by omega) (by omega) (by first | omega | (simp only [List.length_append, List.length_cons, List.length_nil] <;> omega)) (rfl)) (.inr rfl) ?_
     rintro v361 _ _ ⟨⟨g362, rfl⟩, rfl⟩ _
     refine JH.fact (row_form' (i := 7) rfl) (fun hf363 => ?_)
     obtain ⟨A363, c363, rfl, bl363, bh363⟩ := hf363
     refine znh ?_
     refine JH.p 9 rfl (p_assign rfl) ?_
     refine JH.p 10 rfl (p_assign rfl) ?_
     refine yd ?_
     exact zm ⟨_, _, _, _, _, _, _, _, _, _, _, _, _, rfl, rfl, zt, zt, zt, zt⟩ (Up.refl _ _)
    refine ybs rfl fun b364 => ?_
    refine y1 3 ?_
    refine ybs rfl fun b366 => ?_
    refine y1 4 ?_
    refine JHo.e rfl (e_append (i := 8) (n' := (out ++ [(((M.make g.rules now (M.nth g.moves k)).1).next)]).length) (vs' := vs184_6 ++ [.slice A345_0 (((((M.make g.rules now (M.nth g.moves k)).1).next).pits).length) c345_0, .slice A345_1 (((((M.make g.rules now (M.nth g.moves k)).1).next).stores).length) c345_1, .int .i64 ((((M.make g.rules now (M.nth g.moves k)).1).next).player)]) el_44 rfl rfl rfl rfl (src_row (i := 0) und_44 rfl rfl) (by omega) (by omega) (by first | omega | (simp only [List.length_append, List.length_cons, List.length_nil] <;> omega)) (rfl)) (.inr rfl) ?_
    rintro v368 _ _ ⟨⟨g369, rfl⟩, rfl⟩ _
    refine JH.fact (row_form' (i := 8) rfl) (fun hf370 => ?_)
    obtain ⟨A370, c370, rfl, bl370, bh370⟩ := hf370
    refine znh ?_
    refine y1 8 ?_
    refine JHo.e rfl (e_append (i := 7) (n' := (made ++ [((M.make g.rules now (M.nth g.moves k)).1)]).length) (vs' := vs184_7 ++ [.int .i64 (((M.make g.rules now (M.nth g.moves k)).1).move), .int .i64 (((M.make g.rules now (M.nth g.moves k)).1).gain), .bool (((M.make g.rules now (M.nth g.moves k)).1).again), .slice A190 (((((M.make g.rules now (M.nth g.moves k)).1).next).pits).length) c190, .slice A191 (((((M.make g.rules now (M.nth g.moves k)).1).next).stores).length) c191, .int .i64 ((((M.make g.rules now (M.nth g.moves k)).1).next).player)]) el_74 rfl rfl rfl rfl (src_row (i := 1) und_74 rfl rfl) (by omega) (by omega) (by first | omega | (simp only [List.length_append, List.length_cons, List.length_nil] <;> omega)) (rfl)) (.inr rfl) ?_
    rintro v371 _ _ ⟨⟨g372, rfl⟩, rfl⟩ _
    refine JH.fact (row_form' (i := 7) rfl) (fun hf373 => ?_)
    obtain ⟨A373, c373, rfl, bl373, bh373⟩ := hf373
    refine znh ?_
    refine JH.p 9 rfl (p_assign rfl) ?_
    refine JH.p 10 rfl (p_assign rfl) ?_
    refine yd ?_
    refine zh [1, 0, 0, 0, 0, 0, 0, 0, 0, 0] ?_
    exact zm ⟨_, _, _, _, _, _, _, _, _, _, _, _, _, rfl, rfl, zt, zt, zt, zt⟩ (Up.refl _ _)
   refine ybs rfl fun b374 => ?_
   refine y1 2 ?_
   refine ycs rfl rfl (fun w hw => c_impl_Position_copied (((M.make g.rules now (M.nth g.moves k)).1).next) (ok_ hw)) ?_
   intro A376_0 c376_0 bl376_0 bh376_0 A376_1 c376_1 bl376_1 bh376_1 f376
   refine y1 3 ?_
   refine ybs rfl fun b377 => ?_
   refine y1 4 ?_
   refine JHo.e rfl (e_append (i := 8) (n' := (out ++ [(((M.make g.rules now (M.nth g.moves k)).1).next)]).length) (vs' := vs184_6 ++ [.slice A376_0 (((((M.make g.rules now (M.nth g.moves k)).1).next).pits).length) c376_0, .slice A376_1 (((((M.make g.rules now (M.nth g.moves k)).1).next).stores).length) c376_1, .int .i64 ((((M.make g.rules now (M.nth g.moves k)).1).next).player)]) el_44 rfl rfl rfl rfl (src_row (i := 0) und_44 rfl rfl) (by omega) (by omega) (by first | omega | (simp only [List.length_append, List.length_cons, List.length_nil] <;> omega)) (rfl)) (.inr rfl) ?_
   rintro v379 _ _ ⟨⟨g380, rfl⟩, rfl⟩ _
   refine JH.fact (row_form' (i := 8) rfl) (fun hf381 => ?_)
   obtain ⟨A381, c381, rfl, bl381, bh381⟩ := hf381
   refine znh ?_
   refine y1 8 ?_
   refine JHo.e rfl (e_append (i := 7) (n' := (made ++ [((M.make g.rules now (M.nth g.moves k)).1)]).length) (vs' := vs184_7 ++ [.int .i64 (((M.make g.rules now (M.nth g.moves k)).1).move), .int .i64 (((M.make g.rules now (M.nth g.moves k)).1).gain), .bool (((M.make g.rules now (M.nth g.moves k)).1).again), .slice A190 (((((M.make g.rules now (M.nth g.moves k)).1).next).pits).length) c190, .slice A191 (((((M.make g.rules now (M.nth g.moves k)).1).next).stores).length) c191, .int .i64 ((((M.make g.rules now (M.nth g.moves k)).1).next).player)]) el_74 rfl rfl rfl rfl (src_row (i := 2) und_74 rfl rfl) (by omega) (by omega) (by first | omega | (simp only [List.length_append, List.length_cons, List.length_nil] <;> omega)) (rfl)) (.inr rfl) ?_
   rintro v382 _ _ ⟨⟨g383, rfl⟩, rfl⟩ _
   refine JH.fact (row_form' (i := 7) rfl) (fun hf384 => ?_)
   obtain ⟨A384, c384, rfl, bl384, bh384⟩ := hf384
   refine znh ?_
   refine JH.p 9 rfl (p_assign rfl) ?_
   refine JH.p 10 rfl (p_assign rfl) ?_
   refine yd ?_
   refine zh [2, 0, 0, 0, 0, 0, 0, 0, 0, 0] ?_
   exact zm ⟨_, _, _, _, _, _, _, _, _, _, _, _, _, rfl, rfl, zt, zt, zt, zt⟩ (Up.refl _ _)
  rintro _ _ u289 ⟨A199, c199, A204, c204, b200, b195, A194_0, c194_0, A194_1, c194_1, f194, g203, g198, rfl, rfl, f289_0, f289_1, f289_2, f289_3⟩ x289
  refine zn ?_
  refine Js.joinL (i := 5) (j := 2) (Vs := lPosition (out ++ [(((M.make g.rules now (M.nth g.moves k)).1).next)])) rfl rfl (lPosition_snoc _ _) (fun f386 => ?_)
  refine zn ?_
  refine Js.vals (Ts := cResultL ((M.make g.rules now (M.nth g.moves k)).1)) (vs := [.int .i64 (((M.make g.rules now (M.nth g.moves k)).1).move), .int .i64 (((M.make g.rules now (M.nth g.moves k)).1).gain), .bool (((M.make g.rules now (M.nth g.moves k)).1).again), .slice A190 (((((M.make g.rules now (M.nth g.moves k)).1).next).pits).length) c190, .slice A191 (((((M.make g.rules now (M.nth g.moves k)).1).next).stores).length) c191, .int .i64 ((((M.make g.rules now (M.nth g.moves k)).1).next).player)]) (fun w => ⟨[], [], rfl, ⟨rfl, rfl⟩, ⟨[], [], rfl, ⟨rfl, rfl⟩, ⟨[], [], rfl, ⟨rfl, rfl⟩, ⟨[], [], rfl, ⟨rfl, rfl⟩, ⟨[], [], rfl, ⟨rfl, rfl⟩, ⟨[], [], rfl, ⟨rfl, rfl⟩, rfl⟩⟩⟩⟩⟩⟩) ?_
  refine Js.joinL (i := 5) (j := 0) (Vs := lResultL (made ++ [((M.make g.rules now (M.nth g.moves k)).1)])) rfl rfl (lResultL_snoc _ _) (fun f388 => ?_)
  refine zn ?_
  refine Js.blockEnd <| Js.region <| Qp rfl rfl <| Qm rfl <| JL.nil ?_
  refine zd [0, 0, 3, 3, 3, 3] rfl fun u389 x389 => ?_
  exact zag ⟨k + 1, (((M.make g.rules now (M.nth g.moves k)).1).next), out ++ [(((M.make g.rules now (M.nth g.moves k)).1).next)], made ++ [((M.make g.rules now (M.nth g.moves k)).1)], _, _, _, _, _, _, _, _, _, _, _, _, _, _, rfl, rfl, by exact hR2, by rw [hO]; exact (M.hist_snoc _ _ _).symm, by exact hl2.1, by exact hl2.2, zu, zu, zu, zu, (Ty.mono _ h190 (x289.vis.trans x389.vis)), zu, zu, (Ty.mono _ h191 (x289.vis.trans x389.vis)), zu, zu, rfl⟩ (((x184.trans x189).trans x289).trans x389)
 obtain ⟨hP1, hP2, hP3⟩ := hR.played (by omega)
 rw [← hO] at hP2
 refine zx ?_
 have hq0 : out = M.playedP g := by first | exact hP1.symm | exact congrArg Value.bool hP1.symm | exact hP2.symm | exact hP3.symm
 have hq1 : made = M.playedR g := by first | exact hP1.symm | exact congrArg Value.bool hP1.symm | exact hP2.symm | exact hP3.symm
 have hq2 : true = M.playedOk g := by first | exact hP1.symm | exact congrArg Value.bool hP1.symm | exact hP2.symm | exact hP3.symm
 refine zS <| Qm rfl <| Qm rfl <| Qa rfl <| Qa rfl <| Qa rfl <| JL.nil ?_
 exact zro (x95.trans x184)

set_option maxHeartbeats 1000000 in
theorem c_impl_ValidGame (g : M.Gam) {v_g : Value} {w : World} (h_g : (Ty.agg (cGame g)).ok w v_g) (r0 : g.start.pits.length ≤ 4194304 := by exact om_) (r1 : g.start.stores.length ≤ 4194304 := by exact om_) (r2 : g.moves.length ≤ 4194304 := by exact om_) (r3 : g.now.pits.length ≤ 4194304 := by exact om_) (r4 : g.now.stores.length ≤ 4194304 := by exact om_) : RetV Try.prog 62 [v_g] w (.bool (M.okG g)) := by
 revert v_g; apply opn
 intro A1 c1 h1 bl1 bh1 A2 c2 h2 bl2 bh2 A3 c3 h3 bl3 bh3 A4 c4 h4 bl4 bh4 A5 c5 h5 bl5 bh5
 refine enter @Try.func62 @Try.ntmps62 rfl rfl ?_
 refine zent ?_
 refine zS <| zb rfl fun b6 => Qa rfl <| zJ <| zS <| Qf fh rfl <| Q9 0 rfl rfl ?_
 refine Qf fh rfl <| Q9 0 rfl rfl ?_
 refine zv rfl (fun w hw => c_impl_ValidPosition g.rules g.start (ok_ hw) (ok_ hw)) <| Qt rfl <| Qm rfl <| zg (Gd.f1 rfl rfl rfl) (fun hc => p_fieldAddr fld_35_2.h rfl) <| zgq (Gd.f1 rfl rfl rfl) (fun hc => q_load1 ty_24.h (gh hc rfl) (Mem.box (i := 0) rfl rfl)) <| zg (Gd.f1 rfl rfl rfl) (fun hc => p_len el_24 (gh hc rfl)) <| zg (Gd.f1 rfl rfl rfl) (fun hc => p_gtr (gh hc rfl) rfl) <| Qq (p_pickOr rfl rfl rfl) <| Qm rfl <| zg (Gd.f1 rfl rfl rfl) (fun hc => p_fieldAddr fld_35_4.h rfl) <| zgq (Gd.f1 rfl rfl rfl) (fun hc => q_load1 ty_2.h (gh hc rfl) (Mem.box (i := 0) rfl rfl)) <| zgv (Gd.f1 rfl rfl rfl) (fun hc => (opds_3 (gh hc rfl) rfl rfl)) (fun hc => (fun w hw => c_impl_between g.resigned (-1) 1)) ?_
 refine zg (Gd.f1 rfl rfl rfl) (fun hc => p_not (gh hc rfl)) <| Qq (p_pickOr rfl rfl rfl) <| JL.nil ?_
 refine zi (fun h7 h7' => ?_) fun h7 h7' => ?_
 ·
  refine zS <| Qa rfl <| JL.nil ?_
  refine zR (Up.refl _ _) ?_
  exact congrArg (fun b => Ending.returned (.bool b)) (M.okG_no (by simpa [or_assoc] using h7)).symm
 have ho : M.okP g.rules g.start = true ∧ (g.moves.length : Int) ≤ 120 ∧ M.betw g.resigned (-1) 1 = true := by simpa [and_assoc] using h7
 refine Js.skip <| zS <| Q9 0 rfl rfl ?_
 refine zp rfl (fun w hw => c_impl_Game_played g (ok_ hw)) ?_
 intro u8 x8 A9 c9 h9 bl9 bh9 A10 c10 h10 bl10 bh10
 refine Qm rfl <| Qx rfl rfl <| Qx rfl rfl <| Qx rfl rfl <| Qa rfl <| Qa rfl <| Qa rfl <| zJ ?_
 rcases Bool.eq_false_or_eq_true (M.playedOk g) with h11 | h11
 ·
  obtain ⟨hl1, hl2⟩ := M.playedP_len h11
  have hl3 := M.okP_len (M.lastPos_ok _ _ ho.1 (M.runs_ok g.moves _ ho.1))
  refine zdr [] ?_
  refine JH.p 0 rfl (p_move rfl) ?_
  refine JH.p 1 rfl (p_move rfl) ?_
  refine JH.pg 2 rfl (Gd.t1 rfl rfl rfl) (fun hc => p_move rfl) ?_
  refine JH.pg 3 rfl (Gd.t1 rfl rfl rfl) (fun hc => p_move rfl) ?_
  refine JH.pg 4 rfl (Gd.t1 rfl rfl rfl) (fun hc => p_len el_44 (gvt rfl hc)) ?_
  refine JH.pg 5 rfl (Gd.t1 rfl rfl rfl) (fun hc => p_sub (gvt rfl hc) rfl (IntWalk.i64_in _ (by omega))) ?_
  obtain ⟨y12, hy12⟩ : ∃ x, (M.playedP g)[((((M.playedP g).length) : Int) - 1).toNat]? = some x := ⟨_, List.getElem?_eq_getElem (by omega)⟩
  obtain ⟨b12, o12, A12_0, c12_0, A12_1, c12_1, he12, hr12, h12_0, h12_1, bl12_0, bh12_0, bl12_1, bh12_1⟩ := elem_Position h9 hy12
  refine JH.pg 6 rfl (Gd.t1 rfl rfl rfl) (fun hc => p_indexAddr el_44 (gvt rfl hc) (gvt rfl hc) (by omega) (by omega) he12) ?_
  refine JH.wg 7 rfl (Gd.t1 rfl rfl rfl) (fun hc os' u' hv => LS 0 (hr12.vis hv) (gvt rfl hc)) ?_
  refine JH.pg 8 rfl (Gd.t1 rfl rfl rfl) (fun hc => p_fieldAddr fld_35_3.h rfl) ?_
  refine JH.qg 9 rfl (Gd.t1 rfl rfl rfl) (fun hc => L9 0 (gvt rfl hc) rfl) ?_
  refine y1 10 ?_
  refine JHo.eT rfl (Gd.t1 rfl rfl rfl) (show (M.playedOk g) = true by simp [h11]) (e_callV fn_101.h (opds_2 (gvt rfl (show (M.playedOk g) = true by simp [h11])) (gvt rfl (show (M.playedOk g) = true by simp [h11]))) (fun w hw => c_impl_SamePosition y12 g.now (ok_ hw) (ok_ hw) (r0 := (M.last_len hl2 hy12 (by omega) hl3).1) (r1 := (M.last_len hl2 hy12 (by omega) hl3).2))) (.inl rfl) ?_
  rintro _ _ _ ⟨rfl, rfl, rfl⟩ _
  refine JH.p 11 rfl (p_pickAnd2 rfl rfl rfl) ?_
  refine JH.p 12 rfl (p_assign rfl) ?_
  refine yd ?_
  refine zR x8 ?_
  first | (simp only [outV]; rw [M.okG_yes ho.1 ho.2.1 ho.2.2 (by assumption) (by assumption) (by omega)]; simp [*]; done) | (simp only [outV]; rw [M.okG_broken (by assumption)]; simp [*]; done)
 have hl3 := M.okP_len (M.lastPos_ok _ _ ho.1 (M.runs_ok g.moves _ ho.1))
 refine zdr [] ?_
 refine JH.p 0 rfl (p_move rfl) ?_
 refine JH.p 1 rfl (p_move rfl) ?_
 refine JH.pg (v := undef) 2 rfl (Gd.t1 rfl rfl rfl) (fun hc => absurd hc (by simp [h11])) ?_
 refine JH.pg (v := undef) 3 rfl (Gd.t1 rfl rfl rfl) (fun hc => absurd hc (by simp [h11])) ?_
 refine JH.pg (v := undef) 4 rfl (Gd.t1 rfl rfl rfl) (fun hc => absurd hc (by simp [h11])) ?_
 refine JH.pg (v := undef) 5 rfl (Gd.t1 rfl rfl rfl) (fun hc => absurd hc (by simp [h11])) ?_
 refine JH.pg (v := undef) 6 rfl (Gd.t1 rfl rfl rfl) (fun hc => absurd hc (by simp [h11])) ?_
 refine JH.pg (v := undef) 7 rfl (Gd.t1 rfl rfl rfl) (fun hc => absurd hc (by simp [h11])) ?_
 refine JH.pg (v := undef) 8 rfl (Gd.t1 rfl rfl rfl) (fun hc => absurd hc (by simp [h11])) ?_
 refine JH.pg (v := undef) 9 rfl (Gd.t1 rfl rfl rfl) (fun hc => absurd hc (by simp [h11])) ?_
 refine y1 10 ?_
 refine JHo.qg (v := .bool false) rfl (Gd.t1 rfl rfl rfl) (fun hc => absurd hc (by simp [h11])) ?_
 refine JH.p 11 rfl (p_pickAnd rfl rfl rfl) ?_
 refine JH.p 12 rfl (p_assign rfl) ?_
 refine yd ?_
 refine zR x8 ?_
 first | (simp only [outV]; rw [M.okG_yes ho.1 ho.2.1 ho.2.2 (by assumption) (by assumption) (by omega)]; simp [*]; done) | (simp only [outV]; rw [M.okG_broken (by assumption)]; simp [*]; done)

end Go.Proofs.Ytejnmechnhgmfaa

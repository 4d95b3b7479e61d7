/- Walks: G5. -/
import Derived.Test.YtdhmdaoijnnfjaaDoorZsA2
import Derived.Test.YtdhmdaoijnnfjaaDoorZsA4
import Derived.Test.YtdhmdaoijnnfjaaDoorZsA3
set_option linter.unusedSimpArgs false
set_option linter.unusedVariables false
set_option maxRecDepth 100000
attribute [local irreducible] Go.Proofs.YtdhmdaoijnnfjaaDoor.gv
namespace Go.Proofs.YtdhmdaoijnnfjaaDoor
open Go.RowKit

set_option maxHeartbeats 1000000 in
theorem c_impl_Game_played (g : M.Gam) {v_g : Value} {w : World} (h_g : (Ty.agg (cGame g)).ok w v_g) (r0 : g.start.pits.length ≤ 4194304 := by exact om_) (r1 : g.start.stores.length ≤ 4194304 := by exact om_) (r2 : g.moves.length ≤ 4194304 := by exact om_) (r3 : g.now.pits.length ≤ 4194304 := by exact om_) (r4 : g.now.stores.length ≤ 4194304 := by exact om_) : Ret Tryd.prog 51 [v_g] w (Ty.tup [Ty.sl 34 3 (M.playedP g).length (lPosition (M.playedP g)), Ty.sl 87 6 (M.playedR g).length (lResultL (M.playedR g)), Ty.bool (M.playedOk g)]) := by
 revert v_g; apply opn
 intro A1 c1 h1 bl1 bh1 A2 c2 h2 bl2 bh2 A3 c3 h3 bl3 bh3 A4 c4 h4 bl4 bh4 A5 c5 h5 bl5 bh5
 refine enter @Tryd.func51 @Tryd.ntmps51 rfl rfl ?_
 refine zent ?_
 refine zS <| zb rfl fun b6 => Qa rfl <| Qa rfl <| Qa rfl <| zJ ?_
 refine zk [1] (fun F U l os u => ∃ (b12 b8 b10 : Nat) (A7_0 : Option Addr) (c7_0 : Nat) (A7_1 : Option Addr) (c7_1 : Nat) (f7 : List Nat), l = F [(5, .pointer (some ⟨b12, 0, none⟩)), (6, .slice (some ⟨b8, 0, none⟩) 1 1), (7, .slice (some ⟨b10, 0, none⟩) 0 0)] ∧ os = [boxO b12 [.slice A1 g.start.pits.length c1, .slice A2 g.start.stores.length c2, .int .i64 g.start.player] 34, rowO 87 6 (.slice (some ⟨b10, 0, none⟩) 0 0) 0 [] [], rowO 34 3 (.slice (some ⟨b8, 0, none⟩) 1 1) 1 [.slice A7_0 g.start.pits.length c7_0, .slice A7_1 g.start.stores.length c7_1, .int .i64 g.start.player] [], ownC (cPosition g.start) [.slice A7_0 g.start.pits.length c7_0, .slice A7_1 g.start.stores.length c7_1, .int .i64 g.start.player] f7] ++ U []) ?_ ?_
 ·
  refine zdr [8] ?_
  refine JH.p 0 rfl (p_fieldAddr fld_36_1.h rfl) ?_
  refine JH.q 1 rfl (L9 0 rfl rfl) ?_
  refine JH.p 2 rfl (p_fieldAddr fld_36_1.h rfl) ?_
  refine JH.q 3 rfl (L9 0 rfl rfl) ?_
  refine y3 4 6 7 ?_ ?_ ?_
  ·
   refine ycs rfl rfl (fun w hw => c_impl_Position_copied g.start (ok_ hw)) ?_
   intro A96_0 c96_0 bl96_0 bh96_0 A96_1 c96_1 bl96_1 bh96_1 f96
   refine y3 5 6 7 ?_ ?_ ?_
   ·
    refine ybs rfl fun b97 => ?_
    refine y2 6 7 ?_ ?_
    ·
     refine ybs rfl fun b99 => ?_
     refine y1 7 ?_
     refine ya rfl fun b101 => ?_
     refine y1 8 ?_
     refine yst rfl rfl rfl ?_
     refine JH.p 9 rfl (p_assign rfl) ?_
     refine JH.p 10 rfl (p_assign rfl) ?_
     refine yd ?_
     exact zm ⟨_, _, _, _, _, _, _, _, rfl, rfl⟩ (Up.refl _ _)
    refine ya rfl fun b102 => ?_
    refine y2 6 8 ?_ ?_
    ·
     refine ybs rfl fun b103 => ?_
     refine y1 8 ?_
     refine yst rfl rfl rfl ?_
     refine JH.p 9 rfl (p_assign rfl) ?_
     refine JH.p 10 rfl (p_assign rfl) ?_
     refine yd ?_
     refine zh [1, 0, 0, 0, 0] ?_
     exact zm ⟨_, _, _, _, _, _, _, _, rfl, rfl⟩ (Up.refl _ _)
    refine yst rfl rfl rfl ?_
    refine JH.p 9 rfl (p_assign rfl) ?_
    refine y1 6 ?_
    refine ybs rfl fun b105 => ?_
    refine JH.p 10 rfl (p_assign rfl) ?_
    refine yd ?_
    refine zh [1, 0, 0, 0, 0] ?_
    exact zm ⟨_, _, _, _, _, _, _, _, rfl, rfl⟩ (Up.refl _ _)
   ·
    refine ybs rfl fun b107 => ?_
    refine y2 5 7 ?_ ?_
    ·
     refine ybs rfl fun b109 => ?_
     refine y1 7 ?_
     refine ya rfl fun b111 => ?_
     refine y1 8 ?_
     refine yst rfl rfl rfl ?_
     refine JH.p 9 rfl (p_assign rfl) ?_
     refine JH.p 10 rfl (p_assign rfl) ?_
     refine yd ?_
     refine zh [0, 1, 0, 0, 0] ?_
     exact zm ⟨_, _, _, _, _, _, _, _, rfl, rfl⟩ (Up.refl _ _)
    refine ya rfl fun b112 => ?_
    refine y2 5 8 ?_ ?_
    ·
     refine ybs rfl fun b113 => ?_
     refine y1 8 ?_
     refine yst rfl rfl rfl ?_
     refine JH.p 9 rfl (p_assign rfl) ?_
     refine JH.p 10 rfl (p_assign rfl) ?_
     refine yd ?_
     refine zh [1, 1, 0, 0, 0] ?_
     exact zm ⟨_, _, _, _, _, _, _, _, rfl, rfl⟩ (Up.refl _ _)
    refine yst rfl rfl rfl ?_
    refine y1 5 ?_
    refine ybs rfl fun b115 => ?_
    refine JH.p 9 rfl (p_assign rfl) ?_
    refine JH.p 10 rfl (p_assign rfl) ?_
    refine yd ?_
    refine zh [1, 1, 0, 0, 0] ?_
    exact zm ⟨_, _, _, _, _, _, _, _, rfl, rfl⟩ (Up.refl _ _)
   refine ya rfl fun b117 => ?_
   refine y3 5 6 8 ?_ ?_ ?_
   ·
    refine ybs rfl fun b118 => ?_
    refine y2 6 8 ?_ ?_
    ·
     refine ybs rfl fun b120 => ?_
     refine y1 8 ?_
     refine yst rfl rfl rfl ?_
     refine JH.p 9 rfl (p_assign rfl) ?_
     refine JH.p 10 rfl (p_assign rfl) ?_
     refine yd ?_
     refine zh [2, 0, 0, 0, 0] ?_
     exact zm ⟨_, _, _, _, _, _, _, _, rfl, rfl⟩ (Up.refl _ _)
    refine yst rfl rfl rfl ?_
    refine JH.p 9 rfl (p_assign rfl) ?_
    refine y1 6 ?_
    refine ybs rfl fun b122 => ?_
    refine JH.p 10 rfl (p_assign rfl) ?_
    refine yd ?_
    refine zh [2, 0, 0, 0, 0] ?_
    exact zm ⟨_, _, _, _, _, _, _, _, rfl, rfl⟩ (Up.refl _ _)
   ·
    refine ybs rfl fun b124 => ?_
    refine y2 5 8 ?_ ?_
    ·
     refine ybs rfl fun b126 => ?_
     refine y1 8 ?_
     refine yst rfl rfl rfl ?_
     refine JH.p 9 rfl (p_assign rfl) ?_
     refine JH.p 10 rfl (p_assign rfl) ?_
     refine yd ?_
     refine zh [2, 1, 0, 0, 0] ?_
     exact zm ⟨_, _, _, _, _, _, _, _, rfl, rfl⟩ (Up.refl _ _)
    refine yst rfl rfl rfl ?_
    refine y1 5 ?_
    refine ybs rfl fun b128 => ?_
    refine JH.p 9 rfl (p_assign rfl) ?_
    refine JH.p 10 rfl (p_assign rfl) ?_
    refine yd ?_
    refine zh [2, 1, 0, 0, 0] ?_
    exact zm ⟨_, _, _, _, _, _, _, _, rfl, rfl⟩ (Up.refl _ _)
   refine yst rfl rfl rfl ?_
   refine y2 5 6 ?_ ?_
   ·
    refine ybs rfl fun b130 => ?_
    refine JH.p 9 rfl (p_assign rfl) ?_
    refine y1 6 ?_
    refine ybs rfl fun b132 => ?_
    refine JH.p 10 rfl (p_assign rfl) ?_
    refine yd ?_
    refine zh [2, 0, 0, 0, 0] ?_
    exact zm ⟨_, _, _, _, _, _, _, _, rfl, rfl⟩ (Up.refl _ _)
   refine ybs rfl fun b134 => ?_
   refine y1 5 ?_
   refine ybs rfl fun b136 => ?_
   refine JH.p 9 rfl (p_assign rfl) ?_
   refine JH.p 10 rfl (p_assign rfl) ?_
   refine yd ?_
   refine zh [2, 1, 0, 0, 0] ?_
   exact zm ⟨_, _, _, _, _, _, _, _, rfl, rfl⟩ (Up.refl _ _)
  ·
   refine ybs rfl fun b138 => ?_
   refine y2 4 7 ?_ ?_
   ·
    refine ycs rfl rfl (fun w hw => c_impl_Position_copied g.start (ok_ hw)) ?_
    intro A140_0 c140_0 bl140_0 bh140_0 A140_1 c140_1 bl140_1 bh140_1 f140
    refine y2 5 7 ?_ ?_
    ·
     refine ybs rfl fun b141 => ?_
     refine y1 7 ?_
     refine ya rfl fun b143 => ?_
     refine y1 8 ?_
     refine yst rfl rfl rfl ?_
     refine JH.p 9 rfl (p_assign rfl) ?_
     refine JH.p 10 rfl (p_assign rfl) ?_
     refine yd ?_
     refine zh [0, 2, 0, 0, 0] ?_
     exact zm ⟨_, _, _, _, _, _, _, _, rfl, rfl⟩ (Up.refl _ _)
    refine ya rfl fun b144 => ?_
    refine y2 5 8 ?_ ?_
    ·
     refine ybs rfl fun b145 => ?_
     refine y1 8 ?_
     refine yst rfl rfl rfl ?_
     refine JH.p 9 rfl (p_assign rfl) ?_
     refine JH.p 10 rfl (p_assign rfl) ?_
     refine yd ?_
     refine zh [1, 2, 0, 0, 0] ?_
     exact zm ⟨_, _, _, _, _, _, _, _, rfl, rfl⟩ (Up.refl _ _)
    refine yst rfl rfl rfl ?_
    refine y1 5 ?_
    refine ybs rfl fun b147 => ?_
    refine JH.p 9 rfl (p_assign rfl) ?_
    refine JH.p 10 rfl (p_assign rfl) ?_
    refine yd ?_
    refine zh [1, 2, 0, 0, 0] ?_
    exact zm ⟨_, _, _, _, _, _, _, _, rfl, rfl⟩ (Up.refl _ _)
   refine ya rfl fun b149 => ?_
   refine y1 4 ?_
   refine ycs rfl rfl (fun w hw => c_impl_Position_copied g.start (ok_ hw)) ?_
   intro A150_0 c150_0 bl150_0 bh150_0 A150_1 c150_1 bl150_1 bh150_1 f150
   refine y2 5 8 ?_ ?_
   ·
    refine ybs rfl fun b151 => ?_
    refine y1 8 ?_
    refine yst rfl rfl rfl ?_
    refine JH.p 9 rfl (p_assign rfl) ?_
    refine JH.p 10 rfl (p_assign rfl) ?_
    refine yd ?_
    refine zh [2, 2, 0, 0, 0] ?_
    exact zm ⟨_, _, _, _, _, _, _, _, rfl, rfl⟩ (Up.refl _ _)
   refine yst rfl rfl rfl ?_
   refine y1 5 ?_
   refine ybs rfl fun b153 => ?_
   refine JH.p 9 rfl (p_assign rfl) ?_
   refine JH.p 10 rfl (p_assign rfl) ?_
   refine yd ?_
   refine zh [2, 2, 0, 0, 0] ?_
   exact zm ⟨_, _, _, _, _, _, _, _, rfl, rfl⟩ (Up.refl _ _)
  refine ya rfl fun b155 => ?_
  refine y2 4 6 ?_ ?_
  ·
   refine ycs rfl rfl (fun w hw => c_impl_Position_copied g.start (ok_ hw)) ?_
   intro A156_0 c156_0 bl156_0 bh156_0 A156_1 c156_1 bl156_1 bh156_1 f156
   refine y3 5 6 8 ?_ ?_ ?_
   ·
    refine ybs rfl fun b157 => ?_
    refine y2 6 8 ?_ ?_
    ·
     refine ybs rfl fun b159 => ?_
     refine y1 8 ?_
     refine yst rfl rfl rfl ?_
     refine JH.p 9 rfl (p_assign rfl) ?_
     refine JH.p 10 rfl (p_assign rfl) ?_
     refine yd ?_
     refine zh [3, 0, 0, 0, 0] ?_
     exact zm ⟨_, _, _, _, _, _, _, _, rfl, rfl⟩ (Up.refl _ _)
    refine yst rfl rfl rfl ?_
    refine JH.p 9 rfl (p_assign rfl) ?_
    refine y1 6 ?_
    refine ybs rfl fun b161 => ?_
    refine JH.p 10 rfl (p_assign rfl) ?_
    refine yd ?_
    refine zh [3, 0, 0, 0, 0] ?_
    exact zm ⟨_, _, _, _, _, _, _, _, rfl, rfl⟩ (Up.refl _ _)
   ·
    refine ybs rfl fun b163 => ?_
    refine y2 5 8 ?_ ?_
    ·
     refine ybs rfl fun b165 => ?_
     refine y1 8 ?_
     refine yst rfl rfl rfl ?_
     refine JH.p 9 rfl (p_assign rfl) ?_
     refine JH.p 10 rfl (p_assign rfl) ?_
     refine yd ?_
     refine zh [3, 1, 0, 0, 0] ?_
     exact zm ⟨_, _, _, _, _, _, _, _, rfl, rfl⟩ (Up.refl _ _)
    refine yst rfl rfl rfl ?_
    refine y1 5 ?_
    refine ybs rfl fun b167 => ?_
    refine JH.p 9 rfl (p_assign rfl) ?_
    refine JH.p 10 rfl (p_assign rfl) ?_
    refine yd ?_
    refine zh [3, 1, 0, 0, 0] ?_
    exact zm ⟨_, _, _, _, _, _, _, _, rfl, rfl⟩ (Up.refl _ _)
   refine yst rfl rfl rfl ?_
   refine y2 5 6 ?_ ?_
   ·
    refine ybs rfl fun b169 => ?_
    refine JH.p 9 rfl (p_assign rfl) ?_
    refine y1 6 ?_
    refine ybs rfl fun b171 => ?_
    refine JH.p 10 rfl (p_assign rfl) ?_
    refine yd ?_
    refine zh [3, 0, 0, 0, 0] ?_
    exact zm ⟨_, _, _, _, _, _, _, _, rfl, rfl⟩ (Up.refl _ _)
   refine ybs rfl fun b173 => ?_
   refine y1 5 ?_
   refine ybs rfl fun b175 => ?_
   refine JH.p 9 rfl (p_assign rfl) ?_
   refine JH.p 10 rfl (p_assign rfl) ?_
   refine yd ?_
   refine zh [3, 1, 0, 0, 0] ?_
   exact zm ⟨_, _, _, _, _, _, _, _, rfl, rfl⟩ (Up.refl _ _)
  refine ybs rfl fun b177 => ?_
  refine y1 4 ?_
  refine ycs rfl rfl (fun w hw => c_impl_Position_copied g.start (ok_ hw)) ?_
  intro A179_0 c179_0 bl179_0 bh179_0 A179_1 c179_1 bl179_1 bh179_1 f179
  refine y2 5 8 ?_ ?_
  ·
   refine ybs rfl fun b180 => ?_
   refine y1 8 ?_
   refine yst rfl rfl rfl ?_
   refine JH.p 9 rfl (p_assign rfl) ?_
   refine JH.p 10 rfl (p_assign rfl) ?_
   refine yd ?_
   refine zh [3, 2, 0, 0, 0] ?_
   exact zm ⟨_, _, _, _, _, _, _, _, rfl, rfl⟩ (Up.refl _ _)
  refine yst rfl rfl rfl ?_
  refine y1 5 ?_
  refine ybs rfl fun b182 => ?_
  refine JH.p 9 rfl (p_assign rfl) ?_
  refine JH.p 10 rfl (p_assign rfl) ?_
  refine yd ?_
  refine zh [3, 2, 0, 0, 0] ?_
  exact zm ⟨_, _, _, _, _, _, _, _, rfl, rfl⟩ (Up.refl _ _)
 rintro _ _ u95 ⟨b12, b8, b10, A7_0, c7_0, A7_1, c7_1, f7, rfl, rfl⟩ x95
 refine zn ?_
 refine Js.seq <| zS <| Qf fh rfl <| Q0 4 rfl rfl rfl <| Qz rfl <| Qm rfl <| JL.nil <| Js.block ?_
 refine Js.vals (Ts := lPosition []) (vs := []) (fun w => rfl) ?_
 refine Js.joinL (i := 0) (j := 3) (Vs := lPosition ([] ++ [g.start])) rfl rfl (lPosition_snoc _ _) (fun f186 => ?_)
 refine zn ?_
 refine Js.vals (Ts := lResultL []) (vs := []) (fun w => rfl) ?_
 refine zl [1, 5, 20, 21] (fun F U l os u m => ∃ (k : Nat) (now : M.Pos) (out : List M.Pos) (made : List M.Res) (A184_6 : Option Addr) (c184_6 : Nat) (g184_6 : List Nat) (vs184_6 : List Value) (fl184_6 : List Nat) (A184_7 : Option Addr) (c184_7 : Nat) (g184_7 : List Nat) (vs184_7 : List Value) (fl184_7 : List Nat) (A184_5_0 : Option Addr) (c184_5_0 : Nat) (A184_5_1 : Option Addr) (c184_5_1 : Nat), l = F [(6, .slice A184_6 out.length c184_6), (7, .slice A184_7 made.length c184_7), (22, .int .i64 (k : Int))] ∧ os = U [some (ownC (lResultL made) vs184_7 fl184_7), some (ownC (lPosition out) vs184_6 fl184_6), some (boxO b12 [.slice A184_5_0 now.pits.length c184_5_0, .slice A184_5_1 now.stores.length c184_5_1, .int .i64 now.player] 34), some (rowO 87 6 (.slice A184_7 made.length c184_7) made.length vs184_7 g184_7), some (rowO 34 3 (.slice A184_6 out.length c184_6) out.length vs184_6 g184_6)] ∧ (M.Run g.rules g.start g.moves k now made) ∧ (out = M.hist g.start made) ∧ (now.pits.length ≤ 4194304) ∧ (now.stores.length ≤ 4194304) ∧ (out.length ≤ c184_6) ∧ (c184_6 ≤ 9223372036854775807) ∧ (made.length ≤ c184_7) ∧ (c184_7 ≤ 9223372036854775807) ∧ ((Ty.ints 2 now.pits).ok u (.slice A184_5_0 now.pits.length c184_5_0)) ∧ (now.pits.length ≤ c184_5_0) ∧ (c184_5_0 ≤ 9223372036854775807) ∧ ((Ty.ints 2 now.stores).ok u (.slice A184_5_1 now.stores.length c184_5_1)) ∧ (now.stores.length ≤ c184_5_1) ∧ (c184_5_1 ≤ 9223372036854775807) ∧ m = g.moves.length - k) ⟨0, g.start, [g.start], [], _, _, _, _, _, _, _, _, _, _, _, _, _, _, rfl, rfl, by exact M.Run.zero _ _ _, by rfl, zt, zt, zu, zu, zu, zu, (Ty.mono _ h1 x95.vis), zu, zu, (Ty.mono _ h2 x95.vis), zu, zu, rfl⟩ ?_
 rintro _ _ u184 _ ⟨k, now, out, made, A184_6, c184_6, g184_6, vs184_6, fl184_6, A184_7, c184_7, g184_7, vs184_7, fl184_7, A184_5_0, c184_5_0, A184_5_1, c184_5_1, rfl, rfl, hR, hO, n0, n1, f184_4, f184_5, f184_6, f184_7, f184_8, f184_9, f184_10, f184_11, f184_12, f184_13, rfl⟩ x184
 refine zn ?_
 have hl1 := hR.len
 have hl3 := hR.le
 have hlO : out.length = made.length + 1 := by rw [hO]; simp
 refine zS <| Ql rfl rfl <| zJ ?_
 refine zi (fun h187 h187' => ?_) fun h187 h187' => ?_
 ·
  obtain ⟨b188, o188, he188, hc188⟩ := ints_elem (Ty.mono _ h3 (x95.vis.trans x184.vis)) (i := k) (by omega)
  refine Js.skip <| Js.seq <| Js.block <| zS <| Qq (p_indexAddr el_24 rfl rfl (by omega) (by omega) he188) <| QC hc188 rfl <| Qa rfl <| zN <| Qf fh rfl <| Q9 5 rfl rfl ?_
  refine Q9 2 rfl rfl ?_
  refine Qm rfl <| zp rfl (fun w hw => c_impl_Rules_resultOf g.rules now (M.nth g.moves k) (ok_ hw) (ok_ hw)) ?_
  intro u189 x189 A190 c190 h190 bl190 bh190 A191 c191 h191 bl191 bh191
  refine Qm rfl <| Qx rfl rfl <| Qx rfl rfl <| za zeh fun b192 => zw 0 rfl rfl rfl ?_
  refine Qa rfl <| zJ <| zS <| Qm rfl <| Qd rfl rfl <| JL.nil ?_
  refine zi (fun h193 h193' => ?_) fun h193 h193' => ?_
  ·
   obtain ⟨hP1, hP2, hP3⟩ := hR.broken (by omega) (by simpa using h193)
   have hq0 : [] = M.playedP g := by first | exact hP1.symm | exact congrArg Value.bool hP1.symm | exact hP2.symm | exact hP3.symm
   have hq1 : [] = M.playedR g := by first | exact hP1.symm | exact congrArg Value.bool hP1.symm | exact hP2.symm | exact hP3.symm
   have hq2 : false = M.playedOk g := by first | exact hP1.symm | exact congrArg Value.bool hP1.symm | exact hP2.symm | exact hP3.symm
   refine zS <| Qa rfl <| Qa rfl <| Qa rfl <| JL.nil ?_
   exact zro ((x95.trans x184).trans x189)
  have hm : (M.make g.rules now (M.nth g.moves k)).2 = 0 := by simpa using h193
  have hR2 := hR.step (by omega) hm
  have hl2 := M.okP_len (M.make_ok hm).2.2.2.1
  refine Js.skip <| zS <| Qf fh rfl <| Q9 0 rfl rfl ?_
  refine zw 3 rfl rfl rfl ?_
  refine JL.nil ?_
  refine zk [1, 5, 20, 21, 22] (fun F U l os u => ∃ (A199 : Option Addr) (c199 : Nat) (A204 : Option Addr) (c204 b200 b195 : Nat) (A194_0 : Option Addr) (c194_0 : Nat) (A194_1 : Option Addr) (c194_1 : Nat) (f194 g203 g198 : List Nat), l = F [(6, .slice A199 ((out ++ [(((M.make g.rules now (M.nth g.moves k)).1).next)]).length) c199), (7, .slice A204 ((made ++ [((M.make g.rules now (M.nth g.moves k)).1)]).length) c204)] ∧ os = [rowO 87 6 (.slice (some ⟨b200, 0, none⟩) 1 1) 1 [.int .i64 (((M.make g.rules now (M.nth g.moves k)).1).move), .int .i64 (((M.make g.rules now (M.nth g.moves k)).1).gain), .bool (((M.make g.rules now (M.nth g.moves k)).1).again), .slice A190 (((((M.make g.rules now (M.nth g.moves k)).1).next).pits).length) c190, .slice A191 (((((M.make g.rules now (M.nth g.moves k)).1).next).stores).length) c191, .int .i64 ((((M.make g.rules now (M.nth g.moves k)).1).next).player)] [], rowO 34 3 (.slice (some ⟨b195, 0, none⟩) 1 1) 1 [.slice A194_0 (((((M.make g.rules now (M.nth g.moves k)).1).next).pits).length) c194_0, .slice A194_1 (((((M.make g.rules now (M.nth g.moves k)).1).next).stores).length) c194_1, .int .i64 ((((M.make g.rules now (M.nth g.moves k)).1).next).player)] [], ownC (cPosition (((M.make g.rules now (M.nth g.moves k)).1).next)) [.slice A194_0 (((((M.make g.rules now (M.nth g.moves k)).1).next).pits).length) c194_0, .slice A194_1 (((((M.make g.rules now (M.nth g.moves k)).1).next).stores).length) c194_1, .int .i64 ((((M.make g.rules now (M.nth g.moves k)).1).next).player)] f194] ++ U [nO, nO, nO, nO, some (rowO 87 6 (.slice A204 ((made ++ [((M.make g.rules now (M.nth g.moves k)).1)]).length) c204) ((made ++ [((M.make g.rules now (M.nth g.moves k)).1)]).length) (vs184_7 ++ [.int .i64 (((M.make g.rules now (M.nth g.moves k)).1).move), .int .i64 (((M.make g.rules now (M.nth g.moves k)).1).gain), .bool (((M.make g.rules now (M.nth g.moves k)).1).again), .slice A190 (((((M.make g.rules now (M.nth g.moves k)).1).next).pits).length) c190, .slice A191 (((((M.make g.rules now (M.nth g.moves k)).1).next).stores).length) c191, .int .i64 ((((M.make g.rules now (M.nth g.moves k)).1).next).player)]) g203), some (rowO 34 3 (.slice A199 ((out ++ [(((M.make g.rules now (M.nth g.moves k)).1).next)]).length) c199) ((out ++ [(((M.make g.rules now (M.nth g.moves k)).1).next)]).length) (vs184_6 ++ [.slice A194_0 (((((M.make g.rules now (M.nth g.moves k)).1).next).pits).length) c194_0, .slice A194_1 (((((M.make g.rules now (M.nth g.moves k)).1).next).stores).length) c194_1, .int .i64 ((((M.make g.rules now (M.nth g.moves k)).1).next).player)]) g198)] ∧ ((out ++ [(((M.make g.rules now (M.nth g.moves k)).1).next)]).length ≤ c199) ∧ (c199 ≤ 9223372036854775807) ∧ ((made ++ [((M.make g.rules now (M.nth g.moves k)).1)]).length ≤ c204) ∧ (c204 ≤ 9223372036854775807)) ?_ ?_
  ·
   refine zdr [4, 8] ?_
   refine JH.p 0 rfl (p_move rfl) ?_
   refine JH.q 1 rfl (L9 3 rfl rfl) ?_
   refine JH.p 5 rfl (p_move rfl) ?_
   refine y2 2 6 ?_ ?_
   ·
    refine ycs rfl rfl (fun w hw => c_impl_Position_copied (((M.make g.rules now (M.nth g.moves k)).1).next) (ok_ hw)) ?_
    intro A290_0 c290_0 bl290_0 bh290_0 A290_1 c290_1 bl290_1 bh290_1 f290
    refine y2 3 6 ?_ ?_
    ·
     refine ybs rfl fun b291 => ?_
     refine y2 4 6 ?_ ?_
     ·
      refine JHo.e rfl (e_append (i := 7) (n' := (out ++ [(((M.make g.rules now (M.nth g.moves k)).1).next)]).length) (vs' := vs184_6 ++ [.slice A290_0 (((((M.make g.rules now (M.nth g.moves k)).1).next).pits).length) c290_0, .slice A290_1 (((((M.make g.rules now (M.nth g.moves k)).1).next).stores).length) c290_1, .int .i64 ((((M.make g.rules now (M.nth g.moves k)).1).next).player)]) el_75 rfl rfl rfl rfl (src_row (i := 0) und_75 rfl rfl) (by omega) (by omega) (by first | omega | (simp only [List.length_append, List.length_cons, List.length_nil] <;> omega)) (rfl)) (.inr rfl) ?_
      rintro v293 _ _ ⟨⟨g294, rfl⟩, rfl⟩ _
      refine JH.fact (row_form' (i := 7) rfl) (fun hf295 => ?_)
      obtain ⟨A295, c295, rfl, bl295, bh295⟩ := hf295
      refine znh ?_
      refine y1 6 ?_
      refine JHo.q rfl (L9 2 rfl rfl) ?_
      refine y1 7 ?_
      refine ybs rfl fun b296 => ?_
      refine y1 8 ?_
      refine JHo.e rfl (e_append (i := 7) (n' := (made ++ [((M.make g.rules now (M.nth g.moves k)).1)]).length) (vs' := vs184_7 ++ [.int .i64 (((M.make g.rules now (M.nth g.moves k)).1).move), .int .i64 (((M.make g.rules now (M.nth g.moves k)).1).gain), .bool (((M.make g.rules now (M.nth g.moves k)).1).again), .slice A190 (((((M.make g.rules now (M.nth g.moves k)).1).next).pits).length) c190, .slice A191 (((((M.make g.rules now (M.nth g.moves k)).1).next).stores).length) c191, .int .i64 ((((M.make g.rules now (M.nth g.moves k)).1).next).player)]) el_83 rfl rfl rfl rfl (src_row (i := 0) und_83 rfl rfl) (by omega) (by omega) (by first | omega | (simp only [List.length_append, List.length_cons, List.length_nil] <;> omega)) (rfl)) (.inr rfl) ?_
      rintro v298 _ _ ⟨⟨g299, rfl⟩, rfl⟩ _
      refine JH.fact (row_form' (i := 7) rfl) (fun hf300 => ?_)
      obtain ⟨A300, c300, rfl, bl300, bh300⟩ := hf300
      refine znh ?_
      refine JH.p 9 rfl (p_assign rfl) ?_
      refine JH.p 10 rfl (p_assign rfl) ?_
      refine yd ?_
      exact zm ⟨_, _, _, _, _, _, _, _, _, _, _, _, _, rfl, rfl, zt, zt, zt, zt⟩ (Up.refl _ _)
     refine JHo.q rfl (L9 2 rfl rfl) ?_
     refine y2 4 7 ?_ ?_
     ·
      refine JHo.e rfl (e_append (i := 7) (n' := (out ++ [(((M.make g.rules now (M.nth g.moves k)).1).next)]).length) (vs' := vs184_6 ++ [.slice A290_0 (((((M.make g.rules now (M.nth g.moves k)).1).next).pits).length) c290_0, .slice A290_1 (((((M.make g.rules now (M.nth g.moves k)).1).next).stores).length) c290_1, .int .i64 ((((M.make g.rules now (M.nth g.moves k)).1).next).player)]) el_75 rfl rfl rfl rfl (src_row (i := 0) und_75 rfl rfl) (by omega) (by omega) (by first | omega | (simp only [List.length_append, List.length_cons, List.length_nil] <;> omega)) (rfl)) (.inr rfl) ?_
      rintro v301 _ _ ⟨⟨g302, rfl⟩, rfl⟩ _
      refine JH.fact (row_form' (i := 7) rfl) (fun hf303 => ?_)
      obtain ⟨A303, c303, rfl, bl303, bh303⟩ := hf303
      refine znh ?_
      refine y1 7 ?_
      refine ybs rfl fun b304 => ?_
      refine y1 8 ?_
      refine JHo.e rfl (e_append (i := 7) (n' := (made ++ [((M.make g.rules now (M.nth g.moves k)).1)]).length) (vs' := vs184_7 ++ [.int .i64 (((M.make g.rules now (M.nth g.moves k)).1).move), .int .i64 (((M.make g.rules now (M.nth g.moves k)).1).gain), .bool (((M.make g.rules now (M.nth g.moves k)).1).again), .slice A190 (((((M.make g.rules now (M.nth g.moves k)).1).next).pits).length) c190, .slice A191 (((((M.make g.rules now (M.nth g.moves k)).1).next).stores).length) c191, .int .i64 ((((M.make g.rules now (M.nth g.moves k)).1).next).player)]) el_83 rfl rfl rfl rfl (src_row (i := 0) und_83 rfl rfl) (by omega) (by omega) (by first | omega | (simp only [List.length_append, List.length_cons, List.length_nil] <;> omega)) (rfl)) (.inr rfl) ?_
      rintro v306 _ _ ⟨⟨g307, rfl⟩, rfl⟩ _
      refine JH.fact (row_form' (i := 7) rfl) (fun hf308 => ?_)
      obtain ⟨A308, c308, rfl, bl308, bh308⟩ := hf308
      refine znh ?_
      refine JH.p 9 rfl (p_assign rfl) ?_
      refine JH.p 10 rfl (p_assign rfl) ?_
      refine yd ?_
      exact zm ⟨_, _, _, _, _, _, _, _, _, _, _, _, _, rfl, rfl, zt, zt, zt, zt⟩ (Up.refl _ _)
     refine ybs rfl fun b309 => ?_
     refine y1 4 ?_
     refine JHo.e rfl (e_append (i := 8) (n' := (out ++ [(((M.make g.rules now (M.nth g.moves k)).1).next)]).length) (vs' := vs184_6 ++ [.slice A290_0 (((((M.make g.rules now (M.nth g.moves k)).1).next).pits).length) c290_0, .slice A290_1 (((((M.make g.rules now (M.nth g.moves k)).1).next).stores).length) c290_1, .int .i64 ((((M.make g.rules now (M.nth g.moves k)).1).next).player)]) el_75 rfl rfl rfl rfl (src_row (i := 1) und_75 rfl rfl) (by omega) (by omega) (by first | omega | (simp only [List.length_append, List.length_cons, List.length_nil] <;> omega)) (rfl)) (.inr rfl) ?_
     rintro v311 _ _ ⟨⟨g312, rfl⟩, rfl⟩ _
     refine JH.fact (row_form' (i := 8) rfl) (fun hf313 => ?_)
     obtain ⟨A313, c313, rfl, bl313, bh313⟩ := hf313
     refine znh ?_
     refine y1 8 ?_
     refine JHo.e rfl (e_append (i := 7) (n' := (made ++ [((M.make g.rules now (M.nth g.moves k)).1)]).length) (vs' := vs184_7 ++ [.int .i64 (((M.make g.rules now (M.nth g.moves k)).1).move), .int .i64 (((M.make g.rules now (M.nth g.moves k)).1).gain), .bool (((M.make g.rules now (M.nth g.moves k)).1).again), .slice A190 (((((M.make g.rules now (M.nth g.moves k)).1).next).pits).length) c190, .slice A191 (((((M.make g.rules now (M.nth g.moves k)).1).next).stores).length) c191, .int .i64 ((((M.make g.rules now (M.nth g.moves k)).1).next).player)]) el_83 rfl rfl rfl rfl (src_row (i := 0) und_83 rfl rfl) (by omega) (by omega) (by first | omega | (simp only [List.length_append, List.length_cons, List.length_nil] <;> omega)) (rfl)) (.inr rfl) ?_
     rintro v314 _ _ ⟨⟨g315, rfl⟩, rfl⟩ _
     refine JH.fact (row_form' (i := 7) rfl) (fun hf316 => ?_)
     obtain ⟨A316, c316, rfl, bl316, bh316⟩ := hf316
     refine znh ?_
     refine JH.p 9 rfl (p_assign rfl) ?_
     refine JH.p 10 rfl (p_assign rfl) ?_
     refine yd ?_
     exact zm ⟨_, _, _, _, _, _, _, _, _, _, _, _, _, rfl, rfl, zt, zt, zt, zt⟩ (Up.refl _ _)
    refine JHo.q rfl (L9 1 rfl rfl) ?_
    refine y2 3 7 ?_ ?_
    ·
     refine ybs rfl fun b317 => ?_
     refine y2 4 7 ?_ ?_
     ·
      refine JHo.e rfl (e_append (i := 7) (n' := (out ++ [(((M.make g.rules now (M.nth g.moves k)).1).next)]).length) (vs' := vs184_6 ++ [.slice A290_0 (((((M.make g.rules now (M.nth g.moves k)).1).next).pits).length) c290_0, .slice A290_1 (((((M.make g.rules now (M.nth g.moves k)).1).next).stores).length) c290_1, .int .i64 ((((M.make g.rules now (M.nth g.moves k)).1).next).player)]) el_75 rfl rfl rfl rfl (src_row (i := 0) und_75 rfl rfl) (by omega) (by omega) (by first | omega | (simp only [List.length_append, List.length_cons, List.length_nil] <;> omega)) (rfl)) (.inr rfl) ?_
      rintro v319 _ _ ⟨⟨g320, rfl⟩, rfl⟩ _
      refine JH.fact (row_form' (i := 7) rfl) (fun hf321 => ?_)
      obtain ⟨A321, c321, rfl, bl321, bh321⟩ := hf321
      refine znh ?_
      refine y1 7 ?_
      refine ybs rfl fun b322 => ?_
      refine y1 8 ?_
      refine JHo.e rfl (e_append (i := 7) (n' := (made ++ [((M.make g.rules now (M.nth g.moves k)).1)]).length) (vs' := vs184_7 ++ [.int .i64 (((M.make g.rules now (M.nth g.moves k)).1).move), .int .i64 (((M.make g.rules now (M.nth g.moves k)).1).gain), .bool (((M.make g.rules now (M.nth g.moves k)).1).again), .slice A190 (((((M.make g.rules now (M.nth g.moves k)).1).next).pits).length) c190, .slice A191 (((((M.make g.rules now (M.nth g.moves k)).1).next).stores).length) c191, .int .i64 ((((M.make g.rules now (M.nth g.moves k)).1).next).player)]) el_83 rfl rfl rfl rfl (src_row (i := 0) und_83 rfl rfl) (by omega) (by omega) (by first | omega | (simp only [List.length_append, List.length_cons, List.length_nil] <;> omega)) (rfl)) (.inr rfl) ?_
      rintro v324 _ _ ⟨⟨g325, rfl⟩, rfl⟩ _
      refine JH.fact (row_form' (i := 7) rfl) (fun hf326 => ?_)
      obtain ⟨A326, c326, rfl, bl326, bh326⟩ := hf326
      refine znh ?_
      refine JH.p 9 rfl (p_assign rfl) ?_
      refine JH.p 10 rfl (p_assign rfl) ?_
      refine yd ?_
      exact zm ⟨_, _, _, _, _, _, _, _, _, _, _, _, _, rfl, rfl, zt, zt, zt, zt⟩ (Up.refl _ _)
     refine ybs rfl fun b327 => ?_
     refine y1 4 ?_
     refine JHo.e rfl (e_append (i := 8) (n' := (out ++ [(((M.make g.rules now (M.nth g.moves k)).1).next)]).length) (vs' := vs184_6 ++ [.slice A290_0 (((((M.make g.rules now (M.nth g.moves k)).1).next).pits).length) c290_0, .slice A290_1 (((((M.make g.rules now (M.nth g.moves k)).1).next).stores).length) c290_1, .int .i64 ((((M.make g.rules now (M.nth g.moves k)).1).next).player)]) el_75 rfl rfl rfl rfl (src_row (i := 1) und_75 rfl rfl) (by omega) (by omega) (by first | omega | (simp only [List.length_append, List.length_cons, List.length_nil] <;> omega)) (rfl)) (.inr rfl) ?_
     rintro v329 _ _ ⟨⟨g330, rfl⟩, rfl⟩ _
     refine JH.fact (row_form' (i := 8) rfl) (fun hf331 => ?_)
     obtain ⟨A331, c331, rfl, bl331, bh331⟩ := hf331
     refine znh ?_
     refine y1 8 ?_
     refine JHo.e rfl (e_append (i := 7) (n' := (made ++ [((M.make g.rules now (M.nth g.moves k)).1)]).length) (vs' := vs184_7 ++ [.int .i64 (((M.make g.rules now (M.nth g.moves k)).1).move), .int .i64 (((M.make g.rules now (M.nth g.moves k)).1).gain), .bool (((M.make g.rules now (M.nth g.moves k)).1).again), .slice A190 (((((M.make g.rules now (M.nth g.moves k)).1).next).pits).length) c190, .slice A191 (((((M.make g.rules now (M.nth g.moves k)).1).next).stores).length) c191, .int .i64 ((((M.make g.rules now (M.nth g.moves k)).1).next).player)]) el_83 rfl rfl rfl rfl (src_row (i := 0) und_83 rfl rfl) (by omega) (by omega) (by first | omega | (simp only [List.length_append, List.length_cons, List.length_nil] <;> omega)) (rfl)) (.inr rfl) ?_
     rintro v332 _ _ ⟨⟨g333, rfl⟩, rfl⟩ _
     refine JH.fact (row_form' (i := 7) rfl) (fun hf334 => ?_)
     obtain ⟨A334, c334, rfl, bl334, bh334⟩ := hf334
     refine znh ?_
     refine JH.p 9 rfl (p_assign rfl) ?_
     refine JH.p 10 rfl (p_assign rfl) ?_
     refine yd ?_
     exact zm ⟨_, _, _, _, _, _, _, _, _, _, _, _, _, rfl, rfl, zt, zt, zt, zt⟩ (Up.refl _ _)
    refine ybs rfl fun b335 => ?_
    refine y1 3 ?_
    refine ybs rfl fun b337 => ?_
    refine y1 4 ?_
    refine JHo.e rfl (e_append (i := 8) (n' := (out ++ [(((M.make g.rules now (M.nth g.moves k)).1).next)]).length) (vs' := vs184_6 ++ [.slice A290_0 (((((M.make g.rules now (M.nth g.moves k)).1).next).pits).length) c290_0, .slice A290_1 (((((M.make g.rules now (M.nth g.moves k)).1).next).stores).length) c290_1, .int .i64 ((((M.make g.rules now (M.nth g.moves k)).1).next).player)]) el_75 rfl rfl rfl rfl (src_row (i := 0) und_75 rfl rfl) (by omega) (by omega) (by first | omega | (simp only [List.length_append, List.length_cons, List.length_nil] <;> omega)) (rfl)) (.inr rfl) ?_
    rintro v339 _ _ ⟨⟨g340, rfl⟩, rfl⟩ _
    refine JH.fact (row_form' (i := 8) rfl) (fun hf341 => ?_)
    obtain ⟨A341, c341, rfl, bl341, bh341⟩ := hf341
    refine znh ?_
    refine y1 8 ?_
    refine JHo.e rfl (e_append (i := 7) (n' := (made ++ [((M.make g.rules now (M.nth g.moves k)).1)]).length) (vs' := vs184_7 ++ [.int .i64 (((M.make g.rules now (M.nth g.moves k)).1).move), .int .i64 (((M.make g.rules now (M.nth g.moves k)).1).gain), .bool (((M.make g.rules now (M.nth g.moves k)).1).again), .slice A190 (((((M.make g.rules now (M.nth g.moves k)).1).next).pits).length) c190, .slice A191 (((((M.make g.rules now (M.nth g.moves k)).1).next).stores).length) c191, .int .i64 ((((M.make g.rules now (M.nth g.moves k)).1).next).player)]) el_83 rfl rfl rfl rfl (src_row (i := 1) und_83 rfl rfl) (by omega) (by omega) (by first | omega | (simp only [List.length_append, List.length_cons, List.length_nil] <;> omega)) (rfl)) (.inr rfl) ?_
    rintro v342 _ _ ⟨⟨g343, rfl⟩, rfl⟩ _
    refine JH.fact (row_form' (i := 7) rfl) (fun hf344 => ?_)
    obtain ⟨A344, c344, rfl, bl344, bh344⟩ := hf344
    refine znh ?_
    refine JH.p 9 rfl (p_assign rfl) ?_
    refine JH.p 10 rfl (p_assign rfl) ?_
    refine yd ?_
    refine zh [1, 0, 0, 0, 0, 0, 0, 0, 0, 0] ?_
    exact zm ⟨_, _, _, _, _, _, _, _, _, _, _, _, _, rfl, rfl, zt, zt, zt, zt⟩ (Up.refl _ _)
   refine JHo.q rfl (L9 0 rfl rfl) ?_
   refine y2 2 7 ?_ ?_
   ·
    refine ycs rfl rfl (fun w hw => c_impl_Position_copied (((M.make g.rules now (M.nth g.moves k)).1).next) (ok_ hw)) ?_
    intro A345_0 c345_0 bl345_0 bh345_0 A345_1 c345_1 bl345_1 bh345_1 f345
    refine y2 3 7 ?_ ?_
    ·
     refine ybs rfl fun b346 => ?_
     refine y2 4 7 ?_ ?_
     ·
      refine JHo.e rfl (e_append (i := 7) (n' := (out ++ [(((M.make g.rules now (M.nth g.moves k)).1).next)]).length) (vs' := vs184_6 ++ [.slice A345_0 (((((M.make g.rules now (M.nth g.moves k)).1).next).pits).length) c345_0, .slice A345_1 (((((M.make g.rules now (M.nth g.moves k)).1).next).stores).length) c345_1, .int .i64 ((((M.make g.rules now (M.nth g.moves k)).1).next).player)]) el_75 rfl rfl rfl rfl (src_row (i := 0) und_75 rfl rfl) (by omega) (by omega) (by first | omega | (simp only [List.length_append, List.length_cons, List.length_nil] <;> omega)) (rfl)) (.inr rfl) ?_
      rintro v348 _ _ ⟨⟨g349, rfl⟩, rfl⟩ _
      refine JH.fact (row_form' (i := 7) rfl) (fun hf350 => ?_)
      obtain ⟨A350, c350, rfl, bl350, bh350⟩ := hf350
      refine znh ?_
      refine y1 7 ?_
      refine ybs rfl fun b351 => ?_
      refine y1 8 ?_
      refine JHo.e rfl (e_append (i := 7) (n' := (made ++ [((M.make g.rules now (M.nth g.moves k)).1)]).length) (vs' := vs184_7 ++ [.int .i64 (((M.make g.rules now (M.nth g.moves k)).1).move), .int .i64 (((M.make g.rules now (M.nth g.moves k)).1).gain), .bool (((M.make g.rules now (M.nth g.moves k)).1).again), .slice A190 (((((M.make g.rules now (M.nth g.moves k)).1).next).pits).length) c190, .slice A191 (((((M.make g.rules now (M.nth g.moves k)).1).next).stores).length) c191, .int .i64 ((((M.make g.rules now (M.nth g.moves k)).1).next).player)]) el_83 rfl rfl rfl rfl (src_row (i := 0) und_83 rfl rfl) (by omega) (by omega) (by first | omega | (simp only [List.length_append, List.length_cons, List.length_nil] <;> omega)) (rfl)) (.inr rfl) ?_
      rintro v353 _ _ ⟨⟨g354, rfl⟩, rfl⟩ _
      refine JH.fact (row_form' (i := 7) rfl) (fun hf355 => ?_)
      obtain ⟨A355, c355, rfl, bl355, bh355⟩ := hf355
      refine znh ?_
      refine JH.p 9 rfl (p_assign rfl) ?_
      refine JH.p 10 rfl (p_assign rfl) ?_
      refine yd ?_
      exact zm ⟨_, _, _, _, _, _, _, _, _, _, _, _, _, rfl, rfl, zt, zt, zt, zt⟩ (Up.refl _ _)
     refine ybs rfl fun b356 => ?_
     refine y1 4 ?_
     refine JHo.e rfl (e_append (i := 8) (n' := (out ++ [(((M.make g.rules now (M.nth g.moves k)).1).next)]).length) (vs' := vs184_6 ++ [.slice A345_0 (((((M.make g.rules now (M.nth g.moves k)).1).next).pits).length) c345_0, .slice A345_1 (((((M.make g.rules now (M.nth g.moves k)).1).next).stores).length) c345_1, .int .i64 ((((M.make g.rules now (M.nth g.moves k)).1).next).player)]) el_75 rfl rfl rfl rfl (src_row (i := 1) und_75 rfl rfl) (by omega) (by omega) (by first | omega | (simp only [List.length_append, List.length_cons, List.length_nil] <;> omega)) (rfl)) (.inr rfl) ?_
     rintro v358 _ _ ⟨⟨g359, rfl⟩, rfl⟩ _
     refine JH.fact (row_form' (i := 8) rfl) (fun hf360 => ?_)
     obtain ⟨A360, c360, rfl, bl360, bh360⟩ := hf360
     refine znh ?_
     refine y1 8 ?_
     refine JHo.e rfl (e_append (i := 7) (n' := (made ++ [((M.make g.rules now (M.nth g.moves k)).1)]).length) (vs' := vs184_7 ++ [.int .i64 (((M.make g.rules now (M.nth g.moves k)).1).move), .int .i64 (((M.make g.rules now (M.nth g.moves k)).1).gain), .bool (((M.make g.rules now (M.nth g.moves k)).1).again), .slice A190 (((((M.make g.rules now (M.nth g.moves k)).1).next).pits).length) c190, .slice A191 (((((M.make g.rules now (M.nth g.moves k)).1).next).stores).length) c191, .int .i64 ((((M.make g.rules now (M.nth g.moves k)).1).next).player)]) el_83 rfl rfl rfl rfl (src_row (i := 0) und_83 rfl rfl) (by omega) (by omega) (by first | omega | (simp only [List.length_append, List.length_cons, List.length_nil] <;> omega)) (rfl)) (.inr rfl) ?_
     rintro v361 _ _ ⟨⟨g362, rfl⟩, rfl⟩ _
     refine JH.fact (row_form' (i := 7) rfl) (fun hf363 => ?_)
     obtain ⟨A363, c363, rfl, bl363, bh363⟩ := hf363
     refine znh ?_
     refine JH.p 9 rfl (p_assign rfl) ?_
     refine JH.p 10 rfl (p_assign rfl) ?_
     refine yd ?_
     exact zm ⟨_, _, _, _, _, _, _, _, _, _, _, _, _, rfl, rfl, zt, zt, zt, zt⟩ (Up.refl _ _)
    refine ybs rfl fun b364 => ?_
    refine y1 3 ?_
    refine ybs rfl fun b366 => ?_
    refine y1 4 ?_
    refine JHo.e rfl (e_append (i := 8) (n' := (out ++ [(((M.make g.rules now (M.nth g.moves k)).1).next)]).length) (vs' := vs184_6 ++ [.slice A345_0 (((((M.make g.rules now (M.nth g.moves k)).1).next).pits).length) c345_0, .slice A345_1 (((((M.make g.rules now (M.nth g.moves k)).1).next).stores).length) c345_1, .int .i64 ((((M.make g.rules now (M.nth g.moves k)).1).next).player)]) el_75 rfl rfl rfl rfl (src_row (i := 0) und_75 rfl rfl) (by omega) (by omega) (by first | omega | (simp only [List.length_append, List.length_cons, List.length_nil] <;> omega)) (rfl)) (.inr rfl) ?_
    rintro v368 _ _ ⟨⟨g369, rfl⟩, rfl⟩ _
    refine JH.fact (row_form' (i := 8) rfl) (fun hf370 => ?_)
    obtain ⟨A370, c370, rfl, bl370, bh370⟩ := hf370
    refine znh ?_
    refine y1 8 ?_
    refine JHo.e rfl (e_append (i := 7) (n' := (made ++ [((M.make g.rules now (M.nth g.moves k)).1)]).length) (vs' := vs184_7 ++ [.int .i64 (((M.make g.rules now (M.nth g.moves k)).1).move), .int .i64 (((M.make g.rules now (M.nth g.moves k)).1).gain), .bool (((M.make g.rules now (M.nth g.moves k)).1).again), .slice A190 (((((M.make g.rules now (M.nth g.moves k)).1).next).pits).length) c190, .slice A191 (((((M.make g.rules now (M.nth g.moves k)).1).next).stores).length) c191, .int .i64 ((((M.make g.rules now (M.nth g.moves k)).1).next).player)]) el_83 rfl rfl rfl rfl (src_row (i := 1) und_83 rfl rfl) (by omega) (by omega) (by first | omega | (simp only [List.length_append, List.length_cons, List.length_nil] <;> omega)) (rfl)) (.inr rfl) ?_
    rintro v371 _ _ ⟨⟨g372, rfl⟩, rfl⟩ _
    refine JH.fact (row_form' (i := 7) rfl) (fun hf373 => ?_)
    obtain ⟨A373, c373, rfl, bl373, bh373⟩ := hf373
    refine znh ?_
    refine JH.p 9 rfl (p_assign rfl) ?_
    refine JH.p 10 rfl (p_assign rfl) ?_
    refine yd ?_
    refine zh [1, 0, 0, 0, 0, 0, 0, 0, 0, 0] ?_
    exact zm ⟨_, _, _, _, _, _, _, _, _, _, _, _, _, rfl, rfl, zt, zt, zt, zt⟩ (Up.refl _ _)
   refine ybs rfl fun b374 => ?_
   refine y1 2 ?_
   refine ycs rfl rfl (fun w hw => c_impl_Position_copied (((M.make g.rules now (M.nth g.moves k)).1).next) (ok_ hw)) ?_
   intro A376_0 c376_0 bl376_0 bh376_0 A376_1 c376_1 bl376_1 bh376_1 f376
   refine y1 3 ?_
   refine ybs rfl fun b377 => ?_
   refine y1 4 ?_
   refine JHo.e rfl (e_append (i := 8) (n' := (out ++ [(((M.make g.rules now (M.nth g.moves k)).1).next)]).length) (vs' := vs184_6 ++ [.slice A376_0 (((((M.make g.rules now (M.nth g.moves k)).1).next).pits).length) c376_0, .slice A376_1 (((((M.make g.rules now (M.nth g.moves k)).1).next).stores).length) c376_1, .int .i64 ((((M.make g.rules now (M.nth g.moves k)).1).next).player)]) el_75 rfl rfl rfl rfl (src_row (i := 0) und_75 rfl rfl) (by omega) (by omega) (by first | omega | (simp only [List.length_append, List.length_cons, List.length_nil] <;> omega)) (rfl)) (.inr rfl) ?_
   rintro v379 _ _ ⟨⟨g380, rfl⟩, rfl⟩ _
   refine JH.fact (row_form' (i := 8) rfl) (fun hf381 => ?_)
   obtain ⟨A381, c381, rfl, bl381, bh381⟩ := hf381
   refine znh ?_
   refine y1 8 ?_
   refine JHo.e rfl (e_append (i := 7) (n' := (made ++ [((M.make g.rules now (M.nth g.moves k)).1)]).length) (vs' := vs184_7 ++ [.int .i64 (((M.make g.rules now (M.nth g.moves k)).1).move), .int .i64 (((M.make g.rules now (M.nth g.moves k)).1).gain), .bool (((M.make g.rules now (M.nth g.moves k)).1).again), .slice A190 (((((M.make g.rules now (M.nth g.moves k)).1).next).pits).length) c190, .slice A191 (((((M.make g.rules now (M.nth g.moves k)).1).next).stores).length) c191, .int .i64 ((((M.make g.rules now (M.nth g.moves k)).1).next).player)]) el_83 rfl rfl rfl rfl (src_row (i := 2) und_83 rfl rfl) (by omega) (by omega) (by first | omega | (simp only [List.length_append, List.length_cons, List.length_nil] <;> omega)) (rfl)) (.inr rfl) ?_
   rintro v382 _ _ ⟨⟨g383, rfl⟩, rfl⟩ _
   refine JH.fact (row_form' (i := 7) rfl) (fun hf384 => ?_)
   obtain ⟨A384, c384, rfl, bl384, bh384⟩ := hf384
   refine znh ?_
   refine JH.p 9 rfl (p_assign rfl) ?_
   refine JH.p 10 rfl (p_assign rfl) ?_
   refine yd ?_
   refine zh [2, 0, 0, 0, 0, 0, 0, 0, 0, 0] ?_
   exact zm ⟨_, _, _, _, _, _, _, _, _, _, _, _, _, rfl, rfl, zt, zt, zt, zt⟩ (Up.refl _ _)
  rintro _ _ u289 ⟨A199, c199, A204, c204, b200, b195, A194_0, c194_0, A194_1, c194_1, f194, g203, g198, rfl, rfl, f289_0, f289_1, f289_2, f289_3⟩ x289
  refine zn ?_
  refine Js.joinL (i := 5) (j := 2) (Vs := lPosition (out ++ [(((M.make g.rules now (M.nth g.moves k)).1).next)])) rfl rfl (lPosition_snoc _ _) (fun f386 => ?_)
  refine zn ?_
  refine Js.vals (Ts := cResultL ((M.make g.rules now (M.nth g.moves k)).1)) (vs := [.int .i64 (((M.make g.rules now (M.nth g.moves k)).1).move), .int .i64 (((M.make g.rules now (M.nth g.moves k)).1).gain), .bool (((M.make g.rules now (M.nth g.moves k)).1).again), .slice A190 (((((M.make g.rules now (M.nth g.moves k)).1).next).pits).length) c190, .slice A191 (((((M.make g.rules now (M.nth g.moves k)).1).next).stores).length) c191, .int .i64 ((((M.make g.rules now (M.nth g.moves k)).1).next).player)]) (fun w => ⟨[], [], rfl, ⟨rfl, rfl⟩, ⟨[], [], rfl, ⟨rfl, rfl⟩, ⟨[], [], rfl, ⟨rfl, rfl⟩, ⟨[], [], rfl, ⟨rfl, rfl⟩, ⟨[], [], rfl, ⟨rfl, rfl⟩, ⟨[], [], rfl, ⟨rfl, rfl⟩, rfl⟩⟩⟩⟩⟩⟩) ?_
  refine Js.joinL (i := 5) (j := 0) (Vs := lResultL (made ++ [((M.make g.rules now (M.nth g.moves k)).1)])) rfl rfl (lResultL_snoc _ _) (fun f388 => ?_)
  refine zn ?_
  refine Js.blockEnd <| Js.region <| Qp rfl rfl <| Qm rfl <| JL.nil ?_
  refine zd [0, 0, 3, 3, 3, 3] rfl fun u389 x389 => ?_
  exact zag ⟨k + 1, (((M.make g.rules now (M.nth g.moves k)).1).next), out ++ [(((M.make g.rules now (M.nth g.moves k)).1).next)], made ++ [((M.make g.rules now (M.nth g.moves k)).1)], _, _, _, _, _, _, _, _, _, _, _, _, _, _, rfl, rfl, by exact hR2, by rw [hO]; exact (M.hist_snoc _ _ _).symm, by exact hl2.1, by exact hl2.2, zu, zu, zu, zu, (Ty.mono _ h190 (x289.vis.trans x389.vis)), zu, zu, (Ty.mono _ h191 (x289.vis.trans x389.vis)), zu, zu, rfl⟩ (((x184.trans x189).trans x289).trans x389)
 obtain ⟨hP1, hP2, hP3⟩ := hR.played (by omega)
 rw [← hO] at hP2
 refine zx ?_
 have hq0 : out = M.playedP g := by first | exact hP1.symm | exact congrArg Value.bool hP1.symm | exact hP2.symm | exact hP3.symm
 have hq1 : made = M.playedR g := by first | exact hP1.symm | exact congrArg Value.bool hP1.symm | exact hP2.symm | exact hP3.symm
 have hq2 : true = M.playedOk g := by first | exact hP1.symm | exact congrArg Value.bool hP1.symm | exact hP2.symm | exact hP3.symm
 refine zS <| Qm rfl <| Qm rfl <| Qa rfl <| Qa rfl <| Qa rfl <| JL.nil ?_
 exact zro (x95.trans x184)

set_option maxHeartbeats 1000000 in
theorem c_impl_ValidGame (g : M.Gam) {v_g : Value} {w : World} (h_g : (Ty.agg (cGame g)).ok w v_g) (r0 : g.start.pits.length ≤ 4194304 := by exact om_) (r1 : g.start.stores.length ≤ 4194304 := by exact om_) (r2 : g.moves.length ≤ 4194304 := by exact om_) (r3 : g.now.pits.length ≤ 4194304 := by exact om_) (r4 : g.now.stores.length ≤ 4194304 := by exact om_) : RetV Tryd.prog 50 [v_g] w (.bool (M.okG g)) := by
 revert v_g; apply opn
 intro A1 c1 h1 bl1 bh1 A2 c2 h2 bl2 bh2 A3 c3 h3 bl3 bh3 A4 c4 h4 bl4 bh4 A5 c5 h5 bl5 bh5
 refine enter @Tryd.func50 @Tryd.ntmps50 rfl rfl ?_
 refine zent ?_
 refine zS <| zb rfl fun b6 => Qa rfl <| zJ <| zS <| Qf fh rfl <| Q9 0 rfl rfl ?_
 refine Qf fh rfl <| Q9 0 rfl rfl ?_
 refine zv rfl (fun w hw => c_impl_ValidPosition g.rules g.start (ok_ hw) (ok_ hw)) <| Qt rfl <| Qm rfl <| zg (Gd.f1 rfl rfl rfl) (fun hc => p_fieldAddr fld_36_2.h rfl) <| zgq (Gd.f1 rfl rfl rfl) (fun hc => q_load1 ty_24.h (gh hc rfl) (Mem.box (i := 0) rfl rfl)) <| zg (Gd.f1 rfl rfl rfl) (fun hc => p_len el_24 (gh hc rfl)) <| zg (Gd.f1 rfl rfl rfl) (fun hc => p_gtr (gh hc rfl) rfl) <| Qq (p_pickOr rfl rfl rfl) <| Qm rfl <| zg (Gd.f1 rfl rfl rfl) (fun hc => p_fieldAddr fld_36_4.h rfl) <| zgq (Gd.f1 rfl rfl rfl) (fun hc => q_load1 ty_2.h (gh hc rfl) (Mem.box (i := 0) rfl rfl)) <| zgv (Gd.f1 rfl rfl rfl) (fun hc => (opds_3 (gh hc rfl) rfl rfl)) (fun hc => (fun w hw => c_impl_between g.resigned (-1) 1)) ?_
 refine zg (Gd.f1 rfl rfl rfl) (fun hc => p_not (gh hc rfl)) <| Qq (p_pickOr rfl rfl rfl) <| JL.nil ?_
 refine zi (fun h7 h7' => ?_) fun h7 h7' => ?_
 ·
  refine zS <| Qa rfl <| JL.nil ?_
  refine zR (Up.refl _ _) ?_
  exact congrArg (fun b => Ending.returned (.bool b)) (M.okG_no (by simpa [or_assoc] using h7)).symm
 have ho : M.okP g.rules g.start = true ∧ (g.moves.length : Int) ≤ 120 ∧ M.betw g.resigned (-1) 1 = true := by simpa [and_assoc] using h7
 refine Js.skip <| zS <| Q9 0 rfl rfl ?_
 refine zp rfl (fun w hw => c_impl_Game_played g (ok_ hw)) ?_
 intro u8 x8 A9 c9 h9 bl9 bh9 A10 c10 h10 bl10 bh10
 refine Qm rfl <| Qx rfl rfl <| Qx rfl rfl <| Qx rfl rfl <| Qa rfl <| Qa rfl <| Qa rfl <| zJ ?_
 rcases Bool.eq_false_or_eq_true (M.playedOk g) with h11 | h11
 ·
  obtain ⟨hl1, hl2⟩ := M.playedP_len h11
  have hl3 := M.okP_len (M.lastPos_ok _ _ ho.1 (M.runs_ok g.moves _ ho.1))
  refine zdr [] ?_
  refine JH.p 0 rfl (p_move rfl) ?_
  refine JH.p 1 rfl (p_move rfl) ?_
  refine JH.pg 2 rfl (Gd.t1 rfl rfl rfl) (fun hc => p_move rfl) ?_
  refine JH.pg 3 rfl (Gd.t1 rfl rfl rfl) (fun hc => p_move rfl) ?_
  refine JH.pg 4 rfl (Gd.t1 rfl rfl rfl) (fun hc => p_len el_75 (gvt rfl hc)) ?_
  refine JH.pg 5 rfl (Gd.t1 rfl rfl rfl) (fun hc => p_sub (gvt rfl hc) rfl (IntWalk.i64_in _ (by omega))) ?_
  obtain ⟨y12, hy12⟩ : ∃ x, (M.playedP g)[((((M.playedP g).length) : Int) - 1).toNat]? = some x := ⟨_, List.getElem?_eq_getElem (by omega)⟩
  obtain ⟨b12, o12, A12_0, c12_0, A12_1, c12_1, he12, hr12, h12_0, h12_1, bl12_0, bh12_0, bl12_1, bh12_1⟩ := elem_Position h9 hy12
  refine JH.pg 6 rfl (Gd.t1 rfl rfl rfl) (fun hc => p_indexAddr el_75 (gvt rfl hc) (gvt rfl hc) (by omega) (by omega) he12) ?_
  refine JH.wg 7 rfl (Gd.t1 rfl rfl rfl) (fun hc os' u' hv => LS 0 (hr12.vis hv) (gvt rfl hc)) ?_
  refine JH.pg 8 rfl (Gd.t1 rfl rfl rfl) (fun hc => p_fieldAddr fld_36_3.h rfl) ?_
  refine JH.qg 9 rfl (Gd.t1 rfl rfl rfl) (fun hc => L9 0 (gvt rfl hc) rfl) ?_
  refine y1 10 ?_
  refine JHo.eT rfl (Gd.t1 rfl rfl rfl) (show (M.playedOk g) = true by simp [h11]) (e_callV fn_89.h (opds_2 (gvt rfl (show (M.playedOk g) = true by simp [h11])) (gvt rfl (show (M.playedOk g) = true by simp [h11]))) (fun w hw => c_impl_SamePosition y12 g.now (ok_ hw) (ok_ hw) (r0 := (M.last_len hl2 hy12 (by omega) hl3).1) (r1 := (M.last_len hl2 hy12 (by omega) hl3).2))) (.inl rfl) ?_
  rintro _ _ _ ⟨rfl, rfl, rfl⟩ _
  refine JH.p 11 rfl (p_pickAnd2 rfl rfl rfl) ?_
  refine JH.p 12 rfl (p_assign rfl) ?_
  refine yd ?_
  refine zR x8 ?_
  first | (simp only [outV]; rw [M.okG_yes ho.1 ho.2.1 ho.2.2 (by assumption) (by assumption) (by omega)]; simp [*]; done) | (simp only [outV]; rw [M.okG_broken (by assumption)]; simp [*]; done)
 have hl3 := M.okP_len (M.lastPos_ok _ _ ho.1 (M.runs_ok g.moves _ ho.1))
 refine zdr [] ?_
 refine JH.p 0 rfl (p_move rfl) ?_
 refine JH.p 1 rfl (p_move rfl) ?_
 refine JH.pg (v := undef) 2 rfl (Gd.t1 rfl rfl rfl) (fun hc => absurd hc (by simp [h11])) ?_
 refine JH.pg (v := undef) 3 rfl (Gd.t1 rfl rfl rfl) (fun hc => absurd hc (by simp [h11])) ?_
 refine JH.pg (v := undef) 4 rfl (Gd.t1 rfl rfl rfl) (fun hc => absurd hc (by simp [h11])) ?_
 refine JH.pg (v := undef) 5 rfl (Gd.t1 rfl rfl rfl) (fun hc => absurd hc (by simp [h11])) ?_
 refine JH.pg (v := undef) 6 rfl (Gd.t1 rfl rfl rfl) (fun hc => absurd hc (by simp [h11])) ?_
 refine JH.pg (v := undef) 7 rfl (Gd.t1 rfl rfl rfl) (fun hc => absurd hc (by simp [h11])) ?_
 refine JH.pg (v := undef) 8 rfl (Gd.t1 rfl rfl rfl) (fun hc => absurd hc (by simp [h11])) ?_
 refine JH.pg (v := undef) 9 rfl (Gd.t1 rfl rfl rfl) (fun hc => absurd hc (by simp [h11])) ?_
 refine y1 10 ?_
 refine JHo.qg (v := .bool false) rfl (Gd.t1 rfl rfl rfl) (fun hc => absurd hc (by simp [h11])) ?_
 refine JH.p 11 rfl (p_pickAnd rfl rfl rfl) ?_
 refine JH.p 12 rfl (p_assign rfl) ?_
 refine yd ?_
 refine zR x8 ?_
 first | (simp only [outV]; rw [M.okG_yes ho.1 ho.2.1 ho.2.2 (by assumption) (by assumption) (by omega)]; simp [*]; done) | (simp only [outV]; rw [M.okG_broken (by assumption)]; simp [*]; done)

end Go.Proofs.YtdhmdaoijnnfjaaDoor

namespace Go.Proofs.YtdhmdaoijnnfjaaDoor
open Go.RowKit

end Go.Proofs.YtdhmdaoijnnfjaaDoor

namespace Go.Proofs.YtdhmdaoijnnfjaaDoor
open Go.RowKit

end Go.Proofs.YtdhmdaoijnnfjaaDoor

namespace Go.Proofs.YtdhmdaoijnnfjaaDoor
open Go.RowKit

set_option maxHeartbeats 1000000 in
theorem c_impl_Decimal (n : Int) {w : World} (h_tab : tabT.ok w undef) (r0 : -9223372036854775808 ≤ n := by exact om_) (r1 : n ≤ 9223372036854775807 := by exact om_) : RetV Tryd.prog 52 [.int .i64 n] w (.string (sB (M.dec n))) := by
 refine enter @Tryd.func52 @Tryd.ntmps52 rfl rfl ?_
 refine zent ?_
 refine zS <| Qa rfl <| zN <| Qm rfl <| zv rfl (fun w hw => c_strconv_FormatInt n 10 (ok_ hw)) <| Qa rfl <| JL.nil ?_
 exact zr (Up.refl _ _)

end Go.Proofs.YtdhmdaoijnnfjaaDoor

namespace Go.Proofs.YtdhmdaoijnnfjaaDoor
open Go.RowKit

set_option maxHeartbeats 4000000 in
theorem c_impl_NotesOn (g : M.Gam) {v_g : Value} {w : World} (h_g : (Ty.agg (cGame g)).ok w v_g) (h_tab : tabT.ok w undef) (r0 : g.start.pits.length ≤ 4194304 := by exact om_) (r1 : g.start.stores.length ≤ 4194304 := by exact om_) (r2 : g.moves.length ≤ 4194304 := by exact om_) (r3 : g.now.pits.length ≤ 4194304 := by exact om_) (r4 : g.now.stores.length ≤ 4194304 := by exact om_) : Ret Tryd.prog 10 [v_g] w (Ty.tup [Ty.strs 9 (M.gameNotesR g), Ty.int (M.okC g)]) := by
 revert v_g; apply opn
 intro A1 c1 h1 bl1 bh1 A2 c2 h2 bl2 bh2 A3 c3 h3 bl3 bh3 A4 c4 h4 bl4 bh4 A5 c5 h5 bl5 bh5
 refine enter @Tryd.func10 @Tryd.ntmps10 rfl rfl ?_
 refine zent ?_
 refine zS <| zb rfl fun b6 => Qa rfl <| Qa rfl <| zJ <| zS <| Q9 0 rfl rfl ?_
 refine zv rfl (fun w hw => c_impl_ValidGame g (ok_ hw)) <| Qt rfl <| JL.nil ?_
 refine zi (fun h7 h7' => ?_) fun h7 h7' => ?_
 ·
  have hno : M.okG g = false := by simpa using h7
  have hC := M.okC_no hno
  have hE := M.gameNotesR_no hno
  have hq0 : [] = M.gameNotesR g := by first | (rw [hE]; done) | (rw [hC]; done)
  have hq1 : 1 = M.okC g := by first | (rw [hE]; done) | (rw [hC]; done)
  refine zS <| Qa rfl <| Qa rfl <| JL.nil ?_
  exact zro (Up.refl _ _) (g := by exact (gv_tup (gvc (gv_strsN (by first | rfl | assumption)) (gvc gv_ gvn))))
 have hok : M.okG g = true := by simpa using h7
 have hC := M.okC_yes hok
 obtain ⟨k1, k2, k3, k4, k5, k6, k7, k8, k9⟩ := M.okG_parts hok
 (have k12 : (M.playedP g).length = g.moves.length + 1 := by rw [k6, M.hist_length, k8])
 have k13 : (M.playedR g).length = g.moves.length := by rw [k7, k8]
 refine Js.skip <| zS <| Q9 0 rfl rfl ?_
 refine zp rfl (fun w hw => c_impl_Game_played g (ok_ hw)) ?_
 intro u8 x8 A9 c9 h9 bl9 bh9 A10 c10 h10 bl10 bh10
 refine Qm rfl <| Qx rfl rfl <| Qx rfl rfl <| Qx rfl rfl <| Qa rfl <| Qa rfl <| Qa rfl <| zN <| zbs fun b11 => ?_
 refine Qa rfl <| zJ <| zS <| Qm rfl <| Qz rfl <| Qm rfl <| JL.nil <| Js.block ?_
 refine zl [4, 21, 22] (fun F U l os u m => ∃ (k : Nat) (out : List (List UInt8)) (A13_7 : Option Addr) (c13_7 : Nat) (g13_7 : List Nat), l = F [(7, .slice A13_7 out.length c13_7), (23, .int .i64 (k : Int))] ∧ os = U [some (rowO 9 1 (.slice A13_7 out.length c13_7) out.length (txs_ out) g13_7)] ∧ (out = M.notes (((M.hist g.start (M.runs g.rules g.start g.moves)).zip (M.runs g.rules g.start g.moves)).take k)) ∧ (k ≤ g.moves.length) ∧ (out.length = k) ∧ (out.length ≤ c13_7) ∧ (c13_7 ≤ 9223372036854775807) ∧ m = g.moves.length - k) ⟨0, [], _, _, _, rfl, rfl, by rfl, zt, by rfl, zu, zu, rfl⟩ ?_
 rintro _ _ u13 _ ⟨k, out, A13_7, c13_7, g13_7, rfl, rfl, hJ, hk, hl, f13_3, f13_4, rfl⟩ x13
 refine zn ?_
 refine zS <| Ql rfl rfl <| zJ ?_
 refine zi (fun h14 h14' => ?_) fun h14 h14' => ?_
 ·
  obtain ⟨y15, hy15⟩ : ∃ x, (M.playedR g)[k]? = some x := ⟨_, List.getElem?_eq_getElem (by omega)⟩
  obtain ⟨b15, o15, V15_3, V15_4, V15_5, he15, hr15, hv15_3, hv15_4, hv15_5⟩ := elem_ResultL (Ty.mono _ h10 x13.vis) hy15
  have hX := hy15
  rw [k7] at hX
  obtain ⟨ye17, hye17⟩ : ∃ x, (M.playedP g)[k]? = some x := ⟨_, List.getElem?_eq_getElem (by omega)⟩
  have hP := hye17
  rw [k6] at hP
  obtain ⟨n1, n2, n3, n4, n5, n6, n7⟩ := M.note_at hP hX
  refine Js.skip <| Js.seq <| Js.block <| zS <| Qm rfl <| Qq (p_indexAddr el_83 rfl rfl (by omega) (by omega) he15) <| QS 0 hr15 rfl ?_
  refine za zeh fun b16 => Qa rfl <| zw 0 rfl rfl rfl ?_
  refine zJ ?_
  refine zdr [] ?_
  refine JH.p 0 rfl (p_move rfl) ?_
  refine JH.p 1 rfl (p_move rfl) ?_
  have hy18 := hye17
  obtain ⟨b18, o18, A18_0, c18_0, A18_1, c18_1, he18, hr18, h18_0, h18_1, bl18_0, bh18_0, bl18_1, bh18_1⟩ := elem_Position (Ty.mono _ h9 x13.vis) hy18
  refine JH.p 2 rfl (p_indexAddr el_75 rfl rfl (by omega) (by omega) he18) ?_
  refine JH.p 3 rfl (p_fieldAddr fld_34_2.h rfl) ?_
  refine JH.w 4 rfl (fun os' u' hv => q_load1 ty_2.h rfl (Mem.pub ((hr18.vis hv) 2 _ rfl))) ?_
  refine JH.p 8 rfl (p_fieldAddr fld_87_0.h rfl) ?_
  refine JH.q 9 rfl (q_load1 ty_2.h rfl (Mem.box (i := 0) rfl rfl)) ?_
  refine y1 5 ?_
  refine yv rfl rfl (fun w hw => c_impl_Decimal ye17.player (ok_ hw)) ?_
  refine JH.p 6 rfl (q_cat rfl rfl) ?_
  refine JH.p 7 rfl (q_cat rfl rfl) ?_
  refine y1 10 ?_
  refine yv rfl rfl (fun w hw => c_impl_Decimal y15.move (ok_ hw)) ?_
  refine JH.p 11 rfl (q_cat rfl rfl) ?_
  refine JH.p 12 rfl (p_assign rfl) ?_
  refine yd ?_
  refine Js.seq <| zS <| Qf fh rfl <| Q0 0 rfl rfl rfl <| Qd rfl rfl <| JL.nil ?_
  refine zi (fun h19 h19' => ?_) fun h19 h19' => ?_
  ·
   have e202 : 0 < y15.gain := by have := h19'; omega
   refine Js.region <| Qm rfl <| Qf fh rfl <| Q0 0 rfl rfl rfl <| zv rfl (fun w hw => c_impl_Decimal y15.gain (ok_ hw)) <| Qq (q_cat rfl rfl) <| Qq (q_cat rfl rfl) <| Qa rfl <| zJ <| zS <| Qf fh rfl <| Q0 0 rfl rfl rfl <| JL.nil ?_
   refine zi (fun h20 h20' => ?_) fun h20 h20' => ?_
   ·
    have e205 := h20
    refine Js.region <| Qm rfl <| Qq (q_cat rfl rfl) <| Qa rfl <| zG <| Qm rfl <| Qm rfl <| zbs fun b21 => ?_
    refine JL.e (e_append (i := 2) (n' := (out ++ ([((((([112, 108, 97, 121, 101, 114, 32] : List UInt8) ++ (M.dec ye17.player)) ++ ([32, 112, 108, 97, 121, 115, 32] : List UInt8)) ++ (M.dec y15.move)) ++ (([44, 32, 103, 97, 105, 110, 115, 32] : List UInt8) ++ (M.dec y15.gain))) ++ ([44, 32, 109, 111, 118, 101, 115, 32, 97, 103, 97, 105, 110] : List UInt8)])).length) (vs' := txs_ (out ++ ([((((([112, 108, 97, 121, 101, 114, 32] : List UInt8) ++ (M.dec ye17.player)) ++ ([32, 112, 108, 97, 121, 115, 32] : List UInt8)) ++ (M.dec y15.move)) ++ (([44, 32, 103, 97, 105, 110, 115, 32] : List UInt8) ++ (M.dec y15.gain))) ++ ([44, 32, 109, 111, 118, 101, 115, 32, 97, 103, 97, 105, 110] : List UInt8)]))) el_30 rfl rfl rfl rfl (src_row (i := 0) und_30 rfl rfl) (by omega) (by omega) (by first | omega | (simp only [List.length_append, List.length_cons, List.length_nil] <;> omega)) (by first | rfl | (simp [txs_]; done))) ?_
    rintro v23 _ _ ⟨⟨g24, rfl⟩, rfl⟩ _
    refine JL.fact (row_form' (i := 2) rfl) (fun hf25 => ?_)
    obtain ⟨A25, c25, rfl, bl25, bh25⟩ := hf25
    refine znl ?_
    refine Qa rfl <| JL.nil <| Js.blockEnd <| Js.region <| Qp rfl rfl <| Qm rfl <| JL.nil ?_
    refine zd [2, 2] rfl fun u26 x26 => ?_
    exact zag ⟨k + 1, out ++ ([((((([112, 108, 97, 121, 101, 114, 32] : List UInt8) ++ (M.dec ye17.player)) ++ ([32, 112, 108, 97, 121, 115, 32] : List UInt8)) ++ (M.dec y15.move)) ++ (([44, 32, 103, 97, 105, 110, 115, 32] : List UInt8) ++ (M.dec y15.gain))) ++ ([44, 32, 109, 111, 118, 101, 115, 32, 97, 103, 97, 105, 110] : List UInt8)]), _, _, _, rfl, rfl, by rw [← M.notes_step hJ hP hX]; first | (rw [M.noteT, if_pos e205, if_pos e202]; try rfl) | (rw [M.noteT, if_pos e205, if_neg e202]; try rfl) | (rw [M.noteT, if_neg e205, if_pos e202]; try rfl) | (rw [M.noteT, if_neg e205, if_neg e202]; try rfl), zt, by simp [hl], zu, zu, rfl⟩ (x13.trans x26)
   have e205 := Bool.eq_false_iff.1 h20
   refine Js.skip <| Js.region <| Qm rfl <| Qm rfl <| zbs fun b27 => ?_
   refine JL.e (e_append (i := 2) (n' := (out ++ ([(((([112, 108, 97, 121, 101, 114, 32] : List UInt8) ++ (M.dec ye17.player)) ++ ([32, 112, 108, 97, 121, 115, 32] : List UInt8)) ++ (M.dec y15.move)) ++ (([44, 32, 103, 97, 105, 110, 115, 32] : List UInt8) ++ (M.dec y15.gain))])).length) (vs' := txs_ (out ++ ([(((([112, 108, 97, 121, 101, 114, 32] : List UInt8) ++ (M.dec ye17.player)) ++ ([32, 112, 108, 97, 121, 115, 32] : List UInt8)) ++ (M.dec y15.move)) ++ (([44, 32, 103, 97, 105, 110, 115, 32] : List UInt8) ++ (M.dec y15.gain))]))) el_30 rfl rfl rfl rfl (src_row (i := 0) und_30 rfl rfl) (by omega) (by omega) (by first | omega | (simp only [List.length_append, List.length_cons, List.length_nil] <;> omega)) (by first | rfl | (simp [txs_]; done))) ?_
   rintro v29 _ _ ⟨⟨g30, rfl⟩, rfl⟩ _
   refine JL.fact (row_form' (i := 2) rfl) (fun hf31 => ?_)
   obtain ⟨A31, c31, rfl, bl31, bh31⟩ := hf31
   refine znl ?_
   refine Qa rfl <| JL.nil <| Js.blockEnd <| Js.region <| Qp rfl rfl <| Qm rfl <| JL.nil ?_
   refine zd [2, 2] rfl fun u32 x32 => ?_
   exact zag ⟨k + 1, out ++ ([(((([112, 108, 97, 121, 101, 114, 32] : List UInt8) ++ (M.dec ye17.player)) ++ ([32, 112, 108, 97, 121, 115, 32] : List UInt8)) ++ (M.dec y15.move)) ++ (([44, 32, 103, 97, 105, 110, 115, 32] : List UInt8) ++ (M.dec y15.gain))]), _, _, _, rfl, rfl, by rw [← M.notes_step hJ hP hX]; first | (rw [M.noteT, if_pos e205, if_pos e202]; try rfl) | (rw [M.noteT, if_pos e205, if_neg e202]; try rfl) | (rw [M.noteT, if_neg e205, if_pos e202]; try rfl) | (rw [M.noteT, if_neg e205, if_neg e202]; try rfl), zt, by simp [hl], zu, zu, rfl⟩ (x13.trans x32)
  have e202 : ¬ 0 < y15.gain := by have := h19'; omega
  refine Js.skip <| Js.seq <| zS <| Qf fh rfl <| Q0 0 rfl rfl rfl <| JL.nil ?_
  refine zi (fun h33 h33' => ?_) fun h33 h33' => ?_
  ·
   have e205 := h33
   refine Js.region <| Qm rfl <| Qq (q_cat rfl rfl) <| Qa rfl <| zG <| Qm rfl <| Qm rfl <| zbs fun b34 => ?_
   refine JL.e (e_append (i := 2) (n' := (out ++ ([(((([112, 108, 97, 121, 101, 114, 32] : List UInt8) ++ (M.dec ye17.player)) ++ ([32, 112, 108, 97, 121, 115, 32] : List UInt8)) ++ (M.dec y15.move)) ++ ([44, 32, 109, 111, 118, 101, 115, 32, 97, 103, 97, 105, 110] : List UInt8)])).length) (vs' := txs_ (out ++ ([(((([112, 108, 97, 121, 101, 114, 32] : List UInt8) ++ (M.dec ye17.player)) ++ ([32, 112, 108, 97, 121, 115, 32] : List UInt8)) ++ (M.dec y15.move)) ++ ([44, 32, 109, 111, 118, 101, 115, 32, 97, 103, 97, 105, 110] : List UInt8)]))) el_30 rfl rfl rfl rfl (src_row (i := 0) und_30 rfl rfl) (by omega) (by omega) (by first | omega | (simp only [List.length_append, List.length_cons, List.length_nil] <;> omega)) (by first | rfl | (simp [txs_]; done))) ?_
   rintro v36 _ _ ⟨⟨g37, rfl⟩, rfl⟩ _
   refine JL.fact (row_form' (i := 2) rfl) (fun hf38 => ?_)
   obtain ⟨A38, c38, rfl, bl38, bh38⟩ := hf38
   refine znl ?_
   refine Qa rfl <| JL.nil <| Js.blockEnd <| Js.region <| Qp rfl rfl <| Qm rfl <| JL.nil ?_
   refine zd [2, 2] rfl fun u39 x39 => ?_
   exact zag ⟨k + 1, out ++ ([(((([112, 108, 97, 121, 101, 114, 32] : List UInt8) ++ (M.dec ye17.player)) ++ ([32, 112, 108, 97, 121, 115, 32] : List UInt8)) ++ (M.dec y15.move)) ++ ([44, 32, 109, 111, 118, 101, 115, 32, 97, 103, 97, 105, 110] : List UInt8)]), _, _, _, rfl, rfl, by rw [← M.notes_step hJ hP hX]; first | (rw [M.noteT, if_pos e205, if_pos e202]; try rfl) | (rw [M.noteT, if_pos e205, if_neg e202]; try rfl) | (rw [M.noteT, if_neg e205, if_pos e202]; try rfl) | (rw [M.noteT, if_neg e205, if_neg e202]; try rfl), zt, by simp [hl], zu, zu, rfl⟩ (x13.trans x39)
  have e205 := Bool.eq_false_iff.1 h33
  refine Js.skip <| Js.region <| Qm rfl <| Qm rfl <| zbs fun b40 => ?_
  refine JL.e (e_append (i := 2) (n' := (out ++ ([((([112, 108, 97, 121, 101, 114, 32] : List UInt8) ++ (M.dec ye17.player)) ++ ([32, 112, 108, 97, 121, 115, 32] : List UInt8)) ++ (M.dec y15.move)])).length) (vs' := txs_ (out ++ ([((([112, 108, 97, 121, 101, 114, 32] : List UInt8) ++ (M.dec ye17.player)) ++ ([32, 112, 108, 97, 121, 115, 32] : List UInt8)) ++ (M.dec y15.move)]))) el_30 rfl rfl rfl rfl (src_row (i := 0) und_30 rfl rfl) (by omega) (by omega) (by first | omega | (simp only [List.length_append, List.length_cons, List.length_nil] <;> omega)) (by first | rfl | (simp [txs_]; done))) ?_
  rintro v42 _ _ ⟨⟨g43, rfl⟩, rfl⟩ _
  refine JL.fact (row_form' (i := 2) rfl) (fun hf44 => ?_)
  obtain ⟨A44, c44, rfl, bl44, bh44⟩ := hf44
  refine znl ?_
  refine Qa rfl <| JL.nil <| Js.blockEnd <| Js.region <| Qp rfl rfl <| Qm rfl <| JL.nil ?_
  refine zd [2, 2] rfl fun u45 x45 => ?_
  exact zag ⟨k + 1, out ++ ([((([112, 108, 97, 121, 101, 114, 32] : List UInt8) ++ (M.dec ye17.player)) ++ ([32, 112, 108, 97, 121, 115, 32] : List UInt8)) ++ (M.dec y15.move)]), _, _, _, rfl, rfl, by rw [← M.notes_step hJ hP hX]; first | (rw [M.noteT, if_pos e205, if_pos e202]; try rfl) | (rw [M.noteT, if_pos e205, if_neg e202]; try rfl) | (rw [M.noteT, if_neg e205, if_pos e202]; try rfl) | (rw [M.noteT, if_neg e205, if_neg e202]; try rfl), zt, by simp [hl], zu, zu, rfl⟩ (x13.trans x45)
 have hE := (M.notes_end hok hJ (by have := h14'; omega)).symm
 refine zx ?_
 have hq0 : out = M.gameNotesR g := by first | (rw [hE]; done) | (rw [hC]; done)
 have hq1 : 0 = M.okC g := by first | (rw [hE]; done) | (rw [hC]; done)
 refine zS <| Qm rfl <| Qa rfl <| Qa rfl <| JL.nil ?_
 exact zro (x8.trans x13) (g := by exact (gv_tup (gvc (gv_strsE (ys := out) po_ (by assumption) (by rfl)) (gvc gv_ gvn))))

end Go.Proofs.YtdhmdaoijnnfjaaDoor

namespace Go.Proofs.YtdhmdaoijnnfjaaDoor
open Go.RowKit

set_option maxHeartbeats 1000000 in
theorem c_spec_l00In (n low high : Int) {w : World}  : RetV Tryd.prog 82 [.int .i64 n, .int .i64 low, .int .i64 high] w (.bool (M.betw n low high)) := by
 refine enter @Tryd.func82 @Tryd.ntmps82 rfl rfl ?_
 refine zent ?_
 refine zS <| Qa rfl <| zN <| Qm rfl <| Qm rfl <| Qh rfl rfl <| Qm rfl <| zg (Gd.t1 rfl rfl rfl) (fun hc => p_move rfl) <| zg (Gd.t1 rfl rfl rfl) (fun hc => p_move rfl) <| zg (Gd.t1 rfl rfl rfl) (fun hc => p_leq (gh hc rfl) (gh hc rfl)) <| Qq (p_pickAnd rfl rfl rfl) <| Qa rfl <| JL.nil ?_
 refine zR (Up.refl _ _) ?_
 simp [outV, M.betw]

set_option maxHeartbeats 1000000 in
theorem c_spec_l02Ok (r : M.Rul) {v_r : Value} {w : World} (h_r : (Ty.ref (cRules r)).ok w v_r) : RetV Tryd.prog 78 [v_r] w (.bool (M.okR r)) := by
 revert v_r; apply opn
 intro b1 o1 hr1
 refine enter @Tryd.func78 @Tryd.ntmps78 rfl rfl ?_
 refine zent ?_
 refine zS <| Qa rfl <| zN <| Qm rfl <| Qc rfl <| Qf fh rfl <| QC (hr1 0 _ rfl) rfl <| zv rfl (fun w hw => c_spec_l00In r.pits 2 8) <| Qm rfl <| zg (Gd.t1 rfl rfl rfl) (fun hc => p_move rfl) <| zg (Gd.t1 rfl rfl rfl) (fun hc => p_nilCheck (gh hc rfl)) <| zg (Gd.t1 rfl rfl rfl) (fun hc => p_fieldAddr fld_33_1.h (gh hc rfl)) <| zgq (Gd.t1 rfl rfl rfl) (fun hc => q_load1 ty_2.h (gh hc rfl) (Mem.pub (hr1 1 _ rfl))) <| zgv (Gd.t1 rfl rfl rfl) (fun hc => (opds_3 (gh hc rfl) rfl rfl)) (fun hc => (fun w hw => c_spec_l00In r.seeds 1 6)) ?_
 refine Qq (p_pickAnd rfl rfl rfl) <| Qm rfl <| zg (Gd.t1 rfl rfl rfl) (fun hc => p_move rfl) <| zg (Gd.t1 rfl rfl rfl) (fun hc => p_nilCheck (gh hc rfl)) <| zg (Gd.t1 rfl rfl rfl) (fun hc => p_fieldAddr fld_33_7.h (gh hc rfl)) <| zgq (Gd.t1 rfl rfl rfl) (fun hc => q_load1 ty_2.h (gh hc rfl) (Mem.pub (hr1 7 _ rfl))) <| zgv (Gd.t1 rfl rfl rfl) (fun hc => (opds_3 (gh hc rfl) rfl rfl)) (fun hc => (fun w hw => c_spec_l00In r.capture 0 3)) ?_
 refine Qq (p_pickAnd rfl rfl rfl) <| Qm rfl <| zg (Gd.t1 rfl rfl rfl) (fun hc => p_move rfl) <| zg (Gd.t1 rfl rfl rfl) (fun hc => p_nilCheck (gh hc rfl)) <| zg (Gd.t1 rfl rfl rfl) (fun hc => p_fieldAddr fld_33_8.h (gh hc rfl)) <| zgq (Gd.t1 rfl rfl rfl) (fun hc => q_load1 ty_2.h (gh hc rfl) (Mem.pub (hr1 8 _ rfl))) <| zgv (Gd.t1 rfl rfl rfl) (fun hc => (opds_3 (gh hc rfl) rfl rfl)) (fun hc => (fun w hw => c_spec_l00In r.slam 0 2)) ?_
 refine Qq (p_pickAnd rfl rfl rfl) <| Qm rfl <| zg (Gd.t1 rfl rfl rfl) (fun hc => p_move rfl) <| zg (Gd.t1 rfl rfl rfl) (fun hc => p_nilCheck (gh hc rfl)) <| zg (Gd.t1 rfl rfl rfl) (fun hc => p_fieldAddr fld_33_2.h (gh hc rfl)) <| zgq (Gd.t1 rfl rfl rfl) (fun hc => q_load1 ty_4.h (gh hc rfl) (Mem.pub (hr1 2 _ rfl))) <| zg (Gd.t1 rfl rfl rfl) (fun hc => p_move (gh hc rfl)) <| zg (Gd.f2 rfl rfl rfl) (fun hc => p_move rfl) <| zg (Gd.f2 rfl rfl rfl) (fun hc => p_nilCheck (gh hc rfl)) <| zg (Gd.f2 rfl rfl rfl) (fun hc => p_fieldAddr fld_33_6.h (gh hc rfl)) <| zgq (Gd.f2 rfl rfl rfl) (fun hc => q_load1 ty_4.h (gh hc rfl) (Mem.pub (hr1 6 _ rfl))) <| zg (Gd.f2 rfl rfl rfl) (fun hc => p_not (gh hc rfl)) <| zg (Gd.t1 rfl rfl rfl) (fun hc => p_pickOr (gh hc rfl) rfl (gvl rfl hc)) <| Qq (p_pickAnd rfl rfl rfl) ?_
 refine Qa rfl <| JL.nil ?_
 refine zR (Up.refl _ _) ?_
 simp [outV, M.okR, Bool.and_assoc]

set_option maxHeartbeats 1000000 in
theorem c_spec_l04Sum (list : List Int) {v_list : Value} {w : World} (h_list : (Ty.ints 2 list).ok w v_list) (r0 : list.length ≤ 4194304 := by exact om_) : RetV Tryd.prog 124 [v_list] w (.int .i64 (M.sum4 list)) := by
 revert v_list; apply opn
 intro A1 c1 h1 bl1 bh1
 have h_list := h1
 refine enter @Tryd.func124 @Tryd.ntmps124 rfl rfl ?_
 refine zent ?_
 refine zS <| Qa rfl <| zN <| Qa rfl <| zJ <| zS <| Qa rfl <| JL.nil <| Js.block ?_
 refine zl [0] (fun F U l os u m => ∃ (k : Nat) (t : Int), l = F [(3, .int .i64 t), (4, .int .i64 (k : Int))] ∧ os = U [] ∧ (k ≤ list.length) ∧ (0 ≤ t) ∧ (t ≤ 96 * k) ∧ (M.sumFrom t (list.drop k) = M.sumFrom 0 list) ∧ m = list.length - k) ⟨0, 0, rfl, rfl, zt, zt, zt, zt, rfl⟩ ?_
 rintro _ _ u2 _ ⟨k, t, rfl, rfl, hk, t0, t9, hS, rfl⟩ x2
 refine zn ?_
 refine Js.seq <| zS <| Qm rfl <| Qm rfl <| Qz rfl <| Ql rfl rfl <| JL.nil ?_
 refine zi (fun h3 h3' => ?_) fun h3 h3' => ?_
 ·
  obtain ⟨b4, o4, he4, hc4⟩ := ints_elem (Ty.mono _ h1 x2.vis) (i := k) (by omega)
  refine Js.skip <| Js.seq <| Js.block <| Js.seq <| zS <| Qm rfl <| Qm rfl <| Qq (p_indexAddr el_24 rfl rfl (by omega) (by omega) he4) <| QC hc4 rfl <| zv rfl (fun w hw => c_spec_l00In (M.nth list k) 0 96) <| Qt rfl <| JL.nil ?_
  refine zi (fun h5 h5' => ?_) fun h5 h5' => ?_
  ·
   have e1 : M.sum4 list = -1 := M.sum4_no (by rw [M.sumFrom_step (by omega), if_neg (by simpa using h5)] at hS; exact M.sumFrom_none hS.symm)
   refine zS <| Qa rfl <| JL.nil ?_
   refine zR x2 ?_
   rw [e1]; rfl
  have hb : M.betw (M.nth list k) 0 96 = true := by simpa using h5
  obtain ⟨hb0, hb1⟩ := M.betw_iff.1 hb
  obtain ⟨b6, o6, he6, hc6⟩ := ints_elem (Ty.mono _ h1 x2.vis) (i := k) (by omega)
  refine Js.skip <| Js.region <| Qm rfl <| Qm rfl <| Qm rfl <| Qq (p_indexAddr el_24 rfl rfl (by omega) (by omega) he6) <| QC hc6 rfl <| Qp rfl rfl <| Qa rfl <| JL.nil <| Js.blockEnd <| Js.region <| Qm rfl <| Qp rfl rfl ?_
  refine Qa rfl <| JL.nil ?_
  exact zag ⟨k + 1, t + (M.nth list k), rfl, rfl, zt, zt, zt, by rw [M.sumFrom_step (by omega), if_pos hb] at hS; exact hS, rfl⟩ x2
 obtain ⟨e1, e2⟩ := M.sumFrom_some (by rw [← hS]; exact M.sumFrom_end (by omega))
 refine zx ?_
 refine Js.seq <| zS <| Qm rfl <| Qg rfl rfl <| JL.nil ?_
 refine zi (fun h7 h7' => ?_) fun h7 h7' => ?_
 ·
  have e1 : M.sum4 list = -1 := M.sum4_big (by omega)
  refine zS <| Qa rfl <| JL.nil ?_
  refine zR x2 ?_
  rw [e1]; rfl
 have e1 : M.sum4 list = t := by rw [M.sum4_ok e1 (by omega), e2]
 refine Js.skip <| zS <| Qm rfl <| Qa rfl <| JL.nil ?_
 refine zR x2 ?_
 rw [e1]; rfl

set_option maxHeartbeats 1000000 in
theorem c_spec_l04Ok (r : M.Rul) {v_r : Value} (p : M.Pos) {v_p : Value} {w : World} (h_r : (Ty.ref (cRules r)).ok w v_r) (h_p : (Ty.ref (cPosition p)).ok w v_p) (r0 : p.pits.length ≤ 4194304 := by exact om_) (r1 : p.stores.length ≤ 4194304 := by exact om_) : RetV Tryd.prog 85 [v_r, v_p] w (.bool (M.okP r p)) := by
 have b1 := M.sum4_bd p.pits
 have b2 := M.sum4_bd p.stores
 revert v_r; apply opn
 intro b1 o1 hr1
 revert v_p; apply opn
 intro b4 o4 A2 c2 h2 bl2 bh2 A3 c3 h3 bl3 bh3 hr4
 refine enter @Tryd.func85 @Tryd.ntmps85 rfl rfl ?_
 refine zent ?_
 refine zS <| Qa rfl <| zJ <| Js.seq ?_
 refine zdr [] ?_
 refine JH.p 0 rfl (p_move rfl) ?_
 refine y1 1 ?_
 refine yv rfl rfl (fun w hw => c_spec_l02Ok r (ok_ hw)) ?_
 refine JH.p 2 rfl (p_not rfl) ?_
 refine JH.p 3 rfl (p_move rfl) ?_
 refine JH.pg 4 rfl (Gd.f1 rfl rfl rfl) (fun hc => p_move rfl) ?_
 refine JH.pg 5 rfl (Gd.f1 rfl rfl rfl) (fun hc => p_nilCheck (gvt rfl hc)) ?_
 refine JH.pg 6 rfl (Gd.f1 rfl rfl rfl) (fun hc => p_fieldAddr fld_34_0.h (gvt rfl hc)) ?_
 refine JH.wg 7 rfl (Gd.f1 rfl rfl rfl) (fun hc os' u' hv => q_load1 ty_24.h (gvt rfl hc) (Mem.pub ((hr4.vis hv) 0 _ rfl))) ?_
 refine JH.pg 8 rfl (Gd.f1 rfl rfl rfl) (fun hc => p_len el_24 (gvt rfl hc)) ?_
 refine JH.pg 9 rfl (Gd.f1 rfl rfl rfl) (fun hc => p_move rfl) ?_
 refine JH.pg 10 rfl (Gd.f1 rfl rfl rfl) (fun hc => p_nilCheck (gvt rfl hc)) ?_
 refine JH.pg 11 rfl (Gd.f1 rfl rfl rfl) (fun hc => p_fieldAddr fld_33_0.h (gvt rfl hc)) ?_
 refine JH.wg 12 rfl (Gd.f1 rfl rfl rfl) (fun hc os' u' hv => q_load1 ty_2.h (gvt rfl hc) (Mem.pub ((hr1.vis hv) 0 _ rfl))) ?_
 refine JH.pg 13 rfl (Gd.f1 rfl rfl rfl) (fun hc => p_mul rfl (gvt rfl hc) (IntWalk.i64_in _ (by have := M.okR_bd (r := r) (by simpa using hc); omega))) ?_
 refine JH.pg 14 rfl (Gd.f1 rfl rfl rfl) (fun hc => p_neq (gvt rfl hc) (gvt rfl hc)) ?_
 refine JH.p 15 rfl (p_pickOr rfl rfl rfl) ?_
 refine JH.p 16 rfl (p_move rfl) ?_
 refine JH.pg 17 rfl (Gd.f1 rfl rfl rfl) (fun hc => p_move rfl) ?_
 refine JH.pg 18 rfl (Gd.f1 rfl rfl rfl) (fun hc => p_nilCheck (gvt rfl hc)) ?_
 refine JH.pg 19 rfl (Gd.f1 rfl rfl rfl) (fun hc => p_fieldAddr fld_34_1.h (gvt rfl hc)) ?_
 refine JH.wg 20 rfl (Gd.f1 rfl rfl rfl) (fun hc os' u' hv => q_load1 ty_24.h (gvt rfl hc) (Mem.pub ((hr4.vis hv) 1 _ rfl))) ?_
 refine JH.pg 21 rfl (Gd.f1 rfl rfl rfl) (fun hc => p_len el_24 (gvt rfl hc)) ?_
 refine JH.pg 22 rfl (Gd.f1 rfl rfl rfl) (fun hc => p_neq (gvt rfl hc) rfl) ?_
 refine JH.p 23 rfl (p_pickOr rfl rfl rfl) ?_
 refine JH.p 24 rfl (p_move rfl) ?_
 refine JH.pg 25 rfl (Gd.f1 rfl rfl rfl) (fun hc => p_move rfl) ?_
 refine JH.pg 26 rfl (Gd.f1 rfl rfl rfl) (fun hc => p_nilCheck (gvt rfl hc)) ?_
 refine JH.pg 27 rfl (Gd.f1 rfl rfl rfl) (fun hc => p_fieldAddr fld_34_2.h (gvt rfl hc)) ?_
 refine JH.wg 28 rfl (Gd.f1 rfl rfl rfl) (fun hc os' u' hv => q_load1 ty_2.h (gvt rfl hc) (Mem.pub ((hr4.vis hv) 2 _ rfl))) ?_
 refine y1 29 ?_
 refine JHo.ge rfl (Gd.f1 rfl rfl rfl) (fun hc => e_callV fn_82.h (opds_3 (gvt rfl hc) rfl rfl) (fun w hw => c_spec_l00In p.player 0 1)) ?_
 refine JH.pg 30 rfl (Gd.f1 rfl rfl rfl) (fun hc => p_not (gvt rfl hc)) ?_
 refine JH.p 31 rfl (p_pickOr rfl rfl rfl) ?_
 refine yd ?_
 refine zi (fun h5 h5' => ?_) fun h5 h5' => ?_
 ·
  refine zS <| Qa rfl <| JL.nil ?_
  refine zR (Up.refl _ _) ?_
  rw [M.okP_no (by simpa [or_assoc] using h5)]; rfl
 obtain ⟨⟨⟨q1, q2⟩, q3⟩, q4⟩ : ((M.okR r = true ∧ (p.pits.length : Int) = 2 * r.pits) ∧ (p.stores.length : Int) = 2) ∧ M.betw p.player 0 1 = true := by simpa using h5
 refine Js.skip <| zS <| Qm rfl <| Qc rfl <| Qf fh rfl <| QC (hr4 0 _ rfl) rfl <| zv rfl (fun w hw => c_spec_l04Sum p.pits (ok_ hw)) <| Qa rfl <| zN <| Qm rfl <| Qc rfl <| Qf fh rfl <| QC (hr4 1 _ rfl) rfl <| zv rfl (fun w hw => c_spec_l04Sum p.stores (ok_ hw)) ?_
 refine Qa rfl <| zN <| Qm rfl <| Qh rfl rfl <| Qm rfl <| zg (Gd.t1 rfl rfl rfl) (fun hc => p_move rfl) <| zg (Gd.t1 rfl rfl rfl) (fun hc => p_geq (gh hc rfl) rfl) <| Qq (p_pickAnd rfl rfl rfl) <| Qm rfl <| zg (Gd.t1 rfl rfl rfl) (fun hc => p_move rfl) <| zg (Gd.t1 rfl rfl rfl) (fun hc => p_move rfl) <| zg (Gd.t1 rfl rfl rfl) (fun hc => p_add (gh hc rfl) (gh hc rfl) (IntWalk.i64_in _ (by have hc9 := hc; (try simp only [Bool.and_eq_true, decide_eq_true_eq] at hc9); omega))) ?_
 refine zg (Gd.t1 rfl rfl rfl) (fun hc => p_leq (gh hc rfl) rfl) <| Qq (p_pickAnd rfl rfl rfl) <| Qa rfl <| JL.nil ?_
 refine zR (Up.refl _ _) ?_
 rw [M.okP_yes4 q1 q2 q3 q4]; rfl

set_option maxHeartbeats 1000000 in
theorem c_spec_l00Same (a : List Int) {v_a : Value} (b : List Int) {v_b : Value} {w : World} (h_a : (Ty.ints 2 a).ok w v_a) (h_b : (Ty.ints 2 b).ok w v_b) (r0 : a.length ≤ 4194304 := by exact om_) (r1 : b.length ≤ 4194304 := by exact om_) : RetV Tryd.prog 125 [v_a, v_b] w (.bool (decide (a = b))) := by
 revert v_a; apply opn
 intro A1 c1 h1 bl1 bh1
 have h_a := h1
 revert v_b; apply opn
 intro A2 c2 h2 bl2 bh2
 have h_b := h2
 refine enter @Tryd.func125 @Tryd.ntmps125 rfl rfl ?_
 refine zent ?_
 refine zS <| Qa rfl <| zJ <| zS <| Qm rfl <| Qz rfl <| Qm rfl <| Qz rfl <| Qd rfl rfl <| JL.nil ?_
 refine zi (fun h3 h3' => ?_) fun h3 h3' => ?_
 ·
  have e1 : decide (a = b) = false := by simp; rintro rfl; simp at h3
  refine zS <| Qa rfl <| JL.nil ?_
  refine zR (Up.refl _ _) ?_
  simp [outV, e1]
 have hlen : a.length = b.length := by have := h3'; omega
 refine Js.skip <| Js.seq <| zS <| Qa rfl <| JL.nil <| Js.block ?_
 refine zl [0, 1] (fun F U l os u m => ∃ (k : Nat), l = F [(5, .int .i64 (k : Int))] ∧ os = U [] ∧ (k ≤ a.length) ∧ (M.Upto a b k) ∧ m = a.length - k) ⟨0, rfl, rfl, zt, by exact M.Upto.zero _ _, rfl⟩ ?_
 rintro _ _ u4 _ ⟨k, rfl, rfl, hk, hU, rfl⟩ x4
 refine zn ?_
 refine Js.seq <| zS <| Qm rfl <| Qm rfl <| Qz rfl <| Ql rfl rfl <| JL.nil ?_
 refine zi (fun h5 h5' => ?_) fun h5 h5' => ?_
 ·
  refine Js.skip <| Js.seq <| Js.block <| Js.seq ?_
  refine zdr [] ?_
  refine JH.p 0 rfl (p_move rfl) ?_
  refine JH.p 1 rfl (p_move rfl) ?_
  obtain ⟨b6, o6, he6, hc6⟩ := ints_elem (Ty.mono _ h1 x4.vis) (i := k) (by omega)
  refine JH.p 2 rfl (p_indexAddr el_24 rfl rfl (by omega) (by omega) he6) ?_
  refine JH.w 3 rfl (fun os' u' hv => q_load1 ty_2.h rfl (Mem.pub (hc6.vis hv))) ?_
  refine JH.p 4 rfl (p_move rfl) ?_
  refine JH.p 5 rfl (p_move rfl) ?_
  obtain ⟨b7, o7, he7, hc7⟩ := ints_elem (Ty.mono _ h2 x4.vis) (i := k) (by omega)
  refine JH.p 6 rfl (p_indexAddr el_24 rfl rfl (by omega) (by omega) he7) ?_
  refine JH.w 7 rfl (fun os' u' hv => q_load1 ty_2.h rfl (Mem.pub (hc7.vis hv))) ?_
  refine JH.p 8 rfl (p_neq rfl rfl) ?_
  refine yd ?_
  refine zi (fun h8 h8' => ?_) fun h8 h8' => ?_
  ·
   have e1 : decide (a = b) = false := by simpa using M.ne_of_nth (a := a) (b := b) (k := k) (by simpa using h8)
   refine zS <| Qa rfl <| JL.nil ?_
   refine zR x4 ?_
   simp [outV, e1]
  have hab : M.nth a k = M.nth b k := by simpa using h8
  refine Js.skip <| Js.blockEnd <| Js.region <| Qm rfl <| Qp rfl rfl <| Qa rfl <| JL.nil ?_
  exact zag ⟨k + 1, rfl, rfl, zt, by exact hU.step (by omega) (by omega) hab, rfl⟩ x4
 have e1 : a = b := hU.done (by omega) (by omega)
 refine zx ?_
 refine zS <| Qa rfl <| JL.nil ?_
 refine zR x4 ?_
 simp [outV, e1]

set_option maxHeartbeats 1000000 in
theorem c_spec_l04Same (a : M.Pos) {v_a : Value} (b : M.Pos) {v_b : Value} {w : World} (h_a : (Ty.ref (cPosition a)).ok w v_a) (h_b : (Ty.ref (cPosition b)).ok w v_b) (r0 : a.pits.length ≤ 4194304 := by exact om_) (r1 : a.stores.length ≤ 4194304 := by exact om_) (r2 : b.pits.length ≤ 4194304 := by exact om_) (r3 : b.stores.length ≤ 4194304 := by exact om_) : RetV Tryd.prog 86 [v_a, v_b] w (.bool (M.sameP a b)) := by
 revert v_a; apply opn
 intro b3 o3 A1 c1 h1 bl1 bh1 A2 c2 h2 bl2 bh2 hr3
 revert v_b; apply opn
 intro b6 o6 A4 c4 h4 bl4 bh4 A5 c5 h5 bl5 bh5 hr6
 refine enter @Tryd.func86 @Tryd.ntmps86 rfl rfl ?_
 refine zent ?_
 refine zS <| Qa rfl <| zJ ?_
 refine zdr [] ?_
 refine JH.p 0 rfl (p_move rfl) ?_
 refine JH.p 1 rfl (p_nilCheck rfl) ?_
 refine JH.p 2 rfl (p_fieldAddr fld_34_0.h rfl) ?_
 refine JH.w 3 rfl (fun os' u' hv => q_load1 ty_24.h rfl (Mem.pub ((hr3.vis hv) 0 _ rfl))) ?_
 refine JH.p 4 rfl (p_move rfl) ?_
 refine JH.p 5 rfl (p_nilCheck rfl) ?_
 refine JH.p 6 rfl (p_fieldAddr fld_34_0.h rfl) ?_
 refine JH.w 7 rfl (fun os' u' hv => q_load1 ty_24.h rfl (Mem.pub ((hr6.vis hv) 0 _ rfl))) ?_
 refine y1 8 ?_
 refine yv rfl rfl (fun w hw => c_spec_l00Same a.pits b.pits (ok_ hw) (ok_ hw)) ?_
 refine JH.p 9 rfl (p_move rfl) ?_
 refine JH.pg 10 rfl (Gd.t1 rfl rfl rfl) (fun hc => p_move rfl) ?_
 refine JH.pg 11 rfl (Gd.t1 rfl rfl rfl) (fun hc => p_nilCheck (gvt rfl hc)) ?_
 refine JH.pg 12 rfl (Gd.t1 rfl rfl rfl) (fun hc => p_fieldAddr fld_34_1.h (gvt rfl hc)) ?_
 refine JH.wg 13 rfl (Gd.t1 rfl rfl rfl) (fun hc os' u' hv => q_load1 ty_24.h (gvt rfl hc) (Mem.pub ((hr3.vis hv) 1 _ rfl))) ?_
 refine JH.pg 14 rfl (Gd.t1 rfl rfl rfl) (fun hc => p_move rfl) ?_
 refine JH.pg 15 rfl (Gd.t1 rfl rfl rfl) (fun hc => p_nilCheck (gvt rfl hc)) ?_
 refine JH.pg 16 rfl (Gd.t1 rfl rfl rfl) (fun hc => p_fieldAddr fld_34_1.h (gvt rfl hc)) ?_
 refine JH.wg 17 rfl (Gd.t1 rfl rfl rfl) (fun hc os' u' hv => q_load1 ty_24.h (gvt rfl hc) (Mem.pub ((hr6.vis hv) 1 _ rfl))) ?_
 refine y1 18 ?_
 refine JHo.ge rfl (Gd.t1 rfl rfl rfl) (fun hc => e_callV fn_125.h (opds_2 (gvt rfl hc) (gvt rfl hc)) (fun w hw => c_spec_l00Same a.stores b.stores (ok_ hw) (ok_ hw) (r0 := (by have hc9 := hc; (try simp only [decide_eq_true_eq] at hc9); omega)) (r1 := (by have hc9 := hc; (try simp only [decide_eq_true_eq] at hc9); omega)))) ?_
 refine JH.p 19 rfl (p_pickAnd rfl rfl rfl) ?_
 refine JH.p 20 rfl (p_move rfl) ?_
 refine JH.pg 21 rfl (Gd.t1 rfl rfl rfl) (fun hc => p_move rfl) ?_
 refine JH.pg 22 rfl (Gd.t1 rfl rfl rfl) (fun hc => p_nilCheck (gvt rfl hc)) ?_
 refine JH.pg 23 rfl (Gd.t1 rfl rfl rfl) (fun hc => p_fieldAddr fld_34_2.h (gvt rfl hc)) ?_
 refine JH.wg 24 rfl (Gd.t1 rfl rfl rfl) (fun hc os' u' hv => q_load1 ty_2.h (gvt rfl hc) (Mem.pub ((hr3.vis hv) 2 _ rfl))) ?_
 refine JH.pg 25 rfl (Gd.t1 rfl rfl rfl) (fun hc => p_move rfl) ?_
 refine JH.pg 26 rfl (Gd.t1 rfl rfl rfl) (fun hc => p_nilCheck (gvt rfl hc)) ?_
 refine JH.pg 27 rfl (Gd.t1 rfl rfl rfl) (fun hc => p_fieldAddr fld_34_2.h (gvt rfl hc)) ?_
 refine JH.wg 28 rfl (Gd.t1 rfl rfl rfl) (fun hc os' u' hv => q_load1 ty_2.h (gvt rfl hc) (Mem.pub ((hr6.vis hv) 2 _ rfl))) ?_
 refine JH.pg 29 rfl (Gd.t1 rfl rfl rfl) (fun hc => p_eql (gvt rfl hc) (gvt rfl hc)) ?_
 refine JH.p 30 rfl (p_pickAnd rfl rfl rfl) ?_
 refine JH.p 31 rfl (p_assign rfl) ?_
 refine yd ?_
 refine zR (Up.refl _ _) ?_
 simp [outV, M.sameP, Bool.and_comm, Bool.and_assoc, Bool.and_left_comm]

set_option maxHeartbeats 1000000 in
theorem c_spec_l00Own (list : List Int) {v_list : Value} {w : World} (h_list : (Ty.ints 2 list).ok w v_list) (r0 : list.length ≤ 4194304 := by exact om_) : Ret Tryd.prog 126 [v_list] w (Ty.ints 2 list) := by
 revert v_list; apply opn
 intro A1 c1 h1 bl1 bh1
 have h_list := h1
 refine enter @Tryd.func126 @Tryd.ntmps126 rfl rfl ?_
 refine zent ?_
 refine zS <| Qa rfl <| zN <| zbs fun b2 => ?_
 refine Qm rfl ?_
 refine JL.e (e_append (i := 0) (n' := list.length) (vs' := ints_ list) el_24 rfl rfl rfl rfl (src_ints und_24 h1) (by omega) (by omega) (by first | omega | (simp only [List.length_append, List.length_cons, List.length_nil] <;> omega)) (by simp [ints_])) ?_
 rintro v4 _ _ ⟨⟨g5, rfl⟩, rfl⟩ _
 refine JL.fact (row_form' (i := 0) rfl) (fun hf6 => ?_)
 obtain ⟨A6, c6, rfl, bl6, bh6⟩ := hf6
 refine znl ?_
 refine Qa rfl <| JL.nil ?_
 exact zro (Up.refl _ _)

set_option maxHeartbeats 1000000 in
theorem c_spec_l04Own (p : M.Pos) {v_p : Value} {w : World} (h_p : (Ty.ref (cPosition p)).ok w v_p) (r0 : p.pits.length ≤ 4194304 := by exact om_) (r1 : p.stores.length ≤ 4194304 := by exact om_) : Ret Tryd.prog 87 [v_p] w (Ty.agg (cPosition p)) := by
 revert v_p; apply opn
 intro b3 o3 A1 c1 h1 bl1 bh1 A2 c2 h2 bl2 bh2 hr3
 refine enter @Tryd.func87 @Tryd.ntmps87 rfl rfl ?_
 refine zent ?_
 refine zS <| za zeh fun b4 => zJ ?_
 refine zdr [15] ?_
 refine JH.p 0 rfl (p_move rfl) ?_
 refine JH.p 1 rfl (p_nilCheck rfl) ?_
 refine JH.p 2 rfl (p_fieldAddr fld_34_0.h rfl) ?_
 refine JH.w 3 rfl (fun os' u' hv => q_load1 ty_24.h rfl (Mem.pub ((hr3.vis hv) 0 _ rfl))) ?_
 refine JH.p 5 rfl (p_move rfl) ?_
 refine JH.p 6 rfl (p_nilCheck rfl) ?_
 refine JH.p 7 rfl (p_fieldAddr fld_34_1.h rfl) ?_
 refine JH.w 8 rfl (fun os' u' hv => q_load1 ty_24.h rfl (Mem.pub ((hr3.vis hv) 1 _ rfl))) ?_
 refine JH.p 10 rfl (p_move rfl) ?_
 refine JH.p 11 rfl (p_nilCheck rfl) ?_
 refine JH.p 12 rfl (p_fieldAddr fld_34_2.h rfl) ?_
 refine JH.w 13 rfl (fun os' u' hv => q_load1 ty_2.h rfl (Mem.pub ((hr3.vis hv) 2 _ rfl))) ?_
 refine y1 4 ?_
 refine ycs rfl rfl (fun w hw => c_spec_l00Own p.pits (ok_ hw)) ?_
 intro A5 c5 bl5 bh5
 refine y1 9 ?_
 refine ycs rfl rfl (fun w hw => c_spec_l00Own p.stores (ok_ hw)) ?_
 intro A6 c6 bl6 bh6
 refine JH.p 14 rfl (q_bld) ?_
 refine y1 15 ?_
 refine yst rfl rfl rfl ?_
 refine yd ?_
 exact zro (Up.refl _ _)

set_option maxHeartbeats 1000000 in
theorem c_spec_l02Owner (r : M.Rul) {v_r : Value} (pit : Int) {w : World} (h_r : (Ty.ref (cRules r)).ok w v_r) (r0 : 2 ≤ r.pits := by exact om_) (r1 : r.pits ≤ 8 := by exact om_) (r2 : 0 ≤ pit := by exact om_) (r3 : pit ≤ 1000 := by exact om_) : RetV Tryd.prog 136 [v_r, .int .i64 pit] w (.int .i64 (M.owner r pit)) := by
 revert v_r; apply opn
 intro b1 o1 hr1
 refine enter @Tryd.func136 @Tryd.ntmps136 rfl rfl ?_
 refine zent ?_
 refine zS <| Qa rfl <| zN <| Qm rfl <| Qm rfl <| Qc rfl <| Qf fh rfl <| QC (hr1 0 _ rfl) rfl <| Qq (p_quo rfl rfl (by omega) (wrap_quo (by omega) (by omega) (by omega))) <| Qa rfl <| JL.nil ?_
 refine zR (Up.refl _ _) ?_
 rfl

set_option maxHeartbeats 1000000 in
theorem c_spec_l02Opposite (r : M.Rul) {v_r : Value} (pit : Int) {w : World} (h_r : (Ty.ref (cRules r)).ok w v_r) (r0 : 2 ≤ r.pits := by exact om_) (r1 : r.pits ≤ 8 := by exact om_) (r2 : 0 ≤ pit := by exact om_) (r3 : pit ≤ 1000 := by exact om_) : RetV Tryd.prog 138 [v_r, .int .i64 pit] w (.int .i64 (M.opp r pit)) := by
 revert v_r; apply opn
 intro b1 o1 hr1
 refine enter @Tryd.func138 @Tryd.ntmps138 rfl rfl ?_
 refine zent ?_
 refine zS <| Qa rfl <| zN <| Qm rfl <| Qc rfl <| Qf fh rfl <| QC (hr1 0 _ rfl) rfl <| Qu rfl rfl <| Qs rfl rfl <| Qm rfl <| Qs rfl rfl <| Qa rfl <| JL.nil ?_
 refine zR (Up.refl _ _) ?_
 rfl

set_option maxHeartbeats 1000000 in
theorem c_spec_l02Next (r : M.Rul) {v_r : Value} (pit : Int) {w : World} (h_r : (Ty.ref (cRules r)).ok w v_r) (r0 : 2 ≤ r.pits := by exact om_) (r1 : r.pits ≤ 8 := by exact om_) (r2 : -1 ≤ pit := by exact om_) (r3 : pit ≤ 1000 := by exact om_) : RetV Tryd.prog 172 [v_r, .int .i64 pit] w (.int .i64 ((pit + 1) % (2 * r.pits))) := by
 revert v_r; apply opn
 intro b1 o1 hr1
 refine enter @Tryd.func172 @Tryd.ntmps172 rfl rfl ?_
 refine zent ?_
 have hrn2 := Int.emod_nonneg (pit + 1) (b := 2 * r.pits) (by omega)
 have hrl2 := Int.emod_lt_of_pos (pit + 1) (show 0 < 2 * r.pits by omega)
 refine zS <| Qa rfl <| zN <| Qm rfl <| Qp rfl rfl <| Qm rfl <| Qc rfl <| Qf fh rfl <| QC (hr1 0 _ rfl) rfl <| Qu rfl rfl <| Qq (p_rem rfl rfl (by omega) (Int.tmod_eq_emod_of_nonneg (by omega))) <| Qa rfl <| JL.nil ?_
 exact zr (Up.refl _ _)

set_option maxHeartbeats 1000000 in
theorem c_spec_l05Next (r : M.Rul) {v_r : Value} (player place : Int) {w : World} (h_r : (Ty.ref (cRules r)).ok w v_r) (r0 : 2 ≤ r.pits := by exact om_) (r1 : r.pits ≤ 8 := by exact om_) (r2 : player = 0 ∨ player = 1 := by exact om_) (r3 : -1 ≤ place := by exact om_) (r4 : place ≤ 1000 := by exact om_) : RetV Tryd.prog 169 [v_r, .int .i64 player, .int .i64 place] w (.int .i64 (M.after r player place)) := by
 have hq := M.mul_bd r2 r0 r1
 revert v_r; apply opn
 intro b1 o1 hr1
 refine enter @Tryd.func169 @Tryd.ntmps169 rfl rfl ?_
 refine zent ?_
 refine zS <| Qa rfl <| zN <| Qm rfl <| Qp rfl rfl <| Qm rfl <| Qc rfl <| Qf fh rfl <| QC (hr1 0 _ rfl) rfl <| Qu rfl rfl <| Qs rfl rfl <| Qa rfl <| zJ <| zS ?_
 refine Qm rfl <| Qe rfl rfl <| JL.nil ?_
 refine zi (fun h2 h2' => ?_) fun h2 h2' => ?_
 ·
  have e1 := M.after_m1 (r := r) (player := player) (place := place) (by simpa using h2) (by omega)
  refine zS <| Qm rfl <| Qm rfl <| zv rfl (fun w hw => c_spec_l02Next r (((player + 1) * r.pits) - 1) (ok_ hw)) <| Qa rfl <| JL.nil ?_
  refine zR (Up.refl _ _) ?_
  rw [e1]; rfl
 refine Js.skip <| Js.seq <| zS <| Qm rfl <| Qc rfl <| Qf fh rfl <| QC (hr1 2 _ rfl) rfl <| Qm rfl <| zg (Gd.t1 rfl rfl rfl) (fun hc => p_move rfl) <| zg (Gd.t1 rfl rfl rfl) (fun hc => p_move rfl) <| zg (Gd.t1 rfl rfl rfl) (fun hc => p_eql (gh hc rfl) (gh hc rfl)) <| Qq (p_pickAnd rfl rfl rfl) <| JL.nil ?_
 refine zi (fun h3 h3' => ?_) fun h3 h3' => ?_
 ·
  have e1 := M.after_end (r := r) (player := player) (place := place) (by simpa using h3)
  refine zS <| Qa rfl <| JL.nil ?_
  refine zR (Up.refl _ _) ?_
  rw [e1]; rfl
 have e1 := M.after_else (r := r) (player := player) (place := place) (by simpa using h3) (by omega)
 refine Js.skip <| zS <| Qm rfl <| Qm rfl <| zv rfl (fun w hw => c_spec_l02Next r place (ok_ hw)) <| Qa rfl <| JL.nil ?_
 refine zR (Up.refl _ _) ?_
 rw [e1]; rfl

set_option maxHeartbeats 1000000 in
theorem c_spec_l04Side (r : M.Rul) {v_r : Value} (pits : List Int) {v_pits : Value} (player : Int) {w : World} (h_r : (Ty.ref (cRules r)).ok w v_r) (h_pits : (Ty.ints 2 pits).ok w v_pits) (r0 : 2 ≤ r.pits := by exact om_) (r1 : r.pits ≤ 8 := by exact om_) (r2 : player = 0 ∨ player = 1 := by exact om_) (r3 : (pits.length : Int) = 2 * r.pits := by exact om_) (r4 : M.allOk pits = true := by exact om_) : RetV Tryd.prog 129 [v_r, v_pits, .int .i64 player] w (.int .i64 (M.side r pits player)) := by
 have hq := M.mul_bd r2 r0 r1
 have hsp := M.side_part (ps := pits) (r := r) (player := player) (by omega)
 revert v_r; apply opn
 intro b1 o1 hr1
 revert v_pits; apply opn
 intro A2 c2 h2 bl2 bh2
 have h_pits := h2
 refine enter @Tryd.func129 @Tryd.ntmps129 rfl rfl ?_
 refine zent ?_
 refine zS <| Qa rfl <| zN <| Qa rfl <| zJ <| zS <| Qm rfl <| Qm rfl <| Qc rfl <| Qf fh rfl <| QC (hr1 0 _ rfl) rfl <| Qu rfl rfl <| Qa rfl <| JL.nil ?_
 refine Js.block ?_
 refine zl [0, 1, 2] (fun F U l os u m => ∃ (k t : Int), l = F [(7, .int .i64 t), (8, .int .i64 k)] ∧ os = U [] ∧ (t + M.part pits k ((player + 1) * r.pits) = M.side r pits player) ∧ (player * r.pits ≤ k) ∧ (k ≤ (player + 1) * r.pits) ∧ (0 ≤ t) ∧ (t ≤ 96 * (k - player * r.pits)) ∧ m = ((player + 1) * r.pits - k).toNat) ⟨player * r.pits, 0, rfl, rfl, by rw [hsp]; omega, zt, zt, zt, zt, rfl⟩ ?_
 rintro _ _ u3 _ ⟨k, t, rfl, rfl, hS, k0, k1, t0, t1, rfl⟩ x3
 refine zn ?_
 have hv := M.allOk_nth r4 k.toNat
 refine Js.seq <| zS <| Qm rfl <| Qm rfl <| Qp rfl rfl <| Qm rfl <| Qc rfl <| Qf fh rfl <| QC ((hr1.vis x3.vis) 0 _ rfl) rfl <| Qu rfl rfl <| Ql rfl rfl <| JL.nil ?_
 refine zi (fun h4 h4' => ?_) fun h4 h4' => ?_
 ·
  obtain ⟨b5, o5, he5, hc5⟩ := ints_elem (Ty.mono _ h2 x3.vis) (i := k.toNat) (by omega)
  refine Js.skip <| Js.seq <| Js.block <| Js.region <| Qm rfl <| Qm rfl <| Qm rfl <| Qq (p_indexAddr el_24 rfl rfl (by omega) (by omega) he5) <| QC hc5 rfl <| Qp rfl rfl <| Qa rfl <| JL.nil <| Js.blockEnd <| Js.region ?_
  refine Qm rfl <| Qp rfl rfl <| Qa rfl <| JL.nil ?_
  exact zag ⟨k + 1, t + (M.nth pits k.toNat), rfl, rfl, by rw [M.part_step (by omega) (by omega) (by omega)] at hS; simp only [M.getI] at hS; omega, zt, zt, zt, zt, rfl⟩ x3
 have e1 : M.side r pits player = t := by rw [M.part_end (by omega)] at hS; omega
 refine zx ?_
 refine zS <| Qm rfl <| Qa rfl <| JL.nil ?_
 refine zR x3 ?_
 rw [e1]; rfl

set_option maxHeartbeats 1000000 in
theorem c_spec_l05Code (r : M.Rul) {v_r : Value} (p : M.Pos) {v_p : Value} (move : Int) {w : World} (h_r : (Ty.ref (cRules r)).ok w v_r) (h_p : (Ty.ref (cPosition p)).ok w v_p) (r0 : p.pits.length ≤ 4194304 := by exact om_) (r1 : p.stores.length ≤ 4194304 := by exact om_) : RetV Tryd.prog 134 [v_r, v_p, .int .i64 move] w (.int .i64 (M.sowCode r p move)) := by
 revert v_r; apply opn
 intro b1 o1 hr1
 revert v_p; apply opn
 intro b4 o4 A2 c2 h2 bl2 bh2 A3 c3 h3 bl3 bh3 hr4
 refine enter @Tryd.func134 @Tryd.ntmps134 rfl rfl ?_
 refine zent ?_
 refine zS <| Qa rfl <| zJ <| zS <| Qm rfl <| Qm rfl <| zv rfl (fun w hw => c_spec_l04Ok r p (ok_ hw) (ok_ hw)) <| Qt rfl <| JL.nil ?_
 refine zi (fun h5 h5' => ?_) fun h5 h5' => ?_
 ·
  refine zS <| Qa rfl <| JL.nil ?_
  refine zR (Up.refl _ _) ?_
  simp_all [outV, M.sowCode, M.getI]
 have hok : M.okP r p = true := by simpa using h5
 obtain ⟨g1, g2, g3, g4, g5, g6, g7⟩ := M.okP_bd hok
 have hq := M.mul_bd g7 g1 g2
 refine Js.skip <| Js.seq <| zS <| Qm rfl <| Qm rfl <| Qc rfl <| Qf fh rfl <| QC (hr1 0 _ rfl) rfl <| Qs rfl rfl <| zv rfl (fun w hw => c_spec_l00In move 0 (r.pits - 1)) <| Qt rfl <| JL.nil ?_
 refine zi (fun h6 h6' => ?_) fun h6 h6' => ?_
 ·
  refine zS <| Qa rfl <| JL.nil ?_
  refine zR (Up.refl _ _) ?_
  simp_all [outV, M.sowCode, M.getI]
 obtain ⟨m0, m1⟩ := M.betw_iff.1 (show M.betw move 0 (r.pits - 1) = true by simpa using h6)
 refine Js.skip <| Js.seq <| Js.seq ?_
 refine zdr [] ?_
 refine JH.p 0 rfl (p_move rfl) ?_
 refine JH.p 1 rfl (p_nilCheck rfl) ?_
 refine JH.p 2 rfl (p_fieldAddr fld_34_0.h rfl) ?_
 refine JH.w 3 rfl (fun os' u' hv => q_load1 ty_24.h rfl (Mem.pub ((hr4.vis hv) 0 _ rfl))) ?_
 refine JH.p 4 rfl (p_move rfl) ?_
 refine JH.p 5 rfl (p_nilCheck rfl) ?_
 refine JH.p 6 rfl (p_fieldAddr fld_34_2.h rfl) ?_
 refine JH.w 7 rfl (fun os' u' hv => q_load1 ty_2.h rfl (Mem.pub ((hr4.vis hv) 2 _ rfl))) ?_
 refine JH.p 8 rfl (p_move rfl) ?_
 refine JH.p 9 rfl (p_nilCheck rfl) ?_
 refine JH.p 10 rfl (p_fieldAddr fld_33_0.h rfl) ?_
 refine JH.w 11 rfl (fun os' u' hv => q_load1 ty_2.h rfl (Mem.pub ((hr1.vis hv) 0 _ rfl))) ?_
 refine JH.p 12 rfl (p_mul rfl rfl (IntWalk.i64_in _ (by omega))) ?_
 refine JH.p 13 rfl (p_move rfl) ?_
 refine JH.p 14 rfl (p_add rfl rfl (IntWalk.i64_in _ (by omega))) ?_
 obtain ⟨b7, o7, he7, hc7⟩ := ints_elem h2 (i := ((p.player * r.pits) + move).toNat) (by omega)
 refine JH.p 15 rfl (p_indexAddr el_24 rfl rfl (by omega) (by omega) he7) ?_
 refine JH.w 16 rfl (fun os' u' hv => q_load1 ty_2.h rfl (Mem.pub (hc7.vis hv))) ?_
 refine JH.p 17 rfl (p_eql rfl rfl) ?_
 refine yd ?_
 refine zi (fun h8 h8' => ?_) fun h8 h8' => ?_
 ·
  refine zS <| Qa rfl <| JL.nil ?_
  refine zR (Up.refl _ _) ?_
  simp_all [outV, M.sowCode, M.getI]
 refine Js.skip <| zS <| Qa rfl <| JL.nil ?_
 refine zR (Up.refl _ _) ?_
 simp_all [outV, M.sowCode, M.getI]

end Go.Proofs.YtdhmdaoijnnfjaaDoor

namespace Go.Proofs.YtdhmdaoijnnfjaaDoor
open Go.RowKit

set_option maxHeartbeats 1000000 in
theorem c_spec_l05Lap (r : M.Rul) {v_r : Value} (s_pits s_stores : List Int) (s_last s_laps : Int) {As_0 : Option Addr} {cs_0 : Nat} {gs_0 : List Nat} {As_1 : Option Addr} {cs_1 : Nat} {gs_1 : List Nat} (player from_ : Int) (path : List Int) {Apath_0 : Option Addr} {cpath_0 : Nat} {gpath_0 : List Nat} {bs : Nat} {w : World} (hb : Bw w [boxO bs [.slice As_0 s_pits.length cs_0, .slice As_1 s_stores.length cs_1, .int .i64 s_last, .int .i64 s_laps] 137, rowO 2 1 (.slice As_0 s_pits.length cs_0) s_pits.length (ints_ s_pits) gs_0, rowO 2 1 (.slice As_1 s_stores.length cs_1) s_stores.length (ints_ s_stores) gs_1, rowO 2 1 (.slice Apath_0 path.length cpath_0) path.length (ints_ path) gpath_0]) (h_r : (Ty.ref (cRules r)).ok (offW w (([boxO bs [.slice As_0 s_pits.length cs_0, .slice As_1 s_stores.length cs_1, .int .i64 s_last, .int .i64 s_laps] 137, rowO 2 1 (.slice As_0 s_pits.length cs_0) s_pits.length (ints_ s_pits) gs_0, rowO 2 1 (.slice As_1 s_stores.length cs_1) s_stores.length (ints_ s_stores) gs_1, rowO 2 1 (.slice Apath_0 path.length cpath_0) path.length (ints_ path) gpath_0] : List Own).flatMap (·.fp))) v_r) (bd0 : s_pits.length ≤ cs_0 := by exact om_) (bd1 : cs_0 ≤ 9223372036854775807 := by exact om_) (bd2 : s_stores.length ≤ cs_1 := by exact om_) (bd3 : cs_1 ≤ 9223372036854775807 := by exact om_) (bd4 : path.length ≤ cpath_0 := by exact om_) (bd5 : cpath_0 ≤ 9223372036854775807 := by exact om_) (r0 : 2 ≤ r.pits := by exact om_) (r1 : r.pits ≤ 8 := by exact om_) (r2 : player = 0 ∨ player = 1 := by exact om_) (r3 : 0 ≤ from_ := by exact om_) (r4 : from_ < 2 * r.pits := by exact om_) (r5 : M.Good r s_pits s_stores 0 := by exact om_) (r6 : 0 < (M.getI s_pits from_) := by exact om_) (r7 : 0 ≤ s_laps := by exact om_) (r8 : s_laps ≤ 99 := by exact om_) (r9 : path.length ≤ 10000 := by exact om_) : RetB Tryd.prog 157 [v_r, .pointer (some ⟨bs, 0, none⟩), .int .i64 player, .int .i64 from_, .slice Apath_0 path.length cpath_0] w [boxO bs [.slice As_0 s_pits.length cs_0, .slice As_1 s_stores.length cs_1, .int .i64 s_last, .int .i64 s_laps] 137, rowO 2 1 (.slice As_0 s_pits.length cs_0) s_pits.length (ints_ s_pits) gs_0, rowO 2 1 (.slice As_1 s_stores.length cs_1) s_stores.length (ints_ s_stores) gs_1, rowO 2 1 (.slice Apath_0 path.length cpath_0) path.length (ints_ path) gpath_0] (fun v bs' => ∃ (Axs_0 : Option Addr) (cxs_0 : Nat) (gxs_0 : List Nat) (Axs_1 : Option Addr) (cxs_1 : Nat) (gxs_1 : List Nat) (Axr : Option Addr) (cxr : Nat) (gxr : List Nat), v = .slice Axr (((M.lap r player from_ (M.Sw.mk s_pits s_stores s_last s_laps) path).2).length) cxr ∧ bs' = [boxO bs [.slice Axs_0 (((M.lap r player from_ (M.Sw.mk s_pits s_stores s_last s_laps) path).1.pits).length) cxs_0, .slice Axs_1 (((M.lap r player from_ (M.Sw.mk s_pits s_stores s_last s_laps) path).1.stores).length) cxs_1, .int .i64 ((M.lap r player from_ (M.Sw.mk s_pits s_stores s_last s_laps) path).1.last), .int .i64 ((M.lap r player from_ (M.Sw.mk s_pits s_stores s_last s_laps) path).1.laps)] 137, rowO 2 1 (.slice Axs_0 (((M.lap r player from_ (M.Sw.mk s_pits s_stores s_last s_laps) path).1.pits).length) cxs_0) (((M.lap r player from_ (M.Sw.mk s_pits s_stores s_last s_laps) path).1.pits).length) (ints_ ((M.lap r player from_ (M.Sw.mk s_pits s_stores s_last s_laps) path).1.pits)) gxs_0, rowO 2 1 (.slice Axs_1 (((M.lap r player from_ (M.Sw.mk s_pits s_stores s_last s_laps) path).1.stores).length) cxs_1) (((M.lap r player from_ (M.Sw.mk s_pits s_stores s_last s_laps) path).1.stores).length) (ints_ ((M.lap r player from_ (M.Sw.mk s_pits s_stores s_last s_laps) path).1.stores)) gxs_1, rowO 2 1 (.slice Axr (((M.lap r player from_ (M.Sw.mk s_pits s_stores s_last s_laps) path).2).length) cxr) (((M.lap r player from_ (M.Sw.mk s_pits s_stores s_last s_laps) path).2).length) (ints_ ((M.lap r player from_ (M.Sw.mk s_pits s_stores s_last s_laps) path).2)) gxr] ∧ ((M.lap r player from_ (M.Sw.mk s_pits s_stores s_last s_laps) path).1.pits).length ≤ cxs_0 ∧ cxs_0 ≤ 9223372036854775807 ∧ ((M.lap r player from_ (M.Sw.mk s_pits s_stores s_last s_laps) path).1.stores).length ≤ cxs_1 ∧ cxs_1 ≤ 9223372036854775807 ∧ ((M.lap r player from_ (M.Sw.mk s_pits s_stores s_last s_laps) path).2).length ≤ cxr ∧ cxr ≤ 9223372036854775807) := by
 have l1 := r5.lp
 have l2 := r5.ls
 have hk0 := r5.pit from_
 revert v_r; apply opn
 intro b1 o1 hr1
 refine enterB hb @Tryd.func157 @Tryd.ntmps157 rfl rfl ?_
 refine zent ?_
 refine Js.trashE ?_
 refine zn ?_
 refine Js.fact (row_some (i := 1) rfl (by omega)) (fun hf2 => ?_)
 obtain ⟨b2, rfl⟩ := hf2
 refine Js.fact (row_some (i := 2) rfl (by omega)) (fun hf3 => ?_)
 obtain ⟨b3, rfl⟩ := hf3
 refine zS <| Qa rfl <| zN <| Qm rfl <| Qc rfl <| Qf fh rfl <| Q0 0 rfl rfl rfl <| Qm rfl <| Qq (p_indexAddr el_24 rfl rfl (by omega) (by omega) rfl) <| Qw (q_load1 ty_2.h rfl (Mem.row (i := 1) rfl (ints_getI (i := from_) (by omega)))) <| Qa rfl <| zN <| Qm rfl <| Qc rfl ?_
 refine Qf fh rfl <| Q0 0 rfl rfl rfl <| Qm rfl <| Qq (p_indexAddr el_24 rfl rfl (by omega) (by omega) rfl) ?_
 refine JL.s (e_storeRow (i := 1) (xs' := ints_ (M.setI s_pits from_ 0)) ty_2.h rfl rfl rfl rfl rfl rfl (ints_lt (i := from_.toNat) (by omega)) (ints_setL (i := from_.toNat) (by omega))) ?_
 rintro _ _ _ ⟨rfl, rfl⟩ _
 refine znl ?_
 refine zN <| Qm rfl <| Qa rfl <| zJ <| Js.block ?_
 refine zl [0, 1, 2, 3] (fun F U l os u m => ∃ (k place : Int) (ps ss pth : List Int) (A6_4 : Option Addr) (c6_4 : Nat) (g6_4 : List Nat) (G6_4 : List Nat), l = F [(4, .slice A6_4 pth.length c6_4), (11, .int .i64 k), (12, .int .i64 place)] ∧ os = U [nO, some (rowO 2 1 (.slice (some ⟨b2, 0, none⟩) s_pits.length cs_0) s_pits.length (ints_ ps) gs_0), some (rowO 2 1 (.slice (some ⟨b3, 0, none⟩) s_stores.length cs_1) s_stores.length (ints_ ss) gs_1), some (rowO 2 1 (.slice A6_4 pth.length c6_4) pth.length (ints_ pth) g6_4), some (anyO G6_4)] ∧ (M.sow r player from_ k.toNat place ps ss pth = M.sow r player from_ (M.getI s_pits from_).toNat from_ (M.setI s_pits from_ 0) s_stores path) ∧ (M.Good r ps ss k) ∧ (-1 ≤ place) ∧ (place < 2 * r.pits) ∧ ((pth.length : Int) + k = path.length + (M.getI s_pits from_)) ∧ (0 ≤ k) ∧ (pth.length ≤ c6_4) ∧ (c6_4 ≤ 9223372036854775807) ∧ m = M.ms k place from_) ⟨M.getI s_pits from_, from_, M.setI s_pits from_ 0, s_stores, path, _, _, _, _, rfl, rfl, by rfl, by exact r5.takeUp r3 r4, zt, zt, zt, zt, zu, zu, rfl⟩ ?_
 rintro _ _ u6 _ ⟨k, place, ps, ss, pth, A6_4, c6_4, g6_4, G6_4, rfl, rfl, hS, hG, p0, p1, hl, hk, f6_6, f6_7, rfl⟩ x6
 refine zn ?_
 have l3 := hG.lp
 have l4 := hG.ls
 have hs0 := hG.store player
 have ha := M.after_bd r (player := player) (n := place) r1 r0 r2 p0
 refine Js.seq <| zS <| Qm rfl <| Qg rfl rfl <| JL.nil ?_
 refine zi (fun h7 h7' => ?_) fun h7 h7' => ?_
 ·
  refine Js.skip <| Js.block <| zS <| Qm rfl <| Qm rfl <| Qm rfl <| zv rfl (fun w hw => c_spec_l05Next r player place (ok_ hw)) <| Qa rfl <| zJ <| zS <| Qm rfl <| Qc rfl <| Qf fh rfl <| QC ((hr1.vis x6.vis) 3 _ rfl) rfl ?_
  refine Qm rfl <| zg (Gd.t1 rfl rfl rfl) (fun hc => p_move rfl) <| zg (Gd.t1 rfl rfl rfl) (fun hc => p_move rfl) <| zg (Gd.t1 rfl rfl rfl) (fun hc => p_eql (gh hc rfl) (gh hc rfl)) <| Qq (p_pickAnd rfl rfl rfl) <| JL.nil ?_
  refine zi (fun h8 h8' => ?_) fun h8 h8' => ?_
  ·
   have hc : r.skip = true ∧ M.after r player place = from_ := by simpa using h8
   have hS2 : M.sow r player from_ k.toNat (M.after r player place) ps ss pth = M.sow r player from_ (M.getI s_pits from_).toNat from_ (M.setI s_pits from_ 0) s_stores path := by rw [hc.2, ← M.sow_skip r1 r0 r3 r4 hc (by omega)]; exact hS
   have hm2 := M.ms_skip (k := k) r1 r0 r3 r4 hc.2
   refine zx ?_
   exact zag ⟨k, M.after r player place, ps, ss, pth, _, _, _, _, rfl, rfl, by exact hS2, by first | exact hG2 | exact hG, zt, zt, by first | omega | (simp only [List.length_append, List.length_cons, List.length_nil]; omega), zt, zu, zu, rfl⟩ x6 (by exact hm2)
  have hc : ¬(r.skip = true ∧ M.after r player place = from_) := by simpa using h8
  have hq := M.nxt_no hc
  have hm2 := M.ms_lt (a := (M.after r player place)) (b := place) (frm := from_) (show 0 < k by omega)
  refine Js.skip <| Js.seq <| zS <| Qm rfl <| Qe rfl rfl <| JL.nil ?_
  refine zi (fun h9 h9' => ?_) fun h9 h9' => ?_
  ·
   have hq0 : (M.after r player place) = -1 := by simpa using h9
   have hS2 : M.sow r player from_ (k - 1).toNat (M.after r player place) ps (M.setI ss player (M.getI ss player + 1)) (pth ++ [(M.after r player place)]) = M.sow r player from_ (M.getI s_pits from_).toNat from_ (M.setI s_pits from_ 0) s_stores path := by rw [← hS, show k.toNat = (k - 1).toNat + 1 by omega, M.sow_succ hq, if_pos (by omega)]
   have hG2 := hG.putStore (k := player) (by omega) (by omega) (by omega)
   refine Js.region <| Qm rfl <| Qc rfl <| Qf fh rfl <| Q0 0 rfl rfl rfl <| Qm rfl <| Qq (p_indexAddr el_24 rfl rfl (by omega) (by omega) rfl) <| Qw (q_load1 ty_2.h rfl (Mem.row (i := 2) rfl (ints_getI (i := player) (by omega)))) <| Qp rfl rfl <| Qq (p_indexAddr el_24 rfl rfl (by omega) (by omega) rfl) ?_
   refine JL.s (e_storeRow (i := 2) (xs' := ints_ (M.setI ss player ((M.getI ss player) + 1))) ty_2.h rfl rfl rfl rfl rfl rfl (ints_lt (i := player.toNat) (by omega)) (ints_setL (i := player.toNat) (by omega))) ?_
   rintro _ _ _ ⟨rfl, rfl⟩ _
   refine znl ?_
   refine zN <| Qm rfl <| Qm rfl <| zbs fun b12 => ?_
   refine JL.e (e_append (i := 4) (n' := (pth ++ [(M.after r player place)]).length) (vs' := ints_ (pth ++ [(M.after r player place)])) el_24 rfl rfl rfl rfl (src_row (i := 0) und_24 rfl rfl) (by omega) (by omega) (by first | omega | (simp only [List.length_append, List.length_cons, List.length_nil] <;> omega)) (by simp [ints_])) ?_
   rintro v14 _ _ ⟨⟨g15, rfl⟩, rfl⟩ _
   refine JL.fact (row_form' (i := 4) rfl) (fun hf16 => ?_)
   obtain ⟨A16, c16, rfl, bl16, bh16⟩ := hf16
   refine znl ?_
   refine Qa rfl <| zG <| Qm rfl <| Qs rfl rfl <| Qa rfl <| JL.nil <| Js.blockEnd ?_
   refine zf [1, 1, 1, 1] fun GG17 => ?_
   refine zn ?_
   exact zag ⟨k - 1, M.after r player place, ps, M.setI ss player ((M.getI ss player) + 1), pth ++ [(M.after r player place)], _, _, _, _, rfl, rfl, by exact hS2, by first | exact hG2 | exact hG, zt, zt, by first | omega | (simp only [List.length_append, List.length_cons, List.length_nil]; omega), zt, zu, zu, rfl⟩ x6 (by exact hm2)
  have hq0 : ¬ (M.after r player place) = -1 := by simpa using h9
  have hS2 : M.sow r player from_ (k - 1).toNat (M.after r player place) (M.setI ps (M.after r player place) (M.getI ps (M.after r player place) + 1)) ss (pth ++ [(M.after r player place)]) = M.sow r player from_ (M.getI s_pits from_).toNat from_ (M.setI s_pits from_ 0) s_stores path := by rw [← hS, show k.toNat = (k - 1).toNat + 1 by omega, M.sow_succ hq, if_neg (by omega)]
  have hG2 := hG.putPit (k := (M.after r player place)) (by omega) (by omega) ha.2
  have hpq := hG.pit (M.after r player place)
  refine Js.region <| Qm rfl <| Qc rfl <| Qf fh rfl <| Q0 0 rfl rfl rfl <| Qm rfl <| Qq (p_indexAddr el_24 rfl rfl (by omega) (by omega) rfl) <| Qw (q_load1 ty_2.h rfl (Mem.row (i := 1) rfl (ints_getI (i := M.after r player place) (by omega)))) <| Qp rfl rfl <| Qq (p_indexAddr el_24 rfl rfl (by omega) (by omega) rfl) ?_
  refine JL.s (e_storeRow (i := 1) (xs' := ints_ (M.setI ps (M.after r player place) ((M.getI ps (M.after r player place)) + 1))) ty_2.h rfl rfl rfl rfl rfl rfl (ints_lt (i := (M.after r player place).toNat) (by omega)) (ints_setL (i := (M.after r player place).toNat) (by omega))) ?_
  rintro _ _ _ ⟨rfl, rfl⟩ _
  refine znl ?_
  refine zN <| Qm rfl <| Qm rfl <| zbs fun b20 => ?_
  refine JL.e (e_append (i := 4) (n' := (pth ++ [(M.after r player place)]).length) (vs' := ints_ (pth ++ [(M.after r player place)])) el_24 rfl rfl rfl rfl (src_row (i := 0) und_24 rfl rfl) (by omega) (by omega) (by first | omega | (simp only [List.length_append, List.length_cons, List.length_nil] <;> omega)) (by simp [ints_])) ?_
  rintro v22 _ _ ⟨⟨g23, rfl⟩, rfl⟩ _
  refine JL.fact (row_form' (i := 4) rfl) (fun hf24 => ?_)
  obtain ⟨A24, c24, rfl, bl24, bh24⟩ := hf24
  refine znl ?_
  refine Qa rfl <| zG <| Qm rfl <| Qs rfl rfl <| Qa rfl <| JL.nil <| Js.blockEnd ?_
  refine zf [1, 1, 1, 1] fun GG25 => ?_
  refine zn ?_
  exact zag ⟨k - 1, M.after r player place, M.setI ps (M.after r player place) ((M.getI ps (M.after r player place)) + 1), ss, pth ++ [(M.after r player place)], _, _, _, _, rfl, rfl, by exact hS2, by first | exact hG2 | exact hG, zt, zt, by first | omega | (simp only [List.length_append, List.length_cons, List.length_nil]; omega), zt, zu, zu, rfl⟩ x6 (by exact hm2)
 have hL : M.lap r player from_ (M.Sw.mk s_pits s_stores s_last s_laps) path = (⟨ps, ss, place, s_laps + 1⟩, pth) := by unfold M.lap; dsimp only; rw [← hS]; simp [show k.toNat = 0 by omega, M.sow]
 clear hS
 refine zx ?_
 refine zS <| Qm rfl <| Qm rfl <| Qc rfl <| Qf fh rfl <| zw 0 rfl rfl rfl ?_
 refine zN <| Qm rfl <| Qc rfl <| Qf fh rfl <| Q0 0 rfl rfl rfl <| Qp rfl rfl <| Qc rfl <| Qf fh rfl <| zw 0 rfl rfl rfl ?_
 refine zN <| Qm rfl <| Qa rfl <| JL.nil ?_
 refine zrb [0, 0, 0, 0] hb x6 ?_
 have hN1 : ((M.lap r player from_ (M.Sw.mk s_pits s_stores s_last s_laps) path).1.pits).length = s_pits.length := by first | (rw [hL]; done) | (rw [hL]; show ps.length = _; omega) | (rw [hL]; show ss.length = _; omega)
 have hE1 : (M.lap r player from_ (M.Sw.mk s_pits s_stores s_last s_laps) path).1.pits = ps := by rw [hL]
 have hN2 : ((M.lap r player from_ (M.Sw.mk s_pits s_stores s_last s_laps) path).1.stores).length = s_stores.length := by first | (rw [hL]; done) | (rw [hL]; show ps.length = _; omega) | (rw [hL]; show ss.length = _; omega)
 have hE2 : (M.lap r player from_ (M.Sw.mk s_pits s_stores s_last s_laps) path).1.stores = ss := by rw [hL]
 have hE3 : (M.lap r player from_ (M.Sw.mk s_pits s_stores s_last s_laps) path).1.last = place := by rw [hL]
 have hE4 : (M.lap r player from_ (M.Sw.mk s_pits s_stores s_last s_laps) path).1.laps = (s_laps + 1) := by rw [hL]
 have hN5 : ((M.lap r player from_ (M.Sw.mk s_pits s_stores s_last s_laps) path).2).length = pth.length := by first | (rw [hL]; done) | (rw [hL]; show ps.length = _; omega) | (rw [hL]; show ss.length = _; omega)
 have hE5 : (M.lap r player from_ (M.Sw.mk s_pits s_stores s_last s_laps) path).2 = pth := by rw [hL]
 refine ⟨(some ⟨b2, 0, none⟩), cs_0, gs_0, (some ⟨b3, 0, none⟩), cs_1, gs_1, A6_4, c6_4, g6_4, (by first | rfl | (rw [hN5]; done) | (rw [hN5]; rfl) | (rw [hE5]; done) | (rw [hE5]; rfl)), ?_, ?_, ?_, ?_, ?_, ?_, ?_⟩
 · rw [hN1, hE1, hN2, hE2, hE3, hE4, hN5, hE5]
 all_goals (first | (rw [hN1, hE1, hN2, hE2, hE3, hE4, hN5, hE5]; omega) | omega | (simp only [*]; omega))

set_option maxHeartbeats 1000000 in
theorem c_spec_l05Sow (r : M.Rul) {v_r : Value} (p : M.Pos) {v_p : Value} (from_ : Int) {w : World} (h_r : (Ty.ref (cRules r)).ok w v_r) (h_p : (Ty.ref (cPosition p)).ok w v_p) (r0 : 2 ≤ r.pits := by exact om_) (r1 : r.pits ≤ 8 := by exact om_) (r2 : p.player = 0 ∨ p.player = 1 := by exact om_) (r3 : 0 ≤ from_ := by exact om_) (r4 : from_ < 2 * r.pits := by exact om_) (r5 : M.Good r p.pits p.stores 0 := by exact om_) (r6 : 0 < M.getI p.pits from_ := by exact om_) : Ret Tryd.prog 135 [v_r, v_p, .int .i64 from_] w (Ty.tup [Ty.agg (cSown ((M.sowT r p from_).1)), Ty.ints 2 ((M.sowT r p from_).2.1), Ty.bool ((M.sowT r p from_).2.2)]) := by
 have l1 := r5.lp
 have l2 := r5.ls
 obtain ⟨ha, hb1, hc1, hd, he, hf⟩ := M.lap_keeps (s := ⟨p.pits, p.stores, 0, 0⟩) r [] r1 r0 r2 r3 r4 r5
 replace hf : (M.lap r p.player from_ (M.Sw.mk p.pits p.stores 0 0) []).1.laps = 1 := hf
 replace hd : (M.lap r p.player from_ (M.Sw.mk p.pits p.stores 0 0) []).2.length ≤ 96 := by simpa using hd
 revert v_r; apply opn
 intro b1 o1 hr1
 revert v_p; apply opn
 intro b4 o4 A2 c2 h2 bl2 bh2 A3 c3 h3 bl3 bh3 hr4
 refine enter @Tryd.func135 @Tryd.ntmps135 rfl rfl ?_
 refine zent ?_
 refine zS <| za zeh fun b5 => Qa rfl <| Qa rfl <| zJ ?_
 refine zk [0, 1, 2, 6] (fun F U l os u => ∃ (b8 : Nat) (A6 : Option Addr) (c6 : Nat) (A7 : Option Addr) (c7 : Nat), l = F [(9, .pointer (some ⟨b8, 0, none⟩))] ∧ os = [boxO b8 [.slice A6 p.pits.length c6, .slice A7 p.stores.length c7, .int .i64 0, .int .i64 0] 137, rowO 2 1 (.slice A7 p.stores.length c7) p.stores.length (ints_ p.stores) [], rowO 2 1 (.slice A6 p.pits.length c6) p.pits.length (ints_ p.pits) []] ++ U [] ∧ (p.pits.length ≤ c6) ∧ (c6 ≤ 9223372036854775807) ∧ (p.stores.length ≤ c7) ∧ (c7 ≤ 9223372036854775807)) ?_ ?_
 ·
  refine zdr [12] ?_
  refine JH.p 0 rfl (p_move rfl) ?_
  refine JH.p 1 rfl (p_nilCheck rfl) ?_
  refine JH.p 2 rfl (p_fieldAddr fld_34_0.h rfl) ?_
  refine JH.w 3 rfl (fun os' u' hv => q_load1 ty_24.h rfl (Mem.pub ((hr4.vis hv) 0 _ rfl))) ?_
  refine JH.p 5 rfl (p_move rfl) ?_
  refine JH.p 6 rfl (p_nilCheck rfl) ?_
  refine JH.p 7 rfl (p_fieldAddr fld_34_1.h rfl) ?_
  refine JH.w 8 rfl (fun os' u' hv => q_load1 ty_24.h rfl (Mem.pub ((hr4.vis hv) 1 _ rfl))) ?_
  refine y2 4 11 ?_ ?_
  ·
   refine ycs rfl rfl (fun w hw => c_spec_l00Own p.pits (ok_ hw)) ?_
   intro A15 c15 bl15 bh15
   refine y2 9 11 ?_ ?_
   ·
    refine ycs rfl rfl (fun w hw => c_spec_l00Own p.stores (ok_ hw)) ?_
    intro A16 c16 bl16 bh16
    refine JH.p 10 rfl (q_bld) ?_
    refine y1 11 ?_
    refine ya rfl fun b17 => ?_
    refine y1 12 ?_
    refine yst rfl rfl rfl ?_
    refine yd ?_
    exact zm ⟨_, _, _, _, _, rfl, rfl, zt, zt, zt, zt⟩ (Up.refl _ _)
   refine ya rfl fun b18 => ?_
   refine y1 9 ?_
   refine ycs rfl rfl (fun w hw => c_spec_l00Own p.stores (ok_ hw)) ?_
   intro A19 c19 bl19 bh19
   refine JH.p 10 rfl (q_bld) ?_
   refine y1 12 ?_
   refine yst rfl rfl rfl ?_
   refine yd ?_
   refine zh [1, 0, 0, 0] ?_
   exact zm ⟨_, _, _, _, _, rfl, rfl, zt, zt, zt, zt⟩ (Up.refl _ _)
  refine ya rfl fun b20 => ?_
  refine y1 4 ?_
  refine ycs rfl rfl (fun w hw => c_spec_l00Own p.pits (ok_ hw)) ?_
  intro A21 c21 bl21 bh21
  refine y1 9 ?_
  refine ycs rfl rfl (fun w hw => c_spec_l00Own p.stores (ok_ hw)) ?_
  intro A22 c22 bl22 bh22
  refine JH.p 10 rfl (q_bld) ?_
  refine y1 12 ?_
  refine yst rfl rfl rfl ?_
  refine yd ?_
  refine zh [2, 0, 0, 0] ?_
  exact zm ⟨_, _, _, _, _, rfl, rfl, zt, zt, zt, zt⟩ (Up.refl _ _)
 rintro _ _ u14 ⟨b8, A6, c6, A7, c7, rfl, rfl, f14_0, f14_1, f14_2, f14_3⟩ x14
 refine zn ?_
 refine zS <| Qm rfl <| Qm rfl <| Qc rfl <| Qf fh rfl <| QC ((hr4.vis x14.vis) 2 _ rfl) rfl <| Qm rfl <| zbs fun b23 => ?_
 refine zhl [1, 2, 1, 0] ?_
 refine zB 4 sp_ rfl (fun w hb hw => c_spec_l05Lap r p.pits p.stores 0 0 p.player from_ [] hb (ok_ hw) (r3 := r3) (r5 := r5) (r6 := r6) (r9 := (by simp))) ?_
 rintro _ _ G25 ⟨A25s_0, c25s_0, g25s_0, A25s_1, c25s_1, g25s_1, A25_r, c25_r, g25_r, rfl, rfl, bl25_0, bl25_1, bl25_2, bl25_3, bl25_4, bl25_5⟩
 refine znl ?_
 refine Qa rfl <| zJ <| Js.block ?_
 refine zl [0, 1, 6, 9] (fun F U l os u m => ∃ (sw : M.Sw) (path : List Int) (A26_10 : Option Addr) (c26_10 : Nat) (g26_10 : List Nat) (A26_9_0 : Option Addr) (c26_9_0 : Nat) (g26_9_0 : List Nat) (A26_9_1 : Option Addr) (c26_9_1 : Nat) (g26_9_1 : List Nat) (G26_4 : List Nat), l = F [(10, .slice A26_10 path.length c26_10)] ∧ os = U [some (boxO b8 [.slice A26_9_0 sw.pits.length c26_9_0, .slice A26_9_1 sw.stores.length c26_9_1, .int .i64 sw.last, .int .i64 sw.laps] 137), some (rowO 2 1 (.slice A26_9_0 sw.pits.length c26_9_0) sw.pits.length (ints_ sw.pits) g26_9_0), some (rowO 2 1 (.slice A26_9_1 sw.stores.length c26_9_1) sw.stores.length (ints_ sw.stores) g26_9_1), some (rowO 2 1 (.slice A26_10 path.length c26_10) path.length (ints_ path) g26_10), some (anyO G26_4)] ∧ (M.moreT r p.player sw path = (M.mvT r p.player 100 from_ ⟨p.pits, p.stores, 0, 0⟩ [])) ∧ (M.Good r sw.pits sw.stores 0) ∧ (-1 ≤ sw.last) ∧ (sw.last < 2 * r.pits) ∧ (1 ≤ sw.laps) ∧ (sw.laps ≤ 100) ∧ (path.length ≤ 96 * sw.laps) ∧ (path.length ≤ c26_10) ∧ (c26_10 ≤ 9223372036854775807) ∧ (sw.pits.length ≤ c26_9_0) ∧ (c26_9_0 ≤ 9223372036854775807) ∧ (sw.stores.length ≤ c26_9_1) ∧ (c26_9_1 ≤ 9223372036854775807) ∧ m = (101 - sw.laps).toNat) ⟨(M.lap r p.player from_ (M.Sw.mk p.pits p.stores 0 0) []).1, (M.lap r p.player from_ (M.Sw.mk p.pits p.stores 0 0) []).2, _, _, _, _, _, _, _, _, _, _, rfl, rfl, by exact (M.mvT_moreT (s := ⟨p.pits, p.stores, 0, 0⟩) (Int.le_refl 0) (show (0 : Int) ≤ 99 by decide)).symm, by exact ha, zt, zt, zt, zt, by omega, zu, zu, zu, zu, zu, zu, rfl⟩ ?_
 rintro _ _ u26 _ ⟨sw, path, A26_10, c26_10, g26_10, A26_9_0, c26_9_0, g26_9_0, A26_9_1, c26_9_1, g26_9_1, G26_4, rfl, rfl, hS, hG, q0, q1, la0, la1, hl, f26_7, f26_8, f26_9, f26_10, f26_11, f26_12, rfl⟩ x26
 refine zn ?_
 have l3 := hG.lp
 have l4 := hG.ls
 refine Js.seq <| zS <| Qm rfl <| Qc rfl <| Qf fh rfl <| QC ((hr1.vis (x14.vis.trans x26.vis)) 4 _ rfl) rfl <| Qm rfl <| zg (Gd.t1 rfl rfl rfl) (fun hc => p_fieldAddr fld_137_2.h rfl) <| zgq (Gd.t1 rfl rfl rfl) (fun hc => q_load1 ty_2.h (gh hc rfl) (Mem.box (i := 0) rfl rfl)) <| zg (Gd.t1 rfl rfl rfl) (fun hc => p_geq (gh hc rfl) rfl) <| Qq (p_pickAnd rfl rfl rfl) <| Qm rfl <| zg (Gd.t1 rfl rfl rfl) (fun hc => p_fieldAddr fld_137_0.h rfl) <| zgq (Gd.t1 rfl rfl rfl) (fun hc => q_load1 ty_24.h (gh hc rfl) (Mem.box (i := 0) rfl rfl)) ?_
 refine zg (Gd.t1 rfl rfl rfl) (fun hc => p_fieldAddr fld_137_2.h rfl) <| zgq (Gd.t1 rfl rfl rfl) (fun hc => q_load1 ty_2.h (gh hc rfl) (Mem.box (i := 0) rfl rfl)) ?_
 refine JL.fact (row_some (i := 1) rfl (by omega)) (fun hf28 => ?_)
 obtain ⟨b28, rfl⟩ := hf28
 refine zg (Gd.t1 rfl rfl rfl) (fun hc => p_indexAddr el_24 (gh hc rfl) (gh hc rfl) (by have hc9 := hc; (try simp only [Bool.and_eq_true, decide_eq_true_eq] at hc9); omega) (by have hc9 := hc; (try simp only [Bool.and_eq_true, decide_eq_true_eq] at hc9); omega) rfl) ?_
 refine zgq (Gd.t1 rfl rfl rfl) (fun hc => q_load1 ty_2.h (gh hc rfl) (Mem.row (i := 1) rfl (ints_getI (i := sw.last) (by have hc9 := hc; (try simp only [Bool.and_eq_true, decide_eq_true_eq] at hc9); omega)))) ?_
 refine zg (Gd.t1 rfl rfl rfl) (fun hc => p_gtr (gh hc rfl) rfl) <| Qq (p_pickAnd rfl rfl rfl) <| JL.nil ?_
 refine zi (fun h29 h29' => ?_) fun h29 h29' => ?_
 ·
  have hm : M.more r sw = true := h29
  have hmm := M.more_get hm
  obtain ⟨ka, kb, kc, kd, ke, kf⟩ := M.lap_keeps r path r1 r0 r2 hmm.1 q1 hG
  have hgp := hmm.2
  refine Js.skip <| Js.block <| Js.seq <| zS <| Qf fh rfl <| Q0 0 rfl rfl rfl <| Qh rfl rfl <| JL.nil ?_
  refine zi (fun h30 h30' => ?_) fun h30 h30' => ?_
  ·
   have hT := M.sowT_no (r := r) (p := p) (frm := from_) (by rw [← hS, M.moreT_yes hm, show (100 - sw.laps).toNat = 0 by omega]; rfl)
   have hq0 : [] = ((M.sowT r p from_).1).pits := by first | (rw [hT]; done) | (rw [hT]; rfl)
   have hq1 : [] = ((M.sowT r p from_).1).stores := by first | (rw [hT]; done) | (rw [hT]; rfl)
   have hq2 : 0 = ((M.sowT r p from_).1).last := by first | (rw [hT]; done) | (rw [hT]; rfl)
   have hq3 : 0 = ((M.sowT r p from_).1).laps := by first | (rw [hT]; done) | (rw [hT]; rfl)
   have hq4 : [] = (M.sowT r p from_).2.1 := by first | (rw [hT]; done) | (rw [hT]; rfl)
   have hq5 : false = (M.sowT r p from_).2.2 := by first | (rw [hT]; done) | (rw [hT]; rfl)
   refine zS <| Qb ?_
   refine zw 5 rfl rfl rfl ?_
   refine Qa rfl <| Qa rfl <| JL.nil ?_
   exact zro (x14.trans x26)
  have hS2 : M.moreT r p.player (M.lap r p.player sw.last sw path).1 (M.lap r p.player sw.last sw path).2 = (M.mvT r p.player 100 from_ ⟨p.pits, p.stores, 0, 0⟩ []) := by rw [← hS, M.moreT_yes hm, M.mvT_moreT (by omega) (by omega)]
  refine Js.skip ?_
  refine zdr [8] ?_
  refine JH.p 0 rfl (p_move rfl) ?_
  refine JH.p 1 rfl (p_move rfl) ?_
  refine JH.p 2 rfl (p_nilCheck rfl) ?_
  refine JH.p 3 rfl (p_fieldAddr fld_34_2.h rfl) ?_
  refine JH.w 4 rfl (fun os' u' hv => q_load1 ty_2.h rfl (Mem.pub ((hr4.vis ((x14.vis.trans x26.vis).trans hv)) 2 _ rfl))) ?_
  refine JH.p 5 rfl (p_fieldAddr fld_137_2.h rfl) ?_
  refine JH.q 6 rfl (q_load1 ty_2.h rfl (Mem.box (i := 0) rfl rfl)) ?_
  refine JH.p 7 rfl (p_move rfl) ?_
  refine y1 8 ?_
  refine yB 4 sp_ rfl rfl (fun w hb hw => c_spec_l05Lap r sw.pits sw.stores sw.last sw.laps p.player sw.last path hb (ok_ hw) (r3 := hmm.1) (r5 := hG)) ?_
  rintro _ _ G31 ⟨A31s_0, c31s_0, g31s_0, A31s_1, c31s_1, g31s_1, A31_r, c31_r, g31_r, rfl, rfl, bl31_0, bl31_1, bl31_2, bl31_3, bl31_4, bl31_5⟩
  refine znh ?_
  refine JH.p 9 rfl (p_assign rfl) ?_
  refine yd ?_
  refine Js.blockEnd ?_
  refine zd [0, 0, 0, 0, 1, 1] rfl fun u32 x32 => ?_
  exact zag ⟨(M.lap r p.player sw.last sw path).1, (M.lap r p.player sw.last sw path).2, _, _, _, _, _, _, _, _, _, _, rfl, rfl, by exact hS2, by exact ka, zt, zt, zt, zt, zt, zu, zu, zu, zu, zu, zu, rfl⟩ (x26.trans x32)
 have hm : M.more r sw = false := h29
 have hT := M.sowT_done (by rw [← hS]; exact M.moreT_no hm)
 refine zx ?_
 have hq0 : sw.pits = ((M.sowT r p from_).1).pits := by first | (rw [hT]; done) | (rw [hT]; rfl)
 have hq1 : sw.stores = ((M.sowT r p from_).1).stores := by first | (rw [hT]; done) | (rw [hT]; rfl)
 have hq2 : sw.last = ((M.sowT r p from_).1).last := by first | (rw [hT]; done) | (rw [hT]; rfl)
 have hq3 : sw.laps = ((M.sowT r p from_).1).laps := by first | (rw [hT]; done) | (rw [hT]; rfl)
 have hq4 : path = (M.sowT r p from_).2.1 := by first | (rw [hT]; done) | (rw [hT]; rfl)
 have hq5 : true = (M.sowT r p from_).2.2 := by first | (rw [hT]; done) | (rw [hT]; rfl)
 refine zS <| Q9 0 rfl rfl ?_
 refine Qm rfl <| zw 5 rfl rfl rfl ?_
 refine Qa rfl <| Qa rfl <| JL.nil ?_
 exact zro (x14.trans x26)

set_option maxHeartbeats 1000000 in
theorem c_spec_l05Move (r : M.Rul) {v_r : Value} (p : M.Pos) {v_p : Value} (move : Int) {w : World} (h_r : (Ty.ref (cRules r)).ok w v_r) (h_p : (Ty.ref (cPosition p)).ok w v_p) (r0 : p.pits.length ≤ 4194304 := by exact om_) (r1 : p.stores.length ≤ 4194304 := by exact om_) : Ret Tryd.prog 93 [v_r, v_p, .int .i64 move] w (Ty.tup [Ty.agg (cSown ((M.sowMove r p move).2.1)), Ty.ints 2 ((M.sowMove r p move).2.2), Ty.int ((M.sowMove r p move).1)]) := by
 revert v_r; apply opn
 intro b1 o1 hr1
 revert v_p; apply opn
 intro b4 o4 A2 c2 h2 bl2 bh2 A3 c3 h3 bl3 bh3 hr4
 refine enter @Tryd.func93 @Tryd.ntmps93 rfl rfl ?_
 refine zent ?_
 refine zS <| za zeh fun b5 => Qa rfl <| Qa rfl <| zN <| Qm rfl <| Qm rfl <| Qm rfl <| zv rfl (fun w hw => c_spec_l05Code r p move (ok_ hw) (ok_ hw)) <| Qa rfl <| zJ <| zS <| Qm rfl <| Qd rfl rfl ?_
 refine JL.nil ?_
 refine zi (fun h6 h6' => ?_) fun h6 h6' => ?_
 ·
  have hT := M.sowMove_code (r := r) (p := p) (move := move) (by simpa using h6)
  have hq0 : [] = ((M.sowMove r p move).2.1).pits := by first | (rw [hT]; done) | (rw [hT]; rfl)
  have hq1 : [] = ((M.sowMove r p move).2.1).stores := by first | (rw [hT]; done) | (rw [hT]; rfl)
  have hq2 : 0 = ((M.sowMove r p move).2.1).last := by first | (rw [hT]; done) | (rw [hT]; rfl)
  have hq3 : 0 = ((M.sowMove r p move).2.1).laps := by first | (rw [hT]; done) | (rw [hT]; rfl)
  have hq4 : [] = (M.sowMove r p move).2.2 := by first | (rw [hT]; done) | (rw [hT]; rfl)
  have hq5 : (M.sowCode r p move) = (M.sowMove r p move).1 := by first | (rw [hT]; done) | (rw [hT]; rfl)
  refine zS <| Qb ?_
  refine Qm rfl <| zw 0 rfl rfl rfl ?_
  refine Qa rfl <| Qa rfl <| JL.nil ?_
  exact zro (Up.refl _ _)
 have hc : M.sowCode r p move = 0 := by simpa using h6
 obtain ⟨hok, m0, m1, hg⟩ := M.sowCode_ok hc
 obtain ⟨g1, g2, g3, g4, g5, g6, g7⟩ := M.okP_bd hok
 have hq := M.mul_bd g7 g1 g2
 have hG := M.Good.of_ok hok
 refine Js.skip <| Js.seq ?_
 refine zk [6] (fun F U l os u => ∃ (b12 : Nat) (A11 : Option Addr) (c11 : Nat) (A9 : Option Addr) (c9 : Nat) (A10 : Option Addr) (c10 : Nat), l = F [(10, .pointer (some ⟨b12, 0, none⟩)), (11, .slice A11 (((M.sowT r p ((p.player * r.pits) + move)).2.1).length) c11), (12, .bool ((M.sowT r p ((p.player * r.pits) + move)).2.2))] ∧ os = [boxO b12 [.slice A9 ((((M.sowT r p ((p.player * r.pits) + move)).1).pits).length) c9, .slice A10 ((((M.sowT r p ((p.player * r.pits) + move)).1).stores).length) c10, .int .i64 (((M.sowT r p ((p.player * r.pits) + move)).1).last), .int .i64 (((M.sowT r p ((p.player * r.pits) + move)).1).laps)] 137, rowO 2 1 (.slice A11 (((M.sowT r p ((p.player * r.pits) + move)).2.1).length) c11) (((M.sowT r p ((p.player * r.pits) + move)).2.1).length) (ints_ ((M.sowT r p ((p.player * r.pits) + move)).2.1)) [], rowO 2 1 (.slice A10 ((((M.sowT r p ((p.player * r.pits) + move)).1).stores).length) c10) ((((M.sowT r p ((p.player * r.pits) + move)).1).stores).length) (ints_ (((M.sowT r p ((p.player * r.pits) + move)).1).stores)) [], rowO 2 1 (.slice A9 ((((M.sowT r p ((p.player * r.pits) + move)).1).pits).length) c9) ((((M.sowT r p ((p.player * r.pits) + move)).1).pits).length) (ints_ (((M.sowT r p ((p.player * r.pits) + move)).1).pits)) []] ++ U [] ∧ (((M.sowT r p ((p.player * r.pits) + move)).2.1).length ≤ c11) ∧ (c11 ≤ 9223372036854775807) ∧ ((((M.sowT r p ((p.player * r.pits) + move)).1).pits).length ≤ c9) ∧ (c9 ≤ 9223372036854775807) ∧ ((((M.sowT r p ((p.player * r.pits) + move)).1).stores).length ≤ c10) ∧ (c10 ≤ 9223372036854775807)) ?_ ?_
 ·
  refine zdr [19] ?_
  refine JH.p 0 rfl (p_move rfl) ?_
  refine JH.p 1 rfl (p_move rfl) ?_
  refine JH.p 2 rfl (p_move rfl) ?_
  refine JH.p 3 rfl (p_nilCheck rfl) ?_
  refine JH.p 4 rfl (p_fieldAddr fld_34_2.h rfl) ?_
  refine JH.w 5 rfl (fun os' u' hv => q_load1 ty_2.h rfl (Mem.pub ((hr4.vis hv) 2 _ rfl))) ?_
  refine JH.p 6 rfl (p_move rfl) ?_
  refine JH.p 7 rfl (p_nilCheck rfl) ?_
  refine JH.p 8 rfl (p_fieldAddr fld_33_0.h rfl) ?_
  refine JH.w 9 rfl (fun os' u' hv => q_load1 ty_2.h rfl (Mem.pub ((hr1.vis hv) 0 _ rfl))) ?_
  refine JH.p 10 rfl (p_mul rfl rfl (IntWalk.i64_in _ (by omega))) ?_
  refine JH.p 11 rfl (p_move rfl) ?_
  refine JH.p 12 rfl (p_add rfl rfl (IntWalk.i64_in _ (by omega))) ?_
  refine y2 13 18 ?_ ?_
  ·
   refine yc rfl rfl (fun w hw => c_spec_l05Sow r p ((p.player * r.pits) + move) (ok_ hw) (ok_ hw) (r5 := hG) (r6 := hg)) ?_
   intro A22 c22 bl22 bh22 A23 c23 bl23 bh23 A24 c24 bl24 bh24
   refine JH.p 14 rfl (p_move rfl) ?_
   refine JH.p 15 rfl (p_extract rfl rfl) ?_
   refine JH.p 16 rfl (p_extract rfl rfl) ?_
   refine JH.p 17 rfl (p_extract rfl rfl) ?_
   refine y1 18 ?_
   refine ya rfl fun b25 => ?_
   refine y1 19 ?_
   refine yst rfl rfl rfl ?_
   refine JH.p 20 rfl (p_assign rfl) ?_
   refine JH.p 21 rfl (p_assign rfl) ?_
   refine yd ?_
   exact zm ⟨_, _, _, _, _, _, _, rfl, rfl, zt, zt, zt, zt, zt, zt⟩ (Up.refl _ _)
  refine ya rfl fun b26 => ?_
  refine y1 13 ?_
  refine yc rfl rfl (fun w hw => c_spec_l05Sow r p ((p.player * r.pits) + move) (ok_ hw) (ok_ hw) (r5 := hG) (r6 := hg)) ?_
  intro A29 c29 bl29 bh29 A30 c30 bl30 bh30 A31 c31 bl31 bh31
  refine JH.p 14 rfl (p_move rfl) ?_
  refine JH.p 15 rfl (p_extract rfl rfl) ?_
  refine JH.p 16 rfl (p_extract rfl rfl) ?_
  refine JH.p 17 rfl (p_extract rfl rfl) ?_
  refine y1 19 ?_
  refine yst rfl rfl rfl ?_
  refine JH.p 20 rfl (p_assign rfl) ?_
  refine JH.p 21 rfl (p_assign rfl) ?_
  refine yd ?_
  refine zh [3, 0, 0, 0, 0] ?_
  exact zm ⟨_, _, _, _, _, _, _, rfl, rfl, zt, zt, zt, zt, zt, zt⟩ (Up.refl _ _)
 rintro _ _ u19 ⟨b12, A11, c11, A9, c9, A10, c10, rfl, rfl, f19_0, f19_1, f19_2, f19_3, f19_4, f19_5⟩ x19
 refine zn ?_
 refine Js.seq <| zS <| Qm rfl <| Qt rfl <| JL.nil ?_
 refine zi (fun h32 h32' => ?_) fun h32 h32' => ?_
 ·
  have hT := M.sowMove_fail hc (by simpa using h32)
  have hq0 : [] = ((M.sowMove r p move).2.1).pits := by first | (rw [hT]; done) | (rw [hT]; rfl)
  have hq1 : [] = ((M.sowMove r p move).2.1).stores := by first | (rw [hT]; done) | (rw [hT]; rfl)
  have hq2 : 0 = ((M.sowMove r p move).2.1).last := by first | (rw [hT]; done) | (rw [hT]; rfl)
  have hq3 : 0 = ((M.sowMove r p move).2.1).laps := by first | (rw [hT]; done) | (rw [hT]; rfl)
  have hq4 : [] = (M.sowMove r p move).2.2 := by first | (rw [hT]; done) | (rw [hT]; rfl)
  have hq5 : 10 = (M.sowMove r p move).1 := by first | (rw [hT]; done) | (rw [hT]; rfl)
  refine zS <| Qb ?_
  refine zw 4 rfl rfl rfl ?_
  refine Qa rfl <| Qa rfl <| JL.nil ?_
  exact zro x19
 have hT := M.sowMove_T2 hc (by simpa using h32)
 have hq0 : (((M.sowT r p ((p.player * r.pits) + move)).1).pits) = ((M.sowMove r p move).2.1).pits := by first | (rw [hT]; done) | (rw [hT]; rfl)
 have hq1 : (((M.sowT r p ((p.player * r.pits) + move)).1).stores) = ((M.sowMove r p move).2.1).stores := by first | (rw [hT]; done) | (rw [hT]; rfl)
 have hq2 : (((M.sowT r p ((p.player * r.pits) + move)).1).last) = ((M.sowMove r p move).2.1).last := by first | (rw [hT]; done) | (rw [hT]; rfl)
 have hq3 : (((M.sowT r p ((p.player * r.pits) + move)).1).laps) = ((M.sowMove r p move).2.1).laps := by first | (rw [hT]; done) | (rw [hT]; rfl)
 have hq4 : ((M.sowT r p ((p.player * r.pits) + move)).2.1) = (M.sowMove r p move).2.2 := by first | (rw [hT]; done) | (rw [hT]; rfl)
 have hq5 : 0 = (M.sowMove r p move).1 := by first | (rw [hT]; done) | (rw [hT]; rfl)
 refine Js.skip <| zS <| Q9 0 rfl rfl ?_
 refine Qm rfl <| zw 4 rfl rfl rfl ?_
 refine Qa rfl <| Qa rfl <| JL.nil ?_
 exact zro x19

end Go.Proofs.YtdhmdaoijnnfjaaDoor


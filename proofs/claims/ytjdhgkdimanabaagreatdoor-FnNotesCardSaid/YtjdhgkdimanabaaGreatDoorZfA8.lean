/- Walks: G5. -/
import Derived.Test.YtjdhgkdimanabaaGreatDoorZfA3
import Derived.Test.YtjdhgkdimanabaaGreatDoorZfA7
import Derived.Test.YtjdhgkdimanabaaGreatDoorZfA4
import Derived.Test.YtjdhgkdimanabaaGreatDoorZfA2
import Derived.Test.YtjdhgkdimanabaaGreatDoorZfA5
import Derived.Test.YtjdhgkdimanabaaGreatDoorZfA1
set_option linter.unusedSimpArgs false
set_option linter.unusedVariables false
set_option maxRecDepth 100000
attribute [local irreducible] Go.Proofs.YtjdhgkdimanabaaGreatDoor.gv
set_option maxHeartbeats 4000000
namespace Go.Proofs.YtjdhgkdimanabaaGreatDoor
open Go.RowKit
theorem c_impl_Game_played (g : M.Gam) {v_g : Value} {w : World} (h_g : (Ty.agg (cGame g)).ok w v_g) (r0 : g.start.pits.length ≤ 4194304 := by exact om_) (r1 : g.start.stores.length ≤ 4194304 := by exact om_) (r2 : g.moves.length ≤ 4194304 := by exact om_) (r3 : g.now.pits.length ≤ 4194304 := by exact om_) (r4 : g.now.stores.length ≤ 4194304 := by exact om_) : Ret Tryz.prog 71 [v_g] w (Ty.tup [Ty.sl 28 3 (M.playedP g).length (lPosition (M.playedP g)), Ty.sl 87 6 (M.playedR g).length (lResultL (M.playedR g)), Ty.bool (M.playedOk g)]) := by
 revert v_g; apply opn
 intro A1 c1 h1 bl1 bh1 A2 c2 h2 bl2 bh2 A3 c3 h3 bl3 bh3 A4 c4 h4 bl4 bh4 A5 c5 h5 bl5 bh5
 refine enter @Tryz.func71 @Tryz.ntmps71 rfl rfl ?_
 refine zent ?_
 refine zS <| zb rfl fun b6 => Qa rfl <| Qa rfl <| Qa rfl <| zJ ?_
 refine zk [1] (fun F U l os u => ∃ (b12 b8 b10 : Nat) (A7_0 : Option Addr) (c7_0 : Nat) (A7_1 : Option Addr) (c7_1 : Nat) (f7 : List Nat), l = F [(5, .pointer (some ⟨b12, 0, none⟩)), (6, .slice (some ⟨b8, 0, none⟩) 1 1), (7, .slice (some ⟨b10, 0, none⟩) 0 0)] ∧ os = [boxO b12 [.slice A1 g.start.pits.length c1, .slice A2 g.start.stores.length c2, .int .i64 g.start.player] 28, rowO 87 6 (.slice (some ⟨b10, 0, none⟩) 0 0) 0 [] [], rowO 28 3 (.slice (some ⟨b8, 0, none⟩) 1 1) 1 [.slice A7_0 g.start.pits.length c7_0, .slice A7_1 g.start.stores.length c7_1, .int .i64 g.start.player] [], ownC (cPosition g.start) [.slice A7_0 g.start.pits.length c7_0, .slice A7_1 g.start.stores.length c7_1, .int .i64 g.start.player] f7] ++ U []) ?_ ?_
 ·
  refine zdr [8] ?_
  refine jF 0 fld_48_1 rfl rfl ?_
  refine JH.q 1 rfl (L9 0 rfl rfl) ?_
  refine jF 2 fld_48_1 rfl rfl ?_
  refine JH.q 3 rfl (L9 0 rfl rfl) ?_
  refine y3 4 6 7 ?_ ?_ ?_
  ·
   refine ycs rfl rfl (fun w hw => c_impl_Position_copied g.start (ok_ hw)) ?_
   intro A96_0 c96_0 bl96_0 bh96_0 A96_1 c96_1 bl96_1 bh96_1 f96
   refine y3 5 6 7 ?_ ?_ ?_
   ·
    refine ybs rfl fun b97 => ?_
    refine y2 6 7 ?_ ?_
    ·
     refine ybs rfl fun b99 => ?_
     refine y1 7 ?_
     refine ya rfl fun b101 => ?_
     refine y1 8 ?_
     refine yst rfl rfl rfl ?_
     refine jA 9 rfl rfl ?_
     refine jA 10 rfl rfl ?_
     refine yd ?_
     exact zm ⟨_, _, _, _, _, _, _, _, rfl, rfl⟩ (Up.refl _ _)
    refine ya rfl fun b102 => ?_
    refine y2 6 8 ?_ ?_
    ·
     refine ybs rfl fun b103 => ?_
     refine y1 8 ?_
     refine yst rfl rfl rfl ?_
     refine jA 9 rfl rfl ?_
     refine jA 10 rfl rfl ?_
     refine yd ?_
     refine zh [1, 0, 0, 0, 0] ?_
     exact zm ⟨_, _, _, _, _, _, _, _, rfl, rfl⟩ (Up.refl _ _)
    refine yst rfl rfl rfl ?_
    refine jA 9 rfl rfl ?_
    refine y1 6 ?_
    refine ybs rfl fun b105 => ?_
    refine jA 10 rfl rfl ?_
    refine yd ?_
    refine zh [1, 0, 0, 0, 0] ?_
    exact zm ⟨_, _, _, _, _, _, _, _, rfl, rfl⟩ (Up.refl _ _)
   ·
    refine ybs rfl fun b107 => ?_
    refine y2 5 7 ?_ ?_
    ·
     refine ybs rfl fun b109 => ?_
     refine y1 7 ?_
     refine ya rfl fun b111 => ?_
     refine y1 8 ?_
     refine yst rfl rfl rfl ?_
     refine jA 9 rfl rfl ?_
     refine jA 10 rfl rfl ?_
     refine yd ?_
     refine zh [0, 1, 0, 0, 0] ?_
     exact zm ⟨_, _, _, _, _, _, _, _, rfl, rfl⟩ (Up.refl _ _)
    refine ya rfl fun b112 => ?_
    refine y2 5 8 ?_ ?_
    ·
     refine ybs rfl fun b113 => ?_
     refine y1 8 ?_
     refine yst rfl rfl rfl ?_
     refine jA 9 rfl rfl ?_
     refine jA 10 rfl rfl ?_
     refine yd ?_
     refine zh [1, 1, 0, 0, 0] ?_
     exact zm ⟨_, _, _, _, _, _, _, _, rfl, rfl⟩ (Up.refl _ _)
    refine yst rfl rfl rfl ?_
    refine y1 5 ?_
    refine ybs rfl fun b115 => ?_
    refine jA 9 rfl rfl ?_
    refine jA 10 rfl rfl ?_
    refine yd ?_
    refine zh [1, 1, 0, 0, 0] ?_
    exact zm ⟨_, _, _, _, _, _, _, _, rfl, rfl⟩ (Up.refl _ _)
   refine ya rfl fun b117 => ?_
   refine y3 5 6 8 ?_ ?_ ?_
   ·
    refine ybs rfl fun b118 => ?_
    refine y2 6 8 ?_ ?_
    ·
     refine ybs rfl fun b120 => ?_
     refine y1 8 ?_
     refine yst rfl rfl rfl ?_
     refine jA 9 rfl rfl ?_
     refine jA 10 rfl rfl ?_
     refine yd ?_
     refine zh [2, 0, 0, 0, 0] ?_
     exact zm ⟨_, _, _, _, _, _, _, _, rfl, rfl⟩ (Up.refl _ _)
    refine yst rfl rfl rfl ?_
    refine jA 9 rfl rfl ?_
    refine y1 6 ?_
    refine ybs rfl fun b122 => ?_
    refine jA 10 rfl rfl ?_
    refine yd ?_
    refine zh [2, 0, 0, 0, 0] ?_
    exact zm ⟨_, _, _, _, _, _, _, _, rfl, rfl⟩ (Up.refl _ _)
   ·
    refine ybs rfl fun b124 => ?_
    refine y2 5 8 ?_ ?_
    ·
     refine ybs rfl fun b126 => ?_
     refine y1 8 ?_
     refine yst rfl rfl rfl ?_
     refine jA 9 rfl rfl ?_
     refine jA 10 rfl rfl ?_
     refine yd ?_
     refine zh [2, 1, 0, 0, 0] ?_
     exact zm ⟨_, _, _, _, _, _, _, _, rfl, rfl⟩ (Up.refl _ _)
    refine yst rfl rfl rfl ?_
    refine y1 5 ?_
    refine ybs rfl fun b128 => ?_
    refine jA 9 rfl rfl ?_
    refine jA 10 rfl rfl ?_
    refine yd ?_
    refine zh [2, 1, 0, 0, 0] ?_
    exact zm ⟨_, _, _, _, _, _, _, _, rfl, rfl⟩ (Up.refl _ _)
   refine yst rfl rfl rfl ?_
   refine y2 5 6 ?_ ?_
   ·
    refine ybs rfl fun b130 => ?_
    refine jA 9 rfl rfl ?_
    refine y1 6 ?_
    refine ybs rfl fun b132 => ?_
    refine jA 10 rfl rfl ?_
    refine yd ?_
    refine zh [2, 0, 0, 0, 0] ?_
    exact zm ⟨_, _, _, _, _, _, _, _, rfl, rfl⟩ (Up.refl _ _)
   refine ybs rfl fun b134 => ?_
   refine y1 5 ?_
   refine ybs rfl fun b136 => ?_
   refine jA 9 rfl rfl ?_
   refine jA 10 rfl rfl ?_
   refine yd ?_
   refine zh [2, 1, 0, 0, 0] ?_
   exact zm ⟨_, _, _, _, _, _, _, _, rfl, rfl⟩ (Up.refl _ _)
  ·
   refine ybs rfl fun b138 => ?_
   refine y2 4 7 ?_ ?_
   ·
    refine ycs rfl rfl (fun w hw => c_impl_Position_copied g.start (ok_ hw)) ?_
    intro A140_0 c140_0 bl140_0 bh140_0 A140_1 c140_1 bl140_1 bh140_1 f140
    refine y2 5 7 ?_ ?_
    ·
     refine ybs rfl fun b141 => ?_
     refine y1 7 ?_
     refine ya rfl fun b143 => ?_
     refine y1 8 ?_
     refine yst rfl rfl rfl ?_
     refine jA 9 rfl rfl ?_
     refine jA 10 rfl rfl ?_
     refine yd ?_
     refine zh [0, 2, 0, 0, 0] ?_
     exact zm ⟨_, _, _, _, _, _, _, _, rfl, rfl⟩ (Up.refl _ _)
    refine ya rfl fun b144 => ?_
    refine y2 5 8 ?_ ?_
    ·
     refine ybs rfl fun b145 => ?_
     refine y1 8 ?_
     refine yst rfl rfl rfl ?_
     refine jA 9 rfl rfl ?_
     refine jA 10 rfl rfl ?_
     refine yd ?_
     refine zh [1, 2, 0, 0, 0] ?_
     exact zm ⟨_, _, _, _, _, _, _, _, rfl, rfl⟩ (Up.refl _ _)
    refine yst rfl rfl rfl ?_
    refine y1 5 ?_
    refine ybs rfl fun b147 => ?_
    refine jA 9 rfl rfl ?_
    refine jA 10 rfl rfl ?_
    refine yd ?_
    refine zh [1, 2, 0, 0, 0] ?_
    exact zm ⟨_, _, _, _, _, _, _, _, rfl, rfl⟩ (Up.refl _ _)
   refine ya rfl fun b149 => ?_
   refine y1 4 ?_
   refine ycs rfl rfl (fun w hw => c_impl_Position_copied g.start (ok_ hw)) ?_
   intro A150_0 c150_0 bl150_0 bh150_0 A150_1 c150_1 bl150_1 bh150_1 f150
   refine y2 5 8 ?_ ?_
   ·
    refine ybs rfl fun b151 => ?_
    refine y1 8 ?_
    refine yst rfl rfl rfl ?_
    refine jA 9 rfl rfl ?_
    refine jA 10 rfl rfl ?_
    refine yd ?_
    refine zh [2, 2, 0, 0, 0] ?_
    exact zm ⟨_, _, _, _, _, _, _, _, rfl, rfl⟩ (Up.refl _ _)
   refine yst rfl rfl rfl ?_
   refine y1 5 ?_
   refine ybs rfl fun b153 => ?_
   refine jA 9 rfl rfl ?_
   refine jA 10 rfl rfl ?_
   refine yd ?_
   refine zh [2, 2, 0, 0, 0] ?_
   exact zm ⟨_, _, _, _, _, _, _, _, rfl, rfl⟩ (Up.refl _ _)
  refine ya rfl fun b155 => ?_
  refine y2 4 6 ?_ ?_
  ·
   refine ycs rfl rfl (fun w hw => c_impl_Position_copied g.start (ok_ hw)) ?_
   intro A156_0 c156_0 bl156_0 bh156_0 A156_1 c156_1 bl156_1 bh156_1 f156
   refine y3 5 6 8 ?_ ?_ ?_
   ·
    refine ybs rfl fun b157 => ?_
    refine y2 6 8 ?_ ?_
    ·
     refine ybs rfl fun b159 => ?_
     refine y1 8 ?_
     refine yst rfl rfl rfl ?_
     refine jA 9 rfl rfl ?_
     refine jA 10 rfl rfl ?_
     refine yd ?_
     refine zh [3, 0, 0, 0, 0] ?_
     exact zm ⟨_, _, _, _, _, _, _, _, rfl, rfl⟩ (Up.refl _ _)
    refine yst rfl rfl rfl ?_
    refine jA 9 rfl rfl ?_
    refine y1 6 ?_
    refine ybs rfl fun b161 => ?_
    refine jA 10 rfl rfl ?_
    refine yd ?_
    refine zh [3, 0, 0, 0, 0] ?_
    exact zm ⟨_, _, _, _, _, _, _, _, rfl, rfl⟩ (Up.refl _ _)
   ·
    refine ybs rfl fun b163 => ?_
    refine y2 5 8 ?_ ?_
    ·
     refine ybs rfl fun b165 => ?_
     refine y1 8 ?_
     refine yst rfl rfl rfl ?_
     refine jA 9 rfl rfl ?_
     refine jA 10 rfl rfl ?_
     refine yd ?_
     refine zh [3, 1, 0, 0, 0] ?_
     exact zm ⟨_, _, _, _, _, _, _, _, rfl, rfl⟩ (Up.refl _ _)
    refine yst rfl rfl rfl ?_
    refine y1 5 ?_
    refine ybs rfl fun b167 => ?_
    refine jA 9 rfl rfl ?_
    refine jA 10 rfl rfl ?_
    refine yd ?_
    refine zh [3, 1, 0, 0, 0] ?_
    exact zm ⟨_, _, _, _, _, _, _, _, rfl, rfl⟩ (Up.refl _ _)
   refine yst rfl rfl rfl ?_
   refine y2 5 6 ?_ ?_
   ·
    refine ybs rfl fun b169 => ?_
    refine jA 9 rfl rfl ?_
    refine y1 6 ?_
    refine ybs rfl fun b171 => ?_
    refine jA 10 rfl rfl ?_
    refine yd ?_
    refine zh [3, 0, 0, 0, 0] ?_
    exact zm ⟨_, _, _, _, _, _, _, _, rfl, rfl⟩ (Up.refl _ _)
   refine ybs rfl fun b173 => ?_
   refine y1 5 ?_
   refine ybs rfl fun b175 => ?_
   refine jA 9 rfl rfl ?_
   refine jA 10 rfl rfl ?_
   refine yd ?_
   refine zh [3, 1, 0, 0, 0] ?_
   exact zm ⟨_, _, _, _, _, _, _, _, rfl, rfl⟩ (Up.refl _ _)
  refine ybs rfl fun b177 => ?_
  refine y1 4 ?_
  refine ycs rfl rfl (fun w hw => c_impl_Position_copied g.start (ok_ hw)) ?_
  intro A179_0 c179_0 bl179_0 bh179_0 A179_1 c179_1 bl179_1 bh179_1 f179
  refine y2 5 8 ?_ ?_
  ·
   refine ybs rfl fun b180 => ?_
   refine y1 8 ?_
   refine yst rfl rfl rfl ?_
   refine jA 9 rfl rfl ?_
   refine jA 10 rfl rfl ?_
   refine yd ?_
   refine zh [3, 2, 0, 0, 0] ?_
   exact zm ⟨_, _, _, _, _, _, _, _, rfl, rfl⟩ (Up.refl _ _)
  refine yst rfl rfl rfl ?_
  refine y1 5 ?_
  refine ybs rfl fun b182 => ?_
  refine jA 9 rfl rfl ?_
  refine jA 10 rfl rfl ?_
  refine yd ?_
  refine zh [3, 2, 0, 0, 0] ?_
  exact zm ⟨_, _, _, _, _, _, _, _, rfl, rfl⟩ (Up.refl _ _)
 rintro _ _ u95 ⟨b12, b8, b10, A7_0, c7_0, A7_1, c7_1, f7, rfl, rfl⟩ x95
 refine zn ?_
 refine Js.seq <| zS <| Qf fh rfl <| Q0 4 rfl rfl rfl <| Qz rfl <| Qm rfl <| JL.nil <| Js.block ?_
 refine Js.vals (Ts := lPosition []) (vs := []) (fun w => rfl) ?_
 refine Js.joinL (i := 0) (j := 3) (Vs := lPosition ([] ++ [g.start])) rfl rfl (lPosition_snoc _ _) (fun f186 => ?_)
 refine zn ?_
 refine Js.vals (Ts := lResultL []) (vs := []) (fun w => rfl) ?_
 refine zl [1, 5, 20, 21] (fun F U l os u m => ∃ (k : Nat) (now : M.Pos) (out : List M.Pos) (made : List M.Res) (A184_6 : Option Addr) (c184_6 : Nat) (g184_6 : List Nat) (vs184_6 : List Value) (fl184_6 : List Nat) (A184_7 : Option Addr) (c184_7 : Nat) (g184_7 : List Nat) (vs184_7 : List Value) (fl184_7 : List Nat) (A184_5_0 : Option Addr) (c184_5_0 : Nat) (A184_5_1 : Option Addr) (c184_5_1 : Nat), l = F [(6, .slice A184_6 out.length c184_6), (7, .slice A184_7 made.length c184_7), (22, .int .i64 (k : Int))] ∧ os = U [some (ownC (lResultL made) vs184_7 fl184_7), some (ownC (lPosition out) vs184_6 fl184_6), some (boxO b12 [.slice A184_5_0 now.pits.length c184_5_0, .slice A184_5_1 now.stores.length c184_5_1, .int .i64 now.player] 28), some (rowO 87 6 (.slice A184_7 made.length c184_7) made.length vs184_7 g184_7), some (rowO 28 3 (.slice A184_6 out.length c184_6) out.length vs184_6 g184_6)] ∧ (M.Run g.rules g.start g.moves k now made) ∧ (out = M.hist g.start made) ∧ (now.pits.length ≤ 4194304) ∧ (now.stores.length ≤ 4194304) ∧ (out.length ≤ c184_6) ∧ (c184_6 ≤ 9223372036854775807) ∧ (made.length ≤ c184_7) ∧ (c184_7 ≤ 9223372036854775807) ∧ ((Ty.ints 2 now.pits).ok u (.slice A184_5_0 now.pits.length c184_5_0)) ∧ (now.pits.length ≤ c184_5_0) ∧ (c184_5_0 ≤ 9223372036854775807) ∧ ((Ty.ints 2 now.stores).ok u (.slice A184_5_1 now.stores.length c184_5_1)) ∧ (now.stores.length ≤ c184_5_1) ∧ (c184_5_1 ≤ 9223372036854775807) ∧ m = g.moves.length - k) ⟨0, g.start, [g.start], [], _, _, _, _, _, _, _, _, _, _, _, _, _, _, rfl, rfl, by exact M.Run.zero _ _ _, by rfl, zt, zt, zu, zu, zu, zu, (Ty.mono _ h1 x95.vis), zu, zu, (Ty.mono _ h2 x95.vis), zu, zu, rfl⟩ ?_
 rintro _ _ u184 _ ⟨k, now, out, made, A184_6, c184_6, g184_6, vs184_6, fl184_6, A184_7, c184_7, g184_7, vs184_7, fl184_7, A184_5_0, c184_5_0, A184_5_1, c184_5_1, rfl, rfl, hR, hO, n0, n1, f184_4, f184_5, f184_6, f184_7, f184_8, f184_9, f184_10, f184_11, f184_12, f184_13, rfl⟩ x184
 refine zn ?_
 have hl1 := hR.len
 have hl3 := hR.le
 have hlO : out.length = made.length + 1 := by rw [hO]; simp
 refine zS <| Ql rfl rfl <| zJ ?_
 refine zi (fun h187 h187' => ?_) fun h187 h187' => ?_
 ·
  obtain ⟨b188, o188, he188, hc188⟩ := ints_elem (Ty.mono _ h3 (x95.vis.trans x184.vis)) (i := k) (by omega)
  refine Js.skip <| Js.seq <| Js.block <| zS <| Qq (p_indexAddr el_26 rfl rfl (by omega) (by omega) he188) <| QC hc188 rfl <| Qa rfl <| zN <| Qf fh rfl <| Q9 5 rfl rfl ?_
  refine Q9 2 rfl rfl ?_
  refine Qm rfl <| zp rfl (fun w hw => c_impl_Rules_resultOf g.rules now (M.nth g.moves k) (ok_ hw) (ok_ hw)) ?_
  intro u189 x189 A190 c190 h190 bl190 bh190 A191 c191 h191 bl191 bh191
  refine Qm rfl <| Qx rfl rfl <| Qx rfl rfl <| za zeh fun b192 => zw 0 rfl rfl rfl ?_
  refine Qa rfl <| zJ <| zS <| Qm rfl <| Qd rfl rfl <| JL.nil ?_
  refine zi (fun h193 h193' => ?_) fun h193 h193' => ?_
  ·
   obtain ⟨hP1, hP2, hP3⟩ := hR.broken (by omega) (by simpa using h193)
   have hq0 : [] = M.playedP g := by first | exact hP1.symm | exact congrArg Value.bool hP1.symm | exact hP2.symm | exact hP3.symm
   have hq1 : [] = M.playedR g := by first | exact hP1.symm | exact congrArg Value.bool hP1.symm | exact hP2.symm | exact hP3.symm
   have hq2 : false = M.playedOk g := by first | exact hP1.symm | exact congrArg Value.bool hP1.symm | exact hP2.symm | exact hP3.symm
   refine zS <| Qa rfl <| Qa rfl <| Qa rfl <| JL.nil ?_
   exact zro ((x95.trans x184).trans x189)
  have hm : (M.make g.rules now (M.nth g.moves k)).2 = 0 := by simpa using h193
  have hR2 := hR.step (by omega) hm
  have hl2 := M.okP_len (M.make_ok hm).2.2.2.1
  refine Js.skip <| zS <| Qf fh rfl <| Q9 0 rfl rfl ?_
  refine zw 3 rfl rfl rfl ?_
  refine JL.nil ?_
  refine zk [1, 5, 20, 21, 22] (fun F U l os u => ∃ (A199 : Option Addr) (c199 : Nat) (A204 : Option Addr) (c204 b200 b195 : Nat) (A194_0 : Option Addr) (c194_0 : Nat) (A194_1 : Option Addr) (c194_1 : Nat) (f194 g203 g198 : List Nat), l = F [(6, .slice A199 ((out ++ [(((M.make g.rules now (M.nth g.moves k)).1).next)]).length) c199), (7, .slice A204 ((made ++ [((M.make g.rules now (M.nth g.moves k)).1)]).length) c204)] ∧ os = [rowO 87 6 (.slice (some ⟨b200, 0, none⟩) 1 1) 1 [.int .i64 (((M.make g.rules now (M.nth g.moves k)).1).move), .int .i64 (((M.make g.rules now (M.nth g.moves k)).1).gain), .bool (((M.make g.rules now (M.nth g.moves k)).1).again), .slice A190 (((((M.make g.rules now (M.nth g.moves k)).1).next).pits).length) c190, .slice A191 (((((M.make g.rules now (M.nth g.moves k)).1).next).stores).length) c191, .int .i64 ((((M.make g.rules now (M.nth g.moves k)).1).next).player)] [], rowO 28 3 (.slice (some ⟨b195, 0, none⟩) 1 1) 1 [.slice A194_0 (((((M.make g.rules now (M.nth g.moves k)).1).next).pits).length) c194_0, .slice A194_1 (((((M.make g.rules now (M.nth g.moves k)).1).next).stores).length) c194_1, .int .i64 ((((M.make g.rules now (M.nth g.moves k)).1).next).player)] [], ownC (cPosition (((M.make g.rules now (M.nth g.moves k)).1).next)) [.slice A194_0 (((((M.make g.rules now (M.nth g.moves k)).1).next).pits).length) c194_0, .slice A194_1 (((((M.make g.rules now (M.nth g.moves k)).1).next).stores).length) c194_1, .int .i64 ((((M.make g.rules now (M.nth g.moves k)).1).next).player)] f194] ++ U [nO, nO, nO, nO, some (rowO 87 6 (.slice A204 ((made ++ [((M.make g.rules now (M.nth g.moves k)).1)]).length) c204) ((made ++ [((M.make g.rules now (M.nth g.moves k)).1)]).length) (vs184_7 ++ [.int .i64 (((M.make g.rules now (M.nth g.moves k)).1).move), .int .i64 (((M.make g.rules now (M.nth g.moves k)).1).gain), .bool (((M.make g.rules now (M.nth g.moves k)).1).again), .slice A190 (((((M.make g.rules now (M.nth g.moves k)).1).next).pits).length) c190, .slice A191 (((((M.make g.rules now (M.nth g.moves k)).1).next).stores).length) c191, .int .i64 ((((M.make g.rules now (M.nth g.moves k)).1).next).player)]) g203), some (rowO 28 3 (.slice A199 ((out ++ [(((M.make g.rules now (M.nth g.moves k)).1).next)]).length) c199) ((out ++ [(((M.make g.rules now (M.nth g.moves k)).1).next)]).length) (vs184_6 ++ [.slice A194_0 (((((M.make g.rules now (M.nth g.moves k)).1).next).pits).length) c194_0, .slice A194_1 (((((M.make g.rules now (M.nth g.moves k)).1).next).stores).length) c194_1, .int .i64 ((((M.make g.rules now (M.nth g.moves k)).1).next).player)]) g198)] ∧ ((out ++ [(((M.make g.rules now (M.nth g.moves k)).1).next)]).length ≤ c199) ∧ (c199 ≤ 9223372036854775807) ∧ ((made ++ [((M.make g.rules now (M.nth g.moves k)).1)]).length ≤ c204) ∧ (c204 ≤ 9223372036854775807)) ?_ ?_
  ·
   refine zdr [4, 8] ?_
   refine jM 0 rfl rfl ?_
   refine JH.q 1 rfl (L9 3 rfl rfl) ?_
   refine jM 5 rfl rfl ?_
   refine y2 2 6 ?_ ?_
   ·
    refine ycs rfl rfl (fun w hw => c_impl_Position_copied (((M.make g.rules now (M.nth g.moves k)).1).next) (ok_ hw)) ?_
    intro A290_0 c290_0 bl290_0 bh290_0 A290_1 c290_1 bl290_1 bh290_1 f290
    refine y2 3 6 ?_ ?_
    ·
     refine ybs rfl fun b291 => ?_
     refine y2 4 6 ?_ ?_
     ·
      refine JHo.e rfl (e_append (i := 7) (n' := (out ++ [(((M.make g.rules now (M.nth g.moves k)).1).next)]).length) (vs' := vs184_6 ++ [.slice A290_0 (((((M.make g.rules now (M.nth g.moves k)).1).next).pits).length) c290_0, .slice A290_1 (((((M.make g.rules now (M.nth g.moves k)).1).next).stores).length) c290_1, .int .i64 ((((M.make g.rules now (M.nth g.moves k)).1).next).player)]) el_104 rfl rfl rfl rfl (src_row (i := 0) und_104 rfl rfl) (by omega) (by omega) ln2_ (rfl)) (.inr rfl) ?_
      rintro v293 _ _ ⟨⟨g294, rfl⟩, rfl⟩ _
      refine JH.fact (row_form' (i := 7) rfl) (fun hf295 => ?_)
      obtain ⟨A295, c295, rfl, bl295, bh295⟩ := hf295
      refine znh ?_
      refine y1 6 ?_
      refine JHo.q rfl (L9 2 rfl rfl) ?_
      refine y1 7 ?_
      refine ybs rfl fun b296 => ?_
      refine y1 8 ?_
      refine JHo.e rfl (e_append (i := 7) (n' := (made ++ [((M.make g.rules now (M.nth g.moves k)).1)]).length) (vs' := vs184_7 ++ [.int .i64 (((M.make g.rules now (M.nth g.moves k)).1).move), .int .i64 (((M.make g.rules now (M.nth g.moves k)).1).gain), .bool (((M.make g.rules now (M.nth g.moves k)).1).again), .slice A190 (((((M.make g.rules now (M.nth g.moves k)).1).next).pits).length) c190, .slice A191 (((((M.make g.rules now (M.nth g.moves k)).1).next).stores).length) c191, .int .i64 ((((M.make g.rules now (M.nth g.moves k)).1).next).player)]) el_84 rfl rfl rfl rfl (src_row (i := 0) und_84 rfl rfl) (by omega) (by omega) ln2_ (rfl)) (.inr rfl) ?_
      rintro v298 _ _ ⟨⟨g299, rfl⟩, rfl⟩ _
      refine JH.fact (row_form' (i := 7) rfl) (fun hf300 => ?_)
      obtain ⟨A300, c300, rfl, bl300, bh300⟩ := hf300
      refine znh ?_
      refine jA 9 rfl rfl ?_
      refine jA 10 rfl rfl ?_
      refine yd ?_
      exact zm ⟨_, _, _, _, _, _, _, _, _, _, _, _, _, rfl, rfl, zt, zt, zt, zt⟩ (Up.refl _ _)
     refine JHo.q rfl (L9 2 rfl rfl) ?_
     refine y2 4 7 ?_ ?_
     ·
      refine JHo.e rfl (e_append (i := 7) (n' := (out ++ [(((M.make g.rules now (M.nth g.moves k)).1).next)]).length) (vs' := vs184_6 ++ [.slice A290_0 (((((M.make g.rules now (M.nth g.moves k)).1).next).pits).length) c290_0, .slice A290_1 (((((M.make g.rules now (M.nth g.moves k)).1).next).stores).length) c290_1, .int .i64 ((((M.make g.rules now (M.nth g.moves k)).1).next).player)]) el_104 rfl rfl rfl rfl (src_row (i := 0) und_104 rfl rfl) (by omega) (by omega) ln2_ (rfl)) (.inr rfl) ?_
      rintro v301 _ _ ⟨⟨g302, rfl⟩, rfl⟩ _
      refine JH.fact (row_form' (i := 7) rfl) (fun hf303 => ?_)
      obtain ⟨A303, c303, rfl, bl303, bh303⟩ := hf303
      refine znh ?_
      refine y1 7 ?_
      refine ybs rfl fun b304 => ?_
      refine y1 8 ?_
      refine JHo.e rfl (e_append (i := 7) (n' := (made ++ [((M.make g.rules now (M.nth g.moves k)).1)]).length) (vs' := vs184_7 ++ [.int .i64 (((M.make g.rules now (M.nth g.moves k)).1).move), .int .i64 (((M.make g.rules now (M.nth g.moves k)).1).gain), .bool (((M.make g.rules now (M.nth g.moves k)).1).again), .slice A190 (((((M.make g.rules now (M.nth g.moves k)).1).next).pits).length) c190, .slice A191 (((((M.make g.rules now (M.nth g.moves k)).1).next).stores).length) c191, .int .i64 ((((M.make g.rules now (M.nth g.moves k)).1).next).player)]) el_84 rfl rfl rfl rfl (src_row (i := 0) und_84 rfl rfl) (by omega) (by omega) ln2_ (rfl)) (.inr rfl) ?_
      rintro v306 _ _ ⟨⟨g307, rfl⟩, rfl⟩ _
      refine JH.fact (row_form' (i := 7) rfl) (fun hf308 => ?_)
      obtain ⟨A308, c308, rfl, bl308, bh308⟩ := hf308
      refine znh ?_
      refine jA 9 rfl rfl ?_
      refine jA 10 rfl rfl ?_
      refine yd ?_
      exact zm ⟨_, _, _, _, _, _, _, _, _, _, _, _, _, rfl, rfl, zt, zt, zt, zt⟩ (Up.refl _ _)
     refine ybs rfl fun b309 => ?_
     refine y1 4 ?_
     refine JHo.e rfl (e_append (i := 8) (n' := (out ++ [(((M.make g.rules now (M.nth g.moves k)).1).next)]).length) (vs' := vs184_6 ++ [.slice A290_0 (((((M.make g.rules now (M.nth g.moves k)).1).next).pits).length) c290_0, .slice A290_1 (((((M.make g.rules now (M.nth g.moves k)).1).next).stores).length) c290_1, .int .i64 ((((M.make g.rules now (M.nth g.moves k)).1).next).player)]) el_104 rfl rfl rfl rfl (src_row (i := 1) und_104 rfl rfl) (by omega) (by omega) ln2_ (rfl)) (.inr rfl) ?_
     rintro v311 _ _ ⟨⟨g312, rfl⟩, rfl⟩ _
     refine JH.fact (row_form' (i := 8) rfl) (fun hf313 => ?_)
     obtain ⟨A313, c313, rfl, bl313, bh313⟩ := hf313
     refine znh ?_
     refine y1 8 ?_
     refine JHo.e rfl (e_append (i := 7) (n' := (made ++ [((M.make g.rules now (M.nth g.moves k)).1)]).length) (vs' := vs184_7 ++ [.int .i64 (((M.make g.rules now (M.nth g.moves k)).1).move), .int .i64 (((M.make g.rules now (M.nth g.moves k)).1).gain), .bool (((M.make g.rules now (M.nth g.moves k)).1).again), .slice A190 (((((M.make g.rules now (M.nth g.moves k)).1).next).pits).length) c190, .slice A191 (((((M.make g.rules now (M.nth g.moves k)).1).next).stores).length) c191, .int .i64 ((((M.make g.rules now (M.nth g.moves k)).1).next).player)]) el_84 rfl rfl rfl rfl (src_row (i := 0) und_84 rfl rfl) (by omega) (by omega) ln2_ (rfl)) (.inr rfl) ?_
     rintro v314 _ _ ⟨⟨g315, rfl⟩, rfl⟩ _
     refine JH.fact (row_form' (i := 7) rfl) (fun hf316 => ?_)
     obtain ⟨A316, c316, rfl, bl316, bh316⟩ := hf316
     refine znh ?_
     refine jA 9 rfl rfl ?_
     refine jA 10 rfl rfl ?_
     refine yd ?_
     exact zm ⟨_, _, _, _, _, _, _, _, _, _, _, _, _, rfl, rfl, zt, zt, zt, zt⟩ (Up.refl _ _)
    refine JHo.q rfl (L9 1 rfl rfl) ?_
    refine y2 3 7 ?_ ?_
    ·
     refine ybs rfl fun b317 => ?_
     refine y2 4 7 ?_ ?_
     ·
      refine JHo.e rfl (e_append (i := 7) (n' := (out ++ [(((M.make g.rules now (M.nth g.moves k)).1).next)]).length) (vs' := vs184_6 ++ [.slice A290_0 (((((M.make g.rules now (M.nth g.moves k)).1).next).pits).length) c290_0, .slice A290_1 (((((M.make g.rules now (M.nth g.moves k)).1).next).stores).length) c290_1, .int .i64 ((((M.make g.rules now (M.nth g.moves k)).1).next).player)]) el_104 rfl rfl rfl rfl (src_row (i := 0) und_104 rfl rfl) (by omega) (by omega) ln2_ (rfl)) (.inr rfl) ?_
      rintro v319 _ _ ⟨⟨g320, rfl⟩, rfl⟩ _
      refine JH.fact (row_form' (i := 7) rfl) (fun hf321 => ?_)
      obtain ⟨A321, c321, rfl, bl321, bh321⟩ := hf321
      refine znh ?_
      refine y1 7 ?_
      refine ybs rfl fun b322 => ?_
      refine y1 8 ?_
      refine JHo.e rfl (e_append (i := 7) (n' := (made ++ [((M.make g.rules now (M.nth g.moves k)).1)]).length) (vs' := vs184_7 ++ [.int .i64 (((M.make g.rules now (M.nth g.moves k)).1).move), .int .i64 (((M.make g.rules now (M.nth g.moves k)).1).gain), .bool (((M.make g.rules now (M.nth g.moves k)).1).again), .slice A190 (((((M.make g.rules now (M.nth g.moves k)).1).next).pits).length) c190, .slice A191 (((((M.make g.rules now (M.nth g.moves k)).1).next).stores).length) c191, .int .i64 ((((M.make g.rules now (M.nth g.moves k)).1).next).player)]) el_84 rfl rfl rfl rfl (src_row (i := 0) und_84 rfl rfl) (by omega) (by omega) ln2_ (rfl)) (.inr rfl) ?_
      rintro v324 _ _ ⟨⟨g325, rfl⟩, rfl⟩ _
      refine JH.fact (row_form' (i := 7) rfl) (fun hf326 => ?_)
      obtain ⟨A326, c326, rfl, bl326, bh326⟩ := hf326
      refine znh ?_
      refine jA 9 rfl rfl ?_
      refine jA 10 rfl rfl ?_
      refine yd ?_
      exact zm ⟨_, _, _, _, _, _, _, _, _, _, _, _, _, rfl, rfl, zt, zt, zt, zt⟩ (Up.refl _ _)
     refine ybs rfl fun b327 => ?_
     refine y1 4 ?_
     refine JHo.e rfl (e_append (i := 8) (n' := (out ++ [(((M.make g.rules now (M.nth g.moves k)).1).next)]).length) (vs' := vs184_6 ++ [.slice A290_0 (((((M.make g.rules now (M.nth g.moves k)).1).next).pits).length) c290_0, .slice A290_1 (((((M.make g.rules now (M.nth g.moves k)).1).next).stores).length) c290_1, .int .i64 ((((M.make g.rules now (M.nth g.moves k)).1).next).player)]) el_104 rfl rfl rfl rfl (src_row (i := 1) und_104 rfl rfl) (by omega) (by omega) ln2_ (rfl)) (.inr rfl) ?_
     rintro v329 _ _ ⟨⟨g330, rfl⟩, rfl⟩ _
     refine JH.fact (row_form' (i := 8) rfl) (fun hf331 => ?_)
     obtain ⟨A331, c331, rfl, bl331, bh331⟩ := hf331
     refine znh ?_
     refine y1 8 ?_
     refine JHo.e rfl (e_append (i := 7) (n' := (made ++ [((M.make g.rules now (M.nth g.moves k)).1)]).length) (vs' := vs184_7 ++ [.int .i64 (((M.make g.rules now (M.nth g.moves k)).1).move), .int .i64 (((M.make g.rules now (M.nth g.moves k)).1).gain), .bool (((M.make g.rules now (M.nth g.moves k)).1).again), .slice A190 (((((M.make g.rules now (M.nth g.moves k)).1).next).pits).length) c190, .slice A191 (((((M.make g.rules now (M.nth g.moves k)).1).next).stores).length) c191, .int .i64 ((((M.make g.rules now (M.nth g.moves k)).1).next).player)]) el_84 rfl rfl rfl rfl (src_row (i := 0) und_84 rfl rfl) (by omega) (by omega) ln2_ (rfl)) (.inr rfl) ?_
     rintro v332 _ _ ⟨⟨g333, rfl⟩, rfl⟩ _
     refine JH.fact (row_form' (i := 7) rfl) (fun hf334 => ?_)
     obtain ⟨A334, c334, rfl, bl334, bh334⟩ := hf334
     refine znh ?_
     refine jA 9 rfl rfl ?_
     refine jA 10 rfl rfl ?_
     refine yd ?_
     exact zm ⟨_, _, _, _, _, _, _, _, _, _, _, _, _, rfl, rfl, zt, zt, zt, zt⟩ (Up.refl _ _)
    refine ybs rfl fun b335 => ?_
    refine y1 3 ?_
    refine ybs rfl fun b337 => ?_
    refine y1 4 ?_
    refine JHo.e rfl (e_append (i := 8) (n' := (out ++ [(((M.make g.rules now (M.nth g.moves k)).1).next)]).length) (vs' := vs184_6 ++ [.slice A290_0 (((((M.make g.rules now (M.nth g.moves k)).1).next).pits).length) c290_0, .slice A290_1 (((((M.make g.rules now (M.nth g.moves k)).1).next).stores).length) c290_1, .int .i64 ((((M.make g.rules now (M.nth g.moves k)).1).next).player)]) el_104 rfl rfl rfl rfl (src_row (i := 0) und_104 rfl rfl) (by omega) (by omega) ln2_ (rfl)) (.inr rfl) ?_
    rintro v339 _ _ ⟨⟨g340, rfl⟩, rfl⟩ _
    refine JH.fact (row_form' (i := 8) rfl) (fun hf341 => ?_)
    obtain ⟨A341, c341, rfl, bl341, bh341⟩ := hf341
    refine znh ?_
    refine y1 8 ?_
    refine JHo.e rfl (e_append (i := 7) (n' := (made ++ [((M.make g.rules now (M.nth g.moves k)).1)]).length) (vs' := vs184_7 ++ [.int .i64 (((M.make g.rules now (M.nth g.moves k)).1).move), .int .i64 (((M.make g.rules now (M.nth g.moves k)).1).gain), .bool (((M.make g.rules now (M.nth g.moves k)).1).again), .slice A190 (((((M.make g.rules now (M.nth g.moves k)).1).next).pits).length) c190, .slice A191 (((((M.make g.rules now (M.nth g.moves k)).1).next).stores).length) c191, .int .i64 ((((M.make g.rules now (M.nth g.moves k)).1).next).player)]) el_84 rfl rfl rfl rfl (src_row (i := 1) und_84 rfl rfl) (by omega) (by omega) ln2_ (rfl)) (.inr rfl) ?_
    rintro v342 _ _ ⟨⟨g343, rfl⟩, rfl⟩ _
    refine JH.fact (row_form' (i := 7) rfl) (fun hf344 => ?_)
    obtain ⟨A344, c344, rfl, bl344, bh344⟩ := hf344
    refine znh ?_
    refine jA 9 rfl rfl ?_
    refine jA 10 rfl rfl ?_
    refine yd ?_
    refine zh [1, 0, 0, 0, 0, 0, 0, 0, 0, 0] ?_
    exact zm ⟨_, _, _, _, _, _, _, _, _, _, _, _, _, rfl, rfl, zt, zt, zt, zt⟩ (Up.refl _ _)
   refine JHo.q rfl (L9 0 rfl rfl) ?_
   refine y2 2 7 ?_ ?_
   ·
    refine ycs rfl rfl (fun w hw => c_impl_Position_copied (((M.make g.rules now (M.nth g.moves k)).1).next) (ok_ hw)) ?_
    intro A345_0 c345_0 bl345_0 bh345_0 A345_1 c345_1 bl345_1 bh345_1 f345
    refine y2 3 7 ?_ ?_
    ·
     refine ybs rfl fun b346 => ?_
     refine y2 4 7 ?_ ?_
     ·
      refine JHo.e rfl (e_append (i := 7) (n' := (out ++ [(((M.make g.rules now (M.nth g.moves k)).1).next)]).length) (vs' := vs184_6 ++ [.slice A345_0 (((((M.make g.rules now (M.nth g.moves k)).1).next).pits).length) c345_0, .slice A345_1 (((((M.make g.rules now (M.nth g.moves k)).1).next).stores).length) c345_1, .int .i64 ((((M.make g.rules now (M.nth g.moves k)).1).next).player)]) el_104 rfl rfl rfl rfl (src_row (i := 0) und_104 rfl rfl) (by omega) (by omega) ln2_ (rfl)) (.inr rfl) ?_
      rintro v348 _ _ ⟨⟨g349, rfl⟩, rfl⟩ _
      refine JH.fact (row_form' (i := 7) rfl) (fun hf350 => ?_)
      obtain ⟨A350, c350, rfl, bl350, bh350⟩ := hf350
      refine znh ?_
      refine y1 7 ?_
      refine ybs rfl fun b351 => ?_
      refine y1 8 ?_
      refine JHo.e rfl (e_append (i := 7) (n' := (made ++ [((M.make g.rules now (M.nth g.moves k)).1)]).length) (vs' := vs184_7 ++ [.int .i64 (((M.make g.rules now (M.nth g.moves k)).1).move), .int .i64 (((M.make g.rules now (M.nth g.moves k)).1).gain), .bool (((M.make g.rules now (M.nth g.moves k)).1).again), .slice A190 (((((M.make g.rules now (M.nth g.moves k)).1).next).pits).length) c190, .slice A191 (((((M.make g.rules now (M.nth g.moves k)).1).next).stores).length) c191, .int .i64 ((((M.make g.rules now (M.nth g.moves k)).1).next).player)]) el_84 rfl rfl rfl rfl (src_row (i := 0) und_84 rfl rfl) (by omega) (by omega) ln2_ (rfl)) (.inr rfl) ?_
      rintro v353 _ _ ⟨⟨g354, rfl⟩, rfl⟩ _
      refine JH.fact (row_form' (i := 7) rfl) (fun hf355 => ?_)
      obtain ⟨A355, c355, rfl, bl355, bh355⟩ := hf355
      refine znh ?_
      refine jA 9 rfl rfl ?_
      refine jA 10 rfl rfl ?_
      refine yd ?_
      exact zm ⟨_, _, _, _, _, _, _, _, _, _, _, _, _, rfl, rfl, zt, zt, zt, zt⟩ (Up.refl _ _)
     refine ybs rfl fun b356 => ?_
     refine y1 4 ?_
     refine JHo.e rfl (e_append (i := 8) (n' := (out ++ [(((M.make g.rules now (M.nth g.moves k)).1).next)]).length) (vs' := vs184_6 ++ [.slice A345_0 (((((M.make g.rules now (M.nth g.moves k)).1).next).pits).length) c345_0, .slice A345_1 (((((M.make g.rules now (M.nth g.moves k)).1).next).stores).length) c345_1, .int .i64 ((((M.make g.rules now (M.nth g.moves k)).1).next).player)]) el_104 rfl rfl rfl rfl (src_row (i := 1) und_104 rfl rfl) (by omega) (by omega) ln2_ (rfl)) (.inr rfl) ?_
     rintro v358 _ _ ⟨⟨g359, rfl⟩, rfl⟩ _
     refine JH.fact (row_form' (i := 8) rfl) (fun hf360 => ?_)
     obtain ⟨A360, c360, rfl, bl360, bh360⟩ := hf360
     refine znh ?_
     refine y1 8 ?_
     refine JHo.e rfl (e_append (i := 7) (n' := (made ++ [((M.make g.rules now (M.nth g.moves k)).1)]).length) (vs' := vs184_7 ++ [.int .i64 (((M.make g.rules now (M.nth g.moves k)).1).move), .int .i64 (((M.make g.rules now (M.nth g.moves k)).1).gain), .bool (((M.make g.rules now (M.nth g.moves k)).1).again), .slice A190 (((((M.make g.rules now (M.nth g.moves k)).1).next).pits).length) c190, .slice A191 (((((M.make g.rules now (M.nth g.moves k)).1).next).stores).length) c191, .int .i64 ((((M.make g.rules now (M.nth g.moves k)).1).next).player)]) el_84 rfl rfl rfl rfl (src_row (i := 0) und_84 rfl rfl) (by omega) (by omega) ln2_ (rfl)) (.inr rfl) ?_
     rintro v361 _ _ ⟨⟨g362, rfl⟩, rfl⟩ _
     refine JH.fact (row_form' (i := 7) rfl) (fun hf363 => ?_)
     obtain ⟨A363, c363, rfl, bl363, bh363⟩ := hf363
     refine znh ?_
     refine jA 9 rfl rfl ?_
     refine jA 10 rfl rfl ?_
     refine yd ?_
     exact zm ⟨_, _, _, _, _, _, _, _, _, _, _, _, _, rfl, rfl, zt, zt, zt, zt⟩ (Up.refl _ _)
    refine ybs rfl fun b364 => ?_
    refine y1 3 ?_
    refine ybs rfl fun b366 => ?_
    refine y1 4 ?_
    refine JHo.e rfl (e_append (i := 8) (n' := (out ++ [(((M.make g.rules now (M.nth g.moves k)).1).next)]).length) (vs' := vs184_6 ++ [.slice A345_0 (((((M.make g.rules now (M.nth g.moves k)).1).next).pits).length) c345_0, .slice A345_1 (((((M.make g.rules now (M.nth g.moves k)).1).next).stores).length) c345_1, .int .i64 ((((M.make g.rules now (M.nth g.moves k)).1).next).player)]) el_104 rfl rfl rfl rfl (src_row (i := 0) und_104 rfl rfl) (by omega) (by omega) ln2_ (rfl)) (.inr rfl) ?_
    rintro v368 _ _ ⟨⟨g369, rfl⟩, rfl⟩ _
    refine JH.fact (row_form' (i := 8) rfl) (fun hf370 => ?_)
    obtain ⟨A370, c370, rfl, bl370, bh370⟩ := hf370
    refine znh ?_
    refine y1 8 ?_
    refine JHo.e rfl (e_append (i := 7) (n' := (made ++ [((M.make g.rules now (M.nth g.moves k)).1)]).length) (vs' := vs184_7 ++ [.int .i64 (((M.make g.rules now (M.nth g.moves k)).1).move), .int .i64 (((M.make g.rules now (M.nth g.moves k)).1).gain), .bool (((M.make g.rules now (M.nth g.moves k)).1).again), .slice A190 (((((M.make g.rules now (M.nth g.moves k)).1).next).pits).length) c190, .slice A191 (((((M.make g.rules now (M.nth g.moves k)).1).next).stores).length) c191, .int .i64 ((((M.make g.rules now (M.nth g.moves k)).1).next).player)]) el_84 rfl rfl rfl rfl (src_row (i := 1) und_84 rfl rfl) (by omega) (by omega) ln2_ (rfl)) (.inr rfl) ?_
    rintro v371 _ _ ⟨⟨g372, rfl⟩, rfl⟩ _
    refine JH.fact (row_form' (i := 7) rfl) (fun hf373 => ?_)
    obtain ⟨A373, c373, rfl, bl373, bh373⟩ := hf373
    refine znh ?_
    refine jA 9 rfl rfl ?_
    refine jA 10 rfl rfl ?_
    refine yd ?_
    refine zh [1, 0, 0, 0, 0, 0, 0, 0, 0, 0] ?_
    exact zm ⟨_, _, _, _, _, _, _, _, _, _, _, _, _, rfl, rfl, zt, zt, zt, zt⟩ (Up.refl _ _)
   refine ybs rfl fun b374 => ?_
   refine y1 2 ?_
   refine ycs rfl rfl (fun w hw => c_impl_Position_copied (((M.make g.rules now (M.nth g.moves k)).1).next) (ok_ hw)) ?_
   intro A376_0 c376_0 bl376_0 bh376_0 A376_1 c376_1 bl376_1 bh376_1 f376
   refine y1 3 ?_
   refine ybs rfl fun b377 => ?_
   refine y1 4 ?_
   refine JHo.e rfl (e_append (i := 8) (n' := (out ++ [(((M.make g.rules now (M.nth g.moves k)).1).next)]).length) (vs' := vs184_6 ++ [.slice A376_0 (((((M.make g.rules now (M.nth g.moves k)).1).next).pits).length) c376_0, .slice A376_1 (((((M.make g.rules now (M.nth g.moves k)).1).next).stores).length) c376_1, .int .i64 ((((M.make g.rules now (M.nth g.moves k)).1).next).player)]) el_104 rfl rfl rfl rfl (src_row (i := 0) und_104 rfl rfl) (by omega) (by omega) ln2_ (rfl)) (.inr rfl) ?_
   rintro v379 _ _ ⟨⟨g380, rfl⟩, rfl⟩ _
   refine JH.fact (row_form' (i := 8) rfl) (fun hf381 => ?_)
   obtain ⟨A381, c381, rfl, bl381, bh381⟩ := hf381
   refine znh ?_
   refine y1 8 ?_
   refine JHo.e rfl (e_append (i := 7) (n' := (made ++ [((M.make g.rules now (M.nth g.moves k)).1)]).length) (vs' := vs184_7 ++ [.int .i64 (((M.make g.rules now (M.nth g.moves k)).1).move), .int .i64 (((M.make g.rules now (M.nth g.moves k)).1).gain), .bool (((M.make g.rules now (M.nth g.moves k)).1).again), .slice A190 (((((M.make g.rules now (M.nth g.moves k)).1).next).pits).length) c190, .slice A191 (((((M.make g.rules now (M.nth g.moves k)).1).next).stores).length) c191, .int .i64 ((((M.make g.rules now (M.nth g.moves k)).1).next).player)]) el_84 rfl rfl rfl rfl (src_row (i := 2) und_84 rfl rfl) (by omega) (by omega) ln2_ (rfl)) (.inr rfl) ?_
   rintro v382 _ _ ⟨⟨g383, rfl⟩, rfl⟩ _
   refine JH.fact (row_form' (i := 7) rfl) (fun hf384 => ?_)
   obtain ⟨A384, c384, rfl, bl384, bh384⟩ := hf384
   refine znh ?_
   refine jA 9 rfl rfl ?_
   refine jA 10 rfl rfl ?_
   refine yd ?_
   refine zh [2, 0, 0, 0, 0, 0, 0, 0, 0, 0] ?_
   exact zm ⟨_, _, _, _, _, _, _, _, _, _, _, _, _, rfl, rfl, zt, zt, zt, zt⟩ (Up.refl _ _)
  rintro _ _ u289 ⟨A199, c199, A204, c204, b200, b195, A194_0, c194_0, A194_1, c194_1, f194, g203, g198, rfl, rfl, f289_0, f289_1, f289_2, f289_3⟩ x289
  refine zn ?_
  refine Js.joinL (i := 5) (j := 2) (Vs := lPosition (out ++ [(((M.make g.rules now (M.nth g.moves k)).1).next)])) rfl rfl (lPosition_snoc _ _) (fun f386 => ?_)
  refine zn ?_
  refine Js.vals (Ts := cResultL ((M.make g.rules now (M.nth g.moves k)).1)) (vs := [.int .i64 (((M.make g.rules now (M.nth g.moves k)).1).move), .int .i64 (((M.make g.rules now (M.nth g.moves k)).1).gain), .bool (((M.make g.rules now (M.nth g.moves k)).1).again), .slice A190 (((((M.make g.rules now (M.nth g.moves k)).1).next).pits).length) c190, .slice A191 (((((M.make g.rules now (M.nth g.moves k)).1).next).stores).length) c191, .int .i64 ((((M.make g.rules now (M.nth g.moves k)).1).next).player)]) (fun w => ⟨[], [], rfl, ⟨rfl, rfl⟩, ⟨[], [], rfl, ⟨rfl, rfl⟩, ⟨[], [], rfl, ⟨rfl, rfl⟩, ⟨[], [], rfl, ⟨rfl, rfl⟩, ⟨[], [], rfl, ⟨rfl, rfl⟩, ⟨[], [], rfl, ⟨rfl, rfl⟩, rfl⟩⟩⟩⟩⟩⟩) ?_
  refine Js.joinL (i := 5) (j := 0) (Vs := lResultL (made ++ [((M.make g.rules now (M.nth g.moves k)).1)])) rfl rfl (lResultL_snoc _ _) (fun f388 => ?_)
  refine zn ?_
  refine Js.blockEnd <| Js.region <| Qp rfl rfl <| Qm rfl <| JL.nil ?_
  refine zd [0, 0, 3, 3, 3, 3] rfl fun u389 x389 => ?_
  exact zag ⟨k + 1, (((M.make g.rules now (M.nth g.moves k)).1).next), out ++ [(((M.make g.rules now (M.nth g.moves k)).1).next)], made ++ [((M.make g.rules now (M.nth g.moves k)).1)], _, _, _, _, _, _, _, _, _, _, _, _, _, _, rfl, rfl, by exact hR2, by rw [hO]; exact (M.hist_snoc _ _ _).symm, by exact hl2.1, by exact hl2.2, zu, zu, zu, zu, (Ty.mono _ h190 (x289.vis.trans x389.vis)), zu, zu, (Ty.mono _ h191 (x289.vis.trans x389.vis)), zu, zu, rfl⟩ (((x184.trans x189).trans x289).trans x389)
 obtain ⟨hP1, hP2, hP3⟩ := hR.played (by omega)
 rw [← hO] at hP2
 refine zx ?_
 have hq0 : out = M.playedP g := by first | exact hP1.symm | exact congrArg Value.bool hP1.symm | exact hP2.symm | exact hP3.symm
 have hq1 : made = M.playedR g := by first | exact hP1.symm | exact congrArg Value.bool hP1.symm | exact hP2.symm | exact hP3.symm
 have hq2 : true = M.playedOk g := by first | exact hP1.symm | exact congrArg Value.bool hP1.symm | exact hP2.symm | exact hP3.symm
 refine zS <| Qm rfl <| Qm rfl <| Qa rfl <| Qa rfl <| Qa rfl <| JL.nil ?_
 exact zro (x95.trans x184)
theorem c_impl_ValidGame (g : M.Gam) {v_g : Value} {w : World} (h_g : (Ty.agg (cGame g)).ok w v_g) (r0 : g.start.pits.length ≤ 4194304 := by exact om_) (r1 : g.start.stores.length ≤ 4194304 := by exact om_) (r2 : g.moves.length ≤ 4194304 := by exact om_) (r3 : g.now.pits.length ≤ 4194304 := by exact om_) (r4 : g.now.stores.length ≤ 4194304 := by exact om_) : RetV Tryz.prog 70 [v_g] w (.bool (M.okG g)) := by
 revert v_g; apply opn
 intro A1 c1 h1 bl1 bh1 A2 c2 h2 bl2 bh2 A3 c3 h3 bl3 bh3 A4 c4 h4 bl4 bh4 A5 c5 h5 bl5 bh5
 refine enter @Tryz.func70 @Tryz.ntmps70 rfl rfl ?_
 refine zent ?_
 refine zS <| zb rfl fun b6 => Qa rfl <| zJ <| zS <| Qf fh rfl <| Q9 0 rfl rfl ?_
 refine Qf fh rfl <| Q9 0 rfl rfl ?_
 refine zv rfl (fun w hw => c_impl_ValidPosition g.rules g.start (ok_ hw) (ok_ hw)) <| Qt rfl <| Qm rfl <| zg (Gd.f1 rfl rfl rfl) (fun hc => p_fieldAddr fld_48_2.h rfl) <| zgq (Gd.f1 rfl rfl rfl) (fun hc => q_load1 ty_26.h (gh hc rfl) (Mem.box (i := 0) rfl rfl)) <| zg (Gd.f1 rfl rfl rfl) (fun hc => p_len el_26 (gh hc rfl)) <| zg (Gd.f1 rfl rfl rfl) (fun hc => p_gtr (gh hc rfl) rfl) <| Qq (p_pickOr rfl rfl rfl) <| Qm rfl <| zg (Gd.f1 rfl rfl rfl) (fun hc => p_fieldAddr fld_48_4.h rfl) <| zgq (Gd.f1 rfl rfl rfl) (fun hc => q_load1 ty_2.h (gh hc rfl) (Mem.box (i := 0) rfl rfl)) <| zgv (Gd.f1 rfl rfl rfl) (fun hc => (opds_3 (gh hc rfl) rfl rfl)) (fun hc => (fun w hw => c_impl_between g.resigned (-1) 1)) ?_
 refine zg (Gd.f1 rfl rfl rfl) (fun hc => p_not (gh hc rfl)) <| Qq (p_pickOr rfl rfl rfl) <| JL.nil ?_
 refine zi (fun h7 h7' => ?_) fun h7 h7' => ?_
 ·
  refine zS <| Qa rfl <| JL.nil ?_
  refine zR (Up.refl _ _) ?_
  exact congrArg (fun b => Ending.returned (.bool b)) (M.okG_no (by simpa [or_assoc] using h7)).symm
 have ho : M.okP g.rules g.start = true ∧ (g.moves.length : Int) ≤ 120 ∧ M.betw g.resigned (-1) 1 = true := by simpa [and_assoc] using h7
 refine Js.skip <| zS <| Q9 0 rfl rfl ?_
 refine zp rfl (fun w hw => c_impl_Game_played g (ok_ hw)) ?_
 intro u8 x8 A9 c9 h9 bl9 bh9 A10 c10 h10 bl10 bh10
 refine Qm rfl <| Qx rfl rfl <| Qx rfl rfl <| Qx rfl rfl <| Qa rfl <| Qa rfl <| Qa rfl <| zJ ?_
 rcases Bool.eq_false_or_eq_true (M.playedOk g) with h11 | h11
 ·
  obtain ⟨hl1, hl2⟩ := M.playedP_len h11
  have hl3 := M.okP_len (M.lastPos_ok _ _ ho.1 (M.runs_ok g.moves _ ho.1))
  refine zdr [] ?_
  refine jM 0 rfl rfl ?_
  refine jM 1 rfl rfl ?_
  refine JH.pgT 2 rfl (Gd.t1 rfl rfl rfl) (show (M.playedOk g) = true by first | exact h11 | (rw [h11]; rfl) | simp [h11]) (p_move rfl) ?_
  refine JH.pgT 3 rfl (Gd.t1 rfl rfl rfl) (show (M.playedOk g) = true by first | exact h11 | (rw [h11]; rfl) | simp [h11]) (p_move rfl) ?_
  refine JH.pgT 4 rfl (Gd.t1 rfl rfl rfl) (show (M.playedOk g) = true by first | exact h11 | (rw [h11]; rfl) | simp [h11]) (p_len el_104 rfl) ?_
  refine JH.pgT 5 rfl (Gd.t1 rfl rfl rfl) (show (M.playedOk g) = true by first | exact h11 | (rw [h11]; rfl) | simp [h11]) (p_sub rfl rfl (IntWalk.i64_in _ (by omega))) ?_
  obtain ⟨y12, hy12⟩ : ∃ x, (M.playedP g)[((((M.playedP g).length) : Int) - 1).toNat]? = some x := ⟨_, List.getElem?_eq_getElem (by omega)⟩
  obtain ⟨b12, o12, A12_0, c12_0, A12_1, c12_1, he12, hr12, h12_0, h12_1, bl12_0, bh12_0, bl12_1, bh12_1⟩ := elem_Position h9 hy12
  refine JH.pgT 6 rfl (Gd.t1 rfl rfl rfl) (show (M.playedOk g) = true by first | exact h11 | (rw [h11]; rfl) | simp [h11]) (p_indexAddr el_104 rfl rfl (by omega) (by omega) he12) ?_
  refine JH.wgT 7 rfl (Gd.t1 rfl rfl rfl) (show (M.playedOk g) = true by first | exact h11 | (rw [h11]; rfl) | simp [h11]) (fun os' u' hv => LS 0 (hr12.vis hv) rfl) ?_
  refine JH.pgT 8 rfl (Gd.t1 rfl rfl rfl) (show (M.playedOk g) = true by first | exact h11 | (rw [h11]; rfl) | simp [h11]) (p_fieldAddr fld_48_3.h rfl) ?_
  refine JH.qgT 9 rfl (Gd.t1 rfl rfl rfl) (show (M.playedOk g) = true by first | exact h11 | (rw [h11]; rfl) | simp [h11]) (L9 0 rfl rfl) ?_
  refine y1 10 ?_
  refine yvT rfl (Gd.t1 rfl rfl rfl) (show (M.playedOk g) = true by first | exact h11 | (rw [h11]; rfl) | simp [h11]) rfl (fun w hw => c_impl_SamePosition y12 g.now (ok_ hw) (ok_ hw) (r0 := (M.last_len hl2 hy12 (by omega) hl3).1) (r1 := (M.last_len hl2 hy12 (by omega) hl3).2)) ?_
  refine JH.p 11 rfl (p_pickAnd2 rfl rfl rfl) ?_
  refine jA 12 rfl rfl ?_
  refine yd ?_
  refine zR x8 ?_
  first | (simp only [outV]; rw [M.okG_yes ho.1 ho.2.1 ho.2.2 (by assumption) (by assumption) (by omega)]; simp [*]; done) | (simp only [outV]; rw [M.okG_broken (by assumption)]; simp [*]; done)
 have hl3 := M.okP_len (M.lastPos_ok _ _ ho.1 (M.runs_ok g.moves _ ho.1))
 refine zdr [] ?_
 refine jM 0 rfl rfl ?_
 refine jM 1 rfl rfl ?_
 refine jU 2 rfl (Gd.t1 rfl rfl rfl) h11 ?_
 refine jU 3 rfl (Gd.t1 rfl rfl rfl) h11 ?_
 refine jU 4 rfl (Gd.t1 rfl rfl rfl) h11 ?_
 refine jU 5 rfl (Gd.t1 rfl rfl rfl) h11 ?_
 refine jU 6 rfl (Gd.t1 rfl rfl rfl) h11 ?_
 refine jU 7 rfl (Gd.t1 rfl rfl rfl) h11 ?_
 refine jU 8 rfl (Gd.t1 rfl rfl rfl) h11 ?_
 refine jU 9 rfl (Gd.t1 rfl rfl rfl) h11 ?_
 refine y1 10 ?_
 refine JHo.qg (v := .bool false) rfl (Gd.t1 rfl rfl rfl) (fun hc => absurd hc (by first | (rw [h11]; simp; done) | simp [h11])) ?_
 refine JH.p 11 rfl (p_pickAnd rfl rfl rfl) ?_
 refine jA 12 rfl rfl ?_
 refine yd ?_
 refine zR x8 ?_
 first | (simp only [outV]; rw [M.okG_yes ho.1 ho.2.1 ho.2.2 (by assumption) (by assumption) (by omega)]; simp [*]; done) | (simp only [outV]; rw [M.okG_broken (by assumption)]; simp [*]; done)
theorem c_impl_repeats (list : List M.Pos) {v_list : Value} (p : M.Pos) {v_p : Value} {w : World} (h_list : (Ty.sl 28 3 list.length (lPosition list)).ok w v_list) (h_p : (Ty.agg (cPosition p)).ok w v_p) (r0 : list.length ≤ 4194304 := by exact om_) (r1 : ∀ (k : Nat) (q : M.Pos), list[k]? = some q → q.pits.length ≤ 4194304 ∧ q.stores.length ≤ 4194304 := by exact om_) (r2 : p.pits.length ≤ 4194304 := by exact om_) (r3 : p.stores.length ≤ 4194304 := by exact om_) : RetV Tryz.prog 129 [v_list, v_p] w (.int .i64 (M.count p list)) := by
 revert v_list; apply opn
 intro A1 c1 h1 bl1 bh1
 have h_list := h1
 revert v_p; apply opn
 intro A2 c2 h2 bl2 bh2 A3 c3 h3 bl3 bh3
 refine enter @Tryz.func129 @Tryz.ntmps129 rfl rfl ?_
 refine zent ?_
 refine zS <| zb rfl fun b4 => Qa rfl <| zN <| Qa rfl <| zJ <| zS <| Qm rfl <| Qz rfl <| Qm rfl <| JL.nil <| Js.block ?_
 refine zl [3, 8, 9] (fun F U l os u m => ∃ (k : Nat) (n : Int), l = F [(5, .int .i64 n), (10, .int .i64 (k : Int))] ∧ os = U [] ∧ (n = M.count p (list.take k)) ∧ (k ≤ list.length) ∧ (0 ≤ n) ∧ (n ≤ k) ∧ m = list.length - k) ⟨0, 0, rfl, rfl, by rfl, zt, zt, zt, rfl⟩ ?_
 rintro _ _ u5 _ ⟨k, n, rfl, rfl, hn, hk, n0, n1, rfl⟩ x5
 refine zn ?_
 refine zS <| Ql rfl rfl <| zJ ?_
 refine zi (fun h6 h6' => ?_) fun h6 h6' => ?_
 ·
  obtain ⟨y7, hy7⟩ : ∃ x, list[k]? = some x := ⟨_, List.getElem?_eq_getElem (by omega)⟩
  obtain ⟨b7, o7, A7_0, c7_0, A7_1, c7_1, he7, hr7, h7_0, h7_1, bl7_0, bh7_0, bl7_1, bh7_1⟩ := elem_Position (Ty.mono _ h1 x5.vis) hy7
  have hlq := r1 _ _ hy7
  refine Js.skip <| Js.seq <| Js.block <| zS <| Qq (p_indexAddr el_104 rfl rfl (by omega) (by omega) he7) <| QS 0 hr7 rfl ?_
  refine za zeh fun b8 => zw 0 rfl rfl rfl ?_
  refine zN <| Q9 0 rfl rfl ?_
  refine Q9 1 rfl rfl ?_
  refine zv rfl (fun w hw => c_impl_SamePosition y7 p (ok_ hw) (ok_ hw)) <| JL.nil ?_
  refine zi (fun h9 h9' => ?_) fun h9 h9' => ?_
  ·
   have hs : M.sameP _ p = true := h9
   refine Js.region <| Qm rfl <| Qp rfl rfl <| Qa rfl <| JL.nil <| Js.blockEnd <| Js.region <| Qp rfl rfl <| Qm rfl <| JL.nil ?_
   refine zd [1] rfl fun u10 x10 => ?_
   exact zag ⟨k + 1, n + 1, rfl, rfl, by rw [M.count_step (by assumption)]; simp [hs, hn], zt, zt, zt, rfl⟩ (x5.trans x10)
  have hs : M.sameP _ p = false := h9
  refine Js.skip <| Js.blockEnd <| Js.region <| Qp rfl rfl <| Qm rfl <| JL.nil ?_
  refine zd [1] rfl fun u11 x11 => ?_
  exact zag ⟨k + 1, n, rfl, rfl, by rw [M.count_step (by assumption)]; simp [hs, hn], zt, zt, zt, rfl⟩ (x5.trans x11)
 have hE : n = M.count p list := by rw [hn, List.take_of_length_le (by omega)]
 refine zx ?_
 refine zS <| Qm rfl <| Qa rfl <| JL.nil ?_
 refine zR x5 ?_
 rw [hE]; rfl
theorem c_impl_majority (p : M.Pos) {v_p : Value} {w : World} (h_p : (Ty.agg (cPosition p)).ok w v_p) (r0 : p.pits.length ≤ 4194304 := by exact om_) (r1 : p.stores.length = 2 := by exact om_) (r2 : M.sumV p.pits + M.sumV p.stores = M.all p := by exact om_) (r3 : ∀ k : Int, 0 ≤ M.getI p.stores k ∧ M.getI p.stores k ≤ 96 := by exact om_) : RetV Tryz.prog 128 [v_p] w (.int .i64 (M.majority p)) := by
 revert v_p; apply opn
 intro A1 c1 h1 bl1 bh1 A2 c2 h2 bl2 bh2
 refine enter @Tryz.func128 @Tryz.ntmps128 rfl rfl ?_
 refine zent ?_
 refine zS <| zb rfl fun b3 => Qa rfl <| zJ <| zS <| Qf fh rfl <| Q0 0 rfl rfl rfl <| Qz rfl <| Qm rfl <| JL.nil <| Js.block ?_
 refine zl [1, 6, 7] (fun F U l os u m => ∃ (k : Nat), l = F [(8, .int .i64 (k : Int))] ∧ os = U [] ∧ (k ≤ 2) ∧ (M.noMaj p (k : Int)) ∧ m = 2 - k) ⟨0, rfl, rfl, zt, by exact M.noMaj_zero p, rfl⟩ ?_
 rintro _ _ u4 _ ⟨k, rfl, rfl, hk, hN, rfl⟩ x4
 refine zn ?_
 have hv := r3 (k : Int)
 rw [M.nth_getI] at hv
 refine zS <| Ql rfl rfl <| zJ ?_
 refine zi (fun h5 h5' => ?_) fun h5 h5' => ?_
 ·
  obtain ⟨b6, o6, he6, hc6⟩ := ints_elem (Ty.mono _ h2 x4.vis) (i := k) (by omega)
  refine Js.skip <| Js.seq <| Js.block <| zS <| Qm rfl <| Qq (p_indexAddr el_26 rfl rfl (by omega) (by omega) he6) <| QC hc6 rfl <| Qa rfl <| Qa rfl <| zN <| Qm rfl <| Qu rfl rfl <| Q9 0 rfl rfl ?_
  refine zv rfl (fun w hw => c_impl_Position_all p (ok_ hw)) <| Qg rfl rfl <| JL.nil ?_
  refine zi (fun h7 h7' => ?_) fun h7 h7' => ?_
  ·
   have hj : M.all p < 2 * M.getI p.stores (k : Int) := by rw [M.nth_getI, ← r2]; simpa using h7
   have hE := M.majority_at hN (by omega) (by omega) hj
   refine zS <| Qm rfl <| Qa rfl <| JL.nil ?_
   refine zR x4 ?_
   rw [hE]; rfl
  have hj : ¬ M.all p < 2 * M.getI p.stores (k : Int) := by rw [M.nth_getI, ← r2]; simpa using h7
  refine Js.skip <| Js.blockEnd <| Js.region <| Qp rfl rfl <| Qm rfl <| JL.nil ?_
  exact zag ⟨k + 1, rfl, rfl, zt, by exact M.noMaj_step hN hj, rfl⟩ x4
 have hE := M.majority_no hN (by have := h5'; omega)
 refine zx ?_
 refine zS <| Qa rfl <| JL.nil ?_
 refine zR x4 ?_
 rw [hE]; rfl
theorem c_impl_Rules_settled (r : M.Rul) {v_r : Value} (p : M.Pos) {v_p : Value} {w : World} (h_r : (Ty.agg (cRules r)).ok w v_r) (h_p : (Ty.agg (cPosition p)).ok w v_p) (r0 : M.okP r p = true := by exact om_) : Ret Tryz.prog 131 [v_r, v_p] w (Ty.agg (cPosition (M.settle r p))) := by
 obtain ⟨g1, g2, g3, g4, g5, g6, g7⟩ := M.okP_bd r0
 revert v_r; apply opn
 revert v_p; apply opn
 intro A1 c1 h1 bl1 bh1 A2 c2 h2 bl2 bh2
 refine enter @Tryz.func131 @Tryz.ntmps131 rfl rfl ?_
 refine zent ?_
 refine zS <| zb rfl fun b3 => zb rfl fun b4 => za zeh fun b5 => zJ ?_
 refine zk [2, 3, 4] (fun F U l os u => ∃ (b8 b6 : Nat) (A7 : Option Addr) (c7 : Nat), l = F [(5, .pointer (some ⟨b8, 0, none⟩))] ∧ os = [boxO b8 [.slice (some ⟨b6, 0, none⟩) p.pits.length p.pits.length, .slice A7 p.stores.length c7, .int .i64 p.player] 28, rowO 2 1 (.slice A7 p.stores.length c7) p.stores.length (ints_ p.stores) [], rowO 2 1 (.slice (some ⟨b6, 0, none⟩) p.pits.length p.pits.length) p.pits.length (ints_ (List.replicate p.pits.length 0)) []] ++ U [] ∧ (p.stores.length ≤ c7) ∧ (c7 ≤ 9223372036854775807)) ?_ ?_
 ·
  refine zdr [11] ?_
  refine jF 0 fld_28_0 rfl rfl ?_
  refine jB 1 1 ty_26 rfl rfl rfl rfl ?_
  refine JH.p 2 rfl (p_len el_26 rfl) ?_
  refine jF 4 fld_28_1 rfl rfl ?_
  refine jB 5 1 ty_26 rfl rfl rfl rfl ?_
  refine jF 7 fld_28_2 rfl rfl ?_
  refine jB 8 1 ty_2 rfl rfl rfl rfl ?_
  refine y3 3 6 10 ?_ ?_ ?_
  ·
   refine JHo.e rfl (e_makeI (m := p.pits.length) el_26 rfl rfl rfl (by omega) (by omega)) (.inl rfl) ?_
   rintro _ _ _ ⟨b22, rfl, rfl, rfl⟩ _
   refine znh ?_
   refine y2 6 10 ?_ ?_
   ·
    refine ycs rfl rfl (fun w hw => c_impl_copyNumbers p.stores (ok_ hw)) ?_
    intro A23 c23 bl23 bh23
    refine JH.p 9 rfl (q_bld) ?_
    refine y1 10 ?_
    refine ya rfl fun b24 => ?_
    refine y1 11 ?_
    refine yst rfl rfl rfl ?_
    refine yd ?_
    exact zm ⟨_, _, _, _, rfl, rfl, zt, zt⟩ (Up.refl _ _)
   refine ya rfl fun b25 => ?_
   refine y1 6 ?_
   refine ycs rfl rfl (fun w hw => c_impl_copyNumbers p.stores (ok_ hw)) ?_
   intro A26 c26 bl26 bh26
   refine JH.p 9 rfl (q_bld) ?_
   refine y1 11 ?_
   refine yst rfl rfl rfl ?_
   refine yd ?_
   refine zh [1, 0, 0, 0, 0, 0] ?_
   exact zm ⟨_, _, _, _, rfl, rfl, zt, zt⟩ (Up.refl _ _)
  ·
   refine ycs rfl rfl (fun w hw => c_impl_copyNumbers p.stores (ok_ hw)) ?_
   intro A27 c27 bl27 bh27
   refine y2 3 10 ?_ ?_
   ·
    refine JHo.e rfl (e_makeI (m := p.pits.length) el_26 rfl rfl rfl (by omega) (by omega)) (.inl rfl) ?_
    rintro _ _ _ ⟨b28, rfl, rfl, rfl⟩ _
    refine znh ?_
    refine JH.p 9 rfl (q_bld) ?_
    refine y1 10 ?_
    refine ya rfl fun b29 => ?_
    refine y1 11 ?_
    refine yst rfl rfl rfl ?_
    refine yd ?_
    refine zh [0, 1, 0, 0, 0, 0] ?_
    exact zm ⟨_, _, _, _, rfl, rfl, zt, zt⟩ (Up.refl _ _)
   refine ya rfl fun b30 => ?_
   refine y1 3 ?_
   refine JHo.e rfl (e_makeI (m := p.pits.length) el_26 rfl rfl rfl (by omega) (by omega)) (.inl rfl) ?_
   rintro _ _ _ ⟨b31, rfl, rfl, rfl⟩ _
   refine znh ?_
   refine JH.p 9 rfl (q_bld) ?_
   refine y1 11 ?_
   refine yst rfl rfl rfl ?_
   refine yd ?_
   refine zh [1, 1, 0, 0, 0, 0] ?_
   exact zm ⟨_, _, _, _, rfl, rfl, zt, zt⟩ (Up.refl _ _)
  refine ya rfl fun b32 => ?_
  refine y2 3 6 ?_ ?_
  ·
   refine JHo.e rfl (e_makeI (m := p.pits.length) el_26 rfl rfl rfl (by omega) (by omega)) (.inl rfl) ?_
   rintro _ _ _ ⟨b33, rfl, rfl, rfl⟩ _
   refine znh ?_
   refine y1 6 ?_
   refine ycs rfl rfl (fun w hw => c_impl_copyNumbers p.stores (ok_ hw)) ?_
   intro A34 c34 bl34 bh34
   refine JH.p 9 rfl (q_bld) ?_
   refine y1 11 ?_
   refine yst rfl rfl rfl ?_
   refine yd ?_
   refine zh [2, 0, 0, 0, 0, 0] ?_
   exact zm ⟨_, _, _, _, rfl, rfl, zt, zt⟩ (Up.refl _ _)
  refine ycs rfl rfl (fun w hw => c_impl_copyNumbers p.stores (ok_ hw)) ?_
  intro A35 c35 bl35 bh35
  refine y1 3 ?_
  refine JHo.e rfl (e_makeI (m := p.pits.length) el_26 rfl rfl rfl (by omega) (by omega)) (.inl rfl) ?_
  rintro _ _ _ ⟨b36, rfl, rfl, rfl⟩ _
  refine znh ?_
  refine JH.p 9 rfl (q_bld) ?_
  refine y1 11 ?_
  refine yst rfl rfl rfl ?_
  refine yd ?_
  refine zh [2, 1, 0, 0, 0, 0] ?_
  exact zm ⟨_, _, _, _, rfl, rfl, zt, zt⟩ (Up.refl _ _)
 rintro _ _ u21 ⟨b8, b6, A7, c7, rfl, rfl, f21_0, f21_1⟩ x21
 refine zn ?_
 refine Js.seq <| zS <| Qm rfl <| JL.nil <| Js.block ?_
 refine zl [2, 3, 4, 5] (fun F U l os u m => ∃ (k : Nat) (ss : List Int), l = F [(17, .int .i64 (k : Int))] ∧ os = U [nO, some (rowO 2 1 (.slice A7 p.stores.length c7) p.stores.length (ints_ ss) [])] ∧ (ss = M.setT r p k) ∧ (k ≤ 2) ∧ (ss.length = p.stores.length) ∧ m = 2 - k) ⟨0, p.stores, rfl, rfl, by rfl, zt, by rfl, rfl⟩ ?_
 rintro _ _ u37 _ ⟨k, ss, rfl, rfl, hX, hk, hl, rfl⟩ x37
 refine zn ?_
 have hv := M.setT_bd r0 k (k : Int)
 rw [← hX, M.nth_getI] at hv
 have hw9 := M.side_bd g5 g2 (k : Int)
 refine zS <| Ql rfl rfl <| zJ ?_
 refine zi (fun h38 h38' => ?_) fun h38 h38' => ?_
 ·
  refine Js.skip <| Js.seq <| Js.block <| zS <| Qm rfl <| Qa rfl <| JL.nil ?_
  refine zdr [12] ?_
  refine jF 0 fld_28_1 rfl rfl ?_
  refine jB 1 0 ty_26 rfl rfl rfl rfl ?_
  refine jM 2 rfl rfl ?_
  refine JH.fact (row_some (i := 1) rfl (by omega)) (fun hf40 => ?_)
  obtain ⟨b40, rfl⟩ := hf40
  refine jI 3 el_26 rfl rfl rfl rfl ?_
  refine JH.q 4 rfl (q_load1 ty_2.h rfl (Mem.row (i := 1) rfl (ints_get (i := k) (by omega)))) ?_
  refine JH.q 5 rfl (L9 5 rfl rfl) ?_
  refine jF 6 fld_28_0 rfl rfl ?_
  refine jB 7 4 ty_26 rfl rfl rfl rfl ?_
  refine jM 8 rfl rfl ?_
  refine y1 9 ?_
  refine yv rfl rfl (fun w hw => c_impl_Rules_side r p.pits (k : Int) (ok_ hw) (ok_ hw) (r4 := g5)) ?_
  refine JH.p 10 rfl (p_add rfl rfl (IntWalk.i64_in _ (by omega))) ?_
  refine jI 11 el_26 rfl rfl rfl rfl ?_
  refine y1 12 ?_
  refine JHo.s rfl (e_storeRow (i := 1) (xs' := ints_ (ss.set k ((M.nth ss k) + (M.side r p.pits (k : Int))))) ty_2.h rfl rfl rfl rfl rfl rfl (ints_lt (i := k) (by omega)) (ints_setL (i := k) (by omega))) (.inr rfl) ?_
  rintro _ _ _ ⟨rfl, rfl⟩ _
  refine znh ?_
  refine yd ?_
  refine Js.blockEnd <| Js.region <| Qp rfl rfl <| Qm rfl <| JL.nil ?_
  exact zag ⟨k + 1, ss.set k ((M.nth ss k) + (M.side r p.pits (k : Int))), rfl, rfl, by rw [hX]; simp [M.setT, M.setI, M.getI], zt, by rw [List.length_set]; exact hl, rfl⟩ x37
 have hE : ss = (M.settle r p).stores := by rw [hX, show k = 2 by have := h38'; omega]; rfl
 refine zx ?_
 have hq0 : (List.replicate p.pits.length 0) = (M.settle r p).pits := by first | exact hE | rfl
 have hq1 : ss = (M.settle r p).stores := by first | exact hE | rfl
 have hq2 : p.player = (M.settle r p).player := by first | exact hE | rfl
 refine zS <| Q9 0 rfl rfl ?_
 refine zw 3 rfl rfl rfl ?_
 refine JL.nil ?_
 exact zro (x21.trans x37)
theorem c_impl_Rules_given (r : M.Rul) {v_r : Value} (p : M.Pos) {v_p : Value} (player : Int) {w : World} (h_r : (Ty.agg (cRules r)).ok w v_r) (h_p : (Ty.agg (cPosition p)).ok w v_p) (r0 : M.okP r p = true := by exact om_) (r1 : player = 0 ∨ player = 1 := by exact om_) : Ret Tryz.prog 130 [v_r, v_p, .int .i64 player] w (Ty.agg (cPosition (M.give p player))) := by
 obtain ⟨g1, g2, g3, g4, g5, g6, g7⟩ := M.okP_bd r0
 have hv0 := M.side_bd g5 g2 0
 have hv1 := M.side_bd g5 g2 1
 have hv2 := M.allOk_getI g6 player
 have hsa := M.side_all (r := r) (ps := p.pits) (by omega) g3
 revert v_r; apply opn
 revert v_p; apply opn
 intro A1 c1 h1 bl1 bh1 A2 c2 h2 bl2 bh2
 refine enter @Tryz.func130 @Tryz.ntmps130 rfl rfl ?_
 refine zent ?_
 refine zS <| zb rfl fun b3 => zb rfl fun b4 => za zeh fun b5 => zJ ?_
 refine zk [2, 3, 4, 6] (fun F U l os u => ∃ (b8 b6 : Nat) (A7 : Option Addr) (c7 : Nat), l = F [(7, .pointer (some ⟨b8, 0, none⟩))] ∧ os = [boxO b8 [.slice (some ⟨b6, 0, none⟩) p.pits.length p.pits.length, .slice A7 p.stores.length c7, .int .i64 p.player] 28, rowO 2 1 (.slice A7 p.stores.length c7) p.stores.length (ints_ p.stores) [], rowO 2 1 (.slice (some ⟨b6, 0, none⟩) p.pits.length p.pits.length) p.pits.length (ints_ (List.replicate p.pits.length 0)) []] ++ U [] ∧ (p.stores.length ≤ c7) ∧ (c7 ≤ 9223372036854775807)) ?_ ?_
 ·
  refine zdr [11] ?_
  refine jF 0 fld_28_0 rfl rfl ?_
  refine jB 1 1 ty_26 rfl rfl rfl rfl ?_
  refine JH.p 2 rfl (p_len el_26 rfl) ?_
  refine jF 4 fld_28_1 rfl rfl ?_
  refine jB 5 1 ty_26 rfl rfl rfl rfl ?_
  refine jF 7 fld_28_2 rfl rfl ?_
  refine jB 8 1 ty_2 rfl rfl rfl rfl ?_
  refine y3 3 6 10 ?_ ?_ ?_
  ·
   refine JHo.e rfl (e_makeI (m := p.pits.length) el_26 rfl rfl rfl (by omega) (by omega)) (.inl rfl) ?_
   rintro _ _ _ ⟨b22, rfl, rfl, rfl⟩ _
   refine znh ?_
   refine y2 6 10 ?_ ?_
   ·
    refine ycs rfl rfl (fun w hw => c_impl_copyNumbers p.stores (ok_ hw)) ?_
    intro A23 c23 bl23 bh23
    refine JH.p 9 rfl (q_bld) ?_
    refine y1 10 ?_
    refine ya rfl fun b24 => ?_
    refine y1 11 ?_
    refine yst rfl rfl rfl ?_
    refine yd ?_
    exact zm ⟨_, _, _, _, rfl, rfl, zt, zt⟩ (Up.refl _ _)
   refine ya rfl fun b25 => ?_
   refine y1 6 ?_
   refine ycs rfl rfl (fun w hw => c_impl_copyNumbers p.stores (ok_ hw)) ?_
   intro A26 c26 bl26 bh26
   refine JH.p 9 rfl (q_bld) ?_
   refine y1 11 ?_
   refine yst rfl rfl rfl ?_
   refine yd ?_
   refine zh [1, 0, 0, 0, 0, 0] ?_
   exact zm ⟨_, _, _, _, rfl, rfl, zt, zt⟩ (Up.refl _ _)
  ·
   refine ycs rfl rfl (fun w hw => c_impl_copyNumbers p.stores (ok_ hw)) ?_
   intro A27 c27 bl27 bh27
   refine y2 3 10 ?_ ?_
   ·
    refine JHo.e rfl (e_makeI (m := p.pits.length) el_26 rfl rfl rfl (by omega) (by omega)) (.inl rfl) ?_
    rintro _ _ _ ⟨b28, rfl, rfl, rfl⟩ _
    refine znh ?_
    refine JH.p 9 rfl (q_bld) ?_
    refine y1 10 ?_
    refine ya rfl fun b29 => ?_
    refine y1 11 ?_
    refine yst rfl rfl rfl ?_
    refine yd ?_
    refine zh [0, 1, 0, 0, 0, 0] ?_
    exact zm ⟨_, _, _, _, rfl, rfl, zt, zt⟩ (Up.refl _ _)
   refine ya rfl fun b30 => ?_
   refine y1 3 ?_
   refine JHo.e rfl (e_makeI (m := p.pits.length) el_26 rfl rfl rfl (by omega) (by omega)) (.inl rfl) ?_
   rintro _ _ _ ⟨b31, rfl, rfl, rfl⟩ _
   refine znh ?_
   refine JH.p 9 rfl (q_bld) ?_
   refine y1 11 ?_
   refine yst rfl rfl rfl ?_
   refine yd ?_
   refine zh [1, 1, 0, 0, 0, 0] ?_
   exact zm ⟨_, _, _, _, rfl, rfl, zt, zt⟩ (Up.refl _ _)
  refine ya rfl fun b32 => ?_
  refine y2 3 6 ?_ ?_
  ·
   refine JHo.e rfl (e_makeI (m := p.pits.length) el_26 rfl rfl rfl (by omega) (by omega)) (.inl rfl) ?_
   rintro _ _ _ ⟨b33, rfl, rfl, rfl⟩ _
   refine znh ?_
   refine y1 6 ?_
   refine ycs rfl rfl (fun w hw => c_impl_copyNumbers p.stores (ok_ hw)) ?_
   intro A34 c34 bl34 bh34
   refine JH.p 9 rfl (q_bld) ?_
   refine y1 11 ?_
   refine yst rfl rfl rfl ?_
   refine yd ?_
   refine zh [2, 0, 0, 0, 0, 0] ?_
   exact zm ⟨_, _, _, _, rfl, rfl, zt, zt⟩ (Up.refl _ _)
  refine ycs rfl rfl (fun w hw => c_impl_copyNumbers p.stores (ok_ hw)) ?_
  intro A35 c35 bl35 bh35
  refine y1 3 ?_
  refine JHo.e rfl (e_makeI (m := p.pits.length) el_26 rfl rfl rfl (by omega) (by omega)) (.inl rfl) ?_
  rintro _ _ _ ⟨b36, rfl, rfl, rfl⟩ _
  refine znh ?_
  refine JH.p 9 rfl (q_bld) ?_
  refine y1 11 ?_
  refine yst rfl rfl rfl ?_
  refine yd ?_
  refine zh [2, 1, 0, 0, 0, 0] ?_
  exact zm ⟨_, _, _, _, rfl, rfl, zt, zt⟩ (Up.refl _ _)
 rintro _ _ u21 ⟨b8, b6, A7, c7, rfl, rfl, f21_0, f21_1⟩ x21
 refine zn ?_
 refine Js.seq ?_
 refine zdr [16] ?_
 refine jF 0 fld_28_1 rfl rfl ?_
 refine jB 1 0 ty_26 rfl rfl rfl rfl ?_
 refine jM 2 rfl rfl ?_
 refine JH.fact (row_some (i := 1) rfl (by omega)) (fun hf38 => ?_)
 obtain ⟨b38, rfl⟩ := hf38
 refine jI 3 el_26 rfl rfl rfl rfl ?_
 refine JH.q 4 rfl (q_load1 ty_2.h rfl (Mem.row (i := 1) rfl (ints_getI (i := player) (by omega)))) ?_
 refine JH.q 5 rfl (L9 5 rfl rfl) ?_
 refine jF 6 fld_28_0 rfl rfl ?_
 refine jB 7 4 ty_26 rfl rfl rfl rfl ?_
 refine JH.q 9 rfl (L9 5 rfl rfl) ?_
 refine jF 10 fld_28_0 rfl rfl ?_
 refine jB 11 4 ty_26 rfl rfl rfl rfl ?_
 refine y1 8 ?_
 refine yv rfl rfl (fun w hw => c_impl_Rules_side r p.pits 0 (ok_ hw) (ok_ hw) (r4 := g5)) ?_
 refine y1 12 ?_
 refine yv rfl rfl (fun w hw => c_impl_Rules_side r p.pits 1 (ok_ hw) (ok_ hw) (r4 := g5)) ?_
 refine JH.p 13 rfl (p_add rfl rfl (IntWalk.i64_in _ (by omega))) ?_
 refine JH.p 14 rfl (p_add rfl rfl (IntWalk.i64_in _ (by omega))) ?_
 refine jI 15 el_26 rfl rfl rfl rfl ?_
 refine y1 16 ?_
 refine JHo.s rfl (e_storeRow (i := 1) (xs' := ints_ (M.setI p.stores player ((M.getI p.stores player) + ((M.side r p.pits 0) + (M.side r p.pits 1))))) ty_2.h rfl rfl rfl rfl rfl rfl (ints_lt (i := player.toNat) (by omega)) (ints_setL (i := player.toNat) (by omega))) (.inr rfl) ?_
 rintro _ _ _ ⟨rfl, rfl⟩ _
 refine znh ?_
 refine yd ?_
 have hq0 : (List.replicate p.pits.length 0) = (M.give p player).pits := by first | rfl | (rw [hsa]; rfl)
 have hq1 : (M.setI p.stores player ((M.getI p.stores player) + ((M.side r p.pits 0) + (M.side r p.pits 1)))) = (M.give p player).stores := by first | rfl | (rw [hsa]; rfl)
 have hq2 : p.player = (M.give p player).player := by first | rfl | (rw [hsa]; rfl)
 refine zS <| Q9 0 rfl rfl ?_
 refine zw 3 rfl rfl rfl ?_
 refine JL.nil ?_
 exact zro x21
theorem c_impl_Game_endOf (g : M.Gam) {v_g : Value} {w : World} (h_g : (Ty.agg (cGame g)).ok w v_g) (r0 : g.start.pits.length ≤ 4194304 := by exact om_) (r1 : g.start.stores.length ≤ 4194304 := by exact om_) (r2 : g.moves.length ≤ 4194304 := by exact om_) (r3 : g.now.pits.length ≤ 4194304 := by exact om_) (r4 : g.now.stores.length ≤ 4194304 := by exact om_) (r5 : M.okG g = true := by exact om_) : RetV Tryz.prog 76 [v_g] w (.int .i64 (M.endOf g)) := by
 have hok := r5
 obtain ⟨k1, k2, k3, k4, k5, k6, k7, k8, k9⟩ := M.okG_parts hok
 have hnow := M.okG_now hok
 have k10 := M.okP_len hnow
 have k11 := M.okP_len k1
 (have k12 : (M.playedP g).length = g.moves.length + 1 := by rw [k6, M.hist_length, k8])
 have k13 : (M.playedR g).length = g.moves.length := by rw [k7, k8]
 have hC := M.okC_yes hok
 obtain ⟨g1, g2, g3, g4, g5, g6, g7⟩ := M.okP_bd hnow
 revert v_g; apply opn
 intro A1 c1 h1 bl1 bh1 A2 c2 h2 bl2 bh2 A3 c3 h3 bl3 bh3 A4 c4 h4 bl4 bh4 A5 c5 h5 bl5 bh5
 refine enter @Tryz.func76 @Tryz.ntmps76 rfl rfl ?_
 refine zent ?_
 refine zS <| zb rfl fun b6 => Qa rfl <| zN <| Q9 0 rfl rfl ?_
 refine zp rfl (fun w hw => c_impl_Game_played g (ok_ hw)) ?_
 intro u7 x7 A8 c8 h8 bl8 bh8 A9 c9 h9 bl9 bh9
 refine Qm rfl <| Qx rfl rfl <| Qx rfl rfl <| Qx rfl rfl <| Qa rfl <| Qa rfl <| Qa rfl <| zJ <| Js.block <| zS <| Qf fh rfl <| Q0 0 rfl rfl rfl <| Qh rfl rfl <| Qa rfl ?_
 refine JL.nil ?_
 refine zi (fun h10 h10' => ?_) fun h10 h10' => ?_
 ·
  have hE := M.endOf_1 (g := g) (by simpa using h10)
  refine zS <| Qa rfl <| JL.nil ?_
  refine zR x7 ?_
  rw [hE]; rfl
 have q1 : ¬ 0 ≤ g.resigned := by simpa using h10
 refine zS <| Qf fh rfl <| Q9 0 rfl rfl ?_
 refine zv rfl (fun w hw => c_impl_majority g.now (ok_ hw) (r2 := (M.all_V hnow)) (r3 := (fun k => M.allOk_getI g6 k))) <| Qh rfl rfl <| Qa rfl <| JL.nil ?_
 refine zi (fun h11 h11' => ?_) fun h11 h11' => ?_
 ·
  have hE := M.endOf_2 q1 (by simpa using h11)
  refine zS <| Qa rfl <| JL.nil ?_
  refine zR x7 ?_
  rw [hE]; rfl
 have q2 : ¬ 0 ≤ M.majority g.now := by simpa using h11
 refine zS <| Qf fh rfl <| Q9 0 rfl rfl ?_
 refine Qf fh rfl <| Q9 0 rfl rfl ?_
 refine zp rfl (fun w hw => c_impl_Rules_results g.rules g.now (ok_ hw) (ok_ hw) (r0 := hnow)) ?_
 intro u12 x12 A13 c13 h13 bl13 bh13
 refine Qz rfl <| Qe rfl rfl <| Qa rfl <| JL.nil ?_
 refine zi (fun h14 h14' => ?_) fun h14 h14' => ?_
 ·
  have hE := M.endOf_3 q1 q2 (by have := h14'; omega)
  refine zS <| Qa rfl <| JL.nil ?_
  refine zR (x7.trans x12) ?_
  rw [hE]; rfl
 have q3 : (M.results g.rules g.now).length ≠ 0 := by have := h14'; omega
 refine zS <| Qm rfl <| Qf fh rfl <| Q9 0 rfl rfl ?_
 refine zv rfl (fun w hw => c_impl_repeats (M.playedP g) g.now (ok_ hw) (ok_ hw) (r1 := (fun _ _ hq => M.okP_len (M.hist_okG hok hq)))) <| Qh rfl rfl <| Qa rfl <| JL.nil ?_
 refine zi (fun h15 h15' => ?_) fun h15 h15' => ?_
 ·
  have hE := M.endOf_4 q1 q2 q3 (by simpa using h15)
  refine zS <| Qa rfl <| JL.nil ?_
  refine zR (x7.trans x12) ?_
  rw [hE]; rfl
 have q4 : ¬ 3 ≤ M.count g.now (M.playedP g) := by simpa using h15
 refine zS <| Qf fh rfl <| Q0 0 rfl rfl rfl <| Qz rfl <| Qe rfl rfl <| Qa rfl <| JL.nil ?_
 refine zi (fun h16 h16' => ?_) fun h16 h16' => ?_
 ·
  have hE := M.endOf_5 q1 q2 q3 q4 (by have := h16'; omega)
  refine zS <| Qa rfl <| JL.nil ?_
  refine zR (x7.trans x12) ?_
  rw [hE]; rfl
 have hE := M.endOf_0 q1 q2 q3 q4 (by have := h16'; omega)
 refine Js.skip <| Js.blockEnd <| zS <| Qa rfl <| JL.nil ?_
 refine zR (x7.trans x12) ?_
 rw [hE]; rfl
theorem c_impl_Game_final (g : M.Gam) {v_g : Value} {w : World} (h_g : (Ty.agg (cGame g)).ok w v_g) (r0 : M.okP g.rules g.now = true := by exact om_) (r1 : -1 ≤ g.resigned := by exact om_) (r2 : g.resigned ≤ 1 := by exact om_) : Ret Tryz.prog 77 [v_g] w (Ty.agg (cPosition (M.final g))) := by
 obtain ⟨g1, g2, g3, g4, g5, g6, g7⟩ := M.okP_bd r0
 revert v_g; apply opn
 intro A1 c1 h1 bl1 bh1 A2 c2 h2 bl2 bh2 A3 c3 h3 bl3 bh3 A4 c4 h4 bl4 bh4 A5 c5 h5 bl5 bh5
 refine enter @Tryz.func77 @Tryz.ntmps77 rfl rfl ?_
 refine zent ?_
 refine zS <| zb rfl fun b6 => za zeh fun b7 => zJ <| zS <| Qf fh rfl <| Q0 1 rfl rfl rfl <| Qh rfl rfl <| JL.nil ?_
 refine zi (fun h8 h8' => ?_) fun h8 h8' => ?_
 ·
  have hF := M.final_yes (g := g) (by simpa using h8)
  refine zS <| Qf fh rfl <| Q9 1 rfl rfl ?_
  refine Qf fh rfl <| Q9 1 rfl rfl ?_
  refine Qf fh rfl <| Q0 1 rfl rfl rfl <| Qs rfl rfl <| zcs rfl (fun w hw => c_impl_Rules_given g.rules g.now (1 - g.resigned) (ok_ hw) (ok_ hw) (r0 := r0)) ?_
  intro A9_0 c9_0 bl9_0 bh9_0 A9_1 c9_1 bl9_1 bh9_1 f9
  have hq0 : (M.give g.now (1 - g.resigned)) = M.final g := by rw [hF]
  refine zw 1 rfl rfl rfl ?_
  refine JL.nil ?_
  exact zro (Up.refl _ _)
 have hF := M.final_no (g := g) (by simpa using h8)
 refine Js.skip <| zS <| Qf fh rfl <| Q9 1 rfl rfl ?_
 refine Qf fh rfl <| Q9 1 rfl rfl ?_
 refine zcs rfl (fun w hw => c_impl_Rules_settled g.rules g.now (ok_ hw) (ok_ hw) (r0 := r0)) ?_
 intro A10_0 c10_0 bl10_0 bh10_0 A10_1 c10_1 bl10_1 bh10_1 f10
 have hq0 : (M.settle g.rules g.now) = M.final g := by rw [hF]
 refine zw 1 rfl rfl rfl ?_
 refine JL.nil ?_
 exact zro (Up.refl _ _)
theorem c_impl_EndName (kind : Int) {w : World}  : RetV Tryz.prog 78 [.int .i64 kind] w (.string (sB (M.endName kind))) := by
 refine enter @Tryz.func78 @Tryz.ntmps78 rfl rfl ?_
 refine zent ?_
 refine zS <| Qa rfl <| zN <| Qq (q_bldA) <| za zeh fun b1 => zw 0 rfl rfl rfl ?_
 refine zJ <| zS <| Qm rfl <| zv rfl (fun w hw => c_impl_between kind 0 5) <| Qt rfl <| JL.nil ?_
 refine zi (fun h2 h2' => ?_) fun h2 h2' => ?_
 ·
  have hE := M.endName_no (k := kind) (by simpa using h2)
  refine zS <| Qa rfl <| JL.nil ?_
  refine zR (Up.refl _ _) ?_
  rw [hE]; rfl
 have hb : M.betw kind 0 5 = true := by simpa using h2
 obtain ⟨hb0, hb1⟩ := M.betw_iff.1 hb
 obtain ⟨y3, hy3⟩ : ∃ x, ([([110, 111, 110, 101] : List UInt8), ([114, 101, 115, 105, 103, 110] : List UInt8), ([109, 97, 106, 111, 114, 105, 116, 121] : List UInt8), ([98, 108, 111, 99, 107, 101, 100] : List UInt8), ([114, 101, 112, 101, 97, 116] : List UInt8), ([108, 101, 110, 103, 116, 104] : List UInt8)] : List (List UInt8))[kind.toNat]? = some x := ⟨_, List.getElem?_eq_getElem (by simp only [List.length_cons, List.length_nil]; omega)⟩
 refine Js.skip <| zS <| Qm rfl <| Qq (p_indexAddrA (kk := kind.toNat) ArrI.h rfl rfl (by omega) (by omega) (show 0 + kind.toNat * 1 = kind.toNat by omega)) <| Qw (q_load1 ty_9.h rfl (Mem.box (i := 0) rfl (txs_get (xs := [([110, 111, 110, 101] : List UInt8), ([114, 101, 115, 105, 103, 110] : List UInt8), ([109, 97, 106, 111, 114, 105, 116, 121] : List UInt8), ([98, 108, 111, 99, 107, 101, 100] : List UInt8), ([114, 101, 112, 101, 97, 116] : List UInt8), ([108, 101, 110, 103, 116, 104] : List UInt8)]) hy3))) <| Qa rfl <| JL.nil ?_
 refine zR (Up.refl _ _) ?_
 rw [M.endName_yes hb hy3]; rfl
theorem c_impl_Decimal (n : Int) {w : World} (h_tab : tabT.ok w undef) (r0 : -9223372036854775808 ≤ n := by exact om_) (r1 : n ≤ 9223372036854775807 := by exact om_) : RetV Tryz.prog 43 [.int .i64 n] w (.string (sB (M.dec n))) := by
 refine enter @Tryz.func43 @Tryz.ntmps43 rfl rfl ?_
 refine zent ?_
 refine zS <| Qa rfl <| zN <| Qm rfl <| zv rfl (fun w hw => c_strconv_FormatInt n 10 (ok_ hw)) <| Qa rfl <| JL.nil ?_
 exact zr (Up.refl _ _)
theorem c_impl_SummaryOf (g : M.Gam) {v_g : Value} {w : World} (h_g : (Ty.agg (cGame g)).ok w v_g) (h_tab : tabT.ok w undef) (r0 : g.start.pits.length ≤ 4194304 := by exact om_) (r1 : g.start.stores.length ≤ 4194304 := by exact om_) (r2 : g.moves.length ≤ 4194304 := by exact om_) (r3 : g.now.pits.length ≤ 4194304 := by exact om_) (r4 : g.now.stores.length ≤ 4194304 := by exact om_) : RetV Tryz.prog 27 [v_g] w (.tuple #[.string (sB ((M.summaryR g).1)), .int .i64 ((M.summaryR g).2)]) := by
 revert v_g; apply opn
 intro A1 c1 h1 bl1 bh1 A2 c2 h2 bl2 bh2 A3 c3 h3 bl3 bh3 A4 c4 h4 bl4 bh4 A5 c5 h5 bl5 bh5
 refine enter @Tryz.func27 @Tryz.ntmps27 rfl rfl ?_
 refine zent ?_
 refine zS <| zb rfl fun b6 => Qa rfl <| Qa rfl <| zJ <| zS <| Q9 0 rfl rfl ?_
 refine zv rfl (fun w hw => c_impl_ValidGame g (ok_ hw)) <| Qt rfl <| JL.nil ?_
 refine zi (fun h7 h7' => ?_) fun h7 h7' => ?_
 ·
  have hno : M.okG g = false := by simpa using h7
  have hE := M.summaryR_no hno
  refine zS <| Qa rfl <| Qa rfl <| JL.nil ?_
  refine zR (Up.refl _ _) ?_
  first | (rw [hE]; rfl) | (rw [hE, M.summary, hF]; rfl)
 have hok : M.okG g = true := by simpa using h7
 obtain ⟨k1, k2, k3, k4, k5, k6, k7, k8, k9⟩ := M.okG_parts hok
 have hnow := M.okG_now hok
 have k10 := M.okP_len hnow
 obtain ⟨g1, g2, g3, g4, g5, g6, g7⟩ := M.okP_bd hnow
 have hfs := M.final_stores g
 have v0 := M.allOk_nth g6 0
 have v1 := M.allOk_nth g6 1
 have v2 : -10000 ≤ M.nth (M.final g).stores 0 ∧ M.nth (M.final g).stores 0 ≤ 10000 := M.final_bd hok 0
 have v3 : -10000 ≤ M.nth (M.final g).stores 1 ∧ M.nth (M.final g).stores 1 ≤ 10000 := M.final_bd hok 1
 refine Js.skip <| Js.seq ?_
 refine zdr [] ?_
 refine JH.q 0 rfl (L9 0 rfl rfl) ?_
 refine jF 2 fld_48_3 rfl rfl ?_
 refine jF 3 fld_28_1 rfl rfl ?_
 refine jB 4 0 ty_26 rfl rfl rfl rfl ?_
 refine y1 1 ?_
 refine yv rfl rfl (fun w hw => c_impl_Game_endOf g (ok_ hw) (r5 := hok)) ?_
 refine jA 5 rfl rfl ?_
 refine jA 6 rfl rfl ?_
 refine yd ?_
 refine Js.seq <| zS <| Qm rfl <| Qd rfl rfl <| JL.nil ?_
 refine zi (fun h8 h8' => ?_) fun h8 h8' => ?_
 ·
  have hE : M.summaryR g = (M.summary g, 0) := M.summaryR_yes hok
  have hF := M.fin_final (g := g) (by simpa using h8)
  refine Js.region <| Q9 0 rfl rfl ?_
  refine zp rfl (fun w hw => c_impl_Game_final g (ok_ hw) (r0 := hnow)) ?_
  intro u9 x9 A10 c10 h10 bl10 bh10 A11 c11 h11 bl11 bh11
  refine Qi fh rfl rfl <| Qa rfl <| zJ ?_
  refine zdr [] ?_
  refine jF 0 fld_48_2 rfl rfl ?_
  refine jB 1 0 ty_26 rfl rfl rfl rfl ?_
  refine JH.p 2 rfl (p_len el_26 rfl) ?_
  refine jM 5 rfl rfl ?_
  refine jM 9 rfl rfl ?_
  obtain ⟨b12, o12, he12, hc12⟩ := ints_elem h11 (i := 0) (by omega)
  refine jI 10 el_26 rfl rfl rfl he12 ?_
  refine jW 11 ty_2 rfl rfl hc12.vis ?_
  refine jM 15 rfl rfl ?_
  obtain ⟨b13, o13, he13, hc13⟩ := ints_elem h11 (i := 1) (by omega)
  refine jI 16 el_26 rfl rfl rfl he13 ?_
  refine jW 17 ty_2 rfl rfl hc13.vis ?_
  refine y1 3 ?_
  refine yv rfl rfl (fun w hw => c_impl_Decimal (g.moves.length : Int) (ok_ hw)) ?_
  refine JH.p 4 rfl (q_cat rfl rfl) ?_
  refine y1 6 ?_
  refine yv rfl rfl (fun w hw => c_impl_EndName (M.endOf g)) ?_
  refine JH.p 7 rfl (q_cat rfl rfl) ?_
  refine JH.p 8 rfl (q_cat rfl rfl) ?_
  refine y1 12 ?_
  refine yv rfl rfl (fun w hw => c_impl_Decimal (M.nth ((M.final g).stores) 0) (ok_ hw)) ?_
  refine JH.p 13 rfl (q_cat rfl rfl) ?_
  refine JH.p 14 rfl (q_cat rfl rfl) ?_
  refine y1 18 ?_
  refine yv rfl rfl (fun w hw => c_impl_Decimal (M.nth ((M.final g).stores) 1) (ok_ hw)) ?_
  refine JH.p 19 rfl (q_cat rfl rfl) ?_
  refine jA 20 rfl rfl ?_
  refine jA 21 rfl rfl ?_
  refine yd ?_
  refine zR x9 ?_
  first | (rw [hE]; rfl) | (rw [hE, M.summary, hF]; rfl)
 have hE : M.summaryR g = (M.summary g, 0) := M.summaryR_yes hok
 have hF := M.fin_now (g := g) (by simpa using h8)
 refine Js.skip <| Js.seq ?_
 refine zdr [] ?_
 refine jF 0 fld_48_2 rfl rfl ?_
 refine jB 1 0 ty_26 rfl rfl rfl rfl ?_
 refine JH.p 2 rfl (p_len el_26 rfl) ?_
 refine jM 5 rfl rfl ?_
 refine jM 9 rfl rfl ?_
 obtain ⟨b14, o14, he14, hc14⟩ := ints_elem h5 (i := 0) (by omega)
 refine jI 10 el_26 rfl rfl rfl he14 ?_
 refine jW 11 ty_2 rfl rfl hc14.vis ?_
 refine jM 15 rfl rfl ?_
 obtain ⟨b15, o15, he15, hc15⟩ := ints_elem h5 (i := 1) (by omega)
 refine jI 16 el_26 rfl rfl rfl he15 ?_
 refine jW 17 ty_2 rfl rfl hc15.vis ?_
 refine y1 3 ?_
 refine yv rfl rfl (fun w hw => c_impl_Decimal (g.moves.length : Int) (ok_ hw)) ?_
 refine JH.p 4 rfl (q_cat rfl rfl) ?_
 refine y1 6 ?_
 refine yv rfl rfl (fun w hw => c_impl_EndName (M.endOf g)) ?_
 refine JH.p 7 rfl (q_cat rfl rfl) ?_
 refine JH.p 8 rfl (q_cat rfl rfl) ?_
 refine y1 12 ?_
 refine yv rfl rfl (fun w hw => c_impl_Decimal (M.nth g.now.stores 0) (ok_ hw)) ?_
 refine JH.p 13 rfl (q_cat rfl rfl) ?_
 refine JH.p 14 rfl (q_cat rfl rfl) ?_
 refine y1 18 ?_
 refine yv rfl rfl (fun w hw => c_impl_Decimal (M.nth g.now.stores 1) (ok_ hw)) ?_
 refine JH.p 19 rfl (q_cat rfl rfl) ?_
 refine jA 20 rfl rfl ?_
 refine jA 21 rfl rfl ?_
 refine yd ?_
 refine zR (Up.refl _ _) ?_
 first | (rw [hE]; rfl) | (rw [hE, M.summary, hF]; rfl)
theorem c_impl_isDigit (c : Int) {w : World}  : RetV Tryz.prog 93 [.int .u8 c] w (.bool (M.isDig c)) := by
 refine enter @Tryz.func93 @Tryz.ntmps93 rfl rfl ?_
 refine zent ?_
 refine zS <| Qa rfl <| zN <| Qm rfl <| Qh rfl rfl <| Qm rfl <| zg (Gd.t1 rfl rfl rfl) (fun hc => p_move rfl) <| zg (Gd.t1 rfl rfl rfl) (fun hc => p_leq (gh hc rfl) rfl) <| Qq (p_pickAnd rfl rfl rfl) <| Qa rfl <| JL.nil ?_
 exact zr (Up.refl _ _)
theorem c_impl_ReadDecimal (t : List UInt8) {w : World} (h_tab : tabT.ok w undef) (r0 : t.length ≤ 4194304 := by exact om_) : RetV Tryz.prog 45 [.string (sB t)] w (.tuple #[.int .i64 ((M.num t).1), .bool ((M.num t).2)]) := by
 refine enter @Tryz.func45 @Tryz.ntmps45 rfl rfl ?_
 refine zent ?_
 have hbt1 := M.bat_bd t 0
 refine zS <| Qa rfl <| Qa rfl <| zN <| Qm rfl <| Qa rfl <| zJ <| zS <| Qm rfl <| Qq (p_lenS und_9 rfl) <| Qg rfl rfl <| Qm rfl <| zg (Gd.t1 rfl rfl rfl) (fun hc => p_move rfl) <| zg (Gd.t1 rfl rfl rfl) (fun hc => p_byteS (i := 0) und_9 (gh hc rfl) rfl (by first | have hc9 := hc; (try simp only [decide_eq_true_eq] at hc9); omega | (have h9 := List.length_pos_iff.2 (by simpa using hc); omega))) ?_
 refine zg (Gd.t1 rfl rfl rfl) (fun hc => p_eql (gh hc rfl) rfl) <| Qq (p_pickAnd rfl rfl rfl) <| JL.nil ?_
 refine zi (fun h2 h2' => ?_) fun h2 h2' => ?_
 ·
  have h8 : t ≠ [] := by have h9 := h2; simp at h9; exact List.length_pos_iff.1 (by omega)
  have hT : M.numT t = t.drop 1 := by have h9 := h2; simp at h9; exact M.numT_y h8 h9.2
  have hln : 1 ≤ t.length := List.length_pos_iff.2 h8
  refine Js.region <| Qm rfl <| Qq (p_dropS (i := 1) und_9 rfl rfl (by omega)) <| Qa rfl <| zJ <| zS <| Qm rfl <| Qq (p_lenS und_9 rfl) <| Qe rfl rfl <| Qm rfl <| zg (Gd.f1 rfl rfl rfl) (fun hc => p_move rfl) <| zg (Gd.f1 rfl rfl rfl) (fun hc => p_lenS und_9 (gh hc rfl)) <| zg (Gd.f1 rfl rfl rfl) (fun hc => p_gtr (gh hc rfl) rfl) <| Qq (p_pickOr rfl rfl rfl) ?_
  refine JL.nil ?_
  refine zi (fun h3 h3' => ?_) fun h3 h3' => ?_
  ·
   have hE := M.num_len (s := t) (by rw [hT]; have h9 := h3; simp at h9; omega)
   refine zS <| Qa rfl <| Qa rfl <| JL.nil ?_
   refine zR (Up.refl _ _) ?_
   first | (rw [hE]; rfl) | (rw [hE, hS]; rfl)
  have hl9 : ¬ ((M.numT t).length < 1 ∨ 18 < (M.numT t).length) := by rw [hT]; have h9 := h3; simp at h9; omega
  refine Js.skip <| zS <| Qa rfl <| zJ <| zS <| Qm rfl <| Qq (p_lenS und_9 rfl) <| Qm rfl <| JL.nil <| Js.block ?_
  refine zl [0, 4, 27] (fun F U l os u m => ∃ (k : Nat) (n : Int), l = F [(5, .int .i64 n), (28, .int .i64 (k : Int))] ∧ os = U [] ∧ (n = M.numN (M.numT t) k) ∧ (M.Digs (M.numT t) k) ∧ (k ≤ (M.numT t).length) ∧ m = (M.numT t).length - k) ⟨0, 0, rfl, rfl, by rfl, by exact M.Digs.zero _, zt, rfl⟩ ?_
  rintro _ _ u4 _ ⟨k, n, rfl, rfl, hN, hD, hk, rfl⟩ x4
  refine zn ?_
  obtain ⟨n1, n2⟩ := M.numN_18 hD (by omega)
  rw [← hN] at n1 n2
  refine zS <| Ql rfl rfl <| zJ ?_
  refine zi (fun h5 h5' => ?_) fun h5 h5' => ?_
  ·
   have hkk : k < (M.numT t).length := by rw [hT]; have := h5'; omega
   obtain ⟨n3, n4⟩ := M.numN_17 hD (by omega)
   rw [← hN] at n3 n4
   have hbt6 := M.bat_bd (t.drop 1) k
   refine Js.skip <| Js.seq <| Js.block <| zS <| Qm rfl <| Qa rfl <| zJ <| zS <| Qm rfl <| Qm rfl <| Qq (p_byteS (i := k) und_9 rfl rfl (by omega)) <| zv rfl (fun w hw => c_impl_isDigit (M.bat (t.drop 1) k)) <| Qt rfl <| JL.nil ?_
   refine zi (fun h7 h7' => ?_) fun h7 h7' => ?_
   ·
    have hE := M.num_dig (M.digs_no hkk (by rw [hT]; simpa using h7))
    refine zS <| Qa rfl <| Qa rfl <| JL.nil ?_
    refine zR x4 ?_
    first | (rw [hE]; rfl) | (rw [hE, hS]; rfl)
   have hd : M.isDig (M.bat (M.numT t) k) = true := by rw [hT]; simpa using h7
   have hD2 := hD.step hd
   obtain ⟨d1, d2⟩ := M.dig_bd hd
   rw [hT] at d1 d2
   have hbt8 := M.bat_bd (t.drop 1) k
   refine Js.skip <| Js.region <| Qm rfl <| Qu rfl rfl <| Qm rfl <| Qm rfl <| Qq (p_byteS (i := k) und_9 rfl rfl (by omega)) <| Qq (p_sub rfl rfl (IntWalk.u8_in _ (by omega))) <| Qq (p_conv @Tryz.underlying5 @Tryz.underlying2 rfl (IntWalk.i64_in _ (by omega))) <| Qp rfl rfl <| Qa rfl <| JL.nil <| Js.blockEnd <| Js.region ?_
   refine Qp rfl rfl <| Qm rfl <| JL.nil ?_
   exact zag ⟨k + 1, (10 * n) + ((M.bat (t.drop 1) k) - 48), rfl, rfl, by rw [hN, M.numN, hT], by exact hD2, zt, rfl⟩ x4
  have hke : k = (M.numT t).length := Nat.le_antisymm hk (by rw [hT]; have := h5'; omega)
  have hdg := M.digs_yes hD (by omega)
  rw [hke] at hN
  refine zx ?_
  refine Js.seq <| zS <| Qm rfl <| Qq (p_lenS und_9 rfl) <| Qm rfl <| Qq (p_lenS und_9 rfl) <| Ql rfl rfl <| JL.nil ?_
  refine zi (fun h9 h9' => ?_) fun h9 h9' => ?_
  ·
   have hS : M.numS t = -n := by rw [hN]; exact M.numS_neg (by rw [hT]; have := h9'; omega)
   refine Js.region <| Qm rfl <| Qq (p_neg (r := -n) rfl (by rw [Int.zero_sub]; exact IntWalk.i64_in _ (by omega))) <| Qa rfl <| zJ <| zS <| Qm rfl <| zv rfl (fun w hw => c_impl_Decimal (-n) (ok_ hw)) <| Qm rfl <| Qq (p_neqT und_9 rfl rfl) <| JL.nil ?_
   refine zi (fun h10 h10' => ?_) fun h10 h10' => ?_
   ·
    have hE := M.num_no (s := t) (by rw [hS]; simpa using h10)
    refine zS <| Qa rfl <| Qa rfl <| JL.nil ?_
    refine zR x4 ?_
    first | (rw [hE]; rfl) | (rw [hE, hS]; rfl)
   have hE := M.num_yes hl9 hdg (by rw [hS]; simpa using h10)
   refine Js.skip <| zS <| Qm rfl <| Qa rfl <| Qa rfl <| JL.nil ?_
   refine zR x4 ?_
   first | (rw [hE]; rfl) | (rw [hE, hS]; rfl)
  have hS : M.numS t = n := by rw [hN]; exact M.numS_pos (by rw [hT]; have := h9'; omega)
  refine Js.skip <| Js.seq <| zS <| Qm rfl <| zv rfl (fun w hw => c_impl_Decimal n (ok_ hw)) <| Qm rfl <| Qq (p_neqT und_9 rfl rfl) <| JL.nil ?_
  refine zi (fun h11 h11' => ?_) fun h11 h11' => ?_
  ·
   have hE := M.num_no (s := t) (by rw [hS]; simpa using h11)
   refine zS <| Qa rfl <| Qa rfl <| JL.nil ?_
   refine zR x4 ?_
   first | (rw [hE]; rfl) | (rw [hE, hS]; rfl)
  have hE := M.num_yes hl9 hdg (by rw [hS]; simpa using h11)
  refine Js.skip <| zS <| Qm rfl <| Qa rfl <| Qa rfl <| JL.nil ?_
  refine zR x4 ?_
  first | (rw [hE]; rfl) | (rw [hE, hS]; rfl)
 have hT : M.numT t = t := M.numT_n (by have h9 := h2; simp at h9; intro ⟨a, b⟩; exact h9 (List.length_pos_iff.2 a) b)
 refine Js.skip <| Js.seq <| zS <| Qm rfl <| Qq (p_lenS und_9 rfl) <| Qe rfl rfl <| Qm rfl <| zg (Gd.f1 rfl rfl rfl) (fun hc => p_move rfl) <| zg (Gd.f1 rfl rfl rfl) (fun hc => p_lenS und_9 (gh hc rfl)) <| zg (Gd.f1 rfl rfl rfl) (fun hc => p_gtr (gh hc rfl) rfl) <| Qq (p_pickOr rfl rfl rfl) <| JL.nil ?_
 refine zi (fun h12 h12' => ?_) fun h12 h12' => ?_
 ·
  have hE := M.num_len (s := t) (by rw [hT]; have h9 := h12; simp at h9; omega)
  refine zS <| Qa rfl <| Qa rfl <| JL.nil ?_
  refine zR (Up.refl _ _) ?_
  first | (rw [hE]; rfl) | (rw [hE, hS]; rfl)
 have hl9 : ¬ ((M.numT t).length < 1 ∨ 18 < (M.numT t).length) := by rw [hT]; have h9 := h12; simp at h9; omega
 refine Js.skip <| zS <| Qa rfl <| zJ <| zS <| Qm rfl <| Qq (p_lenS und_9 rfl) <| Qm rfl <| JL.nil <| Js.block ?_
 refine zl [0, 4, 27] (fun F U l os u m => ∃ (k : Nat) (n : Int), l = F [(5, .int .i64 n), (28, .int .i64 (k : Int))] ∧ os = U [] ∧ (n = M.numN (M.numT t) k) ∧ (M.Digs (M.numT t) k) ∧ (k ≤ (M.numT t).length) ∧ m = (M.numT t).length - k) ⟨0, 0, rfl, rfl, by rfl, by exact M.Digs.zero _, zt, rfl⟩ ?_
 rintro _ _ u13 _ ⟨k, n, rfl, rfl, hN, hD, hk, rfl⟩ x13
 refine zn ?_
 obtain ⟨n1, n2⟩ := M.numN_18 hD (by omega)
 rw [← hN] at n1 n2
 refine zS <| Ql rfl rfl <| zJ ?_
 refine zi (fun h14 h14' => ?_) fun h14 h14' => ?_
 ·
  have hkk : k < (M.numT t).length := by rw [hT]; have := h14'; omega
  obtain ⟨n3, n4⟩ := M.numN_17 hD (by omega)
  rw [← hN] at n3 n4
  have hbt15 := M.bat_bd t k
  refine Js.skip <| Js.seq <| Js.block <| zS <| Qm rfl <| Qa rfl <| zJ <| zS <| Qm rfl <| Qm rfl <| Qq (p_byteS (i := k) und_9 rfl rfl (by omega)) <| zv rfl (fun w hw => c_impl_isDigit (M.bat t k)) <| Qt rfl <| JL.nil ?_
  refine zi (fun h16 h16' => ?_) fun h16 h16' => ?_
  ·
   have hE := M.num_dig (M.digs_no hkk (by rw [hT]; simpa using h16))
   refine zS <| Qa rfl <| Qa rfl <| JL.nil ?_
   refine zR x13 ?_
   first | (rw [hE]; rfl) | (rw [hE, hS]; rfl)
  have hd : M.isDig (M.bat (M.numT t) k) = true := by rw [hT]; simpa using h16
  have hD2 := hD.step hd
  obtain ⟨d1, d2⟩ := M.dig_bd hd
  rw [hT] at d1 d2
  have hbt17 := M.bat_bd t k
  refine Js.skip <| Js.region <| Qm rfl <| Qu rfl rfl <| Qm rfl <| Qm rfl <| Qq (p_byteS (i := k) und_9 rfl rfl (by omega)) <| Qq (p_sub rfl rfl (IntWalk.u8_in _ (by omega))) <| Qq (p_conv @Tryz.underlying5 @Tryz.underlying2 rfl (IntWalk.i64_in _ (by omega))) <| Qp rfl rfl <| Qa rfl <| JL.nil <| Js.blockEnd <| Js.region ?_
  refine Qp rfl rfl <| Qm rfl <| JL.nil ?_
  exact zag ⟨k + 1, (10 * n) + ((M.bat t k) - 48), rfl, rfl, by rw [hN, M.numN, hT], by exact hD2, zt, rfl⟩ x13
 have hke : k = (M.numT t).length := Nat.le_antisymm hk (by rw [hT]; have := h14'; omega)
 have hdg := M.digs_yes hD (by omega)
 rw [hke] at hN
 refine zx ?_
 refine Js.seq <| zS <| Qm rfl <| Qq (p_lenS und_9 rfl) <| Qm rfl <| Qq (p_lenS und_9 rfl) <| Ql rfl rfl <| JL.nil ?_
 refine zi (fun h18 h18' => ?_) fun h18 h18' => ?_
 ·
  have hS : M.numS t = -n := by rw [hN]; exact M.numS_neg (by rw [hT]; have := h18'; omega)
  refine Js.region <| Qm rfl <| Qq (p_neg (r := -n) rfl (by rw [Int.zero_sub]; exact IntWalk.i64_in _ (by omega))) <| Qa rfl <| zJ <| zS <| Qm rfl <| zv rfl (fun w hw => c_impl_Decimal (-n) (ok_ hw)) <| Qm rfl <| Qq (p_neqT und_9 rfl rfl) <| JL.nil ?_
  refine zi (fun h19 h19' => ?_) fun h19 h19' => ?_
  ·
   have hE := M.num_no (s := t) (by rw [hS]; simpa using h19)
   refine zS <| Qa rfl <| Qa rfl <| JL.nil ?_
   refine zR x13 ?_
   first | (rw [hE]; rfl) | (rw [hE, hS]; rfl)
  have hE := M.num_yes hl9 hdg (by rw [hS]; simpa using h19)
  refine Js.skip <| zS <| Qm rfl <| Qa rfl <| Qa rfl <| JL.nil ?_
  refine zR x13 ?_
  first | (rw [hE]; rfl) | (rw [hE, hS]; rfl)
 have hS : M.numS t = n := by rw [hN]; exact M.numS_pos (by rw [hT]; have := h18'; omega)
 refine Js.skip <| Js.seq <| zS <| Qm rfl <| zv rfl (fun w hw => c_impl_Decimal n (ok_ hw)) <| Qm rfl <| Qq (p_neqT und_9 rfl rfl) <| JL.nil ?_
 refine zi (fun h20 h20' => ?_) fun h20 h20' => ?_
 ·
  have hE := M.num_no (s := t) (by rw [hS]; simpa using h20)
  refine zS <| Qa rfl <| Qa rfl <| JL.nil ?_
  refine zR x13 ?_
  first | (rw [hE]; rfl) | (rw [hE, hS]; rfl)
 have hE := M.num_yes hl9 hdg (by rw [hS]; simpa using h20)
 refine Js.skip <| zS <| Qm rfl <| Qa rfl <| Qa rfl <| JL.nil ?_
 refine zR x13 ?_
 first | (rw [hE]; rfl) | (rw [hE, hS]; rfl)
theorem c_impl_cut (s sep : List UInt8) {w : World} (r0 : s.length ≤ 4194304 := by exact om_) (r1 : sep.length ≤ 4194304 := by exact om_) : RetV Tryz.prog 44 [.string (sB s), .string (sB sep)] w (.tuple #[.string (sB ((M.cutS s sep).1)), .string (sB ((M.cutS s sep).2.1)), .bool ((M.cutS s sep).2.2)]) := by
 refine enter @Tryz.func44 @Tryz.ntmps44 rfl rfl ?_
 refine zent ?_
 refine zS <| Qa rfl <| Qa rfl <| Qa rfl <| zJ <| zS <| Qa rfl <| JL.nil <| Js.block ?_
 refine zl [0, 1] (fun F U l os u m => ∃ (k : Nat), l = F [(7, .int .i64 (k : Int))] ∧ os = U [] ∧ (k ≤ s.length + 1) ∧ (∀ i, i < k → (s.drop i).take sep.length ≠ sep) ∧ m = s.length + 1 - k) ⟨0, rfl, rfl, zt, by exact fun i h => absurd h (by omega), rfl⟩ ?_
 rintro _ _ u1 _ ⟨k, rfl, rfl, hk, hn, rfl⟩ x1
 refine zn ?_
 refine Js.seq <| zS <| Qm rfl <| Qm rfl <| Qq (p_lenS und_9 rfl) <| Qp rfl rfl <| Qm rfl <| Qq (p_lenS und_9 rfl) <| Qk rfl rfl <| JL.nil ?_
 refine zi (fun h2 h2' => ?_) fun h2 h2' => ?_
 ·
  have hks : k + sep.length ≤ s.length := by have := h2'; omega
  refine Js.skip <| Js.seq <| Js.block <| zS <| Qm rfl <| Qm rfl <| Qm rfl <| Qm rfl <| Qq (p_lenS und_9 rfl) <| Qp rfl rfl <| Qq (p_midS (i := k) (j := k + sep.length) und_9 rfl rfl rfl (by omega) (by omega)) <| Qm rfl <| Qq (p_eqlT und_9 rfl rfl) <| JL.nil ?_
  refine zi (fun h3 h3' => ?_) fun h3 h3' => ?_
  ·
   have hE := M.cutS_yes hks (by have h9 := h3; simp at h9; exact h9) hn
   refine Js.seq ?_
   refine zdr [] ?_
   refine jM 0 rfl rfl ?_
   refine jM 1 rfl rfl ?_
   refine JH.p 2 rfl (p_takeS (i := k) und_9 rfl rfl (by omega)) ?_
   refine jM 3 rfl rfl ?_
   refine jM 4 rfl rfl ?_
   refine jM 5 rfl rfl ?_
   refine JH.p 6 rfl (p_lenS und_9 rfl) ?_
   refine JH.p 7 rfl (p_add rfl rfl (IntWalk.i64_in _ (by omega))) ?_
   refine JH.p 8 rfl (p_dropS (i := k + sep.length) und_9 rfl rfl (by omega)) ?_
   refine jA 9 rfl rfl ?_
   refine jA 10 rfl rfl ?_
   refine jA 11 rfl rfl ?_
   refine yd ?_
   refine zR x1 ?_
   rw [hE]; rfl
  have hn2 := M.miss_step hn (by have h9 := h3; simp at h9; exact h9)
  refine Js.skip <| Js.blockEnd <| Js.region <| Qm rfl <| Qp rfl rfl <| Qa rfl <| JL.nil ?_
  exact zag ⟨k + 1, rfl, rfl, zt, by exact hn2, rfl⟩ x1
 have hE := M.cutS_no (k := k) (by have := h2'; omega) hn
 refine zx ?_
 refine zS <| Qm rfl <| Qa rfl <| Qa rfl <| Qa rfl <| JL.nil ?_
 refine zR x1 ?_
 rw [hE]; rfl
theorem c_impl_parts (s : List UInt8) {w : World} (r0 : s.length ≤ 4194304 := by exact om_) : Ret Tryz.prog 84 [.string (sB s)] w (Ty.strs 9 (M.split 32 s)) := by
 refine enter @Tryz.func84 @Tryz.ntmps84 rfl rfl ?_
 refine zent ?_
 refine zS <| Qa rfl <| zN <| zbs fun b1 => ?_
 refine Qa rfl <| JL.nil <| Js.block ?_
 refine zl [] (fun F U l os u m => ∃ (cur : List UInt8) (out : List (List UInt8)) (A3_3 : Option Addr) (c3_3 : Nat) (g3_3 : List Nat), l = F [(0, .string (sB cur)), (3, .slice A3_3 out.length c3_3)] ∧ os = U [some (rowO 9 1 (.slice A3_3 out.length c3_3) out.length (txs_ out) g3_3)] ∧ (out ++ M.split 32 cur = M.split 32 s) ∧ (cur.length ≤ s.length) ∧ (out.length ≤ c3_3) ∧ (c3_3 ≤ 9223372036854775807) ∧ m = cur.length) ⟨s, [], _, _, _, rfl, rfl, by rfl, by exact Nat.le_refl _, zu, zu, rfl⟩ ?_
 rintro _ _ u3 _ ⟨cur, out, A3_3, c3_3, g3_3, rfl, rfl, hP, hl, f3_2, f3_3, rfl⟩ x3
 refine zn ?_
 have hl3 := M.parts_len hP
 have hcl := M.cutS_len cur [32]
 refine Js.block <| zS <| Qm rfl <| zv rfl (fun w hw => c_impl_cut cur ([32] : List UInt8)) <| Qm rfl <| Qx rfl rfl <| Qx rfl rfl <| Qx rfl rfl <| Qa rfl <| Qa rfl <| Qa rfl <| zN <| Qm rfl <| Qm rfl ?_
 refine zbs fun b4 => ?_
 refine JL.e (e_append (i := 1) (n' := (out ++ ([(M.cutS cur ([32] : List UInt8)).1])).length) (vs' := txs_ (out ++ ([(M.cutS cur ([32] : List UInt8)).1]))) el_50 rfl rfl rfl rfl (src_row (i := 0) und_50 rfl rfl) (by omega) (by omega) ln2_ (by first | rfl | (simp [txs_]; done))) ?_
 rintro v6 _ _ ⟨⟨g7, rfl⟩, rfl⟩ _
 refine JL.fact (row_form' (i := 1) rfl) (fun hf8 => ?_)
 obtain ⟨A8, c8, rfl, bl8, bh8⟩ := hf8
 refine znl ?_
 refine Qa rfl <| zJ <| zS <| Qm rfl <| Qt rfl <| JL.nil ?_
 refine zi (fun h9 h9' => ?_) fun h9 h9' => ?_
 ·
  have hE := M.parts_last hP (by simpa using h9)
  have hq0 : (out ++ ([(M.cutS cur ([32] : List UInt8)).1])) = M.split 32 s := by exact hE
  refine zS <| Qm rfl <| Qa rfl <| JL.nil ?_
  exact zro x3 (g := by exact (gv_strsE (ys := out ++ ([(M.cutS cur ([32] : List UInt8)).1])) po_ (by assumption) (by rfl)))
 have hP2 := M.parts_more hP (by simpa using h9)
 have hP3 := hP2.2
 refine Js.skip <| Js.region <| Qm rfl <| Qa rfl <| JL.nil <| Js.blockEnd ?_
 refine zd [1] rfl fun u10 x10 => ?_
 exact zag ⟨(M.cutS cur ([32] : List UInt8)).2.1, out ++ ([(M.cutS cur ([32] : List UInt8)).1]), _, _, _, rfl, rfl, by exact hP2.1, by omega, zu, zu, rfl⟩ (x3.trans x10)
theorem c_impl_MovesText (moves : List Int) {v_moves : Value} {w : World} (h_moves : (Ty.ints 2 moves).ok w v_moves) (h_tab : tabT.ok w undef) (r0 : moves.length ≤ 4194304 := by exact om_) : RetV Tryz.prog 30 [v_moves] w (.string (sB (M.movT moves))) := by
 revert v_moves; apply opn
 intro A1 c1 h1 bl1 bh1
 have h_moves := h1
 refine enter @Tryz.func30 @Tryz.ntmps30 rfl rfl ?_
 refine zent ?_
 refine zS <| Qa rfl <| zJ <| zS <| Qm rfl <| Qz rfl <| Qg rfl rfl <| JL.nil ?_
 refine zi (fun h2 h2' => ?_) fun h2 h2' => ?_
 ·
  have hE := M.movT_no (M.okMv_len (l := moves) (by have := h2'; omega))
  refine zS <| Qa rfl <| JL.nil ?_
  refine zR (Up.refl _ _) ?_
  rw [hE]; rfl
 have hl9 : moves.length ≤ 120 := by have := h2'; omega
 refine Js.skip <| zS <| Qa rfl <| zJ <| zS <| Qm rfl <| Qz rfl <| Qm rfl <| JL.nil <| Js.block ?_
 refine zl [9, 10] (fun F U l os u m => ∃ (k : Nat) (out : List UInt8), l = F [(3, .string (sB out)), (11, .int .i64 (k : Int))] ∧ os = U [] ∧ (out = M.joinB moves k) ∧ (k ≤ moves.length) ∧ (M.MvU moves k) ∧ m = moves.length - k) ⟨0, ([] : List UInt8), rfl, rfl, by rfl, zt, by exact M.MvU.zero _, rfl⟩ ?_
 rintro _ _ u3 _ ⟨k, out, rfl, rfl, hJ, hk, hU, rfl⟩ x3
 refine zn ?_
 have lb9 : LenB out 92274688 := ⟨M.joinB_big hJ (by omega)⟩
 refine zS <| Ql rfl rfl <| zJ ?_
 refine zi (fun h4 h4' => ?_) fun h4 h4' => ?_
 ·
  have hkk : k < moves.length := by have := h4'; omega
  obtain ⟨b5, o5, he5, hc5⟩ := ints_elem (Ty.mono _ h1 x3.vis) (i := k) (by omega)
  refine Js.skip <| Js.seq <| Js.block <| zS <| Qm rfl <| Qq (p_indexAddr el_26 rfl rfl (by omega) (by omega) he5) <| QC hc5 rfl <| Qa rfl <| Qa rfl <| zJ <| zS <| Qm rfl <| zv rfl (fun w hw => c_impl_between (M.nth moves k) 0 7) <| Qt rfl ?_
  refine JL.nil ?_
  refine zi (fun h6 h6' => ?_) fun h6 h6' => ?_
  ·
   have hE := M.movT_no (M.okMv_no hkk (by simpa using h6))
   refine zS <| Qa rfl <| JL.nil ?_
   refine zR x3 ?_
   rw [hE]; rfl
  have hb9 : M.betw (M.nth moves k) 0 7 = true := by simpa using h6
  have hU2 := hU.step hb9
  obtain ⟨n1, n2⟩ := M.betw_iff.1 hb9
  refine Js.skip <| Js.seq <| zS <| Qm rfl <| Qg rfl rfl <| JL.nil ?_
  refine zi (fun h7 h7' => ?_) fun h7 h7' => ?_
  ·
   have hJ2 := M.joinB_p hJ (by have := h7'; omega)
   refine Js.region <| Qm rfl <| Qq (q_cat rfl rfl) <| Qa rfl <| zG <| Qm rfl <| Qm rfl <| zv rfl (fun w hw => c_impl_Decimal (M.nth moves k) (ok_ hw)) <| Qq (q_cat rfl rfl) <| Qa rfl <| JL.nil <| Js.blockEnd <| Js.region <| Qp rfl rfl ?_
   refine Qm rfl <| JL.nil ?_
   exact zag ⟨k + 1, (out ++ ([32] : List UInt8)) ++ (M.dec (M.nth moves k)), rfl, rfl, by exact hJ2, zt, by exact hU2, rfl⟩ x3
  have hJ2 := M.joinB_z hJ (by have := h7'; omega)
  refine Js.skip <| Js.region <| Qm rfl <| Qm rfl <| zv rfl (fun w hw => c_impl_Decimal (M.nth moves k) (ok_ hw)) <| Qq (q_cat rfl rfl) <| Qa rfl <| JL.nil <| Js.blockEnd <| Js.region <| Qp rfl rfl <| Qm rfl <| JL.nil ?_
  exact zag ⟨k + 1, out ++ (M.dec (M.nth moves k)), rfl, rfl, by exact hJ2, zt, by exact hU2, rfl⟩ x3
 have hE := (M.movT_yes (M.okMv_yes hl9 (hU.done (by have := h4'; omega)))).trans (M.joinB_e hJ (by have := h4'; omega) hk).symm
 refine zx ?_
 refine zS <| Qm rfl <| Qa rfl <| JL.nil ?_
 refine zR x3 ?_
 rw [hE]; rfl
theorem c_impl_ReadMoves (s : List UInt8) {w : World} (h_tab : tabT.ok w undef) (r0 : s.length ≤ 4000000 := by exact om_) : Ret Tryz.prog 31 [.string (sB s)] w (Ty.tup [Ty.ints 2 ((M.readM s).1), Ty.bool ((M.readM s).2)]) := by
 have hsl := M.split_len 32 s
 refine enter @Tryz.func31 @Tryz.ntmps31 rfl rfl ?_
 refine zent ?_
 refine zS <| Qa rfl <| Qa rfl <| zN <| zbs fun b1 => ?_
 refine Qa rfl <| zJ <| zS <| Qm rfl <| Qq (p_eqlT und_9 rfl rfl) <| JL.nil ?_
 refine zi (fun h3 h3' => ?_) fun h3 h3' => ?_
 ·
  have hE : M.readM s = ([], true) := by rw [show s = [] by simpa using h3]; exact M.readM_nil
  have hq0 : [] = (M.readM s).1 := by first | (rw [hE]; done) | (rw [hE]; exact hO) | (rw [hE]; rfl)
  have hq1 : true = (M.readM s).2 := by first | (rw [hE]; done) | (rw [hE]; exact hO) | (rw [hE]; rfl)
  refine zS <| Qm rfl <| Qa rfl <| Qa rfl <| JL.nil ?_
  exact zro (Up.refl _ _)
 have hs0 : s ≠ [] := by simpa using h3
 refine Js.skip <| Js.seq <| zS <| Qm rfl <| zp rfl (fun w hw => c_impl_parts s) ?_
 intro u4 x4 A5 c5 h5 bl5 bh5
 refine Qz rfl <| Qm rfl <| JL.nil <| Js.block ?_
 refine zl [0, 14, 15] (fun F U l os u m => ∃ (k : Nat) (out : List Int) (A6_4 : Option Addr) (c6_4 : Nat) (g6_4 : List Nat), l = F [(4, .slice A6_4 out.length c6_4), (16, .int .i64 (k : Int))] ∧ os = U [some (rowO 2 1 (.slice A6_4 out.length c6_4) out.length (ints_ out) g6_4)] ∧ (out = M.numsV ((M.split 32 s).take k)) ∧ (M.numsOk ((M.split 32 s).take k) = true) ∧ (k ≤ (M.split 32 s).length) ∧ (out.length = k) ∧ (out.length ≤ c6_4) ∧ (c6_4 ≤ 9223372036854775807) ∧ m = (M.split 32 s).length - k) ⟨0, [], _, _, _, rfl, rfl, by rfl, by rfl, zt, by rfl, zu, zu, rfl⟩ ?_
 rintro _ _ u6 _ ⟨k, out, A6_4, c6_4, g6_4, rfl, rfl, hO, hK, hk, hl, f6_4, f6_5, rfl⟩ x6
 refine zn ?_
 refine zS <| Ql rfl rfl <| zJ ?_
 refine zi (fun h7 h7' => ?_) fun h7 h7' => ?_
 ·
  obtain ⟨y8, hy8⟩ : ∃ x, (M.split 32 s)[k]? = some x := ⟨_, List.getElem?_eq_getElem (by omega)⟩
  obtain ⟨b8, o8, he8, hc8⟩ := strs_elem (Ty.mono _ h5 x6.vis) hy8
  have hY : (M.split 32 s)[k]? = some y8 := hy8
  have hw9 := M.split_mem 32 s y8 (List.mem_of_getElem? hY)
  refine Js.skip <| Js.seq <| Js.block <| zS <| Qq (p_indexAddr el_50 rfl rfl (by omega) (by omega) he8) <| QC hc8 rfl <| Qa rfl <| zN <| Qm rfl <| zv rfl (fun w hw => c_impl_ReadDecimal y8 (ok_ hw)) <| Qm rfl <| Qx rfl rfl <| Qx rfl rfl <| Qa rfl ?_
  refine Qa rfl <| zJ <| zS <| Qm rfl <| Qt rfl <| JL.nil ?_
  refine zi (fun h9 h9' => ?_) fun h9 h9' => ?_
  ·
   have hE := M.readM_bad hs0 (M.numsOk_no hY (by simpa using h9))
   have hq0 : [] = (M.readM s).1 := by first | (rw [hE]; done) | (rw [hE]; exact hO) | (rw [hE]; rfl)
   have hq1 : false = (M.readM s).2 := by first | (rw [hE]; done) | (rw [hE]; exact hO) | (rw [hE]; rfl)
   refine zS <| Qa rfl <| Qa rfl <| JL.nil ?_
   exact zro (x4.trans x6)
  have hn9 : (M.num y8).2 = true := by simpa using h9
  refine Js.skip <| Js.region <| Qm rfl <| Qm rfl <| zbs fun b10 => ?_
  refine JL.e (e_append (i := 1) (n' := (out ++ [((M.num y8).1)]).length) (vs' := ints_ (out ++ [((M.num y8).1)])) el_26 rfl rfl rfl rfl (src_row (i := 0) und_26 rfl rfl) (by omega) (by omega) ln2_ (by simp [ints_])) ?_
  rintro v12 _ _ ⟨⟨g13, rfl⟩, rfl⟩ _
  refine JL.fact (row_form' (i := 1) rfl) (fun hf14 => ?_)
  obtain ⟨A14, c14, rfl, bl14, bh14⟩ := hf14
  refine znl ?_
  refine Qa rfl <| JL.nil <| Js.blockEnd <| Js.region <| Qp rfl rfl <| Qm rfl <| JL.nil ?_
  refine zd [1] rfl fun u15 x15 => ?_
  exact zag ⟨k + 1, out ++ [((M.num y8).1)], _, _, _, rfl, rfl, by exact M.nums_step hO hY, by exact M.numsOk_step hK hY hn9, zt, by simp [hl], zu, zu, rfl⟩ (x6.trans x15)
 have ht9 : (M.split 32 s).take k = (M.split 32 s) := List.take_of_length_le (by have := h7'; omega)
 rw [ht9] at hO hK
 refine zx ?_
 refine Js.seq <| zS <| Qm rfl <| zv rfl (fun w hw => c_impl_MovesText out (ok_ hw) (ok_ hw)) <| Qm rfl <| Qq (p_neqT und_9 rfl rfl) <| JL.nil ?_
 refine zi (fun h16 h16' => ?_) fun h16 h16' => ?_
 ·
  have h9 : ¬ M.movT out = s := by simpa using h16
  rw [hO] at h9
  have hE := M.mvt_no hs0 hK h9
  have hq0 : [] = (M.readM s).1 := by first | (rw [hE]; done) | (rw [hE]; exact hO) | (rw [hE]; rfl)
  have hq1 : false = (M.readM s).2 := by first | (rw [hE]; done) | (rw [hE]; exact hO) | (rw [hE]; rfl)
  refine zS <| Qa rfl <| Qa rfl <| JL.nil ?_
  exact zro (x4.trans x6)
 have h9 : M.movT out = s := by simpa using h16
 rw [hO] at h9
 have hE := M.mvt_yes hs0 hK h9
 have hq0 : out = (M.readM s).1 := by first | (rw [hE]; done) | (rw [hE]; exact hO) | (rw [hE]; rfl)
 have hq1 : true = (M.readM s).2 := by first | (rw [hE]; done) | (rw [hE]; exact hO) | (rw [hE]; rfl)
 refine Js.skip <| zS <| Qm rfl <| Qa rfl <| Qa rfl <| JL.nil ?_
 exact zro (x4.trans x6)
theorem c_impl_LineFault (kind : Int) {w : World}  : RetV Tryz.prog 37 [.int .i64 kind] w (.string (sB (M.faultName kind))) := by
 refine enter @Tryz.func37 @Tryz.ntmps37 rfl rfl ?_
 refine zent ?_
 refine zS <| Qa rfl <| zN <| Qq (q_bldA) <| za zeh fun b1 => zw 0 rfl rfl rfl ?_
 refine zJ <| zS <| Qm rfl <| zv rfl (fun w hw => c_impl_between kind 1 7) <| Qt rfl <| JL.nil ?_
 refine zi (fun h2 h2' => ?_) fun h2 h2' => ?_
 ·
  have hE := M.faultName_no (k := kind) (by simpa using h2)
  refine zS <| Qa rfl <| JL.nil ?_
  refine zR (Up.refl _ _) ?_
  rw [hE]; rfl
 have hb : M.betw kind 1 7 = true := by simpa using h2
 obtain ⟨hb0, hb1⟩ := M.betw_iff.1 hb
 obtain ⟨y3, hy3⟩ : ∃ x, ([([114, 117, 108, 101, 115] : List UInt8), ([115, 116, 97, 114, 116] : List UInt8), ([102, 111, 114, 109] : List UInt8), ([110, 117, 109, 98, 101, 114] : List UInt8), ([109, 111, 118, 101] : List UInt8), ([103, 97, 105, 110] : List UInt8), ([101, 110, 100] : List UInt8)] : List (List UInt8))[(kind - 1).toNat]? = some x := ⟨_, List.getElem?_eq_getElem (by simp only [List.length_cons, List.length_nil]; omega)⟩
 refine Js.skip <| zS <| Qm rfl <| Qs rfl rfl <| Qq (p_indexAddrA (kk := (kind - 1).toNat) ArrI.h rfl rfl (by omega) (by omega) (show 0 + ((kind - 1).toNat) * 1 = (kind - 1).toNat by omega)) <| Qw (q_load1 ty_9.h rfl (Mem.box (i := 0) rfl (txs_get (xs := [([114, 117, 108, 101, 115] : List UInt8), ([115, 116, 97, 114, 116] : List UInt8), ([102, 111, 114, 109] : List UInt8), ([110, 117, 109, 98, 101, 114] : List UInt8), ([109, 111, 118, 101] : List UInt8), ([103, 97, 105, 110] : List UInt8), ([101, 110, 100] : List UInt8)]) hy3))) <| Qa rfl <| JL.nil ?_
 refine zR (Up.refl _ _) ?_
 rw [M.faultName_yes hb hy3]; rfl
theorem c_impl_NotesOn (g : M.Gam) {v_g : Value} {w : World} (h_g : (Ty.agg (cGame g)).ok w v_g) (h_tab : tabT.ok w undef) (r0 : g.start.pits.length ≤ 4194304 := by exact om_) (r1 : g.start.stores.length ≤ 4194304 := by exact om_) (r2 : g.moves.length ≤ 4194304 := by exact om_) (r3 : g.now.pits.length ≤ 4194304 := by exact om_) (r4 : g.now.stores.length ≤ 4194304 := by exact om_) : Ret Tryz.prog 24 [v_g] w (Ty.tup [Ty.strs 9 (M.gameNotesR g), Ty.int (M.okC g)]) := by
 revert v_g; apply opn
 intro A1 c1 h1 bl1 bh1 A2 c2 h2 bl2 bh2 A3 c3 h3 bl3 bh3 A4 c4 h4 bl4 bh4 A5 c5 h5 bl5 bh5
 refine enter @Tryz.func24 @Tryz.ntmps24 rfl rfl ?_
 refine zent ?_
 refine zS <| zb rfl fun b6 => Qa rfl <| Qa rfl <| zJ <| zS <| Q9 0 rfl rfl ?_
 refine zv rfl (fun w hw => c_impl_ValidGame g (ok_ hw)) <| Qt rfl <| JL.nil ?_
 refine zi (fun h7 h7' => ?_) fun h7 h7' => ?_
 ·
  have hno : M.okG g = false := by simpa using h7
  have hC := M.okC_no hno
  have hE := M.gameNotesR_no hno
  have hq0 : [] = M.gameNotesR g := by first | (rw [hE]; done) | (rw [hC]; done)
  have hq1 : 1 = M.okC g := by first | (rw [hE]; done) | (rw [hC]; done)
  refine zS <| Qa rfl <| Qa rfl <| JL.nil ?_
  exact zro (Up.refl _ _) (g := by exact (gv_tup (gvc (gv_strsN (by first | rfl | assumption)) (gvc gv_ gvn))))
 have hok : M.okG g = true := by simpa using h7
 have hC := M.okC_yes hok
 obtain ⟨k1, k2, k3, k4, k5, k6, k7, k8, k9⟩ := M.okG_parts hok
 (have k12 : (M.playedP g).length = g.moves.length + 1 := by rw [k6, M.hist_length, k8])
 have k13 : (M.playedR g).length = g.moves.length := by rw [k7, k8]
 refine Js.skip <| zS <| Q9 0 rfl rfl ?_
 refine zp rfl (fun w hw => c_impl_Game_played g (ok_ hw)) ?_
 intro u8 x8 A9 c9 h9 bl9 bh9 A10 c10 h10 bl10 bh10
 refine Qm rfl <| Qx rfl rfl <| Qx rfl rfl <| Qx rfl rfl <| Qa rfl <| Qa rfl <| Qa rfl <| zN <| zbs fun b11 => ?_
 refine Qa rfl <| zJ <| zS <| Qm rfl <| Qz rfl <| Qm rfl <| JL.nil <| Js.block ?_
 refine zl [4, 21, 22] (fun F U l os u m => ∃ (k : Nat) (out : List (List UInt8)) (A13_7 : Option Addr) (c13_7 : Nat) (g13_7 : List Nat), l = F [(7, .slice A13_7 out.length c13_7), (23, .int .i64 (k : Int))] ∧ os = U [some (rowO 9 1 (.slice A13_7 out.length c13_7) out.length (txs_ out) g13_7)] ∧ (out = M.notes (((M.hist g.start (M.runs g.rules g.start g.moves)).zip (M.runs g.rules g.start g.moves)).take k)) ∧ (k ≤ g.moves.length) ∧ (out.length = k) ∧ (out.length ≤ c13_7) ∧ (c13_7 ≤ 9223372036854775807) ∧ m = g.moves.length - k) ⟨0, [], _, _, _, rfl, rfl, by rfl, zt, by rfl, zu, zu, rfl⟩ ?_
 rintro _ _ u13 _ ⟨k, out, A13_7, c13_7, g13_7, rfl, rfl, hJ, hk, hl, f13_3, f13_4, rfl⟩ x13
 refine zn ?_
 refine zS <| Ql rfl rfl <| zJ ?_
 refine zi (fun h14 h14' => ?_) fun h14 h14' => ?_
 ·
  obtain ⟨y15, hy15⟩ : ∃ x, (M.playedR g)[k]? = some x := ⟨_, List.getElem?_eq_getElem (by omega)⟩
  obtain ⟨b15, o15, V15_3, V15_4, V15_5, he15, hr15, hv15_3, hv15_4, hv15_5⟩ := elem_ResultL (Ty.mono _ h10 x13.vis) hy15
  refine Js.skip <| Js.seq <| Js.block <| zS <| Qm rfl <| Qq (p_indexAddr el_84 rfl rfl (by omega) (by omega) he15) <| QS 0 hr15 rfl ?_
  refine za zeh fun b16 => Qa rfl ?_
  refine JL.s (e_store (i := 0) (c' := [.int .i64 y15.move, .int .i64 y15.gain, .bool y15.again, V15_3, V15_4, V15_5]) ty_87.h rfl rfl rfl rfl rfl (show List.all [.int .i64 y15.move, .int .i64 y15.gain, .bool y15.again, V15_3, V15_4, V15_5] (·.oneCell') = true by simp only [List.all_cons, List.all_nil, hv15_3, hv15_4, hv15_5]; rfl) rfl rfl) ?_
  rintro _ _ _ ⟨rfl, rfl⟩ _
  refine znl ?_
  have hX := hy15
  rw [k7] at hX
  obtain ⟨ye17, hye17⟩ : ∃ x, (M.playedP g)[k]? = some x := ⟨_, List.getElem?_eq_getElem (by omega)⟩
  have hP := hye17
  rw [k6] at hP
  obtain ⟨n1, n2, n3, n4, n5, n6, n7⟩ := M.note_at hP hX
  refine zJ ?_
  refine zdr [] ?_
  refine jM 0 rfl rfl ?_
  refine jM 1 rfl rfl ?_
  have hy18 := hye17
  obtain ⟨b18, o18, A18_0, c18_0, A18_1, c18_1, he18, hr18, h18_0, h18_1, bl18_0, bh18_0, bl18_1, bh18_1⟩ := elem_Position (Ty.mono _ h9 x13.vis) hy18
  refine jI 2 el_104 rfl rfl rfl he18 ?_
  refine jF 3 fld_28_2 rfl rfl ?_
  refine jW 4 ty_2 rfl rfl (fun hv => (hr18.vis hv) 2 _ rfl) ?_
  refine jF 8 fld_87_0 rfl rfl ?_
  refine jB 9 0 ty_2 rfl rfl rfl rfl ?_
  refine y1 5 ?_
  refine yv rfl rfl (fun w hw => c_impl_Decimal ye17.player (ok_ hw)) ?_
  refine JH.p 6 rfl (q_cat rfl rfl) ?_
  refine JH.p 7 rfl (q_cat rfl rfl) ?_
  refine y1 10 ?_
  refine yv rfl rfl (fun w hw => c_impl_Decimal y15.move (ok_ hw)) ?_
  refine JH.p 11 rfl (q_cat rfl rfl) ?_
  refine jA 12 rfl rfl ?_
  refine yd ?_
  refine Js.seq <| zS <| Qf fh rfl <| Q0 0 rfl rfl rfl <| Qd rfl rfl <| JL.nil ?_
  refine zi (fun h19 h19' => ?_) fun h19 h19' => ?_
  ·
   have e202 : 0 < y15.gain := by have := h19'; omega
   refine Js.region <| Qm rfl <| Qf fh rfl <| Q0 0 rfl rfl rfl <| zv rfl (fun w hw => c_impl_Decimal y15.gain (ok_ hw)) <| Qq (q_cat rfl rfl) <| Qq (q_cat rfl rfl) <| Qa rfl <| zJ <| zS <| Qf fh rfl <| Q0 0 rfl rfl rfl <| JL.nil ?_
   refine zi (fun h20 h20' => ?_) fun h20 h20' => ?_
   ·
    have e205 := h20
    refine Js.region <| Qm rfl <| Qq (q_cat rfl rfl) <| Qa rfl <| zG <| Qm rfl <| Qm rfl <| zbs fun b21 => ?_
    refine JL.e (e_append (i := 2) (n' := (out ++ ([((((([112, 108, 97, 121, 101, 114, 32] : List UInt8) ++ (M.dec ye17.player)) ++ ([32, 112, 108, 97, 121, 115, 32] : List UInt8)) ++ (M.dec y15.move)) ++ (([44, 32, 103, 97, 105, 110, 115, 32] : List UInt8) ++ (M.dec y15.gain))) ++ ([44, 32, 109, 111, 118, 101, 115, 32, 97, 103, 97, 105, 110] : List UInt8)])).length) (vs' := txs_ (out ++ ([((((([112, 108, 97, 121, 101, 114, 32] : List UInt8) ++ (M.dec ye17.player)) ++ ([32, 112, 108, 97, 121, 115, 32] : List UInt8)) ++ (M.dec y15.move)) ++ (([44, 32, 103, 97, 105, 110, 115, 32] : List UInt8) ++ (M.dec y15.gain))) ++ ([44, 32, 109, 111, 118, 101, 115, 32, 97, 103, 97, 105, 110] : List UInt8)]))) el_50 rfl rfl rfl rfl (src_row (i := 0) und_50 rfl rfl) (by omega) (by omega) ln2_ (by first | rfl | (simp [txs_]; done))) ?_
    rintro v23 _ _ ⟨⟨g24, rfl⟩, rfl⟩ _
    refine JL.fact (row_form' (i := 2) rfl) (fun hf25 => ?_)
    obtain ⟨A25, c25, rfl, bl25, bh25⟩ := hf25
    refine znl ?_
    refine Qa rfl <| JL.nil <| Js.blockEnd <| Js.region <| Qp rfl rfl <| Qm rfl <| JL.nil ?_
    refine zd [2, 2] rfl fun u26 x26 => ?_
    exact zag ⟨k + 1, out ++ ([((((([112, 108, 97, 121, 101, 114, 32] : List UInt8) ++ (M.dec ye17.player)) ++ ([32, 112, 108, 97, 121, 115, 32] : List UInt8)) ++ (M.dec y15.move)) ++ (([44, 32, 103, 97, 105, 110, 115, 32] : List UInt8) ++ (M.dec y15.gain))) ++ ([44, 32, 109, 111, 118, 101, 115, 32, 97, 103, 97, 105, 110] : List UInt8)]), _, _, _, rfl, rfl, by rw [← M.notes_step hJ hP hX]; first | (rw [M.noteT, if_pos e205, if_pos e202]; try rfl) | (rw [M.noteT, if_pos e205, if_neg e202]; try rfl) | (rw [M.noteT, if_neg e205, if_pos e202]; try rfl) | (rw [M.noteT, if_neg e205, if_neg e202]; try rfl), zt, by simp [hl], zu, zu, rfl⟩ (x13.trans x26)
   have e205 := Bool.eq_false_iff.1 h20
   refine Js.skip <| Js.region <| Qm rfl <| Qm rfl <| zbs fun b27 => ?_
   refine JL.e (e_append (i := 2) (n' := (out ++ ([(((([112, 108, 97, 121, 101, 114, 32] : List UInt8) ++ (M.dec ye17.player)) ++ ([32, 112, 108, 97, 121, 115, 32] : List UInt8)) ++ (M.dec y15.move)) ++ (([44, 32, 103, 97, 105, 110, 115, 32] : List UInt8) ++ (M.dec y15.gain))])).length) (vs' := txs_ (out ++ ([(((([112, 108, 97, 121, 101, 114, 32] : List UInt8) ++ (M.dec ye17.player)) ++ ([32, 112, 108, 97, 121, 115, 32] : List UInt8)) ++ (M.dec y15.move)) ++ (([44, 32, 103, 97, 105, 110, 115, 32] : List UInt8) ++ (M.dec y15.gain))]))) el_50 rfl rfl rfl rfl (src_row (i := 0) und_50 rfl rfl) (by omega) (by omega) ln2_ (by first | rfl | (simp [txs_]; done))) ?_
   rintro v29 _ _ ⟨⟨g30, rfl⟩, rfl⟩ _
   refine JL.fact (row_form' (i := 2) rfl) (fun hf31 => ?_)
   obtain ⟨A31, c31, rfl, bl31, bh31⟩ := hf31
   refine znl ?_
   refine Qa rfl <| JL.nil <| Js.blockEnd <| Js.region <| Qp rfl rfl <| Qm rfl <| JL.nil ?_
   refine zd [2, 2] rfl fun u32 x32 => ?_
   exact zag ⟨k + 1, out ++ ([(((([112, 108, 97, 121, 101, 114, 32] : List UInt8) ++ (M.dec ye17.player)) ++ ([32, 112, 108, 97, 121, 115, 32] : List UInt8)) ++ (M.dec y15.move)) ++ (([44, 32, 103, 97, 105, 110, 115, 32] : List UInt8) ++ (M.dec y15.gain))]), _, _, _, rfl, rfl, by rw [← M.notes_step hJ hP hX]; first | (rw [M.noteT, if_pos e205, if_pos e202]; try rfl) | (rw [M.noteT, if_pos e205, if_neg e202]; try rfl) | (rw [M.noteT, if_neg e205, if_pos e202]; try rfl) | (rw [M.noteT, if_neg e205, if_neg e202]; try rfl), zt, by simp [hl], zu, zu, rfl⟩ (x13.trans x32)
  have e202 : ¬ 0 < y15.gain := by have := h19'; omega
  refine Js.skip <| Js.seq <| zS <| Qf fh rfl <| Q0 0 rfl rfl rfl <| JL.nil ?_
  refine zi (fun h33 h33' => ?_) fun h33 h33' => ?_
  ·
   have e205 := h33
   refine Js.region <| Qm rfl <| Qq (q_cat rfl rfl) <| Qa rfl <| zG <| Qm rfl <| Qm rfl <| zbs fun b34 => ?_
   refine JL.e (e_append (i := 2) (n' := (out ++ ([(((([112, 108, 97, 121, 101, 114, 32] : List UInt8) ++ (M.dec ye17.player)) ++ ([32, 112, 108, 97, 121, 115, 32] : List UInt8)) ++ (M.dec y15.move)) ++ ([44, 32, 109, 111, 118, 101, 115, 32, 97, 103, 97, 105, 110] : List UInt8)])).length) (vs' := txs_ (out ++ ([(((([112, 108, 97, 121, 101, 114, 32] : List UInt8) ++ (M.dec ye17.player)) ++ ([32, 112, 108, 97, 121, 115, 32] : List UInt8)) ++ (M.dec y15.move)) ++ ([44, 32, 109, 111, 118, 101, 115, 32, 97, 103, 97, 105, 110] : List UInt8)]))) el_50 rfl rfl rfl rfl (src_row (i := 0) und_50 rfl rfl) (by omega) (by omega) ln2_ (by first | rfl | (simp [txs_]; done))) ?_
   rintro v36 _ _ ⟨⟨g37, rfl⟩, rfl⟩ _
   refine JL.fact (row_form' (i := 2) rfl) (fun hf38 => ?_)
   obtain ⟨A38, c38, rfl, bl38, bh38⟩ := hf38
   refine znl ?_
   refine Qa rfl <| JL.nil <| Js.blockEnd <| Js.region <| Qp rfl rfl <| Qm rfl <| JL.nil ?_
   refine zd [2, 2] rfl fun u39 x39 => ?_
   exact zag ⟨k + 1, out ++ ([(((([112, 108, 97, 121, 101, 114, 32] : List UInt8) ++ (M.dec ye17.player)) ++ ([32, 112, 108, 97, 121, 115, 32] : List UInt8)) ++ (M.dec y15.move)) ++ ([44, 32, 109, 111, 118, 101, 115, 32, 97, 103, 97, 105, 110] : List UInt8)]), _, _, _, rfl, rfl, by rw [← M.notes_step hJ hP hX]; first | (rw [M.noteT, if_pos e205, if_pos e202]; try rfl) | (rw [M.noteT, if_pos e205, if_neg e202]; try rfl) | (rw [M.noteT, if_neg e205, if_pos e202]; try rfl) | (rw [M.noteT, if_neg e205, if_neg e202]; try rfl), zt, by simp [hl], zu, zu, rfl⟩ (x13.trans x39)
  have e205 := Bool.eq_false_iff.1 h33
  refine Js.skip <| Js.region <| Qm rfl <| Qm rfl <| zbs fun b40 => ?_
  refine JL.e (e_append (i := 2) (n' := (out ++ ([((([112, 108, 97, 121, 101, 114, 32] : List UInt8) ++ (M.dec ye17.player)) ++ ([32, 112, 108, 97, 121, 115, 32] : List UInt8)) ++ (M.dec y15.move)])).length) (vs' := txs_ (out ++ ([((([112, 108, 97, 121, 101, 114, 32] : List UInt8) ++ (M.dec ye17.player)) ++ ([32, 112, 108, 97, 121, 115, 32] : List UInt8)) ++ (M.dec y15.move)]))) el_50 rfl rfl rfl rfl (src_row (i := 0) und_50 rfl rfl) (by omega) (by omega) ln2_ (by first | rfl | (simp [txs_]; done))) ?_
  rintro v42 _ _ ⟨⟨g43, rfl⟩, rfl⟩ _
  refine JL.fact (row_form' (i := 2) rfl) (fun hf44 => ?_)
  obtain ⟨A44, c44, rfl, bl44, bh44⟩ := hf44
  refine znl ?_
  refine Qa rfl <| JL.nil <| Js.blockEnd <| Js.region <| Qp rfl rfl <| Qm rfl <| JL.nil ?_
  refine zd [2, 2] rfl fun u45 x45 => ?_
  exact zag ⟨k + 1, out ++ ([((([112, 108, 97, 121, 101, 114, 32] : List UInt8) ++ (M.dec ye17.player)) ++ ([32, 112, 108, 97, 121, 115, 32] : List UInt8)) ++ (M.dec y15.move)]), _, _, _, rfl, rfl, by rw [← M.notes_step hJ hP hX]; first | (rw [M.noteT, if_pos e205, if_pos e202]; try rfl) | (rw [M.noteT, if_pos e205, if_neg e202]; try rfl) | (rw [M.noteT, if_neg e205, if_pos e202]; try rfl) | (rw [M.noteT, if_neg e205, if_neg e202]; try rfl), zt, by simp [hl], zu, zu, rfl⟩ (x13.trans x45)
 have hE := (M.notes_end hok hJ (by have := h14'; omega)).symm
 refine zx ?_
 have hq0 : out = M.gameNotesR g := by first | (rw [hE]; done) | (rw [hC]; done)
 have hq1 : 0 = M.okC g := by first | (rw [hE]; done) | (rw [hC]; done)
 refine zS <| Qm rfl <| Qa rfl <| Qa rfl <| JL.nil ?_
 exact zro (x8.trans x13) (g := by exact (gv_tup (gvc (gv_strsE (ys := out) po_ (by assumption) (by rfl)) (gvc gv_ gvn))))
theorem c_spec_l10Note (pl mv gn : Int) (ag : Bool) {w : World} (r0 : 0 ≤ pl := by exact om_) (r1 : pl ≤ 1 := by exact om_) (r2 : 0 ≤ mv := by exact om_) (r3 : mv ≤ 8 := by exact om_) (r4 : -96 ≤ gn := by exact om_) (r5 : gn ≤ 96 := by exact om_) : RetV Tryz.prog 74 [.int .i64 pl, .int .i64 mv, .int .i64 gn, .bool ag] w (.string (sB (M.noteT pl mv gn ag))) := by
 refine enter @Tryz.func74 @Tryz.ntmps74 rfl rfl ?_
 refine zent ?_
 refine zS <| Qa rfl <| zN <| Qm rfl <| zv rfl (fun w hw => c_spec_l01Dec pl) <| Qq (q_cat rfl rfl) <| Qq (q_cat rfl rfl) <| Qm rfl <| zv rfl (fun w hw => c_spec_l01Dec mv) <| Qq (q_cat rfl rfl) <| Qa rfl <| zJ <| zS <| Qm rfl ?_
 refine Qg rfl rfl <| JL.nil ?_
 refine zi (fun h1 h1' => ?_) fun h1 h1' => ?_
 ·
  have e1 := h1'
  refine Js.region <| Qm rfl <| Qm rfl <| zv rfl (fun w hw => c_spec_l01Dec gn) <| Qq (q_cat rfl rfl) <| Qq (q_cat rfl rfl) <| Qa rfl <| zJ <| zS <| Qm rfl <| JL.nil ?_
  refine zi (fun h2 h2' => ?_) fun h2 h2' => ?_
  ·
   have e2 : ag = true := h2
   refine Js.region <| Qm rfl <| Qq (q_cat rfl rfl) <| Qa rfl <| zN <| Qm rfl <| Qa rfl <| JL.nil ?_
   refine zR (Up.refl _ _) ?_
   first | (rw [M.noteT, if_pos e2, if_pos e1]; rfl) | (rw [M.noteT, if_pos e2, if_neg e1]; rfl) | (rw [M.noteT, if_neg e2, if_pos e1]; rfl) | (rw [M.noteT, if_neg e2, if_neg e1]; rfl)
  have e2 : ¬ ag = true := by simpa using h2
  refine Js.skip <| zS <| Qm rfl <| Qa rfl <| JL.nil ?_
  refine zR (Up.refl _ _) ?_
  first | (rw [M.noteT, if_pos e2, if_pos e1]; rfl) | (rw [M.noteT, if_pos e2, if_neg e1]; rfl) | (rw [M.noteT, if_neg e2, if_pos e1]; rfl) | (rw [M.noteT, if_neg e2, if_neg e1]; rfl)
 have e1 : ¬ 0 < gn := by have := h1'; omega
 refine Js.skip <| Js.seq <| zS <| Qm rfl <| JL.nil ?_
 refine zi (fun h3 h3' => ?_) fun h3 h3' => ?_
 ·
  have e2 : ag = true := h3
  refine Js.region <| Qm rfl <| Qq (q_cat rfl rfl) <| Qa rfl <| zN <| Qm rfl <| Qa rfl <| JL.nil ?_
  refine zR (Up.refl _ _) ?_
  first | (rw [M.noteT, if_pos e2, if_pos e1]; rfl) | (rw [M.noteT, if_pos e2, if_neg e1]; rfl) | (rw [M.noteT, if_neg e2, if_pos e1]; rfl) | (rw [M.noteT, if_neg e2, if_neg e1]; rfl)
 have e2 : ¬ ag = true := by simpa using h3
 refine Js.skip <| zS <| Qm rfl <| Qa rfl <| JL.nil ?_
 refine zR (Up.refl _ _) ?_
 first | (rw [M.noteT, if_pos e2, if_pos e1]; rfl) | (rw [M.noteT, if_pos e2, if_neg e1]; rfl) | (rw [M.noteT, if_neg e2, if_pos e1]; rfl) | (rw [M.noteT, if_neg e2, if_neg e1]; rfl)
theorem c_spec_NotesOn (g : M.Gam) {v_g : Value} {w : World} (h_g : (Ty.agg (cGame g)).ok w v_g) (r0 : g.start.pits.length ≤ 4194304 := by exact om_) (r1 : g.start.stores.length ≤ 4194304 := by exact om_) (r2 : g.moves.length ≤ 4194304 := by exact om_) (r3 : g.now.pits.length ≤ 4194304 := by exact om_) (r4 : g.now.stores.length ≤ 4194304 := by exact om_) : Ret Tryz.prog 25 [v_g] w (Ty.tup [Ty.strs 9 (M.gameNotesR g), Ty.int (M.okC g)]) := by
 revert v_g; apply opn
 intro A1 c1 h1 bl1 bh1 A2 c2 h2 bl2 bh2 A3 c3 h3 bl3 bh3 A4 c4 h4 bl4 bh4 A5 c5 h5 bl5 bh5
 refine enter @Tryz.func25 @Tryz.ntmps25 rfl rfl ?_
 refine zent ?_
 refine zS <| zb rfl fun b6 => Qa rfl <| Qa rfl <| zJ <| zS <| zv rfl (fun w hw => c_spec_l08Ok g (ok_ hw)) <| Qt rfl <| JL.nil ?_
 refine zi (fun h7 h7' => ?_) fun h7 h7' => ?_
 ·
  have hno : M.okG g = false := by simpa using h7
  have hC := M.okC_no hno
  have hE := M.gameNotesR_no hno
  have hq0 : [] = M.gameNotesR g := by first | (rw [hE]; done) | (rw [hC]; done)
  have hq1 : 1 = M.okC g := by first | (rw [hE]; done) | (rw [hC]; done)
  refine zS <| Qa rfl <| Qa rfl <| JL.nil ?_
  exact zro (Up.refl _ _) (g := by exact (gv_tup (gvc (gv_strsN (by first | rfl | assumption)) (gvc gv_ gvn))))
 have hok : M.okG g = true := by simpa using h7
 have hC := M.okC_yes hok
 obtain ⟨k1, k2, k3, k4, k5, k6, k7, k8, k9⟩ := M.okG_parts hok
 have kh : (M.hist g.start (M.runs g.rules g.start g.moves)).length = g.moves.length + 1 := by rw [M.hist_length, k8]
 have kl := M.okP_len k1
 have kg : (M.gains (M.runs g.rules g.start g.moves)).length = g.moves.length := by rw [M.gains_length, k8]
 refine Js.skip <| zS <| Qf fh rfl <| Qf fh rfl <| Qf fh rfl <| Q0 0 rfl rfl rfl <| zp rfl (fun w hw => c_spec_l08Run g.rules g.start g.moves ⟨_, _, [.int .i64 g.rules.pits, .int .i64 g.rules.seeds, .bool g.rules.stores, .bool g.rules.skip, .bool g.rules.relay, .bool g.rules.feed, .bool g.rules.again, .int .i64 g.rules.capture, .int .i64 g.rules.slam], rfl, ⟨rfl, rfl, rfl, rfl, rfl, rfl, rfl, rfl, rfl, trivial⟩, Mem.boxR (i := 0) rfl 0 9 _ hw⟩ ⟨_, _, [.slice A1 g.start.pits.length c1, .slice A2 g.start.stores.length c2, .int .i64 g.start.player], rfl, ⟨(ok_ hw), (ok_ hw), rfl, trivial⟩, Mem.boxR (i := 0) rfl 9 3 _ hw⟩ (ok_ hw)) ?_
 intro u8 x8 A9 c9 h9 bl9 bh9 A10 c10 h10 bl10 bh10
 refine Qm rfl <| Qx rfl rfl <| Qx rfl rfl <| Qa rfl <| Qa rfl <| zN <| zbs fun b11 => ?_
 refine Qa rfl <| zJ <| zS <| Qa rfl <| JL.nil <| Js.block ?_
 refine zl [1, 4, 5] (fun F U l os u m => ∃ (k : Nat) (out : List (List UInt8)) (A13_6 : Option Addr) (c13_6 : Nat) (g13_6 : List Nat), l = F [(6, .slice A13_6 out.length c13_6), (7, .int .i64 (k : Int))] ∧ os = U [some (rowO 9 1 (.slice A13_6 out.length c13_6) out.length (txs_ out) g13_6)] ∧ (out = M.notes (((M.hist g.start (M.runs g.rules g.start g.moves)).zip (M.runs g.rules g.start g.moves)).take k)) ∧ (k ≤ g.moves.length) ∧ (out.length = k) ∧ (out.length ≤ c13_6) ∧ (c13_6 ≤ 9223372036854775807) ∧ m = g.moves.length - k) ⟨0, [], _, _, _, rfl, rfl, by rfl, zt, by rfl, zu, zu, rfl⟩ ?_
 rintro _ _ u13 _ ⟨k, out, A13_6, c13_6, g13_6, rfl, rfl, hJ, hk, hl, f13_3, f13_4, rfl⟩ x13
 refine zn ?_
 refine Js.seq <| zS <| Qm rfl <| Qm rfl <| Qz rfl <| Ql rfl rfl <| JL.nil ?_
 refine zi (fun h14 h14' => ?_) fun h14 h14' => ?_
 ·
  obtain ⟨ye15, hye15⟩ : ∃ x, (M.hist g.start (M.runs g.rules g.start g.moves))[k]? = some x := ⟨_, List.getElem?_eq_getElem (by omega)⟩
  have hP := hye15
  obtain ⟨ye16, hye16⟩ : ∃ x, (M.hist g.start (M.runs g.rules g.start g.moves))[k + 1]? = some x := ⟨_, List.getElem?_eq_getElem (by omega)⟩
  obtain ⟨x9, hX, hN⟩ := M.hist_next hye16
  obtain ⟨n1, n2, n3, n4, n5, n6, n7⟩ := M.note_at hP hX
  have hg9 := (M.gains_nth hX).symm
  rw [n6] at n2 n3
  rw [hg9] at n4 n5
  refine Js.skip <| Js.seq <| Js.block <| Js.seq ?_
  refine zdr [] ?_
  refine jM 0 rfl rfl ?_
  refine jM 1 rfl rfl ?_
  have hy17 := hye15
  obtain ⟨b17, o17, A17_0, c17_0, A17_1, c17_1, he17, hr17, h17_0, h17_1, bl17_0, bh17_0, bl17_1, bh17_1⟩ := elem_Position (Ty.mono _ h9 x13.vis) hy17
  refine jI 2 el_104 rfl rfl rfl he17 ?_
  refine jF 3 fld_28_2 rfl rfl ?_
  refine jW 4 ty_2 rfl rfl (fun hv => (hr17.vis hv) 2 _ rfl) ?_
  refine jM 5 rfl rfl ?_
  refine jM 6 rfl rfl ?_
  refine JH.p 7 rfl (p_add rfl rfl (IntWalk.i64_in _ (by omega))) ?_
  have hy18 := hye16
  obtain ⟨b18, o18, A18_0, c18_0, A18_1, c18_1, he18, hr18, h18_0, h18_1, bl18_0, bh18_0, bl18_1, bh18_1⟩ := elem_Position (Ty.mono _ h9 x13.vis) hy18
  refine jI 8 el_104 rfl rfl rfl he18 ?_
  refine jF 9 fld_28_2 rfl rfl ?_
  refine jW 10 ty_2 rfl rfl (fun hv => (hr18.vis hv) 2 _ rfl) ?_
  refine JH.p 11 rfl (p_eql rfl rfl) ?_
  refine jA 12 rfl rfl ?_
  refine yd ?_
  refine zdr [18] ?_
  refine jM 0 rfl rfl ?_
  refine jM 1 rfl rfl ?_
  refine jM 2 rfl rfl ?_
  have hy19 := hye15
  obtain ⟨b19, o19, A19_0, c19_0, A19_1, c19_1, he19, hr19, h19_0, h19_1, bl19_0, bh19_0, bl19_1, bh19_1⟩ := elem_Position (Ty.mono _ h9 x13.vis) hy19
  refine jI 3 el_104 rfl rfl rfl he19 ?_
  refine jF 4 fld_28_2 rfl rfl ?_
  refine jW 5 ty_2 rfl rfl (fun hv => (hr19.vis hv) 2 _ rfl) ?_
  refine jF 6 fld_48_2 rfl rfl ?_
  refine jB 7 1 ty_26 rfl rfl rfl rfl ?_
  refine jM 8 rfl rfl ?_
  obtain ⟨b20, o20, he20, hc20⟩ := ints_elem (Ty.mono _ h3 (x8.vis.trans x13.vis)) (i := k) (by omega)
  refine jI 9 el_26 rfl rfl rfl he20 ?_
  refine jW 10 ty_2 rfl rfl hc20.vis ?_
  refine jM 11 rfl rfl ?_
  refine jM 12 rfl rfl ?_
  obtain ⟨b21, o21, he21, hc21⟩ := ints_elem (Ty.mono _ h10 x13.vis) (i := k) (by omega)
  refine jI 13 el_26 rfl rfl rfl he21 ?_
  refine jW 14 ty_2 rfl rfl hc21.vis ?_
  refine jM 15 rfl rfl ?_
  refine y1 16 ?_
  refine yv rfl rfl (fun w hw => c_spec_l10Note ye15.player (M.nth g.moves k) (M.nth (M.gains (M.runs g.rules g.start g.moves)) k) (decide (ye15.player = ye16.player))) ?_
  refine y1 17 ?_
  refine ybs rfl fun b22 => ?_
  refine y1 18 ?_
  refine JHo.e rfl (e_append (i := 1) (n' := (out ++ [M.noteT ye15.player (M.nth g.moves k) (M.nth (M.gains (M.runs g.rules g.start g.moves)) k) (decide (ye15.player = ye16.player))]).length) (vs' := txs_ (out ++ [M.noteT ye15.player (M.nth g.moves k) (M.nth (M.gains (M.runs g.rules g.start g.moves)) k) (decide (ye15.player = ye16.player))])) el_50 rfl rfl rfl rfl (src_row (i := 0) und_50 rfl rfl) (by omega) (by omega) ln2_ (by first | rfl | (simp [txs_]; done))) (.inr rfl) ?_
  rintro v24 _ _ ⟨⟨g25, rfl⟩, rfl⟩ _
  refine JH.fact (row_form' (i := 1) rfl) (fun hf26 => ?_)
  obtain ⟨A26, c26, rfl, bl26, bh26⟩ := hf26
  refine znh ?_
  refine jA 19 rfl rfl ?_
  refine yd ?_
  refine Js.blockEnd <| Js.region <| Qm rfl <| Qp rfl rfl <| Qa rfl <| JL.nil ?_
  refine zd [1, 1] rfl fun u27 x27 => ?_
  exact zag ⟨k + 1, out ++ [M.noteT ye15.player (M.nth g.moves k) (M.nth (M.gains (M.runs g.rules g.start g.moves)) k) (decide (ye15.player = ye16.player))], _, _, _, rfl, rfl, by rw [← M.notes_step hJ hP hX, n6, hg9, n7, hN], zt, by simp [hl], zu, zu, rfl⟩ (x13.trans x27)
 have hE := (M.notes_end hok hJ (by have := h14'; omega)).symm
 refine zx ?_
 have hq0 : out = M.gameNotesR g := by first | (rw [hE]; done) | (rw [hC]; done)
 have hq1 : 0 = M.okC g := by first | (rw [hE]; done) | (rw [hC]; done)
 refine zS <| Qm rfl <| Qa rfl <| Qa rfl <| JL.nil ?_
 exact zro (x8.trans x13) (g := by exact (gv_tup (gvc (gv_strsE (ys := out) po_ (by assumption) (by rfl)) (gvc gv_ gvn))))
theorem c_spec_l09Names  {w : World}  : Ret Tryz.prog 81 [] w (Ty.strs 9 M.endNames) := by
 refine enter @Tryz.func81 @Tryz.ntmps81 rfl rfl ?_
 refine zent ?_
 refine zS <| Qa rfl <| zN <| zbs fun b1 => ?_
 refine Qa rfl <| JL.nil ?_
 exact zro (Up.refl _ _) (g := by exact (gv_strs po_ (by rfl) (by rfl)))
theorem c_spec_SummaryOf (g : M.Gam) {v_g : Value} {w : World} (h_g : (Ty.agg (cGame g)).ok w v_g) (r0 : g.start.pits.length ≤ 4194304 := by exact om_) (r1 : g.start.stores.length ≤ 4194304 := by exact om_) (r2 : g.moves.length ≤ 4194304 := by exact om_) (r3 : g.now.pits.length ≤ 4194304 := by exact om_) (r4 : g.now.stores.length ≤ 4194304 := by exact om_) : RetV Tryz.prog 28 [v_g] w (.tuple #[.string (sB ((M.summaryR g).1)), .int .i64 ((M.summaryR g).2)]) := by
 revert v_g; apply opn
 intro A1 c1 h1 bl1 bh1 A2 c2 h2 bl2 bh2 A3 c3 h3 bl3 bh3 A4 c4 h4 bl4 bh4 A5 c5 h5 bl5 bh5
 refine enter @Tryz.func28 @Tryz.ntmps28 rfl rfl ?_
 refine zent ?_
 refine zS <| zb rfl fun b6 => Qa rfl <| Qa rfl <| zJ <| zS <| zv rfl (fun w hw => c_spec_l08Ok g (ok_ hw)) <| Qt rfl <| JL.nil ?_
 refine zi (fun h7 h7' => ?_) fun h7 h7' => ?_
 ·
  have hno : M.okG g = false := by simpa using h7
  have hE := M.summaryR_no hno
  refine zS <| Qa rfl <| Qa rfl <| JL.nil ?_
  refine zR (Up.refl _ _) ?_
  first | (rw [hE]; rfl) | (rw [hE, M.summary, hF, hN9]; rfl)
 have hok : M.okG g = true := by simpa using h7
 obtain ⟨k1, k2, k3, k4, k5, k6, k7, k8, k9⟩ := M.okG_parts hok
 have hnow := M.okG_now hok
 have k10 := M.okP_len hnow
 obtain ⟨g1, g2, g3, g4, g5, g6, g7⟩ := M.okP_bd hnow
 have hfs := M.final_stores g
 have v0 := M.allOk_nth g6 0
 have v1 := M.allOk_nth g6 1
 have v2 : -10000 ≤ M.nth (M.final g).stores 0 ∧ M.nth (M.final g).stores 0 ≤ 10000 := M.final_bd hok 0
 have v3 : -10000 ≤ M.nth (M.final g).stores 1 ∧ M.nth (M.final g).stores 1 ≤ 10000 := M.final_bd hok 1
 have he9 := M.endOf_bd g
 have hl6 : M.endNames.length = 6 := rfl
 refine Js.skip <| zS <| zv rfl (fun w hw => c_spec_l09End g (ok_ hw) (r5 := hok)) <| Qa rfl <| zN <| Qf fh rfl <| Q9 0 rfl rfl ?_
 refine za zeh fun b8 => zw 0 rfl rfl rfl ?_
 refine zJ <| zS <| Qm rfl <| Qd rfl rfl <| JL.nil ?_
 refine zi (fun h9 h9' => ?_) fun h9 h9' => ?_
 ·
  have hE : M.summaryR g = (M.summary g, 0) := M.summaryR_yes hok
  have hF := M.fin_final (g := g) (by simpa using h9)
  refine Js.region <| zp rfl (fun w hw => c_spec_l09Final g (ok_ hw) (r0 := hnow)) ?_
  intro u10 x10 A11 c11 h11 bl11 bh11 A12 c12 h12 bl12 bh12
  obtain ⟨ye13, hye13⟩ : ∃ x, M.endNames[(M.endOf g).toNat]? = some x := ⟨_, List.getElem?_eq_getElem (by omega)⟩
  have hN9 := M.endName_yes (k := M.endOf g) (M.betw_iff.2 he9) hye13
  have lb9 : LenB ye13 8 := ⟨M.endNames_len hye13⟩
  refine zw 0 rfl rfl rfl ?_
  refine zJ ?_
  refine zk [3] (fun F U l os u => l = F [(2, .string (sB (((((((M.dec (g.moves.length : Int)) ++ ([32, 109, 111, 118, 101, 115, 44, 32] : List UInt8)) ++ ye13) ++ ([44, 32] : List UInt8)) ++ (M.dec (M.nth ((M.final g).stores) 0))) ++ ([58] : List UInt8)) ++ (M.dec (M.nth ((M.final g).stores) 1)))))] ∧ os = U []) ?_ ?_
  ·
   refine zdr [] ?_
   refine jF 0 fld_48_2 rfl rfl ?_
   refine jB 1 1 ty_26 rfl rfl rfl rfl ?_
   refine JH.p 2 rfl (p_len el_26 rfl) ?_
   refine jM 6 rfl rfl ?_
   refine jF 11 fld_28_1 rfl rfl ?_
   refine jB 12 0 ty_26 rfl rfl rfl rfl ?_
   obtain ⟨b20, o20, he20, hc20⟩ := ints_elem h12 (i := 0) (by omega)
   refine jI 13 el_26 rfl rfl rfl he20 ?_
   refine jW 14 ty_2 rfl rfl hc20.vis ?_
   refine jF 18 fld_28_1 rfl rfl ?_
   refine jB 19 0 ty_26 rfl rfl rfl rfl ?_
   obtain ⟨b21, o21, he21, hc21⟩ := ints_elem h12 (i := 1) (by omega)
   refine jI 20 el_26 rfl rfl rfl he21 ?_
   refine jW 21 ty_2 rfl rfl hc21.vis ?_
   refine y1 3 ?_
   refine yv rfl rfl (fun w hw => c_spec_l01Dec (g.moves.length : Int)) ?_
   refine JH.p 4 rfl (q_cat rfl rfl) ?_
   refine y1 5 ?_
   refine yp rfl rfl (fun w hw => c_spec_l09Names) ?_
   intro u22 x22 A23 c23 h23 bl23 bh23
   have hy24 := hye13
   obtain ⟨b24, o24, he24, hc24⟩ := strs_elem h23 hy24
   refine jI 7 el_50 rfl rfl rfl he24 ?_
   refine y2 8 15 ?_ ?_
   ·
    refine JHo.q rfl (q_load1 ty_9.h rfl (Mem.pub hc24)) ?_
    refine JH.p 9 rfl (q_cat rfl rfl) ?_
    refine JH.p 10 rfl (q_cat rfl rfl) ?_
    refine y1 15 ?_
    refine yv rfl rfl (fun w hw => c_spec_l01Dec (M.nth ((M.final g).stores) 0)) ?_
    refine JH.p 16 rfl (q_cat rfl rfl) ?_
    refine JH.p 17 rfl (q_cat rfl rfl) ?_
    refine y1 22 ?_
    refine yv rfl rfl (fun w hw => c_spec_l01Dec (M.nth ((M.final g).stores) 1)) ?_
    refine JH.p 23 rfl (q_cat rfl rfl) ?_
    refine jA 24 rfl rfl ?_
    refine jA 25 rfl rfl ?_
    refine yd ?_
    exact zm ⟨rfl, rfl⟩ x22
   refine yv rfl rfl (fun w hw => c_spec_l01Dec (M.nth ((M.final g).stores) 0)) ?_
   refine y2 8 22 ?_ ?_
   ·
    refine JHo.q rfl (q_load1 ty_9.h rfl (Mem.pub hc24)) ?_
    refine JH.p 9 rfl (q_cat rfl rfl) ?_
    refine JH.p 10 rfl (q_cat rfl rfl) ?_
    refine JH.p 16 rfl (q_cat rfl rfl) ?_
    refine JH.p 17 rfl (q_cat rfl rfl) ?_
    refine y1 22 ?_
    refine yv rfl rfl (fun w hw => c_spec_l01Dec (M.nth ((M.final g).stores) 1)) ?_
    refine JH.p 23 rfl (q_cat rfl rfl) ?_
    refine jA 24 rfl rfl ?_
    refine jA 25 rfl rfl ?_
    refine yd ?_
    exact zm ⟨rfl, rfl⟩ x22
   refine yv rfl rfl (fun w hw => c_spec_l01Dec (M.nth ((M.final g).stores) 1)) ?_
   refine y1 8 ?_
   refine JHo.q rfl (q_load1 ty_9.h rfl (Mem.pub hc24)) ?_
   refine JH.p 9 rfl (q_cat rfl rfl) ?_
   refine JH.p 10 rfl (q_cat rfl rfl) ?_
   refine JH.p 16 rfl (q_cat rfl rfl) ?_
   refine JH.p 17 rfl (q_cat rfl rfl) ?_
   refine JH.p 23 rfl (q_cat rfl rfl) ?_
   refine jA 24 rfl rfl ?_
   refine jA 25 rfl rfl ?_
   refine yd ?_
   exact zm ⟨rfl, rfl⟩ x22
  rintro _ _ u19 ⟨rfl, rfl⟩ x19
  refine zn ?_
  refine zR (x10.trans x19) ?_
  first | (rw [hE]; rfl) | (rw [hE, M.summary, hF, hN9]; rfl)
 have hE : M.summaryR g = (M.summary g, 0) := M.summaryR_yes hok
 have hF := M.fin_now (g := g) (by simpa using h9)
 obtain ⟨ye25, hye25⟩ : ∃ x, M.endNames[(M.endOf g).toNat]? = some x := ⟨_, List.getElem?_eq_getElem (by omega)⟩
 have hN9 := M.endName_yes (k := M.endOf g) (M.betw_iff.2 he9) hye25
 have lb9 : LenB ye25 8 := ⟨M.endNames_len hye25⟩
 refine Js.skip <| Js.seq ?_
 refine zk [3] (fun F U l os u => l = F [(2, .string (sB (((((((M.dec (g.moves.length : Int)) ++ ([32, 109, 111, 118, 101, 115, 44, 32] : List UInt8)) ++ ye25) ++ ([44, 32] : List UInt8)) ++ (M.dec (M.nth g.now.stores 0))) ++ ([58] : List UInt8)) ++ (M.dec (M.nth g.now.stores 1)))))] ∧ os = U []) ?_ ?_
 ·
  refine zdr [] ?_
  refine jF 0 fld_48_2 rfl rfl ?_
  refine jB 1 1 ty_26 rfl rfl rfl rfl ?_
  refine JH.p 2 rfl (p_len el_26 rfl) ?_
  refine jM 6 rfl rfl ?_
  refine jF 11 fld_28_1 rfl rfl ?_
  refine jB 12 0 ty_26 rfl rfl rfl rfl ?_
  obtain ⟨b32, o32, he32, hc32⟩ := ints_elem h5 (i := 0) (by omega)
  refine jI 13 el_26 rfl rfl rfl he32 ?_
  refine jW 14 ty_2 rfl rfl hc32.vis ?_
  refine jF 18 fld_28_1 rfl rfl ?_
  refine jB 19 0 ty_26 rfl rfl rfl rfl ?_
  obtain ⟨b33, o33, he33, hc33⟩ := ints_elem h5 (i := 1) (by omega)
  refine jI 20 el_26 rfl rfl rfl he33 ?_
  refine jW 21 ty_2 rfl rfl hc33.vis ?_
  refine y1 3 ?_
  refine yv rfl rfl (fun w hw => c_spec_l01Dec (g.moves.length : Int)) ?_
  refine JH.p 4 rfl (q_cat rfl rfl) ?_
  refine y1 5 ?_
  refine yp rfl rfl (fun w hw => c_spec_l09Names) ?_
  intro u34 x34 A35 c35 h35 bl35 bh35
  have hy36 := hye25
  obtain ⟨b36, o36, he36, hc36⟩ := strs_elem h35 hy36
  refine jI 7 el_50 rfl rfl rfl he36 ?_
  refine y2 8 15 ?_ ?_
  ·
   refine JHo.q rfl (q_load1 ty_9.h rfl (Mem.pub hc36)) ?_
   refine JH.p 9 rfl (q_cat rfl rfl) ?_
   refine JH.p 10 rfl (q_cat rfl rfl) ?_
   refine y1 15 ?_
   refine yv rfl rfl (fun w hw => c_spec_l01Dec (M.nth g.now.stores 0)) ?_
   refine JH.p 16 rfl (q_cat rfl rfl) ?_
   refine JH.p 17 rfl (q_cat rfl rfl) ?_
   refine y1 22 ?_
   refine yv rfl rfl (fun w hw => c_spec_l01Dec (M.nth g.now.stores 1)) ?_
   refine JH.p 23 rfl (q_cat rfl rfl) ?_
   refine jA 24 rfl rfl ?_
   refine jA 25 rfl rfl ?_
   refine yd ?_
   exact zm ⟨rfl, rfl⟩ x34
  refine yv rfl rfl (fun w hw => c_spec_l01Dec (M.nth g.now.stores 0)) ?_
  refine y2 8 22 ?_ ?_
  ·
   refine JHo.q rfl (q_load1 ty_9.h rfl (Mem.pub hc36)) ?_
   refine JH.p 9 rfl (q_cat rfl rfl) ?_
   refine JH.p 10 rfl (q_cat rfl rfl) ?_
   refine JH.p 16 rfl (q_cat rfl rfl) ?_
   refine JH.p 17 rfl (q_cat rfl rfl) ?_
   refine y1 22 ?_
   refine yv rfl rfl (fun w hw => c_spec_l01Dec (M.nth g.now.stores 1)) ?_
   refine JH.p 23 rfl (q_cat rfl rfl) ?_
   refine jA 24 rfl rfl ?_
   refine jA 25 rfl rfl ?_
   refine yd ?_
   exact zm ⟨rfl, rfl⟩ x34
  refine yv rfl rfl (fun w hw => c_spec_l01Dec (M.nth g.now.stores 1)) ?_
  refine y1 8 ?_
  refine JHo.q rfl (q_load1 ty_9.h rfl (Mem.pub hc36)) ?_
  refine JH.p 9 rfl (q_cat rfl rfl) ?_
  refine JH.p 10 rfl (q_cat rfl rfl) ?_
  refine JH.p 16 rfl (q_cat rfl rfl) ?_
  refine JH.p 17 rfl (q_cat rfl rfl) ?_
  refine JH.p 23 rfl (q_cat rfl rfl) ?_
  refine jA 24 rfl rfl ?_
  refine jA 25 rfl rfl ?_
  refine yd ?_
  exact zm ⟨rfl, rfl⟩ x34
 rintro _ _ u31 ⟨rfl, rfl⟩ x31
 refine zn ?_
 refine zR x31 ?_
 first | (rw [hE]; rfl) | (rw [hE, M.summary, hF, hN9]; rfl)
theorem c_laws_f6big (code : Nat) {v_code : Value} {w : World} (h_code : (Ty.bytes 5 code).ok w v_code) : RetV Tryz.prog 5 [v_code] w (.bool (decide (4096 < (code : Int)))) := by
 revert v_code; apply opn
 intro A1 c1 h1 bl1 bh1
 have h_code := h1
 refine enter @Tryz.func5 @Tryz.ntmps5 rfl rfl ?_
 refine zent ?_
 refine zS <| Qa rfl <| zN <| Qm rfl <| Qz rfl <| Qg rfl rfl <| Qa rfl <| JL.nil ?_
 exact zr (Up.refl _ _)
end Go.Proofs.YtjdhgkdimanabaaGreatDoor

/- Walks: G5. -/
import Derived.Test.YtcmfnlleikcpnaaGreatZxA3
import Derived.Test.YtcmfnlleikcpnaaGreatZxA10
import Derived.Test.YtcmfnlleikcpnaaGreatZxA11
import Derived.Test.YtcmfnlleikcpnaaGreatZxA2
import Derived.Test.YtcmfnlleikcpnaaGreatZxA7
import Derived.Test.YtcmfnlleikcpnaaGreatZxA8
import Derived.Test.YtcmfnlleikcpnaaGreatZxA6
import Derived.Test.YtcmfnlleikcpnaaGreatZxA1
import Derived.Test.YtcmfnlleikcpnaaGreatZxA0
set_option linter.unusedSimpArgs false
set_option linter.unusedVariables false
set_option maxRecDepth 100000
attribute [local irreducible] Go.Proofs.YtcmfnlleikcpnaaGreat.gv
set_option maxHeartbeats 4000000
namespace Go.Proofs.YtcmfnlleikcpnaaGreat
open Go.RowKit
theorem c_impl_Game_played (g : M.Gam) {v_g : Value} {w : World} (h_g : (Ty.agg (cGame g)).ok w v_g) (r0 : g.start.pits.length ≤ 4194304 := by exact om_) (r1 : g.start.stores.length ≤ 4194304 := by exact om_) (r2 : g.moves.length ≤ 4194304 := by exact om_) (r3 : g.now.pits.length ≤ 4194304 := by exact om_) (r4 : g.now.stores.length ≤ 4194304 := by exact om_) : Ret Tryz.prog 88 [v_g] w (Ty.tup [Ty.sl 39 3 (M.playedP g).length (lPosition (M.playedP g)), Ty.sl 101 6 (M.playedR g).length (lResultL (M.playedR g)), Ty.bool (M.playedOk g)]) := by
 revert v_g; apply opn
 intro A1 c1 h1 bl1 bh1 A2 c2 h2 bl2 bh2 A3 c3 h3 bl3 bh3 A4 c4 h4 bl4 bh4 A5 c5 h5 bl5 bh5
 refine enter @Tryz.func88 @Tryz.ntmps88 rfl rfl ?_
 refine zent ?_
 refine zS <| zb rfl fun b6 => Qa rfl <| Qa rfl <| Qa rfl <| zJ ?_
 refine zk [1] (fun F U l os u => ∃ (b12 b8 b10 : Nat) (A7_0 : Option Addr) (c7_0 : Nat) (A7_1 : Option Addr) (c7_1 : Nat) (f7 : List Nat), l = F [(5, .pointer (some ⟨b12, 0, none⟩)), (6, .slice (some ⟨b8, 0, none⟩) 1 1), (7, .slice (some ⟨b10, 0, none⟩) 0 0)] ∧ os = [boxO b12 [.slice A1 g.start.pits.length c1, .slice A2 g.start.stores.length c2, .int .i64 g.start.player] 39, rowO 101 6 (.slice (some ⟨b10, 0, none⟩) 0 0) 0 [] [], rowO 39 3 (.slice (some ⟨b8, 0, none⟩) 1 1) 1 [.slice A7_0 g.start.pits.length c7_0, .slice A7_1 g.start.stores.length c7_1, .int .i64 g.start.player] [], ownC (cPosition g.start) [.slice A7_0 g.start.pits.length c7_0, .slice A7_1 g.start.stores.length c7_1, .int .i64 g.start.player] f7] ++ U []) ?_ ?_
 ·
  refine zdr [8] ?_
  refine jF 0 fld_56_1 rfl rfl ?_
  refine JH.q 1 rfl (L9 0 rfl rfl) ?_
  refine jF 2 fld_56_1 rfl rfl ?_
  refine JH.q 3 rfl (L9 0 rfl rfl) ?_
  refine y3 4 6 7 ?_ ?_ ?_
  ·
   refine ycs rfl rfl (fun w hw => c_impl_Position_copied g.start (ok_ hw)) ?_
   intro A96_0 c96_0 bl96_0 bh96_0 A96_1 c96_1 bl96_1 bh96_1 f96
   refine y3 5 6 7 ?_ ?_ ?_
   ·
    refine ybs rfl fun b97 => ?_
    refine y2 6 7 ?_ ?_
    ·
     refine ybs rfl fun b99 => ?_
     refine y1 7 ?_
     refine ya rfl fun b101 => ?_
     refine y1 8 ?_
     refine yst rfl rfl rfl ?_
     refine jA 9 rfl rfl ?_
     refine jA 10 rfl rfl ?_
     refine yd ?_
     exact zm ⟨_, _, _, _, _, _, _, _, rfl, rfl⟩ (Up.refl _ _)
    refine ya rfl fun b102 => ?_
    refine y2 6 8 ?_ ?_
    ·
     refine ybs rfl fun b103 => ?_
     refine y1 8 ?_
     refine yst rfl rfl rfl ?_
     refine jA 9 rfl rfl ?_
     refine jA 10 rfl rfl ?_
     refine yd ?_
     refine zh [1, 0, 0, 0, 0] ?_
     exact zm ⟨_, _, _, _, _, _, _, _, rfl, rfl⟩ (Up.refl _ _)
    refine yst rfl rfl rfl ?_
    refine jA 9 rfl rfl ?_
    refine y1 6 ?_
    refine ybs rfl fun b105 => ?_
    refine jA 10 rfl rfl ?_
    refine yd ?_
    refine zh [1, 0, 0, 0, 0] ?_
    exact zm ⟨_, _, _, _, _, _, _, _, rfl, rfl⟩ (Up.refl _ _)
   ·
    refine ybs rfl fun b107 => ?_
    refine y2 5 7 ?_ ?_
    ·
     refine ybs rfl fun b109 => ?_
     refine y1 7 ?_
     refine ya rfl fun b111 => ?_
     refine y1 8 ?_
     refine yst rfl rfl rfl ?_
     refine jA 9 rfl rfl ?_
     refine jA 10 rfl rfl ?_
     refine yd ?_
     refine zh [0, 1, 0, 0, 0] ?_
     exact zm ⟨_, _, _, _, _, _, _, _, rfl, rfl⟩ (Up.refl _ _)
    refine ya rfl fun b112 => ?_
    refine y2 5 8 ?_ ?_
    ·
     refine ybs rfl fun b113 => ?_
     refine y1 8 ?_
     refine yst rfl rfl rfl ?_
     refine jA 9 rfl rfl ?_
     refine jA 10 rfl rfl ?_
     refine yd ?_
     refine zh [1, 1, 0, 0, 0] ?_
     exact zm ⟨_, _, _, _, _, _, _, _, rfl, rfl⟩ (Up.refl _ _)
    refine yst rfl rfl rfl ?_
    refine y1 5 ?_
    refine ybs rfl fun b115 => ?_
    refine jA 9 rfl rfl ?_
    refine jA 10 rfl rfl ?_
    refine yd ?_
    refine zh [1, 1, 0, 0, 0] ?_
    exact zm ⟨_, _, _, _, _, _, _, _, rfl, rfl⟩ (Up.refl _ _)
   refine ya rfl fun b117 => ?_
   refine y3 5 6 8 ?_ ?_ ?_
   ·
    refine ybs rfl fun b118 => ?_
    refine y2 6 8 ?_ ?_
    ·
     refine ybs rfl fun b120 => ?_
     refine y1 8 ?_
     refine yst rfl rfl rfl ?_
     refine jA 9 rfl rfl ?_
     refine jA 10 rfl rfl ?_
     refine yd ?_
     refine zh [2, 0, 0, 0, 0] ?_
     exact zm ⟨_, _, _, _, _, _, _, _, rfl, rfl⟩ (Up.refl _ _)
    refine yst rfl rfl rfl ?_
    refine jA 9 rfl rfl ?_
    refine y1 6 ?_
    refine ybs rfl fun b122 => ?_
    refine jA 10 rfl rfl ?_
    refine yd ?_
    refine zh [2, 0, 0, 0, 0] ?_
    exact zm ⟨_, _, _, _, _, _, _, _, rfl, rfl⟩ (Up.refl _ _)
   ·
    refine ybs rfl fun b124 => ?_
    refine y2 5 8 ?_ ?_
    ·
     refine ybs rfl fun b126 => ?_
     refine y1 8 ?_
     refine yst rfl rfl rfl ?_
     refine jA 9 rfl rfl ?_
     refine jA 10 rfl rfl ?_
     refine yd ?_
     refine zh [2, 1, 0, 0, 0] ?_
     exact zm ⟨_, _, _, _, _, _, _, _, rfl, rfl⟩ (Up.refl _ _)
    refine yst rfl rfl rfl ?_
    refine y1 5 ?_
    refine ybs rfl fun b128 => ?_
    refine jA 9 rfl rfl ?_
    refine jA 10 rfl rfl ?_
    refine yd ?_
    refine zh [2, 1, 0, 0, 0] ?_
    exact zm ⟨_, _, _, _, _, _, _, _, rfl, rfl⟩ (Up.refl _ _)
   refine yst rfl rfl rfl ?_
   refine y2 5 6 ?_ ?_
   ·
    refine ybs rfl fun b130 => ?_
    refine jA 9 rfl rfl ?_
    refine y1 6 ?_
    refine ybs rfl fun b132 => ?_
    refine jA 10 rfl rfl ?_
    refine yd ?_
    refine zh [2, 0, 0, 0, 0] ?_
    exact zm ⟨_, _, _, _, _, _, _, _, rfl, rfl⟩ (Up.refl _ _)
   refine ybs rfl fun b134 => ?_
   refine y1 5 ?_
   refine ybs rfl fun b136 => ?_
   refine jA 9 rfl rfl ?_
   refine jA 10 rfl rfl ?_
   refine yd ?_
   refine zh [2, 1, 0, 0, 0] ?_
   exact zm ⟨_, _, _, _, _, _, _, _, rfl, rfl⟩ (Up.refl _ _)
  ·
   refine ybs rfl fun b138 => ?_
   refine y2 4 7 ?_ ?_
   ·
    refine ycs rfl rfl (fun w hw => c_impl_Position_copied g.start (ok_ hw)) ?_
    intro A140_0 c140_0 bl140_0 bh140_0 A140_1 c140_1 bl140_1 bh140_1 f140
    refine y2 5 7 ?_ ?_
    ·
     refine ybs rfl fun b141 => ?_
     refine y1 7 ?_
     refine ya rfl fun b143 => ?_
     refine y1 8 ?_
     refine yst rfl rfl rfl ?_
     refine jA 9 rfl rfl ?_
     refine jA 10 rfl rfl ?_
     refine yd ?_
     refine zh [0, 2, 0, 0, 0] ?_
     exact zm ⟨_, _, _, _, _, _, _, _, rfl, rfl⟩ (Up.refl _ _)
    refine ya rfl fun b144 => ?_
    refine y2 5 8 ?_ ?_
    ·
     refine ybs rfl fun b145 => ?_
     refine y1 8 ?_
     refine yst rfl rfl rfl ?_
     refine jA 9 rfl rfl ?_
     refine jA 10 rfl rfl ?_
     refine yd ?_
     refine zh [1, 2, 0, 0, 0] ?_
     exact zm ⟨_, _, _, _, _, _, _, _, rfl, rfl⟩ (Up.refl _ _)
    refine yst rfl rfl rfl ?_
    refine y1 5 ?_
    refine ybs rfl fun b147 => ?_
    refine jA 9 rfl rfl ?_
    refine jA 10 rfl rfl ?_
    refine yd ?_
    refine zh [1, 2, 0, 0, 0] ?_
    exact zm ⟨_, _, _, _, _, _, _, _, rfl, rfl⟩ (Up.refl _ _)
   refine ya rfl fun b149 => ?_
   refine y1 4 ?_
   refine ycs rfl rfl (fun w hw => c_impl_Position_copied g.start (ok_ hw)) ?_
   intro A150_0 c150_0 bl150_0 bh150_0 A150_1 c150_1 bl150_1 bh150_1 f150
   refine y2 5 8 ?_ ?_
   ·
    refine ybs rfl fun b151 => ?_
    refine y1 8 ?_
    refine yst rfl rfl rfl ?_
    refine jA 9 rfl rfl ?_
    refine jA 10 rfl rfl ?_
    refine yd ?_
    refine zh [2, 2, 0, 0, 0] ?_
    exact zm ⟨_, _, _, _, _, _, _, _, rfl, rfl⟩ (Up.refl _ _)
   refine yst rfl rfl rfl ?_
   refine y1 5 ?_
   refine ybs rfl fun b153 => ?_
   refine jA 9 rfl rfl ?_
   refine jA 10 rfl rfl ?_
   refine yd ?_
   refine zh [2, 2, 0, 0, 0] ?_
   exact zm ⟨_, _, _, _, _, _, _, _, rfl, rfl⟩ (Up.refl _ _)
  refine ya rfl fun b155 => ?_
  refine y2 4 6 ?_ ?_
  ·
   refine ycs rfl rfl (fun w hw => c_impl_Position_copied g.start (ok_ hw)) ?_
   intro A156_0 c156_0 bl156_0 bh156_0 A156_1 c156_1 bl156_1 bh156_1 f156
   refine y3 5 6 8 ?_ ?_ ?_
   ·
    refine ybs rfl fun b157 => ?_
    refine y2 6 8 ?_ ?_
    ·
     refine ybs rfl fun b159 => ?_
     refine y1 8 ?_
     refine yst rfl rfl rfl ?_
     refine jA 9 rfl rfl ?_
     refine jA 10 rfl rfl ?_
     refine yd ?_
     refine zh [3, 0, 0, 0, 0] ?_
     exact zm ⟨_, _, _, _, _, _, _, _, rfl, rfl⟩ (Up.refl _ _)
    refine yst rfl rfl rfl ?_
    refine jA 9 rfl rfl ?_
    refine y1 6 ?_
    refine ybs rfl fun b161 => ?_
    refine jA 10 rfl rfl ?_
    refine yd ?_
    refine zh [3, 0, 0, 0, 0] ?_
    exact zm ⟨_, _, _, _, _, _, _, _, rfl, rfl⟩ (Up.refl _ _)
   ·
    refine ybs rfl fun b163 => ?_
    refine y2 5 8 ?_ ?_
    ·
     refine ybs rfl fun b165 => ?_
     refine y1 8 ?_
     refine yst rfl rfl rfl ?_
     refine jA 9 rfl rfl ?_
     refine jA 10 rfl rfl ?_
     refine yd ?_
     refine zh [3, 1, 0, 0, 0] ?_
     exact zm ⟨_, _, _, _, _, _, _, _, rfl, rfl⟩ (Up.refl _ _)
    refine yst rfl rfl rfl ?_
    refine y1 5 ?_
    refine ybs rfl fun b167 => ?_
    refine jA 9 rfl rfl ?_
    refine jA 10 rfl rfl ?_
    refine yd ?_
    refine zh [3, 1, 0, 0, 0] ?_
    exact zm ⟨_, _, _, _, _, _, _, _, rfl, rfl⟩ (Up.refl _ _)
   refine yst rfl rfl rfl ?_
   refine y2 5 6 ?_ ?_
   ·
    refine ybs rfl fun b169 => ?_
    refine jA 9 rfl rfl ?_
    refine y1 6 ?_
    refine ybs rfl fun b171 => ?_
    refine jA 10 rfl rfl ?_
    refine yd ?_
    refine zh [3, 0, 0, 0, 0] ?_
    exact zm ⟨_, _, _, _, _, _, _, _, rfl, rfl⟩ (Up.refl _ _)
   refine ybs rfl fun b173 => ?_
   refine y1 5 ?_
   refine ybs rfl fun b175 => ?_
   refine jA 9 rfl rfl ?_
   refine jA 10 rfl rfl ?_
   refine yd ?_
   refine zh [3, 1, 0, 0, 0] ?_
   exact zm ⟨_, _, _, _, _, _, _, _, rfl, rfl⟩ (Up.refl _ _)
  refine ybs rfl fun b177 => ?_
  refine y1 4 ?_
  refine ycs rfl rfl (fun w hw => c_impl_Position_copied g.start (ok_ hw)) ?_
  intro A179_0 c179_0 bl179_0 bh179_0 A179_1 c179_1 bl179_1 bh179_1 f179
  refine y2 5 8 ?_ ?_
  ·
   refine ybs rfl fun b180 => ?_
   refine y1 8 ?_
   refine yst rfl rfl rfl ?_
   refine jA 9 rfl rfl ?_
   refine jA 10 rfl rfl ?_
   refine yd ?_
   refine zh [3, 2, 0, 0, 0] ?_
   exact zm ⟨_, _, _, _, _, _, _, _, rfl, rfl⟩ (Up.refl _ _)
  refine yst rfl rfl rfl ?_
  refine y1 5 ?_
  refine ybs rfl fun b182 => ?_
  refine jA 9 rfl rfl ?_
  refine jA 10 rfl rfl ?_
  refine yd ?_
  refine zh [3, 2, 0, 0, 0] ?_
  exact zm ⟨_, _, _, _, _, _, _, _, rfl, rfl⟩ (Up.refl _ _)
 rintro _ _ u95 ⟨b12, b8, b10, A7_0, c7_0, A7_1, c7_1, f7, rfl, rfl⟩ x95
 refine zn ?_
 refine Js.seq <| zS <| Qf fh rfl <| Q0 4 rfl rfl rfl <| Qz rfl <| Qm rfl <| JL.nil <| Js.block ?_
 refine Js.vals (Ts := lPosition []) (vs := []) (fun w => rfl) ?_
 refine Js.joinL (i := 0) (j := 3) (Vs := lPosition ([] ++ [g.start])) rfl rfl (lPosition_snoc _ _) (fun f186 => ?_)
 refine zn ?_
 refine Js.vals (Ts := lResultL []) (vs := []) (fun w => rfl) ?_
 refine zl [1, 5, 20, 21] (fun F U l os u m => ∃ (k : Nat) (now : M.Pos) (out : List M.Pos) (made : List M.Res) (A184_6 : Option Addr) (c184_6 : Nat) (g184_6 : List Nat) (vs184_6 : List Value) (fl184_6 : List Nat) (A184_7 : Option Addr) (c184_7 : Nat) (g184_7 : List Nat) (vs184_7 : List Value) (fl184_7 : List Nat) (A184_5_0 : Option Addr) (c184_5_0 : Nat) (A184_5_1 : Option Addr) (c184_5_1 : Nat), l = F [(6, .slice A184_6 out.length c184_6), (7, .slice A184_7 made.length c184_7), (22, .int .i64 (k : Int))] ∧ os = U [some (ownC (lResultL made) vs184_7 fl184_7), some (ownC (lPosition out) vs184_6 fl184_6), some (boxO b12 [.slice A184_5_0 now.pits.length c184_5_0, .slice A184_5_1 now.stores.length c184_5_1, .int .i64 now.player] 39), some (rowO 101 6 (.slice A184_7 made.length c184_7) made.length vs184_7 g184_7), some (rowO 39 3 (.slice A184_6 out.length c184_6) out.length vs184_6 g184_6)] ∧ (M.Run g.rules g.start g.moves k now made) ∧ (out = M.hist g.start made) ∧ (now.pits.length ≤ 4194304) ∧ (now.stores.length ≤ 4194304) ∧ (out.length ≤ c184_6) ∧ (c184_6 ≤ 9223372036854775807) ∧ (made.length ≤ c184_7) ∧ (c184_7 ≤ 9223372036854775807) ∧ ((Ty.ints 2 now.pits).ok u (.slice A184_5_0 now.pits.length c184_5_0)) ∧ (now.pits.length ≤ c184_5_0) ∧ (c184_5_0 ≤ 9223372036854775807) ∧ ((Ty.ints 2 now.stores).ok u (.slice A184_5_1 now.stores.length c184_5_1)) ∧ (now.stores.length ≤ c184_5_1) ∧ (c184_5_1 ≤ 9223372036854775807) ∧ m = g.moves.length - k) ⟨0, g.start, [g.start], [], _, _, _, _, _, _, _, _, _, _, _, _, _, _, rfl, rfl, by exact M.Run.zero _ _ _, by rfl, zt, zt, zu, zu, zu, zu, (Ty.mono _ h1 x95.vis), zu, zu, (Ty.mono _ h2 x95.vis), zu, zu, rfl⟩ ?_
 rintro _ _ u184 _ ⟨k, now, out, made, A184_6, c184_6, g184_6, vs184_6, fl184_6, A184_7, c184_7, g184_7, vs184_7, fl184_7, A184_5_0, c184_5_0, A184_5_1, c184_5_1, rfl, rfl, hR, hO, n0, n1, f184_4, f184_5, f184_6, f184_7, f184_8, f184_9, f184_10, f184_11, f184_12, f184_13, rfl⟩ x184
 refine zn ?_
 have hl1 := hR.len
 have hl3 := hR.le
 have hlO : out.length = made.length + 1 := by rw [hO]; simp
 refine zS <| Ql rfl rfl <| zJ ?_
 refine zi (fun h187 h187' => ?_) fun h187 h187' => ?_
 ·
  obtain ⟨b188, o188, he188, hc188⟩ := ints_elem (Ty.mono _ h3 (x95.vis.trans x184.vis)) (i := k) (by omega)
  refine Js.skip <| Js.seq <| Js.block <| zS <| Qq (p_indexAddr el_27 rfl rfl (by omega) (by omega) he188) <| QC hc188 rfl <| Qa rfl <| zN <| Qf fh rfl <| Q9 5 rfl rfl ?_
  refine Q9 2 rfl rfl ?_
  refine Qm rfl <| zp rfl (fun w hw => c_impl_Rules_resultOf g.rules now (M.nth g.moves k) (ok_ hw) (ok_ hw)) ?_
  intro u189 x189 A190 c190 h190 bl190 bh190 A191 c191 h191 bl191 bh191
  refine Qm rfl <| Qx rfl rfl <| Qx rfl rfl <| za zeh fun b192 => zw 0 rfl rfl rfl ?_
  refine Qa rfl <| zJ <| zS <| Qm rfl <| Qd rfl rfl <| JL.nil ?_
  refine zi (fun h193 h193' => ?_) fun h193 h193' => ?_
  ·
   obtain ⟨hP1, hP2, hP3⟩ := hR.broken (by omega) (by simpa using h193)
   have hq0 : [] = M.playedP g := by first | exact hP1.symm | exact congrArg Value.bool hP1.symm | exact hP2.symm | exact hP3.symm
   have hq1 : [] = M.playedR g := by first | exact hP1.symm | exact congrArg Value.bool hP1.symm | exact hP2.symm | exact hP3.symm
   have hq2 : false = M.playedOk g := by first | exact hP1.symm | exact congrArg Value.bool hP1.symm | exact hP2.symm | exact hP3.symm
   refine zS <| Qa rfl <| Qa rfl <| Qa rfl <| JL.nil ?_
   exact zro ((x95.trans x184).trans x189)
  have hm : (M.make g.rules now (M.nth g.moves k)).2 = 0 := by simpa using h193
  have hR2 := hR.step (by omega) hm
  have hl2 := M.okP_len (M.make_ok hm).2.2.2.1
  refine Js.skip <| zS <| Qf fh rfl <| Q9 0 rfl rfl ?_
  refine zw 3 rfl rfl rfl ?_
  refine JL.nil ?_
  refine zk [1, 5, 20, 21, 22] (fun F U l os u => ∃ (A199 : Option Addr) (c199 : Nat) (A204 : Option Addr) (c204 b200 b195 : Nat) (A194_0 : Option Addr) (c194_0 : Nat) (A194_1 : Option Addr) (c194_1 : Nat) (f194 g203 g198 : List Nat), l = F [(6, .slice A199 ((out ++ [(((M.make g.rules now (M.nth g.moves k)).1).next)]).length) c199), (7, .slice A204 ((made ++ [((M.make g.rules now (M.nth g.moves k)).1)]).length) c204)] ∧ os = [rowO 101 6 (.slice (some ⟨b200, 0, none⟩) 1 1) 1 [.int .i64 (((M.make g.rules now (M.nth g.moves k)).1).move), .int .i64 (((M.make g.rules now (M.nth g.moves k)).1).gain), .bool (((M.make g.rules now (M.nth g.moves k)).1).again), .slice A190 (((((M.make g.rules now (M.nth g.moves k)).1).next).pits).length) c190, .slice A191 (((((M.make g.rules now (M.nth g.moves k)).1).next).stores).length) c191, .int .i64 ((((M.make g.rules now (M.nth g.moves k)).1).next).player)] [], rowO 39 3 (.slice (some ⟨b195, 0, none⟩) 1 1) 1 [.slice A194_0 (((((M.make g.rules now (M.nth g.moves k)).1).next).pits).length) c194_0, .slice A194_1 (((((M.make g.rules now (M.nth g.moves k)).1).next).stores).length) c194_1, .int .i64 ((((M.make g.rules now (M.nth g.moves k)).1).next).player)] [], ownC (cPosition (((M.make g.rules now (M.nth g.moves k)).1).next)) [.slice A194_0 (((((M.make g.rules now (M.nth g.moves k)).1).next).pits).length) c194_0, .slice A194_1 (((((M.make g.rules now (M.nth g.moves k)).1).next).stores).length) c194_1, .int .i64 ((((M.make g.rules now (M.nth g.moves k)).1).next).player)] f194] ++ U [nO, nO, nO, nO, some (rowO 101 6 (.slice A204 ((made ++ [((M.make g.rules now (M.nth g.moves k)).1)]).length) c204) ((made ++ [((M.make g.rules now (M.nth g.moves k)).1)]).length) (vs184_7 ++ [.int .i64 (((M.make g.rules now (M.nth g.moves k)).1).move), .int .i64 (((M.make g.rules now (M.nth g.moves k)).1).gain), .bool (((M.make g.rules now (M.nth g.moves k)).1).again), .slice A190 (((((M.make g.rules now (M.nth g.moves k)).1).next).pits).length) c190, .slice A191 (((((M.make g.rules now (M.nth g.moves k)).1).next).stores).length) c191, .int .i64 ((((M.make g.rules now (M.nth g.moves k)).1).next).player)]) g203), some (rowO 39 3 (.slice A199 ((out ++ [(((M.make g.rules now (M.nth g.moves k)).1).next)]).length) c199) ((out ++ [(((M.make g.rules now (M.nth g.moves k)).1).next)]).length) (vs184_6 ++ [.slice A194_0 (((((M.make g.rules now (M.nth g.moves k)).1).next).pits).length) c194_0, .slice A194_1 (((((M.make g.rules now (M.nth g.moves k)).1).next).stores).length) c194_1, .int .i64 ((((M.make g.rules now (M.nth g.moves k)).1).next).player)]) g198)] ∧ ((out ++ [(((M.make g.rules now (M.nth g.moves k)).1).next)]).length ≤ c199) ∧ (c199 ≤ 9223372036854775807) ∧ ((made ++ [((M.make g.rules now (M.nth g.moves k)).1)]).length ≤ c204) ∧ (c204 ≤ 9223372036854775807)) ?_ ?_
  ·
   refine zdr [4, 8] ?_
   refine jM 0 rfl rfl ?_
   refine JH.q 1 rfl (L9 3 rfl rfl) ?_
   refine jM 5 rfl rfl ?_
   refine y2 2 6 ?_ ?_
   ·
    refine ycs rfl rfl (fun w hw => c_impl_Position_copied (((M.make g.rules now (M.nth g.moves k)).1).next) (ok_ hw)) ?_
    intro A290_0 c290_0 bl290_0 bh290_0 A290_1 c290_1 bl290_1 bh290_1 f290
    refine y2 3 6 ?_ ?_
    ·
     refine ybs rfl fun b291 => ?_
     refine y2 4 6 ?_ ?_
     ·
      refine JHo.e rfl (e_append (i := 7) (n' := (out ++ [(((M.make g.rules now (M.nth g.moves k)).1).next)]).length) (vs' := vs184_6 ++ [.slice A290_0 (((((M.make g.rules now (M.nth g.moves k)).1).next).pits).length) c290_0, .slice A290_1 (((((M.make g.rules now (M.nth g.moves k)).1).next).stores).length) c290_1, .int .i64 ((((M.make g.rules now (M.nth g.moves k)).1).next).player)]) el_126 rfl rfl rfl rfl (src_row (i := 0) und_126 rfl rfl) (by omega) (by omega) ln2_ (rfl)) (.inr rfl) ?_
      rintro v293 _ _ ⟨⟨g294, rfl⟩, rfl⟩ _
      refine JH.fact (row_form' (i := 7) rfl) (fun hf295 => ?_)
      obtain ⟨A295, c295, rfl, bl295, bh295⟩ := hf295
      refine znh ?_
      refine y1 6 ?_
      refine JHo.q rfl (L9 2 rfl rfl) ?_
      refine y1 7 ?_
      refine ybs rfl fun b296 => ?_
      refine y1 8 ?_
      refine JHo.e rfl (e_append (i := 7) (n' := (made ++ [((M.make g.rules now (M.nth g.moves k)).1)]).length) (vs' := vs184_7 ++ [.int .i64 (((M.make g.rules now (M.nth g.moves k)).1).move), .int .i64 (((M.make g.rules now (M.nth g.moves k)).1).gain), .bool (((M.make g.rules now (M.nth g.moves k)).1).again), .slice A190 (((((M.make g.rules now (M.nth g.moves k)).1).next).pits).length) c190, .slice A191 (((((M.make g.rules now (M.nth g.moves k)).1).next).stores).length) c191, .int .i64 ((((M.make g.rules now (M.nth g.moves k)).1).next).player)]) el_131 rfl rfl rfl rfl (src_row (i := 0) und_131 rfl rfl) (by omega) (by omega) ln2_ (rfl)) (.inr rfl) ?_
      rintro v298 _ _ ⟨⟨g299, rfl⟩, rfl⟩ _
      refine JH.fact (row_form' (i := 7) rfl) (fun hf300 => ?_)
      obtain ⟨A300, c300, rfl, bl300, bh300⟩ := hf300
      refine znh ?_
      refine jA 9 rfl rfl ?_
      refine jA 10 rfl rfl ?_
      refine yd ?_
      exact zm ⟨_, _, _, _, _, _, _, _, _, _, _, _, _, rfl, rfl, zt, zt, zt, zt⟩ (Up.refl _ _)
     refine JHo.q rfl (L9 2 rfl rfl) ?_
     refine y2 4 7 ?_ ?_
     ·
      refine JHo.e rfl (e_append (i := 7) (n' := (out ++ [(((M.make g.rules now (M.nth g.moves k)).1).next)]).length) (vs' := vs184_6 ++ [.slice A290_0 (((((M.make g.rules now (M.nth g.moves k)).1).next).pits).length) c290_0, .slice A290_1 (((((M.make g.rules now (M.nth g.moves k)).1).next).stores).length) c290_1, .int .i64 ((((M.make g.rules now (M.nth g.moves k)).1).next).player)]) el_126 rfl rfl rfl rfl (src_row (i := 0) und_126 rfl rfl) (by omega) (by omega) ln2_ (rfl)) (.inr rfl) ?_
      rintro v301 _ _ ⟨⟨g302, rfl⟩, rfl⟩ _
      refine JH.fact (row_form' (i := 7) rfl) (fun hf303 => ?_)
      obtain ⟨A303, c303, rfl, bl303, bh303⟩ := hf303
      refine znh ?_
      refine y1 7 ?_
      refine ybs rfl fun b304 => ?_
      refine y1 8 ?_
      refine JHo.e rfl (e_append (i := 7) (n' := (made ++ [((M.make g.rules now (M.nth g.moves k)).1)]).length) (vs' := vs184_7 ++ [.int .i64 (((M.make g.rules now (M.nth g.moves k)).1).move), .int .i64 (((M.make g.rules now (M.nth g.moves k)).1).gain), .bool (((M.make g.rules now (M.nth g.moves k)).1).again), .slice A190 (((((M.make g.rules now (M.nth g.moves k)).1).next).pits).length) c190, .slice A191 (((((M.make g.rules now (M.nth g.moves k)).1).next).stores).length) c191, .int .i64 ((((M.make g.rules now (M.nth g.moves k)).1).next).player)]) el_131 rfl rfl rfl rfl (src_row (i := 0) und_131 rfl rfl) (by omega) (by omega) ln2_ (rfl)) (.inr rfl) ?_
      rintro v306 _ _ ⟨⟨g307, rfl⟩, rfl⟩ _
      refine JH.fact (row_form' (i := 7) rfl) (fun hf308 => ?_)
      obtain ⟨A308, c308, rfl, bl308, bh308⟩ := hf308
      refine znh ?_
      refine jA 9 rfl rfl ?_
      refine jA 10 rfl rfl ?_
      refine yd ?_
      exact zm ⟨_, _, _, _, _, _, _, _, _, _, _, _, _, rfl, rfl, zt, zt, zt, zt⟩ (Up.refl _ _)
     refine ybs rfl fun b309 => ?_
     refine y1 4 ?_
     refine JHo.e rfl (e_append (i := 8) (n' := (out ++ [(((M.make g.rules now (M.nth g.moves k)).1).next)]).length) (vs' := vs184_6 ++ [.slice A290_0 (((((M.make g.rules now (M.nth g.moves k)).1).next).pits).length) c290_0, .slice A290_1 (((((M.make g.rules now (M.nth g.moves k)).1).next).stores).length) c290_1, .int .i64 ((((M.make g.rules now (M.nth g.moves k)).1).next).player)]) el_126 rfl rfl rfl rfl (src_row (i := 1) und_126 rfl rfl) (by omega) (by omega) ln2_ (rfl)) (.inr rfl) ?_
     rintro v311 _ _ ⟨⟨g312, rfl⟩, rfl⟩ _
     refine JH.fact (row_form' (i := 8) rfl) (fun hf313 => ?_)
     obtain ⟨A313, c313, rfl, bl313, bh313⟩ := hf313
     refine znh ?_
     refine y1 8 ?_
     refine JHo.e rfl (e_append (i := 7) (n' := (made ++ [((M.make g.rules now (M.nth g.moves k)).1)]).length) (vs' := vs184_7 ++ [.int .i64 (((M.make g.rules now (M.nth g.moves k)).1).move), .int .i64 (((M.make g.rules now (M.nth g.moves k)).1).gain), .bool (((M.make g.rules now (M.nth g.moves k)).1).again), .slice A190 (((((M.make g.rules now (M.nth g.moves k)).1).next).pits).length) c190, .slice A191 (((((M.make g.rules now (M.nth g.moves k)).1).next).stores).length) c191, .int .i64 ((((M.make g.rules now (M.nth g.moves k)).1).next).player)]) el_131 rfl rfl rfl rfl (src_row (i := 0) und_131 rfl rfl) (by omega) (by omega) ln2_ (rfl)) (.inr rfl) ?_
     rintro v314 _ _ ⟨⟨g315, rfl⟩, rfl⟩ _
     refine JH.fact (row_form' (i := 7) rfl) (fun hf316 => ?_)
     obtain ⟨A316, c316, rfl, bl316, bh316⟩ := hf316
     refine znh ?_
     refine jA 9 rfl rfl ?_
     refine jA 10 rfl rfl ?_
     refine yd ?_
     exact zm ⟨_, _, _, _, _, _, _, _, _, _, _, _, _, rfl, rfl, zt, zt, zt, zt⟩ (Up.refl _ _)
    refine JHo.q rfl (L9 1 rfl rfl) ?_
    refine y2 3 7 ?_ ?_
    ·
     refine ybs rfl fun b317 => ?_
     refine y2 4 7 ?_ ?_
     ·
      refine JHo.e rfl (e_append (i := 7) (n' := (out ++ [(((M.make g.rules now (M.nth g.moves k)).1).next)]).length) (vs' := vs184_6 ++ [.slice A290_0 (((((M.make g.rules now (M.nth g.moves k)).1).next).pits).length) c290_0, .slice A290_1 (((((M.make g.rules now (M.nth g.moves k)).1).next).stores).length) c290_1, .int .i64 ((((M.make g.rules now (M.nth g.moves k)).1).next).player)]) el_126 rfl rfl rfl rfl (src_row (i := 0) und_126 rfl rfl) (by omega) (by omega) ln2_ (rfl)) (.inr rfl) ?_
      rintro v319 _ _ ⟨⟨g320, rfl⟩, rfl⟩ _
      refine JH.fact (row_form' (i := 7) rfl) (fun hf321 => ?_)
      obtain ⟨A321, c321, rfl, bl321, bh321⟩ := hf321
      refine znh ?_
      refine y1 7 ?_
      refine ybs rfl fun b322 => ?_
      refine y1 8 ?_
      refine JHo.e rfl (e_append (i := 7) (n' := (made ++ [((M.make g.rules now (M.nth g.moves k)).1)]).length) (vs' := vs184_7 ++ [.int .i64 (((M.make g.rules now (M.nth g.moves k)).1).move), .int .i64 (((M.make g.rules now (M.nth g.moves k)).1).gain), .bool (((M.make g.rules now (M.nth g.moves k)).1).again), .slice A190 (((((M.make g.rules now (M.nth g.moves k)).1).next).pits).length) c190, .slice A191 (((((M.make g.rules now (M.nth g.moves k)).1).next).stores).length) c191, .int .i64 ((((M.make g.rules now (M.nth g.moves k)).1).next).player)]) el_131 rfl rfl rfl rfl (src_row (i := 0) und_131 rfl rfl) (by omega) (by omega) ln2_ (rfl)) (.inr rfl) ?_
      rintro v324 _ _ ⟨⟨g325, rfl⟩, rfl⟩ _
      refine JH.fact (row_form' (i := 7) rfl) (fun hf326 => ?_)
      obtain ⟨A326, c326, rfl, bl326, bh326⟩ := hf326
      refine znh ?_
      refine jA 9 rfl rfl ?_
      refine jA 10 rfl rfl ?_
      refine yd ?_
      exact zm ⟨_, _, _, _, _, _, _, _, _, _, _, _, _, rfl, rfl, zt, zt, zt, zt⟩ (Up.refl _ _)
     refine ybs rfl fun b327 => ?_
     refine y1 4 ?_
     refine JHo.e rfl (e_append (i := 8) (n' := (out ++ [(((M.make g.rules now (M.nth g.moves k)).1).next)]).length) (vs' := vs184_6 ++ [.slice A290_0 (((((M.make g.rules now (M.nth g.moves k)).1).next).pits).length) c290_0, .slice A290_1 (((((M.make g.rules now (M.nth g.moves k)).1).next).stores).length) c290_1, .int .i64 ((((M.make g.rules now (M.nth g.moves k)).1).next).player)]) el_126 rfl rfl rfl rfl (src_row (i := 1) und_126 rfl rfl) (by omega) (by omega) ln2_ (rfl)) (.inr rfl) ?_
     rintro v329 _ _ ⟨⟨g330, rfl⟩, rfl⟩ _
     refine JH.fact (row_form' (i := 8) rfl) (fun hf331 => ?_)
     obtain ⟨A331, c331, rfl, bl331, bh331⟩ := hf331
     refine znh ?_
     refine y1 8 ?_
     refine JHo.e rfl (e_append (i := 7) (n' := (made ++ [((M.make g.rules now (M.nth g.moves k)).1)]).length) (vs' := vs184_7 ++ [.int .i64 (((M.make g.rules now (M.nth g.moves k)).1).move), .int .i64 (((M.make g.rules now (M.nth g.moves k)).1).gain), .bool (((M.make g.rules now (M.nth g.moves k)).1).again), .slice A190 (((((M.make g.rules now (M.nth g.moves k)).1).next).pits).length) c190, .slice A191 (((((M.make g.rules now (M.nth g.moves k)).1).next).stores).length) c191, .int .i64 ((((M.make g.rules now (M.nth g.moves k)).1).next).player)]) el_131 rfl rfl rfl rfl (src_row (i := 0) und_131 rfl rfl) (by omega) (by omega) ln2_ (rfl)) (.inr rfl) ?_
     rintro v332 _ _ ⟨⟨g333, rfl⟩, rfl⟩ _
     refine JH.fact (row_form' (i := 7) rfl) (fun hf334 => ?_)
     obtain ⟨A334, c334, rfl, bl334, bh334⟩ := hf334
     refine znh ?_
     refine jA 9 rfl rfl ?_
     refine jA 10 rfl rfl ?_
     refine yd ?_
     exact zm ⟨_, _, _, _, _, _, _, _, _, _, _, _, _, rfl, rfl, zt, zt, zt, zt⟩ (Up.refl _ _)
    refine ybs rfl fun b335 => ?_
    refine y1 3 ?_
    refine ybs rfl fun b337 => ?_
    refine y1 4 ?_
    refine JHo.e rfl (e_append (i := 8) (n' := (out ++ [(((M.make g.rules now (M.nth g.moves k)).1).next)]).length) (vs' := vs184_6 ++ [.slice A290_0 (((((M.make g.rules now (M.nth g.moves k)).1).next).pits).length) c290_0, .slice A290_1 (((((M.make g.rules now (M.nth g.moves k)).1).next).stores).length) c290_1, .int .i64 ((((M.make g.rules now (M.nth g.moves k)).1).next).player)]) el_126 rfl rfl rfl rfl (src_row (i := 0) und_126 rfl rfl) (by omega) (by omega) ln2_ (rfl)) (.inr rfl) ?_
    rintro v339 _ _ ⟨⟨g340, rfl⟩, rfl⟩ _
    refine JH.fact (row_form' (i := 8) rfl) (fun hf341 => ?_)
    obtain ⟨A341, c341, rfl, bl341, bh341⟩ := hf341
    refine znh ?_
    refine y1 8 ?_
    refine JHo.e rfl (e_append (i := 7) (n' := (made ++ [((M.make g.rules now (M.nth g.moves k)).1)]).length) (vs' := vs184_7 ++ [.int .i64 (((M.make g.rules now (M.nth g.moves k)).1).move), .int .i64 (((M.make g.rules now (M.nth g.moves k)).1).gain), .bool (((M.make g.rules now (M.nth g.moves k)).1).again), .slice A190 (((((M.make g.rules now (M.nth g.moves k)).1).next).pits).length) c190, .slice A191 (((((M.make g.rules now (M.nth g.moves k)).1).next).stores).length) c191, .int .i64 ((((M.make g.rules now (M.nth g.moves k)).1).next).player)]) el_131 rfl rfl rfl rfl (src_row (i := 1) und_131 rfl rfl) (by omega) (by omega) ln2_ (rfl)) (.inr rfl) ?_
    rintro v342 _ _ ⟨⟨g343, rfl⟩, rfl⟩ _
    refine JH.fact (row_form' (i := 7) rfl) (fun hf344 => ?_)
    obtain ⟨A344, c344, rfl, bl344, bh344⟩ := hf344
    refine znh ?_
    refine jA 9 rfl rfl ?_
    refine jA 10 rfl rfl ?_
    refine yd ?_
    refine zh [1, 0, 0, 0, 0, 0, 0, 0, 0, 0] ?_
    exact zm ⟨_, _, _, _, _, _, _, _, _, _, _, _, _, rfl, rfl, zt, zt, zt, zt⟩ (Up.refl _ _)
   refine JHo.q rfl (L9 0 rfl rfl) ?_
   refine y2 2 7 ?_ ?_
   ·
    refine ycs rfl rfl (fun w hw => c_impl_Position_copied (((M.make g.rules now (M.nth g.moves k)).1).next) (ok_ hw)) ?_
    intro A345_0 c345_0 bl345_0 bh345_0 A345_1 c345_1 bl345_1 bh345_1 f345
    refine y2 3 7 ?_ ?_
    ·
     refine ybs rfl fun b346 => ?_
     refine y2 4 7 ?_ ?_
     ·
      refine JHo.e rfl (e_append (i := 7) (n' := (out ++ [(((M.make g.rules now (M.nth g.moves k)).1).next)]).length) (vs' := vs184_6 ++ [.slice A345_0 (((((M.make g.rules now (M.nth g.moves k)).1).next).pits).length) c345_0, .slice A345_1 (((((M.make g.rules now (M.nth g.moves k)).1).next).stores).length) c345_1, .int .i64 ((((M.make g.rules now (M.nth g.moves k)).1).next).player)]) el_126 rfl rfl rfl rfl (src_row (i := 0) und_126 rfl rfl) (by omega) (by omega) ln2_ (rfl)) (.inr rfl) ?_
      rintro v348 _ _ ⟨⟨g349, rfl⟩, rfl⟩ _
      refine JH.fact (row_form' (i := 7) rfl) (fun hf350 => ?_)
      obtain ⟨A350, c350, rfl, bl350, bh350⟩ := hf350
      refine znh ?_
      refine y1 7 ?_
      refine ybs rfl fun b351 => ?_
      refine y1 8 ?_
      refine JHo.e rfl (e_append (i := 7) (n' := (made ++ [((M.make g.rules now (M.nth g.moves k)).1)]).length) (vs' := vs184_7 ++ [.int .i64 (((M.make g.rules now (M.nth g.moves k)).1).move), .int .i64 (((M.make g.rules now (M.nth g.moves k)).1).gain), .bool (((M.make g.rules now (M.nth g.moves k)).1).again), .slice A190 (((((M.make g.rules now (M.nth g.moves k)).1).next).pits).length) c190, .slice A191 (((((M.make g.rules now (M.nth g.moves k)).1).next).stores).length) c191, .int .i64 ((((M.make g.rules now (M.nth g.moves k)).1).next).player)]) el_131 rfl rfl rfl rfl (src_row (i := 0) und_131 rfl rfl) (by omega) (by omega) ln2_ (rfl)) (.inr rfl) ?_
      rintro v353 _ _ ⟨⟨g354, rfl⟩, rfl⟩ _
      refine JH.fact (row_form' (i := 7) rfl) (fun hf355 => ?_)
      obtain ⟨A355, c355, rfl, bl355, bh355⟩ := hf355
      refine znh ?_
      refine jA 9 rfl rfl ?_
      refine jA 10 rfl rfl ?_
      refine yd ?_
      exact zm ⟨_, _, _, _, _, _, _, _, _, _, _, _, _, rfl, rfl, zt, zt, zt, zt⟩ (Up.refl _ _)
     refine ybs rfl fun b356 => ?_
     refine y1 4 ?_
     refine JHo.e rfl (e_append (i := 8) (n' := (out ++ [(((M.make g.rules now (M.nth g.moves k)).1).next)]).length) (vs' := vs184_6 ++ [.slice A345_0 (((((M.make g.rules now (M.nth g.moves k)).1).next).pits).length) c345_0, .slice A345_1 (((((M.make g.rules now (M.nth g.moves k)).1).next).stores).length) c345_1, .int .i64 ((((M.make g.rules now (M.nth g.moves k)).1).next).player)]) el_126 rfl rfl rfl rfl (src_row (i := 1) und_126 rfl rfl) (by omega) (by omega) ln2_ (rfl)) (.inr rfl) ?_
     rintro v358 _ _ ⟨⟨g359, rfl⟩, rfl⟩ _
     refine JH.fact (row_form' (i := 8) rfl) (fun hf360 => ?_)
     obtain ⟨A360, c360, rfl, bl360, bh360⟩ := hf360
     refine znh ?_
     refine y1 8 ?_
     refine JHo.e rfl (e_append (i := 7) (n' := (made ++ [((M.make g.rules now (M.nth g.moves k)).1)]).length) (vs' := vs184_7 ++ [.int .i64 (((M.make g.rules now (M.nth g.moves k)).1).move), .int .i64 (((M.make g.rules now (M.nth g.moves k)).1).gain), .bool (((M.make g.rules now (M.nth g.moves k)).1).again), .slice A190 (((((M.make g.rules now (M.nth g.moves k)).1).next).pits).length) c190, .slice A191 (((((M.make g.rules now (M.nth g.moves k)).1).next).stores).length) c191, .int .i64 ((((M.make g.rules now (M.nth g.moves k)).1).next).player)]) el_131 rfl rfl rfl rfl (src_row (i := 0) und_131 rfl rfl) (by omega) (by omega) ln2_ (rfl)) (.inr rfl) ?_
     rintro v361 _ _ ⟨⟨g362, rfl⟩, rfl⟩ _
     refine JH.fact (row_form' (i := 7) rfl) (fun hf363 => ?_)
     obtain ⟨A363, c363, rfl, bl363, bh363⟩ := hf363
     refine znh ?_
     refine jA 9 rfl rfl ?_
     refine jA 10 rfl rfl ?_
     refine yd ?_
     exact zm ⟨_, _, _, _, _, _, _, _, _, _, _, _, _, rfl, rfl, zt, zt, zt, zt⟩ (Up.refl _ _)
    refine ybs rfl fun b364 => ?_
    refine y1 3 ?_
    refine ybs rfl fun b366 => ?_
    refine y1 4 ?_
    refine JHo.e rfl (e_append (i := 8) (n' := (out ++ [(((M.make g.rules now (M.nth g.moves k)).1).next)]).length) (vs' := vs184_6 ++ [.slice A345_0 (((((M.make g.rules now (M.nth g.moves k)).1).next).pits).length) c345_0, .slice A345_1 (((((M.make g.rules now (M.nth g.moves k)).1).next).stores).length) c345_1, .int .i64 ((((M.make g.rules now (M.nth g.moves k)).1).next).player)]) el_126 rfl rfl rfl rfl (src_row (i := 0) und_126 rfl rfl) (by omega) (by omega) ln2_ (rfl)) (.inr rfl) ?_
    rintro v368 _ _ ⟨⟨g369, rfl⟩, rfl⟩ _
    refine JH.fact (row_form' (i := 8) rfl) (fun hf370 => ?_)
    obtain ⟨A370, c370, rfl, bl370, bh370⟩ := hf370
    refine znh ?_
    refine y1 8 ?_
    refine JHo.e rfl (e_append (i := 7) (n' := (made ++ [((M.make g.rules now (M.nth g.moves k)).1)]).length) (vs' := vs184_7 ++ [.int .i64 (((M.make g.rules now (M.nth g.moves k)).1).move), .int .i64 (((M.make g.rules now (M.nth g.moves k)).1).gain), .bool (((M.make g.rules now (M.nth g.moves k)).1).again), .slice A190 (((((M.make g.rules now (M.nth g.moves k)).1).next).pits).length) c190, .slice A191 (((((M.make g.rules now (M.nth g.moves k)).1).next).stores).length) c191, .int .i64 ((((M.make g.rules now (M.nth g.moves k)).1).next).player)]) el_131 rfl rfl rfl rfl (src_row (i := 1) und_131 rfl rfl) (by omega) (by omega) ln2_ (rfl)) (.inr rfl) ?_
    rintro v371 _ _ ⟨⟨g372, rfl⟩, rfl⟩ _
    refine JH.fact (row_form' (i := 7) rfl) (fun hf373 => ?_)
    obtain ⟨A373, c373, rfl, bl373, bh373⟩ := hf373
    refine znh ?_
    refine jA 9 rfl rfl ?_
    refine jA 10 rfl rfl ?_
    refine yd ?_
    refine zh [1, 0, 0, 0, 0, 0, 0, 0, 0, 0] ?_
    exact zm ⟨_, _, _, _, _, _, _, _, _, _, _, _, _, rfl, rfl, zt, zt, zt, zt⟩ (Up.refl _ _)
   refine ybs rfl fun b374 => ?_
   refine y1 2 ?_
   refine ycs rfl rfl (fun w hw => c_impl_Position_copied (((M.make g.rules now (M.nth g.moves k)).1).next) (ok_ hw)) ?_
   intro A376_0 c376_0 bl376_0 bh376_0 A376_1 c376_1 bl376_1 bh376_1 f376
   refine y1 3 ?_
   refine ybs rfl fun b377 => ?_
   refine y1 4 ?_
   refine JHo.e rfl (e_append (i := 8) (n' := (out ++ [(((M.make g.rules now (M.nth g.moves k)).1).next)]).length) (vs' := vs184_6 ++ [.slice A376_0 (((((M.make g.rules now (M.nth g.moves k)).1).next).pits).length) c376_0, .slice A376_1 (((((M.make g.rules now (M.nth g.moves k)).1).next).stores).length) c376_1, .int .i64 ((((M.make g.rules now (M.nth g.moves k)).1).next).player)]) el_126 rfl rfl rfl rfl (src_row (i := 0) und_126 rfl rfl) (by omega) (by omega) ln2_ (rfl)) (.inr rfl) ?_
   rintro v379 _ _ ⟨⟨g380, rfl⟩, rfl⟩ _
   refine JH.fact (row_form' (i := 8) rfl) (fun hf381 => ?_)
   obtain ⟨A381, c381, rfl, bl381, bh381⟩ := hf381
   refine znh ?_
   refine y1 8 ?_
   refine JHo.e rfl (e_append (i := 7) (n' := (made ++ [((M.make g.rules now (M.nth g.moves k)).1)]).length) (vs' := vs184_7 ++ [.int .i64 (((M.make g.rules now (M.nth g.moves k)).1).move), .int .i64 (((M.make g.rules now (M.nth g.moves k)).1).gain), .bool (((M.make g.rules now (M.nth g.moves k)).1).again), .slice A190 (((((M.make g.rules now (M.nth g.moves k)).1).next).pits).length) c190, .slice A191 (((((M.make g.rules now (M.nth g.moves k)).1).next).stores).length) c191, .int .i64 ((((M.make g.rules now (M.nth g.moves k)).1).next).player)]) el_131 rfl rfl rfl rfl (src_row (i := 2) und_131 rfl rfl) (by omega) (by omega) ln2_ (rfl)) (.inr rfl) ?_
   rintro v382 _ _ ⟨⟨g383, rfl⟩, rfl⟩ _
   refine JH.fact (row_form' (i := 7) rfl) (fun hf384 => ?_)
   obtain ⟨A384, c384, rfl, bl384, bh384⟩ := hf384
   refine znh ?_
   refine jA 9 rfl rfl ?_
   refine jA 10 rfl rfl ?_
   refine yd ?_
   refine zh [2, 0, 0, 0, 0, 0, 0, 0, 0, 0] ?_
   exact zm ⟨_, _, _, _, _, _, _, _, _, _, _, _, _, rfl, rfl, zt, zt, zt, zt⟩ (Up.refl _ _)
  rintro _ _ u289 ⟨A199, c199, A204, c204, b200, b195, A194_0, c194_0, A194_1, c194_1, f194, g203, g198, rfl, rfl, f289_0, f289_1, f289_2, f289_3⟩ x289
  refine zn ?_
  refine Js.joinL (i := 5) (j := 2) (Vs := lPosition (out ++ [(((M.make g.rules now (M.nth g.moves k)).1).next)])) rfl rfl (lPosition_snoc _ _) (fun f386 => ?_)
  refine zn ?_
  refine Js.vals (Ts := cResultL ((M.make g.rules now (M.nth g.moves k)).1)) (vs := [.int .i64 (((M.make g.rules now (M.nth g.moves k)).1).move), .int .i64 (((M.make g.rules now (M.nth g.moves k)).1).gain), .bool (((M.make g.rules now (M.nth g.moves k)).1).again), .slice A190 (((((M.make g.rules now (M.nth g.moves k)).1).next).pits).length) c190, .slice A191 (((((M.make g.rules now (M.nth g.moves k)).1).next).stores).length) c191, .int .i64 ((((M.make g.rules now (M.nth g.moves k)).1).next).player)]) (fun w => ⟨[], [], rfl, ⟨rfl, rfl⟩, ⟨[], [], rfl, ⟨rfl, rfl⟩, ⟨[], [], rfl, ⟨rfl, rfl⟩, ⟨[], [], rfl, ⟨rfl, rfl⟩, ⟨[], [], rfl, ⟨rfl, rfl⟩, ⟨[], [], rfl, ⟨rfl, rfl⟩, rfl⟩⟩⟩⟩⟩⟩) ?_
  refine Js.joinL (i := 5) (j := 0) (Vs := lResultL (made ++ [((M.make g.rules now (M.nth g.moves k)).1)])) rfl rfl (lResultL_snoc _ _) (fun f388 => ?_)
  refine zn ?_
  refine Js.blockEnd <| Js.region <| Qp rfl rfl <| Qm rfl <| JL.nil ?_
  refine zd [0, 0, 3, 3, 3, 3] rfl fun u389 x389 => ?_
  exact zag ⟨k + 1, (((M.make g.rules now (M.nth g.moves k)).1).next), out ++ [(((M.make g.rules now (M.nth g.moves k)).1).next)], made ++ [((M.make g.rules now (M.nth g.moves k)).1)], _, _, _, _, _, _, _, _, _, _, _, _, _, _, rfl, rfl, by exact hR2, by rw [hO]; exact (M.hist_snoc _ _ _).symm, by exact hl2.1, by exact hl2.2, zu, zu, zu, zu, (Ty.mono _ h190 (x289.vis.trans x389.vis)), zu, zu, (Ty.mono _ h191 (x289.vis.trans x389.vis)), zu, zu, rfl⟩ (((x184.trans x189).trans x289).trans x389)
 obtain ⟨hP1, hP2, hP3⟩ := hR.played (by omega)
 rw [← hO] at hP2
 refine zx ?_
 have hq0 : out = M.playedP g := by first | exact hP1.symm | exact congrArg Value.bool hP1.symm | exact hP2.symm | exact hP3.symm
 have hq1 : made = M.playedR g := by first | exact hP1.symm | exact congrArg Value.bool hP1.symm | exact hP2.symm | exact hP3.symm
 have hq2 : true = M.playedOk g := by first | exact hP1.symm | exact congrArg Value.bool hP1.symm | exact hP2.symm | exact hP3.symm
 refine zS <| Qm rfl <| Qm rfl <| Qa rfl <| Qa rfl <| Qa rfl <| JL.nil ?_
 exact zro (x95.trans x184)
theorem c_impl_ValidGame (g : M.Gam) {v_g : Value} {w : World} (h_g : (Ty.agg (cGame g)).ok w v_g) (r0 : g.start.pits.length ≤ 4194304 := by exact om_) (r1 : g.start.stores.length ≤ 4194304 := by exact om_) (r2 : g.moves.length ≤ 4194304 := by exact om_) (r3 : g.now.pits.length ≤ 4194304 := by exact om_) (r4 : g.now.stores.length ≤ 4194304 := by exact om_) : RetV Tryz.prog 86 [v_g] w (.bool (M.okG g)) := by
 revert v_g; apply opn
 intro A1 c1 h1 bl1 bh1 A2 c2 h2 bl2 bh2 A3 c3 h3 bl3 bh3 A4 c4 h4 bl4 bh4 A5 c5 h5 bl5 bh5
 refine enter @Tryz.func86 @Tryz.ntmps86 rfl rfl ?_
 refine zent ?_
 refine zS <| zb rfl fun b6 => Qa rfl <| zJ <| zS <| Qf fh rfl <| Q9 0 rfl rfl ?_
 refine Qf fh rfl <| Q9 0 rfl rfl ?_
 refine zv rfl (fun w hw => c_impl_ValidPosition g.rules g.start (ok_ hw) (ok_ hw)) <| Qt rfl <| Qm rfl <| zg (Gd.f1 rfl rfl rfl) (fun hc => p_fieldAddr fld_56_2.h rfl) <| zgq (Gd.f1 rfl rfl rfl) (fun hc => q_load1 ty_27.h (gh hc rfl) (Mem.box (i := 0) rfl rfl)) <| zg (Gd.f1 rfl rfl rfl) (fun hc => p_len el_27 (gh hc rfl)) <| zg (Gd.f1 rfl rfl rfl) (fun hc => p_gtr (gh hc rfl) rfl) <| Qq (p_pickOr rfl rfl rfl) <| Qm rfl <| zg (Gd.f1 rfl rfl rfl) (fun hc => p_fieldAddr fld_56_4.h rfl) <| zgq (Gd.f1 rfl rfl rfl) (fun hc => q_load1 ty_2.h (gh hc rfl) (Mem.box (i := 0) rfl rfl)) <| zgv (Gd.f1 rfl rfl rfl) (fun hc => (opds_3 (gh hc rfl) rfl rfl)) (fun hc => (fun w hw => c_impl_between g.resigned (-1) 1)) ?_
 refine zg (Gd.f1 rfl rfl rfl) (fun hc => p_not (gh hc rfl)) <| Qq (p_pickOr rfl rfl rfl) <| JL.nil ?_
 refine zi (fun h7 h7' => ?_) fun h7 h7' => ?_
 ·
  refine zS <| Qa rfl <| JL.nil ?_
  refine zR (Up.refl _ _) ?_
  exact congrArg (fun b => Ending.returned (.bool b)) (M.okG_no (by simpa [or_assoc] using h7)).symm
 have ho : M.okP g.rules g.start = true ∧ (g.moves.length : Int) ≤ 120 ∧ M.betw g.resigned (-1) 1 = true := by simpa [and_assoc] using h7
 refine Js.skip <| zS <| Q9 0 rfl rfl ?_
 refine zp rfl (fun w hw => c_impl_Game_played g (ok_ hw)) ?_
 intro u8 x8 A9 c9 h9 bl9 bh9 A10 c10 h10 bl10 bh10
 refine Qm rfl <| Qx rfl rfl <| Qx rfl rfl <| Qx rfl rfl <| Qa rfl <| Qa rfl <| Qa rfl <| zJ ?_
 rcases Bool.eq_false_or_eq_true (M.playedOk g) with h11 | h11
 ·
  obtain ⟨hl1, hl2⟩ := M.playedP_len h11
  have hl3 := M.okP_len (M.lastPos_ok _ _ ho.1 (M.runs_ok g.moves _ ho.1))
  refine zdr [] ?_
  refine jM 0 rfl rfl ?_
  refine jM 1 rfl rfl ?_
  refine JH.pgT 2 rfl (Gd.t1 rfl rfl rfl) (show (M.playedOk g) = true by first | exact h11 | (rw [h11]; rfl) | simp [h11]) (p_move rfl) ?_
  refine JH.pgT 3 rfl (Gd.t1 rfl rfl rfl) (show (M.playedOk g) = true by first | exact h11 | (rw [h11]; rfl) | simp [h11]) (p_move rfl) ?_
  refine JH.pgT 4 rfl (Gd.t1 rfl rfl rfl) (show (M.playedOk g) = true by first | exact h11 | (rw [h11]; rfl) | simp [h11]) (p_len el_126 rfl) ?_
  refine JH.pgT 5 rfl (Gd.t1 rfl rfl rfl) (show (M.playedOk g) = true by first | exact h11 | (rw [h11]; rfl) | simp [h11]) (p_sub rfl rfl (IntWalk.i64_in _ (by omega))) ?_
  obtain ⟨y12, hy12⟩ : ∃ x, (M.playedP g)[((((M.playedP g).length) : Int) - 1).toNat]? = some x := ⟨_, List.getElem?_eq_getElem (by omega)⟩
  obtain ⟨b12, o12, A12_0, c12_0, A12_1, c12_1, he12, hr12, h12_0, h12_1, bl12_0, bh12_0, bl12_1, bh12_1⟩ := elem_Position h9 hy12
  refine JH.pgT 6 rfl (Gd.t1 rfl rfl rfl) (show (M.playedOk g) = true by first | exact h11 | (rw [h11]; rfl) | simp [h11]) (p_indexAddr el_126 rfl rfl (by omega) (by omega) he12) ?_
  refine JH.wgT 7 rfl (Gd.t1 rfl rfl rfl) (show (M.playedOk g) = true by first | exact h11 | (rw [h11]; rfl) | simp [h11]) (fun os' u' hv => LS 0 (hr12.vis hv) rfl) ?_
  refine JH.pgT 8 rfl (Gd.t1 rfl rfl rfl) (show (M.playedOk g) = true by first | exact h11 | (rw [h11]; rfl) | simp [h11]) (p_fieldAddr fld_56_3.h rfl) ?_
  refine JH.qgT 9 rfl (Gd.t1 rfl rfl rfl) (show (M.playedOk g) = true by first | exact h11 | (rw [h11]; rfl) | simp [h11]) (L9 0 rfl rfl) ?_
  refine y1 10 ?_
  refine yvT rfl (Gd.t1 rfl rfl rfl) (show (M.playedOk g) = true by first | exact h11 | (rw [h11]; rfl) | simp [h11]) rfl (fun w hw => c_impl_SamePosition y12 g.now (ok_ hw) (ok_ hw) (r0 := (M.last_len hl2 hy12 (by omega) hl3).1) (r1 := (M.last_len hl2 hy12 (by omega) hl3).2)) ?_
  refine JH.p 11 rfl (p_pickAnd2 rfl rfl rfl) ?_
  refine jA 12 rfl rfl ?_
  refine yd ?_
  refine zR x8 ?_
  first | (simp only [outV]; rw [M.okG_yes ho.1 ho.2.1 ho.2.2 (by assumption) (by assumption) (by omega)]; simp [*]; done) | (simp only [outV]; rw [M.okG_broken (by assumption)]; simp [*]; done)
 have hl3 := M.okP_len (M.lastPos_ok _ _ ho.1 (M.runs_ok g.moves _ ho.1))
 refine zdr [] ?_
 refine jM 0 rfl rfl ?_
 refine jM 1 rfl rfl ?_
 refine jU 2 rfl (Gd.t1 rfl rfl rfl) h11 ?_
 refine jU 3 rfl (Gd.t1 rfl rfl rfl) h11 ?_
 refine jU 4 rfl (Gd.t1 rfl rfl rfl) h11 ?_
 refine jU 5 rfl (Gd.t1 rfl rfl rfl) h11 ?_
 refine jU 6 rfl (Gd.t1 rfl rfl rfl) h11 ?_
 refine jU 7 rfl (Gd.t1 rfl rfl rfl) h11 ?_
 refine jU 8 rfl (Gd.t1 rfl rfl rfl) h11 ?_
 refine jU 9 rfl (Gd.t1 rfl rfl rfl) h11 ?_
 refine y1 10 ?_
 refine JHo.qg (v := .bool false) rfl (Gd.t1 rfl rfl rfl) (fun hc => absurd hc (by first | (rw [h11]; simp; done) | simp [h11])) ?_
 refine JH.p 11 rfl (p_pickAnd rfl rfl rfl) ?_
 refine jA 12 rfl rfl ?_
 refine yd ?_
 refine zR x8 ?_
 first | (simp only [outV]; rw [M.okG_yes ho.1 ho.2.1 ho.2.2 (by assumption) (by assumption) (by omega)]; simp [*]; done) | (simp only [outV]; rw [M.okG_broken (by assumption)]; simp [*]; done)
theorem c_impl_repeats (list : List M.Pos) {v_list : Value} (p : M.Pos) {v_p : Value} {w : World} (h_list : (Ty.sl 39 3 list.length (lPosition list)).ok w v_list) (h_p : (Ty.agg (cPosition p)).ok w v_p) (r0 : list.length ≤ 4194304 := by exact om_) (r1 : ∀ (k : Nat) (q : M.Pos), list[k]? = some q → q.pits.length ≤ 4194304 ∧ q.stores.length ≤ 4194304 := by exact om_) (r2 : p.pits.length ≤ 4194304 := by exact om_) (r3 : p.stores.length ≤ 4194304 := by exact om_) : RetV Tryz.prog 194 [v_list, v_p] w (.int .i64 (M.count p list)) := by
 revert v_list; apply opn
 intro A1 c1 h1 bl1 bh1
 have h_list := h1
 revert v_p; apply opn
 intro A2 c2 h2 bl2 bh2 A3 c3 h3 bl3 bh3
 refine enter @Tryz.func194 @Tryz.ntmps194 rfl rfl ?_
 refine zent ?_
 refine zS <| zb rfl fun b4 => Qa rfl <| zN <| Qa rfl <| zJ <| zS <| Qm rfl <| Qz rfl <| Qm rfl <| JL.nil <| Js.block ?_
 refine zl [3, 8, 9] (fun F U l os u m => ∃ (k : Nat) (n : Int), l = F [(5, .int .i64 n), (10, .int .i64 (k : Int))] ∧ os = U [] ∧ (n = M.count p (list.take k)) ∧ (k ≤ list.length) ∧ (0 ≤ n) ∧ (n ≤ k) ∧ m = list.length - k) ⟨0, 0, rfl, rfl, by rfl, zt, zt, zt, rfl⟩ ?_
 rintro _ _ u5 _ ⟨k, n, rfl, rfl, hn, hk, n0, n1, rfl⟩ x5
 refine zn ?_
 refine zS <| Ql rfl rfl <| zJ ?_
 refine zi (fun h6 h6' => ?_) fun h6 h6' => ?_
 ·
  obtain ⟨y7, hy7⟩ : ∃ x, list[k]? = some x := ⟨_, List.getElem?_eq_getElem (by omega)⟩
  obtain ⟨b7, o7, A7_0, c7_0, A7_1, c7_1, he7, hr7, h7_0, h7_1, bl7_0, bh7_0, bl7_1, bh7_1⟩ := elem_Position (Ty.mono _ h1 x5.vis) hy7
  have hlq := r1 _ _ hy7
  refine Js.skip <| Js.seq <| Js.block <| zS <| Qq (p_indexAddr el_126 rfl rfl (by omega) (by omega) he7) <| QS 0 hr7 rfl ?_
  refine za zeh fun b8 => zw 0 rfl rfl rfl ?_
  refine zN <| Q9 0 rfl rfl ?_
  refine Q9 1 rfl rfl ?_
  refine zv rfl (fun w hw => c_impl_SamePosition y7 p (ok_ hw) (ok_ hw)) <| JL.nil ?_
  refine zi (fun h9 h9' => ?_) fun h9 h9' => ?_
  ·
   have hs : M.sameP _ p = true := h9
   refine Js.region <| Qm rfl <| Qp rfl rfl <| Qa rfl <| JL.nil <| Js.blockEnd <| Js.region <| Qp rfl rfl <| Qm rfl <| JL.nil ?_
   refine zd [1] rfl fun u10 x10 => ?_
   exact zag ⟨k + 1, n + 1, rfl, rfl, by rw [M.count_step (by assumption)]; simp [hs, hn], zt, zt, zt, rfl⟩ (x5.trans x10)
  have hs : M.sameP _ p = false := h9
  refine Js.skip <| Js.blockEnd <| Js.region <| Qp rfl rfl <| Qm rfl <| JL.nil ?_
  refine zd [1] rfl fun u11 x11 => ?_
  exact zag ⟨k + 1, n, rfl, rfl, by rw [M.count_step (by assumption)]; simp [hs, hn], zt, zt, zt, rfl⟩ (x5.trans x11)
 have hE : n = M.count p list := by rw [hn, List.take_of_length_le (by omega)]
 refine zx ?_
 refine zS <| Qm rfl <| Qa rfl <| JL.nil ?_
 refine zR x5 ?_
 rw [hE]; rfl
theorem c_impl_majority (p : M.Pos) {v_p : Value} {w : World} (h_p : (Ty.agg (cPosition p)).ok w v_p) (r0 : p.pits.length ≤ 4194304 := by exact om_) (r1 : p.stores.length = 2 := by exact om_) (r2 : M.sumV p.pits + M.sumV p.stores = M.all p := by exact om_) (r3 : ∀ k : Int, 0 ≤ M.getI p.stores k ∧ M.getI p.stores k ≤ 96 := by exact om_) : RetV Tryz.prog 193 [v_p] w (.int .i64 (M.majority p)) := by
 revert v_p; apply opn
 intro A1 c1 h1 bl1 bh1 A2 c2 h2 bl2 bh2
 refine enter @Tryz.func193 @Tryz.ntmps193 rfl rfl ?_
 refine zent ?_
 refine zS <| zb rfl fun b3 => Qa rfl <| zJ <| zS <| Qf fh rfl <| Q0 0 rfl rfl rfl <| Qz rfl <| Qm rfl <| JL.nil <| Js.block ?_
 refine zl [1, 6, 7] (fun F U l os u m => ∃ (k : Nat), l = F [(8, .int .i64 (k : Int))] ∧ os = U [] ∧ (k ≤ 2) ∧ (M.noMaj p (k : Int)) ∧ m = 2 - k) ⟨0, rfl, rfl, zt, by exact M.noMaj_zero p, rfl⟩ ?_
 rintro _ _ u4 _ ⟨k, rfl, rfl, hk, hN, rfl⟩ x4
 refine zn ?_
 have hv := r3 (k : Int)
 rw [M.nth_getI] at hv
 refine zS <| Ql rfl rfl <| zJ ?_
 refine zi (fun h5 h5' => ?_) fun h5 h5' => ?_
 ·
  obtain ⟨b6, o6, he6, hc6⟩ := ints_elem (Ty.mono _ h2 x4.vis) (i := k) (by omega)
  refine Js.skip <| Js.seq <| Js.block <| zS <| Qm rfl <| Qq (p_indexAddr el_27 rfl rfl (by omega) (by omega) he6) <| QC hc6 rfl <| Qa rfl <| Qa rfl <| zN <| Qm rfl <| Qu rfl rfl <| Q9 0 rfl rfl ?_
  refine zv rfl (fun w hw => c_impl_Position_all p (ok_ hw)) <| Qg rfl rfl <| JL.nil ?_
  refine zi (fun h7 h7' => ?_) fun h7 h7' => ?_
  ·
   have hj : M.all p < 2 * M.getI p.stores (k : Int) := by rw [M.nth_getI, ← r2]; simpa using h7
   have hE := M.majority_at hN (by omega) (by omega) hj
   refine zS <| Qm rfl <| Qa rfl <| JL.nil ?_
   refine zR x4 ?_
   rw [hE]; rfl
  have hj : ¬ M.all p < 2 * M.getI p.stores (k : Int) := by rw [M.nth_getI, ← r2]; simpa using h7
  refine Js.skip <| Js.blockEnd <| Js.region <| Qp rfl rfl <| Qm rfl <| JL.nil ?_
  exact zag ⟨k + 1, rfl, rfl, zt, by exact M.noMaj_step hN hj, rfl⟩ x4
 have hE := M.majority_no hN (by have := h5'; omega)
 refine zx ?_
 refine zS <| Qa rfl <| JL.nil ?_
 refine zR x4 ?_
 rw [hE]; rfl
theorem c_impl_Rules_settled (r : M.Rul) {v_r : Value} (p : M.Pos) {v_p : Value} {w : World} (h_r : (Ty.agg (cRules r)).ok w v_r) (h_p : (Ty.agg (cPosition p)).ok w v_p) (r0 : M.okP r p = true := by exact om_) : Ret Tryz.prog 176 [v_r, v_p] w (Ty.agg (cPosition (M.settle r p))) := by
 obtain ⟨g1, g2, g3, g4, g5, g6, g7⟩ := M.okP_bd r0
 revert v_r; apply opn
 revert v_p; apply opn
 intro A1 c1 h1 bl1 bh1 A2 c2 h2 bl2 bh2
 refine enter @Tryz.func176 @Tryz.ntmps176 rfl rfl ?_
 refine zent ?_
 refine zS <| zb rfl fun b3 => zb rfl fun b4 => za zeh fun b5 => zJ ?_
 refine zk [2, 3, 4] (fun F U l os u => ∃ (b8 b6 : Nat) (A7 : Option Addr) (c7 : Nat), l = F [(5, .pointer (some ⟨b8, 0, none⟩))] ∧ os = [boxO b8 [.slice (some ⟨b6, 0, none⟩) p.pits.length p.pits.length, .slice A7 p.stores.length c7, .int .i64 p.player] 39, rowO 2 1 (.slice A7 p.stores.length c7) p.stores.length (ints_ p.stores) [], rowO 2 1 (.slice (some ⟨b6, 0, none⟩) p.pits.length p.pits.length) p.pits.length (ints_ (List.replicate p.pits.length 0)) []] ++ U [] ∧ (p.stores.length ≤ c7) ∧ (c7 ≤ 9223372036854775807)) ?_ ?_
 ·
  refine zdr [11] ?_
  refine jF 0 fld_39_0 rfl rfl ?_
  refine jB 1 1 ty_27 rfl rfl rfl rfl ?_
  refine JH.p 2 rfl (p_len el_27 rfl) ?_
  refine jF 4 fld_39_1 rfl rfl ?_
  refine jB 5 1 ty_27 rfl rfl rfl rfl ?_
  refine jF 7 fld_39_2 rfl rfl ?_
  refine jB 8 1 ty_2 rfl rfl rfl rfl ?_
  refine y3 3 6 10 ?_ ?_ ?_
  ·
   refine JHo.e rfl (e_makeI (m := p.pits.length) el_27 rfl rfl rfl (by omega) (by omega)) (.inl rfl) ?_
   rintro _ _ _ ⟨b22, rfl, rfl, rfl⟩ _
   refine znh ?_
   refine y2 6 10 ?_ ?_
   ·
    refine ycs rfl rfl (fun w hw => c_impl_copyNumbers p.stores (ok_ hw)) ?_
    intro A23 c23 bl23 bh23
    refine JH.p 9 rfl (q_bld) ?_
    refine y1 10 ?_
    refine ya rfl fun b24 => ?_
    refine y1 11 ?_
    refine yst rfl rfl rfl ?_
    refine yd ?_
    exact zm ⟨_, _, _, _, rfl, rfl, zt, zt⟩ (Up.refl _ _)
   refine ya rfl fun b25 => ?_
   refine y1 6 ?_
   refine ycs rfl rfl (fun w hw => c_impl_copyNumbers p.stores (ok_ hw)) ?_
   intro A26 c26 bl26 bh26
   refine JH.p 9 rfl (q_bld) ?_
   refine y1 11 ?_
   refine yst rfl rfl rfl ?_
   refine yd ?_
   refine zh [1, 0, 0, 0, 0, 0] ?_
   exact zm ⟨_, _, _, _, rfl, rfl, zt, zt⟩ (Up.refl _ _)
  ·
   refine ycs rfl rfl (fun w hw => c_impl_copyNumbers p.stores (ok_ hw)) ?_
   intro A27 c27 bl27 bh27
   refine y2 3 10 ?_ ?_
   ·
    refine JHo.e rfl (e_makeI (m := p.pits.length) el_27 rfl rfl rfl (by omega) (by omega)) (.inl rfl) ?_
    rintro _ _ _ ⟨b28, rfl, rfl, rfl⟩ _
    refine znh ?_
    refine JH.p 9 rfl (q_bld) ?_
    refine y1 10 ?_
    refine ya rfl fun b29 => ?_
    refine y1 11 ?_
    refine yst rfl rfl rfl ?_
    refine yd ?_
    refine zh [0, 1, 0, 0, 0, 0] ?_
    exact zm ⟨_, _, _, _, rfl, rfl, zt, zt⟩ (Up.refl _ _)
   refine ya rfl fun b30 => ?_
   refine y1 3 ?_
   refine JHo.e rfl (e_makeI (m := p.pits.length) el_27 rfl rfl rfl (by omega) (by omega)) (.inl rfl) ?_
   rintro _ _ _ ⟨b31, rfl, rfl, rfl⟩ _
   refine znh ?_
   refine JH.p 9 rfl (q_bld) ?_
   refine y1 11 ?_
   refine yst rfl rfl rfl ?_
   refine yd ?_
   refine zh [1, 1, 0, 0, 0, 0] ?_
   exact zm ⟨_, _, _, _, rfl, rfl, zt, zt⟩ (Up.refl _ _)
  refine ya rfl fun b32 => ?_
  refine y2 3 6 ?_ ?_
  ·
   refine JHo.e rfl (e_makeI (m := p.pits.length) el_27 rfl rfl rfl (by omega) (by omega)) (.inl rfl) ?_
   rintro _ _ _ ⟨b33, rfl, rfl, rfl⟩ _
   refine znh ?_
   refine y1 6 ?_
   refine ycs rfl rfl (fun w hw => c_impl_copyNumbers p.stores (ok_ hw)) ?_
   intro A34 c34 bl34 bh34
   refine JH.p 9 rfl (q_bld) ?_
   refine y1 11 ?_
   refine yst rfl rfl rfl ?_
   refine yd ?_
   refine zh [2, 0, 0, 0, 0, 0] ?_
   exact zm ⟨_, _, _, _, rfl, rfl, zt, zt⟩ (Up.refl _ _)
  refine ycs rfl rfl (fun w hw => c_impl_copyNumbers p.stores (ok_ hw)) ?_
  intro A35 c35 bl35 bh35
  refine y1 3 ?_
  refine JHo.e rfl (e_makeI (m := p.pits.length) el_27 rfl rfl rfl (by omega) (by omega)) (.inl rfl) ?_
  rintro _ _ _ ⟨b36, rfl, rfl, rfl⟩ _
  refine znh ?_
  refine JH.p 9 rfl (q_bld) ?_
  refine y1 11 ?_
  refine yst rfl rfl rfl ?_
  refine yd ?_
  refine zh [2, 1, 0, 0, 0, 0] ?_
  exact zm ⟨_, _, _, _, rfl, rfl, zt, zt⟩ (Up.refl _ _)
 rintro _ _ u21 ⟨b8, b6, A7, c7, rfl, rfl, f21_0, f21_1⟩ x21
 refine zn ?_
 refine Js.seq <| zS <| Qm rfl <| JL.nil <| Js.block ?_
 refine zl [2, 3, 4, 5] (fun F U l os u m => ∃ (k : Nat) (ss : List Int), l = F [(17, .int .i64 (k : Int))] ∧ os = U [nO, some (rowO 2 1 (.slice A7 p.stores.length c7) p.stores.length (ints_ ss) [])] ∧ (ss = M.setT r p k) ∧ (k ≤ 2) ∧ (ss.length = p.stores.length) ∧ m = 2 - k) ⟨0, p.stores, rfl, rfl, by rfl, zt, by rfl, rfl⟩ ?_
 rintro _ _ u37 _ ⟨k, ss, rfl, rfl, hX, hk, hl, rfl⟩ x37
 refine zn ?_
 have hv := M.setT_bd r0 k (k : Int)
 rw [← hX, M.nth_getI] at hv
 have hw9 := M.side_bd g5 g2 (k : Int)
 refine zS <| Ql rfl rfl <| zJ ?_
 refine zi (fun h38 h38' => ?_) fun h38 h38' => ?_
 ·
  refine Js.skip <| Js.seq <| Js.block <| zS <| Qm rfl <| Qa rfl <| JL.nil ?_
  refine zdr [12] ?_
  refine jF 0 fld_39_1 rfl rfl ?_
  refine jB 1 0 ty_27 rfl rfl rfl rfl ?_
  refine jM 2 rfl rfl ?_
  refine JH.fact (row_some (i := 1) rfl (by omega)) (fun hf40 => ?_)
  obtain ⟨b40, rfl⟩ := hf40
  refine jI 3 el_27 rfl rfl rfl rfl ?_
  refine JH.q 4 rfl (q_load1 ty_2.h rfl (Mem.row (i := 1) rfl (ints_get (i := k) (by omega)))) ?_
  refine JH.q 5 rfl (L9 5 rfl rfl) ?_
  refine jF 6 fld_39_0 rfl rfl ?_
  refine jB 7 4 ty_27 rfl rfl rfl rfl ?_
  refine jM 8 rfl rfl ?_
  refine y1 9 ?_
  refine yv rfl rfl (fun w hw => c_impl_Rules_side r p.pits (k : Int) (ok_ hw) (ok_ hw) (r4 := g5)) ?_
  refine JH.p 10 rfl (p_add rfl rfl (IntWalk.i64_in _ (by omega))) ?_
  refine jI 11 el_27 rfl rfl rfl rfl ?_
  refine y1 12 ?_
  refine JHo.s rfl (e_storeRow (i := 1) (xs' := ints_ (ss.set k ((M.nth ss k) + (M.side r p.pits (k : Int))))) ty_2.h rfl rfl rfl rfl rfl rfl (ints_lt (i := k) (by omega)) (ints_setL (i := k) (by omega))) (.inr rfl) ?_
  rintro _ _ _ ⟨rfl, rfl⟩ _
  refine znh ?_
  refine yd ?_
  refine Js.blockEnd <| Js.region <| Qp rfl rfl <| Qm rfl <| JL.nil ?_
  exact zag ⟨k + 1, ss.set k ((M.nth ss k) + (M.side r p.pits (k : Int))), rfl, rfl, by rw [hX]; simp [M.setT, M.setI, M.getI], zt, by rw [List.length_set]; exact hl, rfl⟩ x37
 have hE : ss = (M.settle r p).stores := by rw [hX, show k = 2 by have := h38'; omega]; rfl
 refine zx ?_
 have hq0 : (List.replicate p.pits.length 0) = (M.settle r p).pits := by first | exact hE | rfl
 have hq1 : ss = (M.settle r p).stores := by first | exact hE | rfl
 have hq2 : p.player = (M.settle r p).player := by first | exact hE | rfl
 refine zS <| Q9 0 rfl rfl ?_
 refine zw 3 rfl rfl rfl ?_
 refine JL.nil ?_
 exact zro (x21.trans x37)
theorem c_impl_Rules_given (r : M.Rul) {v_r : Value} (p : M.Pos) {v_p : Value} (player : Int) {w : World} (h_r : (Ty.agg (cRules r)).ok w v_r) (h_p : (Ty.agg (cPosition p)).ok w v_p) (r0 : M.okP r p = true := by exact om_) (r1 : player = 0 ∨ player = 1 := by exact om_) : Ret Tryz.prog 175 [v_r, v_p, .int .i64 player] w (Ty.agg (cPosition (M.give p player))) := by
 obtain ⟨g1, g2, g3, g4, g5, g6, g7⟩ := M.okP_bd r0
 have hv0 := M.side_bd g5 g2 0
 have hv1 := M.side_bd g5 g2 1
 have hv2 := M.allOk_getI g6 player
 have hsa := M.side_all (r := r) (ps := p.pits) (by omega) g3
 revert v_r; apply opn
 revert v_p; apply opn
 intro A1 c1 h1 bl1 bh1 A2 c2 h2 bl2 bh2
 refine enter @Tryz.func175 @Tryz.ntmps175 rfl rfl ?_
 refine zent ?_
 refine zS <| zb rfl fun b3 => zb rfl fun b4 => za zeh fun b5 => zJ ?_
 refine zk [2, 3, 4, 6] (fun F U l os u => ∃ (b8 b6 : Nat) (A7 : Option Addr) (c7 : Nat), l = F [(7, .pointer (some ⟨b8, 0, none⟩))] ∧ os = [boxO b8 [.slice (some ⟨b6, 0, none⟩) p.pits.length p.pits.length, .slice A7 p.stores.length c7, .int .i64 p.player] 39, rowO 2 1 (.slice A7 p.stores.length c7) p.stores.length (ints_ p.stores) [], rowO 2 1 (.slice (some ⟨b6, 0, none⟩) p.pits.length p.pits.length) p.pits.length (ints_ (List.replicate p.pits.length 0)) []] ++ U [] ∧ (p.stores.length ≤ c7) ∧ (c7 ≤ 9223372036854775807)) ?_ ?_
 ·
  refine zdr [11] ?_
  refine jF 0 fld_39_0 rfl rfl ?_
  refine jB 1 1 ty_27 rfl rfl rfl rfl ?_
  refine JH.p 2 rfl (p_len el_27 rfl) ?_
  refine jF 4 fld_39_1 rfl rfl ?_
  refine jB 5 1 ty_27 rfl rfl rfl rfl ?_
  refine jF 7 fld_39_2 rfl rfl ?_
  refine jB 8 1 ty_2 rfl rfl rfl rfl ?_
  refine y3 3 6 10 ?_ ?_ ?_
  ·
   refine JHo.e rfl (e_makeI (m := p.pits.length) el_27 rfl rfl rfl (by omega) (by omega)) (.inl rfl) ?_
   rintro _ _ _ ⟨b22, rfl, rfl, rfl⟩ _
   refine znh ?_
   refine y2 6 10 ?_ ?_
   ·
    refine ycs rfl rfl (fun w hw => c_impl_copyNumbers p.stores (ok_ hw)) ?_
    intro A23 c23 bl23 bh23
    refine JH.p 9 rfl (q_bld) ?_
    refine y1 10 ?_
    refine ya rfl fun b24 => ?_
    refine y1 11 ?_
    refine yst rfl rfl rfl ?_
    refine yd ?_
    exact zm ⟨_, _, _, _, rfl, rfl, zt, zt⟩ (Up.refl _ _)
   refine ya rfl fun b25 => ?_
   refine y1 6 ?_
   refine ycs rfl rfl (fun w hw => c_impl_copyNumbers p.stores (ok_ hw)) ?_
   intro A26 c26 bl26 bh26
   refine JH.p 9 rfl (q_bld) ?_
   refine y1 11 ?_
   refine yst rfl rfl rfl ?_
   refine yd ?_
   refine zh [1, 0, 0, 0, 0, 0] ?_
   exact zm ⟨_, _, _, _, rfl, rfl, zt, zt⟩ (Up.refl _ _)
  ·
   refine ycs rfl rfl (fun w hw => c_impl_copyNumbers p.stores (ok_ hw)) ?_
   intro A27 c27 bl27 bh27
   refine y2 3 10 ?_ ?_
   ·
    refine JHo.e rfl (e_makeI (m := p.pits.length) el_27 rfl rfl rfl (by omega) (by omega)) (.inl rfl) ?_
    rintro _ _ _ ⟨b28, rfl, rfl, rfl⟩ _
    refine znh ?_
    refine JH.p 9 rfl (q_bld) ?_
    refine y1 10 ?_
    refine ya rfl fun b29 => ?_
    refine y1 11 ?_
    refine yst rfl rfl rfl ?_
    refine yd ?_
    refine zh [0, 1, 0, 0, 0, 0] ?_
    exact zm ⟨_, _, _, _, rfl, rfl, zt, zt⟩ (Up.refl _ _)
   refine ya rfl fun b30 => ?_
   refine y1 3 ?_
   refine JHo.e rfl (e_makeI (m := p.pits.length) el_27 rfl rfl rfl (by omega) (by omega)) (.inl rfl) ?_
   rintro _ _ _ ⟨b31, rfl, rfl, rfl⟩ _
   refine znh ?_
   refine JH.p 9 rfl (q_bld) ?_
   refine y1 11 ?_
   refine yst rfl rfl rfl ?_
   refine yd ?_
   refine zh [1, 1, 0, 0, 0, 0] ?_
   exact zm ⟨_, _, _, _, rfl, rfl, zt, zt⟩ (Up.refl _ _)
  refine ya rfl fun b32 => ?_
  refine y2 3 6 ?_ ?_
  ·
   refine JHo.e rfl (e_makeI (m := p.pits.length) el_27 rfl rfl rfl (by omega) (by omega)) (.inl rfl) ?_
   rintro _ _ _ ⟨b33, rfl, rfl, rfl⟩ _
   refine znh ?_
   refine y1 6 ?_
   refine ycs rfl rfl (fun w hw => c_impl_copyNumbers p.stores (ok_ hw)) ?_
   intro A34 c34 bl34 bh34
   refine JH.p 9 rfl (q_bld) ?_
   refine y1 11 ?_
   refine yst rfl rfl rfl ?_
   refine yd ?_
   refine zh [2, 0, 0, 0, 0, 0] ?_
   exact zm ⟨_, _, _, _, rfl, rfl, zt, zt⟩ (Up.refl _ _)
  refine ycs rfl rfl (fun w hw => c_impl_copyNumbers p.stores (ok_ hw)) ?_
  intro A35 c35 bl35 bh35
  refine y1 3 ?_
  refine JHo.e rfl (e_makeI (m := p.pits.length) el_27 rfl rfl rfl (by omega) (by omega)) (.inl rfl) ?_
  rintro _ _ _ ⟨b36, rfl, rfl, rfl⟩ _
  refine znh ?_
  refine JH.p 9 rfl (q_bld) ?_
  refine y1 11 ?_
  refine yst rfl rfl rfl ?_
  refine yd ?_
  refine zh [2, 1, 0, 0, 0, 0] ?_
  exact zm ⟨_, _, _, _, rfl, rfl, zt, zt⟩ (Up.refl _ _)
 rintro _ _ u21 ⟨b8, b6, A7, c7, rfl, rfl, f21_0, f21_1⟩ x21
 refine zn ?_
 refine Js.seq ?_
 refine zdr [16] ?_
 refine jF 0 fld_39_1 rfl rfl ?_
 refine jB 1 0 ty_27 rfl rfl rfl rfl ?_
 refine jM 2 rfl rfl ?_
 refine JH.fact (row_some (i := 1) rfl (by omega)) (fun hf38 => ?_)
 obtain ⟨b38, rfl⟩ := hf38
 refine jI 3 el_27 rfl rfl rfl rfl ?_
 refine JH.q 4 rfl (q_load1 ty_2.h rfl (Mem.row (i := 1) rfl (ints_getI (i := player) (by omega)))) ?_
 refine JH.q 5 rfl (L9 5 rfl rfl) ?_
 refine jF 6 fld_39_0 rfl rfl ?_
 refine jB 7 4 ty_27 rfl rfl rfl rfl ?_
 refine JH.q 9 rfl (L9 5 rfl rfl) ?_
 refine jF 10 fld_39_0 rfl rfl ?_
 refine jB 11 4 ty_27 rfl rfl rfl rfl ?_
 refine y1 8 ?_
 refine yv rfl rfl (fun w hw => c_impl_Rules_side r p.pits 0 (ok_ hw) (ok_ hw) (r4 := g5)) ?_
 refine y1 12 ?_
 refine yv rfl rfl (fun w hw => c_impl_Rules_side r p.pits 1 (ok_ hw) (ok_ hw) (r4 := g5)) ?_
 refine JH.p 13 rfl (p_add rfl rfl (IntWalk.i64_in _ (by omega))) ?_
 refine JH.p 14 rfl (p_add rfl rfl (IntWalk.i64_in _ (by omega))) ?_
 refine jI 15 el_27 rfl rfl rfl rfl ?_
 refine y1 16 ?_
 refine JHo.s rfl (e_storeRow (i := 1) (xs' := ints_ (M.setI p.stores player ((M.getI p.stores player) + ((M.side r p.pits 0) + (M.side r p.pits 1))))) ty_2.h rfl rfl rfl rfl rfl rfl (ints_lt (i := player.toNat) (by omega)) (ints_setL (i := player.toNat) (by omega))) (.inr rfl) ?_
 rintro _ _ _ ⟨rfl, rfl⟩ _
 refine znh ?_
 refine yd ?_
 have hq0 : (List.replicate p.pits.length 0) = (M.give p player).pits := by first | rfl | (rw [hsa]; rfl)
 have hq1 : (M.setI p.stores player ((M.getI p.stores player) + ((M.side r p.pits 0) + (M.side r p.pits 1)))) = (M.give p player).stores := by first | rfl | (rw [hsa]; rfl)
 have hq2 : p.player = (M.give p player).player := by first | rfl | (rw [hsa]; rfl)
 refine zS <| Q9 0 rfl rfl ?_
 refine zw 3 rfl rfl rfl ?_
 refine JL.nil ?_
 exact zro x21
theorem c_impl_Game_endOf (g : M.Gam) {v_g : Value} {w : World} (h_g : (Ty.agg (cGame g)).ok w v_g) (r0 : g.start.pits.length ≤ 4194304 := by exact om_) (r1 : g.start.stores.length ≤ 4194304 := by exact om_) (r2 : g.moves.length ≤ 4194304 := by exact om_) (r3 : g.now.pits.length ≤ 4194304 := by exact om_) (r4 : g.now.stores.length ≤ 4194304 := by exact om_) (r5 : M.okG g = true := by exact om_) : RetV Tryz.prog 174 [v_g] w (.int .i64 (M.endOf g)) := by
 have hok := r5
 obtain ⟨k1, k2, k3, k4, k5, k6, k7, k8, k9⟩ := M.okG_parts hok
 have hnow := M.okG_now hok
 have k10 := M.okP_len hnow
 have k11 := M.okP_len k1
 (have k12 : (M.playedP g).length = g.moves.length + 1 := by rw [k6, M.hist_length, k8])
 have k13 : (M.playedR g).length = g.moves.length := by rw [k7, k8]
 have hC := M.okC_yes hok
 obtain ⟨g1, g2, g3, g4, g5, g6, g7⟩ := M.okP_bd hnow
 revert v_g; apply opn
 intro A1 c1 h1 bl1 bh1 A2 c2 h2 bl2 bh2 A3 c3 h3 bl3 bh3 A4 c4 h4 bl4 bh4 A5 c5 h5 bl5 bh5
 refine enter @Tryz.func174 @Tryz.ntmps174 rfl rfl ?_
 refine zent ?_
 refine zS <| zb rfl fun b6 => Qa rfl <| zN <| Q9 0 rfl rfl ?_
 refine zp rfl (fun w hw => c_impl_Game_played g (ok_ hw)) ?_
 intro u7 x7 A8 c8 h8 bl8 bh8 A9 c9 h9 bl9 bh9
 refine Qm rfl <| Qx rfl rfl <| Qx rfl rfl <| Qx rfl rfl <| Qa rfl <| Qa rfl <| Qa rfl <| zJ <| Js.block <| zS <| Qf fh rfl <| Q0 0 rfl rfl rfl <| Qh rfl rfl <| Qa rfl ?_
 refine JL.nil ?_
 refine zi (fun h10 h10' => ?_) fun h10 h10' => ?_
 ·
  have hE := M.endOf_1 (g := g) (by simpa using h10)
  refine zS <| Qa rfl <| JL.nil ?_
  refine zR x7 ?_
  rw [hE]; rfl
 have q1 : ¬ 0 ≤ g.resigned := by simpa using h10
 refine zS <| Qf fh rfl <| Q9 0 rfl rfl ?_
 refine zv rfl (fun w hw => c_impl_majority g.now (ok_ hw) (r2 := (M.all_V hnow)) (r3 := (fun k => M.allOk_getI g6 k))) <| Qh rfl rfl <| Qa rfl <| JL.nil ?_
 refine zi (fun h11 h11' => ?_) fun h11 h11' => ?_
 ·
  have hE := M.endOf_2 q1 (by simpa using h11)
  refine zS <| Qa rfl <| JL.nil ?_
  refine zR x7 ?_
  rw [hE]; rfl
 have q2 : ¬ 0 ≤ M.majority g.now := by simpa using h11
 refine zS <| Qf fh rfl <| Q9 0 rfl rfl ?_
 refine Qf fh rfl <| Q9 0 rfl rfl ?_
 refine zp rfl (fun w hw => c_impl_Rules_results g.rules g.now (ok_ hw) (ok_ hw) (r0 := hnow)) ?_
 intro u12 x12 A13 c13 h13 bl13 bh13
 refine Qz rfl <| Qe rfl rfl <| Qa rfl <| JL.nil ?_
 refine zi (fun h14 h14' => ?_) fun h14 h14' => ?_
 ·
  have hE := M.endOf_3 q1 q2 (by have := h14'; omega)
  refine zS <| Qa rfl <| JL.nil ?_
  refine zR (x7.trans x12) ?_
  rw [hE]; rfl
 have q3 : (M.results g.rules g.now).length ≠ 0 := by have := h14'; omega
 refine zS <| Qm rfl <| Qf fh rfl <| Q9 0 rfl rfl ?_
 refine zv rfl (fun w hw => c_impl_repeats (M.playedP g) g.now (ok_ hw) (ok_ hw) (r1 := (fun _ _ hq => M.okP_len (M.hist_okG hok hq)))) <| Qh rfl rfl <| Qa rfl <| JL.nil ?_
 refine zi (fun h15 h15' => ?_) fun h15 h15' => ?_
 ·
  have hE := M.endOf_4 q1 q2 q3 (by simpa using h15)
  refine zS <| Qa rfl <| JL.nil ?_
  refine zR (x7.trans x12) ?_
  rw [hE]; rfl
 have q4 : ¬ 3 ≤ M.count g.now (M.playedP g) := by simpa using h15
 refine zS <| Qf fh rfl <| Q0 0 rfl rfl rfl <| Qz rfl <| Qe rfl rfl <| Qa rfl <| JL.nil ?_
 refine zi (fun h16 h16' => ?_) fun h16 h16' => ?_
 ·
  have hE := M.endOf_5 q1 q2 q3 q4 (by have := h16'; omega)
  refine zS <| Qa rfl <| JL.nil ?_
  refine zR (x7.trans x12) ?_
  rw [hE]; rfl
 have hE := M.endOf_0 q1 q2 q3 q4 (by have := h16'; omega)
 refine Js.skip <| Js.blockEnd <| zS <| Qa rfl <| JL.nil ?_
 refine zR (x7.trans x12) ?_
 rw [hE]; rfl
theorem c_impl_Game_final (g : M.Gam) {v_g : Value} {w : World} (h_g : (Ty.agg (cGame g)).ok w v_g) (r0 : M.okP g.rules g.now = true := by exact om_) (r1 : -1 ≤ g.resigned := by exact om_) (r2 : g.resigned ≤ 1 := by exact om_) : Ret Tryz.prog 142 [v_g] w (Ty.agg (cPosition (M.final g))) := by
 obtain ⟨g1, g2, g3, g4, g5, g6, g7⟩ := M.okP_bd r0
 revert v_g; apply opn
 intro A1 c1 h1 bl1 bh1 A2 c2 h2 bl2 bh2 A3 c3 h3 bl3 bh3 A4 c4 h4 bl4 bh4 A5 c5 h5 bl5 bh5
 refine enter @Tryz.func142 @Tryz.ntmps142 rfl rfl ?_
 refine zent ?_
 refine zS <| zb rfl fun b6 => za zeh fun b7 => zJ <| zS <| Qf fh rfl <| Q0 1 rfl rfl rfl <| Qh rfl rfl <| JL.nil ?_
 refine zi (fun h8 h8' => ?_) fun h8 h8' => ?_
 ·
  have hF := M.final_yes (g := g) (by simpa using h8)
  refine zS <| Qf fh rfl <| Q9 1 rfl rfl ?_
  refine Qf fh rfl <| Q9 1 rfl rfl ?_
  refine Qf fh rfl <| Q0 1 rfl rfl rfl <| Qs rfl rfl <| zcs rfl (fun w hw => c_impl_Rules_given g.rules g.now (1 - g.resigned) (ok_ hw) (ok_ hw) (r0 := r0)) ?_
  intro A9_0 c9_0 bl9_0 bh9_0 A9_1 c9_1 bl9_1 bh9_1 f9
  have hq0 : (M.give g.now (1 - g.resigned)) = M.final g := by rw [hF]
  refine zw 1 rfl rfl rfl ?_
  refine JL.nil ?_
  exact zro (Up.refl _ _)
 have hF := M.final_no (g := g) (by simpa using h8)
 refine Js.skip <| zS <| Qf fh rfl <| Q9 1 rfl rfl ?_
 refine Qf fh rfl <| Q9 1 rfl rfl ?_
 refine zcs rfl (fun w hw => c_impl_Rules_settled g.rules g.now (ok_ hw) (ok_ hw) (r0 := r0)) ?_
 intro A10_0 c10_0 bl10_0 bh10_0 A10_1 c10_1 bl10_1 bh10_1 f10
 have hq0 : (M.settle g.rules g.now) = M.final g := by rw [hF]
 refine zw 1 rfl rfl rfl ?_
 refine JL.nil ?_
 exact zro (Up.refl _ _)
theorem c_impl_endedCode (g : M.Gam) {v_g : Value} {w : World} (h_g : (Ty.agg (cGame g)).ok w v_g) (r0 : g.start.pits.length ≤ 4194304 := by exact om_) (r1 : g.start.stores.length ≤ 4194304 := by exact om_) (r2 : g.moves.length ≤ 4194304 := by exact om_) (r3 : g.now.pits.length ≤ 4194304 := by exact om_) (r4 : g.now.stores.length ≤ 4194304 := by exact om_) : RetV Tryz.prog 141 [v_g] w (.int .i64 (M.endC g)) := by
 revert v_g; apply opn
 intro A1 c1 h1 bl1 bh1 A2 c2 h2 bl2 bh2 A3 c3 h3 bl3 bh3 A4 c4 h4 bl4 bh4 A5 c5 h5 bl5 bh5
 refine enter @Tryz.func141 @Tryz.ntmps141 rfl rfl ?_
 refine zent ?_
 refine zS <| zb rfl fun b6 => Qa rfl <| zJ <| zS <| Q9 0 rfl rfl ?_
 refine zv rfl (fun w hw => c_impl_ValidGame g (ok_ hw)) <| Qt rfl <| JL.nil ?_
 refine zi (fun h7 h7' => ?_) fun h7 h7' => ?_
 ·
  have hno : M.okG g = false := by simpa using h7
  have hC := M.okC_no hno
  have hE := M.endC_no hno
  refine zS <| Qa rfl <| JL.nil ?_
  refine zR (Up.refl _ _) ?_
  rw [hE]; rfl
 have hok : M.okG g = true := by simpa using h7
 obtain ⟨k1, k2, k3, k4, k5, k6, k7, k8, k9⟩ := M.okG_parts hok
 have hnow := M.okG_now hok
 have k10 := M.okP_len hnow
 have k11 := M.okP_len k1
 (have k12 : (M.playedP g).length = g.moves.length + 1 := by rw [k6, M.hist_length, k8])
 have k13 : (M.playedR g).length = g.moves.length := by rw [k7, k8]
 have hC := M.okC_yes hok
 obtain ⟨g1, g2, g3, g4, g5, g6, g7⟩ := M.okP_bd hnow
 refine Js.skip <| Js.seq <| zS <| Q9 0 rfl rfl ?_
 refine zv rfl (fun w hw => c_impl_Game_endOf g (ok_ hw) (r5 := hok)) <| Qe rfl rfl <| JL.nil ?_
 refine zi (fun h8 h8' => ?_) fun h8 h8' => ?_
 ·
  have hE := M.endC_6 hok (by simpa using h8)
  refine zS <| Qa rfl <| JL.nil ?_
  refine zR (Up.refl _ _) ?_
  rw [hE]; rfl
 have hE := M.endC_0 hok (by simpa using h8)
 refine Js.skip <| zS <| Qa rfl <| JL.nil ?_
 refine zR (Up.refl _ _) ?_
 rw [hE]; rfl
theorem c_impl_WinnerOf (g : M.Gam) {v_g : Value} {w : World} (h_g : (Ty.agg (cGame g)).ok w v_g) (r0 : g.start.pits.length ≤ 4194304 := by exact om_) (r1 : g.start.stores.length ≤ 4194304 := by exact om_) (r2 : g.moves.length ≤ 4194304 := by exact om_) (r3 : g.now.pits.length ≤ 4194304 := by exact om_) (r4 : g.now.stores.length ≤ 4194304 := by exact om_) : RetV Tryz.prog 87 [v_g] w (.tuple #[.int .i64 (M.winner g), .int .i64 (M.endC g)]) := by
 revert v_g; apply opn
 intro A1 c1 h1 bl1 bh1 A2 c2 h2 bl2 bh2 A3 c3 h3 bl3 bh3 A4 c4 h4 bl4 bh4 A5 c5 h5 bl5 bh5
 refine enter @Tryz.func87 @Tryz.ntmps87 rfl rfl ?_
 refine zent ?_
 refine zS <| zb rfl fun b6 => Qa rfl <| Qa rfl <| zJ <| zS <| Q9 0 rfl rfl ?_
 refine zv rfl (fun w hw => c_impl_endedCode g (ok_ hw)) <| Qa rfl <| zN <| Qm rfl <| Qd rfl rfl <| JL.nil ?_
 refine zi (fun h7 h7' => ?_) fun h7 h7' => ?_
 ·
  have hz : M.endC g ≠ 0 := by simpa using h7
  have hE := M.winner_no hz
  refine zS <| Qm rfl <| Qa rfl <| Qa rfl <| JL.nil ?_
  refine zR (Up.refl _ _) ?_
  first | (rw [hE2, hz]; rfl) | (rw [hE]; rfl)
 have hz : M.endC g = 0 := by simpa using h7
 have hok := M.endC_ok hz
 obtain ⟨k1, k2, k3, k4, k5, k6, k7, k8, k9⟩ := M.okG_parts hok
 have hnow := M.okG_now hok
 have k10 := M.okP_len hnow
 have k11 := M.okP_len k1
 (have k12 : (M.playedP g).length = g.moves.length + 1 := by rw [k6, M.hist_length, k8])
 have k13 : (M.playedR g).length = g.moves.length := by rw [k7, k8]
 have hC := M.okC_yes hok
 obtain ⟨g1, g2, g3, g4, g5, g6, g7⟩ := M.okP_bd hnow
 have hE := trivial
 have hfs := M.final_stores g
 refine Js.skip <| zS <| Q9 0 rfl rfl ?_
 refine zp rfl (fun w hw => c_impl_Game_final g (ok_ hw) (r0 := hnow)) ?_
 intro u8 x8 A9 c9 h9 bl9 bh9 A10 c10 h10 bl10 bh10
 refine Qi fh rfl rfl <| Qa rfl <| zJ <| Js.block <| zS <| Qf fh rfl <| Q0 0 rfl rfl rfl <| Qh rfl rfl <| Qa rfl <| JL.nil ?_
 refine zi (fun h11 h11' => ?_) fun h11 h11' => ?_
 ·
  have hE2 := M.winner_r hz (by simpa using h11)
  refine zS <| Qf fh rfl <| Q0 0 rfl rfl rfl <| Qs rfl rfl <| Qa rfl <| Qa rfl <| JL.nil ?_
  refine zR x8 ?_
  first | (rw [hE2, hz]; rfl) | (rw [hE]; rfl)
 have q1 : ¬ 0 ≤ g.resigned := by simpa using h11
 refine Js.seq ?_
 refine zdr [] ?_
 refine jM 0 rfl rfl ?_
 obtain ⟨b12, o12, he12, hc12⟩ := ints_elem h10 (i := 0) (by omega)
 refine jI 1 el_27 rfl rfl rfl he12 ?_
 refine jW 2 ty_2 rfl rfl hc12.vis ?_
 refine jM 3 rfl rfl ?_
 obtain ⟨b13, o13, he13, hc13⟩ := ints_elem h10 (i := 1) (by omega)
 refine jI 4 el_27 rfl rfl rfl he13 ?_
 refine jW 5 ty_2 rfl rfl hc13.vis ?_
 refine JH.p 6 rfl (p_gtr rfl rfl) ?_
 refine jA 7 rfl rfl ?_
 refine yd ?_
 refine zi (fun h14 h14' => ?_) fun h14 h14' => ?_
 ·
  have hE2 := M.winner_0 hz q1 (by simpa using h14)
  refine zS <| Qa rfl <| Qa rfl <| JL.nil ?_
  refine zR x8 ?_
  first | (rw [hE2, hz]; rfl) | (rw [hE]; rfl)
 have q2 : ¬ M.nth (M.final g).stores 1 < M.nth (M.final g).stores 0 := by simpa using h14
 refine Js.seq ?_
 refine zdr [] ?_
 refine jM 0 rfl rfl ?_
 obtain ⟨b15, o15, he15, hc15⟩ := ints_elem h10 (i := 0) (by omega)
 refine jI 1 el_27 rfl rfl rfl he15 ?_
 refine jW 2 ty_2 rfl rfl hc15.vis ?_
 refine jM 3 rfl rfl ?_
 obtain ⟨b16, o16, he16, hc16⟩ := ints_elem h10 (i := 1) (by omega)
 refine jI 4 el_27 rfl rfl rfl he16 ?_
 refine jW 5 ty_2 rfl rfl hc16.vis ?_
 refine JH.p 6 rfl (p_lss rfl rfl) ?_
 refine jA 7 rfl rfl ?_
 refine yd ?_
 refine zi (fun h17 h17' => ?_) fun h17 h17' => ?_
 ·
  have hE2 := M.winner_1 hz q1 q2 (by simpa using h17)
  refine zS <| Qa rfl <| Qa rfl <| JL.nil ?_
  refine zR x8 ?_
  first | (rw [hE2, hz]; rfl) | (rw [hE]; rfl)
 have hE2 := M.winner_n hz q1 q2 (by simpa using h17)
 refine Js.skip <| Js.blockEnd <| zS <| Qa rfl <| Qa rfl <| JL.nil ?_
 refine zR x8 ?_
 first | (rw [hE2, hz]; rfl) | (rw [hE]; rfl)
theorem c_impl_AddGame (b : M.Boo) {v_b : Value} (g : M.Gam) {v_g : Value} {w : World} (h_b : (Ty.agg (cBook b)).ok w v_b) (h_g : (Ty.agg (cGame g)).ok w v_g) (r0 : b.entries.length + M.totE b.entries ≤ 1048576 := by exact om_) (r1 : g.start.pits.length ≤ 4194304 := by exact om_) (r2 : g.start.stores.length ≤ 4194304 := by exact om_) (r3 : g.moves.length ≤ 4194304 := by exact om_) (r4 : g.now.pits.length ≤ 4194304 := by exact om_) (r5 : g.now.stores.length ≤ 4194304 := by exact om_) : Ret Tryz.prog 27 [v_b, v_g] w (Ty.tup [Ty.agg (cBook ((M.addGame b g).1)), Ty.int ((M.addGame b g).2)]) := by
 have sb := M.totE_small (es := b.entries) (n := 4194304) (by omega)
 revert v_b; apply opn
 intro A1 c1 h1 bl1 bh1
 revert v_g; apply opn
 intro A2 c2 h2 bl2 bh2 A3 c3 h3 bl3 bh3 A4 c4 h4 bl4 bh4 A5 c5 h5 bl5 bh5 A6 c6 h6 bl6 bh6
 refine enter @Tryz.func27 @Tryz.ntmps27 rfl rfl ?_
 refine zent ?_
 refine zS <| zb rfl fun b7 => zb rfl fun b8 => za zeh fun b9 => Qa rfl <| zJ <| zS <| Q9 2 rfl rfl ?_
 refine zv rfl (fun w hw => c_impl_ValidBook b (ok_ hw) (r1 := sb)) <| Qt rfl <| Qm rfl <| zgq (Gd.f1 rfl rfl rfl) (fun hc => L9 1 rfl rfl) <| zgv (Gd.f1 rfl rfl rfl) (fun hc => (opds_1 (gh hc rfl))) (fun hc => (fun w hw => c_impl_ValidGame g (ok_ hw) (r0 := (by have hc9 := hc; (try simp only [Bool.not_eq_true', Bool.not_eq_false'] at hc9); omega)) (r1 := (by have hc9 := hc; (try simp only [Bool.not_eq_true', Bool.not_eq_false'] at hc9); omega)) (r2 := (by have hc9 := hc; (try simp only [Bool.not_eq_true', Bool.not_eq_false'] at hc9); omega)) (r3 := (by have hc9 := hc; (try simp only [Bool.not_eq_true', Bool.not_eq_false'] at hc9); omega)) (r4 := (by have hc9 := hc; (try simp only [Bool.not_eq_true', Bool.not_eq_false'] at hc9); omega)))) ?_
 refine zg (Gd.f1 rfl rfl rfl) (fun hc => p_not (gh hc rfl)) <| Qq (p_pickOr rfl rfl rfl) <| JL.nil ?_
 refine zi (fun h10 h10' => ?_) fun h10 h10' => ?_
 ·
  have hno : ¬ (M.okB b = true ∧ M.okG g = true) := by have h9 := h10; rintro ⟨a1, a2⟩; rw [a1, a2] at h9; simp at h9
  have hP := M.addGame_1 hno
  have hq0 : 0 = (((M.addGame b g).1).rules).pits := rp_ hP
  have hq1 : 0 = (((M.addGame b g).1).rules).seeds := rp_ hP
  have hq2 : false = (((M.addGame b g).1).rules).stores := rp_ hP
  have hq3 : false = (((M.addGame b g).1).rules).skip := rp_ hP
  have hq4 : false = (((M.addGame b g).1).rules).relay := rp_ hP
  have hq5 : false = (((M.addGame b g).1).rules).feed := rp_ hP
  have hq6 : false = (((M.addGame b g).1).rules).again := rp_ hP
  have hq7 : 0 = (((M.addGame b g).1).rules).capture := rp_ hP
  have hq8 : 0 = (((M.addGame b g).1).rules).slam := rp_ hP
  have hq9 : [] = ((M.addGame b g).1).entries := rp_ hP
  have hq10 : 1 = (M.addGame b g).2 := rp_ hP
  refine zS <| Qb ?_
  refine zw 0 rfl rfl rfl ?_
  refine Qa rfl <| JL.nil ?_
  exact zro (Up.refl _ _)
 have hok : M.okB b = true ∧ M.okG g = true := by have h9 := h10; simpa using h9
 obtain ⟨k1, k2, k3, k4, k5, k6, k7, k8, k9⟩ := M.okG_parts hok.2
 (have k12 : (M.playedP g).length = g.moves.length + 1 := by rw [k6, M.hist_length, k8])
 refine Js.skip <| zS <| Q9 1 rfl rfl ?_
 refine zv rfl (fun w hw => c_impl_WinnerOf g (ok_ hw)) <| Qm rfl <| Qx rfl rfl <| Qx rfl rfl <| Qa rfl <| Qa rfl <| zJ <| zS <| Qm rfl <| Qd rfl rfl <| Qm rfl <| zg (Gd.f1 rfl rfl rfl) (fun hc => p_fieldAddr fld_56_0.h rfl) <| zgq (Gd.f1 rfl rfl rfl) (fun hc => L9 1 (gh hc rfl) rfl) <| zg (Gd.f1 rfl rfl rfl) (fun hc => p_fieldAddr fld_37_0.h rfl) ?_
 refine zgq (Gd.f1 rfl rfl rfl) (fun hc => L9 2 (gh hc rfl) rfl) <| zg (Gd.f1 rfl rfl rfl) (fun hc => p_neqS (by kernel_rfl) (fun w => eqs_Rules g.rules b.rules w) (gh hc rfl) (gh hc rfl)) <| Qq (p_pickOr rfl rfl rfl) <| JL.nil ?_
 refine zi (fun h11 h11' => ?_) fun h11 h11' => ?_
 ·
  have hne : ¬ (M.endC g = 0 ∧ g.rules = b.rules) := by have h9 := h11; rintro ⟨a1, a2⟩; rw [a1, a2] at h9; simp at h9
  have hP := M.addGame_6 hok hne
  have hq0 : 0 = (((M.addGame b g).1).rules).pits := rp_ hP
  have hq1 : 0 = (((M.addGame b g).1).rules).seeds := rp_ hP
  have hq2 : false = (((M.addGame b g).1).rules).stores := rp_ hP
  have hq3 : false = (((M.addGame b g).1).rules).skip := rp_ hP
  have hq4 : false = (((M.addGame b g).1).rules).relay := rp_ hP
  have hq5 : false = (((M.addGame b g).1).rules).feed := rp_ hP
  have hq6 : false = (((M.addGame b g).1).rules).again := rp_ hP
  have hq7 : 0 = (((M.addGame b g).1).rules).capture := rp_ hP
  have hq8 : 0 = (((M.addGame b g).1).rules).slam := rp_ hP
  have hq9 : [] = ((M.addGame b g).1).entries := rp_ hP
  have hq10 : 6 = (M.addGame b g).2 := rp_ hP
  refine zS <| Qb ?_
  refine zw 0 rfl rfl rfl ?_
  refine Qa rfl <| JL.nil ?_
  exact zro (Up.refl _ _)
 have he : M.endC g = 0 ∧ g.rules = b.rules := by have h9 := h11; simpa using h9
 refine Js.skip <| zS <| Q9 1 rfl rfl ?_
 refine zp rfl (fun w hw => c_impl_Game_played g (ok_ hw)) ?_
 intro u12 x12 A13 c13 h13 bl13 bh13 A14 c14 h14 bl14 bh14
 refine Qm rfl <| Qx rfl rfl <| Qx rfl rfl <| Qx rfl rfl <| Qa rfl <| Qa rfl <| Qa rfl <| zN <| Q9 2 rfl rfl ?_
 refine zc rfl (fun w hw => c_impl_Book_copied b (ok_ hw) (r1 := sb)) ?_
 intro A16 c16 vs16 f16 bl16 bh16
 have hs18 := ints_cut (a := 0) (b := min g.moves.length 20) (m := c4) (Ty.mono _ h4 x12.vis) (by omega) (by omega) (by omega) (by omega)
 have hl18 : ((g.moves.drop 0).take ((min g.moves.length 20) - 0)).length = (min g.moves.length 20) - 0 := by rw [List.length_take, List.length_drop]; omega
 refine za zeh fun b17 => zw 0 rfl rfl rfl ?_
 refine zJ <| zS <| Qf fh rfl <| Q0 4 rfl rfl rfl <| Qf fh rfl <| Q0 4 rfl rfl rfl <| Qz rfl <| Qq (p_cast (v' := .int .i64 ((min g.moves.length 20 : Nat) : Int)) (p_min rfl rfl) (congrArg (Value.int .i64) (by split <;> omega))) <| Qq (p_slice (lo' := 0) (hi' := min g.moves.length 20) (mx' := c4) el_27 rfl rfl ⟨_, rfl, by omega⟩ rfl) <| Qz rfl <| Qm rfl <| JL.nil <| Js.block ?_
 refine zl [2, 4, 6, 8, 11, 53, 54] (fun F U l os u m => ∃ (k : Nat) (acc : List M.Ent) (A19_11_9 : Option Addr) (c19_11_9 : Nat) (g19_11_9 : List Nat) (vs19_11_9 : List Value) (fl19_11_9 : List Nat), l = F [(55, .int .i64 (k : Int))] ∧ os = U [some (boxO b17 [.int .i64 b.rules.pits, .int .i64 b.rules.seeds, .bool b.rules.stores, .bool b.rules.skip, .bool b.rules.relay, .bool b.rules.feed, .bool b.rules.again, .int .i64 b.rules.capture, .int .i64 b.rules.slam, .slice A19_11_9 acc.length c19_11_9] 37), some (rowO 89 2 (.slice A19_11_9 acc.length c19_11_9) acc.length vs19_11_9 g19_11_9), some (ownC (lBookEntry acc) vs19_11_9 fl19_11_9)] ∧ (acc = M.gmE g b.entries ((M.gmL g).take k)) ∧ (k ≤ g.moves.length) ∧ (k ≤ 20) ∧ (M.MI k acc) ∧ (acc.length ≤ c19_11_9) ∧ (c19_11_9 ≤ 9223372036854775807) ∧ m = 20 - k) ⟨0, b.entries, _, _, _, _, _, rfl, rfl, by rfl, zt, zt, by exact M.MI_0 hok.1 r0, zu, zu, rfl⟩ ?_
 rintro _ _ u19 _ ⟨k, acc, A19_11_9, c19_11_9, g19_11_9, vs19_11_9, fl19_11_9, rfl, rfl, hA, hk, hk2, hI, f19_4, f19_5, rfl⟩ x19
 refine zn ?_
 refine zS <| Ql rfl rfl <| zJ ?_
 refine zi (fun h20 h20' => ?_) fun h20 h20' => ?_
 ·
  have hkm : k < g.moves.length := by have := h20'; omega
  have hk20 : k < 20 := by have := h20'; omega
  have hnt : M.nth ((g.moves.drop 0).take (min g.moves.length 20 - 0)) k = M.nth g.moves k := M.nth_take0 (by omega)
  obtain ⟨ye21, hye21⟩ : ∃ x, (M.playedP g)[k]? = some x := ⟨_, List.getElem?_eq_getElem (by omega)⟩
  have hyk := M.hist_ok hok.2 (k6 ▸ hye21); have hyl := M.okP_len hyk; have hv := M.viewP_16 hyk; rw [he.2] at hv
  have hq := hI.req (by omega)
  obtain ⟨b22, o22, he22, hc22⟩ := ints_elemN hl18 (Ty.mono _ hs18 x19.vis) (i := k) (by omega)
  have hy24 := hye21
  obtain ⟨b24, o24, A24_0, c24_0, A24_1, c24_1, he24, hr24, h24_0, h24_1, bl24_0, bh24_0, bl24_1, bh24_1⟩ := elem_Position (Ty.mono _ h13 x19.vis) hy24
  refine Js.skip <| Js.seq <| Js.block <| zS <| Qm rfl <| Qq (p_indexAddr el_27 rfl rfl (by omega) (by omega) he22) <| QC hc22 rfl <| Qa rfl <| Qa rfl <| zN <| Qm rfl <| Qb ?_
  refine za zeh fun b23 => zw 0 rfl rfl rfl ?_
  refine zJ <| zS <| Qm rfl <| JL.nil <| Js.block <| zS <| Qm rfl <| Qm rfl <| Qq (p_indexAddr el_126 rfl rfl (by omega) (by omega) he24) <| Qf fh rfl <| QC (hr24 2 _ rfl) rfl <| Qe rfl rfl <| Qa rfl <| JL.nil ?_
  refine zi (fun h25 h25' => ?_) fun h25 h25' => ?_
  ·
   have hs9 : M.scG g ye21 = 2 := by unfold M.scG; rw [if_pos (by simpa using h25)]
   have hA2 := M.gmE_step (es := b.entries) hye21 hkm hk20; rw [← hA, hs9] at hA2; have hA3 := hA2.symm
   refine Js.region <| Qf fh rfl <| zw 0 rfl rfl rfl ?_
   refine JL.nil <| Js.blockEnd ?_
   refine zdr [9] ?_
   refine jF 0 fld_37_0 rfl rfl ?_
   refine JH.q 1 rfl (L9 6 rfl rfl) ?_
   refine jM 2 rfl rfl ?_
   refine jM 3 rfl rfl ?_
   have hy26 := hye21
   obtain ⟨b26, o26, A26_0, c26_0, A26_1, c26_1, he26, hr26, h26_0, h26_1, bl26_0, bh26_0, bl26_1, bh26_1⟩ := elem_Position (Ty.mono _ h13 x19.vis) hy26
   refine jI 4 el_126 rfl rfl rfl he26 ?_
   refine JH.w 5 rfl (fun os' u' hv => LS 0 (hr26.vis hv) rfl) ?_
   refine JH.q 8 rfl (L9 0 rfl rfl) ?_
   refine y1 6 ?_
   refine yp rfl rfl (fun w hw => c_impl_Rules_view b.rules ye21 (ok_ hw) (ok_ hw) (r0 := (Or.inl (he.2 ▸ hyk)))) ?_
   intro u27 x27 A28 c28 h28 bl28 bh28 A29 c29 h29 bl29 bh29
   refine JH.p 7 rfl (p_field1 fld_39_0.h rfl rfl) ?_
   refine y1 9 ?_
   refine zhh [1, 1, 1] ?_
   refine yB 3 sp_ rfl rfl (fun w hb hw => c_impl_Book_count b.rules acc ((M.viewP b.rules ye21).pits) (M.Cho.mk (M.nth ((g.moves.drop 0).take ((min g.moves.length 20) - 0)) k) 1 2) hb (ok_ hw) (ok_ hw) (r1 := hq.2.1) (r2 := hq.2.2)) ?_
   rintro _ _ G30 ⟨A30b_9, c30b_9, g30b_9, vs30b_9, f30b_9, rfl, rfl, bl30_0, bl30_1⟩
   refine znh ?_
   refine yd ?_
   refine Js.blockEnd <| Js.region <| Qp rfl rfl <| Qm rfl <| JL.nil ?_
   refine zd [0, 0, 0, 2, 2, 2] rfl fun u31 x31 => ?_
   exact zag ⟨k + 1, M.addE acc ((M.viewP b.rules ye21).pits) (M.Cho.mk (M.nth ((g.moves.drop 0).take ((min g.moves.length 20) - 0)) k) 1 2), _, _, _, _, _, rfl, rfl, by rw [hnt, ← he.2]; exact hA3, by omega, by omega, by exact hI.step (by omega) (by simp) (by simp) (by simp) (by simp), zu, zu, rfl⟩ ((x19.trans x27).trans x31)
  have hs8 : ¬ M.winner g = ye21.player := by simpa using h25
  refine zS <| Qe rfl rfl <| Qa rfl <| JL.nil ?_
  refine zi (fun h32 h32' => ?_) fun h32 h32' => ?_
  ·
   have hs9 : M.scG g ye21 = 1 := by unfold M.scG; rw [if_neg hs8, if_pos (by simpa using h32)]
   have hA2 := M.gmE_step (es := b.entries) hye21 hkm hk20; rw [← hA, hs9] at hA2; have hA3 := hA2.symm
   refine Js.region <| Qf fh rfl <| zw 0 rfl rfl rfl ?_
   refine JL.nil <| Js.blockEnd ?_
   refine zdr [9] ?_
   refine jF 0 fld_37_0 rfl rfl ?_
   refine JH.q 1 rfl (L9 6 rfl rfl) ?_
   refine jM 2 rfl rfl ?_
   refine jM 3 rfl rfl ?_
   have hy33 := hye21
   obtain ⟨b33, o33, A33_0, c33_0, A33_1, c33_1, he33, hr33, h33_0, h33_1, bl33_0, bh33_0, bl33_1, bh33_1⟩ := elem_Position (Ty.mono _ h13 x19.vis) hy33
   refine jI 4 el_126 rfl rfl rfl he33 ?_
   refine JH.w 5 rfl (fun os' u' hv => LS 0 (hr33.vis hv) rfl) ?_
   refine JH.q 8 rfl (L9 0 rfl rfl) ?_
   refine y1 6 ?_
   refine yp rfl rfl (fun w hw => c_impl_Rules_view b.rules ye21 (ok_ hw) (ok_ hw) (r0 := (Or.inl (he.2 ▸ hyk)))) ?_
   intro u34 x34 A35 c35 h35 bl35 bh35 A36 c36 h36 bl36 bh36
   refine JH.p 7 rfl (p_field1 fld_39_0.h rfl rfl) ?_
   refine y1 9 ?_
   refine zhh [1, 1, 1] ?_
   refine yB 3 sp_ rfl rfl (fun w hb hw => c_impl_Book_count b.rules acc ((M.viewP b.rules ye21).pits) (M.Cho.mk (M.nth ((g.moves.drop 0).take ((min g.moves.length 20) - 0)) k) 1 1) hb (ok_ hw) (ok_ hw) (r1 := hq.2.1) (r2 := hq.2.2)) ?_
   rintro _ _ G37 ⟨A37b_9, c37b_9, g37b_9, vs37b_9, f37b_9, rfl, rfl, bl37_0, bl37_1⟩
   refine znh ?_
   refine yd ?_
   refine Js.blockEnd <| Js.region <| Qp rfl rfl <| Qm rfl <| JL.nil ?_
   refine zd [0, 0, 0, 2, 2, 2] rfl fun u38 x38 => ?_
   exact zag ⟨k + 1, M.addE acc ((M.viewP b.rules ye21).pits) (M.Cho.mk (M.nth ((g.moves.drop 0).take ((min g.moves.length 20) - 0)) k) 1 1), _, _, _, _, _, rfl, rfl, by rw [hnt, ← he.2]; exact hA3, by omega, by omega, by exact hI.step (by omega) (by simp) (by simp) (by simp) (by simp), zu, zu, rfl⟩ ((x19.trans x34).trans x38)
  have hs9 : M.scG g ye21 = 0 := by unfold M.scG; rw [if_neg hs8, if_neg (by simpa using h32)]
  have hA2 := M.gmE_step (es := b.entries) hye21 hkm hk20; rw [← hA, hs9] at hA2; have hA3 := hA2.symm
  refine Js.skip <| Js.blockEnd ?_
  refine zdr [9] ?_
  refine jF 0 fld_37_0 rfl rfl ?_
  refine JH.q 1 rfl (L9 6 rfl rfl) ?_
  refine jM 2 rfl rfl ?_
  refine jM 3 rfl rfl ?_
  have hy39 := hye21
  obtain ⟨b39, o39, A39_0, c39_0, A39_1, c39_1, he39, hr39, h39_0, h39_1, bl39_0, bh39_0, bl39_1, bh39_1⟩ := elem_Position (Ty.mono _ h13 x19.vis) hy39
  refine jI 4 el_126 rfl rfl rfl he39 ?_
  refine JH.w 5 rfl (fun os' u' hv => LS 0 (hr39.vis hv) rfl) ?_
  refine JH.q 8 rfl (L9 0 rfl rfl) ?_
  refine y1 6 ?_
  refine yp rfl rfl (fun w hw => c_impl_Rules_view b.rules ye21 (ok_ hw) (ok_ hw) (r0 := (Or.inl (he.2 ▸ hyk)))) ?_
  intro u40 x40 A41 c41 h41 bl41 bh41 A42 c42 h42 bl42 bh42
  refine JH.p 7 rfl (p_field1 fld_39_0.h rfl rfl) ?_
  refine y1 9 ?_
  refine zhh [1, 1, 1] ?_
  refine yB 3 sp_ rfl rfl (fun w hb hw => c_impl_Book_count b.rules acc ((M.viewP b.rules ye21).pits) (M.Cho.mk (M.nth ((g.moves.drop 0).take ((min g.moves.length 20) - 0)) k) 1 0) hb (ok_ hw) (ok_ hw) (r1 := hq.2.1) (r2 := hq.2.2)) ?_
  rintro _ _ G43 ⟨A43b_9, c43b_9, g43b_9, vs43b_9, f43b_9, rfl, rfl, bl43_0, bl43_1⟩
  refine znh ?_
  refine yd ?_
  refine Js.blockEnd <| Js.region <| Qp rfl rfl <| Qm rfl <| JL.nil ?_
  refine zd [0, 0, 0, 2, 2, 2] rfl fun u44 x44 => ?_
  exact zag ⟨k + 1, M.addE acc ((M.viewP b.rules ye21).pits) (M.Cho.mk (M.nth ((g.moves.drop 0).take ((min g.moves.length 20) - 0)) k) 1 0), _, _, _, _, _, rfl, rfl, by rw [hnt, ← he.2]; exact hA3, by omega, by omega, by exact hI.step (by omega) (by simp) (by simp) (by simp) (by simp), zu, zu, rfl⟩ ((x19.trans x40).trans x44)
 have hE9 : (M.Boo.mk b.rules acc) = M.gamB b g := by unfold M.gamB; rw [hA, M.gmL_end (by have := h20'; omega)]
 have hq := hI.req (by omega)
 refine zx ?_
 refine Js.seq ?_
 rcases Bool.eq_false_or_eq_true (M.okB (M.Boo.mk b.rules acc)) with h45 | h45
 ·
  refine Js.region <| Q9 0 rfl rfl ?_
  refine zxc (fun v => v = .tuple #[.agg #[.int .i64 b.rules.pits, .int .i64 b.rules.seeds, .bool b.rules.stores, .bool b.rules.skip, .bool b.rules.relay, .bool b.rules.feed, .bool b.rules.again, .int .i64 b.rules.capture, .int .i64 b.rules.slam, .slice A19_11_9 acc.length c19_11_9], .int .i64 0]) rfl (fun w hw => c_impl_Book_whole (M.Boo.mk b.rules acc) (by exact ⟨_, rfl, ⟨rfl, rfl, rfl, rfl, rfl, rfl, rfl, rfl, rfl, (srow_ok lBookEntry (xs := acc) (hw.pr (i := 1) rfl) (hw.pr (i := 2) rfl) (lBookEntry_length _)), trivial⟩⟩) (r1 := hq.2.1)) (fun w9 v9 hw9 g9 => by rw [if_pos h45] at g9; exact g9) ?_
  rintro _ rfl
  have hP := M.addGame_0 hok he (by rw [← hE9]; exact h45); rw [← hE9] at hP
  have hq0 : b.rules.pits = (((M.addGame b g).1).rules).pits := rp_ hP
  have hq1 : b.rules.seeds = (((M.addGame b g).1).rules).seeds := rp_ hP
  have hq2 : b.rules.stores = (((M.addGame b g).1).rules).stores := rp_ hP
  have hq3 : b.rules.skip = (((M.addGame b g).1).rules).skip := rp_ hP
  have hq4 : b.rules.relay = (((M.addGame b g).1).rules).relay := rp_ hP
  have hq5 : b.rules.feed = (((M.addGame b g).1).rules).feed := rp_ hP
  have hq6 : b.rules.again = (((M.addGame b g).1).rules).again := rp_ hP
  have hq7 : b.rules.capture = (((M.addGame b g).1).rules).capture := rp_ hP
  have hq8 : b.rules.slam = (((M.addGame b g).1).rules).slam := rp_ hP
  have hq9 : acc = ((M.addGame b g).1).entries := rp_ hP
  have hq10 : 0 = (M.addGame b g).2 := rp_ hP
  refine Qx rfl rfl <| Qx rfl rfl <| zw 3 rfl rfl rfl ?_
  refine Qa rfl <| JL.nil ?_
  exact zro (x12.trans x19)
 refine Js.region <| Q9 0 rfl rfl ?_
 refine zxc (fun v => v = .tuple #[.agg #[.int .i64 0, .int .i64 0, .bool false, .bool false, .bool false, .bool false, .bool false, .int .i64 0, .int .i64 0, .slice none 0 0], .int .i64 5]) rfl (fun w hw => c_impl_Book_whole (M.Boo.mk b.rules acc) (by exact ⟨_, rfl, ⟨rfl, rfl, rfl, rfl, rfl, rfl, rfl, rfl, rfl, (srow_ok lBookEntry (xs := acc) (hw.pr (i := 1) rfl) (hw.pr (i := 2) rfl) (lBookEntry_length _)), trivial⟩⟩) (r1 := hq.2.1)) (fun w9 v9 hw9 g9 => by rw [if_neg (by simp [h45])] at g9; exact g9) ?_
 rintro _ rfl
 have hP := M.addGame_5 hok he (by rw [← hE9, h45]; simp)
 have hq0 : 0 = (((M.addGame b g).1).rules).pits := rp_ hP
 have hq1 : 0 = (((M.addGame b g).1).rules).seeds := rp_ hP
 have hq2 : false = (((M.addGame b g).1).rules).stores := rp_ hP
 have hq3 : false = (((M.addGame b g).1).rules).skip := rp_ hP
 have hq4 : false = (((M.addGame b g).1).rules).relay := rp_ hP
 have hq5 : false = (((M.addGame b g).1).rules).feed := rp_ hP
 have hq6 : false = (((M.addGame b g).1).rules).again := rp_ hP
 have hq7 : 0 = (((M.addGame b g).1).rules).capture := rp_ hP
 have hq8 : 0 = (((M.addGame b g).1).rules).slam := rp_ hP
 have hq9 : [] = ((M.addGame b g).1).entries := rp_ hP
 have hq10 : 5 = (M.addGame b g).2 := rp_ hP
 refine Qx rfl rfl <| Qx rfl rfl <| zw 3 rfl rfl rfl ?_
 refine Qa rfl <| JL.nil ?_
 exact zro (x12.trans x19)
theorem c_impl_NewBook (r : M.Rul) {v_r : Value} {w : World} (h_r : (Ty.agg (cRules r)).ok w v_r) : Ret Tryz.prog 38 [v_r] w (Ty.tup [Ty.agg (cBook ((M.newB r).1)), Ty.int ((M.newB r).2)]) := by
 revert v_r; apply opn
 refine enter @Tryz.func38 @Tryz.ntmps38 rfl rfl ?_
 refine zent ?_
 refine zS <| zb rfl fun b1 => za zeh fun b2 => Qa rfl <| zJ <| zS <| Q9 1 rfl rfl ?_
 refine zv rfl (fun w hw => c_impl_ValidRules r (ok_ hw)) <| Qt rfl <| JL.nil ?_
 refine zi (fun h3 h3' => ?_) fun h3 h3' => ?_
 ·
  have hE := M.newB_1 (by simpa using h3)
  have hq0 : 0 = (((M.newB r).1).rules).pits := rp_ hE
  have hq1 : 0 = (((M.newB r).1).rules).seeds := rp_ hE
  have hq2 : false = (((M.newB r).1).rules).stores := rp_ hE
  have hq3 : false = (((M.newB r).1).rules).skip := rp_ hE
  have hq4 : false = (((M.newB r).1).rules).relay := rp_ hE
  have hq5 : false = (((M.newB r).1).rules).feed := rp_ hE
  have hq6 : false = (((M.newB r).1).rules).again := rp_ hE
  have hq7 : 0 = (((M.newB r).1).rules).capture := rp_ hE
  have hq8 : 0 = (((M.newB r).1).rules).slam := rp_ hE
  have hq9 : [] = ((M.newB r).1).entries := rp_ hE
  have hq10 : 1 = (M.newB r).2 := rp_ hE
  refine zS <| Qb ?_
  refine zw 0 rfl rfl rfl ?_
  refine Qa rfl <| JL.nil ?_
  exact zro (Up.refl _ _)
 have hE := M.newB_0 (by simpa using h3)
 have hq0 : r.pits = (((M.newB r).1).rules).pits := rp_ hE
 have hq1 : r.seeds = (((M.newB r).1).rules).seeds := rp_ hE
 have hq2 : r.stores = (((M.newB r).1).rules).stores := rp_ hE
 have hq3 : r.skip = (((M.newB r).1).rules).skip := rp_ hE
 have hq4 : r.relay = (((M.newB r).1).rules).relay := rp_ hE
 have hq5 : r.feed = (((M.newB r).1).rules).feed := rp_ hE
 have hq6 : r.again = (((M.newB r).1).rules).again := rp_ hE
 have hq7 : r.capture = (((M.newB r).1).rules).capture := rp_ hE
 have hq8 : r.slam = (((M.newB r).1).rules).slam := rp_ hE
 have hq9 : [] = ((M.newB r).1).entries := rp_ hE
 have hq10 : 0 = (M.newB r).2 := rp_ hE
 refine Js.skip <| zS <| Q9 1 rfl rfl ?_
 refine Qb ?_
 refine zw 0 rfl rfl rfl ?_
 refine Qa rfl <| JL.nil ?_
 exact zro (Up.refl _ _)
theorem c_spec_PruneBook (b : M.Boo) {v_b : Value} (lo : Int) {w : World} (h_b : (Ty.agg (cBook b)).ok w v_b) (r0 : b.entries.length ≤ 4194304 := by exact om_) (r1 : ∀ x ∈ b.entries, x.pits.length ≤ 4194304 ∧ x.choices.length ≤ 4194304 := by exact om_) : Ret Tryz.prog 49 [v_b, .int .i64 lo] w (Ty.tup [Ty.agg (cBook ((M.prune b lo).1)), Ty.int ((M.prune b lo).2)]) := by
 revert v_b; apply opn
 intro A1 c1 h1 bl1 bh1
 refine enter @Tryz.func49 @Tryz.ntmps49 rfl rfl ?_
 refine zent ?_
 refine zS <| zb rfl fun b2 => za zeh fun b3 => Qa rfl <| zJ <| zS <| zv rfl (fun w hw => c_spec_l20Ok b (ok_ hw) (r1 := r1)) <| Qt rfl <| JL.nil ?_
 refine zi (fun h4 h4' => ?_) fun h4 h4' => ?_
 ·
  have hno : ¬ M.okB b = true := by simpa using h4
  have hP := M.prune_1 (lo := lo) hno
  have hq0 : 0 = (((M.prune b lo).1).rules).pits := rp_ hP
  have hq1 : 0 = (((M.prune b lo).1).rules).seeds := rp_ hP
  have hq2 : false = (((M.prune b lo).1).rules).stores := rp_ hP
  have hq3 : false = (((M.prune b lo).1).rules).skip := rp_ hP
  have hq4 : false = (((M.prune b lo).1).rules).relay := rp_ hP
  have hq5 : false = (((M.prune b lo).1).rules).feed := rp_ hP
  have hq6 : false = (((M.prune b lo).1).rules).again := rp_ hP
  have hq7 : 0 = (((M.prune b lo).1).rules).capture := rp_ hP
  have hq8 : 0 = (((M.prune b lo).1).rules).slam := rp_ hP
  have hq9 : [] = ((M.prune b lo).1).entries := rp_ hP
  have hq10 : 1 = (M.prune b lo).2 := rp_ hP
  refine zS <| Qb ?_
  refine zw 0 rfl rfl rfl ?_
  refine Qa rfl <| JL.nil ?_
  exact zro (Up.refl _ _)
 have hok : M.okB b = true := by simpa using h4
 refine Js.skip <| Js.seq <| zS <| Qm rfl <| zv rfl (fun w hw => c_spec_l00In lo 0 1000000) <| Qt rfl <| JL.nil ?_
 refine zi (fun h5 h5' => ?_) fun h5 h5' => ?_
 ·
  have hP := M.prune_2 hok (lo := lo) (by simpa using h5)
  have hq0 : 0 = (((M.prune b lo).1).rules).pits := rp_ hP
  have hq1 : 0 = (((M.prune b lo).1).rules).seeds := rp_ hP
  have hq2 : false = (((M.prune b lo).1).rules).stores := rp_ hP
  have hq3 : false = (((M.prune b lo).1).rules).skip := rp_ hP
  have hq4 : false = (((M.prune b lo).1).rules).relay := rp_ hP
  have hq5 : false = (((M.prune b lo).1).rules).feed := rp_ hP
  have hq6 : false = (((M.prune b lo).1).rules).again := rp_ hP
  have hq7 : 0 = (((M.prune b lo).1).rules).capture := rp_ hP
  have hq8 : 0 = (((M.prune b lo).1).rules).slam := rp_ hP
  have hq9 : [] = ((M.prune b lo).1).entries := rp_ hP
  have hq10 : 2 = (M.prune b lo).2 := rp_ hP
  refine zS <| Qb ?_
  refine zw 0 rfl rfl rfl ?_
  refine Qa rfl <| JL.nil ?_
  exact zro (Up.refl _ _)
 have hP := M.prune_0 hok (lo := lo) (by simpa using h5)
 refine Js.skip <| zS <| Qf fh rfl <| Q9 1 rfl rfl ?_
 refine Qb ?_
 refine za zeh fun b6 => zw 0 rfl rfl rfl ?_
 refine zJ <| zS <| Qa rfl <| JL.nil <| Js.block ?_
 refine Js.conv (fun w hw => St.nilRowS 89 2 hw) ?_
 refine Js.vals (Ts := lBookEntry []) (vs := []) (fun w => rfl) ?_
 refine zl [1, 2, 4, 6] (fun F U l os u m => ∃ (k : Nat) (acc : List M.Ent) (A7_6_9 : Option Addr) (c7_6_9 : Nat) (g7_6_9 : List Nat) (vs7_6_9 : List Value) (fl7_6_9 : List Nat), l = F [(7, .int .i64 (k : Int))] ∧ os = U [some (ownC (lBookEntry acc) vs7_6_9 fl7_6_9), some (rowO 89 2 (.slice A7_6_9 acc.length c7_6_9) acc.length vs7_6_9 g7_6_9), some (boxO b6 [.int .i64 b.rules.pits, .int .i64 b.rules.seeds, .bool b.rules.stores, .bool b.rules.skip, .bool b.rules.relay, .bool b.rules.feed, .bool b.rules.again, .int .i64 b.rules.capture, .int .i64 b.rules.slam, .slice A7_6_9 acc.length c7_6_9] 37)] ∧ (acc = M.prE lo (b.entries.take k)) ∧ (k ≤ b.entries.length) ∧ (acc.length ≤ c7_6_9) ∧ (c7_6_9 ≤ 9223372036854775807) ∧ m = b.entries.length - k) ⟨0, [], _, _, _, _, _, rfl, rfl, by rfl, zt, zu, zu, rfl⟩ ?_
 rintro _ _ u7 _ ⟨k, acc, A7_6_9, c7_6_9, g7_6_9, vs7_6_9, fl7_6_9, rfl, rfl, hA, hk, f7_2, f7_3, rfl⟩ x7
 refine zn ?_
 have hla : acc.length ≤ k := by rw [hA]; exact M.prE_lent _ _ _
 refine Js.seq <| zS <| Qm rfl <| Qf fh rfl <| Q0 4 rfl rfl rfl <| Qz rfl <| Ql rfl rfl <| JL.nil ?_
 refine zi (fun h8 h8' => ?_) fun h8 h8' => ?_
 ·
  have hkk : k < b.entries.length := by have := h8'; omega
  obtain ⟨e1_, e2_⟩ := r1 _ (M.ent_mem (es := b.entries) (k := k) hkk)
  have hy9 : b.entries[k]? = some (M.ent b.entries k) := M.ent_get (by omega)
  obtain ⟨b9, o9, A9_0, c9_0, A9_1, c9_1, he9, hr9, h9_0, h9_1, bl9_0, bh9_0, bl9_1, bh9_1⟩ := elem_BookEntry (Ty.mono _ h1 x7.vis) hy9
  refine Js.skip <| Js.seq <| Js.block <| zS <| Qf fh rfl <| Q0 4 rfl rfl rfl <| Qm rfl <| Qq (p_indexAddr el_35 rfl rfl (by omega) (by omega) he9) <| Qf fh rfl <| QC (hr9 0 _ rfl) rfl <| zcs rfl (fun w hw => c_spec_l00Own ((M.ent b.entries k).pits) (ok_ hw)) ?_
  intro A10 c10 bl10 bh10
  refine Qb ?_
  refine za zeh fun b11 => zw 0 rfl rfl rfl ?_
  refine zJ <| zS <| Qa rfl <| JL.nil <| Js.block ?_
  refine Js.conv (fun w hw => St.nilRowS 81 3 hw) ?_
  refine zl [1, 2, 4, 6, 7, 8] (fun F U l os u m => ∃ (j : Nat) (cs : List M.Cho) (A12_8_1 : Option Addr) (c12_8_1 : Nat) (g12_8_1 : List Nat), l = F [(9, .int .i64 (j : Int))] ∧ os = U [some (rowO 81 3 (.slice A12_8_1 cs.length c12_8_1) cs.length (fltV vcChoice cs) g12_8_1), some (boxO b11 [.slice A10 (((M.ent b.entries k).pits).length) c10, .slice A12_8_1 cs.length c12_8_1] 89)] ∧ (cs = M.prC lo ((M.ent b.entries k).choices.take j)) ∧ (j ≤ (M.ent b.entries k).choices.length) ∧ (cs.length ≤ c12_8_1) ∧ (c12_8_1 ≤ 9223372036854775807) ∧ m = (M.ent b.entries k).choices.length - j) ⟨0, [], _, _, _, rfl, rfl, by rfl, zt, zu, zu, rfl⟩ ?_
  rintro _ _ u12 _ ⟨j, cs, A12_8_1, c12_8_1, g12_8_1, rfl, rfl, hC, hj, f12_2, f12_3, rfl⟩ x12
  refine zn ?_
  have hlc : cs.length ≤ j := by rw [hC]; exact M.prC_lent _ _ _
  have hy13 : b.entries[k]? = some (M.ent b.entries k) := M.ent_get (by omega)
  obtain ⟨b13, o13, A13_0, c13_0, A13_1, c13_1, he13, hr13, h13_0, h13_1, bl13_0, bh13_0, bl13_1, bh13_1⟩ := elem_BookEntry (Ty.mono _ h1 (x7.vis.trans x12.vis)) hy13
  refine Js.seq <| zS <| Qm rfl <| Qf fh rfl <| Q0 7 rfl rfl rfl <| Qm rfl <| Qq (p_indexAddr el_35 rfl rfl (by omega) (by omega) he13) <| Qf fh rfl <| QC (hr13 1 _ rfl) rfl <| Qz rfl <| Ql rfl rfl <| JL.nil ?_
  refine zi (fun h14 h14' => ?_) fun h14 h14' => ?_
  ·
   have hjj : j < (M.ent b.entries k).choices.length := by have := h14'; omega
   have hy15 : b.entries[k]? = some (M.ent b.entries k) := M.ent_get (by omega)
   obtain ⟨b15, o15, A15_0, c15_0, A15_1, c15_1, he15, hr15, h15_0, h15_1, bl15_0, bh15_0, bl15_1, bh15_1⟩ := elem_BookEntry (Ty.mono _ h1 (x7.vis.trans x12.vis)) hy15
   have hy16 : ((M.ent b.entries k).choices)[j]? = some (M.cho ((M.ent b.entries k).choices) j) := M.cho_get (by omega)
   obtain ⟨b16, o16, he16, hr16⟩ := elem_Choice h15_1 hy16
   refine Js.skip <| Js.seq <| Js.block <| zS <| Qf fh rfl <| Q0 7 rfl rfl rfl <| Qm rfl <| Qq (p_indexAddr el_35 rfl rfl (by omega) (by omega) he15) <| Qf fh rfl <| QC (hr15 1 _ rfl) rfl <| Qm rfl <| Qq (p_indexAddr el_67 rfl rfl (by omega) (by omega) he16) <| QS 0 hr16 rfl ?_
   refine za zeh fun b17 => zw 0 rfl rfl rfl ?_
   refine zN <| Qf fh rfl <| Q0 0 rfl rfl rfl <| Qm rfl <| Qh rfl rfl <| JL.nil ?_
   refine zi (fun h18 h18' => ?_) fun h18 h18' => ?_
   ·
    have hC2 := M.prC_yes (lo := lo) hjj (by have := h18'; omega)
    rw [← hC] at hC2
    have hC2 := hC2.symm
    refine Js.region <| Qf fh rfl <| Q0 2 rfl rfl rfl <| Q9 0 rfl rfl ?_
    refine zbs fun b19 => ?_
    refine JL.e (e_append (i := 2) (n' := (cs ++ [(M.cho ((M.ent b.entries k).choices) j)]).length) (vs' := fltV vcChoice (cs ++ [(M.cho ((M.ent b.entries k).choices) j)])) el_67 rfl rfl rfl rfl (src_row (i := 0) und_67 rfl rfl) (by omega) (by omega) ln2_ (by first | rfl | exact fltV_app _ _ _ | exact fltV_snoc _ _ _ | (simp [fltV]; done))) ?_
    rintro v21 _ _ ⟨⟨g22, rfl⟩, rfl⟩ _
    refine JL.fact (row_form' (i := 2) rfl) (fun hf23 => ?_)
    obtain ⟨A23, c23, rfl, bl23, bh23⟩ := hf23
    refine znl ?_
    refine Qf fh rfl <| zw 3 rfl rfl rfl ?_
    refine JL.nil <| Js.blockEnd <| Js.region <| Qm rfl <| Qp rfl rfl <| Qa rfl <| JL.nil ?_
    refine zd [2, 2, 2, 2, 2, 2, 2, 2] rfl fun u24 x24 => ?_
    exact zag ⟨j + 1, cs ++ [(M.cho ((M.ent b.entries k).choices) j)], _, _, _, rfl, rfl, by exact hC2, zt, zu, zu, rfl⟩ (x12.trans x24)
   have hC2 := M.prC_no (lo := lo) hjj (by have := h18'; omega)
   rw [← hC] at hC2
   have hC2 := hC2.symm
   refine Js.skip <| Js.blockEnd <| Js.region <| Qm rfl <| Qp rfl rfl <| Qa rfl <| JL.nil ?_
   refine zd [1, 1, 1, 1, 1, 1, 1, 1] rfl fun u25 x25 => ?_
   exact zag ⟨j + 1, cs, _, _, _, rfl, rfl, by exact hC2, zt, zu, zu, rfl⟩ (x12.trans x25)
  have hC3 : cs = M.prC lo (M.ent b.entries k).choices := by rw [hC, List.take_of_length_le (by have := h14'; omega)]
  refine zx ?_
  refine zS <| Qf fh rfl <| Q0 1 rfl rfl rfl <| Qz rfl <| Qg rfl rfl <| JL.nil ?_
  refine zi (fun h26 h26' => ?_) fun h26 h26' => ?_
  ·
   have hA2 := M.prE_yes (lo := lo) hkk (by rw [← hC3]; have := h26'; omega)
   rw [← hA, ← hC3] at hA2
   have hA2 := hA2.symm
   refine Js.region <| Qf fh rfl <| Q0 5 rfl rfl rfl <| Q9 1 rfl rfl ?_
   refine zbs fun b27 => ?_
   refine JL.e (e_append (i := 5) (n' := (acc ++ [(M.Ent.mk ((M.ent b.entries k).pits) cs)]).length) (vs' := vs7_6_9 ++ [.slice A10 (((M.ent b.entries k).pits).length) c10, .slice A12_8_1 cs.length c12_8_1]) el_35 rfl rfl rfl rfl (src_row (i := 0) und_35 rfl rfl) (by omega) (by omega) ln2_ (rfl)) ?_
   rintro v29 _ _ ⟨⟨g30, rfl⟩, rfl⟩ _
   refine JL.fact (row_form' (i := 5) rfl) (fun hf31 => ?_)
   obtain ⟨A31, c31, rfl, bl31, bh31⟩ := hf31
   refine znl ?_
   refine Qf fh rfl <| zw 6 rfl rfl rfl ?_
   refine JL.nil ?_
   refine Js.pk (cBookEntry (M.Ent.mk ((M.ent b.entries k).pits) cs)) [.slice A10 (((M.ent b.entries k).pits).length) c10, .slice A12_8_1 cs.length c12_8_1] (fun f33 G33 => ?_) (by exact (gv_agg (gvc gv_ (gvc (gv_flat lChoice (xs := cs) po_ (by first | rfl | (simp [fltV]; done)) (by first | with_reducible rfl | assumption | rfl)) gvn))))
   refine zn ?_
   refine Js.joinL (i := 4) (j := 0) (Vs := lBookEntry (acc ++ [(M.Ent.mk ((M.ent b.entries k).pits) cs)])) rfl rfl (lBookEntry_snoc _ _) (fun f34 => ?_)
   refine zn ?_
   refine Js.blockEnd <| Js.region <| Qm rfl <| Qp rfl rfl <| Qa rfl <| JL.nil ?_
   refine zd [0, 3, 3, 3, 3] rfl fun u35 x35 => ?_
   exact zag ⟨k + 1, acc ++ [(M.Ent.mk ((M.ent b.entries k).pits) cs)], _, _, _, _, _, rfl, rfl, by exact hA2, zt, zu, zu, rfl⟩ ((x7.trans x12).trans x35)
  have hA2 := M.prE_no (lo := lo) hkk (by rw [← hC3]; have := h26'; omega)
  rw [← hA] at hA2
  have hA2 := hA2.symm
  refine Js.skip <| Js.blockEnd <| Js.region <| Qm rfl <| Qp rfl rfl <| Qa rfl <| JL.nil ?_
  refine zd [3, 3, 3, 3, 3] rfl fun u36 x36 => ?_
  exact zag ⟨k + 1, acc, _, _, _, _, _, rfl, rfl, by exact hA2, zt, zu, zu, rfl⟩ ((x7.trans x12).trans x36)
 have hE : acc = M.prE lo b.entries := by rw [hA, List.take_of_length_le (by have := h8'; omega)]
 rw [← hE] at hP
 refine zx ?_
 have hq0 : b.rules.pits = (((M.prune b lo).1).rules).pits := rp_ hP
 have hq1 : b.rules.seeds = (((M.prune b lo).1).rules).seeds := rp_ hP
 have hq2 : b.rules.stores = (((M.prune b lo).1).rules).stores := rp_ hP
 have hq3 : b.rules.skip = (((M.prune b lo).1).rules).skip := rp_ hP
 have hq4 : b.rules.relay = (((M.prune b lo).1).rules).relay := rp_ hP
 have hq5 : b.rules.feed = (((M.prune b lo).1).rules).feed := rp_ hP
 have hq6 : b.rules.again = (((M.prune b lo).1).rules).again := rp_ hP
 have hq7 : b.rules.capture = (((M.prune b lo).1).rules).capture := rp_ hP
 have hq8 : b.rules.slam = (((M.prune b lo).1).rules).slam := rp_ hP
 have hq9 : acc = ((M.prune b lo).1).entries := rp_ hP
 have hq10 : 0 = (M.prune b lo).2 := rp_ hP
 refine zS <| Q9 2 rfl rfl ?_
 refine zw 3 rfl rfl rfl ?_
 refine Qa rfl <| JL.nil ?_
 exact zro x7
theorem c_spec_l20Score (p wn : Int) {w : World}  : RetV Tryz.prog 85 [.int .i64 p, .int .i64 wn] w (.int .i64 (M.scS p wn)) := by
 refine enter @Tryz.func85 @Tryz.ntmps85 rfl rfl ?_
 refine zent ?_
 refine zS <| Qa rfl <| zJ <| zS <| Qm rfl <| JL.nil <| Js.block <| zS <| Qe rfl rfl <| Qa rfl <| JL.nil ?_
 refine zi (fun h1 h1' => ?_) fun h1 h1' => ?_
 ·
  refine zS <| Qa rfl <| JL.nil ?_
  refine zR (Up.refl _ _) ?_
  simp_all [M.scS, outV]
 refine zS <| Qm rfl <| Qe rfl rfl <| Qa rfl <| JL.nil ?_
 refine zi (fun h2 h2' => ?_) fun h2 h2' => ?_
 ·
  refine zS <| Qa rfl <| JL.nil ?_
  refine zR (Up.refl _ _) ?_
  simp_all [M.scS, outV]
 refine Js.skip <| Js.blockEnd <| zS <| Qa rfl <| JL.nil ?_
 refine zR (Up.refl _ _) ?_
 simp_all [M.scS, outV]
theorem c_spec_AddGame (b : M.Boo) {v_b : Value} (g : M.Gam) {v_g : Value} {w : World} (h_b : (Ty.agg (cBook b)).ok w v_b) (h_g : (Ty.agg (cGame g)).ok w v_g) (r0 : b.entries.length + M.totE b.entries ≤ 1048576 := by exact om_) (r1 : g.start.pits.length ≤ 4194304 := by exact om_) (r2 : g.start.stores.length ≤ 4194304 := by exact om_) (r3 : g.moves.length ≤ 4194304 := by exact om_) (r4 : g.now.pits.length ≤ 4194304 := by exact om_) (r5 : g.now.stores.length ≤ 4194304 := by exact om_) : Ret Tryz.prog 25 [v_b, v_g] w (Ty.tup [Ty.agg (cBook ((M.addGame b g).1)), Ty.int ((M.addGame b g).2)]) := by
 have sb := M.totE_small (es := b.entries) (n := 4194304) (by omega)
 revert v_b; apply opn
 intro A1 c1 h1 bl1 bh1
 revert v_g; apply opn
 intro A2 c2 h2 bl2 bh2 A3 c3 h3 bl3 bh3 A4 c4 h4 bl4 bh4 A5 c5 h5 bl5 bh5 A6 c6 h6 bl6 bh6
 refine enter @Tryz.func25 @Tryz.ntmps25 rfl rfl ?_
 refine zent ?_
 refine zS <| zb rfl fun b7 => zb rfl fun b8 => za zeh fun b9 => Qa rfl <| zJ <| zS <| zv rfl (fun w hw => c_spec_l20Ok b (ok_ hw) (r1 := sb)) <| Qt rfl <| Qm rfl <| zgv (Gd.f1 rfl rfl rfl) (fun hc => rfl) (fun hc => (fun w hw => c_spec_l08Ok g (ok_ hw) (r0 := (by have hc9 := hc; (try simp only [Bool.not_eq_true', Bool.not_eq_false'] at hc9); omega)) (r1 := (by have hc9 := hc; (try simp only [Bool.not_eq_true', Bool.not_eq_false'] at hc9); omega)) (r2 := (by have hc9 := hc; (try simp only [Bool.not_eq_true', Bool.not_eq_false'] at hc9); omega)) (r3 := (by have hc9 := hc; (try simp only [Bool.not_eq_true', Bool.not_eq_false'] at hc9); omega)) (r4 := (by have hc9 := hc; (try simp only [Bool.not_eq_true', Bool.not_eq_false'] at hc9); omega)))) ?_
 refine zg (Gd.f1 rfl rfl rfl) (fun hc => p_not (gh hc rfl)) <| Qq (p_pickOr rfl rfl rfl) <| JL.nil ?_
 refine zi (fun h10 h10' => ?_) fun h10 h10' => ?_
 ·
  have hno : ¬ (M.okB b = true ∧ M.okG g = true) := by have h9 := h10; rintro ⟨a1, a2⟩; rw [a1, a2] at h9; simp at h9
  have hP := M.addGame_1 hno
  have hq0 : 0 = (((M.addGame b g).1).rules).pits := rp_ hP
  have hq1 : 0 = (((M.addGame b g).1).rules).seeds := rp_ hP
  have hq2 : false = (((M.addGame b g).1).rules).stores := rp_ hP
  have hq3 : false = (((M.addGame b g).1).rules).skip := rp_ hP
  have hq4 : false = (((M.addGame b g).1).rules).relay := rp_ hP
  have hq5 : false = (((M.addGame b g).1).rules).feed := rp_ hP
  have hq6 : false = (((M.addGame b g).1).rules).again := rp_ hP
  have hq7 : 0 = (((M.addGame b g).1).rules).capture := rp_ hP
  have hq8 : 0 = (((M.addGame b g).1).rules).slam := rp_ hP
  have hq9 : [] = ((M.addGame b g).1).entries := rp_ hP
  have hq10 : 1 = (M.addGame b g).2 := rp_ hP
  refine zS <| Qb ?_
  refine zw 0 rfl rfl rfl ?_
  refine Qa rfl <| JL.nil ?_
  exact zro (Up.refl _ _)
 have hok : M.okB b = true ∧ M.okG g = true := by have h9 := h10; simpa using h9
 obtain ⟨k1, k2, k3, k4, k5, k6, k7, k8, k9⟩ := M.okG_parts hok.2
 (have k12 : (M.hist g.start (M.runs g.rules g.start g.moves)).length = g.moves.length + 1 := by rw [M.hist_length, k8])
 refine Js.skip <| zS <| Q9 1 rfl rfl ?_
 refine zv rfl (fun w hw => c_spec_WinnerOf g (ok_ hw)) <| Qm rfl <| Qx rfl rfl <| Qx rfl rfl <| Qa rfl <| Qa rfl <| zJ <| zS <| Qm rfl <| Qd rfl rfl <| Qm rfl <| zg (Gd.f1 rfl rfl rfl) (fun hc => p_fieldAddr fld_37_0.h rfl) <| zgq (Gd.f1 rfl rfl rfl) (fun hc => L9 2 (gh hc rfl) rfl) <| zg (Gd.f1 rfl rfl rfl) (fun hc => p_fieldAddr fld_56_0.h rfl) ?_
 refine zgq (Gd.f1 rfl rfl rfl) (fun hc => L9 1 (gh hc rfl) rfl) <| zg (Gd.f1 rfl rfl rfl) (fun hc => p_neqS (by kernel_rfl) (fun w => eqs_Rules b.rules g.rules w) (gh hc rfl) (gh hc rfl)) <| Qq (p_pickOr rfl rfl rfl) <| JL.nil ?_
 refine zi (fun h11 h11' => ?_) fun h11 h11' => ?_
 ·
  have hne : ¬ (M.endC g = 0 ∧ g.rules = b.rules) := by have h9 := h11; rintro ⟨a1, a2⟩; rw [a1, a2] at h9; simp at h9
  have hP := M.addGame_6 hok hne
  have hq0 : 0 = (((M.addGame b g).1).rules).pits := rp_ hP
  have hq1 : 0 = (((M.addGame b g).1).rules).seeds := rp_ hP
  have hq2 : false = (((M.addGame b g).1).rules).stores := rp_ hP
  have hq3 : false = (((M.addGame b g).1).rules).skip := rp_ hP
  have hq4 : false = (((M.addGame b g).1).rules).relay := rp_ hP
  have hq5 : false = (((M.addGame b g).1).rules).feed := rp_ hP
  have hq6 : false = (((M.addGame b g).1).rules).again := rp_ hP
  have hq7 : 0 = (((M.addGame b g).1).rules).capture := rp_ hP
  have hq8 : 0 = (((M.addGame b g).1).rules).slam := rp_ hP
  have hq9 : [] = ((M.addGame b g).1).entries := rp_ hP
  have hq10 : 6 = (M.addGame b g).2 := rp_ hP
  refine zS <| Qb ?_
  refine zw 0 rfl rfl rfl ?_
  refine Qa rfl <| JL.nil ?_
  exact zro (Up.refl _ _)
 have he : M.endC g = 0 ∧ g.rules = b.rules := by have h9 := h11; simp at h9; exact ⟨h9.1, h9.2.symm⟩
 refine Js.skip <| zS <| zc rfl (fun w hw => c_spec_l20Copy b (ok_ hw) (r1 := sb)) ?_
 intro A13 c13 vs13 f13 bl13 bh13
 refine za zeh fun b14 => zw 0 rfl rfl rfl ?_
 refine zN <| Qf fh rfl <| Qf fh rfl <| Qf fh rfl <| Q0 4 rfl rfl rfl <| zp rfl (fun w hw => c_spec_l08Run g.rules g.start g.moves ⟨_, _, [.int .i64 g.rules.pits, .int .i64 g.rules.seeds, .bool g.rules.stores, .bool g.rules.skip, .bool g.rules.relay, .bool g.rules.feed, .bool g.rules.again, .int .i64 g.rules.capture, .int .i64 g.rules.slam], rfl, ⟨rfl, rfl, rfl, rfl, rfl, rfl, rfl, rfl, rfl, trivial⟩, Mem.boxR (i := 4) rfl 0 9 _ hw⟩ ⟨_, _, [.slice A2 g.start.pits.length c2, .slice A3 g.start.stores.length c3, .int .i64 g.start.player], rfl, ⟨(ok_ hw), (ok_ hw), rfl, trivial⟩, Mem.boxR (i := 4) rfl 9 3 _ hw⟩ (ok_ hw)) ?_
 intro u15 x15 A16 c16 h16 bl16 bh16 A17 c17 h17 bl17 bh17
 refine Qm rfl <| Qx rfl rfl <| Qx rfl rfl <| Qa rfl <| Qa rfl <| zJ <| zS <| Qa rfl <| JL.nil <| Js.block ?_
 refine zl [3, 4, 6, 8, 9] (fun F U l os u m => ∃ (k : Nat) (acc : List M.Ent) (A18_8_9 : Option Addr) (c18_8_9 : Nat) (g18_8_9 : List Nat) (vs18_8_9 : List Value) (fl18_8_9 : List Nat), l = F [(11, .int .i64 (k : Int))] ∧ os = U [some (boxO b14 [.int .i64 b.rules.pits, .int .i64 b.rules.seeds, .bool b.rules.stores, .bool b.rules.skip, .bool b.rules.relay, .bool b.rules.feed, .bool b.rules.again, .int .i64 b.rules.capture, .int .i64 b.rules.slam, .slice A18_8_9 acc.length c18_8_9] 37), some (rowO 89 2 (.slice A18_8_9 acc.length c18_8_9) acc.length vs18_8_9 g18_8_9), some (ownC (lBookEntry acc) vs18_8_9 fl18_8_9)] ∧ (acc = M.gmE g b.entries ((M.gmL g).take k)) ∧ (k ≤ g.moves.length) ∧ (k ≤ 20) ∧ (M.MI k acc) ∧ (acc.length ≤ c18_8_9) ∧ (c18_8_9 ≤ 9223372036854775807) ∧ m = 20 - k) ⟨0, b.entries, _, _, _, _, _, rfl, rfl, by rfl, zt, zt, by exact M.MI_0 hok.1 r0, zu, zu, rfl⟩ ?_
 rintro _ _ u18 _ ⟨k, acc, A18_8_9, c18_8_9, g18_8_9, vs18_8_9, fl18_8_9, rfl, rfl, hA, hk, hk2, hI, f18_4, f18_5, rfl⟩ x18
 refine zn ?_
 refine Js.seq <| zS <| Qm rfl <| Qf fh rfl <| Q0 4 rfl rfl rfl <| Qz rfl <| Ql rfl rfl <| Qm rfl <| zg (Gd.t1 rfl rfl rfl) (fun hc => p_move rfl) <| zg (Gd.t1 rfl rfl rfl) (fun hc => p_lss (gh hc rfl) rfl) <| Qq (p_pickAnd rfl rfl rfl) <| JL.nil ?_
 refine zi (fun h19 h19' => ?_) fun h19 h19' => ?_
 ·
  have hkm : k < g.moves.length := by have := h19'; omega
  have hk20 : k < 20 := by have := h19'; omega
  obtain ⟨ye20, hye20⟩ : ∃ x, (M.hist g.start (M.runs g.rules g.start g.moves))[k]? = some x := ⟨_, List.getElem?_eq_getElem (by omega)⟩
  have hyk := M.hist_ok hok.2 hye20; have hyl := M.okP_len hyk; have hv := M.viewP_16 hyk; have hs9 := M.scS_eq (g := g) hyk; have hs8 := M.scS_bd ye20.player (M.winner g); have hA2 := M.gmE_step (es := b.entries) (show (M.playedP g)[k]? = some ye20 by rw [k6]; exact hye20) hkm hk20; rw [← hA, ← hs9] at hA2; have hA3 := hA2.symm
  have hq := hI.req (by omega)
  have hy21 := hye20
  obtain ⟨b21, o21, A21_0, c21_0, A21_1, c21_1, he21, hr21, h21_0, h21_1, bl21_0, bh21_0, bl21_1, bh21_1⟩ := elem_Position (Ty.mono _ h16 x18.vis) hy21
  refine Js.skip <| Js.seq <| Js.block <| zS <| Qm rfl <| Qm rfl <| Qq (p_indexAddr el_126 rfl rfl (by omega) (by omega) he21) <| Qa rfl <| JL.nil ?_
  refine zdr [16] ?_
  refine jF 0 fld_56_0 rfl rfl ?_
  refine jM 1 rfl rfl ?_
  refine jF 4 fld_56_2 rfl rfl ?_
  refine jB 5 4 ty_27 rfl rfl rfl rfl ?_
  refine jM 6 rfl rfl ?_
  obtain ⟨b22, o22, he22, hc22⟩ := ints_elem (Ty.mono _ h4 (x15.vis.trans x18.vis)) (i := k) (by omega)
  refine jI 7 el_27 rfl rfl rfl he22 ?_
  refine jW 8 ty_2 rfl rfl hc22.vis ?_
  refine jM 9 rfl rfl ?_
  refine jN 10 rfl rfl ?_
  refine jF 11 fld_39_2 rfl rfl ?_
  refine jW 12 ty_2 rfl rfl (fun hv => (hr21.vis hv) 2 _ rfl) ?_
  refine jM 13 rfl rfl ?_
  refine y1 2 ?_
  refine yp rfl rfl (fun w hw => c_spec_l04View g.rules ye20 ⟨_, _, [.int .i64 g.rules.pits, .int .i64 g.rules.seeds, .bool g.rules.stores, .bool g.rules.skip, .bool g.rules.relay, .bool g.rules.feed, .bool g.rules.again, .int .i64 g.rules.capture, .int .i64 g.rules.slam], rfl, ⟨rfl, rfl, rfl, rfl, rfl, rfl, rfl, rfl, rfl, trivial⟩, Mem.boxR (i := 4) rfl 0 9 _ hw⟩ (ok_ hw) (r0 := (Or.inl hyk))) ?_
  intro u23 x23 A24 c24 h24 bl24 bh24 A25 c25 h25 bl25 bh25
  refine JH.p 3 rfl (p_field1 fld_39_0.h rfl rfl) ?_
  refine y1 14 ?_
  refine yv rfl rfl (fun w hw => c_spec_l20Score ye20.player (M.winner g)) ?_
  refine JH.p 15 rfl (q_bld) ?_
  refine y1 16 ?_
  refine yB 3 sp_ rfl rfl (fun w hb hw => c_spec_l20Add b.rules acc ((M.viewP g.rules ye20).pits) (M.Cho.mk (M.nth g.moves k) 1 (M.scS ye20.player (M.winner g))) hb (ok_ hw) (ok_ hw) (r1 := hq.2.1) (r2 := hq.2.2)) ?_
  rintro _ _ G26 ⟨A26b_9, c26b_9, g26b_9, vs26b_9, f26b_9, rfl, rfl, bl26_0, bl26_1⟩
  refine znh ?_
  refine yd ?_
  refine Js.blockEnd <| Js.region <| Qm rfl <| Qp rfl rfl <| Qa rfl <| JL.nil ?_
  refine zd [0, 0, 0, 1, 1, 1] rfl fun u27 x27 => ?_
  exact zag ⟨k + 1, M.addE acc ((M.viewP g.rules ye20).pits) (M.Cho.mk (M.nth g.moves k) 1 (M.scS ye20.player (M.winner g))), _, _, _, _, _, rfl, rfl, by exact hA3, by omega, by omega, by exact hI.step (by omega) (by simp) (by simp) hs8.1 (by have := hs8.2; simp only; omega), zu, zu, rfl⟩ ((x18.trans x23).trans x27)
 have hE9 : (M.Boo.mk b.rules acc) = M.gamB b g := by unfold M.gamB; rw [hA, M.gmL_end (by have := h19'; omega)]
 have hq := hI.req (by omega)
 refine zx ?_
 refine Js.seq ?_
 rcases Bool.eq_false_or_eq_true (M.okB (M.Boo.mk b.rules acc)) with h28 | h28
 ·
  refine Js.region <| Q9 0 rfl rfl ?_
  refine zxc (fun v => v = .tuple #[.agg #[.int .i64 b.rules.pits, .int .i64 b.rules.seeds, .bool b.rules.stores, .bool b.rules.skip, .bool b.rules.relay, .bool b.rules.feed, .bool b.rules.again, .int .i64 b.rules.capture, .int .i64 b.rules.slam, .slice A18_8_9 acc.length c18_8_9], .int .i64 0]) rfl (fun w hw => c_spec_l20Full (M.Boo.mk b.rules acc) (by exact ⟨_, rfl, ⟨rfl, rfl, rfl, rfl, rfl, rfl, rfl, rfl, rfl, (srow_ok lBookEntry (xs := acc) (hw.pr (i := 1) rfl) (hw.pr (i := 2) rfl) (lBookEntry_length _)), trivial⟩⟩) (r1 := hq.2.1)) (fun w9 v9 hw9 g9 => by rw [if_pos h28] at g9; exact g9) ?_
  rintro _ rfl
  have hP := M.addGame_0 hok he (by rw [← hE9]; exact h28); rw [← hE9] at hP
  have hq0 : b.rules.pits = (((M.addGame b g).1).rules).pits := rp_ hP
  have hq1 : b.rules.seeds = (((M.addGame b g).1).rules).seeds := rp_ hP
  have hq2 : b.rules.stores = (((M.addGame b g).1).rules).stores := rp_ hP
  have hq3 : b.rules.skip = (((M.addGame b g).1).rules).skip := rp_ hP
  have hq4 : b.rules.relay = (((M.addGame b g).1).rules).relay := rp_ hP
  have hq5 : b.rules.feed = (((M.addGame b g).1).rules).feed := rp_ hP
  have hq6 : b.rules.again = (((M.addGame b g).1).rules).again := rp_ hP
  have hq7 : b.rules.capture = (((M.addGame b g).1).rules).capture := rp_ hP
  have hq8 : b.rules.slam = (((M.addGame b g).1).rules).slam := rp_ hP
  have hq9 : acc = ((M.addGame b g).1).entries := rp_ hP
  have hq10 : 0 = (M.addGame b g).2 := rp_ hP
  refine Qx rfl rfl <| Qx rfl rfl <| zw 3 rfl rfl rfl ?_
  refine Qa rfl <| JL.nil ?_
  exact zro (x15.trans x18)
 refine Js.region <| Q9 0 rfl rfl ?_
 refine zxc (fun v => v = .tuple #[.agg #[.int .i64 0, .int .i64 0, .bool false, .bool false, .bool false, .bool false, .bool false, .int .i64 0, .int .i64 0, .slice none 0 0], .int .i64 5]) rfl (fun w hw => c_spec_l20Full (M.Boo.mk b.rules acc) (by exact ⟨_, rfl, ⟨rfl, rfl, rfl, rfl, rfl, rfl, rfl, rfl, rfl, (srow_ok lBookEntry (xs := acc) (hw.pr (i := 1) rfl) (hw.pr (i := 2) rfl) (lBookEntry_length _)), trivial⟩⟩) (r1 := hq.2.1)) (fun w9 v9 hw9 g9 => by rw [if_neg (by simp [h28])] at g9; exact g9) ?_
 rintro _ rfl
 have hP := M.addGame_5 hok he (by rw [← hE9, h28]; simp)
 have hq0 : 0 = (((M.addGame b g).1).rules).pits := rp_ hP
 have hq1 : 0 = (((M.addGame b g).1).rules).seeds := rp_ hP
 have hq2 : false = (((M.addGame b g).1).rules).stores := rp_ hP
 have hq3 : false = (((M.addGame b g).1).rules).skip := rp_ hP
 have hq4 : false = (((M.addGame b g).1).rules).relay := rp_ hP
 have hq5 : false = (((M.addGame b g).1).rules).feed := rp_ hP
 have hq6 : false = (((M.addGame b g).1).rules).again := rp_ hP
 have hq7 : 0 = (((M.addGame b g).1).rules).capture := rp_ hP
 have hq8 : 0 = (((M.addGame b g).1).rules).slam := rp_ hP
 have hq9 : [] = ((M.addGame b g).1).entries := rp_ hP
 have hq10 : 5 = (M.addGame b g).2 := rp_ hP
 refine Qx rfl rfl <| Qx rfl rfl <| zw 3 rfl rfl rfl ?_
 refine Qa rfl <| JL.nil ?_
 exact zro (x15.trans x18)
theorem c_laws_f6big (code : Nat) {v_code : Value} {w : World} (h_code : (Ty.bytes 5 code).ok w v_code) : RetV Tryz.prog 30 [v_code] w (.bool (decide (4096 < (code : Int)))) := by
 revert v_code; apply opn
 intro A1 c1 h1 bl1 bh1
 have h_code := h1
 refine enter @Tryz.func30 @Tryz.ntmps30 rfl rfl ?_
 refine zent ?_
 refine zS <| Qa rfl <| zN <| Qm rfl <| Qz rfl <| Qg rfl rfl <| Qa rfl <| JL.nil ?_
 exact zr (Up.refl _ _)
end Go.Proofs.YtcmfnlleikcpnaaGreat

/- Walks: G8. -/
import Derived.Test.YtejnmechnhgmfaaGreatZhA2
import Derived.Test.YtejnmechnhgmfaaGreatZhA7
import Derived.Test.YtejnmechnhgmfaaGreatZhA1
import Derived.Test.YtejnmechnhgmfaaGreatZhA5
import Derived.Test.YtejnmechnhgmfaaGreatZhA0
import Derived.Test.YtejnmechnhgmfaaGreatZhA6
import Derived.Test.YtejnmechnhgmfaaGreatZhA3
set_option linter.unusedSimpArgs false
set_option linter.unusedVariables false
set_option maxRecDepth 100000
attribute [local irreducible] Go.Proofs.YtejnmechnhgmfaaGreat.gv
namespace Go.Proofs.YtejnmechnhgmfaaGreat
open Go.RowKit

set_option maxHeartbeats 2000000 in
theorem c_impl_PlayMoves (g : M.Gam) {v_g : Value} (moves : List Int) {v_moves : Value} {w : World} (h_g : (Ty.agg (cGame g)).ok w v_g) (h_moves : (Ty.ints 2 moves).ok w v_moves) (r0 : g.start.pits.length ≤ 4194304 := by exact om_) (r1 : g.start.stores.length ≤ 4194304 := by exact om_) (r2 : g.moves.length ≤ 4194304 := by exact om_) (r3 : g.now.pits.length ≤ 4194304 := by exact om_) (r4 : g.now.stores.length ≤ 4194304 := by exact om_) (r5 : moves.length ≤ 4194304 := by exact om_) : Ret Tryz.prog 19 [v_g, v_moves] w (Ty.tup [Ty.agg (cGame ((M.playsR g moves).1)), Ty.int ((M.playsR g moves).2.1 : Int), Ty.int ((M.playsR g moves).2.2)]) := by
 revert v_g; apply opn
 intro A1 c1 h1 bl1 bh1 A2 c2 h2 bl2 bh2 A3 c3 h3 bl3 bh3 A4 c4 h4 bl4 bh4 A5 c5 h5 bl5 bh5
 revert v_moves; apply opn
 intro A6 c6 h6 bl6 bh6
 have h_moves := h6
 refine enter @Tryz.func19 @Tryz.ntmps19 rfl rfl ?_
 refine zent ?_
 refine zS <| zb rfl fun b7 => za zeh fun b8 => Qa rfl <| Qa rfl <| zJ <| zS <| Q9 1 rfl rfl ?_
 refine zv rfl (fun w hw => c_impl_ValidGame g (ok_ hw)) <| Qt rfl <| JL.nil ?_
 refine zi (fun h9 h9' => ?_) fun h9 h9' => ?_
 ·
  have hno : M.okG g = false := by simpa using h9
  have hC := M.okC_no hno
  have hE := M.playsR_no (moves := moves) hno
  have hq0 : 0 = (((M.playsR g moves).1).rules).pits := by first | (rw [hE]; done) | (rw [hE]; rfl)
  have hq1 : 0 = (((M.playsR g moves).1).rules).seeds := by first | (rw [hE]; done) | (rw [hE]; rfl)
  have hq2 : false = (((M.playsR g moves).1).rules).stores := by first | (rw [hE]; done) | (rw [hE]; rfl)
  have hq3 : false = (((M.playsR g moves).1).rules).skip := by first | (rw [hE]; done) | (rw [hE]; rfl)
  have hq4 : false = (((M.playsR g moves).1).rules).relay := by first | (rw [hE]; done) | (rw [hE]; rfl)
  have hq5 : false = (((M.playsR g moves).1).rules).feed := by first | (rw [hE]; done) | (rw [hE]; rfl)
  have hq6 : false = (((M.playsR g moves).1).rules).again := by first | (rw [hE]; done) | (rw [hE]; rfl)
  have hq7 : 0 = (((M.playsR g moves).1).rules).capture := by first | (rw [hE]; done) | (rw [hE]; rfl)
  have hq8 : 0 = (((M.playsR g moves).1).rules).slam := by first | (rw [hE]; done) | (rw [hE]; rfl)
  have hq9 : [] = (((M.playsR g moves).1).start).pits := by first | (rw [hE]; done) | (rw [hE]; rfl)
  have hq10 : [] = (((M.playsR g moves).1).start).stores := by first | (rw [hE]; done) | (rw [hE]; rfl)
  have hq11 : 0 = (((M.playsR g moves).1).start).player := by first | (rw [hE]; done) | (rw [hE]; rfl)
  have hq12 : [] = ((M.playsR g moves).1).moves := by first | (rw [hE]; done) | (rw [hE]; rfl)
  have hq13 : [] = (((M.playsR g moves).1).now).pits := by first | (rw [hE]; done) | (rw [hE]; rfl)
  have hq14 : [] = (((M.playsR g moves).1).now).stores := by first | (rw [hE]; done) | (rw [hE]; rfl)
  have hq15 : 0 = (((M.playsR g moves).1).now).player := by first | (rw [hE]; done) | (rw [hE]; rfl)
  have hq16 : 0 = ((M.playsR g moves).1).resigned := by first | (rw [hE]; done) | (rw [hE]; rfl)
  have hq17 : 0 = ((M.playsR g moves).2.1 : Int) := by first | (rw [hE]; done) | (rw [hE]; rfl)
  have hq18 : 1 = (M.playsR g moves).2.2 := by first | (rw [hE]; done) | (rw [hE]; rfl)
  refine zS <| Qb ?_
  refine zw 0 rfl rfl rfl ?_
  refine Qa rfl <| Qa rfl <| JL.nil ?_
  exact zro (Up.refl _ _)
 have hok : M.okG g = true := by simpa using h9
 obtain ⟨k1, k2, k3, k4, k5, k6, k7, k8, k9⟩ := M.okG_parts hok
 have hnow := M.okG_now hok
 have k10 := M.okP_len hnow
 have k11 := M.okP_len k1
 (have k12 : (M.playedP g).length = g.moves.length + 1 := by rw [k6, M.hist_length, k8])
 have k13 : (M.playedR g).length = g.moves.length := by rw [k7, k8]
 have hC := M.okC_yes hok
 refine Js.skip <| zS <| Q9 1 rfl rfl ?_
 refine zc rfl (fun w hw => c_impl_Game_copied g (ok_ hw)) ?_
 intro A11 c11 bl11 bh11 A12 c12 bl12 bh12 A13 c13 bl13 bh13 A14 c14 bl14 bh14 A15 c15 bl15 bh15
 refine za zeh fun b16 => zw 0 rfl rfl rfl ?_
 refine Qa rfl <| zJ <| zS <| Qm rfl <| Qz rfl <| Qm rfl <| JL.nil <| Js.block ?_
 refine zl [4, 7, 19, 20] (fun F U l os u m => ∃ (k : Nat) (gk : M.Gam) (A17_7_9 : Option Addr) (c17_7_9 : Nat) (g17_7_9 : List Nat) (A17_7_10 : Option Addr) (c17_7_10 : Nat) (g17_7_10 : List Nat) (A17_7_12 : Option Addr) (c17_7_12 : Nat) (g17_7_12 : List Nat) (A17_7_13 : Option Addr) (c17_7_13 : Nat) (g17_7_13 : List Nat) (A17_7_14 : Option Addr) (c17_7_14 : Nat) (g17_7_14 : List Nat), l = F [(8, .int .i64 (k : Int)), (21, .int .i64 (k : Int))] ∧ os = U [some (boxO b16 [.int .i64 gk.rules.pits, .int .i64 gk.rules.seeds, .bool gk.rules.stores, .bool gk.rules.skip, .bool gk.rules.relay, .bool gk.rules.feed, .bool gk.rules.again, .int .i64 gk.rules.capture, .int .i64 gk.rules.slam, .slice A17_7_9 gk.start.pits.length c17_7_9, .slice A17_7_10 gk.start.stores.length c17_7_10, .int .i64 gk.start.player, .slice A17_7_12 gk.moves.length c17_7_12, .slice A17_7_13 gk.now.pits.length c17_7_13, .slice A17_7_14 gk.now.stores.length c17_7_14, .int .i64 gk.now.player, .int .i64 gk.resigned] 30), some (rowO 2 1 (.slice A17_7_14 gk.now.stores.length c17_7_14) gk.now.stores.length (ints_ gk.now.stores) g17_7_14), some (rowO 2 1 (.slice A17_7_13 gk.now.pits.length c17_7_13) gk.now.pits.length (ints_ gk.now.pits) g17_7_13), some (rowO 2 1 (.slice A17_7_12 gk.moves.length c17_7_12) gk.moves.length (ints_ gk.moves) g17_7_12), some (rowO 2 1 (.slice A17_7_10 gk.start.stores.length c17_7_10) gk.start.stores.length (ints_ gk.start.stores) g17_7_10), some (rowO 2 1 (.slice A17_7_9 gk.start.pits.length c17_7_9) gk.start.pits.length (ints_ gk.start.pits) g17_7_9)] ∧ (M.Plays g moves k gk) ∧ (M.Small gk) ∧ (k ≤ moves.length) ∧ (gk.start.pits.length ≤ c17_7_9) ∧ (c17_7_9 ≤ 9223372036854775807) ∧ (gk.start.stores.length ≤ c17_7_10) ∧ (c17_7_10 ≤ 9223372036854775807) ∧ (gk.moves.length ≤ c17_7_12) ∧ (c17_7_12 ≤ 9223372036854775807) ∧ (gk.now.pits.length ≤ c17_7_13) ∧ (c17_7_13 ≤ 9223372036854775807) ∧ (gk.now.stores.length ≤ c17_7_14) ∧ (c17_7_14 ≤ 9223372036854775807) ∧ m = moves.length - k) ⟨0, g, _, _, _, _, _, _, _, _, _, _, _, _, _, _, _, rfl, rfl, by exact M.Plays.zero g moves, by exact M.Small.ok hok, zt, zu, zu, zu, zu, zu, zu, zu, zu, zu, zu, rfl⟩ ?_
 rintro _ _ u17 _ ⟨k, gk, A17_7_9, c17_7_9, g17_7_9, A17_7_10, c17_7_10, g17_7_10, A17_7_12, c17_7_12, g17_7_12, A17_7_13, c17_7_13, g17_7_13, A17_7_14, c17_7_14, g17_7_14, rfl, rfl, hP, hs, hk, f17_3, f17_4, f17_5, f17_6, f17_7, f17_8, f17_9, f17_10, f17_11, f17_12, rfl⟩ x17
 refine zn ?_
 have s1 := hs.sp
 have s2 := hs.ss
 have s3 := hs.m
 have s4 := hs.np
 have s5 := hs.ns
 refine zS <| Ql rfl rfl <| zJ ?_
 refine zi (fun h18 h18' => ?_) fun h18 h18' => ?_
 ·
  obtain ⟨b19, o19, he19, hc19⟩ := ints_elem (Ty.mono _ h6 x17.vis) (i := k) (by omega)
  refine Js.skip <| Js.seq <| Js.block <| zS <| Qq (p_indexAddr el_26 rfl rfl (by omega) (by omega) he19) <| QC hc19 rfl <| Qa rfl <| zN <| Q9 0 rfl rfl ?_
  refine Qm rfl <| zc rfl (fun w hw => c_impl_Game_play gk (M.nth moves k) (ok_ hw)) ?_
  intro A22 c22 bl22 bh22 A23 c23 bl23 bh23 A24 c24 bl24 bh24 A25 c25 bl25 bh25 A26 c26 bl26 bh26
  refine Qm rfl <| Qx rfl rfl <| Qx rfl rfl <| za zeh fun b27 => zw 0 rfl rfl rfl ?_
  refine Qa rfl <| zJ <| zS <| Qm rfl <| Qd rfl rfl <| JL.nil ?_
  refine zi (fun h28 h28' => ?_) fun h28 h28' => ?_
  ·
   have hE : M.playsR g moves = (gk, k, 0) := by rw [M.playsR_yes hok, hP.stop (by omega) (by simpa using h28)]
   refine zx ?_
   have hq0 : gk.rules.pits = (((M.playsR g moves).1).rules).pits := by first | (rw [hE]; done) | (rw [hE]; rfl)
   have hq1 : gk.rules.seeds = (((M.playsR g moves).1).rules).seeds := by first | (rw [hE]; done) | (rw [hE]; rfl)
   have hq2 : gk.rules.stores = (((M.playsR g moves).1).rules).stores := by first | (rw [hE]; done) | (rw [hE]; rfl)
   have hq3 : gk.rules.skip = (((M.playsR g moves).1).rules).skip := by first | (rw [hE]; done) | (rw [hE]; rfl)
   have hq4 : gk.rules.relay = (((M.playsR g moves).1).rules).relay := by first | (rw [hE]; done) | (rw [hE]; rfl)
   have hq5 : gk.rules.feed = (((M.playsR g moves).1).rules).feed := by first | (rw [hE]; done) | (rw [hE]; rfl)
   have hq6 : gk.rules.again = (((M.playsR g moves).1).rules).again := by first | (rw [hE]; done) | (rw [hE]; rfl)
   have hq7 : gk.rules.capture = (((M.playsR g moves).1).rules).capture := by first | (rw [hE]; done) | (rw [hE]; rfl)
   have hq8 : gk.rules.slam = (((M.playsR g moves).1).rules).slam := by first | (rw [hE]; done) | (rw [hE]; rfl)
   have hq9 : gk.start.pits = (((M.playsR g moves).1).start).pits := by first | (rw [hE]; done) | (rw [hE]; rfl)
   have hq10 : gk.start.stores = (((M.playsR g moves).1).start).stores := by first | (rw [hE]; done) | (rw [hE]; rfl)
   have hq11 : gk.start.player = (((M.playsR g moves).1).start).player := by first | (rw [hE]; done) | (rw [hE]; rfl)
   have hq12 : gk.moves = ((M.playsR g moves).1).moves := by first | (rw [hE]; done) | (rw [hE]; rfl)
   have hq13 : gk.now.pits = (((M.playsR g moves).1).now).pits := by first | (rw [hE]; done) | (rw [hE]; rfl)
   have hq14 : gk.now.stores = (((M.playsR g moves).1).now).stores := by first | (rw [hE]; done) | (rw [hE]; rfl)
   have hq15 : gk.now.player = (((M.playsR g moves).1).now).player := by first | (rw [hE]; done) | (rw [hE]; rfl)
   have hq16 : gk.resigned = ((M.playsR g moves).1).resigned := by first | (rw [hE]; done) | (rw [hE]; rfl)
   have hq17 : (k : Int) = ((M.playsR g moves).2.1 : Int) := by first | (rw [hE]; done) | (rw [hE]; rfl)
   have hq18 : 0 = (M.playsR g moves).2.2 := by first | (rw [hE]; done) | (rw [hE]; rfl)
   refine zS <| Q9 6 rfl rfl ?_
   refine Qm rfl <| zw 12 rfl rfl rfl ?_
   refine Qa rfl <| Qa rfl <| JL.nil ?_
   exact zro x17
  have hz : (M.play gk (M.nth moves k)).2 = 0 := by simpa using h28
  have hP2 := hP.step (by omega) hz
  refine Js.skip <| zS <| Q9 0 rfl rfl ?_
  refine zw 6 rfl rfl rfl ?_
  refine zG <| Qm rfl <| Qp rfl rfl <| Qa rfl <| JL.nil <| Js.blockEnd <| Js.region <| Qp rfl rfl <| Qm rfl <| JL.nil ?_
  refine zd [6, 1, 1, 1, 1, 1, 6, 6] rfl fun u29 x29 => ?_
  exact zag ⟨k + 1, (M.play gk (M.nth moves k)).1, _, _, _, _, _, _, _, _, _, _, _, _, _, _, _, rfl, rfl, by exact hP2, by exact hs.play hz, zt, zu, zu, zu, zu, zu, zu, zu, zu, zu, zu, rfl⟩ (x17.trans x29)
 have hE : M.playsR g moves = (gk, k, 0) := by rw [M.playsR_yes hok, hP.end_ (by have := h18'; omega)]
 refine zx ?_
 have hq0 : gk.rules.pits = (((M.playsR g moves).1).rules).pits := by first | (rw [hE]; done) | (rw [hE]; rfl)
 have hq1 : gk.rules.seeds = (((M.playsR g moves).1).rules).seeds := by first | (rw [hE]; done) | (rw [hE]; rfl)
 have hq2 : gk.rules.stores = (((M.playsR g moves).1).rules).stores := by first | (rw [hE]; done) | (rw [hE]; rfl)
 have hq3 : gk.rules.skip = (((M.playsR g moves).1).rules).skip := by first | (rw [hE]; done) | (rw [hE]; rfl)
 have hq4 : gk.rules.relay = (((M.playsR g moves).1).rules).relay := by first | (rw [hE]; done) | (rw [hE]; rfl)
 have hq5 : gk.rules.feed = (((M.playsR g moves).1).rules).feed := by first | (rw [hE]; done) | (rw [hE]; rfl)
 have hq6 : gk.rules.again = (((M.playsR g moves).1).rules).again := by first | (rw [hE]; done) | (rw [hE]; rfl)
 have hq7 : gk.rules.capture = (((M.playsR g moves).1).rules).capture := by first | (rw [hE]; done) | (rw [hE]; rfl)
 have hq8 : gk.rules.slam = (((M.playsR g moves).1).rules).slam := by first | (rw [hE]; done) | (rw [hE]; rfl)
 have hq9 : gk.start.pits = (((M.playsR g moves).1).start).pits := by first | (rw [hE]; done) | (rw [hE]; rfl)
 have hq10 : gk.start.stores = (((M.playsR g moves).1).start).stores := by first | (rw [hE]; done) | (rw [hE]; rfl)
 have hq11 : gk.start.player = (((M.playsR g moves).1).start).player := by first | (rw [hE]; done) | (rw [hE]; rfl)
 have hq12 : gk.moves = ((M.playsR g moves).1).moves := by first | (rw [hE]; done) | (rw [hE]; rfl)
 have hq13 : gk.now.pits = (((M.playsR g moves).1).now).pits := by first | (rw [hE]; done) | (rw [hE]; rfl)
 have hq14 : gk.now.stores = (((M.playsR g moves).1).now).stores := by first | (rw [hE]; done) | (rw [hE]; rfl)
 have hq15 : gk.now.player = (((M.playsR g moves).1).now).player := by first | (rw [hE]; done) | (rw [hE]; rfl)
 have hq16 : gk.resigned = ((M.playsR g moves).1).resigned := by first | (rw [hE]; done) | (rw [hE]; rfl)
 have hq17 : (k : Int) = ((M.playsR g moves).2.1 : Int) := by first | (rw [hE]; done) | (rw [hE]; rfl)
 have hq18 : 0 = (M.playsR g moves).2.2 := by first | (rw [hE]; done) | (rw [hE]; rfl)
 refine zS <| Q9 0 rfl rfl ?_
 refine Qm rfl <| zw 6 rfl rfl rfl ?_
 refine Qa rfl <| Qa rfl <| JL.nil ?_
 exact zro x17

end Go.Proofs.YtejnmechnhgmfaaGreat

namespace Go.Proofs.YtejnmechnhgmfaaGreat
open Go.RowKit

set_option maxHeartbeats 1000000 in
theorem c_impl_HistoryOf (g : M.Gam) {v_g : Value} {w : World} (h_g : (Ty.agg (cGame g)).ok w v_g) (r0 : g.start.pits.length ≤ 4194304 := by exact om_) (r1 : g.start.stores.length ≤ 4194304 := by exact om_) (r2 : g.moves.length ≤ 4194304 := by exact om_) (r3 : g.now.pits.length ≤ 4194304 := by exact om_) (r4 : g.now.stores.length ≤ 4194304 := by exact om_) : Ret Tryz.prog 8 [v_g] w (Ty.tup [Ty.sl 28 3 (M.histR g).length (lPosition (M.histR g)), Ty.int (M.okC g)]) := by
 revert v_g; apply opn
 intro A1 c1 h1 bl1 bh1 A2 c2 h2 bl2 bh2 A3 c3 h3 bl3 bh3 A4 c4 h4 bl4 bh4 A5 c5 h5 bl5 bh5
 refine enter @Tryz.func8 @Tryz.ntmps8 rfl rfl ?_
 refine zent ?_
 refine zS <| zb rfl fun b6 => Qa rfl <| Qa rfl <| zJ <| zS <| Q9 0 rfl rfl ?_
 refine zv rfl (fun w hw => c_impl_ValidGame g (ok_ hw)) <| Qt rfl <| JL.nil ?_
 refine zi (fun h7 h7' => ?_) fun h7 h7' => ?_
 ·
  have hno : M.okG g = false := by simpa using h7
  have hC := M.okC_no hno
  have hE := M.histR_no hno
  have hq0 : [] = M.histR g := by first | (rw [hE]; done) | (rw [hC]; done)
  have hq1 : 1 = M.okC g := by first | (rw [hE]; done) | (rw [hC]; done)
  refine zS <| Qa rfl <| Qa rfl <| JL.nil ?_
  exact zro (Up.refl _ _)
 have hok : M.okG g = true := by simpa using h7
 have hC := M.okC_yes hok
 have hE := M.histR_yes hok
 refine Js.skip <| zS <| Q9 0 rfl rfl ?_
 refine zcs rfl (fun w hw => c_impl_Game_played g (ok_ hw)) ?_
 intro A9 c9 vs9 f9 bl9 bh9 A10 c10 vs10 f10 bl10 bh10
 have hq0 : (M.playedP g) = M.histR g := by first | (rw [hE]; done) | (rw [hC]; done)
 have hq1 : 0 = M.okC g := by first | (rw [hE]; done) | (rw [hC]; done)
 refine Qm rfl <| Qx rfl rfl <| Qx rfl rfl <| Qx rfl rfl <| Qa rfl <| Qa rfl <| Qa rfl <| zN <| Qm rfl <| Qa rfl <| Qa rfl <| JL.nil ?_
 exact zro (Up.refl _ _)

end Go.Proofs.YtejnmechnhgmfaaGreat

namespace Go.Proofs.YtejnmechnhgmfaaGreat
open Go.RowKit

set_option maxHeartbeats 1000000 in
theorem c_spec_HistoryOf (g : M.Gam) {v_g : Value} {w : World} (h_g : (Ty.agg (cGame g)).ok w v_g) (r0 : g.start.pits.length ≤ 4194304 := by exact om_) (r1 : g.start.stores.length ≤ 4194304 := by exact om_) (r2 : g.moves.length ≤ 4194304 := by exact om_) (r3 : g.now.pits.length ≤ 4194304 := by exact om_) (r4 : g.now.stores.length ≤ 4194304 := by exact om_) : Ret Tryz.prog 9 [v_g] w (Ty.tup [Ty.sl 28 3 (M.histR g).length (lPosition (M.histR g)), Ty.int (M.okC g)]) := by
 revert v_g; apply opn
 intro A1 c1 h1 bl1 bh1 A2 c2 h2 bl2 bh2 A3 c3 h3 bl3 bh3 A4 c4 h4 bl4 bh4 A5 c5 h5 bl5 bh5
 refine enter @Tryz.func9 @Tryz.ntmps9 rfl rfl ?_
 refine zent ?_
 refine zS <| zb rfl fun b6 => Qa rfl <| Qa rfl <| zJ <| zS <| zv rfl (fun w hw => c_spec_l08Ok g (ok_ hw)) <| Qt rfl <| JL.nil ?_
 refine zi (fun h7 h7' => ?_) fun h7 h7' => ?_
 ·
  have hno : M.okG g = false := by simpa using h7
  have hC := M.okC_no hno
  have hE := M.histR_no hno
  have hq0 : [] = M.histR g := by first | (rw [hE]; done) | (rw [hC]; done)
  have hq1 : 1 = M.okC g := by first | (rw [hE]; done) | (rw [hC]; done)
  refine zS <| Qa rfl <| Qa rfl <| JL.nil ?_
  exact zro (Up.refl _ _)
 have hok : M.okG g = true := by simpa using h7
 obtain ⟨k1, k2, k3, k4, k5, k6, k7, k8, k9⟩ := M.okG_parts hok
 have hC := M.okC_yes hok
 have hE := (M.histR_yes hok).trans k6
 refine Js.skip <| zS <| Qf fh rfl <| Qf fh rfl <| Qf fh rfl <| Q0 0 rfl rfl rfl <| zcs rfl (fun w hw => c_spec_l08Run g.rules g.start g.moves ⟨_, _, [.int .i64 g.rules.pits, .int .i64 g.rules.seeds, .bool g.rules.stores, .bool g.rules.skip, .bool g.rules.relay, .bool g.rules.feed, .bool g.rules.again, .int .i64 g.rules.capture, .int .i64 g.rules.slam], rfl, ⟨rfl, rfl, rfl, rfl, rfl, rfl, rfl, rfl, rfl, trivial⟩, Mem.boxR (i := 0) rfl 0 9 _ hw⟩ ⟨_, _, [.slice A1 g.start.pits.length c1, .slice A2 g.start.stores.length c2, .int .i64 g.start.player], rfl, ⟨(ok_ hw), (ok_ hw), rfl, trivial⟩, Mem.boxR (i := 0) rfl 9 3 _ hw⟩ (ok_ hw)) ?_
 intro A9 c9 vs9 f9 bl9 bh9 A10 c10 bl10 bh10
 have hq0 : (M.hist g.start (M.runs g.rules g.start g.moves)) = M.histR g := by first | (rw [hE]; done) | (rw [hC]; done)
 have hq1 : 0 = M.okC g := by first | (rw [hE]; done) | (rw [hC]; done)
 refine Qm rfl <| Qx rfl rfl <| Qx rfl rfl <| Qa rfl <| Qa rfl <| zN <| Qm rfl <| Qa rfl <| Qa rfl <| JL.nil ?_
 exact zro (Up.refl _ _)

end Go.Proofs.YtejnmechnhgmfaaGreat

namespace Go.Proofs.YtejnmechnhgmfaaGreat
open Go.RowKit

set_option maxHeartbeats 2000000 in
theorem c_spec_PlayMoves (g : M.Gam) {v_g : Value} (moves : List Int) {v_moves : Value} {w : World} (h_g : (Ty.agg (cGame g)).ok w v_g) (h_moves : (Ty.ints 2 moves).ok w v_moves) (r0 : g.start.pits.length ≤ 4194304 := by exact om_) (r1 : g.start.stores.length ≤ 4194304 := by exact om_) (r2 : g.moves.length ≤ 4194304 := by exact om_) (r3 : g.now.pits.length ≤ 4194304 := by exact om_) (r4 : g.now.stores.length ≤ 4194304 := by exact om_) (r5 : moves.length ≤ 4194304 := by exact om_) : Ret Tryz.prog 20 [v_g, v_moves] w (Ty.tup [Ty.agg (cGame ((M.playsR g moves).1)), Ty.int ((M.playsR g moves).2.1 : Int), Ty.int ((M.playsR g moves).2.2)]) := by
 revert v_g; apply opn
 intro A1 c1 h1 bl1 bh1 A2 c2 h2 bl2 bh2 A3 c3 h3 bl3 bh3 A4 c4 h4 bl4 bh4 A5 c5 h5 bl5 bh5
 revert v_moves; apply opn
 intro A6 c6 h6 bl6 bh6
 have h_moves := h6
 refine enter @Tryz.func20 @Tryz.ntmps20 rfl rfl ?_
 refine zent ?_
 refine zS <| zb rfl fun b7 => za zeh fun b8 => Qa rfl <| Qa rfl <| zJ <| zS <| zv rfl (fun w hw => c_spec_l08Ok g (ok_ hw)) <| Qt rfl <| JL.nil ?_
 refine zi (fun h9 h9' => ?_) fun h9 h9' => ?_
 ·
  have hno : M.okG g = false := by simpa using h9
  have hE := M.playsR_no (moves := moves) hno
  have hq0 : 0 = (((M.playsR g moves).1).rules).pits := by first | (rw [hE]; done) | (rw [hE]; rfl)
  have hq1 : 0 = (((M.playsR g moves).1).rules).seeds := by first | (rw [hE]; done) | (rw [hE]; rfl)
  have hq2 : false = (((M.playsR g moves).1).rules).stores := by first | (rw [hE]; done) | (rw [hE]; rfl)
  have hq3 : false = (((M.playsR g moves).1).rules).skip := by first | (rw [hE]; done) | (rw [hE]; rfl)
  have hq4 : false = (((M.playsR g moves).1).rules).relay := by first | (rw [hE]; done) | (rw [hE]; rfl)
  have hq5 : false = (((M.playsR g moves).1).rules).feed := by first | (rw [hE]; done) | (rw [hE]; rfl)
  have hq6 : false = (((M.playsR g moves).1).rules).again := by first | (rw [hE]; done) | (rw [hE]; rfl)
  have hq7 : 0 = (((M.playsR g moves).1).rules).capture := by first | (rw [hE]; done) | (rw [hE]; rfl)
  have hq8 : 0 = (((M.playsR g moves).1).rules).slam := by first | (rw [hE]; done) | (rw [hE]; rfl)
  have hq9 : [] = (((M.playsR g moves).1).start).pits := by first | (rw [hE]; done) | (rw [hE]; rfl)
  have hq10 : [] = (((M.playsR g moves).1).start).stores := by first | (rw [hE]; done) | (rw [hE]; rfl)
  have hq11 : 0 = (((M.playsR g moves).1).start).player := by first | (rw [hE]; done) | (rw [hE]; rfl)
  have hq12 : [] = ((M.playsR g moves).1).moves := by first | (rw [hE]; done) | (rw [hE]; rfl)
  have hq13 : [] = (((M.playsR g moves).1).now).pits := by first | (rw [hE]; done) | (rw [hE]; rfl)
  have hq14 : [] = (((M.playsR g moves).1).now).stores := by first | (rw [hE]; done) | (rw [hE]; rfl)
  have hq15 : 0 = (((M.playsR g moves).1).now).player := by first | (rw [hE]; done) | (rw [hE]; rfl)
  have hq16 : 0 = ((M.playsR g moves).1).resigned := by first | (rw [hE]; done) | (rw [hE]; rfl)
  have hq17 : 0 = ((M.playsR g moves).2.1 : Int) := by first | (rw [hE]; done) | (rw [hE]; rfl)
  have hq18 : 1 = (M.playsR g moves).2.2 := by first | (rw [hE]; done) | (rw [hE]; rfl)
  refine zS <| Qb ?_
  refine zw 0 rfl rfl rfl ?_
  refine Qa rfl <| Qa rfl <| JL.nil ?_
  exact zro (Up.refl _ _)
 have hok : M.okG g = true := by simpa using h9
 obtain ⟨k1, k2, k3, k4, k5, k6, k7, k8, k9⟩ := M.okG_parts hok
 refine Js.skip <| zS <| zc rfl (fun w hw => c_spec_l08Own g (ok_ hw)) ?_
 intro A11 c11 bl11 bh11 A12 c12 bl12 bh12 A13 c13 bl13 bh13 A14 c14 bl14 bh14 A15 c15 bl15 bh15
 refine za zeh fun b16 => zw 0 rfl rfl rfl ?_
 refine zN <| Qa rfl <| zJ <| zS <| Qa rfl <| JL.nil <| Js.block ?_
 refine zl [1, 4, 7] (fun F U l os u m => ∃ (k : Nat) (gk : M.Gam) (A17_7_9 : Option Addr) (c17_7_9 : Nat) (g17_7_9 : List Nat) (A17_7_10 : Option Addr) (c17_7_10 : Nat) (g17_7_10 : List Nat) (A17_7_12 : Option Addr) (c17_7_12 : Nat) (g17_7_12 : List Nat) (A17_7_13 : Option Addr) (c17_7_13 : Nat) (g17_7_13 : List Nat) (A17_7_14 : Option Addr) (c17_7_14 : Nat) (g17_7_14 : List Nat), l = F [(8, .int .i64 (k : Int)), (9, .int .i64 (k : Int))] ∧ os = U [some (boxO b16 [.int .i64 gk.rules.pits, .int .i64 gk.rules.seeds, .bool gk.rules.stores, .bool gk.rules.skip, .bool gk.rules.relay, .bool gk.rules.feed, .bool gk.rules.again, .int .i64 gk.rules.capture, .int .i64 gk.rules.slam, .slice A17_7_9 gk.start.pits.length c17_7_9, .slice A17_7_10 gk.start.stores.length c17_7_10, .int .i64 gk.start.player, .slice A17_7_12 gk.moves.length c17_7_12, .slice A17_7_13 gk.now.pits.length c17_7_13, .slice A17_7_14 gk.now.stores.length c17_7_14, .int .i64 gk.now.player, .int .i64 gk.resigned] 30), some (rowO 2 1 (.slice A17_7_14 gk.now.stores.length c17_7_14) gk.now.stores.length (ints_ gk.now.stores) g17_7_14), some (rowO 2 1 (.slice A17_7_13 gk.now.pits.length c17_7_13) gk.now.pits.length (ints_ gk.now.pits) g17_7_13), some (rowO 2 1 (.slice A17_7_12 gk.moves.length c17_7_12) gk.moves.length (ints_ gk.moves) g17_7_12), some (rowO 2 1 (.slice A17_7_10 gk.start.stores.length c17_7_10) gk.start.stores.length (ints_ gk.start.stores) g17_7_10), some (rowO 2 1 (.slice A17_7_9 gk.start.pits.length c17_7_9) gk.start.pits.length (ints_ gk.start.pits) g17_7_9)] ∧ (M.Plays g moves k gk) ∧ (M.Small gk) ∧ (k ≤ moves.length) ∧ (gk.moves.length ≤ 120) ∧ (gk.start.pits.length ≤ c17_7_9) ∧ (c17_7_9 ≤ 9223372036854775807) ∧ (gk.start.stores.length ≤ c17_7_10) ∧ (c17_7_10 ≤ 9223372036854775807) ∧ (gk.moves.length ≤ c17_7_12) ∧ (c17_7_12 ≤ 9223372036854775807) ∧ (gk.now.pits.length ≤ c17_7_13) ∧ (c17_7_13 ≤ 9223372036854775807) ∧ (gk.now.stores.length ≤ c17_7_14) ∧ (c17_7_14 ≤ 9223372036854775807) ∧ m = moves.length - k) ⟨0, g, _, _, _, _, _, _, _, _, _, _, _, _, _, _, _, rfl, rfl, by exact M.Plays.zero g moves, by exact M.Small.ok hok, zt, by exact k2, zu, zu, zu, zu, zu, zu, zu, zu, zu, zu, rfl⟩ ?_
 rintro _ _ u17 _ ⟨k, gk, A17_7_9, c17_7_9, g17_7_9, A17_7_10, c17_7_10, g17_7_10, A17_7_12, c17_7_12, g17_7_12, A17_7_13, c17_7_13, g17_7_13, A17_7_14, c17_7_14, g17_7_14, rfl, rfl, hP, hs, hk, hm, f17_4, f17_5, f17_6, f17_7, f17_8, f17_9, f17_10, f17_11, f17_12, f17_13, rfl⟩ x17
 refine zn ?_
 have s1 := hs.sp
 have s2 := hs.ss
 have s3 := hs.m
 have s4 := hs.np
 have s5 := hs.ns
 refine Js.seq <| zS <| Qm rfl <| Qm rfl <| Qz rfl <| Ql rfl rfl <| JL.nil ?_
 refine zi (fun h18 h18' => ?_) fun h18 h18' => ?_
 ·
  obtain ⟨b19, o19, he19, hc19⟩ := ints_elem (Ty.mono _ h6 x17.vis) (i := k) (by omega)
  refine Js.skip <| Js.seq <| Js.block <| zS <| Qm rfl <| Qm rfl <| Qq (p_indexAddr el_26 rfl rfl (by omega) (by omega) he19) <| QC hc19 rfl <| zc rfl (fun w hw => c_spec_l08Play gk (M.nth moves k) (ok_ hw)) ?_
  intro A22 c22 bl22 bh22 A23 c23 bl23 bh23 A24 c24 bl24 bh24 A25 c25 bl25 bh25 A26 c26 bl26 bh26
  refine Qm rfl <| Qx rfl rfl <| Qx rfl rfl <| za zeh fun b27 => zw 0 rfl rfl rfl ?_
  refine Qa rfl <| zJ <| zS <| Qm rfl <| Qd rfl rfl <| JL.nil ?_
  refine zi (fun h28 h28' => ?_) fun h28 h28' => ?_
  ·
   have hE : M.playsR g moves = (gk, k, 0) := by rw [M.playsR_yes hok, hP.stop (by omega) (by simpa using h28)]
   refine zx ?_
   have hq0 : gk.rules.pits = (((M.playsR g moves).1).rules).pits := by first | (rw [hE]; done) | (rw [hE]; rfl)
   have hq1 : gk.rules.seeds = (((M.playsR g moves).1).rules).seeds := by first | (rw [hE]; done) | (rw [hE]; rfl)
   have hq2 : gk.rules.stores = (((M.playsR g moves).1).rules).stores := by first | (rw [hE]; done) | (rw [hE]; rfl)
   have hq3 : gk.rules.skip = (((M.playsR g moves).1).rules).skip := by first | (rw [hE]; done) | (rw [hE]; rfl)
   have hq4 : gk.rules.relay = (((M.playsR g moves).1).rules).relay := by first | (rw [hE]; done) | (rw [hE]; rfl)
   have hq5 : gk.rules.feed = (((M.playsR g moves).1).rules).feed := by first | (rw [hE]; done) | (rw [hE]; rfl)
   have hq6 : gk.rules.again = (((M.playsR g moves).1).rules).again := by first | (rw [hE]; done) | (rw [hE]; rfl)
   have hq7 : gk.rules.capture = (((M.playsR g moves).1).rules).capture := by first | (rw [hE]; done) | (rw [hE]; rfl)
   have hq8 : gk.rules.slam = (((M.playsR g moves).1).rules).slam := by first | (rw [hE]; done) | (rw [hE]; rfl)
   have hq9 : gk.start.pits = (((M.playsR g moves).1).start).pits := by first | (rw [hE]; done) | (rw [hE]; rfl)
   have hq10 : gk.start.stores = (((M.playsR g moves).1).start).stores := by first | (rw [hE]; done) | (rw [hE]; rfl)
   have hq11 : gk.start.player = (((M.playsR g moves).1).start).player := by first | (rw [hE]; done) | (rw [hE]; rfl)
   have hq12 : gk.moves = ((M.playsR g moves).1).moves := by first | (rw [hE]; done) | (rw [hE]; rfl)
   have hq13 : gk.now.pits = (((M.playsR g moves).1).now).pits := by first | (rw [hE]; done) | (rw [hE]; rfl)
   have hq14 : gk.now.stores = (((M.playsR g moves).1).now).stores := by first | (rw [hE]; done) | (rw [hE]; rfl)
   have hq15 : gk.now.player = (((M.playsR g moves).1).now).player := by first | (rw [hE]; done) | (rw [hE]; rfl)
   have hq16 : gk.resigned = ((M.playsR g moves).1).resigned := by first | (rw [hE]; done) | (rw [hE]; rfl)
   have hq17 : (k : Int) = ((M.playsR g moves).2.1 : Int) := by first | (rw [hE]; done) | (rw [hE]; rfl)
   have hq18 : 0 = (M.playsR g moves).2.2 := by first | (rw [hE]; done) | (rw [hE]; rfl)
   refine zS <| Q9 6 rfl rfl ?_
   refine Qm rfl <| zw 12 rfl rfl rfl ?_
   refine Qa rfl <| Qa rfl <| JL.nil ?_
   exact zro x17
  have hz : (M.play gk (M.nth moves k)).2 = 0 := by simpa using h28
  have hP2 := hP.step (by omega) hz
  refine Js.skip <| zS <| Q9 0 rfl rfl ?_
  refine zw 6 rfl rfl rfl ?_
  refine zG <| Qm rfl <| Qp rfl rfl <| Qa rfl <| JL.nil <| Js.blockEnd <| Js.region <| Qm rfl <| Qp rfl rfl <| Qa rfl <| JL.nil ?_
  refine zd [6, 1, 1, 1, 1, 1, 6, 6] rfl fun u29 x29 => ?_
  exact zag ⟨k + 1, (M.play gk (M.nth moves k)).1, _, _, _, _, _, _, _, _, _, _, _, _, _, _, _, rfl, rfl, by exact hP2, by exact hs.play hz, zt, by exact M.play_120 hm hz, zu, zu, zu, zu, zu, zu, zu, zu, zu, zu, rfl⟩ (x17.trans x29)
 have hE : M.playsR g moves = (gk, k, 0) := by rw [M.playsR_yes hok, hP.end_ (by have := h18'; omega)]
 refine zx ?_
 have hq0 : gk.rules.pits = (((M.playsR g moves).1).rules).pits := by first | (rw [hE]; done) | (rw [hE]; rfl)
 have hq1 : gk.rules.seeds = (((M.playsR g moves).1).rules).seeds := by first | (rw [hE]; done) | (rw [hE]; rfl)
 have hq2 : gk.rules.stores = (((M.playsR g moves).1).rules).stores := by first | (rw [hE]; done) | (rw [hE]; rfl)
 have hq3 : gk.rules.skip = (((M.playsR g moves).1).rules).skip := by first | (rw [hE]; done) | (rw [hE]; rfl)
 have hq4 : gk.rules.relay = (((M.playsR g moves).1).rules).relay := by first | (rw [hE]; done) | (rw [hE]; rfl)
 have hq5 : gk.rules.feed = (((M.playsR g moves).1).rules).feed := by first | (rw [hE]; done) | (rw [hE]; rfl)
 have hq6 : gk.rules.again = (((M.playsR g moves).1).rules).again := by first | (rw [hE]; done) | (rw [hE]; rfl)
 have hq7 : gk.rules.capture = (((M.playsR g moves).1).rules).capture := by first | (rw [hE]; done) | (rw [hE]; rfl)
 have hq8 : gk.rules.slam = (((M.playsR g moves).1).rules).slam := by first | (rw [hE]; done) | (rw [hE]; rfl)
 have hq9 : gk.start.pits = (((M.playsR g moves).1).start).pits := by first | (rw [hE]; done) | (rw [hE]; rfl)
 have hq10 : gk.start.stores = (((M.playsR g moves).1).start).stores := by first | (rw [hE]; done) | (rw [hE]; rfl)
 have hq11 : gk.start.player = (((M.playsR g moves).1).start).player := by first | (rw [hE]; done) | (rw [hE]; rfl)
 have hq12 : gk.moves = ((M.playsR g moves).1).moves := by first | (rw [hE]; done) | (rw [hE]; rfl)
 have hq13 : gk.now.pits = (((M.playsR g moves).1).now).pits := by first | (rw [hE]; done) | (rw [hE]; rfl)
 have hq14 : gk.now.stores = (((M.playsR g moves).1).now).stores := by first | (rw [hE]; done) | (rw [hE]; rfl)
 have hq15 : gk.now.player = (((M.playsR g moves).1).now).player := by first | (rw [hE]; done) | (rw [hE]; rfl)
 have hq16 : gk.resigned = ((M.playsR g moves).1).resigned := by first | (rw [hE]; done) | (rw [hE]; rfl)
 have hq17 : (k : Int) = ((M.playsR g moves).2.1 : Int) := by first | (rw [hE]; done) | (rw [hE]; rfl)
 have hq18 : 0 = (M.playsR g moves).2.2 := by first | (rw [hE]; done) | (rw [hE]; rfl)
 refine zS <| Q9 0 rfl rfl ?_
 refine Qm rfl <| zw 6 rfl rfl rfl ?_
 refine Qa rfl <| Qa rfl <| JL.nil ?_
 exact zro x17

end Go.Proofs.YtejnmechnhgmfaaGreat

namespace Go.Proofs.YtejnmechnhgmfaaGreat
open Go.RowKit

set_option maxHeartbeats 1000000 in
theorem c_laws_f6ints (a : List Int) {v_a : Value} (b : List Int) {v_b : Value} {w : World} (h_a : (Ty.ints 2 a).ok w v_a) (h_b : (Ty.ints 2 b).ok w v_b) (r0 : a.length ≤ 4194304 := by exact om_) (r1 : b.length ≤ 4194304 := by exact om_) : RetV Tryz.prog 16 [v_a, v_b] w (.bool (decide (a = b))) := by
 revert v_a; apply opn
 intro A1 c1 h1 bl1 bh1
 have h_a := h1
 revert v_b; apply opn
 intro A2 c2 h2 bl2 bh2
 have h_b := h2
 refine enter @Tryz.func16 @Tryz.ntmps16 rfl rfl ?_
 refine zent ?_
 refine zS <| Qa rfl <| zJ <| zS <| Qm rfl <| Qz rfl <| Qm rfl <| Qz rfl <| Qd rfl rfl <| JL.nil ?_
 refine zi (fun h3 h3' => ?_) fun h3 h3' => ?_
 ·
  have e1 : decide (a = b) = false := by simp; rintro rfl; simp at h3
  refine zS <| Qa rfl <| JL.nil ?_
  refine zR (Up.refl _ _) ?_
  simp [outV, e1]
 have hlen : a.length = b.length := by have := h3'; omega
 refine Js.skip <| Js.seq <| zS <| Qa rfl <| JL.nil <| Js.block ?_
 refine zl [0, 1] (fun F U l os u m => ∃ (k : Nat), l = F [(5, .int .i64 (k : Int))] ∧ os = U [] ∧ (k ≤ a.length) ∧ (M.Upto a b k) ∧ m = a.length - k) ⟨0, rfl, rfl, zt, by exact M.Upto.zero _ _, rfl⟩ ?_
 rintro _ _ u4 _ ⟨k, rfl, rfl, hk, hU, rfl⟩ x4
 refine zn ?_
 refine Js.seq <| zS <| Qm rfl <| Qm rfl <| Qz rfl <| Ql rfl rfl <| JL.nil ?_
 refine zi (fun h5 h5' => ?_) fun h5 h5' => ?_
 ·
  refine Js.skip <| Js.seq <| Js.block <| Js.seq ?_
  refine zdr [] ?_
  refine JH.p 0 rfl (p_move rfl) ?_
  refine JH.p 1 rfl (p_move rfl) ?_
  obtain ⟨b6, o6, he6, hc6⟩ := ints_elem (Ty.mono _ h1 x4.vis) (i := k) (by omega)
  refine JH.p 2 rfl (p_indexAddr el_26 rfl rfl (by omega) (by omega) he6) ?_
  refine JH.w 3 rfl (fun os' u' hv => q_load1 ty_2.h rfl (Mem.pub (hc6.vis hv))) ?_
  refine JH.p 4 rfl (p_move rfl) ?_
  refine JH.p 5 rfl (p_move rfl) ?_
  obtain ⟨b7, o7, he7, hc7⟩ := ints_elem (Ty.mono _ h2 x4.vis) (i := k) (by omega)
  refine JH.p 6 rfl (p_indexAddr el_26 rfl rfl (by omega) (by omega) he7) ?_
  refine JH.w 7 rfl (fun os' u' hv => q_load1 ty_2.h rfl (Mem.pub (hc7.vis hv))) ?_
  refine JH.p 8 rfl (p_neq rfl rfl) ?_
  refine yd ?_
  refine zi (fun h8 h8' => ?_) fun h8 h8' => ?_
  ·
   have e1 : decide (a = b) = false := by simpa using M.ne_of_nth (a := a) (b := b) (k := k) (by simpa using h8)
   refine zS <| Qa rfl <| JL.nil ?_
   refine zR x4 ?_
   simp [outV, e1]
  have hab : M.nth a k = M.nth b k := by simpa using h8
  refine Js.skip <| Js.blockEnd <| Js.region <| Qm rfl <| Qp rfl rfl <| Qa rfl <| JL.nil ?_
  exact zag ⟨k + 1, rfl, rfl, zt, by exact hU.step (by omega) (by omega) hab, rfl⟩ x4
 have e1 : a = b := hU.done (by omega) (by omega)
 refine zx ?_
 refine zS <| Qa rfl <| JL.nil ?_
 refine zR x4 ?_
 simp [outV, e1]

set_option maxHeartbeats 1000000 in
theorem c_laws_f6roll (code : Nat) {v_code : Value} (seed : Int) {w : World} (h_code : (Ty.bytes 5 code).ok w v_code) (r0 : code ≤ 1048576 := by exact om_) : Ret Tryz.prog 22 [v_code, .int .u64 seed] w (Ty.ex (fun (HX : Int) => True) (fun HX => Ty.box 90 [Ty.val v_code, Ty.int 0, Ty.val (.int .u64 HX)])) := by
 revert v_code; apply opn
 intro A1 c1 h1 bl1 bh1
 have h_code := h1
 refine enter @Tryz.func22 @Tryz.ntmps22 rfl rfl ?_
 refine zent ?_
 refine zS <| Qa rfl <| zN <| Qm rfl <| Qm rfl <| Qq (p_mul rfl rfl rfl) <| Qm rfl <| Qz rfl <| Qq (p_conv @Tryz.underlying3 @Tryz.underlying48 rfl rfl) <| Qq (p_add rfl rfl rfl) <| Qb ?_
 refine zb rfl fun b2 => Qa rfl <| zJ <| zS <| Qa rfl <| JL.nil <| Js.block ?_
 refine zl [0, 5] (fun F U l os u m => ∃ (k : Nat) (hh : Int), l = F [(6, .int .i64 (k : Int))] ∧ os = U [some (boxO b2 [.slice A1 code c1, .int .i64 0, .int .u64 hh] 90)] ∧ (k ≤ code) ∧ m = code - k) ⟨0, IntKind.u64.wrap ((IntKind.u64.wrap (seed * 7919)) + (IntKind.u64.wrap (code : Int))), rfl, rfl, zt, rfl⟩ ?_
 rintro _ _ u3 _ ⟨k, hh, rfl, rfl, hk, rfl⟩ x3
 refine zn ?_
 refine Js.seq <| zS <| Qm rfl <| Qm rfl <| Qz rfl <| Ql rfl rfl <| JL.nil ?_
 refine zi (fun h4 h4' => ?_) fun h4 h4' => ?_
 ·
  refine Js.skip <| Js.seq <| Js.block ?_
  refine zdr [15] ?_
  refine JH.p 0 rfl (p_move rfl) ?_
  refine JH.p 1 rfl (p_move rfl) ?_
  refine JH.p 2 rfl (p_nilCheck rfl) ?_
  refine JH.p 3 rfl (p_fieldAddr fld_90_2.h rfl) ?_
  refine JH.q 4 rfl (q_load1 ty_48.h rfl (Mem.box (i := 0) rfl rfl)) ?_
  refine JH.p 5 rfl (p_mul rfl rfl rfl) ?_
  refine JH.p 6 rfl (p_move rfl) ?_
  refine JH.p 7 rfl (p_move rfl) ?_
  obtain ⟨b5, o5, z5, he5, hc5, hz5⟩ := bytes_elem (Ty.mono _ h1 x3.vis) (i := k) (by omega)
  refine JH.p 8 rfl (p_indexAddr el_22 rfl rfl (by omega) (by omega) he5) ?_
  refine JH.w 9 rfl (fun os' u' hv => q_load1 ty_5.h rfl (Mem.pub (hc5.vis hv))) ?_
  refine y1 10 ?_
  refine JHo.q rfl (OpP.q (p_conv @Tryz.underlying5 @Tryz.underlying48 rfl rfl)) ?_
  refine JH.p 11 rfl (p_add rfl rfl rfl) ?_
  refine JH.p 12 rfl (p_add rfl rfl rfl) ?_
  refine JH.p 13 rfl (p_nilCheck rfl) ?_
  refine JH.p 14 rfl (p_fieldAddr fld_90_2.h rfl) ?_
  refine y1 15 ?_
  refine yst rfl rfl rfl ?_
  refine yd ?_
  refine Js.blockEnd <| Js.region <| Qm rfl <| Qp rfl rfl <| Qa rfl <| JL.nil ?_
  exact zag ⟨k + 1, IntKind.u64.wrap ((IntKind.u64.wrap ((IntKind.u64.wrap (hh * 1099511628211)) + (IntKind.u64.wrap z5))) + 3), rfl, rfl, zt, rfl⟩ x3
 refine zx ?_
 refine zS <| Qm rfl <| Qa rfl <| JL.nil ?_
 exact zro x3 (g := by exact (gv_ex hh (by first | trivial | omega) gv_))

set_option maxHeartbeats 1000000 in
theorem c_laws_f6dice_below (d_b : Nat) (d_i d_h : Int) {Ad_0 : Option Addr} {cd_0 : Nat} (n : Int) {bd : Nat} {w : World} (hb : Bw w [boxO bd [.slice Ad_0 d_b cd_0, .int .i64 d_i, .int .u64 d_h] 90]) (hpd_0 : (Ty.bytes 5 d_b).ok (offW w (([boxO bd [.slice Ad_0 d_b cd_0, .int .i64 d_i, .int .u64 d_h] 90] : List Own).flatMap (·.fp))) (.slice Ad_0 d_b cd_0)) (r0 : 1 ≤ n := by exact om_) (r1 : n ≤ 1000000 := by exact om_) (r2 : d_b ≤ 1048576 := by exact om_) (r3 : 0 ≤ d_i := by exact om_) (r4 : d_i ≤ 1000000 := by exact om_) : RetB Tryz.prog 23 [.pointer (some ⟨bd, 0, none⟩), .int .i64 n] w [boxO bd [.slice Ad_0 d_b cd_0, .int .i64 d_i, .int .u64 d_h] 90] (fun v bs' => ∃ (KX IX HX : Int), v = .int .i64 KX ∧ bs' = [boxO bd [.slice Ad_0 d_b cd_0, .int .i64 IX, .int .u64 HX] 90] ∧ (0 ≤ KX) ∧ (KX < n)) := by
 refine enterB hb @Tryz.func23 @Tryz.ntmps23 rfl rfl ?_
 refine zent ?_
 refine Js.trashE ?_
 refine zn ?_
 have had1 := andI_24 ((IntKind.u64.wrap ((IntKind.u64.wrap (d_h * 6364136223846793005)) + 1442695040888963407)).fdiv (2 ^ (min (33 : Int).toNat IntKind.u64.bits)))
 refine zS <| Qa rfl <| zN <| Qm rfl <| Qm rfl <| Qc rfl <| Qf fh rfl <| Q0 0 rfl rfl rfl <| Qq (p_mul rfl rfl rfl) <| Qq (p_add rfl rfl rfl) <| Qc rfl <| Qf fh rfl <| zw 0 rfl rfl rfl ?_
 refine zN <| Qm rfl <| Qc rfl <| Qf fh rfl <| Q0 0 rfl rfl rfl <| Qq (p_shr rfl rfl (by decide)) <| Qq (p_and rfl rfl) <| Qq (p_conv @Tryz.underlying48 @Tryz.underlying2 rfl (IntWalk.i64_in _ (by omega))) <| Qa rfl <| zJ <| Js.seq ?_
 refine zdr [] ?_
 refine JH.p 0 rfl (p_move rfl) ?_
 refine JH.p 1 rfl (p_nilCheck rfl) ?_
 refine JH.p 2 rfl (p_fieldAddr fld_90_1.h rfl) ?_
 refine JH.q 3 rfl (q_load1 ty_3.h rfl (Mem.box (i := 0) rfl rfl)) ?_
 refine JH.p 4 rfl (p_move rfl) ?_
 refine JH.p 5 rfl (p_nilCheck rfl) ?_
 refine JH.p 6 rfl (p_fieldAddr fld_90_0.h rfl) ?_
 refine JH.q 7 rfl (q_load1 ty_22.h rfl (Mem.box (i := 0) rfl rfl)) ?_
 refine JH.p 8 rfl (p_len el_22 rfl) ?_
 refine JH.p 9 rfl (p_lss rfl rfl) ?_
 refine yd ?_
 refine zi (fun h2 h2' => ?_) fun h2 h2' => ?_
 ·
  refine Js.seq ?_
  refine zdr [] ?_
  refine JH.p 0 rfl (p_move rfl) ?_
  refine JH.p 1 rfl (p_move rfl) ?_
  refine JH.p 2 rfl (p_nilCheck rfl) ?_
  refine JH.p 3 rfl (p_fieldAddr fld_90_0.h rfl) ?_
  refine JH.q 4 rfl (q_load1 ty_22.h rfl (Mem.box (i := 0) rfl rfl)) ?_
  refine JH.p 5 rfl (p_move rfl) ?_
  refine JH.p 6 rfl (p_nilCheck rfl) ?_
  refine JH.p 7 rfl (p_fieldAddr fld_90_1.h rfl) ?_
  refine JH.q 8 rfl (q_load1 ty_3.h rfl (Mem.box (i := 0) rfl rfl)) ?_
  obtain ⟨b3, o3, z3, he3, hc3, hz3⟩ := bytes_elem hpd_0 (i := d_i.toNat) (by omega)
  refine JH.p 9 rfl (p_indexAddr el_22 rfl rfl (by omega) (by omega) he3) ?_
  refine JH.w 10 rfl (fun os' u' hv => q_load1 ty_5.h rfl (Mem.pub (hc3.vis hv))) ?_
  refine y1 11 ?_
  refine JHo.q rfl (OpP.q (p_conv @Tryz.underlying5 @Tryz.underlying2 rfl (IntWalk.i64_in _ (by omega)))) ?_
  refine JH.p 12 rfl (p_add rfl rfl (IntWalk.i64_in _ (by omega))) ?_
  refine JH.p 13 rfl (p_assign rfl) ?_
  refine yd ?_
  have hrn4 := Int.emod_nonneg ((andI .u64 ((IntKind.u64.wrap ((IntKind.u64.wrap (d_h * 6364136223846793005)) + 1442695040888963407)).fdiv (2 ^ (min (33 : Int).toNat IntKind.u64.bits))) 16777215) + z3) (b := n) (by omega)
  have hrl4 := Int.emod_lt_of_pos ((andI .u64 ((IntKind.u64.wrap ((IntKind.u64.wrap (d_h * 6364136223846793005)) + 1442695040888963407)).fdiv (2 ^ (min (33 : Int).toNat IntKind.u64.bits))) 16777215) + z3) (show 0 < n by omega)
  refine Js.region <| Qm rfl <| Qm rfl <| Qc rfl <| Qf fh rfl <| Q0 0 rfl rfl rfl <| Qp rfl rfl <| Qc rfl <| Qf fh rfl <| zw 0 rfl rfl rfl ?_
  refine zN <| Qm rfl <| Qm rfl <| Qq (p_rem rfl rfl (by omega) (Int.tmod_eq_emod_of_nonneg (by omega))) <| Qa rfl <| JL.nil ?_
  refine zrb [0] hb (Up.refl _ _) ?_
  refine ⟨(((andI .u64 ((IntKind.u64.wrap ((IntKind.u64.wrap (d_h * 6364136223846793005)) + 1442695040888963407)).fdiv (2 ^ (min (33 : Int).toNat IntKind.u64.bits))) 16777215) + z3) % n), ((d_i + 1)), ((IntKind.u64.wrap ((IntKind.u64.wrap (d_h * 6364136223846793005)) + 1442695040888963407))), rfl, ?_, by first | trivial | omega | (dsimp only; omega), by first | trivial | omega | (dsimp only; omega)⟩
  · rfl
 have hrn5 := Int.emod_nonneg (andI .u64 ((IntKind.u64.wrap ((IntKind.u64.wrap (d_h * 6364136223846793005)) + 1442695040888963407)).fdiv (2 ^ (min (33 : Int).toNat IntKind.u64.bits))) 16777215) (b := n) (by omega)
 have hrl5 := Int.emod_lt_of_pos (andI .u64 ((IntKind.u64.wrap ((IntKind.u64.wrap (d_h * 6364136223846793005)) + 1442695040888963407)).fdiv (2 ^ (min (33 : Int).toNat IntKind.u64.bits))) 16777215) (show 0 < n by omega)
 refine Js.skip <| zS <| Qm rfl <| Qm rfl <| Qq (p_rem rfl rfl (by omega) (Int.tmod_eq_emod_of_nonneg (by omega))) <| Qa rfl <| JL.nil ?_
 refine zrb [0] hb (Up.refl _ _) ?_
 refine ⟨((andI .u64 ((IntKind.u64.wrap ((IntKind.u64.wrap (d_h * 6364136223846793005)) + 1442695040888963407)).fdiv (2 ^ (min (33 : Int).toNat IntKind.u64.bits))) 16777215) % n), (d_i), ((IntKind.u64.wrap ((IntKind.u64.wrap (d_h * 6364136223846793005)) + 1442695040888963407))), rfl, ?_, by first | trivial | omega | (dsimp only; omega), by first | trivial | omega | (dsimp only; omega)⟩
 · rfl

end Go.Proofs.YtejnmechnhgmfaaGreat

namespace Go.Proofs.YtejnmechnhgmfaaGreat
open Go.RowKit

set_option maxHeartbeats 8000000 in
theorem c_laws_FnHistories (code : Nat) {v_code : Value} {w : World} (h_code : (Ty.bytes 5 code).ok w v_code) : RetV Tryz.prog 3 [v_code] w (.bool true) := by
 revert v_code; apply opn
 intro A1 c1 h1 bl1 bh1
 have h_code := h1
 refine enter @Tryz.func3 @Tryz.ntmps3 rfl rfl ?_
 refine zent ?_
 refine zS <| Qa rfl <| zJ <| zS <| Qm rfl <| zv rfl (fun w hw => c_laws_f6big code (ok_ hw)) <| JL.nil ?_
 refine zi (fun h2 h2' => ?_) fun h2 h2' => ?_
 ·
  refine zS <| Qa rfl <| JL.nil ?_
  refine zR (Up.refl _ _) ?_
  first | rfl | (simp [outV, hHl, e0, e1, hsum, hok2, hH.cnt, M.sameP_of]; done)
 refine Js.skip <| zS <| Qm rfl <| zp rfl (fun w hw => c_spec_DrawHistoryOf code (ok_ hw)) ?_
 intro u3 x3 X4 hX4 A5 c5 h5 bl5 bh5 A6 c6 h6 bl6 bh6 A7 c7 h7 bl7 bh7 A8 c8 h8 bl8 bh8 A9 c9 h9 bl9 bh9
 refine za zeh fun b10 => zw 0 rfl rfl rfl ?_
 refine zN <| Q9 0 rfl rfl ?_
 refine zp rfl (fun w hw => c_impl_HistoryOf X4 (ok_ hw)) ?_
 intro u11 x11 A12 c12 h12 bl12 bh12
 refine Qm rfl <| Qx rfl rfl <| Qx rfl rfl <| Qa rfl <| Qa rfl <| zN <| Q9 0 rfl rfl ?_
 refine zp rfl (fun w hw => c_spec_HistoryOf X4 (ok_ hw)) ?_
 intro u13 x13 A14 c14 h14 bl14 bh14
 refine Qm rfl <| Qx rfl rfl <| Qx rfl rfl <| Qa rfl <| Qa rfl <| zN <| Q9 0 rfl rfl ?_
 refine zp rfl (fun w hw => c_impl_MoversOf X4 (ok_ hw)) ?_
 intro u15 x15 A16 c16 h16 bl16 bh16
 refine Qm rfl <| Qx rfl rfl <| Qx rfl rfl <| Qa rfl <| Qa rfl <| zN <| Q9 0 rfl rfl ?_
 refine zp rfl (fun w hw => c_spec_MoversOf X4 (ok_ hw)) ?_
 intro u17 x17 A18 c18 h18 bl18 bh18
 refine Qm rfl <| Qx rfl rfl <| Qx rfl rfl <| Qa rfl <| Qa rfl <| zN <| Q9 0 rfl rfl ?_
 refine zp rfl (fun w hw => c_impl_GainsOf X4 (ok_ hw)) ?_
 intro u19 x19 A20 c20 h20 bl20 bh20
 refine Qm rfl <| Qx rfl rfl <| Qx rfl rfl <| Qa rfl <| Qa rfl <| zN <| Q9 0 rfl rfl ?_
 refine zp rfl (fun w hw => c_spec_GainsOf X4 (ok_ hw)) ?_
 intro u21 x21 A22 c22 h22 bl22 bh22
 have q1 := M.histR_len X4
 have q2 := M.gainsR_len X4
 have q3 := M.moversR_len X4
 refine Qm rfl <| Qx rfl rfl <| Qx rfl rfl <| Qa rfl <| Qa rfl <| zN <| Q9 0 rfl rfl ?_
 refine zv rfl (fun w hw => c_impl_RepeatsOf X4 (ok_ hw)) <| Qm rfl <| Qx rfl rfl <| Qx rfl rfl <| Qa rfl <| Qa rfl <| zN <| Q9 0 rfl rfl ?_
 refine zv rfl (fun w hw => c_spec_RepeatsOf X4 (ok_ hw)) <| Qm rfl <| Qx rfl rfl <| Qx rfl rfl <| Qa rfl <| Qa rfl <| zJ <| zS <| Qm rfl <| Qm rfl <| Qd rfl rfl <| Qm rfl <| zg (Gd.f1 rfl rfl rfl) (fun hc => p_move rfl) <| zg (Gd.f1 rfl rfl rfl) (fun hc => p_len el_32 (gh hc rfl)) ?_
 refine zg (Gd.f1 rfl rfl rfl) (fun hc => p_move rfl) <| zg (Gd.f1 rfl rfl rfl) (fun hc => p_len el_32 (gh hc rfl)) <| zg (Gd.f1 rfl rfl rfl) (fun hc => p_neq (gh hc rfl) (gh hc rfl)) <| Qq (p_pickOr rfl rfl rfl) <| Qm rfl <| zg (Gd.f1 rfl rfl rfl) (fun hc => p_move rfl) <| zg (Gd.f1 rfl rfl rfl) (fun hc => p_move rfl) <| zg (Gd.f1 rfl rfl rfl) (fun hc => p_neq (gh hc rfl) (gh hc rfl)) <| Qq (p_pickOr rfl rfl rfl) <| Qm rfl <| zg (Gd.f1 rfl rfl rfl) (fun hc => p_move rfl) <| zg (Gd.f1 rfl rfl rfl) (fun hc => p_move rfl) <| zgv (Gd.f1 rfl rfl rfl) (fun hc => (opds_2 (gh hc rfl) (gh hc rfl))) (fun hc => (fun w hw => c_laws_f6ints (M.moversR X4) (M.moversR X4) (ok_ hw) (ok_ hw) (r0 := (by have hc9 := hc; (try simp only [Bool.not_eq_true', Bool.or_eq_false_iff, Bool.not_eq_false', decide_eq_true_eq] at hc9); omega)) (r1 := (by have hc9 := hc; (try simp only [Bool.not_eq_true', Bool.or_eq_false_iff, Bool.not_eq_false', decide_eq_true_eq] at hc9); omega)))) ?_
 refine zg (Gd.f1 rfl rfl rfl) (fun hc => p_not (gh hc rfl)) <| Qq (p_pickOr rfl rfl rfl) <| Qm rfl <| zg (Gd.f1 rfl rfl rfl) (fun hc => p_move rfl) <| zg (Gd.f1 rfl rfl rfl) (fun hc => p_move rfl) <| zg (Gd.f1 rfl rfl rfl) (fun hc => p_neq (gh hc rfl) (gh hc rfl)) <| Qq (p_pickOr rfl rfl rfl) <| Qm rfl <| zg (Gd.f1 rfl rfl rfl) (fun hc => p_move rfl) <| zg (Gd.f1 rfl rfl rfl) (fun hc => p_move rfl) <| zgv (Gd.f1 rfl rfl rfl) (fun hc => (opds_2 (gh hc rfl) (gh hc rfl))) (fun hc => (fun w hw => c_laws_f6ints (M.gainsR X4) (M.gainsR X4) (ok_ hw) (ok_ hw) (r0 := (by have hc9 := hc; (try simp only [Bool.not_eq_true', Bool.or_eq_false_iff, Bool.not_eq_false', decide_eq_true_eq] at hc9); omega)) (r1 := (by have hc9 := hc; (try simp only [Bool.not_eq_true', Bool.or_eq_false_iff, Bool.not_eq_false', decide_eq_true_eq] at hc9); omega)))) ?_
 refine zg (Gd.f1 rfl rfl rfl) (fun hc => p_not (gh hc rfl)) <| Qq (p_pickOr rfl rfl rfl) <| Qm rfl <| zg (Gd.f1 rfl rfl rfl) (fun hc => p_move rfl) <| zg (Gd.f1 rfl rfl rfl) (fun hc => p_move rfl) <| zg (Gd.f1 rfl rfl rfl) (fun hc => p_neq (gh hc rfl) (gh hc rfl)) <| Qq (p_pickOr rfl rfl rfl) <| Qm rfl <| zg (Gd.f1 rfl rfl rfl) (fun hc => p_move rfl) <| zg (Gd.f1 rfl rfl rfl) (fun hc => p_move rfl) <| zg (Gd.f1 rfl rfl rfl) (fun hc => p_neq (gh hc rfl) (gh hc rfl)) <| Qq (p_pickOr rfl rfl rfl) <| JL.nil ?_
 refine zi (fun h23 h23' => ?_) fun h23 h23' => ?_
 · exact absurd h23 (by simp [M.okC])
 refine Js.skip <| Js.seq <| zS <| Qa rfl <| JL.nil <| Js.block ?_
 refine zl [0, 3, 4, 5, 6, 12, 16] (fun F U l os u m => ∃ (k : Nat), l = F [(20, .int .i64 (k : Int))] ∧ os = U [] ∧ (k ≤ (M.histR X4).length) ∧ m = (M.histR X4).length - k) ⟨0, rfl, rfl, zt, rfl⟩ ?_
 rintro _ _ u24 _ ⟨k, rfl, rfl, hk, rfl⟩ x24
 refine zn ?_
 refine Js.seq <| zS <| Qm rfl <| Qm rfl <| Qz rfl <| Ql rfl rfl <| JL.nil ?_
 refine zi (fun h25 h25' => ?_) fun h25 h25' => ?_
 ·
  obtain ⟨y26, hy26⟩ : ∃ x, (M.histR X4)[k]? = some x := ⟨_, List.getElem?_eq_getElem (by omega)⟩
  have hye := M.histR_el hy26
  refine Js.skip <| Js.seq <| Js.block <| Js.seq ?_
  refine zdr [] ?_
  refine JH.p 0 rfl (p_move rfl) ?_
  refine JH.p 1 rfl (p_move rfl) ?_
  have hy27 := hy26
  obtain ⟨b27, o27, A27_0, c27_0, A27_1, c27_1, he27, hr27, h27_0, h27_1, bl27_0, bh27_0, bl27_1, bh27_1⟩ := elem_Position (Ty.mono _ h12 (((((x13.vis.trans x15.vis).trans x17.vis).trans x19.vis).trans x21.vis).trans x24.vis)) hy27
  refine JH.p 2 rfl (p_indexAddr el_32 rfl rfl (by omega) (by omega) he27) ?_
  refine JH.w 3 rfl (fun os' u' hv => LS 0 (hr27.vis hv) rfl) ?_
  refine JH.p 4 rfl (p_move rfl) ?_
  refine JH.p 5 rfl (p_move rfl) ?_
  have hy28 := hy26
  obtain ⟨b28, o28, A28_0, c28_0, A28_1, c28_1, he28, hr28, h28_0, h28_1, bl28_0, bh28_0, bl28_1, bh28_1⟩ := elem_Position (Ty.mono _ h14 ((((x15.vis.trans x17.vis).trans x19.vis).trans x21.vis).trans x24.vis)) hy28
  refine JH.p 6 rfl (p_indexAddr el_32 rfl rfl (by omega) (by omega) he28) ?_
  refine JH.w 7 rfl (fun os' u' hv => LS 0 (hr28.vis hv) rfl) ?_
  refine y1 8 ?_
  refine yv rfl rfl (fun w hw => c_spec_SamePosition y26 y26 (ok_ hw) (ok_ hw)) ?_
  refine JH.p 9 rfl (p_not rfl) ?_
  refine yd ?_
  refine zi (fun h29 h29' => ?_) fun h29 h29' => ?_
  · exact absurd h29 (by simp [M.sameP_of])
  refine Js.skip <| Js.blockEnd <| Js.region <| Qm rfl <| Qp rfl rfl <| Qa rfl <| JL.nil ?_
  exact zag ⟨k + 1, rfl, rfl, zt, rfl⟩ x24
 refine zx ?_
 refine zS <| Qm rfl <| zp rfl (fun w hw => c_spec_DrawPlayMoves code (ok_ hw)) ?_
 intro u30 x30 X31 hX31 A32 c32 h32 bl32 bh32 A33 c33 h33 bl33 bh33 A34 c34 h34 bl34 bh34 A35 c35 h35 bl35 bh35 A36 c36 h36 bl36 bh36 X37 hX37 A38 c38 h38 bl38 bh38
 refine Qm rfl <| Qx rfl rfl <| Qx rfl rfl <| za zeh fun b39 => zw 0 rfl rfl rfl ?_
 refine Qa rfl <| zN <| Q9 0 rfl rfl ?_
 refine Qm rfl <| zp rfl (fun w hw => c_impl_PlayMoves X31 X37 (ok_ hw) (ok_ hw)) ?_
 intro u40 x40 A41 c41 h41 bl41 bh41 A42 c42 h42 bl42 bh42 A43 c43 h43 bl43 bh43 A44 c44 h44 bl44 bh44 A45 c45 h45 bl45 bh45
 refine Qm rfl <| Qx rfl rfl <| Qx rfl rfl <| Qx rfl rfl <| za zeh fun b46 => zw 0 rfl rfl rfl ?_
 refine Qa rfl <| Qa rfl <| zN <| Q9 1 rfl rfl ?_
 refine Qm rfl <| zp rfl (fun w hw => c_spec_PlayMoves X31 X37 (ok_ hw) (ok_ hw)) ?_
 intro u47 x47 A48 c48 h48 bl48 bh48 A49 c49 h49 bl49 bh49 A50 c50 h50 bl50 bh50 A51 c51 h51 bl51 bh51 A52 c52 h52 bl52 bh52
 obtain ⟨w1_0, w1_1, w1_2, w1_3, w1_4⟩ := (M.playsR_small _ _ : M.Small ((M.playsR X31 X37).1))
 have p1 := M.playsR_le X31 X37
 refine Qm rfl <| Qx rfl rfl <| Qx rfl rfl <| Qx rfl rfl <| za zeh fun b53 => zw 0 rfl rfl rfl ?_
 refine Qa rfl <| Qa rfl <| zJ <| zS <| Qm rfl <| Qm rfl <| Qd rfl rfl <| Qm rfl <| zg (Gd.f1 rfl rfl rfl) (fun hc => p_move rfl) <| zg (Gd.f1 rfl rfl rfl) (fun hc => p_move rfl) <| zg (Gd.f1 rfl rfl rfl) (fun hc => p_neq (gh hc rfl) (gh hc rfl)) <| Qq (p_pickOr rfl rfl rfl) <| Qm rfl <| zgq (Gd.f1 rfl rfl rfl) (fun hc => L9 1 rfl rfl) ?_
 refine zgq (Gd.f1 rfl rfl rfl) (fun hc => L9 0 rfl rfl) <| zgv (Gd.f1 rfl rfl rfl) (fun hc => (opds_2 (gh hc rfl) (gh hc rfl))) (fun hc => (fun w hw => c_spec_SameGame ((M.playsR X31 X37).1) ((M.playsR X31 X37).1) (ok_ hw) (ok_ hw) (r0 := (by have hc9 := hc; (try simp only [Bool.not_eq_true', Bool.or_eq_false_iff, Bool.not_eq_false', decide_eq_true_eq] at hc9); omega)) (r1 := (by have hc9 := hc; (try simp only [Bool.not_eq_true', Bool.or_eq_false_iff, Bool.not_eq_false', decide_eq_true_eq] at hc9); omega)) (r2 := (by have hc9 := hc; (try simp only [Bool.not_eq_true', Bool.or_eq_false_iff, Bool.not_eq_false', decide_eq_true_eq] at hc9); omega)) (r3 := (by have hc9 := hc; (try simp only [Bool.not_eq_true', Bool.or_eq_false_iff, Bool.not_eq_false', decide_eq_true_eq] at hc9); omega)) (r4 := (by have hc9 := hc; (try simp only [Bool.not_eq_true', Bool.or_eq_false_iff, Bool.not_eq_false', decide_eq_true_eq] at hc9); omega)) (r5 := (by have hc9 := hc; (try simp only [Bool.not_eq_true', Bool.or_eq_false_iff, Bool.not_eq_false', decide_eq_true_eq] at hc9); omega)) (r6 := (by have hc9 := hc; (try simp only [Bool.not_eq_true', Bool.or_eq_false_iff, Bool.not_eq_false', decide_eq_true_eq] at hc9); omega)) (r7 := (by have hc9 := hc; (try simp only [Bool.not_eq_true', Bool.or_eq_false_iff, Bool.not_eq_false', decide_eq_true_eq] at hc9); omega)) (r8 := (by have hc9 := hc; (try simp only [Bool.not_eq_true', Bool.or_eq_false_iff, Bool.not_eq_false', decide_eq_true_eq] at hc9); omega)) (r9 := (by have hc9 := hc; (try simp only [Bool.not_eq_true', Bool.or_eq_false_iff, Bool.not_eq_false', decide_eq_true_eq] at hc9); omega)))) ?_
 refine zg (Gd.f1 rfl rfl rfl) (fun hc => p_not (gh hc rfl)) <| Qq (p_pickOr rfl rfl rfl) <| JL.nil ?_
 refine zi (fun h54 h54' => ?_) fun h54 h54' => ?_
 · exact absurd h54 (by simp [M.sameG_refl])
 refine Js.skip <| Js.seq <| zS <| Qm rfl <| Qe rfl rfl <| JL.nil ?_
 refine zk [3, 4, 5, 12, 16] (fun F U l os u => l = F [] ∧ os = U []) ?_ ?_
 ·
  refine zi (fun h56 h56' => ?_) fun h56 h56' => ?_
  ·
   have hz0 := h56'
   have hz : (M.playsR X31 X37).2.2 = 0 := by simpa using hz0
   have hok := M.playsR_ok hz
   obtain ⟨v_0, v_1, v_2, v_3, v_4⟩ := M.Small.ok hok
   refine zS <| Qm rfl <| zcs rfl (fun w hw => c_laws_f6roll code 801 (ok_ hw)) ?_
   intro X57 hX57 b58
   refine Qm rfl <| Qp rfl rfl <| zB 1 sp_ rfl (fun w hb hw => c_laws_f6dice_below code 0 X57 (((M.playsR X31 X37).2.1 : Int) + 1) hb (ok_ hw)) ?_
   rintro _ _ G59 ⟨X59KX, X59IX, X59HX, rfl, rfl, hX59_0, hX59_1⟩
   refine znl ?_
   refine Qa rfl <| zJ ?_
   refine zk [3, 4, 5, 12, 16, 22, 23, 27, 29] (fun F U l os u => ∃ (b67 : Nat) (A62 : Option Addr) (c62 : Nat) (A63 : Option Addr) (c63 : Nat) (A64 : Option Addr) (c64 : Nat) (A65 : Option Addr) (c65 : Nat) (A66 : Option Addr) (c66 : Nat), l = F [(30, .pointer (some ⟨b67, 0, none⟩)), (31, .int .i64 ((M.playsR X31 ((X37.drop 0).take (X59KX.toNat - 0))).2.1 : Int)), (32, .int .i64 ((M.playsR X31 ((X37.drop 0).take (X59KX.toNat - 0))).2.2))] ∧ os = [boxO b67 [.int .i64 ((((M.playsR X31 ((X37.drop 0).take (X59KX.toNat - 0))).1).rules).pits), .int .i64 ((((M.playsR X31 ((X37.drop 0).take (X59KX.toNat - 0))).1).rules).seeds), .bool ((((M.playsR X31 ((X37.drop 0).take (X59KX.toNat - 0))).1).rules).stores), .bool ((((M.playsR X31 ((X37.drop 0).take (X59KX.toNat - 0))).1).rules).skip), .bool ((((M.playsR X31 ((X37.drop 0).take (X59KX.toNat - 0))).1).rules).relay), .bool ((((M.playsR X31 ((X37.drop 0).take (X59KX.toNat - 0))).1).rules).feed), .bool ((((M.playsR X31 ((X37.drop 0).take (X59KX.toNat - 0))).1).rules).again), .int .i64 ((((M.playsR X31 ((X37.drop 0).take (X59KX.toNat - 0))).1).rules).capture), .int .i64 ((((M.playsR X31 ((X37.drop 0).take (X59KX.toNat - 0))).1).rules).slam), .slice A62 (((((M.playsR X31 ((X37.drop 0).take (X59KX.toNat - 0))).1).start).pits).length) c62, .slice A63 (((((M.playsR X31 ((X37.drop 0).take (X59KX.toNat - 0))).1).start).stores).length) c63, .int .i64 ((((M.playsR X31 ((X37.drop 0).take (X59KX.toNat - 0))).1).start).player), .slice A64 ((((M.playsR X31 ((X37.drop 0).take (X59KX.toNat - 0))).1).moves).length) c64, .slice A65 (((((M.playsR X31 ((X37.drop 0).take (X59KX.toNat - 0))).1).now).pits).length) c65, .slice A66 (((((M.playsR X31 ((X37.drop 0).take (X59KX.toNat - 0))).1).now).stores).length) c66, .int .i64 ((((M.playsR X31 ((X37.drop 0).take (X59KX.toNat - 0))).1).now).player), .int .i64 (((M.playsR X31 ((X37.drop 0).take (X59KX.toNat - 0))).1).resigned)] 30] ++ U [] ∧ (((((M.playsR X31 ((X37.drop 0).take (X59KX.toNat - 0))).1).start).pits).length ≤ c62) ∧ (c62 ≤ 9223372036854775807) ∧ ((Ty.ints 2 ((((M.playsR X31 ((X37.drop 0).take (X59KX.toNat - 0))).1).start).pits)).ok u (.slice A62 (((((M.playsR X31 ((X37.drop 0).take (X59KX.toNat - 0))).1).start).pits).length) c62)) ∧ (((((M.playsR X31 ((X37.drop 0).take (X59KX.toNat - 0))).1).start).stores).length ≤ c63) ∧ (c63 ≤ 9223372036854775807) ∧ ((Ty.ints 2 ((((M.playsR X31 ((X37.drop 0).take (X59KX.toNat - 0))).1).start).stores)).ok u (.slice A63 (((((M.playsR X31 ((X37.drop 0).take (X59KX.toNat - 0))).1).start).stores).length) c63)) ∧ ((((M.playsR X31 ((X37.drop 0).take (X59KX.toNat - 0))).1).moves).length ≤ c64) ∧ (c64 ≤ 9223372036854775807) ∧ ((Ty.ints 2 (((M.playsR X31 ((X37.drop 0).take (X59KX.toNat - 0))).1).moves)).ok u (.slice A64 ((((M.playsR X31 ((X37.drop 0).take (X59KX.toNat - 0))).1).moves).length) c64)) ∧ (((((M.playsR X31 ((X37.drop 0).take (X59KX.toNat - 0))).1).now).pits).length ≤ c65) ∧ (c65 ≤ 9223372036854775807) ∧ ((Ty.ints 2 ((((M.playsR X31 ((X37.drop 0).take (X59KX.toNat - 0))).1).now).pits)).ok u (.slice A65 (((((M.playsR X31 ((X37.drop 0).take (X59KX.toNat - 0))).1).now).pits).length) c65)) ∧ (((((M.playsR X31 ((X37.drop 0).take (X59KX.toNat - 0))).1).now).stores).length ≤ c66) ∧ (c66 ≤ 9223372036854775807) ∧ ((Ty.ints 2 ((((M.playsR X31 ((X37.drop 0).take (X59KX.toNat - 0))).1).now).stores)).ok u (.slice A66 (((((M.playsR X31 ((X37.drop 0).take (X59KX.toNat - 0))).1).now).stores).length) c66))) ?_ ?_
   ·
    refine zdr [10] ?_
    refine JH.q 0 rfl (L9 4 rfl rfl) ?_
    refine JH.p 1 rfl (p_move rfl) ?_
    refine JH.p 2 rfl (p_move rfl) ?_
    have hs76 := ints_cut (a := 0) (b := X59KX.toNat) (m := c38) (Ty.mono _ h38 (x40.vis.trans x47.vis)) (by omega) (by omega) (by omega) (by omega)
    have hl76 : ((X37.drop 0).take (X59KX.toNat - 0)).length = X59KX.toNat - 0 := by rw [List.length_take, List.length_drop]; omega
    refine JH.p 3 rfl (p_slice (lo' := 0) (hi' := X59KX.toNat) (mx' := c38) el_26 rfl rfl ⟨_, by rw [Int.toNat_of_nonneg (by omega)]; exact rfl, by omega⟩ rfl) ?_
    refine y2 4 9 ?_ ?_
    ·
     refine yp rfl rfl (fun w hw => c_impl_PlayMoves X31 ((X37.drop 0).take (X59KX.toNat - 0)) (ok_ hw) (ok_ hw)) ?_
     intro u77 x77 A78 c78 h78 bl78 bh78 A79 c79 h79 bl79 bh79 A80 c80 h80 bl80 bh80 A81 c81 h81 bl81 bh81 A82 c82 h82 bl82 bh82
     refine JH.p 5 rfl (p_move rfl) ?_
     refine JH.p 6 rfl (p_extract rfl rfl) ?_
     refine JH.p 7 rfl (p_extract rfl rfl) ?_
     refine JH.p 8 rfl (p_extract rfl rfl) ?_
     refine y1 9 ?_
     refine ya rfl fun b83 => ?_
     refine y1 10 ?_
     refine yst rfl rfl rfl ?_
     refine JH.p 11 rfl (p_assign rfl) ?_
     refine JH.p 12 rfl (p_assign rfl) ?_
     refine yd ?_
     exact zm ⟨_, _, _, _, _, _, _, _, _, _, _, rfl, rfl, zt, zt, h78, zt, zt, h79, zt, zt, h80, zt, zt, h81, zt, zt, h82⟩ x77
    refine ya rfl fun b84 => ?_
    refine y1 4 ?_
    refine yp rfl rfl (fun w hw => c_impl_PlayMoves X31 ((X37.drop 0).take (X59KX.toNat - 0)) (ok_ hw) (ok_ hw)) ?_
    intro u85 x85 A86 c86 h86 bl86 bh86 A87 c87 h87 bl87 bh87 A88 c88 h88 bl88 bh88 A89 c89 h89 bl89 bh89 A90 c90 h90 bl90 bh90
    refine JH.p 5 rfl (p_move rfl) ?_
    refine JH.p 6 rfl (p_extract rfl rfl) ?_
    refine JH.p 7 rfl (p_extract rfl rfl) ?_
    refine JH.p 8 rfl (p_extract rfl rfl) ?_
    refine y1 10 ?_
    refine yst rfl rfl rfl ?_
    refine JH.p 11 rfl (p_assign rfl) ?_
    refine JH.p 12 rfl (p_assign rfl) ?_
    refine yd ?_
    exact zm ⟨_, _, _, _, _, _, _, _, _, _, _, rfl, rfl, zt, zt, h86, zt, zt, h87, zt, zt, h88, zt, zt, h89, zt, zt, h90⟩ x85
   rintro _ _ u75 ⟨b67, A62, c62, A63, c63, A64, c64, A65, c65, A66, c66, rfl, rfl, f75_0, f75_1, f75_2, f75_3, f75_4, f75_5, f75_6, f75_7, f75_8, f75_9, f75_10, f75_11, f75_12, f75_13, f75_14⟩ x75
   refine zn ?_
   obtain ⟨w2_0, w2_1, w2_2, w2_3, w2_4⟩ := (M.playsR_small _ _ : M.Small ((M.playsR X31 ((X37.drop 0).take (X59KX.toNat - 0))).1))
   refine Js.seq ?_
   refine zk [3, 4, 5, 12, 16, 23, 27, 29, 31, 32] (fun F U l os u => ∃ (b98 : Nat) (A93 : Option Addr) (c93 : Nat) (A94 : Option Addr) (c94 : Nat) (A95 : Option Addr) (c95 : Nat) (A96 : Option Addr) (c96 : Nat) (A97 : Option Addr) (c97 : Nat), l = F [(33, .pointer (some ⟨b98, 0, none⟩)), (34, .int .i64 ((M.playsR ((M.playsR X31 ((X37.drop 0).take (X59KX.toNat - 0))).1) ((X37.drop X59KX.toNat).take (X37.length - X59KX.toNat))).2.1 : Int)), (35, .int .i64 ((M.playsR ((M.playsR X31 ((X37.drop 0).take (X59KX.toNat - 0))).1) ((X37.drop X59KX.toNat).take (X37.length - X59KX.toNat))).2.2))] ∧ os = [boxO b98 [.int .i64 ((((M.playsR ((M.playsR X31 ((X37.drop 0).take (X59KX.toNat - 0))).1) ((X37.drop X59KX.toNat).take (X37.length - X59KX.toNat))).1).rules).pits), .int .i64 ((((M.playsR ((M.playsR X31 ((X37.drop 0).take (X59KX.toNat - 0))).1) ((X37.drop X59KX.toNat).take (X37.length - X59KX.toNat))).1).rules).seeds), .bool ((((M.playsR ((M.playsR X31 ((X37.drop 0).take (X59KX.toNat - 0))).1) ((X37.drop X59KX.toNat).take (X37.length - X59KX.toNat))).1).rules).stores), .bool ((((M.playsR ((M.playsR X31 ((X37.drop 0).take (X59KX.toNat - 0))).1) ((X37.drop X59KX.toNat).take (X37.length - X59KX.toNat))).1).rules).skip), .bool ((((M.playsR ((M.playsR X31 ((X37.drop 0).take (X59KX.toNat - 0))).1) ((X37.drop X59KX.toNat).take (X37.length - X59KX.toNat))).1).rules).relay), .bool ((((M.playsR ((M.playsR X31 ((X37.drop 0).take (X59KX.toNat - 0))).1) ((X37.drop X59KX.toNat).take (X37.length - X59KX.toNat))).1).rules).feed), .bool ((((M.playsR ((M.playsR X31 ((X37.drop 0).take (X59KX.toNat - 0))).1) ((X37.drop X59KX.toNat).take (X37.length - X59KX.toNat))).1).rules).again), .int .i64 ((((M.playsR ((M.playsR X31 ((X37.drop 0).take (X59KX.toNat - 0))).1) ((X37.drop X59KX.toNat).take (X37.length - X59KX.toNat))).1).rules).capture), .int .i64 ((((M.playsR ((M.playsR X31 ((X37.drop 0).take (X59KX.toNat - 0))).1) ((X37.drop X59KX.toNat).take (X37.length - X59KX.toNat))).1).rules).slam), .slice A93 (((((M.playsR ((M.playsR X31 ((X37.drop 0).take (X59KX.toNat - 0))).1) ((X37.drop X59KX.toNat).take (X37.length - X59KX.toNat))).1).start).pits).length) c93, .slice A94 (((((M.playsR ((M.playsR X31 ((X37.drop 0).take (X59KX.toNat - 0))).1) ((X37.drop X59KX.toNat).take (X37.length - X59KX.toNat))).1).start).stores).length) c94, .int .i64 ((((M.playsR ((M.playsR X31 ((X37.drop 0).take (X59KX.toNat - 0))).1) ((X37.drop X59KX.toNat).take (X37.length - X59KX.toNat))).1).start).player), .slice A95 ((((M.playsR ((M.playsR X31 ((X37.drop 0).take (X59KX.toNat - 0))).1) ((X37.drop X59KX.toNat).take (X37.length - X59KX.toNat))).1).moves).length) c95, .slice A96 (((((M.playsR ((M.playsR X31 ((X37.drop 0).take (X59KX.toNat - 0))).1) ((X37.drop X59KX.toNat).take (X37.length - X59KX.toNat))).1).now).pits).length) c96, .slice A97 (((((M.playsR ((M.playsR X31 ((X37.drop 0).take (X59KX.toNat - 0))).1) ((X37.drop X59KX.toNat).take (X37.length - X59KX.toNat))).1).now).stores).length) c97, .int .i64 ((((M.playsR ((M.playsR X31 ((X37.drop 0).take (X59KX.toNat - 0))).1) ((X37.drop X59KX.toNat).take (X37.length - X59KX.toNat))).1).now).player), .int .i64 (((M.playsR ((M.playsR X31 ((X37.drop 0).take (X59KX.toNat - 0))).1) ((X37.drop X59KX.toNat).take (X37.length - X59KX.toNat))).1).resigned)] 30] ++ U [] ∧ (((((M.playsR ((M.playsR X31 ((X37.drop 0).take (X59KX.toNat - 0))).1) ((X37.drop X59KX.toNat).take (X37.length - X59KX.toNat))).1).start).pits).length ≤ c93) ∧ (c93 ≤ 9223372036854775807) ∧ ((Ty.ints 2 ((((M.playsR ((M.playsR X31 ((X37.drop 0).take (X59KX.toNat - 0))).1) ((X37.drop X59KX.toNat).take (X37.length - X59KX.toNat))).1).start).pits)).ok u (.slice A93 (((((M.playsR ((M.playsR X31 ((X37.drop 0).take (X59KX.toNat - 0))).1) ((X37.drop X59KX.toNat).take (X37.length - X59KX.toNat))).1).start).pits).length) c93)) ∧ (((((M.playsR ((M.playsR X31 ((X37.drop 0).take (X59KX.toNat - 0))).1) ((X37.drop X59KX.toNat).take (X37.length - X59KX.toNat))).1).start).stores).length ≤ c94) ∧ (c94 ≤ 9223372036854775807) ∧ ((Ty.ints 2 ((((M.playsR ((M.playsR X31 ((X37.drop 0).take (X59KX.toNat - 0))).1) ((X37.drop X59KX.toNat).take (X37.length - X59KX.toNat))).1).start).stores)).ok u (.slice A94 (((((M.playsR ((M.playsR X31 ((X37.drop 0).take (X59KX.toNat - 0))).1) ((X37.drop X59KX.toNat).take (X37.length - X59KX.toNat))).1).start).stores).length) c94)) ∧ ((((M.playsR ((M.playsR X31 ((X37.drop 0).take (X59KX.toNat - 0))).1) ((X37.drop X59KX.toNat).take (X37.length - X59KX.toNat))).1).moves).length ≤ c95) ∧ (c95 ≤ 9223372036854775807) ∧ ((Ty.ints 2 (((M.playsR ((M.playsR X31 ((X37.drop 0).take (X59KX.toNat - 0))).1) ((X37.drop X59KX.toNat).take (X37.length - X59KX.toNat))).1).moves)).ok u (.slice A95 ((((M.playsR ((M.playsR X31 ((X37.drop 0).take (X59KX.toNat - 0))).1) ((X37.drop X59KX.toNat).take (X37.length - X59KX.toNat))).1).moves).length) c95)) ∧ (((((M.playsR ((M.playsR X31 ((X37.drop 0).take (X59KX.toNat - 0))).1) ((X37.drop X59KX.toNat).take (X37.length - X59KX.toNat))).1).now).pits).length ≤ c96) ∧ (c96 ≤ 9223372036854775807) ∧ ((Ty.ints 2 ((((M.playsR ((M.playsR X31 ((X37.drop 0).take (X59KX.toNat - 0))).1) ((X37.drop X59KX.toNat).take (X37.length - X59KX.toNat))).1).now).pits)).ok u (.slice A96 (((((M.playsR ((M.playsR X31 ((X37.drop 0).take (X59KX.toNat - 0))).1) ((X37.drop X59KX.toNat).take (X37.length - X59KX.toNat))).1).now).pits).length) c96)) ∧ (((((M.playsR ((M.playsR X31 ((X37.drop 0).take (X59KX.toNat - 0))).1) ((X37.drop X59KX.toNat).take (X37.length - X59KX.toNat))).1).now).stores).length ≤ c97) ∧ (c97 ≤ 9223372036854775807) ∧ ((Ty.ints 2 ((((M.playsR ((M.playsR X31 ((X37.drop 0).take (X59KX.toNat - 0))).1) ((X37.drop X59KX.toNat).take (X37.length - X59KX.toNat))).1).now).stores)).ok u (.slice A97 (((((M.playsR ((M.playsR X31 ((X37.drop 0).take (X59KX.toNat - 0))).1) ((X37.drop X59KX.toNat).take (X37.length - X59KX.toNat))).1).now).stores).length) c97))) ?_ ?_
   ·
    refine zdr [10] ?_
    refine JH.q 0 rfl (L9 0 rfl rfl) ?_
    refine JH.p 1 rfl (p_move rfl) ?_
    refine JH.p 2 rfl (p_move rfl) ?_
    have hs107 := ints_cut (a := X59KX.toNat) (b := X37.length) (m := c38) (Ty.mono _ h38 ((x40.vis.trans x47.vis).trans x75.vis)) (by omega) (by omega) (by omega) (by omega)
    have hl107 : ((X37.drop X59KX.toNat).take (X37.length - X59KX.toNat)).length = X37.length - X59KX.toNat := by rw [List.length_take, List.length_drop]; omega
    refine JH.p 3 rfl (p_slice (lo' := X59KX.toNat) (hi' := X37.length) (mx' := c38) el_26 rfl rfl ⟨rfl, rfl⟩ ⟨_, by rw [Int.toNat_of_nonneg (by omega)]; exact rfl, by omega⟩) ?_
    refine y2 4 9 ?_ ?_
    ·
     refine yp rfl rfl (fun w hw => c_impl_PlayMoves ((M.playsR X31 ((X37.drop 0).take (X59KX.toNat - 0))).1) ((X37.drop X59KX.toNat).take (X37.length - X59KX.toNat)) (ok_ hw) (ok_ hw)) ?_
     intro u108 x108 A109 c109 h109 bl109 bh109 A110 c110 h110 bl110 bh110 A111 c111 h111 bl111 bh111 A112 c112 h112 bl112 bh112 A113 c113 h113 bl113 bh113
     refine JH.p 5 rfl (p_move rfl) ?_
     refine JH.p 6 rfl (p_extract rfl rfl) ?_
     refine JH.p 7 rfl (p_extract rfl rfl) ?_
     refine JH.p 8 rfl (p_extract rfl rfl) ?_
     refine y1 9 ?_
     refine ya rfl fun b114 => ?_
     refine y1 10 ?_
     refine yst rfl rfl rfl ?_
     refine JH.p 11 rfl (p_assign rfl) ?_
     refine JH.p 12 rfl (p_assign rfl) ?_
     refine yd ?_
     exact zm ⟨_, _, _, _, _, _, _, _, _, _, _, rfl, rfl, zt, zt, h109, zt, zt, h110, zt, zt, h111, zt, zt, h112, zt, zt, h113⟩ x108
    refine ya rfl fun b115 => ?_
    refine y1 4 ?_
    refine yp rfl rfl (fun w hw => c_impl_PlayMoves ((M.playsR X31 ((X37.drop 0).take (X59KX.toNat - 0))).1) ((X37.drop X59KX.toNat).take (X37.length - X59KX.toNat)) (ok_ hw) (ok_ hw)) ?_
    intro u116 x116 A117 c117 h117 bl117 bh117 A118 c118 h118 bl118 bh118 A119 c119 h119 bl119 bh119 A120 c120 h120 bl120 bh120 A121 c121 h121 bl121 bh121
    refine JH.p 5 rfl (p_move rfl) ?_
    refine JH.p 6 rfl (p_extract rfl rfl) ?_
    refine JH.p 7 rfl (p_extract rfl rfl) ?_
    refine JH.p 8 rfl (p_extract rfl rfl) ?_
    refine y1 10 ?_
    refine yst rfl rfl rfl ?_
    refine JH.p 11 rfl (p_assign rfl) ?_
    refine JH.p 12 rfl (p_assign rfl) ?_
    refine yd ?_
    exact zm ⟨_, _, _, _, _, _, _, _, _, _, _, rfl, rfl, zt, zt, h117, zt, zt, h118, zt, zt, h119, zt, zt, h120, zt, zt, h121⟩ x116
   rintro _ _ u106 ⟨b98, A93, c93, A94, c94, A95, c95, A96, c96, A97, c97, rfl, rfl, f106_0, f106_1, f106_2, f106_3, f106_4, f106_5, f106_6, f106_7, f106_8, f106_9, f106_10, f106_11, f106_12, f106_13, f106_14⟩ x106
   refine zn ?_
   obtain ⟨w3_0, w3_1, w3_2, w3_3, w3_4⟩ := (M.playsR_small _ _ : M.Small ((M.playsR ((M.playsR X31 ((X37.drop 0).take (X59KX.toNat - 0))).1) ((X37.drop X59KX.toNat).take (X37.length - X59KX.toNat))).1))
   have e1 : (X37.drop 0).take (X59KX.toNat - 0) = X37.take X59KX.toNat := by simp
   have e2 : (X37.drop X59KX.toNat).take (X37.length - X59KX.toNat) = X37.drop X59KX.toNat := by rw [List.take_of_length_le (by rw [List.length_drop]; omega)]
   have hsp := M.split_of (g := X31) (ms := X37) (k := X59KX.toNat) hok (by omega)
   have e3 : ((X59KX.toNat : Nat) : Int) = X59KX := Int.toNat_of_nonneg (by omega)
   have e5 : X59KX + (((M.playsR X31 X37).2.1 - X59KX.toNat : Nat) : Int) = ((M.playsR X31 X37).2.1 : Int) := by omega
   have p2 := M.playsR_le X31 ((X37.drop 0).take (X59KX.toNat - 0))
   have p3 := M.playsR_le (M.playsR X31 ((X37.drop 0).take (X59KX.toNat - 0))).1 ((X37.drop X59KX.toNat).take (X37.length - X59KX.toNat))
   simp only [List.length_take, List.length_drop] at p2 p3
   refine zS <| Qm rfl <| Qd rfl rfl <| Qm rfl <| zg (Gd.f1 rfl rfl rfl) (fun hc => p_move rfl) <| zg (Gd.f1 rfl rfl rfl) (fun hc => p_neq (gh hc rfl) rfl) <| Qq (p_pickOr rfl rfl rfl) <| Qm rfl <| zg (Gd.f1 rfl rfl rfl) (fun hc => p_move rfl) <| zg (Gd.f1 rfl rfl rfl) (fun hc => p_move rfl) <| zg (Gd.f1 rfl rfl rfl) (fun hc => p_neq (gh hc rfl) (gh hc rfl)) <| Qq (p_pickOr rfl rfl rfl) <| Qm rfl <| zg (Gd.f1 rfl rfl rfl) (fun hc => p_move rfl) ?_
   refine zg (Gd.f1 rfl rfl rfl) (fun hc => p_move rfl) <| zg (Gd.f1 rfl rfl rfl) (fun hc => p_add (gh hc rfl) (gh hc rfl) (IntWalk.i64_in _ (by have hc9 := hc; (try simp only [Bool.not_eq_true', Bool.or_eq_false_iff, Bool.not_eq_false', decide_eq_true_eq] at hc9); omega))) ?_
   refine zg (Gd.f1 rfl rfl rfl) (fun hc => p_move rfl) <| zg (Gd.f1 rfl rfl rfl) (fun hc => p_neq (gh hc rfl) (gh hc rfl)) <| Qq (p_pickOr rfl rfl rfl) <| Qm rfl <| zgq (Gd.f1 rfl rfl rfl) (fun hc => L9 0 rfl rfl) <| zgq (Gd.f1 rfl rfl rfl) (fun hc => L9 5 rfl rfl) <| zgv (Gd.f1 rfl rfl rfl) (fun hc => (opds_2 (gh hc rfl) (gh hc rfl))) (fun hc => (fun w hw => c_spec_SameGame ((M.playsR ((M.playsR X31 ((X37.drop 0).take (X59KX.toNat - 0))).1) ((X37.drop X59KX.toNat).take (X37.length - X59KX.toNat))).1) ((M.playsR X31 X37).1) (ok_ hw) (ok_ hw) (r0 := (by have hc9 := hc; (try simp only [Bool.not_eq_true', Bool.or_eq_false_iff, Bool.not_eq_false', decide_eq_true_eq] at hc9); omega)) (r1 := (by have hc9 := hc; (try simp only [Bool.not_eq_true', Bool.or_eq_false_iff, Bool.not_eq_false', decide_eq_true_eq] at hc9); omega)) (r2 := (by have hc9 := hc; (try simp only [Bool.not_eq_true', Bool.or_eq_false_iff, Bool.not_eq_false', decide_eq_true_eq] at hc9); omega)) (r3 := (by have hc9 := hc; (try simp only [Bool.not_eq_true', Bool.or_eq_false_iff, Bool.not_eq_false', decide_eq_true_eq] at hc9); omega)) (r4 := (by have hc9 := hc; (try simp only [Bool.not_eq_true', Bool.or_eq_false_iff, Bool.not_eq_false', decide_eq_true_eq] at hc9); omega)) (r5 := (by have hc9 := hc; (try simp only [Bool.not_eq_true', Bool.or_eq_false_iff, Bool.not_eq_false', decide_eq_true_eq] at hc9); omega)) (r6 := (by have hc9 := hc; (try simp only [Bool.not_eq_true', Bool.or_eq_false_iff, Bool.not_eq_false', decide_eq_true_eq] at hc9); omega)) (r7 := (by have hc9 := hc; (try simp only [Bool.not_eq_true', Bool.or_eq_false_iff, Bool.not_eq_false', decide_eq_true_eq] at hc9); omega)) (r8 := (by have hc9 := hc; (try simp only [Bool.not_eq_true', Bool.or_eq_false_iff, Bool.not_eq_false', decide_eq_true_eq] at hc9); omega)) (r9 := (by have hc9 := hc; (try simp only [Bool.not_eq_true', Bool.or_eq_false_iff, Bool.not_eq_false', decide_eq_true_eq] at hc9); omega)))) ?_
   refine zg (Gd.f1 rfl rfl rfl) (fun hc => p_not (gh hc rfl)) <| Qq (p_pickOr rfl rfl rfl) <| JL.nil ?_
   refine zi (fun h122 h122' => ?_) fun h122 h122' => ?_
   · exact absurd h122 (by simp only [e1, e2, hsp.a1, hsp.b1, e3, e5, M.sameG_refl, eq_self, decide_true, Bool.not_true, Bool.or_false, Bool.false_or, Bool.false_eq_true, not_false_eq_true])
   refine Js.skip ?_
   refine zd [4, 4, 4, 4] rfl fun u123 x123 => ?_
   exact zm ⟨rfl, rfl⟩ ((x75.trans x106).trans x123)
  refine Js.skip ?_
  exact zm ⟨rfl, rfl⟩ (Up.refl _ _)
 rintro _ _ u55 ⟨rfl, rfl⟩ x55
 refine zn ?_
 refine Js.seq <| zS <| Qm rfl <| Qd rfl rfl <| JL.nil ?_
 refine zi (fun h124 h124' => ?_) fun h124 h124' => ?_
 ·
  refine zS <| Qa rfl <| JL.nil ?_
  refine zR (((((((((((x3.trans x11).trans x13).trans x15).trans x17).trans x19).trans x21).trans x24).trans x30).trans x40).trans x47).trans x55) ?_
  first | rfl | (simp [outV, hHl, e0, e1, hsum, hok2, hH.cnt, M.sameP_of]; done)
 have hz9 := h124'
 have hok2 : M.okG X4 = true := by
    cases h9 : M.okG X4
    · rw [M.okC_no h9] at hz9; simp at hz9
    · rfl
 have hH := M.hist_of hok2
 have hHl := hH.len
 refine Js.skip <| zS <| Qa rfl <| zJ <| zS <| Qa rfl <| JL.nil <| Js.block ?_
 refine zl [3, 4, 12, 16] (fun F U l os u m => ∃ (k : Nat) (sum : Int), l = F [(36, .int .i64 sum), (37, .int .i64 (k : Int))] ∧ os = U [] ∧ (sum = M.isum ((M.gainsR X4).take k)) ∧ (k ≤ (M.gainsR X4).length) ∧ (-96 * (k : Int) ≤ sum) ∧ (sum ≤ 96 * (k : Int)) ∧ m = (M.gainsR X4).length - k) ⟨0, 0, rfl, rfl, by rfl, zt, by simp, by simp, rfl⟩ ?_
 rintro _ _ u125 _ ⟨k, sum, rfl, rfl, hS, hk, hs0, hs1, rfl⟩ x125
 refine zn ?_
 refine Js.seq <| zS <| Qm rfl <| Qm rfl <| Qz rfl <| Ql rfl rfl <| JL.nil ?_
 refine zi (fun h126 h126' => ?_) fun h126 h126' => ?_
 ·
  have hv := hH.bd (M.nth (M.gainsR X4) k) (M.nth_mem (by omega))
  obtain ⟨b127, o127, he127, hc127⟩ := ints_elem (Ty.mono _ h20 ((((((x21.vis.trans x24.vis).trans x30.vis).trans x40.vis).trans x47.vis).trans x55.vis).trans x125.vis)) (i := k) (by omega)
  refine Js.skip <| Js.seq <| Js.block <| Js.region <| Qm rfl <| Qm rfl <| Qm rfl <| Qq (p_indexAddr el_26 rfl rfl (by omega) (by omega) he127) <| QC hc127 rfl <| Qp rfl rfl <| Qa rfl <| JL.nil <| Js.blockEnd <| Js.region ?_
  refine Qm rfl <| Qp rfl rfl <| Qa rfl <| JL.nil ?_
  exact zag ⟨k + 1, sum + (M.nth (M.gainsR X4) k), rfl, rfl, by rw [hS, M.isum_take (by omega)], zt, zt, zt, rfl⟩ x125
 have hE : sum = M.isum (M.gainsR X4) := by rw [hS, List.take_of_length_le (by have := h126'; omega)]
 obtain ⟨a1, a2, a3, a4, a5, a6, a7⟩ := M.okP_bd (M.okG_now hok2)
 obtain ⟨b1, b2, b3, b4, b5, b6, b7⟩ := M.okP_bd (M.okG_parts hok2).1
 have t1 : M.isum X4.now.stores = M.nth X4.now.stores 0 + M.nth X4.now.stores 1 := M.isum_two a4
 have t2 : M.isum X4.start.stores = M.nth X4.start.stores 0 + M.nth X4.start.stores 1 := M.isum_two b4
 have u0 := M.allOk_nth a6 0
 have u1 := M.allOk_nth a6 1
 have u2 := M.allOk_nth b6 0
 have u3 := M.allOk_nth b6 1
 have hsum : sum = M.nth X4.now.stores 0 + M.nth X4.now.stores 1 - M.nth X4.start.stores 0 - M.nth X4.start.stores 1 := by rw [hE, hH.sum, t1, t2]; omega
 refine zx ?_
 refine Js.seq ?_
 refine zdr [] ?_
 refine JH.p 0 rfl (p_fieldAddr fld_30_3.h rfl) ?_
 refine JH.p 1 rfl (p_fieldAddr fld_28_1.h rfl) ?_
 refine JH.q 2 rfl (q_load1 ty_26.h rfl (Mem.box (i := 3) rfl rfl)) ?_
 obtain ⟨b128, o128, he128, hc128⟩ := ints_elem (Ty.mono _ h9 (((((((((((x11.vis.trans x13.vis).trans x15.vis).trans x17.vis).trans x19.vis).trans x21.vis).trans x24.vis).trans x30.vis).trans x40.vis).trans x47.vis).trans x55.vis).trans x125.vis)) (i := 0) (by omega)
 refine JH.p 3 rfl (p_indexAddr el_26 rfl rfl (by omega) (by omega) he128) ?_
 refine JH.w 4 rfl (fun os' u' hv => q_load1 ty_2.h rfl (Mem.pub (hc128.vis hv))) ?_
 refine JH.p 5 rfl (p_fieldAddr fld_30_3.h rfl) ?_
 refine JH.p 6 rfl (p_fieldAddr fld_28_1.h rfl) ?_
 refine JH.q 7 rfl (q_load1 ty_26.h rfl (Mem.box (i := 3) rfl rfl)) ?_
 obtain ⟨b129, o129, he129, hc129⟩ := ints_elem (Ty.mono _ h9 (((((((((((x11.vis.trans x13.vis).trans x15.vis).trans x17.vis).trans x19.vis).trans x21.vis).trans x24.vis).trans x30.vis).trans x40.vis).trans x47.vis).trans x55.vis).trans x125.vis)) (i := 1) (by omega)
 refine JH.p 8 rfl (p_indexAddr el_26 rfl rfl (by omega) (by omega) he129) ?_
 refine JH.w 9 rfl (fun os' u' hv => q_load1 ty_2.h rfl (Mem.pub (hc129.vis hv))) ?_
 refine JH.p 10 rfl (p_add rfl rfl (IntWalk.i64_in _ (by omega))) ?_
 refine JH.p 11 rfl (p_fieldAddr fld_30_1.h rfl) ?_
 refine JH.p 12 rfl (p_fieldAddr fld_28_1.h rfl) ?_
 refine JH.q 13 rfl (q_load1 ty_26.h rfl (Mem.box (i := 3) rfl rfl)) ?_
 obtain ⟨b130, o130, he130, hc130⟩ := ints_elem (Ty.mono _ h6 (((((((((((x11.vis.trans x13.vis).trans x15.vis).trans x17.vis).trans x19.vis).trans x21.vis).trans x24.vis).trans x30.vis).trans x40.vis).trans x47.vis).trans x55.vis).trans x125.vis)) (i := 0) (by omega)
 refine JH.p 14 rfl (p_indexAddr el_26 rfl rfl (by omega) (by omega) he130) ?_
 refine JH.w 15 rfl (fun os' u' hv => q_load1 ty_2.h rfl (Mem.pub (hc130.vis hv))) ?_
 refine JH.p 16 rfl (p_sub rfl rfl (IntWalk.i64_in _ (by omega))) ?_
 refine JH.p 17 rfl (p_fieldAddr fld_30_1.h rfl) ?_
 refine JH.p 18 rfl (p_fieldAddr fld_28_1.h rfl) ?_
 refine JH.q 19 rfl (q_load1 ty_26.h rfl (Mem.box (i := 3) rfl rfl)) ?_
 obtain ⟨b131, o131, he131, hc131⟩ := ints_elem (Ty.mono _ h6 (((((((((((x11.vis.trans x13.vis).trans x15.vis).trans x17.vis).trans x19.vis).trans x21.vis).trans x24.vis).trans x30.vis).trans x40.vis).trans x47.vis).trans x55.vis).trans x125.vis)) (i := 1) (by omega)
 refine JH.p 20 rfl (p_indexAddr el_26 rfl rfl (by omega) (by omega) he131) ?_
 refine JH.w 21 rfl (fun os' u' hv => q_load1 ty_2.h rfl (Mem.pub (hc131.vis hv))) ?_
 refine JH.p 22 rfl (p_sub rfl rfl (IntWalk.i64_in _ (by omega))) ?_
 refine JH.p 23 rfl (p_assign rfl) ?_
 refine yd ?_
 obtain ⟨y132, hy132⟩ : ∃ x, (M.histR X4)[0]? = some x := ⟨_, List.getElem?_eq_getElem (by omega)⟩
 have hye0 := M.histR_el hy132
 have e0 := Option.some.inj (hy132.symm.trans hH.first)
 obtain ⟨y133, hy133⟩ : ∃ x, (M.histR X4)[((((M.histR X4).length) : Int) - 1).toNat]? = some x := ⟨_, List.getElem?_eq_getElem (by omega)⟩
 have hye1 := M.histR_el hy133
 have e9 := hy133
 rw [show ((((M.histR X4).length) : Int) - 1).toNat = X4.moves.length by omega, hH.last] at e9
 have e1 := (Option.some.inj e9).symm
 refine Js.seq ?_
 refine zdr [] ?_
 refine JH.p 0 rfl (p_move rfl) ?_
 refine JH.p 1 rfl (p_len el_32 rfl) ?_
 refine JH.p 2 rfl (p_fieldAddr fld_30_2.h rfl) ?_
 refine JH.q 3 rfl (q_load1 ty_26.h rfl (Mem.box (i := 3) rfl rfl)) ?_
 refine JH.p 4 rfl (p_len el_26 rfl) ?_
 refine JH.p 5 rfl (p_add rfl rfl (IntWalk.i64_in _ (by omega))) ?_
 refine JH.p 6 rfl (p_eql rfl rfl) ?_
 refine JH.p 7 rfl (p_move rfl) ?_
 refine JH.pg 8 rfl (Gd.t1 rfl rfl rfl) (fun hc => p_move rfl) ?_
 have hy134 := hy132
 obtain ⟨b134, o134, A134_0, c134_0, A134_1, c134_1, he134, hr134, h134_0, h134_1, bl134_0, bh134_0, bl134_1, bh134_1⟩ := elem_Position (Ty.mono _ h12 ((((((((((x13.vis.trans x15.vis).trans x17.vis).trans x19.vis).trans x21.vis).trans x24.vis).trans x30.vis).trans x40.vis).trans x47.vis).trans x55.vis).trans x125.vis)) hy134
 refine JH.pg 9 rfl (Gd.t1 rfl rfl rfl) (fun hc => p_indexAddr el_32 (gvt rfl hc) rfl (by omega) (by omega) he134) ?_
 refine JH.wg 10 rfl (Gd.t1 rfl rfl rfl) (fun hc os' u' hv => LS 0 (hr134.vis hv) (gvt rfl hc)) ?_
 refine JH.pg 11 rfl (Gd.t1 rfl rfl rfl) (fun hc => p_fieldAddr fld_30_1.h rfl) ?_
 refine JH.qg 12 rfl (Gd.t1 rfl rfl rfl) (fun hc => L9 3 (gvt rfl hc) rfl) ?_
 refine y1 13 ?_
 refine JHo.ge rfl (Gd.t1 rfl rfl rfl) (fun hc => e_callV fn_17.h (opds_2 (gvt rfl hc) (gvt rfl hc)) (fun w hw => c_spec_SamePosition y132 X4.start (ok_ hw) (ok_ hw) (r0 := (by have hc9 := hc; (try simp only [decide_eq_true_eq] at hc9); omega)) (r1 := (by have hc9 := hc; (try simp only [decide_eq_true_eq] at hc9); omega)) (r2 := (by have hc9 := hc; (try simp only [decide_eq_true_eq] at hc9); omega)) (r3 := (by have hc9 := hc; (try simp only [decide_eq_true_eq] at hc9); omega)))) ?_
 refine JH.p 14 rfl (p_pickAnd rfl rfl rfl) ?_
 refine JH.p 15 rfl (p_move rfl) ?_
 refine JH.pg 16 rfl (Gd.t1 rfl rfl rfl) (fun hc => p_move rfl) ?_
 refine JH.pg 17 rfl (Gd.t1 rfl rfl rfl) (fun hc => p_move rfl) ?_
 refine JH.pg 18 rfl (Gd.t1 rfl rfl rfl) (fun hc => p_len el_32 (gvt rfl hc)) ?_
 refine JH.pg 19 rfl (Gd.t1 rfl rfl rfl) (fun hc => p_sub (gvt rfl hc) rfl (IntWalk.i64_in _ (by have hc9 := hc; (try simp only [Bool.and_eq_true, decide_eq_true_eq] at hc9); omega))) ?_
 have hy135 := hy133
 obtain ⟨b135, o135, A135_0, c135_0, A135_1, c135_1, he135, hr135, h135_0, h135_1, bl135_0, bh135_0, bl135_1, bh135_1⟩ := elem_Position (Ty.mono _ h12 ((((((((((x13.vis.trans x15.vis).trans x17.vis).trans x19.vis).trans x21.vis).trans x24.vis).trans x30.vis).trans x40.vis).trans x47.vis).trans x55.vis).trans x125.vis)) hy135
 refine JH.pg 20 rfl (Gd.t1 rfl rfl rfl) (fun hc => p_indexAddr el_32 (gvt rfl hc) (gvt rfl hc) (by omega) (by omega) he135) ?_
 refine JH.wg 21 rfl (Gd.t1 rfl rfl rfl) (fun hc os' u' hv => LS 0 (hr135.vis hv) (gvt rfl hc)) ?_
 refine JH.pg 22 rfl (Gd.t1 rfl rfl rfl) (fun hc => p_fieldAddr fld_30_3.h rfl) ?_
 refine JH.qg 23 rfl (Gd.t1 rfl rfl rfl) (fun hc => L9 3 (gvt rfl hc) rfl) ?_
 refine y1 24 ?_
 refine JHo.ge rfl (Gd.t1 rfl rfl rfl) (fun hc => e_callV fn_17.h (opds_2 (gvt rfl hc) (gvt rfl hc)) (fun w hw => c_spec_SamePosition y133 X4.now (ok_ hw) (ok_ hw) (r0 := (by have hc9 := hc; (try simp only [Bool.and_eq_true, decide_eq_true_eq] at hc9); omega)) (r1 := (by have hc9 := hc; (try simp only [Bool.and_eq_true, decide_eq_true_eq] at hc9); omega)) (r2 := (by have hc9 := hc; (try simp only [Bool.and_eq_true, decide_eq_true_eq] at hc9); omega)) (r3 := (by have hc9 := hc; (try simp only [Bool.and_eq_true, decide_eq_true_eq] at hc9); omega)))) ?_
 refine JH.p 25 rfl (p_pickAnd rfl rfl rfl) ?_
 refine JH.p 26 rfl (p_move rfl) ?_
 refine JH.pg 27 rfl (Gd.t1 rfl rfl rfl) (fun hc => p_move rfl) ?_
 refine JH.pg 28 rfl (Gd.t1 rfl rfl rfl) (fun hc => p_move rfl) ?_
 refine JH.pg 29 rfl (Gd.t1 rfl rfl rfl) (fun hc => p_eql (gvt rfl hc) (gvt rfl hc)) ?_
 refine JH.p 30 rfl (p_pickAnd rfl rfl rfl) ?_
 refine JH.p 31 rfl (p_move rfl) ?_
 refine JH.pg 32 rfl (Gd.t1 rfl rfl rfl) (fun hc => p_move rfl) ?_
 refine JH.pg 33 rfl (Gd.t1 rfl rfl rfl) (fun hc => p_geq (gvt rfl hc) rfl) ?_
 refine JH.p 34 rfl (p_pickAnd rfl rfl rfl) ?_
 refine JH.p 35 rfl (p_assign rfl) ?_
 refine yd ?_
 refine zR ((((((((((((x3.trans x11).trans x13).trans x15).trans x17).trans x19).trans x21).trans x24).trans x30).trans x40).trans x47).trans x55).trans x125) ?_
 first | rfl | (simp [outV, hHl, e0, e1, hsum, hok2, hH.cnt, M.sameP_of]; done)

end Go.Proofs.YtejnmechnhgmfaaGreat


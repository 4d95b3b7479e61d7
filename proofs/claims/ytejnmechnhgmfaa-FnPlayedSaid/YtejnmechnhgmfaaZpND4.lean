/- Walks: D4. -/
import Derived.Test.YtejnmechnhgmfaaZpTn
import Derived.Test.YtejnmechnhgmfaaZpND2
import Derived.Test.YtejnmechnhgmfaaZpNK12
import Derived.Test.YtejnmechnhgmfaaZpF13
set_option linter.unusedSimpArgs false
set_option linter.unusedVariables false
set_option maxRecDepth 100000
attribute [local irreducible] Go.Proofs.Ytejnmechnhgmfaa.gv
namespace Go.Proofs.Ytejnmechnhgmfaa
open Go.RowKit

set_option maxHeartbeats 4000000 in
theorem c_spec_l08Cycle (many : Int) {w : World} (r0 : 0 ≤ many := by exact om_) (r1 : many ≤ 120 := by exact om_) : Ret Try.prog 116 [.int .i64 many] w (Ty.ex (fun (GX : M.Gam) => (M.Small GX ∧ GX.moves.length ≤ 121 ∧ GX.now.stores.length = 2)) (fun GX => Ty.agg (cGame GX))) := by
 have hq0 : ([1, 0, 1, 0] : List Int).length = 4 := rfl
 refine enter @Try.func116 @Try.ntmps116 rfl rfl ?_
 refine zent ?_
 refine zS <| za zeh fun b1 => zN <| Qb ?_
 refine za zeh fun b2 => zw 0 rfl rfl rfl ?_
 refine zN <| zbs fun b3 => ?_
 refine zbs fun b5 => ?_
 refine Qb ?_
 refine za zeh fun b7 => zw 0 rfl rfl rfl ?_
 refine zN <| zc rfl (fun w hw => c_spec_l08New (M.Rul.mk 2 1 false false false false false 0 0) (M.Pos.mk [1, 0, 1, 0] [0, 0] 0) (ok_ hw) ⟨_, _, [.slice (some ⟨b3, 0, none⟩) 4 4, .slice (some ⟨b5, 0, none⟩) 2 2, .int .i64 0], rfl, ⟨(ints_rowok (xs := [1, 0, 1, 0]) (hw.pr (i := 2) rfl)), (ints_rowok (xs := [0, 0]) (hw.pr (i := 1) rfl)), rfl, trivial⟩, Mem.boxR (i := 0) rfl 0 3 _ hw⟩ (r0 := (by simp)) (r1 := (by simp))) ?_
 intro A9 c9 bl9 bh9 A10 c10 bl10 bh10 A11 c11 bl11 bh11 A12 c12 bl12 bh12 A13 c13 bl13 bh13
 refine za zeh fun b14 => zw 0 rfl rfl rfl ?_
 refine zJ <| Js.block ?_
 refine zl [0, 2, 3, 5] (fun F U l os u m => ∃ (gk : M.Gam) (A15_5_9 : Option Addr) (c15_5_9 : Nat) (g15_5_9 : List Nat) (A15_5_10 : Option Addr) (c15_5_10 : Nat) (g15_5_10 : List Nat) (A15_5_12 : Option Addr) (c15_5_12 : Nat) (g15_5_12 : List Nat) (A15_5_13 : Option Addr) (c15_5_13 : Nat) (g15_5_13 : List Nat) (A15_5_14 : Option Addr) (c15_5_14 : Nat) (g15_5_14 : List Nat), l = F [] ∧ os = U [some (boxO b14 [.int .i64 gk.rules.pits, .int .i64 gk.rules.seeds, .bool gk.rules.stores, .bool gk.rules.skip, .bool gk.rules.relay, .bool gk.rules.feed, .bool gk.rules.again, .int .i64 gk.rules.capture, .int .i64 gk.rules.slam, .slice A15_5_9 gk.start.pits.length c15_5_9, .slice A15_5_10 gk.start.stores.length c15_5_10, .int .i64 gk.start.player, .slice A15_5_12 gk.moves.length c15_5_12, .slice A15_5_13 gk.now.pits.length c15_5_13, .slice A15_5_14 gk.now.stores.length c15_5_14, .int .i64 gk.now.player, .int .i64 gk.resigned] 35), some (rowO 2 1 (.slice A15_5_14 gk.now.stores.length c15_5_14) gk.now.stores.length (ints_ gk.now.stores) g15_5_14), some (rowO 2 1 (.slice A15_5_13 gk.now.pits.length c15_5_13) gk.now.pits.length (ints_ gk.now.pits) g15_5_13), some (rowO 2 1 (.slice A15_5_12 gk.moves.length c15_5_12) gk.moves.length (ints_ gk.moves) g15_5_12), some (rowO 2 1 (.slice A15_5_10 gk.start.stores.length c15_5_10) gk.start.stores.length (ints_ gk.start.stores) g15_5_10), some (rowO 2 1 (.slice A15_5_9 gk.start.pits.length c15_5_9) gk.start.pits.length (ints_ gk.start.pits) g15_5_9)] ∧ (M.Small gk) ∧ (gk.moves.length ≤ 120) ∧ (gk.now.stores.length = 2) ∧ (gk.start.pits.length ≤ c15_5_9) ∧ (c15_5_9 ≤ 9223372036854775807) ∧ (gk.start.stores.length ≤ c15_5_10) ∧ (c15_5_10 ≤ 9223372036854775807) ∧ (gk.moves.length ≤ c15_5_12) ∧ (c15_5_12 ≤ 9223372036854775807) ∧ (gk.now.pits.length ≤ c15_5_13) ∧ (c15_5_13 ≤ 9223372036854775807) ∧ (gk.now.stores.length ≤ c15_5_14) ∧ (c15_5_14 ≤ 9223372036854775807) ∧ m = many.toNat - gk.moves.length) ⟨(M.Gam.mk (M.Rul.mk 2 1 false false false false false 0 0) (M.Pos.mk [1, 0, 1, 0] [0, 0] 0) [] (M.Pos.mk [1, 0, 1, 0] [0, 0] 0) (-1)), _, _, _, _, _, _, _, _, _, _, _, _, _, _, _, rfl, rfl, by exact ⟨by simp, by simp, by simp, by simp, by simp⟩, by simp, by rfl, zu, zu, zu, zu, zu, zu, zu, zu, zu, zu, rfl⟩ ?_
 rintro _ _ u15 _ ⟨gk, A15_5_9, c15_5_9, g15_5_9, A15_5_10, c15_5_10, g15_5_10, A15_5_12, c15_5_12, g15_5_12, A15_5_13, c15_5_13, g15_5_13, A15_5_14, c15_5_14, g15_5_14, rfl, rfl, hs, hm, hst, f15_3, f15_4, f15_5, f15_6, f15_7, f15_8, f15_9, f15_10, f15_11, f15_12, rfl⟩ x15
 refine zn ?_
 have s1 := hs.sp
 have s2 := hs.ss
 have s3 := hs.m
 have s4 := hs.np
 have s5 := hs.ns
 have hll := M.legal_len (M.Rul.mk 2 1 false false false false false 0 0) gk.now
 refine Js.seq <| zS <| Qf fh rfl <| Q0 0 rfl rfl rfl <| Qz rfl <| Qm rfl <| Ql rfl rfl <| JL.nil ?_
 refine zi (fun h16 h16' => ?_) fun h16 h16' => ?_
 ·
  refine Js.skip <| Js.block <| zS <| Q9 9 rfl rfl ?_
  refine Qf fh rfl <| Q9 0 rfl rfl ?_
  refine zp rfl (fun w hw => c_spec_LegalMoves (M.Rul.mk 2 1 false false false false false 0 0) gk.now (ok_ hw) (ok_ hw)) ?_
  intro u17 x17 A18 c18 h18 bl18 bh18 X19 hX19
  refine Qm rfl <| Qx rfl rfl <| Qx rfl rfl <| Qa rfl <| Qa rfl <| zJ <| zS <| Qm rfl <| Qz rfl <| Qe rfl rfl <| JL.nil ?_
  refine zi (fun h20 h20' => ?_) fun h20 h20' => ?_
  ·
   refine zS <| Q9 0 rfl rfl ?_
   refine zw 10 rfl rfl rfl ?_
   refine JL.nil ?_
   exact zro (x15.trans x17) (g := by exact (gv_ex gk (by first | trivial | exact ⟨hs, by omega, hst⟩ | exact ⟨⟨hs.sp, hs.ss, hs.m, hs.np, hs.ns⟩, by dsimp only; omega, hst⟩ | omega) gv_))
  obtain ⟨b21, o21, he21, hc21⟩ := ints_elem h18 (i := ((((M.legal (M.Rul.mk 2 1 false false false false false 0 0) gk.now).length) : Int) - 1).toNat) (by omega)
  refine Js.skip <| zS <| Qm rfl <| Qm rfl <| Qz rfl <| Qs rfl rfl <| Qq (p_indexAddr el_24 rfl rfl (by omega) (by omega) he21) <| QC hc21 rfl <| zc rfl (fun w hw => c_spec_l08Play gk (M.nth (M.legal (M.Rul.mk 2 1 false false false false false 0 0) gk.now) (((((M.legal (M.Rul.mk 2 1 false false false false false 0 0) gk.now).length) : Int) - 1).toNat)) (ok_ hw)) ?_
  intro A24 c24 bl24 bh24 A25 c25 bl25 bh25 A26 c26 bl26 bh26 A27 c27 bl27 bh27 A28 c28 bl28 bh28
  refine Qm rfl <| Qx rfl rfl <| Qx rfl rfl <| za zeh fun b29 => zw 0 rfl rfl rfl ?_
  refine Qa rfl <| zJ <| zS <| Qm rfl <| Qd rfl rfl <| JL.nil ?_
  refine zi (fun h30 h30' => ?_) fun h30 h30' => ?_
  ·
   refine zS <| Q9 6 rfl rfl ?_
   refine zw 16 rfl rfl rfl ?_
   refine JL.nil ?_
   exact zro (x15.trans x17) (g := by exact (gv_ex gk (by first | trivial | exact ⟨hs, by omega, hst⟩ | exact ⟨⟨hs.sp, hs.ss, hs.m, hs.np, hs.ns⟩, by dsimp only; omega, hst⟩ | omega) gv_))
  have hz : (M.play gk (M.nth (M.legal (M.Rul.mk 2 1 false false false false false 0 0) gk.now) (((((M.legal (M.Rul.mk 2 1 false false false false false 0 0) gk.now).length) : Int) - 1).toNat))).2 = 0 := by simpa using h30
  refine Js.skip <| Js.region <| Q9 0 rfl rfl ?_
  refine zw 6 rfl rfl rfl ?_
  refine JL.nil <| Js.blockEnd ?_
  refine zd [6, 1, 1, 1, 1, 1, 6, 6, 6, 6, 6] rfl fun u31 x31 => ?_
  exact zag ⟨((M.play gk (M.nth (M.legal (M.Rul.mk 2 1 false false false false false 0 0) gk.now) (((((M.legal (M.Rul.mk 2 1 false false false false false 0 0) gk.now).length) : Int) - 1).toNat))).1), _, _, _, _, _, _, _, _, _, _, _, _, _, _, _, rfl, rfl, by first | exact hs | exact hs.play hz, by first | exact hm | exact M.play_120 hm hz, by first | exact hst | exact M.play_stores hst hz, zu, zu, zu, zu, zu, zu, zu, zu, zu, zu, rfl⟩ ((x15.trans x17).trans x31) (by have := M.play_len hz; omega)
 refine zx ?_
 refine zS <| Q9 0 rfl rfl ?_
 refine zw 10 rfl rfl rfl ?_
 refine JL.nil ?_
 exact zro x15 (g := by exact (gv_ex gk (by first | trivial | exact ⟨hs, by omega, hst⟩ | exact ⟨⟨hs.sp, hs.ss, hs.m, hs.np, hs.ns⟩, by dsimp only; omega, hst⟩ | omega) gv_))

end Go.Proofs.Ytejnmechnhgmfaa

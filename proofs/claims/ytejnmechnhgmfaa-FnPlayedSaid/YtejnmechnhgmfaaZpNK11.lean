/- Walks: K11. -/
import Derived.Test.YtejnmechnhgmfaaZpTn
import Derived.Test.YtejnmechnhgmfaaZpNK6
import Derived.Test.YtejnmechnhgmfaaZpF13
import Derived.Test.YtejnmechnhgmfaaZpM8
set_option linter.unusedSimpArgs false
set_option linter.unusedVariables false
set_option maxRecDepth 100000
attribute [local irreducible] Go.Proofs.Ytejnmechnhgmfaa.gv
namespace Go.Proofs.Ytejnmechnhgmfaa
open Go.RowKit

set_option maxHeartbeats 1000000 in
theorem c_spec_UndoMove (g : M.Gam) {v_g : Value} {w : World} (h_g : (Ty.agg (cGame g)).ok w v_g) (r0 : g.start.pits.length ≤ 4194304 := by exact om_) (r1 : g.start.stores.length ≤ 4194304 := by exact om_) (r2 : g.moves.length ≤ 4194304 := by exact om_) (r3 : g.now.pits.length ≤ 4194304 := by exact om_) (r4 : g.now.stores.length ≤ 4194304 := by exact om_) : Ret Try.prog 38 [v_g] w (Ty.tup [Ty.agg (cGame ((M.undo g).1)), Ty.int ((M.undo g).2)]) := by
 revert v_g; apply opn
 intro A1 c1 h1 bl1 bh1 A2 c2 h2 bl2 bh2 A3 c3 h3 bl3 bh3 A4 c4 h4 bl4 bh4 A5 c5 h5 bl5 bh5
 refine enter @Try.func38 @Try.ntmps38 rfl rfl ?_
 refine zent ?_
 refine zS <| zb rfl fun b6 => za zeh fun b7 => Qa rfl <| zJ <| zS <| zv rfl (fun w hw => c_spec_l08Ok g (ok_ hw)) <| Qt rfl <| JL.nil ?_
 refine zi (fun h8 h8' => ?_) fun h8 h8' => ?_
 ·
  have hno : M.okG g = false := by simpa using h8
  have hE := M.undo_1 hno
  have hq0 : 0 = (((M.undo g).1).rules).pits := by first | rfl | (rw [hE]; done) | (rw [hE]; rfl) | (rw [hE]; simp only [hcn]; done) | (rw [hE]; simp only [hcn]; rfl) | (rw [hE, hr9]; rfl) | (rw [hE]; exact hm9)
  have hq1 : 0 = (((M.undo g).1).rules).seeds := by first | rfl | (rw [hE]; done) | (rw [hE]; rfl) | (rw [hE]; simp only [hcn]; done) | (rw [hE]; simp only [hcn]; rfl) | (rw [hE, hr9]; rfl) | (rw [hE]; exact hm9)
  have hq2 : false = (((M.undo g).1).rules).stores := by first | rfl | (rw [hE]; done) | (rw [hE]; rfl) | (rw [hE]; simp only [hcn]; done) | (rw [hE]; simp only [hcn]; rfl) | (rw [hE, hr9]; rfl) | (rw [hE]; exact hm9)
  have hq3 : false = (((M.undo g).1).rules).skip := by first | rfl | (rw [hE]; done) | (rw [hE]; rfl) | (rw [hE]; simp only [hcn]; done) | (rw [hE]; simp only [hcn]; rfl) | (rw [hE, hr9]; rfl) | (rw [hE]; exact hm9)
  have hq4 : false = (((M.undo g).1).rules).relay := by first | rfl | (rw [hE]; done) | (rw [hE]; rfl) | (rw [hE]; simp only [hcn]; done) | (rw [hE]; simp only [hcn]; rfl) | (rw [hE, hr9]; rfl) | (rw [hE]; exact hm9)
  have hq5 : false = (((M.undo g).1).rules).feed := by first | rfl | (rw [hE]; done) | (rw [hE]; rfl) | (rw [hE]; simp only [hcn]; done) | (rw [hE]; simp only [hcn]; rfl) | (rw [hE, hr9]; rfl) | (rw [hE]; exact hm9)
  have hq6 : false = (((M.undo g).1).rules).again := by first | rfl | (rw [hE]; done) | (rw [hE]; rfl) | (rw [hE]; simp only [hcn]; done) | (rw [hE]; simp only [hcn]; rfl) | (rw [hE, hr9]; rfl) | (rw [hE]; exact hm9)
  have hq7 : 0 = (((M.undo g).1).rules).capture := by first | rfl | (rw [hE]; done) | (rw [hE]; rfl) | (rw [hE]; simp only [hcn]; done) | (rw [hE]; simp only [hcn]; rfl) | (rw [hE, hr9]; rfl) | (rw [hE]; exact hm9)
  have hq8 : 0 = (((M.undo g).1).rules).slam := by first | rfl | (rw [hE]; done) | (rw [hE]; rfl) | (rw [hE]; simp only [hcn]; done) | (rw [hE]; simp only [hcn]; rfl) | (rw [hE, hr9]; rfl) | (rw [hE]; exact hm9)
  have hq9 : [] = (((M.undo g).1).start).pits := by first | rfl | (rw [hE]; done) | (rw [hE]; rfl) | (rw [hE]; simp only [hcn]; done) | (rw [hE]; simp only [hcn]; rfl) | (rw [hE, hr9]; rfl) | (rw [hE]; exact hm9)
  have hq10 : [] = (((M.undo g).1).start).stores := by first | rfl | (rw [hE]; done) | (rw [hE]; rfl) | (rw [hE]; simp only [hcn]; done) | (rw [hE]; simp only [hcn]; rfl) | (rw [hE, hr9]; rfl) | (rw [hE]; exact hm9)
  have hq11 : 0 = (((M.undo g).1).start).player := by first | rfl | (rw [hE]; done) | (rw [hE]; rfl) | (rw [hE]; simp only [hcn]; done) | (rw [hE]; simp only [hcn]; rfl) | (rw [hE, hr9]; rfl) | (rw [hE]; exact hm9)
  have hq12 : [] = ((M.undo g).1).moves := by first | rfl | (rw [hE]; done) | (rw [hE]; rfl) | (rw [hE]; simp only [hcn]; done) | (rw [hE]; simp only [hcn]; rfl) | (rw [hE, hr9]; rfl) | (rw [hE]; exact hm9)
  have hq13 : [] = (((M.undo g).1).now).pits := by first | rfl | (rw [hE]; done) | (rw [hE]; rfl) | (rw [hE]; simp only [hcn]; done) | (rw [hE]; simp only [hcn]; rfl) | (rw [hE, hr9]; rfl) | (rw [hE]; exact hm9)
  have hq14 : [] = (((M.undo g).1).now).stores := by first | rfl | (rw [hE]; done) | (rw [hE]; rfl) | (rw [hE]; simp only [hcn]; done) | (rw [hE]; simp only [hcn]; rfl) | (rw [hE, hr9]; rfl) | (rw [hE]; exact hm9)
  have hq15 : 0 = (((M.undo g).1).now).player := by first | rfl | (rw [hE]; done) | (rw [hE]; rfl) | (rw [hE]; simp only [hcn]; done) | (rw [hE]; simp only [hcn]; rfl) | (rw [hE, hr9]; rfl) | (rw [hE]; exact hm9)
  have hq16 : 0 = ((M.undo g).1).resigned := by first | rfl | (rw [hE]; done) | (rw [hE]; rfl) | (rw [hE]; simp only [hcn]; done) | (rw [hE]; simp only [hcn]; rfl) | (rw [hE, hr9]; rfl) | (rw [hE]; exact hm9)
  have hq17 : 1 = (M.undo g).2 := by first | rfl | (rw [hE]; done) | (rw [hE]; rfl) | (rw [hE]; simp only [hcn]; done) | (rw [hE]; simp only [hcn]; rfl) | (rw [hE, hr9]; rfl) | (rw [hE]; exact hm9)
  refine zS <| Qb ?_
  refine zw 0 rfl rfl rfl ?_
  refine Qa rfl <| JL.nil ?_
  exact zro (Up.refl _ _)
 have hok : M.okG g = true := by simpa using h8
 obtain ⟨k1, k2, k3, k4, k5, k6, k7, k8, k9⟩ := M.okG_parts hok
 refine Js.skip <| zS <| Qf fh rfl <| Q0 1 rfl rfl rfl <| Qz rfl <| Qa rfl <| zJ <| zS <| Qm rfl <| Qe rfl rfl <| Qm rfl <| zg (Gd.f1 rfl rfl rfl) (fun hc => p_fieldAddr fld_35_4.h rfl) <| zgq (Gd.f1 rfl rfl rfl) (fun hc => q_load1 ty_2.h (gh hc rfl) (Mem.box (i := 1) rfl rfl)) <| zg (Gd.f1 rfl rfl rfl) (fun hc => p_geq (gh hc rfl) rfl) ?_
 refine Qq (p_pickOr rfl rfl rfl) <| JL.nil ?_
 refine zi (fun h9 h9' => ?_) fun h9 h9' => ?_
 ·
  have hE := M.undo_6 hok (by have := h9'; omega)
  have hq0 : 0 = (((M.undo g).1).rules).pits := by first | rfl | (rw [hE]; done) | (rw [hE]; rfl) | (rw [hE]; simp only [hcn]; done) | (rw [hE]; simp only [hcn]; rfl) | (rw [hE, hr9]; rfl) | (rw [hE]; exact hm9)
  have hq1 : 0 = (((M.undo g).1).rules).seeds := by first | rfl | (rw [hE]; done) | (rw [hE]; rfl) | (rw [hE]; simp only [hcn]; done) | (rw [hE]; simp only [hcn]; rfl) | (rw [hE, hr9]; rfl) | (rw [hE]; exact hm9)
  have hq2 : false = (((M.undo g).1).rules).stores := by first | rfl | (rw [hE]; done) | (rw [hE]; rfl) | (rw [hE]; simp only [hcn]; done) | (rw [hE]; simp only [hcn]; rfl) | (rw [hE, hr9]; rfl) | (rw [hE]; exact hm9)
  have hq3 : false = (((M.undo g).1).rules).skip := by first | rfl | (rw [hE]; done) | (rw [hE]; rfl) | (rw [hE]; simp only [hcn]; done) | (rw [hE]; simp only [hcn]; rfl) | (rw [hE, hr9]; rfl) | (rw [hE]; exact hm9)
  have hq4 : false = (((M.undo g).1).rules).relay := by first | rfl | (rw [hE]; done) | (rw [hE]; rfl) | (rw [hE]; simp only [hcn]; done) | (rw [hE]; simp only [hcn]; rfl) | (rw [hE, hr9]; rfl) | (rw [hE]; exact hm9)
  have hq5 : false = (((M.undo g).1).rules).feed := by first | rfl | (rw [hE]; done) | (rw [hE]; rfl) | (rw [hE]; simp only [hcn]; done) | (rw [hE]; simp only [hcn]; rfl) | (rw [hE, hr9]; rfl) | (rw [hE]; exact hm9)
  have hq6 : false = (((M.undo g).1).rules).again := by first | rfl | (rw [hE]; done) | (rw [hE]; rfl) | (rw [hE]; simp only [hcn]; done) | (rw [hE]; simp only [hcn]; rfl) | (rw [hE, hr9]; rfl) | (rw [hE]; exact hm9)
  have hq7 : 0 = (((M.undo g).1).rules).capture := by first | rfl | (rw [hE]; done) | (rw [hE]; rfl) | (rw [hE]; simp only [hcn]; done) | (rw [hE]; simp only [hcn]; rfl) | (rw [hE, hr9]; rfl) | (rw [hE]; exact hm9)
  have hq8 : 0 = (((M.undo g).1).rules).slam := by first | rfl | (rw [hE]; done) | (rw [hE]; rfl) | (rw [hE]; simp only [hcn]; done) | (rw [hE]; simp only [hcn]; rfl) | (rw [hE, hr9]; rfl) | (rw [hE]; exact hm9)
  have hq9 : [] = (((M.undo g).1).start).pits := by first | rfl | (rw [hE]; done) | (rw [hE]; rfl) | (rw [hE]; simp only [hcn]; done) | (rw [hE]; simp only [hcn]; rfl) | (rw [hE, hr9]; rfl) | (rw [hE]; exact hm9)
  have hq10 : [] = (((M.undo g).1).start).stores := by first | rfl | (rw [hE]; done) | (rw [hE]; rfl) | (rw [hE]; simp only [hcn]; done) | (rw [hE]; simp only [hcn]; rfl) | (rw [hE, hr9]; rfl) | (rw [hE]; exact hm9)
  have hq11 : 0 = (((M.undo g).1).start).player := by first | rfl | (rw [hE]; done) | (rw [hE]; rfl) | (rw [hE]; simp only [hcn]; done) | (rw [hE]; simp only [hcn]; rfl) | (rw [hE, hr9]; rfl) | (rw [hE]; exact hm9)
  have hq12 : [] = ((M.undo g).1).moves := by first | rfl | (rw [hE]; done) | (rw [hE]; rfl) | (rw [hE]; simp only [hcn]; done) | (rw [hE]; simp only [hcn]; rfl) | (rw [hE, hr9]; rfl) | (rw [hE]; exact hm9)
  have hq13 : [] = (((M.undo g).1).now).pits := by first | rfl | (rw [hE]; done) | (rw [hE]; rfl) | (rw [hE]; simp only [hcn]; done) | (rw [hE]; simp only [hcn]; rfl) | (rw [hE, hr9]; rfl) | (rw [hE]; exact hm9)
  have hq14 : [] = (((M.undo g).1).now).stores := by first | rfl | (rw [hE]; done) | (rw [hE]; rfl) | (rw [hE]; simp only [hcn]; done) | (rw [hE]; simp only [hcn]; rfl) | (rw [hE, hr9]; rfl) | (rw [hE]; exact hm9)
  have hq15 : 0 = (((M.undo g).1).now).player := by first | rfl | (rw [hE]; done) | (rw [hE]; rfl) | (rw [hE]; simp only [hcn]; done) | (rw [hE]; simp only [hcn]; rfl) | (rw [hE, hr9]; rfl) | (rw [hE]; exact hm9)
  have hq16 : 0 = ((M.undo g).1).resigned := by first | rfl | (rw [hE]; done) | (rw [hE]; rfl) | (rw [hE]; simp only [hcn]; done) | (rw [hE]; simp only [hcn]; rfl) | (rw [hE, hr9]; rfl) | (rw [hE]; exact hm9)
  have hq17 : 6 = (M.undo g).2 := by first | rfl | (rw [hE]; done) | (rw [hE]; rfl) | (rw [hE]; simp only [hcn]; done) | (rw [hE]; simp only [hcn]; rfl) | (rw [hE, hr9]; rfl) | (rw [hE]; exact hm9)
  refine zS <| Qb ?_
  refine zw 0 rfl rfl rfl ?_
  refine Qa rfl <| JL.nil ?_
  exact zro (Up.refl _ _)
 have hq9 := h9'
 have hE := M.undo_0 hok (by omega)
 have hr9 : g.resigned = -1 := by omega
 have hm9 : (g.moves.drop 0).take (((g.moves.length : Int) - 1).toNat - 0) = g.moves.take ((g.moves.length : Int) - 1).toNat := by simp
 have hcp := M.cut_played hok (n := ((g.moves.length : Int) - 1).toNat) (by omega)
 refine Js.skip <| zS <| zc rfl (fun w hw => c_spec_l08Own g (ok_ hw)) ?_
 intro A11 c11 bl11 bh11 A12 c12 bl12 bh12 A13 c13 bl13 bh13 A14 c14 bl14 bh14 A15 c15 bl15 bh15
 have hs17 := ints_cut (a := 0) (b := ((g.moves.length : Int) - 1).toNat) (m := c3) h3 (by omega) (by omega) (by omega) (by omega)
 have hl17 : ((g.moves.drop 0).take ((((g.moves.length : Int) - 1).toNat) - 0)).length = (((g.moves.length : Int) - 1).toNat) - 0 := by rw [List.length_take, List.length_drop]; omega
 refine za zeh fun b16 => zw 0 rfl rfl rfl ?_
 refine zN <| Qf fh rfl <| Q0 7 rfl rfl rfl <| Qm rfl <| Qs rfl rfl <| Qq (p_slice (lo' := 0) (hi' := ((g.moves.length : Int) - 1).toNat) (mx' := c3) el_24 rfl rfl ⟨_, by rw [Int.toNat_of_nonneg (by omega)]; exact rfl, by omega⟩ rfl) <| zcs rfl (fun w hw => c_spec_l00Own ((g.moves.drop 0).take ((((g.moves.length : Int) - 1).toNat) - 0)) (ok_ hw)) ?_
 intro A18 c18 bl18 bh18
 refine Qf fh rfl <| zw 1 rfl rfl rfl ?_
 refine zN <| Qf fh rfl <| Qf fh rfl <| Qf fh rfl <| Q0 1 rfl rfl rfl <| zp rfl (fun w hw => c_spec_l08Run g.rules g.start ((g.moves.drop 0).take ((((g.moves.length : Int) - 1).toNat) - 0)) ⟨_, _, [.int .i64 g.rules.pits, .int .i64 g.rules.seeds, .bool g.rules.stores, .bool g.rules.skip, .bool g.rules.relay, .bool g.rules.feed, .bool g.rules.again, .int .i64 g.rules.capture, .int .i64 g.rules.slam], rfl, ⟨rfl, rfl, rfl, rfl, rfl, rfl, rfl, rfl, rfl, trivial⟩, Mem.boxR (i := 8) rfl 0 9 _ hw⟩ ⟨_, _, [.slice A1 g.start.pits.length c1, .slice A2 g.start.stores.length c2, .int .i64 g.start.player], rfl, ⟨(ok_ hw), (ok_ hw), rfl, trivial⟩, Mem.boxR (i := 8) rfl 9 3 _ hw⟩ (ok_ hw)) ?_
 intro u19 x19 A20 c20 h20 bl20 bh20 A21 c21 h21 bl21 bh21
 have hll9 : (M.hist g.start (M.runs g.rules g.start ((g.moves.drop 0).take ((((g.moves.length : Int) - 1).toNat) - 0)))).length = ((g.moves.length : Int) - 1).toNat + 1 := by rw [hm9, hcp.2.2, M.hist_length, List.length_take]; omega
 obtain ⟨y22, hy22⟩ : ∃ x, (M.hist g.start (M.runs g.rules g.start ((g.moves.drop 0).take ((((g.moves.length : Int) - 1).toNat) - 0))))[((g.moves.length : Int) - 1).toNat]? = some x := ⟨_, List.getElem?_eq_getElem (by omega)⟩
 have hcn : (M.cutG g ((g.moves.length : Int) - 1).toNat).now = y22 := M.undo_get hok (by omega) (by rw [← hm9]; exact hy22)
 have hyl9 := M.okP_len (M.hist_okG hok (by rw [M.cut_get hok (n := ((g.moves.length : Int) - 1).toNat) (by omega), hcn]))
 have hy23 := hy22
 obtain ⟨b23, o23, A23_0, c23_0, A23_1, c23_1, he23, hr23, h23_0, h23_1, bl23_0, bh23_0, bl23_1, bh23_1⟩ := elem_Position h20 hy23
 refine Qm rfl <| Qx rfl rfl <| Qx rfl rfl <| Qa rfl <| Qa rfl <| zN <| Qm rfl <| Qm rfl <| Qs rfl rfl <| Qq (p_indexAddr el_44 rfl rfl (by omega) (by omega) he23) <| zc rfl (fun w hw => c_spec_l04Own y22 (ok_ hw)) ?_
 intro A25 c25 bl25 bh25 A26 c26 bl26 bh26
 have hq0 : g.rules.pits = (((M.undo g).1).rules).pits := by first | rfl | (rw [hE]; done) | (rw [hE]; rfl) | (rw [hE]; simp only [hcn]; done) | (rw [hE]; simp only [hcn]; rfl) | (rw [hE, hr9]; rfl) | (rw [hE]; exact hm9)
 have hq1 : g.rules.seeds = (((M.undo g).1).rules).seeds := by first | rfl | (rw [hE]; done) | (rw [hE]; rfl) | (rw [hE]; simp only [hcn]; done) | (rw [hE]; simp only [hcn]; rfl) | (rw [hE, hr9]; rfl) | (rw [hE]; exact hm9)
 have hq2 : g.rules.stores = (((M.undo g).1).rules).stores := by first | rfl | (rw [hE]; done) | (rw [hE]; rfl) | (rw [hE]; simp only [hcn]; done) | (rw [hE]; simp only [hcn]; rfl) | (rw [hE, hr9]; rfl) | (rw [hE]; exact hm9)
 have hq3 : g.rules.skip = (((M.undo g).1).rules).skip := by first | rfl | (rw [hE]; done) | (rw [hE]; rfl) | (rw [hE]; simp only [hcn]; done) | (rw [hE]; simp only [hcn]; rfl) | (rw [hE, hr9]; rfl) | (rw [hE]; exact hm9)
 have hq4 : g.rules.relay = (((M.undo g).1).rules).relay := by first | rfl | (rw [hE]; done) | (rw [hE]; rfl) | (rw [hE]; simp only [hcn]; done) | (rw [hE]; simp only [hcn]; rfl) | (rw [hE, hr9]; rfl) | (rw [hE]; exact hm9)
 have hq5 : g.rules.feed = (((M.undo g).1).rules).feed := by first | rfl | (rw [hE]; done) | (rw [hE]; rfl) | (rw [hE]; simp only [hcn]; done) | (rw [hE]; simp only [hcn]; rfl) | (rw [hE, hr9]; rfl) | (rw [hE]; exact hm9)
 have hq6 : g.rules.again = (((M.undo g).1).rules).again := by first | rfl | (rw [hE]; done) | (rw [hE]; rfl) | (rw [hE]; simp only [hcn]; done) | (rw [hE]; simp only [hcn]; rfl) | (rw [hE, hr9]; rfl) | (rw [hE]; exact hm9)
 have hq7 : g.rules.capture = (((M.undo g).1).rules).capture := by first | rfl | (rw [hE]; done) | (rw [hE]; rfl) | (rw [hE]; simp only [hcn]; done) | (rw [hE]; simp only [hcn]; rfl) | (rw [hE, hr9]; rfl) | (rw [hE]; exact hm9)
 have hq8 : g.rules.slam = (((M.undo g).1).rules).slam := by first | rfl | (rw [hE]; done) | (rw [hE]; rfl) | (rw [hE]; simp only [hcn]; done) | (rw [hE]; simp only [hcn]; rfl) | (rw [hE, hr9]; rfl) | (rw [hE]; exact hm9)
 have hq9 : g.start.pits = (((M.undo g).1).start).pits := by first | rfl | (rw [hE]; done) | (rw [hE]; rfl) | (rw [hE]; simp only [hcn]; done) | (rw [hE]; simp only [hcn]; rfl) | (rw [hE, hr9]; rfl) | (rw [hE]; exact hm9)
 have hq10 : g.start.stores = (((M.undo g).1).start).stores := by first | rfl | (rw [hE]; done) | (rw [hE]; rfl) | (rw [hE]; simp only [hcn]; done) | (rw [hE]; simp only [hcn]; rfl) | (rw [hE, hr9]; rfl) | (rw [hE]; exact hm9)
 have hq11 : g.start.player = (((M.undo g).1).start).player := by first | rfl | (rw [hE]; done) | (rw [hE]; rfl) | (rw [hE]; simp only [hcn]; done) | (rw [hE]; simp only [hcn]; rfl) | (rw [hE, hr9]; rfl) | (rw [hE]; exact hm9)
 have hq12 : ((g.moves.drop 0).take ((((g.moves.length : Int) - 1).toNat) - 0)) = ((M.undo g).1).moves := by first | rfl | (rw [hE]; done) | (rw [hE]; rfl) | (rw [hE]; simp only [hcn]; done) | (rw [hE]; simp only [hcn]; rfl) | (rw [hE, hr9]; rfl) | (rw [hE]; exact hm9)
 have hq13 : y22.pits = (((M.undo g).1).now).pits := by first | rfl | (rw [hE]; done) | (rw [hE]; rfl) | (rw [hE]; simp only [hcn]; done) | (rw [hE]; simp only [hcn]; rfl) | (rw [hE, hr9]; rfl) | (rw [hE]; exact hm9)
 have hq14 : y22.stores = (((M.undo g).1).now).stores := by first | rfl | (rw [hE]; done) | (rw [hE]; rfl) | (rw [hE]; simp only [hcn]; done) | (rw [hE]; simp only [hcn]; rfl) | (rw [hE, hr9]; rfl) | (rw [hE]; exact hm9)
 have hq15 : y22.player = (((M.undo g).1).now).player := by first | rfl | (rw [hE]; done) | (rw [hE]; rfl) | (rw [hE]; simp only [hcn]; done) | (rw [hE]; simp only [hcn]; rfl) | (rw [hE, hr9]; rfl) | (rw [hE]; exact hm9)
 have hq16 : g.resigned = ((M.undo g).1).resigned := by first | rfl | (rw [hE]; done) | (rw [hE]; rfl) | (rw [hE]; simp only [hcn]; done) | (rw [hE]; simp only [hcn]; rfl) | (rw [hE, hr9]; rfl) | (rw [hE]; exact hm9)
 have hq17 : 0 = (M.undo g).2 := by first | rfl | (rw [hE]; done) | (rw [hE]; rfl) | (rw [hE]; simp only [hcn]; done) | (rw [hE]; simp only [hcn]; rfl) | (rw [hE, hr9]; rfl) | (rw [hE]; exact hm9)
 refine Qf fh rfl <| zw 3 rfl rfl rfl ?_
 refine zN <| Q9 3 rfl rfl ?_
 refine zw 9 rfl rfl rfl ?_
 refine Qa rfl <| JL.nil ?_
 exact zro x19

end Go.Proofs.Ytejnmechnhgmfaa

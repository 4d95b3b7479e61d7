/- Walks: G12. -/
import Derived.Test.YtejnmechnhgmfaaZpTn
import Derived.Test.YtejnmechnhgmfaaZpNG7
import Derived.Test.YtejnmechnhgmfaaZpF13
import Derived.Test.YtejnmechnhgmfaaZpM8
set_option linter.unusedSimpArgs false
set_option linter.unusedVariables false
set_option maxRecDepth 100000
attribute [local irreducible] Go.Proofs.Ytejnmechnhgmfaa.gv
namespace Go.Proofs.Ytejnmechnhgmfaa
open Go.RowKit

set_option maxHeartbeats 1000000 in
theorem c_impl_Game_cut (g : M.Gam) {v_g : Value} (n : Int) {w : World} (h_g : (Ty.agg (cGame g)).ok w v_g) (r0 : g.start.pits.length ≤ 4194304 := by exact om_) (r1 : g.start.stores.length ≤ 4194304 := by exact om_) (r2 : g.moves.length ≤ 4194304 := by exact om_) (r3 : g.now.pits.length ≤ 4194304 := by exact om_) (r4 : g.now.stores.length ≤ 4194304 := by exact om_) (r5 : M.okG g = true := by exact om_) (r6 : 0 ≤ n := by exact om_) (r7 : n ≤ g.moves.length := by exact om_) : Ret Try.prog 82 [v_g, .int .i64 n] w (Ty.agg (cGameL (M.cutG g n.toNat))) := by
 obtain ⟨k1, k2, k3, k4, k5, k6, k7, k8, k9⟩ := M.okG_parts r5
 have k10 : (M.playedP g).length = g.moves.length + 1 := by rw [k6, M.hist_length, k8]
 revert v_g; apply opn
 intro A1 c1 h1 bl1 bh1 A2 c2 h2 bl2 bh2 A3 c3 h3 bl3 bh3 A4 c4 h4 bl4 bh4 A5 c5 h5 bl5 bh5
 refine enter @Try.func82 @Try.ntmps82 rfl rfl ?_
 refine zent ?_
 refine zS <| zb rfl fun b6 => za zeh fun b7 => zN <| Q9 1 rfl rfl ?_
 refine zcs rfl (fun w hw => c_impl_Game_played g (ok_ hw)) ?_
 intro A9 c9 vs9 f9 bl9 bh9 A10 c10 vs10 f10 bl10 bh10
 refine Qm rfl <| Qx rfl rfl <| Qx rfl rfl <| Qx rfl rfl <| Qa rfl <| Qa rfl <| Qa rfl <| zN <| Q9 5 rfl rfl ?_
 refine zc rfl (fun w hw => c_impl_Game_copied g (ok_ hw)) ?_
 intro A12 c12 bl12 bh12 A13 c13 bl13 bh13 A14 c14 bl14 bh14 A15 c15 bl15 bh15 A16 c16 bl16 bh16
 obtain ⟨y18, hy18⟩ : ∃ x, (M.playedP g)[n.toNat]? = some x := ⟨_, List.getElem?_eq_getElem (by omega)⟩
 have hcn : (M.cutG g n.toNat).now = y18 := M.cutG_now hy18
 have hyl9 := M.okP_len (M.hist_okG r5 hy18)
 refine za zeh fun b17 => zw 0 rfl rfl rfl ?_
 refine zJ ?_
 refine zk [4, 8] (fun F U l os u => ∃ (A19_0 : Option Addr) (c19_0 : Nat) (A19_1 : Option Addr) (c19_1 b20 : Nat), l = F [] ∧ os = [roO 2 (.slice (cutA 1 A14 0 n.toNat) (n.toNat - 0) (n.toNat - 0)) n.toNat (ints_ (g.moves.take n.toNat)), boxO b17 [.int .i64 g.rules.pits, .int .i64 g.rules.seeds, .bool g.rules.stores, .bool g.rules.skip, .bool g.rules.relay, .bool g.rules.feed, .bool g.rules.again, .int .i64 g.rules.capture, .int .i64 g.rules.slam, .slice A12 g.start.pits.length c12, .slice A13 g.start.stores.length c13, .int .i64 g.start.player, .slice (cutA 1 A14 0 n.toNat) (n.toNat - 0) (n.toNat - 0), .slice A19_0 y18.pits.length c19_0, .slice A19_1 y18.stores.length c19_1, .int .i64 y18.player, .int .i64 (-1)] 35, rowO 2 1 (.slice A16 g.now.stores.length c16) g.now.stores.length (ints_ g.now.stores) [], rowO 2 1 (.slice A15 g.now.pits.length c15) g.now.pits.length (ints_ g.now.pits) [], rowO 2 1 (.slice A13 g.start.stores.length c13) g.start.stores.length (ints_ g.start.stores) [], rowO 2 1 (.slice A12 g.start.pits.length c12) g.start.pits.length (ints_ g.start.pits) [], rowO 84 6 (.slice A10 ((M.playedR g).length) c10) ((M.playedR g).length) vs10 [], ownC (lResultL (M.playedR g)) vs10 f10, rowO 33 3 (.slice (some ⟨b20, 0, none⟩) ((M.playedP g).length) c9) ((M.playedP g).length) vs9 [], ownC (lPosition (M.playedP g)) vs9 f9, boxO b7 [.int .i64 0, .int .i64 0, .bool false, .bool false, .bool false, .bool false, .bool false, .int .i64 0, .int .i64 0, .slice none 0 0, .slice none 0 0, .int .i64 0, .slice none 0 0, .slice none 0 0, .slice none 0 0, .int .i64 0, .int .i64 0] 35, boxO b6 [.int .i64 g.rules.pits, .int .i64 g.rules.seeds, .bool g.rules.stores, .bool g.rules.skip, .bool g.rules.relay, .bool g.rules.feed, .bool g.rules.again, .int .i64 g.rules.capture, .int .i64 g.rules.slam, .slice A1 g.start.pits.length c1, .slice A2 g.start.stores.length c2, .int .i64 g.start.player, .slice A3 g.moves.length c3, .slice A4 g.now.pits.length c4, .slice A5 g.now.stores.length c5, .int .i64 g.now.player, .int .i64 g.resigned] 35] ∧ (y18.pits.length ≤ c19_0) ∧ (c19_0 ≤ 9223372036854775807) ∧ ((vs9.drop (0 + n.toNat * 3)).take 3 = [.slice A19_0 y18.pits.length c19_0, .slice A19_1 y18.stores.length c19_1, .int .i64 y18.player]) ∧ (y18.stores.length ≤ c19_1) ∧ (c19_1 ≤ 9223372036854775807)) ?_ ?_
 ·
  refine zdr [10, 12, 14] ?_
  refine JH.p 0 rfl (p_fieldAddr fld_35_2.h rfl) ?_
  refine JH.q 1 rfl (q_load1 ty_24.h rfl (Mem.box (i := 0) rfl rfl)) ?_
  refine JH.p 2 rfl (p_move rfl) ?_
  refine JH.p 3 rfl (p_move rfl) ?_
  refine JH.conv (fun w hw => St.cutRo (i := 3) (k := n.toNat) rfl (by omega) hw) ?_
  refine znh ?_
  refine JH.p 4 rfl (p_slice (lo' := 0) (hi' := n.toNat) (mx' := n.toNat) el_24 rfl ⟨_, by rw [Int.toNat_of_nonneg (by omega)]; exact rfl, by omega⟩ ⟨_, by rw [Int.toNat_of_nonneg (by omega)]; exact rfl, by omega⟩ rfl) ?_
  refine JH.p 5 rfl (p_move rfl) ?_
  refine JH.p 6 rfl (p_move rfl) ?_
  refine JH.fact (row_some (i := 8) rfl (by omega)) (fun hf23 => ?_)
  obtain ⟨b23, rfl⟩ := hf23
  have hy22 := hy18
  refine JH.fact (fun w hw => elemv_Position (Mem.ownC (i := 9) rfl w hw) hy22) (fun hf22 => ?_)
  obtain ⟨A22_0, c22_0, A22_1, c22_1, he22, bl22_0, bh22_0, bl22_1, bh22_1⟩ := hf22
  refine JH.p 7 rfl (p_indexAddr el_44 rfl rfl (by omega) (by omega) rfl) ?_
  refine JH.p 9 rfl (p_fieldAddr fld_35_2.h rfl) ?_
  refine y2 8 10 ?_ ?_
  ·
   refine JHo.q rfl (q_loadN ty_33.h rfl (Mem.rowR' (i := 8) rfl he22) rfl rfl) ?_
   refine y1 10 ?_
   refine yst rfl rfl rfl ?_
   refine JH.p 11 rfl (p_fieldAddr fld_35_3.h rfl) ?_
   refine y1 12 ?_
   refine yst rfl rfl rfl ?_
   refine JH.p 13 rfl (p_fieldAddr fld_35_4.h rfl) ?_
   refine y1 14 ?_
   refine yst rfl rfl rfl ?_
   refine yd ?_
   exact zm ⟨_, _, _, _, _, rfl, rfl, zt, zt, he22, zt, zt⟩ (Up.refl _ _)
  refine yst rfl rfl rfl ?_
  refine y1 8 ?_
  refine JHo.q rfl (q_loadN ty_33.h rfl (Mem.rowR' (i := 8) rfl he22) rfl rfl) ?_
  refine JH.p 11 rfl (p_fieldAddr fld_35_3.h rfl) ?_
  refine y1 12 ?_
  refine yst rfl rfl rfl ?_
  refine JH.p 13 rfl (p_fieldAddr fld_35_4.h rfl) ?_
  refine y1 14 ?_
  refine yst rfl rfl rfl ?_
  refine yd ?_
  exact zm ⟨_, _, _, _, _, rfl, rfl, zt, zt, he22, zt, zt⟩ (Up.refl _ _)
 rintro _ _ u21 ⟨A19_0, c19_0, A19_1, c19_1, b20, rfl, rfl, f21_0, f21_1, f21_2, f21_3, f21_4⟩ x21
 refine zn ?_
 refine zS <| Q9 1 rfl rfl ?_
 refine zw 10 rfl rfl rfl ?_
 refine JL.nil ?_
 refine Js.fact (fun w hw => elem_in cPosition (m := 3) (k := n.toNat) (xs := (M.playedP g)) (fun _ => rfl) (Mem.ownC (i := 9) rfl w hw) (by omega)) (fun hl24 => ?_)
 refine Js.ex3 (fun w hw => St.elemS cPosition (m := 3) (i := 9) (xs := (M.playedP g)) (fun _ => rfl) rfl hy18 f21_2 hw) (fun f24_1 f24_2 f24_3 => ?_)
 refine Js.conv (fun w hw => St.unpack2 (i := 0) (o1 := rowO 2 1 (.slice A19_0 y18.pits.length c19_0) y18.pits.length (ints_ y18.pits) []) (o2 := rowO 2 1 (.slice A19_1 y18.stores.length c19_1) y18.stores.length (ints_ y18.stores) []) rfl (fun w h => unpack_Position h) hw) ?_
 refine zn ?_
 refine zn ?_
 have hq0 : g.rules.pits = ((M.cutG g n.toNat).rules).pits := by first | rfl | (rw [hcn]; done) | (rw [hcn]; rfl) | (simp only [hcn]; done)
 have hq1 : g.rules.seeds = ((M.cutG g n.toNat).rules).seeds := by first | rfl | (rw [hcn]; done) | (rw [hcn]; rfl) | (simp only [hcn]; done)
 have hq2 : g.rules.stores = ((M.cutG g n.toNat).rules).stores := by first | rfl | (rw [hcn]; done) | (rw [hcn]; rfl) | (simp only [hcn]; done)
 have hq3 : g.rules.skip = ((M.cutG g n.toNat).rules).skip := by first | rfl | (rw [hcn]; done) | (rw [hcn]; rfl) | (simp only [hcn]; done)
 have hq4 : g.rules.relay = ((M.cutG g n.toNat).rules).relay := by first | rfl | (rw [hcn]; done) | (rw [hcn]; rfl) | (simp only [hcn]; done)
 have hq5 : g.rules.feed = ((M.cutG g n.toNat).rules).feed := by first | rfl | (rw [hcn]; done) | (rw [hcn]; rfl) | (simp only [hcn]; done)
 have hq6 : g.rules.again = ((M.cutG g n.toNat).rules).again := by first | rfl | (rw [hcn]; done) | (rw [hcn]; rfl) | (simp only [hcn]; done)
 have hq7 : g.rules.capture = ((M.cutG g n.toNat).rules).capture := by first | rfl | (rw [hcn]; done) | (rw [hcn]; rfl) | (simp only [hcn]; done)
 have hq8 : g.rules.slam = ((M.cutG g n.toNat).rules).slam := by first | rfl | (rw [hcn]; done) | (rw [hcn]; rfl) | (simp only [hcn]; done)
 have hq9 : g.start.pits = ((M.cutG g n.toNat).start).pits := by first | rfl | (rw [hcn]; done) | (rw [hcn]; rfl) | (simp only [hcn]; done)
 have hq10 : g.start.stores = ((M.cutG g n.toNat).start).stores := by first | rfl | (rw [hcn]; done) | (rw [hcn]; rfl) | (simp only [hcn]; done)
 have hq11 : g.start.player = ((M.cutG g n.toNat).start).player := by first | rfl | (rw [hcn]; done) | (rw [hcn]; rfl) | (simp only [hcn]; done)
 have hq12 : (g.moves.take n.toNat) = (M.cutG g n.toNat).moves := by first | rfl | (rw [hcn]; done) | (rw [hcn]; rfl) | (simp only [hcn]; done)
 have hq13 : y18.pits = ((M.cutG g n.toNat).now).pits := by first | rfl | (rw [hcn]; done) | (rw [hcn]; rfl) | (simp only [hcn]; done)
 have hq14 : y18.stores = ((M.cutG g n.toNat).now).stores := by first | rfl | (rw [hcn]; done) | (rw [hcn]; rfl) | (simp only [hcn]; done)
 have hq15 : y18.player = ((M.cutG g n.toNat).now).player := by first | rfl | (rw [hcn]; done) | (rw [hcn]; rfl) | (simp only [hcn]; done)
 have hq16 : (-1) = (M.cutG g n.toNat).resigned := by first | rfl | (rw [hcn]; done) | (rw [hcn]; rfl) | (simp only [hcn]; done)
 exact zro x21

set_option maxHeartbeats 1000000 in
theorem c_impl_UndoMove (g : M.Gam) {v_g : Value} {w : World} (h_g : (Ty.agg (cGame g)).ok w v_g) (r0 : g.start.pits.length ≤ 4194304 := by exact om_) (r1 : g.start.stores.length ≤ 4194304 := by exact om_) (r2 : g.moves.length ≤ 4194304 := by exact om_) (r3 : g.now.pits.length ≤ 4194304 := by exact om_) (r4 : g.now.stores.length ≤ 4194304 := by exact om_) : Ret Try.prog 39 [v_g] w (Ty.tup [Ty.agg (cGameL ((M.undo g).1)), Ty.int ((M.undo g).2)]) := by
 revert v_g; apply opn
 intro A1 c1 h1 bl1 bh1 A2 c2 h2 bl2 bh2 A3 c3 h3 bl3 bh3 A4 c4 h4 bl4 bh4 A5 c5 h5 bl5 bh5
 refine enter @Try.func39 @Try.ntmps39 rfl rfl ?_
 refine zent ?_
 refine zS <| zb rfl fun b6 => za zeh fun b7 => Qa rfl <| zJ <| zS <| Q9 1 rfl rfl ?_
 refine zv rfl (fun w hw => c_impl_ValidGame g (ok_ hw)) <| Qt rfl <| JL.nil ?_
 refine zi (fun h8 h8' => ?_) fun h8 h8' => ?_
 ·
  have hno : M.okG g = false := by simpa using h8
  have hE := M.undo_1 hno
  have hq0 : 0 = (((M.undo g).1).rules).pits := by first | rfl | (rw [hE]; done) | (rw [hE]; rfl)
  have hq1 : 0 = (((M.undo g).1).rules).seeds := by first | rfl | (rw [hE]; done) | (rw [hE]; rfl)
  have hq2 : false = (((M.undo g).1).rules).stores := by first | rfl | (rw [hE]; done) | (rw [hE]; rfl)
  have hq3 : false = (((M.undo g).1).rules).skip := by first | rfl | (rw [hE]; done) | (rw [hE]; rfl)
  have hq4 : false = (((M.undo g).1).rules).relay := by first | rfl | (rw [hE]; done) | (rw [hE]; rfl)
  have hq5 : false = (((M.undo g).1).rules).feed := by first | rfl | (rw [hE]; done) | (rw [hE]; rfl)
  have hq6 : false = (((M.undo g).1).rules).again := by first | rfl | (rw [hE]; done) | (rw [hE]; rfl)
  have hq7 : 0 = (((M.undo g).1).rules).capture := by first | rfl | (rw [hE]; done) | (rw [hE]; rfl)
  have hq8 : 0 = (((M.undo g).1).rules).slam := by first | rfl | (rw [hE]; done) | (rw [hE]; rfl)
  have hq9 : [] = (((M.undo g).1).start).pits := by first | rfl | (rw [hE]; done) | (rw [hE]; rfl)
  have hq10 : [] = (((M.undo g).1).start).stores := by first | rfl | (rw [hE]; done) | (rw [hE]; rfl)
  have hq11 : 0 = (((M.undo g).1).start).player := by first | rfl | (rw [hE]; done) | (rw [hE]; rfl)
  have hq12 : [] = ((M.undo g).1).moves := by first | rfl | (rw [hE]; done) | (rw [hE]; rfl)
  have hq13 : [] = (((M.undo g).1).now).pits := by first | rfl | (rw [hE]; done) | (rw [hE]; rfl)
  have hq14 : [] = (((M.undo g).1).now).stores := by first | rfl | (rw [hE]; done) | (rw [hE]; rfl)
  have hq15 : 0 = (((M.undo g).1).now).player := by first | rfl | (rw [hE]; done) | (rw [hE]; rfl)
  have hq16 : 0 = ((M.undo g).1).resigned := by first | rfl | (rw [hE]; done) | (rw [hE]; rfl)
  have hq17 : 1 = (M.undo g).2 := by first | rfl | (rw [hE]; done) | (rw [hE]; rfl)
  refine zS <| Qb ?_
  refine zw 0 rfl rfl rfl ?_
  refine Qa rfl <| JL.nil ?_
  exact zro (Up.refl _ _)
 have hok : M.okG g = true := by simpa using h8
 obtain ⟨k1, k2, k3, k4, k5, k6, k7, k8, k9⟩ := M.okG_parts hok
 refine Js.skip <| Js.seq <| zS <| Qf fh rfl <| Q0 1 rfl rfl rfl <| Qz rfl <| Qe rfl rfl <| Qm rfl <| zg (Gd.f1 rfl rfl rfl) (fun hc => p_fieldAddr fld_35_4.h rfl) <| zgq (Gd.f1 rfl rfl rfl) (fun hc => q_load1 ty_2.h (gh hc rfl) (Mem.box (i := 1) rfl rfl)) <| zg (Gd.f1 rfl rfl rfl) (fun hc => p_geq (gh hc rfl) rfl) <| Qq (p_pickOr rfl rfl rfl) <| JL.nil ?_
 refine zi (fun h9 h9' => ?_) fun h9 h9' => ?_
 ·
  have hE := M.undo_6 hok (by have := h9'; omega)
  have hq0 : 0 = (((M.undo g).1).rules).pits := by first | rfl | (rw [hE]; done) | (rw [hE]; rfl)
  have hq1 : 0 = (((M.undo g).1).rules).seeds := by first | rfl | (rw [hE]; done) | (rw [hE]; rfl)
  have hq2 : false = (((M.undo g).1).rules).stores := by first | rfl | (rw [hE]; done) | (rw [hE]; rfl)
  have hq3 : false = (((M.undo g).1).rules).skip := by first | rfl | (rw [hE]; done) | (rw [hE]; rfl)
  have hq4 : false = (((M.undo g).1).rules).relay := by first | rfl | (rw [hE]; done) | (rw [hE]; rfl)
  have hq5 : false = (((M.undo g).1).rules).feed := by first | rfl | (rw [hE]; done) | (rw [hE]; rfl)
  have hq6 : false = (((M.undo g).1).rules).again := by first | rfl | (rw [hE]; done) | (rw [hE]; rfl)
  have hq7 : 0 = (((M.undo g).1).rules).capture := by first | rfl | (rw [hE]; done) | (rw [hE]; rfl)
  have hq8 : 0 = (((M.undo g).1).rules).slam := by first | rfl | (rw [hE]; done) | (rw [hE]; rfl)
  have hq9 : [] = (((M.undo g).1).start).pits := by first | rfl | (rw [hE]; done) | (rw [hE]; rfl)
  have hq10 : [] = (((M.undo g).1).start).stores := by first | rfl | (rw [hE]; done) | (rw [hE]; rfl)
  have hq11 : 0 = (((M.undo g).1).start).player := by first | rfl | (rw [hE]; done) | (rw [hE]; rfl)
  have hq12 : [] = ((M.undo g).1).moves := by first | rfl | (rw [hE]; done) | (rw [hE]; rfl)
  have hq13 : [] = (((M.undo g).1).now).pits := by first | rfl | (rw [hE]; done) | (rw [hE]; rfl)
  have hq14 : [] = (((M.undo g).1).now).stores := by first | rfl | (rw [hE]; done) | (rw [hE]; rfl)
  have hq15 : 0 = (((M.undo g).1).now).player := by first | rfl | (rw [hE]; done) | (rw [hE]; rfl)
  have hq16 : 0 = ((M.undo g).1).resigned := by first | rfl | (rw [hE]; done) | (rw [hE]; rfl)
  have hq17 : 6 = (M.undo g).2 := by first | rfl | (rw [hE]; done) | (rw [hE]; rfl)
  refine zS <| Qb ?_
  refine zw 0 rfl rfl rfl ?_
  refine Qa rfl <| JL.nil ?_
  exact zro (Up.refl _ _)
 have hE := M.undo_0 hok (by have := h9'; omega)
 have hq9 := h9'
 refine Js.skip <| zS <| Q9 1 rfl rfl ?_
 refine Qf fh rfl <| Q0 1 rfl rfl rfl <| Qz rfl <| Qs rfl rfl <| zcs rfl (fun w hw => c_impl_Game_cut g ((g.moves.length : Int) - 1) (ok_ hw) (r5 := hok)) ?_
 intro A10_9 c10_9 bl10_9 bh10_9 A10_10 c10_10 bl10_10 bh10_10 A10_12 c10_12 bl10_12 bh10_12 A10_13 c10_13 bl10_13 bh10_13 A10_14 c10_14 bl10_14 bh10_14 f10
 have hq0 : (M.cutG g ((g.moves.length : Int) - 1).toNat) = (M.undo g).1 := by first | rfl | (rw [hE]; done) | (rw [hE]; rfl)
 have hq1 : 0 = (M.undo g).2 := by first | rfl | (rw [hE]; done) | (rw [hE]; rfl)
 refine zw 1 rfl rfl rfl ?_
 refine Qa rfl <| JL.nil ?_
 exact zro (Up.refl _ _)

end Go.Proofs.Ytejnmechnhgmfaa

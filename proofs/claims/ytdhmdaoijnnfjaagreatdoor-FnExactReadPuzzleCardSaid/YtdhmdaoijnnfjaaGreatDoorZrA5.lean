/- Walks: G9. -/
import Derived.Test.YtdhmdaoijnnfjaaGreatDoorZrA3
import Derived.Test.YtdhmdaoijnnfjaaGreatDoorZrA4
import Derived.Test.YtdhmdaoijnnfjaaGreatDoorZrA2
set_option linter.unusedSimpArgs false
set_option linter.unusedVariables false
set_option maxRecDepth 100000
attribute [local irreducible] Go.Proofs.YtdhmdaoijnnfjaaGreatDoor.gv
namespace Go.Proofs.YtdhmdaoijnnfjaaGreatDoor
open Go.RowKit

set_option maxHeartbeats 1000000 in
theorem c_impl_Rules_endValue (r : M.Rul) {v_r : Value} (p : M.Pos) {v_p : Value} {w : World} (h_r : (Ty.agg (cRules r)).ok w v_r) (h_p : (Ty.agg (cPosition p)).ok w v_p) (r0 : M.okP r p = true := by exact om_) : RetV Tryz.prog 202 [v_r, v_p] w (.int .i64 (M.endV r p)) := by
 obtain ⟨g1, g2, g3, g4, g5, g6, g7⟩ := M.okP_bd r0
 have g8 := M.results_8 r0
 have b1 := M.side_bd g5 g2 p.player
 have b2 := M.side_bd g5 g2 (1 - p.player)
 revert v_r; apply opn
 revert v_p; apply opn
 intro A1 c1 h1 bl1 bh1 A2 c2 h2 bl2 bh2
 refine enter @Tryz.func202 @Tryz.ntmps202 rfl rfl ?_
 refine zent ?_
 refine zS <| zb rfl fun b3 => zb rfl fun b4 => Qa rfl <| zJ ?_
 refine zdr [] ?_
 refine JH.q 0 rfl (L9 1 rfl rfl) ?_
 refine JH.p 1 rfl (p_fieldAddr fld_33_0.h rfl) ?_
 refine JH.q 2 rfl (q_load1 ty_24.h rfl (Mem.box (i := 0) rfl rfl)) ?_
 refine JH.p 3 rfl (p_fieldAddr fld_33_2.h rfl) ?_
 refine JH.q 4 rfl (q_load1 ty_2.h rfl (Mem.box (i := 0) rfl rfl)) ?_
 refine JH.q 6 rfl (L9 1 rfl rfl) ?_
 refine JH.p 7 rfl (p_fieldAddr fld_33_0.h rfl) ?_
 refine JH.q 8 rfl (q_load1 ty_24.h rfl (Mem.box (i := 0) rfl rfl)) ?_
 refine JH.p 9 rfl (p_fieldAddr fld_33_2.h rfl) ?_
 refine JH.q 10 rfl (q_load1 ty_2.h rfl (Mem.box (i := 0) rfl rfl)) ?_
 refine JH.p 11 rfl (p_sub rfl rfl (IntWalk.i64_in _ (by omega))) ?_
 refine y1 5 ?_
 refine yv rfl rfl (fun w hw => c_impl_Rules_side r p.pits p.player (ok_ hw) (ok_ hw) (r4 := g5)) ?_
 refine y1 12 ?_
 refine yv rfl rfl (fun w hw => c_impl_Rules_side r p.pits (1 - p.player) (ok_ hw) (ok_ hw) (r4 := g5)) ?_
 refine JH.p 13 rfl (p_sub rfl rfl (IntWalk.i64_in _ (by omega))) ?_
 refine JH.p 14 rfl (p_assign rfl) ?_
 refine yd ?_
 refine zR (Up.refl _ _) ?_
 rfl

def S_impl_Rules_sizeUpTo (N : Nat) : Prop := ∀ (r : M.Rul) (v_r : Value) (p : M.Pos) (v_p : Value) (depth : Int) (w : World) (h_r : (Ty.agg (cRules r)).ok w v_r) (h_p : (Ty.agg (cPosition p)).ok w v_p) (r0 : M.okP r p = true) (r1 : 0 ≤ depth) (r2 : depth ≤ 8) (_ : depth.toNat = N), RetV Tryz.prog 201 [v_r, v_p, .int .i64 depth] w (.int .i64 (M.sizeT r depth.toNat p))
set_option maxHeartbeats 1000000 in
theorem c_impl_Rules_sizeUpTo_ : ∀ N, S_impl_Rules_sizeUpTo N := by
 intro N
 induction N using Nat.strongRecOn with
 | ind N ih =>
 intro r v_r p v_p depth w h_r h_p r0 r1 r2 hN
 obtain ⟨g1, g2, g3, g4, g5, g6, g7⟩ := M.okP_bd r0
 have g8 := M.results_8 r0
 revert v_r; apply opn
 revert v_p; apply opn
 intro A1 c1 h1 bl1 bh1 A2 c2 h2 bl2 bh2
 refine enter @Tryz.func201 @Tryz.ntmps201 rfl rfl ?_
 refine zent ?_
 refine zS <| zb rfl fun b3 => zb rfl fun b4 => Qa rfl <| zN <| Qa rfl <| zJ <| zS <| Qm rfl <| Qe rfl rfl <| JL.nil ?_
 refine zi (fun h5 h5' => ?_) fun h5 h5' => ?_
 ·
  have hE : M.sizeT r depth.toNat p = 1 := by rw [show depth.toNat = 0 by have := h5'; omega]; rfl
  refine zS <| Qm rfl <| Qa rfl <| JL.nil ?_
  refine zR (Up.refl _ _) ?_
  rw [hE]; rfl
 have hd : 1 ≤ depth := by have := h5'; omega
 refine Js.skip <| Js.seq <| zS <| Q9 1 rfl rfl ?_
 refine Q9 0 rfl rfl ?_
 refine zp rfl (fun w hw => c_impl_Rules_results r p (ok_ hw) (ok_ hw) (r0 := r0)) ?_
 intro u6 x6 A7 c7 h7 bl7 bh7
 refine Qz rfl <| Qm rfl <| JL.nil <| Js.block ?_
 refine zl [2, 3, 15, 16] (fun F U l os u m => ∃ (k : Nat) (z : Int), l = F [(7, .int .i64 z), (17, .int .i64 (k : Int))] ∧ os = U [] ∧ (M.szgo (M.sizeT r (depth - 1).toNat) z ((M.results r p).drop k) = M.sizeT r depth.toNat p) ∧ (1 ≤ z) ∧ (z ≤ 3000) ∧ (k ≤ (M.results r p).length) ∧ m = (M.results r p).length - k) ⟨0, 1, rfl, rfl, by exact (M.sizeT_d (by omega)).symm, zt, zt, zt, rfl⟩ ?_
 rintro _ _ u8 _ ⟨k, z, rfl, rfl, hS, z0, z1, hk, rfl⟩ x8
 refine zn ?_
 refine zS <| Ql rfl rfl <| zJ ?_
 refine zi (fun h9 h9' => ?_) fun h9 h9' => ?_
 ·
  obtain ⟨y10, hy10⟩ : ∃ x, (M.results r p)[k]? = some x := ⟨_, List.getElem?_eq_getElem (by omega)⟩
  obtain ⟨b10, o10, A10_3, c10_3, A10_4, c10_4, he10, hr10, h10_3, h10_4, bl10_3, bh10_3, bl10_4, bh10_4⟩ := elem_Result (Ty.mono _ h7 x8.vis) hy10
  have hb9 := M.sizeT_bd r (depth - 1).toNat y10.next
  refine Js.skip <| Js.seq <| Js.block <| zS <| Qq (p_indexAddr el_65 rfl rfl (by omega) (by omega) he10) <| QS 0 hr10 rfl ?_
  refine za zeh fun b11 => zw 0 rfl rfl rfl ?_
  refine zN <| Qm rfl <| Q9 2 rfl rfl ?_
  refine Qf fh rfl <| Q9 0 rfl rfl ?_
  refine Qm rfl <| Qs rfl rfl <| zv rfl (fun w hw => ih ((depth - 1).toNat) (by omega) r _ y10.next _ (depth - 1) w (ok_ hw) (ok_ hw) (M.results_ok (M.results_get0 hy10)) (by omega) (by omega) rfl) <| Qp rfl rfl <| Qa rfl <| zN <| Qm rfl <| Qg rfl rfl <| JL.nil ?_
  refine zi (fun h12 h12' => ?_) fun h12 h12' => ?_
  ·
   have hE := M.szgo_y hS hy10 (by simpa using h12)
   refine zS <| Qm rfl <| Qa rfl <| JL.nil ?_
   refine zR (x6.trans x8) ?_
   rw [hE]; rfl
  have hS2 := M.szgo_n hS hy10 (by simpa using h12)
  have hz9 := h12'
  refine Js.skip <| Js.blockEnd <| Js.region <| Qp rfl rfl <| Qm rfl <| JL.nil ?_
  refine zd [1, 1] rfl fun u13 x13 => ?_
  exact zag ⟨k + 1, z + (M.sizeT r (depth - 1).toNat y10.next), rfl, rfl, by exact hS2, zt, zt, zt, rfl⟩ (x8.trans x13)
 have hE := M.szgo_e hS (by have := h9'; omega)
 refine zx ?_
 refine zS <| Qm rfl <| Qa rfl <| JL.nil ?_
 refine zR (x6.trans x8) ?_
 rw [hE]; rfl

theorem c_impl_Rules_sizeUpTo (r : M.Rul) {v_r : Value} (p : M.Pos) {v_p : Value} (depth : Int) {w : World} (h_r : (Ty.agg (cRules r)).ok w v_r) (h_p : (Ty.agg (cPosition p)).ok w v_p) (r0 : M.okP r p = true := by exact om_) (r1 : 0 ≤ depth := by exact om_) (r2 : depth ≤ 8 := by exact om_) : RetV Tryz.prog 201 [v_r, v_p, .int .i64 depth] w (.int .i64 (M.sizeT r depth.toNat p)) := c_impl_Rules_sizeUpTo_ _ r v_r p v_p depth w h_r h_p r0 r1 r2 rfl

set_option maxHeartbeats 1000000 in
theorem c_impl_searchCode (r : M.Rul) {v_r : Value} (p : M.Pos) {v_p : Value} (depth : Int) {w : World} (h_r : (Ty.agg (cRules r)).ok w v_r) (h_p : (Ty.agg (cPosition p)).ok w v_p) (r0 : p.pits.length ≤ 4194304 := by exact om_) (r1 : p.stores.length ≤ 4194304 := by exact om_) : RetV Tryz.prog 184 [v_r, v_p, .int .i64 depth] w (.int .i64 (M.srchC r p depth)) := by
 revert v_r; apply opn
 revert v_p; apply opn
 intro A1 c1 h1 bl1 bh1 A2 c2 h2 bl2 bh2
 refine enter @Tryz.func184 @Tryz.ntmps184 rfl rfl ?_
 refine zent ?_
 refine zS <| zb rfl fun b3 => zb rfl fun b4 => Qa rfl <| zJ <| zS <| Q9 1 rfl rfl ?_
 refine Q9 0 rfl rfl ?_
 refine zv rfl (fun w hw => c_impl_ValidPosition r p (ok_ hw) (ok_ hw)) <| Qt rfl <| JL.nil ?_
 refine zi (fun h5 h5' => ?_) fun h5 h5' => ?_
 ·
  have hE := M.srchC_1 (depth := depth) (by simpa using h5)
  refine zS <| Qa rfl <| JL.nil ?_
  refine zR (Up.refl _ _) ?_
  rw [hE]; rfl
 have hok : M.okP r p = true := by simpa using h5
 refine Js.skip <| Js.seq <| zS <| Qm rfl <| zv rfl (fun w hw => c_impl_between depth 0 8) <| Qt rfl <| JL.nil ?_
 refine zi (fun h6 h6' => ?_) fun h6 h6' => ?_
 ·
  have hE := M.srchC_2 hok (by simpa using h6)
  refine zS <| Qa rfl <| JL.nil ?_
  refine zR (Up.refl _ _) ?_
  rw [hE]; rfl
 have hbt : M.betw depth 0 8 = true := by simpa using h6
 obtain ⟨d0, d1⟩ := M.betw_iff.1 hbt
 refine Js.skip <| Js.seq <| zS <| Q9 1 rfl rfl ?_
 refine Q9 0 rfl rfl ?_
 refine Qm rfl <| zv rfl (fun w hw => c_impl_Rules_sizeUpTo r p depth (ok_ hw) (ok_ hw) (r0 := hok)) <| Qg rfl rfl <| JL.nil ?_
 refine zi (fun h7 h7' => ?_) fun h7 h7' => ?_
 ·
  have hE := M.srchC_5 hok hbt ((M.sizeT_big _ _ _).1 (by simpa using h7))
  refine zS <| Qa rfl <| JL.nil ?_
  refine zR (Up.refl _ _) ?_
  rw [hE]; rfl
 have hE := M.srchC_0 hok hbt (fun h9 => absurd ((M.sizeT_big _ _ _).2 h9) (by simpa using h7))
 refine Js.skip <| zS <| Qa rfl <| JL.nil ?_
 refine zR (Up.refl _ _) ?_
 rw [hE]; rfl

set_option maxHeartbeats 1000000 in
theorem c_impl_Rules_moveValue (r : M.Rul) {v_r : Value} (x : M.Res) {v_x : Value} (value : Int) {w : World} (h_r : (Ty.agg (cRules r)).ok w v_r) (h_x : (Ty.agg (cResult x)).ok w v_x) (r0 : -96 ≤ x.gain ∧ x.gain ≤ 96 := by exact om_) (r1 : -100000 ≤ value ∧ value ≤ 100000 := by exact om_) : RetV Tryz.prog 185 [v_r, v_x, .int .i64 value] w (.int .i64 (M.moveV x value)) := by
 revert v_r; apply opn
 revert v_x; apply opn
 intro A1 c1 h1 bl1 bh1 A2 c2 h2 bl2 bh2
 refine enter @Tryz.func185 @Tryz.ntmps185 rfl rfl ?_
 refine zent ?_
 refine zS <| zb rfl fun b3 => zb rfl fun b4 => Qa rfl <| zJ <| zS <| Qf fh rfl <| Q0 0 rfl rfl rfl <| JL.nil ?_
 refine zi (fun h5 h5' => ?_) fun h5 h5' => ?_
 ·
  have hE := M.moveV_y (v := value) h5
  refine zS <| Qf fh rfl <| Q0 0 rfl rfl rfl <| Qm rfl <| Qp rfl rfl <| Qa rfl <| JL.nil ?_
  refine zR (Up.refl _ _) ?_
  rw [hE]; rfl
 have hE := M.moveV_n (v := value) (by simpa using h5)
 refine Js.skip <| zS <| Qf fh rfl <| Q0 0 rfl rfl rfl <| Qm rfl <| Qs rfl rfl <| Qa rfl <| JL.nil ?_
 refine zR (Up.refl _ _) ?_
 rw [hE]; rfl

def S_impl_Rules_value (N : Nat) : Prop := ∀ (r : M.Rul) (v_r : Value) (p : M.Pos) (v_p : Value) (depth : Int) (w : World) (h_r : (Ty.agg (cRules r)).ok w v_r) (h_p : (Ty.agg (cPosition p)).ok w v_p) (r0 : M.okP r p = true) (r1 : 0 ≤ depth) (r2 : depth ≤ 8) (_ : depth.toNat = N), RetV Tryz.prog 186 [v_r, v_p, .int .i64 depth] w (.int .i64 (M.val r depth.toNat p))
set_option maxHeartbeats 1000000 in
theorem c_impl_Rules_value_ : ∀ N, S_impl_Rules_value N := by
 intro N
 induction N using Nat.strongRecOn with
 | ind N ih =>
 intro r v_r p v_p depth w h_r h_p r0 r1 r2 hN
 obtain ⟨g1, g2, g3, g4, g5, g6, g7⟩ := M.okP_bd r0
 have g8 := M.results_8 r0
 revert v_r; apply opn
 revert v_p; apply opn
 intro A1 c1 h1 bl1 bh1 A2 c2 h2 bl2 bh2
 refine enter @Tryz.func186 @Tryz.ntmps186 rfl rfl ?_
 refine zent ?_
 refine zS <| zb rfl fun b3 => zb rfl fun b4 => Qa rfl <| zN <| Q9 1 rfl rfl ?_
 refine Q9 0 rfl rfl ?_
 refine zp rfl (fun w hw => c_impl_Rules_results r p (ok_ hw) (ok_ hw) (r0 := r0)) ?_
 intro u5 x5 A6 c6 h6 bl6 bh6
 refine Qa rfl <| zJ <| Js.block <| zS <| Qm rfl <| Qz rfl <| Qe rfl rfl <| Qa rfl <| JL.nil ?_
 refine zi (fun h7 h7' => ?_) fun h7 h7' => ?_
 ·
  have hE : M.val r depth.toNat p = M.endV r p := M.val_end (by have := h7'; omega)
  refine zS <| Q9 1 rfl rfl ?_
  refine Q9 0 rfl rfl ?_
  refine zv rfl (fun w hw => c_impl_Rules_endValue r p (ok_ hw) (ok_ hw) (r0 := r0)) <| Qa rfl <| JL.nil ?_
  refine zR x5 ?_
  rw [hE]; rfl
 have hne : (M.results r p).length ≠ 0 := by have := h7'; omega
 refine zS <| Qm rfl <| Qe rfl rfl <| Qa rfl <| JL.nil ?_
 refine zi (fun h8 h8' => ?_) fun h8 h8' => ?_
 ·
  have hE : M.val r depth.toNat p = 0 := by rw [show depth.toNat = 0 by have := h8'; omega]; exact M.val_0 hne
  refine zS <| Qa rfl <| JL.nil ?_
  refine zR x5 ?_
  rw [hE]; rfl
 have hd : 1 ≤ depth := by have := h8'; omega
 refine Js.skip <| Js.blockEnd <| zS <| Qa rfl <| zJ <| zS <| Qm rfl <| Qz rfl <| Qm rfl <| JL.nil <| Js.block ?_
 refine zl [2, 3, 25, 26] (fun F U l os u m => ∃ (k : Nat) (b : Int), l = F [(8, .int .i64 b), (27, .int .i64 (k : Int))] ∧ os = U [] ∧ (M.bestF (decide (k = 0)) b ((M.vals r (depth - 1).toNat p).drop k) = M.val r depth.toNat p) ∧ (-2000 ≤ b) ∧ (b ≤ 2000) ∧ (k ≤ (M.results r p).length) ∧ m = (M.results r p).length - k) ⟨0, 0, rfl, rfl, by exact (M.val_d hne hd).symm, zt, zt, zt, rfl⟩ ?_
 rintro _ _ u9 _ ⟨k, b, rfl, rfl, hS, b0, b1, hk, rfl⟩ x9
 refine zn ?_
 refine zS <| Ql rfl rfl <| zJ ?_
 refine zi (fun h10 h10' => ?_) fun h10 h10' => ?_
 ·
  obtain ⟨y11, hy11⟩ : ∃ x, (M.results r p)[k]? = some x := ⟨_, List.getElem?_eq_getElem (by omega)⟩
  obtain ⟨b11, o11, A11_3, c11_3, A11_4, c11_4, he11, hr11, h11_3, h11_4, bl11_3, bh11_3, bl11_4, bh11_4⟩ := elem_Result (Ty.mono _ h6 x9.vis) hy11
  refine Js.skip <| Js.seq <| Js.block <| zS <| Qm rfl <| Qq (p_indexAddr el_65 rfl rfl (by omega) (by omega) he11) <| QS 0 hr11 rfl ?_
  refine za zeh fun b12 => Qa rfl <| zw 0 rfl rfl rfl ?_
  refine zJ ?_
  refine zdr [] ?_
  refine JH.q 0 rfl (L9 2 rfl rfl) ?_
  refine JH.q 1 rfl (L9 0 rfl rfl) ?_
  refine JH.q 2 rfl (L9 2 rfl rfl) ?_
  refine JH.p 3 rfl (p_fieldAddr fld_71_3.h rfl) ?_
  refine JH.q 4 rfl (L9 0 rfl rfl) ?_
  refine JH.p 5 rfl (p_move rfl) ?_
  refine JH.p 6 rfl (p_sub rfl rfl (IntWalk.i64_in _ (by omega))) ?_
  refine y1 7 ?_
  have hvb9 := M.val_bd (depth - 1).toNat y11.next (M.results_ok (M.results_get0 hy11))
  have hgb9 := M.results_gain (M.results_get0 hy11)
  have hmb9 := M.moveV_bd hgb9 hvb9
  refine yv rfl rfl (fun w hw => ih ((depth - 1).toNat) (by omega) r _ y11.next _ (depth - 1) w (ok_ hw) (ok_ hw) (M.results_ok (M.results_get0 hy11)) (by omega) (by omega) rfl) ?_
  refine y1 8 ?_
  refine yv rfl rfl (fun w hw => c_impl_Rules_moveValue r y11 (M.val r (depth - 1).toNat y11.next) (ok_ hw) (ok_ hw) (r0 := hgb9)) ?_
  refine JH.p 9 rfl (p_assign rfl) ?_
  refine yd ?_
  refine zS <| Qm rfl <| Qe rfl rfl <| Qm rfl <| zg (Gd.f1 rfl rfl rfl) (fun hc => p_move rfl) <| zg (Gd.f1 rfl rfl rfl) (fun hc => p_move rfl) <| zg (Gd.f1 rfl rfl rfl) (fun hc => p_gtr (gh hc rfl) (gh hc rfl)) <| Qq (p_pickOr rfl rfl rfl) <| JL.nil ?_
  refine zi (fun h13 h13' => ?_) fun h13 h13' => ?_
  ·
   have hS2 := M.bestF_y hS (M.vals_get hy11) (by have := h13'; omega)
   refine Js.region <| Qm rfl <| Qa rfl <| JL.nil <| Js.blockEnd <| Js.region <| Qp rfl rfl <| Qm rfl <| JL.nil ?_
   refine zd [1, 1] rfl fun u14 x14 => ?_
   exact zag ⟨k + 1, M.moveV y11 (M.val r (depth - 1).toNat y11.next), rfl, rfl, by exact hS2, zt, zt, zt, rfl⟩ (x9.trans x14)
  have hS2 := M.bestF_n hS (M.vals_get hy11) (by have := h13'; omega)
  refine Js.skip <| Js.blockEnd <| Js.region <| Qp rfl rfl <| Qm rfl <| JL.nil ?_
  refine zd [1, 1] rfl fun u15 x15 => ?_
  exact zag ⟨k + 1, b, rfl, rfl, by exact hS2, zt, zt, zt, rfl⟩ (x9.trans x15)
 have hE := M.bestF_e hS (by rw [M.vals_len]; have := h10'; omega)
 refine zx ?_
 refine zS <| Qm rfl <| Qa rfl <| JL.nil ?_
 refine zR (x5.trans x9) ?_
 rw [hE]; rfl

theorem c_impl_Rules_value (r : M.Rul) {v_r : Value} (p : M.Pos) {v_p : Value} (depth : Int) {w : World} (h_r : (Ty.agg (cRules r)).ok w v_r) (h_p : (Ty.agg (cPosition p)).ok w v_p) (r0 : M.okP r p = true := by exact om_) (r1 : 0 ≤ depth := by exact om_) (r2 : depth ≤ 8 := by exact om_) : RetV Tryz.prog 186 [v_r, v_p, .int .i64 depth] w (.int .i64 (M.val r depth.toNat p)) := c_impl_Rules_value_ _ r v_r p v_p depth w h_r h_p r0 r1 r2 rfl

set_option maxHeartbeats 1000000 in
theorem c_impl_Rules_options (r : M.Rul) {v_r : Value} (p : M.Pos) {v_p : Value} (depth : Int) {w : World} (h_r : (Ty.agg (cRules r)).ok w v_r) (h_p : (Ty.agg (cPosition p)).ok w v_p) (r0 : M.okP r p = true := by exact om_) (r1 : 1 ≤ depth := by exact om_) (r2 : depth ≤ 8 := by exact om_) : Ret Tryz.prog 161 [v_r, v_p, .int .i64 depth] w (Ty.sl 153 2 (M.opts r p depth).length (lOption (M.opts r p depth))) := by
 obtain ⟨g1, g2, g3, g4, g5, g6, g7⟩ := M.okP_bd r0
 have g8 := M.results_8 r0
 revert v_r; apply opn
 revert v_p; apply opn
 intro A1 c1 h1 bl1 bh1 A2 c2 h2 bl2 bh2
 refine enter @Tryz.func161 @Tryz.ntmps161 rfl rfl ?_
 refine zent ?_
 refine zS <| zb rfl fun b3 => zb rfl fun b4 => Qa rfl <| zN <| zbs fun b5 => ?_
 refine Qa rfl <| zJ <| zS <| Q9 2 rfl rfl ?_
 refine Q9 1 rfl rfl ?_
 refine zp rfl (fun w hw => c_impl_Rules_results r p (ok_ hw) (ok_ hw) (r0 := r0)) ?_
 intro u7 x7 A8 c8 h8 bl8 bh8
 refine Qz rfl <| Qm rfl <| JL.nil <| Js.block ?_
 refine Js.vals (Ts := lOption []) (vs := []) (fun w => rfl) ?_
 refine zl [2, 3, 13, 14] (fun F U l os u m => ∃ (k : Nat) (acc : List M.Opt) (A9_7 : Option Addr) (c9_7 : Nat) (g9_7 : List Nat) (vs9_7 : List Value) (fl9_7 : List Nat), l = F [(7, .slice A9_7 acc.length c9_7), (15, .int .i64 (k : Int))] ∧ os = U [some (ownC (lOption acc) vs9_7 fl9_7), some (rowO 153 2 (.slice A9_7 acc.length c9_7) acc.length vs9_7 g9_7)] ∧ (acc = (M.opts r p depth).take k) ∧ (k ≤ (M.results r p).length) ∧ (acc.length = k) ∧ (acc.length ≤ c9_7) ∧ (c9_7 ≤ 9223372036854775807) ∧ m = (M.results r p).length - k) ⟨0, [], _, _, _, _, _, rfl, rfl, by rfl, zt, by rfl, zu, zu, rfl⟩ ?_
 rintro _ _ u9 _ ⟨k, acc, A9_7, c9_7, g9_7, vs9_7, fl9_7, rfl, rfl, hA, hk, hl, f9_3, f9_4, rfl⟩ x9
 refine zn ?_
 refine zS <| Ql rfl rfl <| zJ ?_
 refine zi (fun h10 h10' => ?_) fun h10 h10' => ?_
 ·
  obtain ⟨y11, hy11⟩ : ∃ x, (M.results r p)[k]? = some x := ⟨_, List.getElem?_eq_getElem (by omega)⟩
  obtain ⟨b11, o11, A11_3, c11_3, A11_4, c11_4, he11, hr11, h11_3, h11_4, bl11_3, bh11_3, bl11_4, bh11_4⟩ := elem_Result (Ty.mono _ h8 x9.vis) hy11
  refine Js.skip <| Js.seq <| Js.block <| zS <| Qq (p_indexAddr el_65 rfl rfl (by omega) (by omega) he11) <| QS 0 hr11 rfl ?_
  refine za zeh fun b12 => zw 0 rfl rfl rfl ?_
  refine JL.nil ?_
  refine zdr [14] ?_
  refine JH.p 0 rfl (p_move rfl) ?_
  refine JH.p 1 rfl (p_fieldAddr fld_71_0.h rfl) ?_
  refine JH.q 2 rfl (q_load1 ty_2.h rfl (Mem.box (i := 0) rfl rfl)) ?_
  refine JH.q 3 rfl (L9 4 rfl rfl) ?_
  refine JH.q 4 rfl (L9 0 rfl rfl) ?_
  refine JH.q 5 rfl (L9 4 rfl rfl) ?_
  refine JH.p 6 rfl (p_fieldAddr fld_71_3.h rfl) ?_
  refine JH.q 7 rfl (L9 0 rfl rfl) ?_
  refine JH.p 8 rfl (p_move rfl) ?_
  refine JH.p 9 rfl (p_sub rfl rfl (IntWalk.i64_in _ (by omega))) ?_
  refine y1 10 ?_
  have hvb9 := M.val_bd (depth - 1).toNat y11.next (M.results_ok (M.results_get0 hy11))
  have hgb9 := M.results_gain (M.results_get0 hy11)
  have hmb9 := M.moveV_bd hgb9 hvb9
  refine yv rfl rfl (fun w hw => c_impl_Rules_value r y11.next (depth - 1) (ok_ hw) (ok_ hw) (r0 := (M.results_ok (M.results_get0 hy11)))) ?_
  refine y1 11 ?_
  refine yv rfl rfl (fun w hw => c_impl_Rules_moveValue r y11 (M.val r (depth - 1).toNat y11.next) (ok_ hw) (ok_ hw) (r0 := hgb9)) ?_
  refine JH.p 12 rfl (q_bld) ?_
  refine y1 13 ?_
  refine ybs rfl fun b13 => ?_
  refine y1 14 ?_
  refine JHo.e rfl (e_append (i := 3) (n' := (acc ++ [(M.Opt.mk y11.move (M.moveV y11 (M.val r (depth - 1).toNat y11.next)))]).length) (vs' := vs9_7 ++ [.int .i64 y11.move, .int .i64 (M.moveV y11 (M.val r (depth - 1).toNat y11.next))]) el_149 rfl rfl rfl rfl (src_row (i := 0) und_149 rfl rfl) (by omega) (by omega) (by first | omega | (simp only [List.length_append, List.length_cons, List.length_nil] <;> omega)) (rfl)) (.inr rfl) ?_
  rintro v15 _ _ ⟨⟨g16, rfl⟩, rfl⟩ _
  refine JH.fact (row_form' (i := 3) rfl) (fun hf17 => ?_)
  obtain ⟨A17, c17, rfl, bl17, bh17⟩ := hf17
  refine znh ?_
  refine JH.p 15 rfl (p_assign rfl) ?_
  refine yd ?_
  refine Js.vals (Ts := cOption (M.Opt.mk y11.move (M.moveV y11 (M.val r (depth - 1).toNat y11.next)))) (vs := [.int .i64 y11.move, .int .i64 (M.moveV y11 (M.val r (depth - 1).toNat y11.next))]) (fun w => ⟨[], [], rfl, ⟨rfl, rfl⟩, ⟨[], [], rfl, ⟨rfl, rfl⟩, rfl⟩⟩) ?_
  refine Js.joinL (i := 3) (j := 0) (Vs := lOption (acc ++ [(M.Opt.mk y11.move (M.moveV y11 (M.val r (depth - 1).toNat y11.next)))])) rfl rfl (lOption_snoc _ _) (fun f19 => ?_)
  refine zn ?_
  refine Js.blockEnd <| Js.region <| Qp rfl rfl <| Qm rfl <| JL.nil ?_
  refine zd [0, 2, 2, 2] rfl fun u20 x20 => ?_
  exact zag ⟨k + 1, acc ++ [(M.Opt.mk y11.move (M.moveV y11 (M.val r (depth - 1).toNat y11.next)))], _, _, _, _, _, rfl, rfl, by rw [hA]; exact (M.opts_step (by assumption)).symm, zt, by simp [hl], zu, zu, rfl⟩ (x9.trans x20)
 have hE : acc = M.opts r p depth := by rw [hA, List.take_of_length_le (by rw [M.opts_len]; have := h10'; omega)]
 refine zx ?_
 have hq0 : acc = M.opts r p depth := by exact hE
 refine zS <| Qm rfl <| Qa rfl <| JL.nil ?_
 exact zro (x7.trans x9)

set_option maxHeartbeats 1000000 in
theorem c_impl_optionsCode (r : M.Rul) {v_r : Value} (p : M.Pos) {v_p : Value} (depth : Int) {w : World} (h_r : (Ty.agg (cRules r)).ok w v_r) (h_p : (Ty.agg (cPosition p)).ok w v_p) (r0 : p.pits.length ≤ 4194304 := by exact om_) (r1 : p.stores.length ≤ 4194304 := by exact om_) : RetV Tryz.prog 160 [v_r, v_p, .int .i64 depth] w (.int .i64 (M.optsC r p depth)) := by
 revert v_r; apply opn
 revert v_p; apply opn
 intro A1 c1 h1 bl1 bh1 A2 c2 h2 bl2 bh2
 refine enter @Tryz.func160 @Tryz.ntmps160 rfl rfl ?_
 refine zent ?_
 refine zS <| zb rfl fun b3 => zb rfl fun b4 => Qa rfl <| zJ <| zS <| Q9 1 rfl rfl ?_
 refine Q9 0 rfl rfl ?_
 refine zv rfl (fun w hw => c_impl_ValidPosition r p (ok_ hw) (ok_ hw)) <| Qm rfl <| zg (Gd.t1 rfl rfl rfl) (fun hc => p_move rfl) <| zg (Gd.t1 rfl rfl rfl) (fun hc => p_eql (gh hc rfl) rfl) <| Qq (p_pickAnd rfl rfl rfl) <| JL.nil ?_
 refine zi (fun h5 h5' => ?_) fun h5 h5' => ?_
 ·
  have hE := M.optsC_2 (r := r) (p := p) (depth := depth) (by simpa using h5)
  refine zS <| Qa rfl <| JL.nil ?_
  refine zR (Up.refl _ _) ?_
  rw [hE]; rfl
 have hE := M.optsC_s (r := r) (p := p) (depth := depth) (by rintro ⟨a, b⟩; simp [a, b] at h5)
 refine Js.skip <| zS <| Q9 1 rfl rfl ?_
 refine Q9 0 rfl rfl ?_
 refine Qm rfl <| zv rfl (fun w hw => c_impl_searchCode r p depth (ok_ hw) (ok_ hw)) <| Qa rfl <| JL.nil ?_
 refine zR (Up.refl _ _) ?_
 rw [hE]; rfl

set_option maxHeartbeats 1000000 in
theorem c_impl_SearchOptions (r : M.Rul) {v_r : Value} (p : M.Pos) {v_p : Value} (depth : Int) {w : World} (h_r : (Ty.agg (cRules r)).ok w v_r) (h_p : (Ty.agg (cPosition p)).ok w v_p) (r0 : p.pits.length ≤ 4194304 := by exact om_) (r1 : p.stores.length ≤ 4194304 := by exact om_) : Ret Tryz.prog 122 [v_r, v_p, .int .i64 depth] w (Ty.tup [Ty.sl 153 2 (M.optsR r p depth).length (lOption (M.optsR r p depth)), Ty.int (M.optsC r p depth)]) := by
 revert v_r; apply opn
 revert v_p; apply opn
 intro A1 c1 h1 bl1 bh1 A2 c2 h2 bl2 bh2
 refine enter @Tryz.func122 @Tryz.ntmps122 rfl rfl ?_
 refine zent ?_
 refine zS <| zb rfl fun b3 => zb rfl fun b4 => Qa rfl <| Qa rfl <| zJ <| zS <| Q9 1 rfl rfl ?_
 refine Q9 0 rfl rfl ?_
 refine Qm rfl <| zv rfl (fun w hw => c_impl_optionsCode r p depth (ok_ hw) (ok_ hw)) <| Qa rfl <| zN <| Qm rfl <| Qd rfl rfl <| JL.nil ?_
 refine zi (fun h5 h5' => ?_) fun h5 h5' => ?_
 ·
  have hE := M.optsR_no (r := r) (p := p) (depth := depth) (by simpa using h5)
  have hq0 : [] = M.optsR r p depth := by first | (rw [hE]; done) | (rw [hz]; done)
  refine zS <| Qm rfl <| Qa rfl <| Qa rfl <| JL.nil ?_
  exact zro (Up.refl _ _)
 have hz : M.optsC r p depth = 0 := by simpa using h5
 have ho := M.optsC_ok hz
 have hE := M.optsR_yes hz
 refine Js.skip <| zS <| Q9 1 rfl rfl ?_
 refine Q9 0 rfl rfl ?_
 refine Qm rfl <| zcs rfl (fun w hw => c_impl_Rules_options r p depth (ok_ hw) (ok_ hw) (r0 := ho.1)) ?_
 intro A6 c6 vs6 f6 bl6 bh6
 have hq0 : (M.opts r p depth) = M.optsR r p depth := by first | (rw [hE]; done) | (rw [hz]; done)
 have hq1 : 0 = M.optsC r p depth := by first | (rw [hE]; done) | (rw [hz]; done)
 refine Qa rfl <| Qa rfl <| JL.nil ?_
 exact zro (Up.refl _ _)

set_option maxHeartbeats 1000000 in
theorem c_impl_bestOption (list : List M.Opt) {v_list : Value} {w : World} (h_list : (Ty.sl 153 2 list.length (lOption list)).ok w v_list) (r0 : list.length ≠ 0 := by exact om_) (r1 : list.length ≤ 4194304 := by exact om_) : Ret Tryz.prog 123 [v_list] w (Ty.agg (cOption (M.bOpt list))) := by
 revert v_list; apply opn
 intro A1 c1 h1 bl1 bh1
 have h_list := h1
 refine enter @Tryz.func123 @Tryz.ntmps123 rfl rfl ?_
 refine zent ?_
 obtain ⟨y3, hy3⟩ : ∃ x, list[0]? = some x := ⟨_, List.getElem?_eq_getElem (by omega)⟩
 obtain ⟨b3, o3, he3, hr3⟩ := elem_Option h1 hy3
 refine zS <| za zeh fun b2 => zN <| Qm rfl <| Qq (p_indexAddr el_149 rfl rfl (by omega) (by omega) he3) <| QS 0 hr3 rfl ?_
 refine za zeh fun b4 => zw 0 rfl rfl rfl ?_
 refine zJ <| zS <| Qm rfl <| Qz rfl <| Qm rfl <| JL.nil <| Js.block ?_
 refine zl [2, 3, 9, 10] (fun F U l os u m => ∃ (k : Nat) (b : M.Opt), l = F [(11, .int .i64 (k : Int))] ∧ os = U [some (boxO b4 [.int .i64 b.move, .int .i64 b.value] 153)] ∧ (M.bOptF b (list.drop k) = M.bOpt list) ∧ (k ≤ list.length) ∧ m = list.length - k) ⟨0, y3, rfl, rfl, by exact M.bOpt_zero (by assumption), zt, rfl⟩ ?_
 rintro _ _ u5 _ ⟨k, b, rfl, rfl, hS, hk, rfl⟩ x5
 refine zn ?_
 refine zS <| Ql rfl rfl <| zJ ?_
 refine zi (fun h6 h6' => ?_) fun h6 h6' => ?_
 ·
  obtain ⟨y7, hy7⟩ : ∃ x, list[k]? = some x := ⟨_, List.getElem?_eq_getElem (by omega)⟩
  obtain ⟨b7, o7, he7, hr7⟩ := elem_Option (Ty.mono _ h1 x5.vis) hy7
  refine Js.skip <| Js.seq <| Js.block <| zS <| Qq (p_indexAddr el_149 rfl rfl (by omega) (by omega) he7) <| QS 0 hr7 rfl ?_
  refine za zeh fun b8 => zw 0 rfl rfl rfl ?_
  refine zN <| Qf fh rfl <| Q0 0 rfl rfl rfl <| Qf fh rfl <| Q0 1 rfl rfl rfl <| Qg rfl rfl <| JL.nil ?_
  refine zi (fun h9 h9' => ?_) fun h9 h9' => ?_
  ·
   have hS2 := M.bOptF_y hS hy7 (by simpa using h9)
   refine Js.region <| Q9 0 rfl rfl ?_
   refine zw 1 rfl rfl rfl ?_
   refine JL.nil <| Js.blockEnd <| Js.region <| Qp rfl rfl <| Qm rfl <| JL.nil ?_
   refine zd [1, 1] rfl fun u10 x10 => ?_
   exact zag ⟨k + 1, y7, rfl, rfl, by exact hS2, zt, rfl⟩ (x5.trans x10)
  have hS2 := M.bOptF_n hS hy7 (by simpa using h9)
  refine Js.skip <| Js.blockEnd <| Js.region <| Qp rfl rfl <| Qm rfl <| JL.nil ?_
  refine zd [1, 1] rfl fun u11 x11 => ?_
  exact zag ⟨k + 1, b, rfl, rfl, by exact hS2, zt, rfl⟩ (x5.trans x11)
 have hE := M.bOptF_e hS (by have := h6'; omega)
 refine zx ?_
 have hq0 : b.move = (M.bOpt list).move := by rw [hE]
 have hq1 : b.value = (M.bOpt list).value := by rw [hE]
 refine zS <| Q9 0 rfl rfl ?_
 refine zw 1 rfl rfl rfl ?_
 refine JL.nil ?_
 exact zro x5

end Go.Proofs.YtdhmdaoijnnfjaaGreatDoor

namespace Go.Proofs.YtdhmdaoijnnfjaaGreatDoor
open Go.RowKit

set_option maxHeartbeats 1000000 in
theorem c_impl_puzzleOf (r : M.Rul) {v_r : Value} (p : M.Pos) {v_p : Value} (depth : Int) {w : World} (h_r : (Ty.agg (cRules r)).ok w v_r) (h_p : (Ty.agg (cPosition p)).ok w v_p) (r0 : p.pits.length ≤ 4194304 := by exact om_) (r1 : p.stores.length ≤ 4194304 := by exact om_) : Ret Tryz.prog 70 [v_r, v_p, .int .i64 depth] w (Ty.tup [Ty.agg (cPuzzle ((M.puz r p depth).1)), Ty.int ((M.puz r p depth).2)]) := by
 revert v_r; apply opn
 revert v_p; apply opn
 intro A1 c1 h1 bl1 bh1 A2 c2 h2 bl2 bh2
 refine enter @Tryz.func70 @Tryz.ntmps70 rfl rfl ?_
 refine zent ?_
 refine zS <| zb rfl fun b3 => zb rfl fun b4 => za zeh fun b5 => Qa rfl <| zN <| Q9 2 rfl rfl ?_
 refine Q9 1 rfl rfl ?_
 refine Qm rfl <| zp rfl (fun w hw => c_impl_SearchOptions r p depth (ok_ hw) (ok_ hw)) ?_
 intro u6 x6 A7 c7 h7 bl7 bh7
 refine Qm rfl <| Qx rfl rfl <| Qx rfl rfl <| Qa rfl <| Qa rfl <| zJ <| zS <| Qm rfl <| Qd rfl rfl <| JL.nil ?_
 refine zi (fun h8 h8' => ?_) fun h8 h8' => ?_
 ·
  have hE := M.puz_c (r := r) (p := p) (depth := depth) (by simpa using h8)
  have hq0 : 0 = (((M.puz r p depth).1).rules).pits := by first | (rw [hE]; done) | (rw [hE]; rfl)
  have hq1 : 0 = (((M.puz r p depth).1).rules).seeds := by first | (rw [hE]; done) | (rw [hE]; rfl)
  have hq2 : false = (((M.puz r p depth).1).rules).stores := by first | (rw [hE]; done) | (rw [hE]; rfl)
  have hq3 : false = (((M.puz r p depth).1).rules).skip := by first | (rw [hE]; done) | (rw [hE]; rfl)
  have hq4 : false = (((M.puz r p depth).1).rules).relay := by first | (rw [hE]; done) | (rw [hE]; rfl)
  have hq5 : false = (((M.puz r p depth).1).rules).feed := by first | (rw [hE]; done) | (rw [hE]; rfl)
  have hq6 : false = (((M.puz r p depth).1).rules).again := by first | (rw [hE]; done) | (rw [hE]; rfl)
  have hq7 : 0 = (((M.puz r p depth).1).rules).capture := by first | (rw [hE]; done) | (rw [hE]; rfl)
  have hq8 : 0 = (((M.puz r p depth).1).rules).slam := by first | (rw [hE]; done) | (rw [hE]; rfl)
  have hq9 : [] = (((M.puz r p depth).1).position).pits := by first | (rw [hE]; done) | (rw [hE]; rfl)
  have hq10 : [] = (((M.puz r p depth).1).position).stores := by first | (rw [hE]; done) | (rw [hE]; rfl)
  have hq11 : 0 = (((M.puz r p depth).1).position).player := by first | (rw [hE]; done) | (rw [hE]; rfl)
  have hq12 : 0 = ((M.puz r p depth).1).depth := by first | (rw [hE]; done) | (rw [hE]; rfl)
  have hq13 : 0 = ((M.puz r p depth).1).move := by first | (rw [hE]; done) | (rw [hE]; rfl)
  have hq14 : 0 = ((M.puz r p depth).1).value := by first | (rw [hE]; done) | (rw [hE]; rfl)
  have hq15 : 0 = ((M.puz r p depth).1).margin := by first | (rw [hE]; done) | (rw [hE]; rfl)
  have hq16 : (M.optsC r p depth) = (M.puz r p depth).2 := by first | (rw [hE]; done) | (rw [hE]; rfl)
  refine zS <| Qb ?_
  refine Qm rfl <| zw 0 rfl rfl rfl ?_
  refine Qa rfl <| JL.nil ?_
  exact zro x6
 have hz : M.optsC r p depth = 0 := by simpa using h8
 have ho := M.optsC_ok hz
 have hR := M.optsR_yes hz
 have hrl := M.optsR_len r p depth
 have hol := M.opts_len r p depth
 have g8 := M.results_8 ho.1
 have hOb : ∀ x ∈ (M.optsR r p depth), -2000 ≤ x.value ∧ x.value ≤ 2000 := by rw [hR]; exact fun x hx => M.opts_bd ho.1 (by omega) ho.2.2.1 hx
 refine Js.skip <| Js.seq <| zS <| Qm rfl <| Qz rfl <| Ql rfl rfl <| JL.nil ?_
 refine zi (fun h9 h9' => ?_) fun h9 h9' => ?_
 ·
  have hE := M.puz_2 hz (by rw [← hR]; have := h9'; omega)
  have hq0 : 0 = (((M.puz r p depth).1).rules).pits := by first | (rw [hE]; done) | (rw [hE]; rfl)
  have hq1 : 0 = (((M.puz r p depth).1).rules).seeds := by first | (rw [hE]; done) | (rw [hE]; rfl)
  have hq2 : false = (((M.puz r p depth).1).rules).stores := by first | (rw [hE]; done) | (rw [hE]; rfl)
  have hq3 : false = (((M.puz r p depth).1).rules).skip := by first | (rw [hE]; done) | (rw [hE]; rfl)
  have hq4 : false = (((M.puz r p depth).1).rules).relay := by first | (rw [hE]; done) | (rw [hE]; rfl)
  have hq5 : false = (((M.puz r p depth).1).rules).feed := by first | (rw [hE]; done) | (rw [hE]; rfl)
  have hq6 : false = (((M.puz r p depth).1).rules).again := by first | (rw [hE]; done) | (rw [hE]; rfl)
  have hq7 : 0 = (((M.puz r p depth).1).rules).capture := by first | (rw [hE]; done) | (rw [hE]; rfl)
  have hq8 : 0 = (((M.puz r p depth).1).rules).slam := by first | (rw [hE]; done) | (rw [hE]; rfl)
  have hq9 : [] = (((M.puz r p depth).1).position).pits := by first | (rw [hE]; done) | (rw [hE]; rfl)
  have hq10 : [] = (((M.puz r p depth).1).position).stores := by first | (rw [hE]; done) | (rw [hE]; rfl)
  have hq11 : 0 = (((M.puz r p depth).1).position).player := by first | (rw [hE]; done) | (rw [hE]; rfl)
  have hq12 : 0 = ((M.puz r p depth).1).depth := by first | (rw [hE]; done) | (rw [hE]; rfl)
  have hq13 : 0 = ((M.puz r p depth).1).move := by first | (rw [hE]; done) | (rw [hE]; rfl)
  have hq14 : 0 = ((M.puz r p depth).1).value := by first | (rw [hE]; done) | (rw [hE]; rfl)
  have hq15 : 0 = ((M.puz r p depth).1).margin := by first | (rw [hE]; done) | (rw [hE]; rfl)
  have hq16 : 6 = (M.puz r p depth).2 := by first | (rw [hE]; done) | (rw [hE]; rfl)
  refine zS <| Qb ?_
  refine zw 0 rfl rfl rfl ?_
  refine Qa rfl <| JL.nil ?_
  exact zro x6
 have h2 : ¬ (M.optsR r p depth).length < 2 := by have := h9'; omega
 have hbb := hOb _ (M.bOpt_mem (l := (M.optsR r p depth)) (by omega))
 refine Js.skip <| zS <| Qm rfl <| zp rfl (fun w hw => c_impl_bestOption (M.optsR r p depth) (ok_ hw)) ?_
 intro u10 x10
 refine za zeh fun b11 => zw 0 rfl rfl rfl ?_
 refine Qa rfl <| zJ <| zS <| Qm rfl <| Qz rfl <| Qm rfl <| JL.nil <| Js.block ?_
 refine zl [2, 3, 4, 6, 10, 31, 32] (fun F U l os u m => ∃ (k : Nat) (s : Int), l = F [(11, .int .i64 s), (33, .int .i64 (k : Int))] ∧ os = U [] ∧ (M.second (M.bOpt (M.optsR r p depth)).move s ((M.optsR r p depth).drop k) = M.second (M.bOpt (M.optsR r p depth)).move (-1000) (M.optsR r p depth)) ∧ (-2000 ≤ s) ∧ (s ≤ 2000) ∧ (k ≤ (M.optsR r p depth).length) ∧ m = (M.optsR r p depth).length - k) ⟨0, (-1000), rfl, rfl, by rfl, zt, zt, zt, rfl⟩ ?_
 rintro _ _ u12 _ ⟨k, s, rfl, rfl, hS, s0, s1, hk, rfl⟩ x12
 refine zn ?_
 refine zS <| Ql rfl rfl <| zJ ?_
 refine zi (fun h13 h13' => ?_) fun h13 h13' => ?_
 ·
  obtain ⟨y14, hy14⟩ : ∃ x, (M.optsR r p depth)[k]? = some x := ⟨_, List.getElem?_eq_getElem (by omega)⟩
  obtain ⟨b14, o14, he14, hr14⟩ := elem_Option (Ty.mono _ h7 (x10.vis.trans x12.vis)) hy14
  refine Js.skip <| Js.seq <| Js.block <| zS <| Qq (p_indexAddr el_149 rfl rfl (by omega) (by omega) he14) <| QS 0 hr14 rfl ?_
  refine za zeh fun b15 => zw 0 rfl rfl rfl ?_
  refine zN <| Qf fh rfl <| Q0 0 rfl rfl rfl <| Qf fh rfl <| Q0 1 rfl rfl rfl <| Qd rfl rfl <| JL.nil ?_
  refine zi (fun h16 h16' => ?_) fun h16 h16' => ?_
  ·
   have hob := hOb _ (List.mem_of_getElem? hy14)
   have hS2 := M.second_s hS hy14
   rw [if_neg (by simpa using h16)] at hS2
   refine Js.region <| Qm rfl <| Qf fh rfl <| Q0 0 rfl rfl rfl <| Qq (p_max rfl rfl) <| Qa rfl <| JL.nil <| Js.blockEnd <| Js.region <| Qp rfl rfl <| Qm rfl <| JL.nil ?_
   refine zd [1, 1, 1, 1] rfl fun u17 x17 => ?_
   exact zag ⟨k + 1, if s < y14.value then y14.value else s, rfl, rfl, by exact hS2, by first | omega | (split <;> omega), by first | omega | (split <;> omega), zt, rfl⟩ (x12.trans x17)
  have hS2 := M.second_s hS hy14
  rw [if_pos (by simpa using h16)] at hS2
  refine Js.skip <| Js.blockEnd <| Js.region <| Qp rfl rfl <| Qm rfl <| JL.nil ?_
  refine zd [1, 1, 1, 1] rfl fun u18 x18 => ?_
  exact zag ⟨k + 1, s, rfl, rfl, by exact hS2, by first | omega | (split <;> omega), by first | omega | (split <;> omega), zt, rfl⟩ (x12.trans x18)
 have hS3 := M.second_e hS (by have := h13'; omega)
 refine zx ?_
 refine Js.seq <| zS <| Qm rfl <| Qf fh rfl <| Q0 0 rfl rfl rfl <| Qe rfl rfl <| JL.nil ?_
 refine zi (fun h19 h19' => ?_) fun h19 h19' => ?_
 ·
  have hE := M.puz_6 hz (by rw [← hR]; exact h2) (by rw [← hR, ← hS3]; simpa using h19)
  have hq0 : 0 = (((M.puz r p depth).1).rules).pits := by first | (rw [hE]; done) | (rw [hE]; rfl)
  have hq1 : 0 = (((M.puz r p depth).1).rules).seeds := by first | (rw [hE]; done) | (rw [hE]; rfl)
  have hq2 : false = (((M.puz r p depth).1).rules).stores := by first | (rw [hE]; done) | (rw [hE]; rfl)
  have hq3 : false = (((M.puz r p depth).1).rules).skip := by first | (rw [hE]; done) | (rw [hE]; rfl)
  have hq4 : false = (((M.puz r p depth).1).rules).relay := by first | (rw [hE]; done) | (rw [hE]; rfl)
  have hq5 : false = (((M.puz r p depth).1).rules).feed := by first | (rw [hE]; done) | (rw [hE]; rfl)
  have hq6 : false = (((M.puz r p depth).1).rules).again := by first | (rw [hE]; done) | (rw [hE]; rfl)
  have hq7 : 0 = (((M.puz r p depth).1).rules).capture := by first | (rw [hE]; done) | (rw [hE]; rfl)
  have hq8 : 0 = (((M.puz r p depth).1).rules).slam := by first | (rw [hE]; done) | (rw [hE]; rfl)
  have hq9 : [] = (((M.puz r p depth).1).position).pits := by first | (rw [hE]; done) | (rw [hE]; rfl)
  have hq10 : [] = (((M.puz r p depth).1).position).stores := by first | (rw [hE]; done) | (rw [hE]; rfl)
  have hq11 : 0 = (((M.puz r p depth).1).position).player := by first | (rw [hE]; done) | (rw [hE]; rfl)
  have hq12 : 0 = ((M.puz r p depth).1).depth := by first | (rw [hE]; done) | (rw [hE]; rfl)
  have hq13 : 0 = ((M.puz r p depth).1).move := by first | (rw [hE]; done) | (rw [hE]; rfl)
  have hq14 : 0 = ((M.puz r p depth).1).value := by first | (rw [hE]; done) | (rw [hE]; rfl)
  have hq15 : 0 = ((M.puz r p depth).1).margin := by first | (rw [hE]; done) | (rw [hE]; rfl)
  have hq16 : 6 = (M.puz r p depth).2 := by first | (rw [hE]; done) | (rw [hE]; rfl)
  refine zS <| Qb ?_
  refine zw 1 rfl rfl rfl ?_
  refine Qa rfl <| JL.nil ?_
  exact zro ((x6.trans x10).trans x12)
 have hE := M.puz_0 hz (by rw [← hR]; exact h2) (by rw [← hR, ← hS3]; simpa using h19)
 rw [← hR, ← hS3] at hE
 refine Js.skip <| Js.seq ?_
 refine zdr [13] ?_
 refine JH.q 0 rfl (L9 3 rfl rfl) ?_
 refine JH.q 1 rfl (L9 2 rfl rfl) ?_
 refine JH.p 3 rfl (p_move rfl) ?_
 refine JH.p 4 rfl (p_fieldAddr fld_153_0.h rfl) ?_
 refine JH.q 5 rfl (q_load1 ty_2.h rfl (Mem.box (i := 0) rfl rfl)) ?_
 refine JH.p 6 rfl (p_fieldAddr fld_153_1.h rfl) ?_
 refine JH.q 7 rfl (q_load1 ty_2.h rfl (Mem.box (i := 0) rfl rfl)) ?_
 refine JH.p 8 rfl (p_fieldAddr fld_153_1.h rfl) ?_
 refine JH.q 9 rfl (q_load1 ty_2.h rfl (Mem.box (i := 0) rfl rfl)) ?_
 refine JH.p 10 rfl (p_move rfl) ?_
 refine JH.p 11 rfl (p_sub rfl rfl (IntWalk.i64_in _ (by omega))) ?_
 refine y1 2 ?_
 refine yc rfl rfl (fun w hw => c_impl_Position_copied p (ok_ hw)) ?_
 intro A21 c21 bl21 bh21 A22 c22 bl22 bh22
 refine JH.p 12 rfl (q_bld) ?_
 refine y1 13 ?_
 refine yst rfl rfl rfl ?_
 refine JH.p 14 rfl (p_assign rfl) ?_
 refine yd ?_
 have hq0 : r.pits = (((M.puz r p depth).1).rules).pits := by first | (rw [hE]; done) | (rw [hE]; rfl)
 have hq1 : r.seeds = (((M.puz r p depth).1).rules).seeds := by first | (rw [hE]; done) | (rw [hE]; rfl)
 have hq2 : r.stores = (((M.puz r p depth).1).rules).stores := by first | (rw [hE]; done) | (rw [hE]; rfl)
 have hq3 : r.skip = (((M.puz r p depth).1).rules).skip := by first | (rw [hE]; done) | (rw [hE]; rfl)
 have hq4 : r.relay = (((M.puz r p depth).1).rules).relay := by first | (rw [hE]; done) | (rw [hE]; rfl)
 have hq5 : r.feed = (((M.puz r p depth).1).rules).feed := by first | (rw [hE]; done) | (rw [hE]; rfl)
 have hq6 : r.again = (((M.puz r p depth).1).rules).again := by first | (rw [hE]; done) | (rw [hE]; rfl)
 have hq7 : r.capture = (((M.puz r p depth).1).rules).capture := by first | (rw [hE]; done) | (rw [hE]; rfl)
 have hq8 : r.slam = (((M.puz r p depth).1).rules).slam := by first | (rw [hE]; done) | (rw [hE]; rfl)
 have hq9 : p.pits = (((M.puz r p depth).1).position).pits := by first | (rw [hE]; done) | (rw [hE]; rfl)
 have hq10 : p.stores = (((M.puz r p depth).1).position).stores := by first | (rw [hE]; done) | (rw [hE]; rfl)
 have hq11 : p.player = (((M.puz r p depth).1).position).player := by first | (rw [hE]; done) | (rw [hE]; rfl)
 have hq12 : depth = ((M.puz r p depth).1).depth := by first | (rw [hE]; done) | (rw [hE]; rfl)
 have hq13 : ((M.bOpt (M.optsR r p depth)).move) = ((M.puz r p depth).1).move := by first | (rw [hE]; done) | (rw [hE]; rfl)
 have hq14 : ((M.bOpt (M.optsR r p depth)).value) = ((M.puz r p depth).1).value := by first | (rw [hE]; done) | (rw [hE]; rfl)
 have hq15 : (((M.bOpt (M.optsR r p depth)).value) - s) = ((M.puz r p depth).1).margin := by first | (rw [hE]; done) | (rw [hE]; rfl)
 have hq16 : 0 = (M.puz r p depth).2 := by first | (rw [hE]; done) | (rw [hE]; rfl)
 exact zro ((x6.trans x10).trans x12)

end Go.Proofs.YtdhmdaoijnnfjaaGreatDoor

namespace Go.Proofs.YtdhmdaoijnnfjaaGreatDoor
open Go.RowKit

set_option maxHeartbeats 1000000 in
theorem c_impl_joined (ns : List Int) {v_ns : Value} {w : World} (h_ns : (Ty.ints 2 ns).ok w v_ns) (h_tab : tabT.ok w undef) (r0 : ns.length ≤ 4194304 := by exact om_) (r1 : M.Rng ns := by exact om_) : RetV Tryz.prog 89 [v_ns] w (.string (sB (M.joinT ns))) := by
 revert v_ns; apply opn
 intro A1 c1 h1 bl1 bh1
 have h_ns := h1
 refine enter @Tryz.func89 @Tryz.ntmps89 rfl rfl ?_
 refine zent ?_
 refine zS <| Qa rfl <| zN <| Qa rfl <| zJ <| zS <| Qm rfl <| Qz rfl <| Qm rfl <| JL.nil <| Js.block ?_
 refine zl [6, 7] (fun F U l os u m => ∃ (k : Nat) (out : List UInt8), l = F [(3, .string (sB out)), (8, .int .i64 (k : Int))] ∧ os = U [] ∧ (out = M.joinN ns k) ∧ (k ≤ ns.length) ∧ m = ns.length - k) ⟨0, ([] : List UInt8), rfl, rfl, by rfl, zt, rfl⟩ ?_
 rintro _ _ u2 _ ⟨k, out, rfl, rfl, hJ, hk, rfl⟩ x2
 refine zn ?_
 have lb9 : LenB out 92274688 := ⟨M.joinN_big hJ (by omega)⟩
 obtain ⟨n1, n2⟩ := M.Rng.nth r1 k
 refine zS <| Ql rfl rfl <| zJ ?_
 refine zi (fun h3 h3' => ?_) fun h3 h3' => ?_
 ·
  obtain ⟨b4, o4, he4, hc4⟩ := ints_elem (Ty.mono _ h1 x2.vis) (i := k) (by omega)
  refine Js.skip <| Js.seq <| Js.block <| zS <| Qm rfl <| Qq (p_indexAddr el_24 rfl rfl (by omega) (by omega) he4) <| QC hc4 rfl <| Qa rfl <| Qa rfl <| zJ <| zS <| Qm rfl <| Qg rfl rfl <| JL.nil ?_
  refine zi (fun h5 h5' => ?_) fun h5 h5' => ?_
  ·
   have hJ2 := M.joinN_p hJ (by have := h5'; omega)
   refine Js.region <| Qm rfl <| Qq (q_cat rfl rfl) <| Qa rfl <| zG <| Qm rfl <| Qm rfl <| zv rfl (fun w hw => c_impl_Decimal (M.nth ns k) (ok_ hw)) <| Qq (q_cat rfl rfl) <| Qa rfl <| JL.nil <| Js.blockEnd <| Js.region <| Qp rfl rfl ?_
   refine Qm rfl <| JL.nil ?_
   exact zag ⟨k + 1, (out ++ ([44] : List UInt8)) ++ (M.dec (M.nth ns k)), rfl, rfl, by exact hJ2, zt, rfl⟩ x2
  have hJ2 := M.joinN_z hJ (by have := h5'; omega)
  refine Js.skip <| Js.region <| Qm rfl <| Qm rfl <| zv rfl (fun w hw => c_impl_Decimal (M.nth ns k) (ok_ hw)) <| Qq (q_cat rfl rfl) <| Qa rfl <| JL.nil <| Js.blockEnd <| Js.region <| Qp rfl rfl <| Qm rfl <| JL.nil ?_
  exact zag ⟨k + 1, out ++ (M.dec (M.nth ns k)), rfl, rfl, by exact hJ2, zt, rfl⟩ x2
 have hE := M.joinN_e hJ (by have := h3'; omega) hk
 refine zx ?_
 refine zS <| Qm rfl <| Qa rfl <| JL.nil ?_
 refine zR x2 ?_
 rw [hE]; rfl

set_option maxHeartbeats 1000000 in
theorem c_impl_PositionText (r : M.Rul) {v_r : Value} (p : M.Pos) {v_p : Value} {w : World} (h_r : (Ty.agg (cRules r)).ok w v_r) (h_p : (Ty.agg (cPosition p)).ok w v_p) (h_tab : tabT.ok w undef) (r0 : p.pits.length ≤ 4194304 := by exact om_) (r1 : p.stores.length ≤ 4194304 := by exact om_) : RetV Tryz.prog 48 [v_r, v_p] w (.string (sB (M.posTextR r p))) := by
 revert v_r; apply opn
 revert v_p; apply opn
 intro A1 c1 h1 bl1 bh1 A2 c2 h2 bl2 bh2
 refine enter @Tryz.func48 @Tryz.ntmps48 rfl rfl ?_
 refine zent ?_
 refine zS <| zb rfl fun b3 => zb rfl fun b4 => Qa rfl <| zJ <| zS <| Q9 1 rfl rfl ?_
 refine Q9 0 rfl rfl ?_
 refine zv rfl (fun w hw => c_impl_ValidPosition r p (ok_ hw) (ok_ hw)) <| Qt rfl <| JL.nil ?_
 refine zi (fun h5 h5' => ?_) fun h5 h5' => ?_
 ·
  have hno : M.okP r p = false := by simpa using h5
  have hE := M.posTextR_no hno
  refine zS <| Qa rfl <| JL.nil ?_
  refine zR (Up.refl _ _) ?_
  first | (rw [hE]; rfl) | (rw [hE, M.posText, ← hh]; simp [outV, List.take_of_length_le])
 have hok : M.okP r p = true := by simpa using h5
 have hE := M.posTextR_yes hok
 obtain ⟨g1, g2, g3, g4, g5, g6, g7⟩ := M.okP_bd hok
 have hh := M.half hok
 have lj1 : LenB (M.joinT (List.take (r.pits.toNat - 0) (List.drop 0 p.pits))) 352 := ⟨by have := M.joinT_len (List.take (r.pits.toNat - 0) (List.drop 0 p.pits)); rw [List.length_take, List.length_drop] at this; omega⟩
 have lj2 : LenB (M.joinT (List.take (p.pits.length - r.pits.toNat) (List.drop r.pits.toNat p.pits))) 352 := ⟨by have := M.joinT_len (List.take (p.pits.length - r.pits.toNat) (List.drop r.pits.toNat p.pits)); rw [List.length_take, List.length_drop] at this; omega⟩
 have lj3 : LenB (M.joinT p.stores) 352 := ⟨by have := M.joinT_len p.stores; omega⟩
 have ra := M.Rng.ok g6
 have rb := ((M.Rng.ok g5).drop 0).take (r.pits.toNat - 0)
 have rc := ((M.Rng.ok g5).drop r.pits.toNat).take (p.pits.length - r.pits.toNat)
 refine Js.skip <| Js.seq ?_
 refine zdr [] ?_
 refine JH.p 0 rfl (p_fieldAddr fld_33_2.h rfl) ?_
 refine JH.q 1 rfl (q_load1 ty_2.h rfl (Mem.box (i := 0) rfl rfl)) ?_
 refine JH.p 4 rfl (p_fieldAddr fld_33_0.h rfl) ?_
 refine JH.q 5 rfl (q_load1 ty_24.h rfl (Mem.box (i := 0) rfl rfl)) ?_
 refine JH.p 6 rfl (p_fieldAddr fld_32_0.h rfl) ?_
 refine JH.q 7 rfl (q_load1 ty_2.h rfl (Mem.box (i := 1) rfl rfl)) ?_
 have hs6 := ints_cut (a := 0) (b := r.pits.toNat) (m := c1) h1 (by omega) (by omega) (by omega) (by omega)
 have hl6 : ((p.pits.drop 0).take (r.pits.toNat - 0)).length = r.pits.toNat - 0 := by rw [List.length_take, List.length_drop]; omega
 refine JH.p 8 rfl (p_slice (lo' := 0) (hi' := r.pits.toNat) (mx' := c1) el_24 rfl rfl ⟨_, by rw [Int.toNat_of_nonneg (by omega)]; exact rfl, by omega⟩ rfl) ?_
 refine JH.p 12 rfl (p_fieldAddr fld_33_0.h rfl) ?_
 refine JH.q 13 rfl (q_load1 ty_24.h rfl (Mem.box (i := 0) rfl rfl)) ?_
 refine JH.p 14 rfl (p_fieldAddr fld_32_0.h rfl) ?_
 refine JH.q 15 rfl (q_load1 ty_2.h rfl (Mem.box (i := 1) rfl rfl)) ?_
 have hs7 := ints_cut (a := r.pits.toNat) (b := p.pits.length) (m := c1) h1 (by omega) (by omega) (by omega) (by omega)
 have hl7 : ((p.pits.drop r.pits.toNat).take (p.pits.length - r.pits.toNat)).length = p.pits.length - r.pits.toNat := by rw [List.length_take, List.length_drop]; omega
 refine JH.p 16 rfl (p_slice (lo' := r.pits.toNat) (hi' := p.pits.length) (mx' := c1) el_24 rfl rfl ⟨rfl, rfl⟩ ⟨_, by rw [Int.toNat_of_nonneg (by omega)]; exact rfl, by omega⟩) ?_
 refine JH.p 20 rfl (p_fieldAddr fld_33_1.h rfl) ?_
 refine JH.q 21 rfl (q_load1 ty_24.h rfl (Mem.box (i := 0) rfl rfl)) ?_
 refine y1 2 ?_
 refine yv rfl rfl (fun w hw => c_impl_Decimal p.player (ok_ hw)) ?_
 refine JH.p 3 rfl (q_cat rfl rfl) ?_
 refine y1 9 ?_
 refine yv rfl rfl (fun w hw => c_impl_joined ((p.pits.drop 0).take (r.pits.toNat - 0)) (ok_ hw) (ok_ hw) (r0 := (by first | omega | (simp only [List.length_take, List.length_drop]; omega))) (r1 := (by first | exact ra | exact rb | exact rc))) ?_
 refine JH.p 10 rfl (q_cat rfl rfl) ?_
 refine JH.p 11 rfl (q_cat rfl rfl) ?_
 refine y1 17 ?_
 refine yv rfl rfl (fun w hw => c_impl_joined ((p.pits.drop r.pits.toNat).take (p.pits.length - r.pits.toNat)) (ok_ hw) (ok_ hw) (r0 := (by first | omega | (simp only [List.length_take, List.length_drop]; omega))) (r1 := (by first | exact ra | exact rb | exact rc))) ?_
 refine JH.p 18 rfl (q_cat rfl rfl) ?_
 refine JH.p 19 rfl (q_cat rfl rfl) ?_
 refine y1 22 ?_
 refine yv rfl rfl (fun w hw => c_impl_joined p.stores (ok_ hw) (ok_ hw) (r0 := (by first | omega | (simp only [List.length_take, List.length_drop]; omega))) (r1 := (by first | exact ra | exact rb | exact rc))) ?_
 refine JH.p 23 rfl (q_cat rfl rfl) ?_
 refine JH.p 24 rfl (p_assign rfl) ?_
 refine yd ?_
 refine zR (Up.refl _ _) ?_
 first | (rw [hE]; rfl) | (rw [hE, M.posText, ← hh]; simp [outV, List.take_of_length_le])

end Go.Proofs.YtdhmdaoijnnfjaaGreatDoor

namespace Go.Proofs.YtdhmdaoijnnfjaaGreatDoor
open Go.RowKit

set_option maxHeartbeats 4000000 in
theorem c_impl_ReadPosition (r : M.Rul) {v_r : Value} (s : List UInt8) {w : World} (h_r : (Ty.agg (cRules r)).ok w v_r) (h_tab : tabT.ok w undef) (r0 : s.length ≤ 4000000 := by exact om_) : Ret Tryz.prog 69 [v_r, .string (sB s)] w (Ty.tup [Ty.agg (cPosition ((M.readP r s).1)), Ty.bool ((M.readP r s).2)]) := by
 revert v_r; apply opn
 refine enter @Tryz.func69 @Tryz.ntmps69 rfl rfl ?_
 refine zent ?_
 refine zS <| zb rfl fun b1 => za zeh fun b2 => Qa rfl <| zN <| Qm rfl <| zp rfl (fun w hw => c_impl_parts s) ?_
 intro u3 x3 A4 c4 h4 bl4 bh4
 refine Qa rfl <| zJ <| zS <| Qm rfl <| Qz rfl <| Qd rfl rfl <| JL.nil ?_
 refine zi (fun h5 h5' => ?_) fun h5 h5' => ?_
 ·
  have hE := M.readP_short (r := r) (s := s) (by have := h5'; omega)
  have hq0 : [] = ((M.readP r s).1).pits := by first | (rw [hE]; done) | (rw [hE]; rfl)
  have hq1 : [] = ((M.readP r s).1).stores := by first | (rw [hE]; done) | (rw [hE]; rfl)
  have hq2 : 0 = ((M.readP r s).1).player := by first | (rw [hE]; done) | (rw [hE]; rfl)
  have hq3 : false = (M.readP r s).2 := by first | (rw [hE]; done) | (rw [hE]; rfl)
  refine zS <| Qb ?_
  refine zw 0 rfl rfl rfl ?_
  refine Qa rfl <| JL.nil ?_
  exact zro x3
 have h3 : (M.split 32 s).length = 3 := by have := h5'; omega
 have hw0 : (M.split 32 s)[0]? = some (M.w3 s 0) := M.w3_get (by omega)
 have hw1 : (M.split 32 s)[1]? = some (M.w3 s 1) := M.w3_get (by omega)
 have hw2 : (M.split 32 s)[2]? = some (M.w3 s 2) := M.w3_get (by omega)
 have q0 := M.w3_len (s := s) (i := 0)
 have q1 := M.w3_len (s := s) (i := 1)
 have q2 := M.w3_len (s := s) (i := 2)
 have q3 := M.cutS_len (M.w3 s 1) [47]
 have q8 := M.cutS_len2 (M.w3 s 1) [47]
 have q4 := M.nums_len (M.cutS (M.w3 s 1) [47]).1
 have q5 := M.nums_len (M.cutS (M.w3 s 1) [47]).2.1
 have q6 := M.nums_len (M.w3 s 2)
 have q9 : ((M.nums (M.cutS (M.w3 s 1) [47]).1).1 ++ (M.nums (M.cutS (M.w3 s 1) [47]).2.1).1).length ≤ 4194304 := by rw [List.length_append]; omega
 have hy6 := hw0
 obtain ⟨b6, o6, he6, hc6⟩ := strs_elem h4 hy6
 have hy7 := hw1
 obtain ⟨b7, o7, he7, hc7⟩ := strs_elem h4 hy7
 refine Js.skip <| zS <| Qm rfl <| Qq (p_indexAddr el_87 rfl rfl (by omega) (by omega) he6) <| QC hc6 rfl <| zv rfl (fun w hw => c_impl_ReadDecimal (M.w3 s 0) (ok_ hw)) <| Qm rfl <| Qx rfl rfl <| Qx rfl rfl <| Qa rfl <| Qa rfl <| zN <| Qm rfl <| Qq (p_indexAddr el_87 rfl rfl (by omega) (by omega) he7) ?_
 refine QC hc7 rfl <| zv rfl (fun w hw => c_impl_cut (M.w3 s 1) ([47] : List UInt8)) <| Qm rfl <| Qx rfl rfl <| Qx rfl rfl <| Qx rfl rfl <| Qa rfl <| Qa rfl <| Qa rfl <| zN <| Qm rfl <| zcs rfl (fun w hw => c_impl_readNumbers ((M.cutS (M.w3 s 1) ([47] : List UInt8)).1) (ok_ hw)) ?_
 intro A9 c9 bl9 bh9
 refine Qm rfl <| Qx rfl rfl <| Qx rfl rfl <| Qa rfl <| Qa rfl <| zN <| Qm rfl <| zcs rfl (fun w hw => c_impl_readNumbers ((M.cutS (M.w3 s 1) ([47] : List UInt8)).2.1) (ok_ hw)) ?_
 intro A11 c11 bl11 bh11
 have hy12 := hw2
 obtain ⟨b12, o12, he12, hc12⟩ := strs_elem h4 hy12
 refine Qm rfl <| Qx rfl rfl <| Qx rfl rfl <| Qa rfl <| Qa rfl <| zN <| Qm rfl <| Qq (p_indexAddr el_87 rfl rfl (by omega) (by omega) he12) <| QC hc12 rfl <| zcs rfl (fun w hw => c_impl_readNumbers (M.w3 s 2) (ok_ hw)) ?_
 intro A14 c14 bl14 bh14
 refine Qm rfl <| Qx rfl rfl <| Qx rfl rfl <| Qa rfl <| Qa rfl <| zJ <| zS <| Qm rfl <| Qt rfl <| Qm rfl <| zg (Gd.f1 rfl rfl rfl) (fun hc => p_move rfl) <| zg (Gd.f1 rfl rfl rfl) (fun hc => p_not (gh hc rfl)) <| Qq (p_pickOr rfl rfl rfl) <| Qm rfl ?_
 refine zg (Gd.f1 rfl rfl rfl) (fun hc => p_move rfl) <| zg (Gd.f1 rfl rfl rfl) (fun hc => p_not (gh hc rfl)) <| Qq (p_pickOr rfl rfl rfl) <| Qm rfl <| zg (Gd.f1 rfl rfl rfl) (fun hc => p_move rfl) <| zg (Gd.f1 rfl rfl rfl) (fun hc => p_not (gh hc rfl)) <| Qq (p_pickOr rfl rfl rfl) <| Qm rfl <| zg (Gd.f1 rfl rfl rfl) (fun hc => p_move rfl) <| zg (Gd.f1 rfl rfl rfl) (fun hc => p_not (gh hc rfl)) <| Qq (p_pickOr rfl rfl rfl) <| JL.nil ?_
 refine zi (fun h15 h15' => ?_) fun h15 h15' => ?_
 ·
  have hE := M.readP_first (r := r) (s := s) (by rintro ⟨f1, f2, f3, f4, f5⟩; have h9 := h15; rw [f1, f2, f3, f4, f5] at h9; simp at h9)
  have hq0 : [] = ((M.readP r s).1).pits := by first | (rw [hE]; done) | (rw [hE]; rfl)
  have hq1 : [] = ((M.readP r s).1).stores := by first | (rw [hE]; done) | (rw [hE]; rfl)
  have hq2 : 0 = ((M.readP r s).1).player := by first | (rw [hE]; done) | (rw [hE]; rfl)
  have hq3 : false = (M.readP r s).2 := by first | (rw [hE]; done) | (rw [hE]; rfl)
  refine zS <| Qb ?_
  refine zw 3 rfl rfl rfl ?_
  refine Qa rfl <| JL.nil ?_
  exact zro x3
 have hf5 : M.first5 s := by have h9 := h15; simp only [Bool.or_eq_false_iff, Bool.not_eq_false'] at h9; exact ⟨h9.1.1.1.1, h9.1.1.1.2, h9.1.1.2, h9.1.2, h9.2⟩
 refine Js.skip <| zS <| Qm rfl <| Qm rfl ?_
 refine JL.e (e_append (i := 2) (n' := (((M.nums ((M.cutS (M.w3 s 1) ([47] : List UInt8)).1)).1) ++ ((M.nums ((M.cutS (M.w3 s 1) ([47] : List UInt8)).2.1)).1)).length) (vs' := ints_ (((M.nums ((M.cutS (M.w3 s 1) ([47] : List UInt8)).1)).1) ++ ((M.nums ((M.cutS (M.w3 s 1) ([47] : List UInt8)).2.1)).1))) el_24 rfl rfl rfl rfl (src_rowG (i := 1) und_24 rfl (ints_one _)) (by omega) (by omega) (by first | omega | (simp only [List.length_append, List.length_cons, List.length_nil] <;> omega)) (by simp [ints_])) ?_
 rintro v16 _ _ ⟨⟨g17, rfl⟩, rfl⟩ _
 refine JL.fact (row_form' (i := 2) rfl) (fun hf18 => ?_)
 obtain ⟨A18, c18, rfl, bl18, bh18⟩ := hf18
 refine znl ?_
 have q10 : (M.Pos.mk ((M.nums (M.cutS (M.w3 s 1) [47]).1).1 ++ (M.nums (M.cutS (M.w3 s 1) [47]).2.1).1) (M.nums (M.w3 s 2)).1 (M.num (M.w3 s 0)).1).pits.length ≤ 4194304 := q9
 have q11 : (M.Pos.mk ((M.nums (M.cutS (M.w3 s 1) [47]).1).1 ++ (M.nums (M.cutS (M.w3 s 1) [47]).2.1).1) (M.nums (M.w3 s 2)).1 (M.num (M.w3 s 0)).1).stores.length ≤ 4194304 := by show (M.nums (M.w3 s 2)).1.length ≤ 4194304; omega
 refine Qm rfl <| Qm rfl <| Qb ?_
 refine za zeh fun b19 => zw 0 rfl rfl rfl ?_
 refine zJ <| zS <| Q9 5 rfl rfl ?_
 refine Q9 0 rfl rfl ?_
 refine zv rfl (fun w hw => c_impl_ValidPosition r (M.Pos.mk (((M.nums ((M.cutS (M.w3 s 1) ([47] : List UInt8)).1)).1) ++ ((M.nums ((M.cutS (M.w3 s 1) ([47] : List UInt8)).2.1)).1)) ((M.nums (M.w3 s 2)).1) ((M.num (M.w3 s 0)).1)) (ok_ hw) (ok_ hw)) <| Qt rfl <| Qm rfl <| zgq (Gd.f1 rfl rfl rfl) (fun hc => L9 5 rfl rfl) <| zgq (Gd.f1 rfl rfl rfl) (fun hc => L9 0 rfl rfl) <| zgv (Gd.f1 rfl rfl rfl) (fun hc => (opds_2 (gh hc rfl) (gh hc rfl))) (fun hc => (fun w hw => c_impl_PositionText r (M.Pos.mk (((M.nums ((M.cutS (M.w3 s 1) ([47] : List UInt8)).1)).1) ++ ((M.nums ((M.cutS (M.w3 s 1) ([47] : List UInt8)).2.1)).1)) ((M.nums (M.w3 s 2)).1) ((M.num (M.w3 s 0)).1)) (ok_ hw) (ok_ hw) (ok_ hw) (r0 := (by have hc9 := hc; (try simp only [Bool.not_eq_true', Bool.not_eq_false'] at hc9); omega)) (r1 := (by have hc9 := hc; (try simp only [Bool.not_eq_true', Bool.not_eq_false'] at hc9); omega)))) ?_
 refine zg (Gd.f1 rfl rfl rfl) (fun hc => p_move rfl) <| zg (Gd.f1 rfl rfl rfl) (fun hc => p_neqT und_9 (gh hc rfl) (gh hc rfl)) <| Qq (p_pickOr rfl rfl rfl) <| JL.nil ?_
 refine zi (fun h20 h20' => ?_) fun h20 h20' => ?_
 ·
  have hE := M.readP_bad (r := r) h3 hf5 (by have h9 := h20; change (!M.okP r (M.readQ s) || !decide (M.posTextR r (M.readQ s) = s)) = true at h9; simpa using h9)
  have hq0 : [] = ((M.readP r s).1).pits := by first | (rw [hE]; done) | (rw [hE]; rfl)
  have hq1 : [] = ((M.readP r s).1).stores := by first | (rw [hE]; done) | (rw [hE]; rfl)
  have hq2 : 0 = ((M.readP r s).1).player := by first | (rw [hE]; done) | (rw [hE]; rfl)
  have hq3 : false = (M.readP r s).2 := by first | (rw [hE]; done) | (rw [hE]; rfl)
  refine zS <| Qb ?_
  refine zw 4 rfl rfl rfl ?_
  refine Qa rfl <| JL.nil ?_
  exact zro x3
 have h8 : M.okP r (M.readQ s) = true ∧ M.posTextR r (M.readQ s) = s := by have h9 := h20; change (!M.okP r (M.readQ s) || !decide (M.posTextR r (M.readQ s) = s)) = false at h9; simpa using h9
 have hE := M.readP_good h3 hf5 h8.1 h8.2
 have hq0 : (((M.nums ((M.cutS (M.w3 s 1) ([47] : List UInt8)).1)).1) ++ ((M.nums ((M.cutS (M.w3 s 1) ([47] : List UInt8)).2.1)).1)) = ((M.readP r s).1).pits := by first | (rw [hE]; done) | (rw [hE]; rfl)
 have hq1 : ((M.nums (M.w3 s 2)).1) = ((M.readP r s).1).stores := by first | (rw [hE]; done) | (rw [hE]; rfl)
 have hq2 : ((M.num (M.w3 s 0)).1) = ((M.readP r s).1).player := by first | (rw [hE]; done) | (rw [hE]; rfl)
 have hq3 : true = (M.readP r s).2 := by first | (rw [hE]; done) | (rw [hE]; rfl)
 refine Js.skip <| zS <| Q9 0 rfl rfl ?_
 refine zw 4 rfl rfl rfl ?_
 refine Qa rfl <| JL.nil ?_
 exact zro x3

set_option maxHeartbeats 4000000 in
theorem c_impl_ReadPuzzle (r : M.Rul) {v_r : Value} (s : List UInt8) {w : World} (h_r : (Ty.agg (cRules r)).ok w v_r) (h_tab : tabT.ok w undef) (r0 : s.length ≤ 4000000 := by exact om_) : Ret Tryz.prog 26 [v_r, .string (sB s)] w (Ty.tup [Ty.agg (cPuzzle ((M.readZ r s).1)), Ty.bool ((M.readZ r s).2)]) := by
 have q3 := M.cutS_len s [32, 100, 101, 112, 116, 104, 32]
 revert v_r; apply opn
 refine enter @Tryz.func26 @Tryz.ntmps26 rfl rfl ?_
 refine zent ?_
 refine zS <| zb rfl fun b1 => za zeh fun b2 => Qa rfl <| zN <| Qm rfl <| zv rfl (fun w hw => c_impl_cut s ([32, 100, 101, 112, 116, 104, 32] : List UInt8)) <| Qm rfl <| Qx rfl rfl <| Qx rfl rfl <| Qx rfl rfl <| Qa rfl <| Qa rfl <| Qa rfl ?_
 refine zN <| Qm rfl <| zv rfl (fun w hw => c_impl_ReadDecimal ((M.cutS s ([32, 100, 101, 112, 116, 104, 32] : List UInt8)).2.1) (ok_ hw)) <| Qm rfl <| Qx rfl rfl <| Qx rfl rfl <| Qa rfl <| Qa rfl <| zN <| Q9 1 rfl rfl ?_
 refine Qm rfl <| zc rfl (fun w hw => c_impl_ReadPosition r ((M.cutS s ([32, 100, 101, 112, 116, 104, 32] : List UInt8)).1) (ok_ hw) (ok_ hw)) ?_
 intro A5 c5 bl5 bh5 A6 c6 bl6 bh6
 refine Qm rfl <| Qx rfl rfl <| Qx rfl rfl <| za zeh fun b7 => zw 0 rfl rfl rfl ?_
 refine Qa rfl <| zJ <| zS <| Qm rfl <| Qt rfl <| Qm rfl <| zg (Gd.f1 rfl rfl rfl) (fun hc => p_move rfl) <| zg (Gd.f1 rfl rfl rfl) (fun hc => p_not (gh hc rfl)) <| Qq (p_pickOr rfl rfl rfl) <| Qm rfl <| zg (Gd.f1 rfl rfl rfl) (fun hc => p_move rfl) <| zg (Gd.f1 rfl rfl rfl) (fun hc => p_not (gh hc rfl)) <| Qq (p_pickOr rfl rfl rfl) <| JL.nil ?_
 refine zi (fun h8 h8' => ?_) fun h8 h8' => ?_
 ·
  have hE := M.readZ_no (r := r) (s := s) (by have h9 := h8; change (!(M.cutS s M.depthT).2.2 || !(M.num (M.cutS s M.depthT).2.1).2 || !(M.readP r (M.cutS s M.depthT).1).2) = true at h9; unfold M.zIn; revert h9; cases (M.cutS s M.depthT).2.2 <;> cases (M.num (M.cutS s M.depthT).2.1).2 <;> cases (M.readP r (M.cutS s M.depthT).1).2 <;> simp)
  have hq0 : 0 = (((M.readZ r s).1).rules).pits := by first | (rw [hE]; done) | (rw [hE]; rfl)
  have hq1 : 0 = (((M.readZ r s).1).rules).seeds := by first | (rw [hE]; done) | (rw [hE]; rfl)
  have hq2 : false = (((M.readZ r s).1).rules).stores := by first | (rw [hE]; done) | (rw [hE]; rfl)
  have hq3 : false = (((M.readZ r s).1).rules).skip := by first | (rw [hE]; done) | (rw [hE]; rfl)
  have hq4 : false = (((M.readZ r s).1).rules).relay := by first | (rw [hE]; done) | (rw [hE]; rfl)
  have hq5 : false = (((M.readZ r s).1).rules).feed := by first | (rw [hE]; done) | (rw [hE]; rfl)
  have hq6 : false = (((M.readZ r s).1).rules).again := by first | (rw [hE]; done) | (rw [hE]; rfl)
  have hq7 : 0 = (((M.readZ r s).1).rules).capture := by first | (rw [hE]; done) | (rw [hE]; rfl)
  have hq8 : 0 = (((M.readZ r s).1).rules).slam := by first | (rw [hE]; done) | (rw [hE]; rfl)
  have hq9 : [] = (((M.readZ r s).1).position).pits := by first | (rw [hE]; done) | (rw [hE]; rfl)
  have hq10 : [] = (((M.readZ r s).1).position).stores := by first | (rw [hE]; done) | (rw [hE]; rfl)
  have hq11 : 0 = (((M.readZ r s).1).position).player := by first | (rw [hE]; done) | (rw [hE]; rfl)
  have hq12 : 0 = ((M.readZ r s).1).depth := by first | (rw [hE]; done) | (rw [hE]; rfl)
  have hq13 : 0 = ((M.readZ r s).1).move := by first | (rw [hE]; done) | (rw [hE]; rfl)
  have hq14 : 0 = ((M.readZ r s).1).value := by first | (rw [hE]; done) | (rw [hE]; rfl)
  have hq15 : 0 = ((M.readZ r s).1).margin := by first | (rw [hE]; done) | (rw [hE]; rfl)
  have hq16 : false = (M.readZ r s).2 := by first | (rw [hE]; done) | (rw [hE]; rfl)
  refine zS <| Qb ?_
  refine zw 3 rfl rfl rfl ?_
  refine Qa rfl <| JL.nil ?_
  exact zro (Up.refl _ _)
 have hz : M.zIn r s = true := by have h9 := h8; change (!(M.cutS s M.depthT).2.2 || !(M.num (M.cutS s M.depthT).2.1).2 || !(M.readP r (M.cutS s M.depthT).1).2) = false at h9; unfold M.zIn; revert h9; cases (M.cutS s M.depthT).2.2 <;> cases (M.num (M.cutS s M.depthT).2.1).2 <;> cases (M.readP r (M.cutS s M.depthT).1).2 <;> simp
 have hE := M.readZ_yes hz
 have hok := M.readP_ok (M.zIn_p hz)
 have hlo : (M.readP r (M.cutS s [32, 100, 101, 112, 116, 104, 32]).1).1.pits.length ≤ 4194304 ∧ (M.readP r (M.cutS s [32, 100, 101, 112, 116, 104, 32]).1).1.stores.length ≤ 4194304 := M.okP_len hok.1
 refine Js.skip <| zS <| Q9 4 rfl rfl ?_
 refine Q9 0 rfl rfl ?_
 refine Qm rfl <| zc rfl (fun w hw => c_impl_puzzleOf r ((M.readP r ((M.cutS s ([32, 100, 101, 112, 116, 104, 32] : List UInt8)).1)).1) ((M.num ((M.cutS s ([32, 100, 101, 112, 116, 104, 32] : List UInt8)).2.1)).1) (ok_ hw) (ok_ hw)) ?_
 intro A11 c11 bl11 bh11 A12 c12 bl12 bh12
 have hq0 : ((((M.puz r ((M.readP r ((M.cutS s ([32, 100, 101, 112, 116, 104, 32] : List UInt8)).1)).1) ((M.num ((M.cutS s ([32, 100, 101, 112, 116, 104, 32] : List UInt8)).2.1)).1)).1).rules).pits) = (((M.readZ r s).1).rules).pits := by first | (rw [hE]; done) | (rw [hE]; rfl)
 have hq1 : ((((M.puz r ((M.readP r ((M.cutS s ([32, 100, 101, 112, 116, 104, 32] : List UInt8)).1)).1) ((M.num ((M.cutS s ([32, 100, 101, 112, 116, 104, 32] : List UInt8)).2.1)).1)).1).rules).seeds) = (((M.readZ r s).1).rules).seeds := by first | (rw [hE]; done) | (rw [hE]; rfl)
 have hq2 : ((((M.puz r ((M.readP r ((M.cutS s ([32, 100, 101, 112, 116, 104, 32] : List UInt8)).1)).1) ((M.num ((M.cutS s ([32, 100, 101, 112, 116, 104, 32] : List UInt8)).2.1)).1)).1).rules).stores) = (((M.readZ r s).1).rules).stores := by first | (rw [hE]; done) | (rw [hE]; rfl)
 have hq3 : ((((M.puz r ((M.readP r ((M.cutS s ([32, 100, 101, 112, 116, 104, 32] : List UInt8)).1)).1) ((M.num ((M.cutS s ([32, 100, 101, 112, 116, 104, 32] : List UInt8)).2.1)).1)).1).rules).skip) = (((M.readZ r s).1).rules).skip := by first | (rw [hE]; done) | (rw [hE]; rfl)
 have hq4 : ((((M.puz r ((M.readP r ((M.cutS s ([32, 100, 101, 112, 116, 104, 32] : List UInt8)).1)).1) ((M.num ((M.cutS s ([32, 100, 101, 112, 116, 104, 32] : List UInt8)).2.1)).1)).1).rules).relay) = (((M.readZ r s).1).rules).relay := by first | (rw [hE]; done) | (rw [hE]; rfl)
 have hq5 : ((((M.puz r ((M.readP r ((M.cutS s ([32, 100, 101, 112, 116, 104, 32] : List UInt8)).1)).1) ((M.num ((M.cutS s ([32, 100, 101, 112, 116, 104, 32] : List UInt8)).2.1)).1)).1).rules).feed) = (((M.readZ r s).1).rules).feed := by first | (rw [hE]; done) | (rw [hE]; rfl)
 have hq6 : ((((M.puz r ((M.readP r ((M.cutS s ([32, 100, 101, 112, 116, 104, 32] : List UInt8)).1)).1) ((M.num ((M.cutS s ([32, 100, 101, 112, 116, 104, 32] : List UInt8)).2.1)).1)).1).rules).again) = (((M.readZ r s).1).rules).again := by first | (rw [hE]; done) | (rw [hE]; rfl)
 have hq7 : ((((M.puz r ((M.readP r ((M.cutS s ([32, 100, 101, 112, 116, 104, 32] : List UInt8)).1)).1) ((M.num ((M.cutS s ([32, 100, 101, 112, 116, 104, 32] : List UInt8)).2.1)).1)).1).rules).capture) = (((M.readZ r s).1).rules).capture := by first | (rw [hE]; done) | (rw [hE]; rfl)
 have hq8 : ((((M.puz r ((M.readP r ((M.cutS s ([32, 100, 101, 112, 116, 104, 32] : List UInt8)).1)).1) ((M.num ((M.cutS s ([32, 100, 101, 112, 116, 104, 32] : List UInt8)).2.1)).1)).1).rules).slam) = (((M.readZ r s).1).rules).slam := by first | (rw [hE]; done) | (rw [hE]; rfl)
 have hq9 : ((((M.puz r ((M.readP r ((M.cutS s ([32, 100, 101, 112, 116, 104, 32] : List UInt8)).1)).1) ((M.num ((M.cutS s ([32, 100, 101, 112, 116, 104, 32] : List UInt8)).2.1)).1)).1).position).pits) = (((M.readZ r s).1).position).pits := by first | (rw [hE]; done) | (rw [hE]; rfl)
 have hq10 : ((((M.puz r ((M.readP r ((M.cutS s ([32, 100, 101, 112, 116, 104, 32] : List UInt8)).1)).1) ((M.num ((M.cutS s ([32, 100, 101, 112, 116, 104, 32] : List UInt8)).2.1)).1)).1).position).stores) = (((M.readZ r s).1).position).stores := by first | (rw [hE]; done) | (rw [hE]; rfl)
 have hq11 : ((((M.puz r ((M.readP r ((M.cutS s ([32, 100, 101, 112, 116, 104, 32] : List UInt8)).1)).1) ((M.num ((M.cutS s ([32, 100, 101, 112, 116, 104, 32] : List UInt8)).2.1)).1)).1).position).player) = (((M.readZ r s).1).position).player := by first | (rw [hE]; done) | (rw [hE]; rfl)
 have hq12 : (((M.puz r ((M.readP r ((M.cutS s ([32, 100, 101, 112, 116, 104, 32] : List UInt8)).1)).1) ((M.num ((M.cutS s ([32, 100, 101, 112, 116, 104, 32] : List UInt8)).2.1)).1)).1).depth) = ((M.readZ r s).1).depth := by first | (rw [hE]; done) | (rw [hE]; rfl)
 have hq13 : (((M.puz r ((M.readP r ((M.cutS s ([32, 100, 101, 112, 116, 104, 32] : List UInt8)).1)).1) ((M.num ((M.cutS s ([32, 100, 101, 112, 116, 104, 32] : List UInt8)).2.1)).1)).1).move) = ((M.readZ r s).1).move := by first | (rw [hE]; done) | (rw [hE]; rfl)
 have hq14 : (((M.puz r ((M.readP r ((M.cutS s ([32, 100, 101, 112, 116, 104, 32] : List UInt8)).1)).1) ((M.num ((M.cutS s ([32, 100, 101, 112, 116, 104, 32] : List UInt8)).2.1)).1)).1).value) = ((M.readZ r s).1).value := by first | (rw [hE]; done) | (rw [hE]; rfl)
 have hq15 : (((M.puz r ((M.readP r ((M.cutS s ([32, 100, 101, 112, 116, 104, 32] : List UInt8)).1)).1) ((M.num ((M.cutS s ([32, 100, 101, 112, 116, 104, 32] : List UInt8)).2.1)).1)).1).margin) = ((M.readZ r s).1).margin := by first | (rw [hE]; done) | (rw [hE]; rfl)
 have hq16 : (decide ((M.puz r ((M.readP r ((M.cutS s ([32, 100, 101, 112, 116, 104, 32] : List UInt8)).1)).1) ((M.num ((M.cutS s ([32, 100, 101, 112, 116, 104, 32] : List UInt8)).2.1)).1)).2 = 0)) = (M.readZ r s).2 := by first | (rw [hE]; done) | (rw [hE]; rfl)
 refine Qm rfl <| Qx rfl rfl <| Qx rfl rfl <| za zeh fun b13 => zw 0 rfl rfl rfl ?_
 refine Qa rfl <| zN <| Q9 0 rfl rfl ?_
 refine Qm rfl <| Qe rfl rfl <| zw 6 rfl rfl rfl ?_
 refine Qa rfl <| JL.nil ?_
 exact zro (Up.refl _ _)

end Go.Proofs.YtdhmdaoijnnfjaaGreatDoor

namespace Go.Proofs.YtdhmdaoijnnfjaaGreatDoor
open Go.RowKit

set_option maxHeartbeats 1000000 in
theorem c_spec_l01Dec (n : Int) {w : World} (r0 : -9223372036854775808 ≤ n := by exact om_) (r1 : n ≤ 9223372036854775807 := by exact om_) : RetV Tryz.prog 38 [.int .i64 n] w (.string (sB (M.dec n))) := by
 refine enter @Tryz.func38 @Tryz.ntmps38 rfl rfl ?_
 refine zent ?_
 refine zS <| Qa rfl <| zN <| zbs fun b1 => ?_
 refine Qa rfl <| zJ <| zS <| Qm rfl <| Qa rfl <| JL.nil <| Js.block ?_
 refine zl [0] (fun F U l os u m => ∃ (k : Int) (out : List UInt8) (A3_3 : Option Addr) (c3_3 : Nat) (g3_3 : List Nat), l = F [(3, .slice A3_3 out.length c3_3), (4, .int .i64 k)] ∧ os = U [some (rowO 5 1 (.slice A3_3 out.length c3_3) out.length (byt_ out) g3_3)] ∧ (M.DecI n k out) ∧ (-9223372036854775808 ≤ k) ∧ (k ≤ 9223372036854775807) ∧ (out.length ≤ c3_3) ∧ (c3_3 ≤ 9223372036854775807) ∧ m = k.natAbs) ⟨n, ([] : List UInt8), _, _, _, rfl, rfl, by exact M.DecI.zero n, zt, zt, zu, zu, rfl⟩ ?_
 rintro _ _ u3 _ ⟨k, out, A3_3, c3_3, g3_3, rfl, rfl, hD, hk0, hk1, f3_3, f3_4, rfl⟩ x3
 refine zn ?_
 obtain ⟨t1, t2, t3, t4⟩ := M.tdiv10_bd hk0 hk1
 have hol := hD.len r0 r1
 obtain ⟨t5, t6⟩ := M.tdiv10 k
 refine Js.seq <| zS <| Qm rfl <| Qd rfl rfl <| JL.nil ?_
 refine zi (fun h4 h4' => ?_) fun h4 h4' => ?_
 ·
  have hkn : k ≠ 0 := by simpa using h4
  refine Js.skip <| Js.seq <| Js.block <| zS <| Qm rfl <| Qq (p_rem rfl rfl (by omega) rfl) <| Qa rfl <| zJ <| zS <| Qm rfl <| Ql rfl rfl <| JL.nil ?_
  refine zi (fun h5 h5' => ?_) fun h5 h5' => ?_
  ·
   have hd9 := h5'
   have hD2 := hD.step (d := -k.tmod 10) hkn (by omega)
   have hu8 : ((M.u8 (48 + (-(k.tmod 10)))).toNat : Int) = 48 + (-(k.tmod 10)) := M.u8_val (by omega) (by omega)
   refine Js.region <| Qm rfl <| Qq (p_neg (r := -(k.tmod 10)) rfl (by rw [Int.zero_sub]; exact IntWalk.i64_in _ (by omega))) <| Qa rfl <| zG <| Qm rfl <| Qp rfl rfl <| Qq (p_conv @Tryz.underlying2 @Tryz.underlying5 rfl (IntWalk.u8_in _ (by omega))) <| zbs fun b6 => ?_
   refine Qm rfl ?_
   refine JL.e (e_append (i := 0) (n' := (([M.u8 (48 + (-(k.tmod 10)))] : List UInt8) ++ out).length) (vs' := byt_ (([M.u8 (48 + (-(k.tmod 10)))] : List UInt8) ++ out)) el_113 rfl rfl rfl rfl (src_rowG (i := 1) und_113 rfl (byt_one _)) (by omega) (by omega) (by first | omega | (simp only [List.length_append, List.length_cons, List.length_nil] <;> omega)) (by first | rfl | (simp [byt_, hu8]; done))) ?_
   rintro v9 _ _ ⟨⟨g10, rfl⟩, rfl⟩ _
   refine JL.fact (row_form' (i := 0) rfl) (fun hf11 => ?_)
   obtain ⟨A11, c11, rfl, bl11, bh11⟩ := hf11
   refine znl ?_
   refine Qa rfl <| JL.nil <| Js.blockEnd <| Js.region <| Qm rfl <| Qq (p_quo rfl rfl (by omega) (IntWalk.i64_in _ (by omega))) <| Qa rfl <| JL.nil ?_
   refine zd [0] rfl fun u12 x12 => ?_
   exact zag ⟨k.tdiv 10, ([M.u8 (48 + (-(k.tmod 10)))] : List UInt8) ++ out, _, _, _, rfl, rfl, by exact hD2, zt, zt, zu, zu, rfl⟩ (x3.trans x12)
  have hd9 := h5'
  have hD2 := hD.step (d := k.tmod 10) hkn (by omega)
  have hu15 : ((M.u8 (48 + (k.tmod 10))).toNat : Int) = 48 + (k.tmod 10) := M.u8_val (by omega) (by omega)
  refine Js.skip <| Js.region <| Qm rfl <| Qp rfl rfl <| Qq (p_conv @Tryz.underlying2 @Tryz.underlying5 rfl (IntWalk.u8_in _ (by omega))) <| zbs fun b13 => ?_
  refine Qm rfl ?_
  refine JL.e (e_append (i := 0) (n' := (([M.u8 (48 + (k.tmod 10))] : List UInt8) ++ out).length) (vs' := byt_ (([M.u8 (48 + (k.tmod 10))] : List UInt8) ++ out)) el_113 rfl rfl rfl rfl (src_rowG (i := 1) und_113 rfl (byt_one _)) (by omega) (by omega) (by first | omega | (simp only [List.length_append, List.length_cons, List.length_nil] <;> omega)) (by first | rfl | (simp [byt_, hu15]; done))) ?_
  rintro v16 _ _ ⟨⟨g17, rfl⟩, rfl⟩ _
  refine JL.fact (row_form' (i := 0) rfl) (fun hf18 => ?_)
  obtain ⟨A18, c18, rfl, bl18, bh18⟩ := hf18
  refine znl ?_
  refine Qa rfl <| JL.nil <| Js.blockEnd <| Js.region <| Qm rfl <| Qq (p_quo rfl rfl (by omega) (IntWalk.i64_in _ (by omega))) <| Qa rfl <| JL.nil ?_
  refine zd [0] rfl fun u19 x19 => ?_
  exact zag ⟨k.tdiv 10, ([M.u8 (48 + (k.tmod 10))] : List UInt8) ++ out, _, _, _, rfl, rfl, by exact hD2, zt, zt, zu, zu, rfl⟩ (x3.trans x19)
 have hk9 : k = 0 := by simpa using h4
 subst hk9
 refine zx ?_
 refine Js.seq <| zS <| Qm rfl <| Qz rfl <| Qe rfl rfl <| JL.nil ?_
 refine zi (fun h20 h20' => ?_) fun h20 h20' => ?_
 ·
  have hE := hD.done0 (by have := h20'; omega) r0 r1
  refine zS <| Qa rfl <| JL.nil ?_
  refine zR x3 ?_
  rw [hE]; rfl
 have hl9 : out.length ≠ 0 := by have := h20'; omega
 have lb9 : LenB out 20 := ⟨hol⟩
 refine Js.skip <| Js.seq <| zS <| Qm rfl <| Ql rfl rfl <| JL.nil ?_
 refine zi (fun h21 h21' => ?_) fun h21 h21' => ?_
 ·
  have hE := hD.neg hl9 (by simpa using h21) r0 r1
  refine zS <| Qm rfl <| Qw (q_toStr (i := 0) und_113 @Tryz.underlying5 und_9 rfl rfl) <| Qq (q_cat rfl rfl) <| Qa rfl <| JL.nil ?_
  refine zR x3 ?_
  rw [hE]; rfl
 have hE := hD.pos hl9 (by simpa using h21) r0 r1
 refine Js.skip <| zS <| Qm rfl <| Qw (q_toStr (i := 0) und_113 @Tryz.underlying5 und_9 rfl rfl) <| Qa rfl <| JL.nil ?_
 refine zR x3 ?_
 rw [hE]; rfl

end Go.Proofs.YtdhmdaoijnnfjaaGreatDoor

namespace Go.Proofs.YtdhmdaoijnnfjaaGreatDoor
open Go.RowKit

set_option maxHeartbeats 1000000 in
theorem c_spec_l01Split (t : List UInt8) (b : Int) {w : World} (r0 : t.length ≤ 4194304 := by exact om_) (r1 : 0 ≤ b := by exact om_) (r2 : b ≤ 255 := by exact om_) : Ret Tryz.prog 63 [.string (sB t), .int .u8 b] w (Ty.strs 9 (M.split (M.u8 b) t)) := by
 refine enter @Tryz.func63 @Tryz.ntmps63 rfl rfl ?_
 refine zent ?_
 refine zS <| Qa rfl <| zN <| zbs fun b1 => ?_
 refine Qa rfl <| zN <| Qa rfl <| zJ <| zS <| Qa rfl <| JL.nil <| Js.block ?_
 refine zl [0, 1] (fun F U l os u m => ∃ (k f : Nat) (out : List (List UInt8)) (A3_5 : Option Addr) (c3_5 : Nat) (g3_5 : List Nat), l = F [(5, .slice A3_5 out.length c3_5), (6, .int .i64 (f : Int)), (7, .int .i64 (k : Int))] ∧ os = U [some (rowO 9 1 (.slice A3_5 out.length c3_5) out.length (txs_ out) g3_5)] ∧ (M.SplI (M.u8 b) t f k out) ∧ (k ≤ t.length) ∧ (out.length ≤ c3_5) ∧ (c3_5 ≤ 9223372036854775807) ∧ m = t.length - k) ⟨0, 0, [], _, _, _, rfl, rfl, by exact M.SplI.zero _ _, zt, zu, zu, rfl⟩ ?_
 rintro _ _ u3 _ ⟨k, f, out, A3_5, c3_5, g3_5, rfl, rfl, hS, hk, f3_2, f3_3, rfl⟩ x3
 refine zn ?_
 have hl1 := hS.l
 have hl2 := hS.len
 have hl3 := M.split_len (M.u8 b) t
 refine Js.seq <| zS <| Qm rfl <| Qm rfl <| Qq (p_lenS und_9 rfl) <| Ql rfl rfl <| JL.nil ?_
 refine zi (fun h4 h4' => ?_) fun h4 h4' => ?_
 ·
  have hbt5 := M.bat_bd t k
  refine Js.skip <| Js.seq <| Js.block <| zS <| Qm rfl <| Qm rfl <| Qq (p_byteS (i := k) und_9 rfl rfl (by omega)) <| Qm rfl <| Qe rfl rfl <| JL.nil ?_
  refine zi (fun h6 h6' => ?_) fun h6 h6' => ?_
  ·
   have hS2 := hS.hit (b := b) (by omega) (by simpa using h6)
   refine zS <| Qm rfl <| Qm rfl <| Qm rfl <| Qm rfl <| Qq (p_midS (i := f) (j := k) und_9 rfl rfl rfl (by omega) (by omega)) <| zbs fun b7 => ?_
   refine JL.e (e_append (i := 1) (n' := (out ++ [(t.drop f).take (k - f)]).length) (vs' := txs_ (out ++ [(t.drop f).take (k - f)])) el_87 rfl rfl rfl rfl (src_row (i := 0) und_87 rfl rfl) (by omega) (by omega) (by first | omega | (simp only [List.length_append, List.length_cons, List.length_nil] <;> omega)) (by first | rfl | (simp [txs_]; done))) ?_
   rintro v9 _ _ ⟨⟨g10, rfl⟩, rfl⟩ _
   refine JL.fact (row_form' (i := 1) rfl) (fun hf11 => ?_)
   obtain ⟨A11, c11, rfl, bl11, bh11⟩ := hf11
   refine znl ?_
   refine Qa rfl <| zG <| Qm rfl <| Qp rfl rfl <| Qa rfl <| JL.nil <| Js.blockEnd <| Js.region <| Qm rfl <| Qp rfl rfl <| Qa rfl <| JL.nil ?_
   refine zd [1] rfl fun u12 x12 => ?_
   exact zag ⟨k + 1, k + 1, out ++ [(t.drop f).take (k - f)], _, _, _, rfl, rfl, by exact hS2, zt, zu, zu, rfl⟩ (x3.trans x12)
  have hS2 := hS.miss (b := b) (by omega) r1 r2 (by simpa using h6)
  refine Js.skip <| Js.blockEnd <| Js.region <| Qm rfl <| Qp rfl rfl <| Qa rfl <| JL.nil ?_
  exact zag ⟨k + 1, f, out, _, _, _, rfl, rfl, by exact hS2, zt, zu, zu, rfl⟩ x3
 have hE := hS.done (by have := h4'; omega)
 have hl1 := hS.l
 have hl2 := hS.len
 have hl3 := M.split_len (M.u8 b) t
 refine zx ?_
 refine zS <| Qm rfl <| Qm rfl <| Qm rfl <| Qq (p_dropS (i := f) und_9 rfl rfl (by omega)) <| zbs fun b13 => ?_
 refine JL.e (e_append (i := 1) (n' := (out ++ [t.drop f]).length) (vs' := txs_ (out ++ [t.drop f])) el_87 rfl rfl rfl rfl (src_row (i := 0) und_87 rfl rfl) (by omega) (by omega) (by first | omega | (simp only [List.length_append, List.length_cons, List.length_nil] <;> omega)) (by first | rfl | (simp [txs_]; done))) ?_
 rintro v15 _ _ ⟨⟨g16, rfl⟩, rfl⟩ _
 refine JL.fact (row_form' (i := 1) rfl) (fun hf17 => ?_)
 obtain ⟨A17, c17, rfl, bl17, bh17⟩ := hf17
 refine znl ?_
 have hq0 : (out ++ [t.drop f]) = M.split (M.u8 b) t := by exact hE
 refine Qa rfl <| JL.nil ?_
 exact zro x3 (g := by exact (gv_strsE (ys := out ++ [t.drop f]) po_ (by assumption) (by rfl)))

set_option maxHeartbeats 1000000 in
theorem c_spec_l01Digit (c : Int) {w : World}  : RetV Tryz.prog 114 [.int .u8 c] w (.bool (M.isDig c)) := by
 refine enter @Tryz.func114 @Tryz.ntmps114 rfl rfl ?_
 refine zent ?_
 refine zS <| Qa rfl <| zN <| Qm rfl <| Qh rfl rfl <| Qm rfl <| zg (Gd.t1 rfl rfl rfl) (fun hc => p_move rfl) <| zg (Gd.t1 rfl rfl rfl) (fun hc => p_leq (gh hc rfl) rfl) <| Qq (p_pickAnd rfl rfl rfl) <| Qa rfl <| JL.nil ?_
 exact zr (Up.refl _ _)

set_option maxHeartbeats 1000000 in
theorem c_spec_l01Number (t : List UInt8) {w : World} (r0 : t.length ≤ 4194304 := by exact om_) : RetV Tryz.prog 65 [.string (sB t)] w (.tuple #[.int .i64 ((M.num t).1), .bool ((M.num t).2)]) := by
 refine enter @Tryz.func65 @Tryz.ntmps65 rfl rfl ?_
 refine zent ?_
 have hbt1 := M.bat_bd t 0
 refine zS <| Qa rfl <| Qa rfl <| zN <| Qm rfl <| Qa rfl <| zJ <| zS <| Qm rfl <| Qq (p_neqT und_9 rfl rfl) <| Qm rfl <| zg (Gd.t1 rfl rfl rfl) (fun hc => p_move rfl) <| zg (Gd.t1 rfl rfl rfl) (fun hc => p_byteS (i := 0) und_9 (gh hc rfl) rfl (by first | have hc9 := hc; (try simp only [Bool.not_eq_true', decide_eq_false_iff_not] at hc9); omega | (have h9 := List.length_pos_iff.2 (by simpa using hc); omega))) ?_
 refine zg (Gd.t1 rfl rfl rfl) (fun hc => p_eql (gh hc rfl) rfl) <| Qq (p_pickAnd rfl rfl rfl) <| JL.nil ?_
 refine zi (fun h2 h2' => ?_) fun h2 h2' => ?_
 ·
  have hT : M.numT t = t.drop 1 := by have h9 := h2; simp at h9; exact M.numT_y h9.1 h9.2
  have hln : 1 ≤ t.length := by have h9 := h2; simp at h9; exact List.length_pos_iff.2 h9.1
  refine Js.region <| Qm rfl <| Qq (p_dropS (i := 1) und_9 rfl rfl (by omega)) <| Qa rfl <| zJ <| zS <| Qm rfl <| Qq (p_lenS und_9 rfl) <| Ql rfl rfl <| Qm rfl <| zg (Gd.f1 rfl rfl rfl) (fun hc => p_move rfl) <| zg (Gd.f1 rfl rfl rfl) (fun hc => p_lenS und_9 (gh hc rfl)) <| zg (Gd.f1 rfl rfl rfl) (fun hc => p_gtr (gh hc rfl) rfl) <| Qq (p_pickOr rfl rfl rfl) ?_
  refine JL.nil ?_
  refine zi (fun h3 h3' => ?_) fun h3 h3' => ?_
  ·
   have hE := M.num_len (s := t) (by rw [hT]; have h9 := h3; simp at h9; omega)
   refine zS <| Qa rfl <| Qa rfl <| JL.nil ?_
   refine zR (Up.refl _ _) ?_
   first | (rw [hE]; rfl) | (rw [hE, hS]; rfl)
  have hl9 : ¬ ((M.numT t).length < 1 ∨ 18 < (M.numT t).length) := by rw [hT]; have h9 := h3; simp at h9; omega
  refine Js.skip <| zS <| Qa rfl <| zJ <| zS <| Qa rfl <| JL.nil <| Js.block ?_
  refine zl [0, 4] (fun F U l os u m => ∃ (k : Nat) (n : Int), l = F [(5, .int .i64 n), (6, .int .i64 (k : Int))] ∧ os = U [] ∧ (n = M.numN (M.numT t) k) ∧ (M.Digs (M.numT t) k) ∧ (k ≤ (M.numT t).length) ∧ m = (M.numT t).length - k) ⟨0, 0, rfl, rfl, by rfl, by exact M.Digs.zero _, zt, rfl⟩ ?_
  rintro _ _ u4 _ ⟨k, n, rfl, rfl, hN, hD, hk, rfl⟩ x4
  refine zn ?_
  obtain ⟨n1, n2⟩ := M.numN_18 hD (by omega)
  rw [← hN] at n1 n2
  refine Js.seq <| zS <| Qm rfl <| Qm rfl <| Qq (p_lenS und_9 rfl) <| Ql rfl rfl <| JL.nil ?_
  refine zi (fun h5 h5' => ?_) fun h5 h5' => ?_
  ·
   have hkk : k < (M.numT t).length := by rw [hT]; have := h5'; omega
   obtain ⟨n3, n4⟩ := M.numN_17 hD (by omega)
   rw [← hN] at n3 n4
   have hbt6 := M.bat_bd (t.drop 1) k
   refine Js.skip <| Js.seq <| Js.block <| Js.seq <| zS <| Qm rfl <| Qm rfl <| Qq (p_byteS (i := k) und_9 rfl rfl (by omega)) <| zv rfl (fun w hw => c_spec_l01Digit (M.bat (t.drop 1) k)) <| Qt rfl <| JL.nil ?_
   refine zi (fun h7 h7' => ?_) fun h7 h7' => ?_
   ·
    have hE := M.num_dig (M.digs_no hkk (by rw [hT]; simpa using h7))
    refine zS <| Qa rfl <| Qa rfl <| JL.nil ?_
    refine zR x4 ?_
    first | (rw [hE]; rfl) | (rw [hE, hS]; rfl)
   have hd : M.isDig (M.bat (M.numT t) k) = true := by rw [hT]; simpa using h7
   have hD2 := hD.step hd
   obtain ⟨d1, d2⟩ := M.dig_bd hd
   rw [hT] at d1 d2
   have hbt8 := M.bat_bd (t.drop 1) k
   refine Js.skip <| Js.region <| Qm rfl <| Qu rfl rfl <| Qm rfl <| Qm rfl <| Qq (p_byteS (i := k) und_9 rfl rfl (by omega)) <| Qq (p_sub rfl rfl (IntWalk.u8_in _ (by omega))) <| Qq (p_conv @Tryz.underlying5 @Tryz.underlying2 rfl (IntWalk.i64_in _ (by omega))) <| Qp rfl rfl <| Qa rfl <| JL.nil <| Js.blockEnd <| Js.region ?_
   refine Qm rfl <| Qp rfl rfl <| Qa rfl <| JL.nil ?_
   exact zag ⟨k + 1, (10 * n) + ((M.bat (t.drop 1) k) - 48), rfl, rfl, by rw [hN, M.numN, hT], by exact hD2, zt, rfl⟩ x4
  have hke : k = (M.numT t).length := Nat.le_antisymm hk (by rw [hT]; have := h5'; omega)
  have hdg := M.digs_yes hD (by omega)
  rw [hke] at hN
  refine zx ?_
  refine Js.seq <| zS <| Qm rfl <| Qq (p_lenS und_9 rfl) <| Qm rfl <| Qq (p_lenS und_9 rfl) <| Ql rfl rfl <| JL.nil ?_
  refine zi (fun h9 h9' => ?_) fun h9 h9' => ?_
  ·
   have hS : M.numS t = -n := by rw [hN]; exact M.numS_neg (by rw [hT]; have := h9'; omega)
   refine Js.region <| Qm rfl <| Qq (p_neg (r := -n) rfl (by rw [Int.zero_sub]; exact IntWalk.i64_in _ (by omega))) <| Qa rfl <| zJ <| zS <| Qm rfl <| zv rfl (fun w hw => c_spec_l01Dec (-n)) <| Qm rfl <| Qq (p_neqT und_9 rfl rfl) <| JL.nil ?_
   refine zi (fun h10 h10' => ?_) fun h10 h10' => ?_
   ·
    have hE := M.num_no (s := t) (by rw [hS]; simpa using h10)
    refine zS <| Qa rfl <| Qa rfl <| JL.nil ?_
    refine zR x4 ?_
    first | (rw [hE]; rfl) | (rw [hE, hS]; rfl)
   have hE := M.num_yes hl9 hdg (by rw [hS]; simpa using h10)
   refine Js.skip <| zS <| Qm rfl <| Qa rfl <| Qa rfl <| JL.nil ?_
   refine zR x4 ?_
   first | (rw [hE]; rfl) | (rw [hE, hS]; rfl)
  have hS : M.numS t = n := by rw [hN]; exact M.numS_pos (by rw [hT]; have := h9'; omega)
  refine Js.skip <| Js.seq <| zS <| Qm rfl <| zv rfl (fun w hw => c_spec_l01Dec n) <| Qm rfl <| Qq (p_neqT und_9 rfl rfl) <| JL.nil ?_
  refine zi (fun h11 h11' => ?_) fun h11 h11' => ?_
  ·
   have hE := M.num_no (s := t) (by rw [hS]; simpa using h11)
   refine zS <| Qa rfl <| Qa rfl <| JL.nil ?_
   refine zR x4 ?_
   first | (rw [hE]; rfl) | (rw [hE, hS]; rfl)
  have hE := M.num_yes hl9 hdg (by rw [hS]; simpa using h11)
  refine Js.skip <| zS <| Qm rfl <| Qa rfl <| Qa rfl <| JL.nil ?_
  refine zR x4 ?_
  first | (rw [hE]; rfl) | (rw [hE, hS]; rfl)
 have hT : M.numT t = t := M.numT_n (by have h9 := h2; simp at h9; intro ⟨a, b⟩; exact h9 a b)
 refine Js.skip <| Js.seq <| zS <| Qm rfl <| Qq (p_lenS und_9 rfl) <| Ql rfl rfl <| Qm rfl <| zg (Gd.f1 rfl rfl rfl) (fun hc => p_move rfl) <| zg (Gd.f1 rfl rfl rfl) (fun hc => p_lenS und_9 (gh hc rfl)) <| zg (Gd.f1 rfl rfl rfl) (fun hc => p_gtr (gh hc rfl) rfl) <| Qq (p_pickOr rfl rfl rfl) <| JL.nil ?_
 refine zi (fun h12 h12' => ?_) fun h12 h12' => ?_
 ·
  have hE := M.num_len (s := t) (by rw [hT]; have h9 := h12; simp at h9; omega)
  refine zS <| Qa rfl <| Qa rfl <| JL.nil ?_
  refine zR (Up.refl _ _) ?_
  first | (rw [hE]; rfl) | (rw [hE, hS]; rfl)
 have hl9 : ¬ ((M.numT t).length < 1 ∨ 18 < (M.numT t).length) := by rw [hT]; have h9 := h12; simp at h9; omega
 refine Js.skip <| zS <| Qa rfl <| zJ <| zS <| Qa rfl <| JL.nil <| Js.block ?_
 refine zl [0, 4] (fun F U l os u m => ∃ (k : Nat) (n : Int), l = F [(5, .int .i64 n), (6, .int .i64 (k : Int))] ∧ os = U [] ∧ (n = M.numN (M.numT t) k) ∧ (M.Digs (M.numT t) k) ∧ (k ≤ (M.numT t).length) ∧ m = (M.numT t).length - k) ⟨0, 0, rfl, rfl, by rfl, by exact M.Digs.zero _, zt, rfl⟩ ?_
 rintro _ _ u13 _ ⟨k, n, rfl, rfl, hN, hD, hk, rfl⟩ x13
 refine zn ?_
 obtain ⟨n1, n2⟩ := M.numN_18 hD (by omega)
 rw [← hN] at n1 n2
 refine Js.seq <| zS <| Qm rfl <| Qm rfl <| Qq (p_lenS und_9 rfl) <| Ql rfl rfl <| JL.nil ?_
 refine zi (fun h14 h14' => ?_) fun h14 h14' => ?_
 ·
  have hkk : k < (M.numT t).length := by rw [hT]; have := h14'; omega
  obtain ⟨n3, n4⟩ := M.numN_17 hD (by omega)
  rw [← hN] at n3 n4
  have hbt15 := M.bat_bd t k
  refine Js.skip <| Js.seq <| Js.block <| Js.seq <| zS <| Qm rfl <| Qm rfl <| Qq (p_byteS (i := k) und_9 rfl rfl (by omega)) <| zv rfl (fun w hw => c_spec_l01Digit (M.bat t k)) <| Qt rfl <| JL.nil ?_
  refine zi (fun h16 h16' => ?_) fun h16 h16' => ?_
  ·
   have hE := M.num_dig (M.digs_no hkk (by rw [hT]; simpa using h16))
   refine zS <| Qa rfl <| Qa rfl <| JL.nil ?_
   refine zR x13 ?_
   first | (rw [hE]; rfl) | (rw [hE, hS]; rfl)
  have hd : M.isDig (M.bat (M.numT t) k) = true := by rw [hT]; simpa using h16
  have hD2 := hD.step hd
  obtain ⟨d1, d2⟩ := M.dig_bd hd
  rw [hT] at d1 d2
  have hbt17 := M.bat_bd t k
  refine Js.skip <| Js.region <| Qm rfl <| Qu rfl rfl <| Qm rfl <| Qm rfl <| Qq (p_byteS (i := k) und_9 rfl rfl (by omega)) <| Qq (p_sub rfl rfl (IntWalk.u8_in _ (by omega))) <| Qq (p_conv @Tryz.underlying5 @Tryz.underlying2 rfl (IntWalk.i64_in _ (by omega))) <| Qp rfl rfl <| Qa rfl <| JL.nil <| Js.blockEnd <| Js.region ?_
  refine Qm rfl <| Qp rfl rfl <| Qa rfl <| JL.nil ?_
  exact zag ⟨k + 1, (10 * n) + ((M.bat t k) - 48), rfl, rfl, by rw [hN, M.numN, hT], by exact hD2, zt, rfl⟩ x13
 have hke : k = (M.numT t).length := Nat.le_antisymm hk (by rw [hT]; have := h14'; omega)
 have hdg := M.digs_yes hD (by omega)
 rw [hke] at hN
 refine zx ?_
 refine Js.seq <| zS <| Qm rfl <| Qq (p_lenS und_9 rfl) <| Qm rfl <| Qq (p_lenS und_9 rfl) <| Ql rfl rfl <| JL.nil ?_
 refine zi (fun h18 h18' => ?_) fun h18 h18' => ?_
 ·
  have hS : M.numS t = -n := by rw [hN]; exact M.numS_neg (by rw [hT]; have := h18'; omega)
  refine Js.region <| Qm rfl <| Qq (p_neg (r := -n) rfl (by rw [Int.zero_sub]; exact IntWalk.i64_in _ (by omega))) <| Qa rfl <| zJ <| zS <| Qm rfl <| zv rfl (fun w hw => c_spec_l01Dec (-n)) <| Qm rfl <| Qq (p_neqT und_9 rfl rfl) <| JL.nil ?_
  refine zi (fun h19 h19' => ?_) fun h19 h19' => ?_
  ·
   have hE := M.num_no (s := t) (by rw [hS]; simpa using h19)
   refine zS <| Qa rfl <| Qa rfl <| JL.nil ?_
   refine zR x13 ?_
   first | (rw [hE]; rfl) | (rw [hE, hS]; rfl)
  have hE := M.num_yes hl9 hdg (by rw [hS]; simpa using h19)
  refine Js.skip <| zS <| Qm rfl <| Qa rfl <| Qa rfl <| JL.nil ?_
  refine zR x13 ?_
  first | (rw [hE]; rfl) | (rw [hE, hS]; rfl)
 have hS : M.numS t = n := by rw [hN]; exact M.numS_pos (by rw [hT]; have := h18'; omega)
 refine Js.skip <| Js.seq <| zS <| Qm rfl <| zv rfl (fun w hw => c_spec_l01Dec n) <| Qm rfl <| Qq (p_neqT und_9 rfl rfl) <| JL.nil ?_
 refine zi (fun h20 h20' => ?_) fun h20 h20' => ?_
 ·
  have hE := M.num_no (s := t) (by rw [hS]; simpa using h20)
  refine zS <| Qa rfl <| Qa rfl <| JL.nil ?_
  refine zR x13 ?_
  first | (rw [hE]; rfl) | (rw [hE, hS]; rfl)
 have hE := M.num_yes hl9 hdg (by rw [hS]; simpa using h20)
 refine Js.skip <| zS <| Qm rfl <| Qa rfl <| Qa rfl <| JL.nil ?_
 refine zR x13 ?_
 first | (rw [hE]; rfl) | (rw [hE, hS]; rfl)

set_option maxHeartbeats 1000000 in
theorem c_spec_l04Numbers (s : List UInt8) {w : World} (r0 : s.length ≤ 4194304 := by exact om_) : Ret Tryz.prog 156 [.string (sB s)] w (Ty.tup [Ty.ints 2 ((M.nums s).1), Ty.bool ((M.nums s).2)]) := by
 refine enter @Tryz.func156 @Tryz.ntmps156 rfl rfl ?_
 refine zent ?_
 refine zS <| Qa rfl <| Qa rfl <| zN <| zbs fun b1 => ?_
 refine Qa rfl <| zN <| Qm rfl <| zp rfl (fun w hw => c_spec_l01Split s 44) ?_
 intro u3 x3 A4 c4 h4 bl4 bh4
 refine Qa rfl <| zJ <| zS <| Qa rfl <| JL.nil <| Js.block ?_
 refine zl [5] (fun F U l os u m => ∃ (k : Nat) (out : List Int) (A5_4 : Option Addr) (c5_4 : Nat) (g5_4 : List Nat), l = F [(4, .slice A5_4 out.length c5_4), (6, .int .i64 (k : Int))] ∧ os = U [some (rowO 2 1 (.slice A5_4 out.length c5_4) out.length (ints_ out) g5_4)] ∧ (out = M.numsV ((M.split (M.u8 44) s).take k)) ∧ (M.numsOk ((M.split (M.u8 44) s).take k) = true) ∧ (k ≤ (M.split (M.u8 44) s).length) ∧ (out.length = k) ∧ (out.length ≤ c5_4) ∧ (c5_4 ≤ 9223372036854775807) ∧ m = (M.split (M.u8 44) s).length - k) ⟨0, [], _, _, _, rfl, rfl, by rfl, by rfl, zt, by rfl, zu, zu, rfl⟩ ?_
 rintro _ _ u5 _ ⟨k, out, A5_4, c5_4, g5_4, rfl, rfl, hO, hK, hk, hl, f5_4, f5_5, rfl⟩ x5
 refine zn ?_
 have hl3 := M.split_len (M.u8 44) s
 refine Js.seq <| zS <| Qm rfl <| Qm rfl <| Qz rfl <| Ql rfl rfl <| JL.nil ?_
 refine zi (fun h6 h6' => ?_) fun h6 h6' => ?_
 ·
  obtain ⟨ye7, hye7⟩ : ∃ x, (M.split (M.u8 44) s)[k]? = some x := ⟨_, List.getElem?_eq_getElem (by omega)⟩
  have hY : (M.split (M.u8 44) s)[k]? = some ye7 := hye7
  have hw9 := M.split_mem 44 s ye7 (List.mem_of_getElem? hY)
  have hy8 := hye7
  obtain ⟨b8, o8, he8, hc8⟩ := strs_elem (Ty.mono _ h4 x5.vis) hy8
  refine Js.skip <| Js.seq <| Js.block <| zS <| Qm rfl <| Qm rfl <| Qq (p_indexAddr el_87 rfl rfl (by omega) (by omega) he8) <| QC hc8 rfl <| zv rfl (fun w hw => c_spec_l01Number ye7) <| Qm rfl <| Qx rfl rfl <| Qx rfl rfl <| Qa rfl <| Qa rfl ?_
  refine zJ <| zS <| Qm rfl <| Qt rfl <| JL.nil ?_
  refine zi (fun h9 h9' => ?_) fun h9 h9' => ?_
  ·
   have hE := M.nums_no (M.numsOk_no hY (by simpa using h9))
   have hq0 : [] = (M.nums s).1 := by first | (rw [hE]; done)
   have hq1 : false = (M.nums s).2 := by first | (rw [hE]; done)
   refine zS <| Qa rfl <| Qa rfl <| JL.nil ?_
   exact zro (x3.trans x5)
  have hn9 : (M.num ye7).2 = true := by simpa using h9
  refine Js.skip <| Js.region <| Qm rfl <| Qm rfl <| zbs fun b10 => ?_
  refine JL.e (e_append (i := 1) (n' := (out ++ [((M.num ye7).1)]).length) (vs' := ints_ (out ++ [((M.num ye7).1)])) el_24 rfl rfl rfl rfl (src_row (i := 0) und_24 rfl rfl) (by omega) (by omega) (by first | omega | (simp only [List.length_append, List.length_cons, List.length_nil] <;> omega)) (by simp [ints_])) ?_
  rintro v12 _ _ ⟨⟨g13, rfl⟩, rfl⟩ _
  refine JL.fact (row_form' (i := 1) rfl) (fun hf14 => ?_)
  obtain ⟨A14, c14, rfl, bl14, bh14⟩ := hf14
  refine znl ?_
  refine Qa rfl <| JL.nil <| Js.blockEnd <| Js.region <| Qm rfl <| Qp rfl rfl <| Qa rfl <| JL.nil ?_
  refine zd [1] rfl fun u15 x15 => ?_
  exact zag ⟨k + 1, out ++ [((M.num ye7).1)], _, _, _, rfl, rfl, by exact M.nums_step hO hY, by exact M.numsOk_step hK hY hn9, zt, by simp [hl], zu, zu, rfl⟩ (x5.trans x15)
 have hE := M.nums_end hK hO (by have h9 := h6'; exact Int.ofNat_le.1 h9)
 refine zx ?_
 have hq0 : out = (M.nums s).1 := by first | (rw [hE]; done)
 have hq1 : true = (M.nums s).2 := by first | (rw [hE]; done)
 refine zS <| Qm rfl <| Qa rfl <| Qa rfl <| JL.nil ?_
 exact zro (x3.trans x5)

end Go.Proofs.YtdhmdaoijnnfjaaGreatDoor

namespace Go.Proofs.YtdhmdaoijnnfjaaGreatDoor
open Go.RowKit

set_option maxHeartbeats 1000000 in
theorem c_spec_l00In (n low high : Int) {w : World}  : RetV Tryz.prog 91 [.int .i64 n, .int .i64 low, .int .i64 high] w (.bool (M.betw n low high)) := by
 refine enter @Tryz.func91 @Tryz.ntmps91 rfl rfl ?_
 refine zent ?_
 refine zS <| Qa rfl <| zN <| Qm rfl <| Qm rfl <| Qh rfl rfl <| Qm rfl <| zg (Gd.t1 rfl rfl rfl) (fun hc => p_move rfl) <| zg (Gd.t1 rfl rfl rfl) (fun hc => p_move rfl) <| zg (Gd.t1 rfl rfl rfl) (fun hc => p_leq (gh hc rfl) (gh hc rfl)) <| Qq (p_pickAnd rfl rfl rfl) <| Qa rfl <| JL.nil ?_
 refine zR (Up.refl _ _) ?_
 simp [outV, M.betw]

set_option maxHeartbeats 1000000 in
theorem c_spec_l02Ok (r : M.Rul) {v_r : Value} {w : World} (h_r : (Ty.ref (cRules r)).ok w v_r) : RetV Tryz.prog 145 [v_r] w (.bool (M.okR r)) := by
 revert v_r; apply opn
 intro b1 o1 hr1
 refine enter @Tryz.func145 @Tryz.ntmps145 rfl rfl ?_
 refine zent ?_
 refine zS <| Qa rfl <| zN <| Qm rfl <| Qc rfl <| Qf fh rfl <| QC (hr1 0 _ rfl) rfl <| zv rfl (fun w hw => c_spec_l00In r.pits 2 8) <| Qm rfl <| zg (Gd.t1 rfl rfl rfl) (fun hc => p_move rfl) <| zg (Gd.t1 rfl rfl rfl) (fun hc => p_nilCheck (gh hc rfl)) <| zg (Gd.t1 rfl rfl rfl) (fun hc => p_fieldAddr fld_32_1.h (gh hc rfl)) <| zgq (Gd.t1 rfl rfl rfl) (fun hc => q_load1 ty_2.h (gh hc rfl) (Mem.pub (hr1 1 _ rfl))) <| zgv (Gd.t1 rfl rfl rfl) (fun hc => (opds_3 (gh hc rfl) rfl rfl)) (fun hc => (fun w hw => c_spec_l00In r.seeds 1 6)) ?_
 refine Qq (p_pickAnd rfl rfl rfl) <| Qm rfl <| zg (Gd.t1 rfl rfl rfl) (fun hc => p_move rfl) <| zg (Gd.t1 rfl rfl rfl) (fun hc => p_nilCheck (gh hc rfl)) <| zg (Gd.t1 rfl rfl rfl) (fun hc => p_fieldAddr fld_32_7.h (gh hc rfl)) <| zgq (Gd.t1 rfl rfl rfl) (fun hc => q_load1 ty_2.h (gh hc rfl) (Mem.pub (hr1 7 _ rfl))) <| zgv (Gd.t1 rfl rfl rfl) (fun hc => (opds_3 (gh hc rfl) rfl rfl)) (fun hc => (fun w hw => c_spec_l00In r.capture 0 3)) ?_
 refine Qq (p_pickAnd rfl rfl rfl) <| Qm rfl <| zg (Gd.t1 rfl rfl rfl) (fun hc => p_move rfl) <| zg (Gd.t1 rfl rfl rfl) (fun hc => p_nilCheck (gh hc rfl)) <| zg (Gd.t1 rfl rfl rfl) (fun hc => p_fieldAddr fld_32_8.h (gh hc rfl)) <| zgq (Gd.t1 rfl rfl rfl) (fun hc => q_load1 ty_2.h (gh hc rfl) (Mem.pub (hr1 8 _ rfl))) <| zgv (Gd.t1 rfl rfl rfl) (fun hc => (opds_3 (gh hc rfl) rfl rfl)) (fun hc => (fun w hw => c_spec_l00In r.slam 0 2)) ?_
 refine Qq (p_pickAnd rfl rfl rfl) <| Qm rfl <| zg (Gd.t1 rfl rfl rfl) (fun hc => p_move rfl) <| zg (Gd.t1 rfl rfl rfl) (fun hc => p_nilCheck (gh hc rfl)) <| zg (Gd.t1 rfl rfl rfl) (fun hc => p_fieldAddr fld_32_2.h (gh hc rfl)) <| zgq (Gd.t1 rfl rfl rfl) (fun hc => q_load1 ty_4.h (gh hc rfl) (Mem.pub (hr1 2 _ rfl))) <| zg (Gd.t1 rfl rfl rfl) (fun hc => p_move (gh hc rfl)) <| zg (Gd.f2 rfl rfl rfl) (fun hc => p_move rfl) <| zg (Gd.f2 rfl rfl rfl) (fun hc => p_nilCheck (gh hc rfl)) <| zg (Gd.f2 rfl rfl rfl) (fun hc => p_fieldAddr fld_32_6.h (gh hc rfl)) <| zgq (Gd.f2 rfl rfl rfl) (fun hc => q_load1 ty_4.h (gh hc rfl) (Mem.pub (hr1 6 _ rfl))) <| zg (Gd.f2 rfl rfl rfl) (fun hc => p_not (gh hc rfl)) <| zg (Gd.t1 rfl rfl rfl) (fun hc => p_pickOr (gh hc rfl) rfl (gvl rfl hc)) <| Qq (p_pickAnd rfl rfl rfl) ?_
 refine Qa rfl <| JL.nil ?_
 refine zR (Up.refl _ _) ?_
 simp [outV, M.okR, Bool.and_assoc]

set_option maxHeartbeats 1000000 in
theorem c_spec_l04Sum (list : List Int) {v_list : Value} {w : World} (h_list : (Ty.ints 2 list).ok w v_list) (r0 : list.length ≤ 4194304 := by exact om_) : RetV Tryz.prog 146 [v_list] w (.int .i64 (M.sum4 list)) := by
 revert v_list; apply opn
 intro A1 c1 h1 bl1 bh1
 have h_list := h1
 refine enter @Tryz.func146 @Tryz.ntmps146 rfl rfl ?_
 refine zent ?_
 refine zS <| Qa rfl <| zN <| Qa rfl <| zJ <| zS <| Qa rfl <| JL.nil <| Js.block ?_
 refine zl [0] (fun F U l os u m => ∃ (k : Nat) (t : Int), l = F [(3, .int .i64 t), (4, .int .i64 (k : Int))] ∧ os = U [] ∧ (k ≤ list.length) ∧ (0 ≤ t) ∧ (t ≤ 96 * k) ∧ (M.sumFrom t (list.drop k) = M.sumFrom 0 list) ∧ m = list.length - k) ⟨0, 0, rfl, rfl, zt, zt, zt, zt, rfl⟩ ?_
 rintro _ _ u2 _ ⟨k, t, rfl, rfl, hk, t0, t9, hS, rfl⟩ x2
 refine zn ?_
 refine Js.seq <| zS <| Qm rfl <| Qm rfl <| Qz rfl <| Ql rfl rfl <| JL.nil ?_
 refine zi (fun h3 h3' => ?_) fun h3 h3' => ?_
 ·
  obtain ⟨b4, o4, he4, hc4⟩ := ints_elem (Ty.mono _ h1 x2.vis) (i := k) (by omega)
  refine Js.skip <| Js.seq <| Js.block <| Js.seq <| zS <| Qm rfl <| Qm rfl <| Qq (p_indexAddr el_24 rfl rfl (by omega) (by omega) he4) <| QC hc4 rfl <| zv rfl (fun w hw => c_spec_l00In (M.nth list k) 0 96) <| Qt rfl <| JL.nil ?_
  refine zi (fun h5 h5' => ?_) fun h5 h5' => ?_
  ·
   have e1 : M.sum4 list = -1 := M.sum4_no (by rw [M.sumFrom_step (by omega), if_neg (by simpa using h5)] at hS; exact M.sumFrom_none hS.symm)
   refine zS <| Qa rfl <| JL.nil ?_
   refine zR x2 ?_
   rw [e1]; rfl
  have hb : M.betw (M.nth list k) 0 96 = true := by simpa using h5
  obtain ⟨hb0, hb1⟩ := M.betw_iff.1 hb
  obtain ⟨b6, o6, he6, hc6⟩ := ints_elem (Ty.mono _ h1 x2.vis) (i := k) (by omega)
  refine Js.skip <| Js.region <| Qm rfl <| Qm rfl <| Qm rfl <| Qq (p_indexAddr el_24 rfl rfl (by omega) (by omega) he6) <| QC hc6 rfl <| Qp rfl rfl <| Qa rfl <| JL.nil <| Js.blockEnd <| Js.region <| Qm rfl <| Qp rfl rfl ?_
  refine Qa rfl <| JL.nil ?_
  exact zag ⟨k + 1, t + (M.nth list k), rfl, rfl, zt, zt, zt, by rw [M.sumFrom_step (by omega), if_pos hb] at hS; exact hS, rfl⟩ x2
 obtain ⟨e1, e2⟩ := M.sumFrom_some (by rw [← hS]; exact M.sumFrom_end (by omega))
 refine zx ?_
 refine Js.seq <| zS <| Qm rfl <| Qg rfl rfl <| JL.nil ?_
 refine zi (fun h7 h7' => ?_) fun h7 h7' => ?_
 ·
  have e1 : M.sum4 list = -1 := M.sum4_big (by omega)
  refine zS <| Qa rfl <| JL.nil ?_
  refine zR x2 ?_
  rw [e1]; rfl
 have e1 : M.sum4 list = t := by rw [M.sum4_ok e1 (by omega), e2]
 refine Js.skip <| zS <| Qm rfl <| Qa rfl <| JL.nil ?_
 refine zR x2 ?_
 rw [e1]; rfl

set_option maxHeartbeats 1000000 in
theorem c_spec_l04Ok (r : M.Rul) {v_r : Value} (p : M.Pos) {v_p : Value} {w : World} (h_r : (Ty.ref (cRules r)).ok w v_r) (h_p : (Ty.ref (cPosition p)).ok w v_p) (r0 : p.pits.length ≤ 4194304 := by exact om_) (r1 : p.stores.length ≤ 4194304 := by exact om_) : RetV Tryz.prog 90 [v_r, v_p] w (.bool (M.okP r p)) := by
 have b1 := M.sum4_bd p.pits
 have b2 := M.sum4_bd p.stores
 revert v_r; apply opn
 intro b1 o1 hr1
 revert v_p; apply opn
 intro b4 o4 A2 c2 h2 bl2 bh2 A3 c3 h3 bl3 bh3 hr4
 refine enter @Tryz.func90 @Tryz.ntmps90 rfl rfl ?_
 refine zent ?_
 refine zS <| Qa rfl <| zJ <| Js.seq ?_
 refine zdr [] ?_
 refine JH.p 0 rfl (p_move rfl) ?_
 refine y1 1 ?_
 refine yv rfl rfl (fun w hw => c_spec_l02Ok r (ok_ hw)) ?_
 refine JH.p 2 rfl (p_not rfl) ?_
 refine JH.p 3 rfl (p_move rfl) ?_
 refine JH.pg 4 rfl (Gd.f1 rfl rfl rfl) (fun hc => p_move rfl) ?_
 refine JH.pg 5 rfl (Gd.f1 rfl rfl rfl) (fun hc => p_nilCheck (gvt rfl hc)) ?_
 refine JH.pg 6 rfl (Gd.f1 rfl rfl rfl) (fun hc => p_fieldAddr fld_33_0.h (gvt rfl hc)) ?_
 refine JH.wg 7 rfl (Gd.f1 rfl rfl rfl) (fun hc os' u' hv => q_load1 ty_24.h (gvt rfl hc) (Mem.pub ((hr4.vis hv) 0 _ rfl))) ?_
 refine JH.pg 8 rfl (Gd.f1 rfl rfl rfl) (fun hc => p_len el_24 (gvt rfl hc)) ?_
 refine JH.pg 9 rfl (Gd.f1 rfl rfl rfl) (fun hc => p_move rfl) ?_
 refine JH.pg 10 rfl (Gd.f1 rfl rfl rfl) (fun hc => p_nilCheck (gvt rfl hc)) ?_
 refine JH.pg 11 rfl (Gd.f1 rfl rfl rfl) (fun hc => p_fieldAddr fld_32_0.h (gvt rfl hc)) ?_
 refine JH.wg 12 rfl (Gd.f1 rfl rfl rfl) (fun hc os' u' hv => q_load1 ty_2.h (gvt rfl hc) (Mem.pub ((hr1.vis hv) 0 _ rfl))) ?_
 refine JH.pg 13 rfl (Gd.f1 rfl rfl rfl) (fun hc => p_mul rfl (gvt rfl hc) (IntWalk.i64_in _ (by have := M.okR_bd (r := r) (by simpa using hc); omega))) ?_
 refine JH.pg 14 rfl (Gd.f1 rfl rfl rfl) (fun hc => p_neq (gvt rfl hc) (gvt rfl hc)) ?_
 refine JH.p 15 rfl (p_pickOr rfl rfl rfl) ?_
 refine JH.p 16 rfl (p_move rfl) ?_
 refine JH.pg 17 rfl (Gd.f1 rfl rfl rfl) (fun hc => p_move rfl) ?_
 refine JH.pg 18 rfl (Gd.f1 rfl rfl rfl) (fun hc => p_nilCheck (gvt rfl hc)) ?_
 refine JH.pg 19 rfl (Gd.f1 rfl rfl rfl) (fun hc => p_fieldAddr fld_33_1.h (gvt rfl hc)) ?_
 refine JH.wg 20 rfl (Gd.f1 rfl rfl rfl) (fun hc os' u' hv => q_load1 ty_24.h (gvt rfl hc) (Mem.pub ((hr4.vis hv) 1 _ rfl))) ?_
 refine JH.pg 21 rfl (Gd.f1 rfl rfl rfl) (fun hc => p_len el_24 (gvt rfl hc)) ?_
 refine JH.pg 22 rfl (Gd.f1 rfl rfl rfl) (fun hc => p_neq (gvt rfl hc) rfl) ?_
 refine JH.p 23 rfl (p_pickOr rfl rfl rfl) ?_
 refine JH.p 24 rfl (p_move rfl) ?_
 refine JH.pg 25 rfl (Gd.f1 rfl rfl rfl) (fun hc => p_move rfl) ?_
 refine JH.pg 26 rfl (Gd.f1 rfl rfl rfl) (fun hc => p_nilCheck (gvt rfl hc)) ?_
 refine JH.pg 27 rfl (Gd.f1 rfl rfl rfl) (fun hc => p_fieldAddr fld_33_2.h (gvt rfl hc)) ?_
 refine JH.wg 28 rfl (Gd.f1 rfl rfl rfl) (fun hc os' u' hv => q_load1 ty_2.h (gvt rfl hc) (Mem.pub ((hr4.vis hv) 2 _ rfl))) ?_
 refine y1 29 ?_
 refine JHo.ge rfl (Gd.f1 rfl rfl rfl) (fun hc => e_callV fn_91.h (opds_3 (gvt rfl hc) rfl rfl) (fun w hw => c_spec_l00In p.player 0 1)) ?_
 refine JH.pg 30 rfl (Gd.f1 rfl rfl rfl) (fun hc => p_not (gvt rfl hc)) ?_
 refine JH.p 31 rfl (p_pickOr rfl rfl rfl) ?_
 refine yd ?_
 refine zi (fun h5 h5' => ?_) fun h5 h5' => ?_
 ·
  refine zS <| Qa rfl <| JL.nil ?_
  refine zR (Up.refl _ _) ?_
  rw [M.okP_no (by simpa [or_assoc] using h5)]; rfl
 obtain ⟨⟨⟨q1, q2⟩, q3⟩, q4⟩ : ((M.okR r = true ∧ (p.pits.length : Int) = 2 * r.pits) ∧ (p.stores.length : Int) = 2) ∧ M.betw p.player 0 1 = true := by simpa using h5
 refine Js.skip <| zS <| Qm rfl <| Qc rfl <| Qf fh rfl <| QC (hr4 0 _ rfl) rfl <| zv rfl (fun w hw => c_spec_l04Sum p.pits (ok_ hw)) <| Qa rfl <| zN <| Qm rfl <| Qc rfl <| Qf fh rfl <| QC (hr4 1 _ rfl) rfl <| zv rfl (fun w hw => c_spec_l04Sum p.stores (ok_ hw)) ?_
 refine Qa rfl <| zN <| Qm rfl <| Qh rfl rfl <| Qm rfl <| zg (Gd.t1 rfl rfl rfl) (fun hc => p_move rfl) <| zg (Gd.t1 rfl rfl rfl) (fun hc => p_geq (gh hc rfl) rfl) <| Qq (p_pickAnd rfl rfl rfl) <| Qm rfl <| zg (Gd.t1 rfl rfl rfl) (fun hc => p_move rfl) <| zg (Gd.t1 rfl rfl rfl) (fun hc => p_move rfl) <| zg (Gd.t1 rfl rfl rfl) (fun hc => p_add (gh hc rfl) (gh hc rfl) (IntWalk.i64_in _ (by have hc9 := hc; (try simp only [Bool.and_eq_true, decide_eq_true_eq] at hc9); omega))) ?_
 refine zg (Gd.t1 rfl rfl rfl) (fun hc => p_leq (gh hc rfl) rfl) <| Qq (p_pickAnd rfl rfl rfl) <| Qa rfl <| JL.nil ?_
 refine zR (Up.refl _ _) ?_
 rw [M.okP_yes4 q1 q2 q3 q4]; rfl

set_option maxHeartbeats 1000000 in
theorem c_spec_l00Own (list : List Int) {v_list : Value} {w : World} (h_list : (Ty.ints 2 list).ok w v_list) (r0 : list.length ≤ 4194304 := by exact om_) : Ret Tryz.prog 134 [v_list] w (Ty.ints 2 list) := by
 revert v_list; apply opn
 intro A1 c1 h1 bl1 bh1
 have h_list := h1
 refine enter @Tryz.func134 @Tryz.ntmps134 rfl rfl ?_
 refine zent ?_
 refine zS <| Qa rfl <| zN <| zbs fun b2 => ?_
 refine Qm rfl ?_
 refine JL.e (e_append (i := 0) (n' := list.length) (vs' := ints_ list) el_24 rfl rfl rfl rfl (src_ints und_24 h1) (by omega) (by omega) (by first | omega | (simp only [List.length_append, List.length_cons, List.length_nil] <;> omega)) (by simp [ints_])) ?_
 rintro v4 _ _ ⟨⟨g5, rfl⟩, rfl⟩ _
 refine JL.fact (row_form' (i := 0) rfl) (fun hf6 => ?_)
 obtain ⟨A6, c6, rfl, bl6, bh6⟩ := hf6
 refine znl ?_
 refine Qa rfl <| JL.nil ?_
 exact zro (Up.refl _ _)

set_option maxHeartbeats 1000000 in
theorem c_spec_l04Own (p : M.Pos) {v_p : Value} {w : World} (h_p : (Ty.ref (cPosition p)).ok w v_p) (r0 : p.pits.length ≤ 4194304 := by exact om_) (r1 : p.stores.length ≤ 4194304 := by exact om_) : Ret Tryz.prog 118 [v_p] w (Ty.agg (cPosition p)) := by
 revert v_p; apply opn
 intro b3 o3 A1 c1 h1 bl1 bh1 A2 c2 h2 bl2 bh2 hr3
 refine enter @Tryz.func118 @Tryz.ntmps118 rfl rfl ?_
 refine zent ?_
 refine zS <| za zeh fun b4 => zJ ?_
 refine zdr [15] ?_
 refine JH.p 0 rfl (p_move rfl) ?_
 refine JH.p 1 rfl (p_nilCheck rfl) ?_
 refine JH.p 2 rfl (p_fieldAddr fld_33_0.h rfl) ?_
 refine JH.w 3 rfl (fun os' u' hv => q_load1 ty_24.h rfl (Mem.pub ((hr3.vis hv) 0 _ rfl))) ?_
 refine JH.p 5 rfl (p_move rfl) ?_
 refine JH.p 6 rfl (p_nilCheck rfl) ?_
 refine JH.p 7 rfl (p_fieldAddr fld_33_1.h rfl) ?_
 refine JH.w 8 rfl (fun os' u' hv => q_load1 ty_24.h rfl (Mem.pub ((hr3.vis hv) 1 _ rfl))) ?_
 refine JH.p 10 rfl (p_move rfl) ?_
 refine JH.p 11 rfl (p_nilCheck rfl) ?_
 refine JH.p 12 rfl (p_fieldAddr fld_33_2.h rfl) ?_
 refine JH.w 13 rfl (fun os' u' hv => q_load1 ty_2.h rfl (Mem.pub ((hr3.vis hv) 2 _ rfl))) ?_
 refine y1 4 ?_
 refine ycs rfl rfl (fun w hw => c_spec_l00Own p.pits (ok_ hw)) ?_
 intro A5 c5 bl5 bh5
 refine y1 9 ?_
 refine ycs rfl rfl (fun w hw => c_spec_l00Own p.stores (ok_ hw)) ?_
 intro A6 c6 bl6 bh6
 refine JH.p 14 rfl (q_bld) ?_
 refine y1 15 ?_
 refine yst rfl rfl rfl ?_
 refine yd ?_
 exact zro (Up.refl _ _)

set_option maxHeartbeats 1000000 in
theorem c_spec_l02Owner (r : M.Rul) {v_r : Value} (pit : Int) {w : World} (h_r : (Ty.ref (cRules r)).ok w v_r) (r0 : 2 ≤ r.pits := by exact om_) (r1 : r.pits ≤ 8 := by exact om_) (r2 : 0 ≤ pit := by exact om_) (r3 : pit ≤ 1000 := by exact om_) : RetV Tryz.prog 132 [v_r, .int .i64 pit] w (.int .i64 (M.owner r pit)) := by
 revert v_r; apply opn
 intro b1 o1 hr1
 refine enter @Tryz.func132 @Tryz.ntmps132 rfl rfl ?_
 refine zent ?_
 refine zS <| Qa rfl <| zN <| Qm rfl <| Qm rfl <| Qc rfl <| Qf fh rfl <| QC (hr1 0 _ rfl) rfl <| Qq (p_quo rfl rfl (by omega) (wrap_quo (by omega) (by omega) (by omega))) <| Qa rfl <| JL.nil ?_
 refine zR (Up.refl _ _) ?_
 rfl

set_option maxHeartbeats 1000000 in
theorem c_spec_l02Opposite (r : M.Rul) {v_r : Value} (pit : Int) {w : World} (h_r : (Ty.ref (cRules r)).ok w v_r) (r0 : 2 ≤ r.pits := by exact om_) (r1 : r.pits ≤ 8 := by exact om_) (r2 : 0 ≤ pit := by exact om_) (r3 : pit ≤ 1000 := by exact om_) : RetV Tryz.prog 170 [v_r, .int .i64 pit] w (.int .i64 (M.opp r pit)) := by
 revert v_r; apply opn
 intro b1 o1 hr1
 refine enter @Tryz.func170 @Tryz.ntmps170 rfl rfl ?_
 refine zent ?_
 refine zS <| Qa rfl <| zN <| Qm rfl <| Qc rfl <| Qf fh rfl <| QC (hr1 0 _ rfl) rfl <| Qu rfl rfl <| Qs rfl rfl <| Qm rfl <| Qs rfl rfl <| Qa rfl <| JL.nil ?_
 refine zR (Up.refl _ _) ?_
 rfl

set_option maxHeartbeats 1000000 in
theorem c_spec_l02Next (r : M.Rul) {v_r : Value} (pit : Int) {w : World} (h_r : (Ty.ref (cRules r)).ok w v_r) (r0 : 2 ≤ r.pits := by exact om_) (r1 : r.pits ≤ 8 := by exact om_) (r2 : -1 ≤ pit := by exact om_) (r3 : pit ≤ 1000 := by exact om_) : RetV Tryz.prog 208 [v_r, .int .i64 pit] w (.int .i64 ((pit + 1) % (2 * r.pits))) := by
 revert v_r; apply opn
 intro b1 o1 hr1
 refine enter @Tryz.func208 @Tryz.ntmps208 rfl rfl ?_
 refine zent ?_
 have hrn2 := Int.emod_nonneg (pit + 1) (b := 2 * r.pits) (by omega)
 have hrl2 := Int.emod_lt_of_pos (pit + 1) (show 0 < 2 * r.pits by omega)
 refine zS <| Qa rfl <| zN <| Qm rfl <| Qp rfl rfl <| Qm rfl <| Qc rfl <| Qf fh rfl <| QC (hr1 0 _ rfl) rfl <| Qu rfl rfl <| Qq (p_rem rfl rfl (by omega) (Int.tmod_eq_emod_of_nonneg (by omega))) <| Qa rfl <| JL.nil ?_
 exact zr (Up.refl _ _)

set_option maxHeartbeats 1000000 in
theorem c_spec_l05Next (r : M.Rul) {v_r : Value} (player place : Int) {w : World} (h_r : (Ty.ref (cRules r)).ok w v_r) (r0 : 2 ≤ r.pits := by exact om_) (r1 : r.pits ≤ 8 := by exact om_) (r2 : player = 0 ∨ player = 1 := by exact om_) (r3 : -1 ≤ place := by exact om_) (r4 : place ≤ 1000 := by exact om_) : RetV Tryz.prog 191 [v_r, .int .i64 player, .int .i64 place] w (.int .i64 (M.after r player place)) := by
 have hq := M.mul_bd r2 r0 r1
 revert v_r; apply opn
 intro b1 o1 hr1
 refine enter @Tryz.func191 @Tryz.ntmps191 rfl rfl ?_
 refine zent ?_
 refine zS <| Qa rfl <| zN <| Qm rfl <| Qp rfl rfl <| Qm rfl <| Qc rfl <| Qf fh rfl <| QC (hr1 0 _ rfl) rfl <| Qu rfl rfl <| Qs rfl rfl <| Qa rfl <| zJ <| zS ?_
 refine Qm rfl <| Qe rfl rfl <| JL.nil ?_
 refine zi (fun h2 h2' => ?_) fun h2 h2' => ?_
 ·
  have e1 := M.after_m1 (r := r) (player := player) (place := place) (by simpa using h2) (by omega)
  refine zS <| Qm rfl <| Qm rfl <| zv rfl (fun w hw => c_spec_l02Next r (((player + 1) * r.pits) - 1) (ok_ hw)) <| Qa rfl <| JL.nil ?_
  refine zR (Up.refl _ _) ?_
  rw [e1]; rfl
 refine Js.skip <| Js.seq <| zS <| Qm rfl <| Qc rfl <| Qf fh rfl <| QC (hr1 2 _ rfl) rfl <| Qm rfl <| zg (Gd.t1 rfl rfl rfl) (fun hc => p_move rfl) <| zg (Gd.t1 rfl rfl rfl) (fun hc => p_move rfl) <| zg (Gd.t1 rfl rfl rfl) (fun hc => p_eql (gh hc rfl) (gh hc rfl)) <| Qq (p_pickAnd rfl rfl rfl) <| JL.nil ?_
 refine zi (fun h3 h3' => ?_) fun h3 h3' => ?_
 ·
  have e1 := M.after_end (r := r) (player := player) (place := place) (by simpa using h3)
  refine zS <| Qa rfl <| JL.nil ?_
  refine zR (Up.refl _ _) ?_
  rw [e1]; rfl
 have e1 := M.after_else (r := r) (player := player) (place := place) (by simpa using h3) (by omega)
 refine Js.skip <| zS <| Qm rfl <| Qm rfl <| zv rfl (fun w hw => c_spec_l02Next r place (ok_ hw)) <| Qa rfl <| JL.nil ?_
 refine zR (Up.refl _ _) ?_
 rw [e1]; rfl

set_option maxHeartbeats 1000000 in
theorem c_spec_l04Side (r : M.Rul) {v_r : Value} (pits : List Int) {v_pits : Value} (player : Int) {w : World} (h_r : (Ty.ref (cRules r)).ok w v_r) (h_pits : (Ty.ints 2 pits).ok w v_pits) (r0 : 2 ≤ r.pits := by exact om_) (r1 : r.pits ≤ 8 := by exact om_) (r2 : player = 0 ∨ player = 1 := by exact om_) (r3 : (pits.length : Int) = 2 * r.pits := by exact om_) (r4 : M.allOk pits = true := by exact om_) : RetV Tryz.prog 82 [v_r, v_pits, .int .i64 player] w (.int .i64 (M.side r pits player)) := by
 have hq := M.mul_bd r2 r0 r1
 have hsp := M.side_part (ps := pits) (r := r) (player := player) (by omega)
 revert v_r; apply opn
 intro b1 o1 hr1
 revert v_pits; apply opn
 intro A2 c2 h2 bl2 bh2
 have h_pits := h2
 refine enter @Tryz.func82 @Tryz.ntmps82 rfl rfl ?_
 refine zent ?_
 refine zS <| Qa rfl <| zN <| Qa rfl <| zJ <| zS <| Qm rfl <| Qm rfl <| Qc rfl <| Qf fh rfl <| QC (hr1 0 _ rfl) rfl <| Qu rfl rfl <| Qa rfl <| JL.nil ?_
 refine Js.block ?_
 refine zl [0, 1, 2] (fun F U l os u m => ∃ (k t : Int), l = F [(7, .int .i64 t), (8, .int .i64 k)] ∧ os = U [] ∧ (t + M.part pits k ((player + 1) * r.pits) = M.side r pits player) ∧ (player * r.pits ≤ k) ∧ (k ≤ (player + 1) * r.pits) ∧ (0 ≤ t) ∧ (t ≤ 96 * (k - player * r.pits)) ∧ m = ((player + 1) * r.pits - k).toNat) ⟨player * r.pits, 0, rfl, rfl, by rw [hsp]; omega, zt, zt, zt, zt, rfl⟩ ?_
 rintro _ _ u3 _ ⟨k, t, rfl, rfl, hS, k0, k1, t0, t1, rfl⟩ x3
 refine zn ?_
 have hv := M.allOk_nth r4 k.toNat
 refine Js.seq <| zS <| Qm rfl <| Qm rfl <| Qp rfl rfl <| Qm rfl <| Qc rfl <| Qf fh rfl <| QC ((hr1.vis x3.vis) 0 _ rfl) rfl <| Qu rfl rfl <| Ql rfl rfl <| JL.nil ?_
 refine zi (fun h4 h4' => ?_) fun h4 h4' => ?_
 ·
  obtain ⟨b5, o5, he5, hc5⟩ := ints_elem (Ty.mono _ h2 x3.vis) (i := k.toNat) (by omega)
  refine Js.skip <| Js.seq <| Js.block <| Js.region <| Qm rfl <| Qm rfl <| Qm rfl <| Qq (p_indexAddr el_24 rfl rfl (by omega) (by omega) he5) <| QC hc5 rfl <| Qp rfl rfl <| Qa rfl <| JL.nil <| Js.blockEnd <| Js.region ?_
  refine Qm rfl <| Qp rfl rfl <| Qa rfl <| JL.nil ?_
  exact zag ⟨k + 1, t + (M.nth pits k.toNat), rfl, rfl, by rw [M.part_step (by omega) (by omega) (by omega)] at hS; simp only [M.getI] at hS; omega, zt, zt, zt, zt, rfl⟩ x3
 have e1 : M.side r pits player = t := by rw [M.part_end (by omega)] at hS; omega
 refine zx ?_
 refine zS <| Qm rfl <| Qa rfl <| JL.nil ?_
 refine zR x3 ?_
 rw [e1]; rfl

set_option maxHeartbeats 1000000 in
theorem c_spec_l05Code (r : M.Rul) {v_r : Value} (p : M.Pos) {v_p : Value} (move : Int) {w : World} (h_r : (Ty.ref (cRules r)).ok w v_r) (h_p : (Ty.ref (cPosition p)).ok w v_p) (r0 : p.pits.length ≤ 4194304 := by exact om_) (r1 : p.stores.length ≤ 4194304 := by exact om_) : RetV Tryz.prog 129 [v_r, v_p, .int .i64 move] w (.int .i64 (M.sowCode r p move)) := by
 revert v_r; apply opn
 intro b1 o1 hr1
 revert v_p; apply opn
 intro b4 o4 A2 c2 h2 bl2 bh2 A3 c3 h3 bl3 bh3 hr4
 refine enter @Tryz.func129 @Tryz.ntmps129 rfl rfl ?_
 refine zent ?_
 refine zS <| Qa rfl <| zJ <| zS <| Qm rfl <| Qm rfl <| zv rfl (fun w hw => c_spec_l04Ok r p (ok_ hw) (ok_ hw)) <| Qt rfl <| JL.nil ?_
 refine zi (fun h5 h5' => ?_) fun h5 h5' => ?_
 ·
  refine zS <| Qa rfl <| JL.nil ?_
  refine zR (Up.refl _ _) ?_
  simp_all [outV, M.sowCode, M.getI]
 have hok : M.okP r p = true := by simpa using h5
 obtain ⟨g1, g2, g3, g4, g5, g6, g7⟩ := M.okP_bd hok
 have hq := M.mul_bd g7 g1 g2
 refine Js.skip <| Js.seq <| zS <| Qm rfl <| Qm rfl <| Qc rfl <| Qf fh rfl <| QC (hr1 0 _ rfl) rfl <| Qs rfl rfl <| zv rfl (fun w hw => c_spec_l00In move 0 (r.pits - 1)) <| Qt rfl <| JL.nil ?_
 refine zi (fun h6 h6' => ?_) fun h6 h6' => ?_
 ·
  refine zS <| Qa rfl <| JL.nil ?_
  refine zR (Up.refl _ _) ?_
  simp_all [outV, M.sowCode, M.getI]
 obtain ⟨m0, m1⟩ := M.betw_iff.1 (show M.betw move 0 (r.pits - 1) = true by simpa using h6)
 refine Js.skip <| Js.seq <| Js.seq ?_
 refine zdr [] ?_
 refine JH.p 0 rfl (p_move rfl) ?_
 refine JH.p 1 rfl (p_nilCheck rfl) ?_
 refine JH.p 2 rfl (p_fieldAddr fld_33_0.h rfl) ?_
 refine JH.w 3 rfl (fun os' u' hv => q_load1 ty_24.h rfl (Mem.pub ((hr4.vis hv) 0 _ rfl))) ?_
 refine JH.p 4 rfl (p_move rfl) ?_
 refine JH.p 5 rfl (p_nilCheck rfl) ?_
 refine JH.p 6 rfl (p_fieldAddr fld_33_2.h rfl) ?_
 refine JH.w 7 rfl (fun os' u' hv => q_load1 ty_2.h rfl (Mem.pub ((hr4.vis hv) 2 _ rfl))) ?_
 refine JH.p 8 rfl (p_move rfl) ?_
 refine JH.p 9 rfl (p_nilCheck rfl) ?_
 refine JH.p 10 rfl (p_fieldAddr fld_32_0.h rfl) ?_
 refine JH.w 11 rfl (fun os' u' hv => q_load1 ty_2.h rfl (Mem.pub ((hr1.vis hv) 0 _ rfl))) ?_
 refine JH.p 12 rfl (p_mul rfl rfl (IntWalk.i64_in _ (by omega))) ?_
 refine JH.p 13 rfl (p_move rfl) ?_
 refine JH.p 14 rfl (p_add rfl rfl (IntWalk.i64_in _ (by omega))) ?_
 obtain ⟨b7, o7, he7, hc7⟩ := ints_elem h2 (i := ((p.player * r.pits) + move).toNat) (by omega)
 refine JH.p 15 rfl (p_indexAddr el_24 rfl rfl (by omega) (by omega) he7) ?_
 refine JH.w 16 rfl (fun os' u' hv => q_load1 ty_2.h rfl (Mem.pub (hc7.vis hv))) ?_
 refine JH.p 17 rfl (p_eql rfl rfl) ?_
 refine yd ?_
 refine zi (fun h8 h8' => ?_) fun h8 h8' => ?_
 ·
  refine zS <| Qa rfl <| JL.nil ?_
  refine zR (Up.refl _ _) ?_
  simp_all [outV, M.sowCode, M.getI]
 refine Js.skip <| zS <| Qa rfl <| JL.nil ?_
 refine zR (Up.refl _ _) ?_
 simp_all [outV, M.sowCode, M.getI]

end Go.Proofs.YtdhmdaoijnnfjaaGreatDoor


/- Walks: G1. -/
import Derived.Test.YtjklnidbndopiaaGreatDoorZbA4
import Derived.Test.YtjklnidbndopiaaGreatDoorZbA2
import Derived.Test.YtjklnidbndopiaaGreatDoorZbA3
set_option linter.unusedSimpArgs false
set_option linter.unusedVariables false
set_option maxRecDepth 100000
attribute [local irreducible] Go.Proofs.YtjklnidbndopiaaGreatDoor.gv
set_option maxHeartbeats 4000000
namespace Go.Proofs.YtjklnidbndopiaaGreatDoor
open Go.RowKit
theorem c_impl_between (n low high : Int) {w : World}  : RetV Tryz.prog 54 [.int .i64 n, .int .i64 low, .int .i64 high] w (.bool (M.betw n low high)) := by
 refine enter @Tryz.func54 @Tryz.ntmps54 rfl rfl ?_
 refine zent ?_
 refine zS <| Qa rfl <| zN <| Qm rfl <| Qm rfl <| Qh rfl rfl <| Qm rfl <| zg (Gd.t1 rfl rfl rfl) (fun hc => p_move rfl) <| zg (Gd.t1 rfl rfl rfl) (fun hc => p_move rfl) <| zg (Gd.t1 rfl rfl rfl) (fun hc => p_leq (gh hc rfl) (gh hc rfl)) <| Qq (p_pickAnd rfl rfl rfl) <| Qa rfl <| JL.nil ?_
 refine zR (Up.refl _ _) ?_
 simp [outV, M.betw, Bool.and_comm]
theorem c_impl_isPlayer (player : Int) {w : World}  : RetV Tryz.prog 103 [.int .i64 player] w (.bool (M.isPl player)) := by
 refine enter @Tryz.func103 @Tryz.ntmps103 rfl rfl ?_
 refine zent ?_
 refine zS <| Qa rfl <| zN <| Qm rfl <| Qe rfl rfl <| Qm rfl <| zg (Gd.f1 rfl rfl rfl) (fun hc => p_move rfl) <| zg (Gd.f1 rfl rfl rfl) (fun hc => p_eql (gh hc rfl) rfl) <| Qq (p_pickOr rfl rfl rfl) <| Qa rfl <| JL.nil ?_
 refine zR (Up.refl _ _) ?_
 simp [outV, M.isPl]
theorem c_impl_ValidRules (r : M.Rul) {v_r : Value} {w : World} (h_r : (Ty.agg (cRules r)).ok w v_r) : RetV Tryz.prog 72 [v_r] w (.bool (M.okR r)) := by
 revert v_r; apply opn
 refine enter @Tryz.func72 @Tryz.ntmps72 rfl rfl ?_
 refine zent ?_
 refine zS <| zb rfl fun b1 => Qa rfl <| zN <| Qf fh rfl <| Q0 0 rfl rfl rfl <| zv rfl (fun w hw => c_impl_between r.pits 2 8) <| Qm rfl <| zg (Gd.t1 rfl rfl rfl) (fun hc => p_fieldAddr fld_29_1.h rfl) <| zgq (Gd.t1 rfl rfl rfl) (fun hc => q_load1 ty_2.h (gh hc rfl) (Mem.box (i := 0) rfl rfl)) <| zgv (Gd.t1 rfl rfl rfl) (fun hc => (opds_3 (gh hc rfl) rfl rfl)) (fun hc => (fun w hw => c_impl_between r.seeds 1 6)) ?_
 refine Qq (p_pickAnd rfl rfl rfl) <| Qm rfl <| zg (Gd.t1 rfl rfl rfl) (fun hc => p_fieldAddr fld_29_7.h rfl) <| zgq (Gd.t1 rfl rfl rfl) (fun hc => q_load1 ty_2.h (gh hc rfl) (Mem.box (i := 0) rfl rfl)) <| zgv (Gd.t1 rfl rfl rfl) (fun hc => (opds_3 (gh hc rfl) rfl rfl)) (fun hc => (fun w hw => c_impl_between r.capture 0 3)) ?_
 refine Qq (p_pickAnd rfl rfl rfl) <| Qm rfl <| zg (Gd.t1 rfl rfl rfl) (fun hc => p_fieldAddr fld_29_8.h rfl) <| zgq (Gd.t1 rfl rfl rfl) (fun hc => q_load1 ty_2.h (gh hc rfl) (Mem.box (i := 0) rfl rfl)) <| zgv (Gd.t1 rfl rfl rfl) (fun hc => (opds_3 (gh hc rfl) rfl rfl)) (fun hc => (fun w hw => c_impl_between r.slam 0 2)) ?_
 refine Qq (p_pickAnd rfl rfl rfl) <| Qm rfl <| zg (Gd.t1 rfl rfl rfl) (fun hc => p_fieldAddr fld_29_2.h rfl) <| zgq (Gd.t1 rfl rfl rfl) (fun hc => q_load1 ty_4.h (gh hc rfl) (Mem.box (i := 0) rfl rfl)) <| zg (Gd.t1 rfl rfl rfl) (fun hc => p_move (gh hc rfl)) <| zg (Gd.f2 rfl rfl rfl) (fun hc => p_fieldAddr fld_29_6.h rfl) <| zgq (Gd.f2 rfl rfl rfl) (fun hc => q_load1 ty_4.h (gh hc rfl) (Mem.box (i := 0) rfl rfl)) <| zg (Gd.f2 rfl rfl rfl) (fun hc => p_not (gh hc rfl)) <| zg (Gd.t1 rfl rfl rfl) (fun hc => p_pickOr (gh hc rfl) rfl (gvl rfl hc)) <| Qq (p_pickAnd rfl rfl rfl) <| Qa rfl <| JL.nil ?_
 refine zR (Up.refl _ _) ?_
 simp [outV, M.okR, Bool.and_assoc]
theorem c_impl_sumOf (list : List Int) {v_list : Value} {w : World} (h_list : (Ty.ints 2 list).ok w v_list) (r0 : list.length ≤ 4194304 := by exact om_) : RetV Tryz.prog 104 [v_list] w (.tuple #[.int .i64 (M.sumV list), .bool (M.allOk list)]) := by
 revert v_list; apply opn
 intro A1 c1 h1 bl1 bh1
 have h_list := h1
 refine enter @Tryz.func104 @Tryz.ntmps104 rfl rfl ?_
 refine zent ?_
 refine zS <| Qa rfl <| Qa rfl <| zN <| Qa rfl <| zJ <| zS <| Qm rfl <| Qz rfl <| Qm rfl <| JL.nil <| Js.block ?_
 refine zl [7, 8] (fun F U l os u m => ∃ (k : Nat) (t : Int), l = F [(4, .int .i64 t), (9, .int .i64 (k : Int))] ∧ os = U [] ∧ (k ≤ list.length) ∧ (0 ≤ t) ∧ (t ≤ 96 * k) ∧ (M.sumFrom t (list.drop k) = M.sumFrom 0 list) ∧ m = list.length - k) ⟨0, 0, rfl, rfl, zt, zt, zt, zt, rfl⟩ ?_
 rintro _ _ u2 _ ⟨k, t, rfl, rfl, hk, t0, t9, hS, rfl⟩ x2
 refine zn ?_
 refine zS <| Ql rfl rfl <| zJ ?_
 refine zi (fun h3 h3' => ?_) fun h3 h3' => ?_
 ·
  obtain ⟨b4, o4, he4, hc4⟩ := ints_elem (Ty.mono _ h1 x2.vis) (i := k) (by omega)
  refine Js.skip <| Js.seq <| Js.block <| zS <| Qq (p_indexAddr el_42 rfl rfl (by omega) (by omega) he4) <| QC hc4 rfl <| Qa rfl <| zJ <| zS <| Qm rfl <| zv rfl (fun w hw => c_impl_between (M.nth list k) 0 96) <| Qt rfl <| JL.nil ?_
  refine zi (fun h5 h5' => ?_) fun h5 h5' => ?_
  ·
   have e1 : M.allOk list = false := by rw [M.sumFrom_step (by omega), if_neg (by simpa using h5)] at hS; exact M.sumFrom_none hS.symm
   refine zS <| Qa rfl <| Qa rfl <| JL.nil ?_
   refine zR x2 ?_
   simp_all [outV, M.sumV]
  have hb : M.betw (M.nth list k) 0 96 = true := by simpa using h5
  obtain ⟨hb0, hb1⟩ := M.betw_iff.1 hb
  refine Js.skip <| Js.region <| Qm rfl <| Qm rfl <| Qp rfl rfl <| Qa rfl <| JL.nil <| Js.blockEnd <| Js.region <| Qp rfl rfl <| Qm rfl <| JL.nil ?_
  exact zag ⟨k + 1, t + (M.nth list k), rfl, rfl, zt, zt, zt, by rw [M.sumFrom_step (by omega), if_pos hb] at hS; exact hS, rfl⟩ x2
 obtain ⟨e1, e2⟩ := M.sumFrom_some (by rw [← hS]; exact M.sumFrom_end (by omega))
 refine zx ?_
 refine zS <| Qm rfl <| Qa rfl <| Qa rfl <| JL.nil ?_
 refine zR x2 ?_
 simp_all [outV, M.sumV]
theorem c_impl_copyNumbers (list : List Int) {v_list : Value} {w : World} (h_list : (Ty.ints 2 list).ok w v_list) (r0 : list.length ≤ 4194304 := by exact om_) : Ret Tryz.prog 106 [v_list] w (Ty.ints 2 list) := by
 revert v_list; apply opn
 intro A1 c1 h1 bl1 bh1
 have h_list := h1
 refine enter @Tryz.func106 @Tryz.ntmps106 rfl rfl ?_
 refine zent ?_
 refine zS <| Qa rfl <| zN <| zbs fun b2 => ?_
 refine Qm rfl ?_
 refine JL.e (e_append (i := 0) (n' := list.length) (vs' := ints_ list) el_42 rfl rfl rfl rfl (src_ints und_42 h1) (by omega) (by omega) ln2_ (by simp [ints_])) ?_
 rintro v4 _ _ ⟨⟨g5, rfl⟩, rfl⟩ _
 refine JL.fact (row_form' (i := 0) rfl) (fun hf6 => ?_)
 obtain ⟨A6, c6, rfl, bl6, bh6⟩ := hf6
 refine znl ?_
 refine Qa rfl <| JL.nil ?_
 exact zro (Up.refl _ _)
theorem c_impl_Position_copied (p : M.Pos) {v_p : Value} {w : World} (h_p : (Ty.agg (cPosition p)).ok w v_p) (r0 : p.pits.length ≤ 4194304 := by exact om_) (r1 : p.stores.length ≤ 4194304 := by exact om_) : Ret Tryz.prog 108 [v_p] w (Ty.agg (cPosition p)) := by
 revert v_p; apply opn
 intro A1 c1 h1 bl1 bh1 A2 c2 h2 bl2 bh2
 refine enter @Tryz.func108 @Tryz.ntmps108 rfl rfl ?_
 refine zent ?_
 refine zS <| zb rfl fun b3 => za zeh fun b4 => zJ ?_
 refine zdr [9] ?_
 refine jF 0 fld_44_0 rfl rfl ?_
 refine jB 1 1 ty_42 rfl rfl rfl rfl ?_
 refine jF 3 fld_44_1 rfl rfl ?_
 refine jB 4 1 ty_42 rfl rfl rfl rfl ?_
 refine jF 6 fld_44_2 rfl rfl ?_
 refine jB 7 1 ty_2 rfl rfl rfl rfl ?_
 refine y1 2 ?_
 refine ycs rfl rfl (fun w hw => c_impl_copyNumbers p.pits (ok_ hw)) ?_
 intro A5 c5 bl5 bh5
 refine y1 5 ?_
 refine ycs rfl rfl (fun w hw => c_impl_copyNumbers p.stores (ok_ hw)) ?_
 intro A6 c6 bl6 bh6
 refine JH.p 8 rfl (q_bld) ?_
 refine y1 9 ?_
 refine yst rfl rfl rfl ?_
 refine yd ?_
 exact zro (Up.refl _ _)
theorem c_impl_Rules_isMove (r : M.Rul) {v_r : Value} (move : Int) {w : World} (h_r : (Ty.agg (cRules r)).ok w v_r) (r0 : 2 ≤ r.pits := by exact om_) (r1 : r.pits ≤ 8 := by exact om_) : RetV Tryz.prog 190 [v_r, .int .i64 move] w (.bool (M.betw move 0 (r.pits - 1))) := by
 revert v_r; apply opn
 refine enter @Tryz.func190 @Tryz.ntmps190 rfl rfl ?_
 refine zent ?_
 refine zS <| zb rfl fun b1 => Qa rfl <| zN <| Qm rfl <| Qf fh rfl <| Q0 0 rfl rfl rfl <| Qs rfl rfl <| zv rfl (fun w hw => c_impl_between move 0 (r.pits - 1)) <| Qa rfl <| JL.nil ?_
 exact zr (Up.refl _ _)
theorem c_impl_Rules_pitOf (r : M.Rul) {v_r : Value} (player move : Int) {w : World} (h_r : (Ty.agg (cRules r)).ok w v_r) (r0 : 2 ≤ r.pits := by exact om_) (r1 : r.pits ≤ 8 := by exact om_) (r2 : player = 0 ∨ player = 1 := by exact om_) (r3 : -1000 ≤ move := by exact om_) (r4 : move ≤ 1000 := by exact om_) : RetV Tryz.prog 173 [v_r, .int .i64 player, .int .i64 move] w (.int .i64 (player * r.pits + move)) := by
 have hq := M.mul_bd r2 r0 r1
 revert v_r; apply opn
 refine enter @Tryz.func173 @Tryz.ntmps173 rfl rfl ?_
 refine zent ?_
 refine zS <| zb rfl fun b1 => Qa rfl <| zN <| Qm rfl <| Qf fh rfl <| Q0 0 rfl rfl rfl <| Qu rfl rfl <| Qm rfl <| Qp rfl rfl <| Qa rfl <| JL.nil ?_
 exact zr (Up.refl _ _)
theorem c_impl_Rules_owner (r : M.Rul) {v_r : Value} (pit : Int) {w : World} (h_r : (Ty.agg (cRules r)).ok w v_r) (r0 : 2 ≤ r.pits := by exact om_) (r1 : r.pits ≤ 8 := by exact om_) (r2 : 0 ≤ pit := by exact om_) (r3 : pit ≤ 1000 := by exact om_) : RetV Tryz.prog 176 [v_r, .int .i64 pit] w (.int .i64 (M.owner r pit)) := by
 revert v_r; apply opn
 refine enter @Tryz.func176 @Tryz.ntmps176 rfl rfl ?_
 refine zent ?_
 refine zS <| zb rfl fun b1 => Qa rfl <| zN <| Qm rfl <| Qf fh rfl <| Q0 0 rfl rfl rfl <| Qq (p_quo rfl rfl (by omega) (wrap_quo (by omega) (by omega) (by omega))) <| Qa rfl <| JL.nil ?_
 refine zR (Up.refl _ _) ?_
 rfl
theorem c_impl_Rules_opposite (r : M.Rul) {v_r : Value} (pit : Int) {w : World} (h_r : (Ty.agg (cRules r)).ok w v_r) (r0 : 2 ≤ r.pits := by exact om_) (r1 : r.pits ≤ 8 := by exact om_) (r2 : 0 ≤ pit := by exact om_) (r3 : pit ≤ 1000 := by exact om_) : RetV Tryz.prog 192 [v_r, .int .i64 pit] w (.int .i64 (M.opp r pit)) := by
 revert v_r; apply opn
 refine enter @Tryz.func192 @Tryz.ntmps192 rfl rfl ?_
 refine zent ?_
 refine zS <| zb rfl fun b1 => Qa rfl <| zN <| Qf fh rfl <| Q0 0 rfl rfl rfl <| Qu rfl rfl <| Qs rfl rfl <| Qm rfl <| Qs rfl rfl <| Qa rfl <| JL.nil ?_
 refine zR (Up.refl _ _) ?_
 rfl
theorem c_impl_Rules_after (r : M.Rul) {v_r : Value} (player place : Int) {w : World} (h_r : (Ty.agg (cRules r)).ok w v_r) (r0 : 2 ≤ r.pits := by exact om_) (r1 : r.pits ≤ 8 := by exact om_) (r2 : player = 0 ∨ player = 1 := by exact om_) (r3 : -1 ≤ place := by exact om_) (r4 : place ≤ 1000 := by exact om_) : RetV Tryz.prog 197 [v_r, .int .i64 player, .int .i64 place] w (.int .i64 (M.after r player place)) := by
 have hq := M.mul_bd r2 r0 r1
 have hr := Int.emod_nonneg (place + 1) (b := 2 * r.pits) (by omega)
 revert v_r; apply opn
 refine enter @Tryz.func197 @Tryz.ntmps197 rfl rfl ?_
 refine zent ?_
 refine zS <| zb rfl fun b1 => Qa rfl <| zN <| Qm rfl <| Qp rfl rfl <| Qf fh rfl <| Q0 0 rfl rfl rfl <| Qu rfl rfl <| Qs rfl rfl <| Qa rfl <| zJ <| Js.block <| zS ?_
 refine Qm rfl <| Qm rfl <| Qe rfl rfl <| Qm rfl <| zg (Gd.t1 rfl rfl rfl) (fun hc => p_fieldAddr fld_29_2.h rfl) <| zgq (Gd.t1 rfl rfl rfl) (fun hc => q_load1 ty_4.h (gh hc rfl) (Mem.box (i := 0) rfl rfl)) <| Qq (p_pickAnd rfl rfl rfl) <| Qa rfl <| JL.nil ?_
 refine zi (fun h2 h2' => ?_) fun h2 h2' => ?_
 ·
  refine zS <| Qa rfl <| JL.nil ?_
  refine zR (Up.refl _ _) ?_
  simp_all [outV, M.after]
 refine zS <| Qm rfl <| Qe rfl rfl <| Qa rfl <| JL.nil ?_
 refine zi (fun h3 h3' => ?_) fun h3 h3' => ?_
 ·
  have hrn4 := Int.emod_nonneg ((((player + 1) * r.pits) - 1) + 1) (b := 2 * r.pits) (by omega)
  have hrl4 := Int.emod_lt_of_pos ((((player + 1) * r.pits) - 1) + 1) (show 0 < 2 * r.pits by omega)
  refine Js.region <| Qm rfl <| Qa rfl <| JL.nil <| Js.blockEnd <| zS <| Qm rfl <| Qp rfl rfl <| Qf fh rfl <| Q0 0 rfl rfl rfl <| Qu rfl rfl <| Qq (p_rem rfl rfl (by omega) (Int.tmod_eq_emod_of_nonneg (by omega))) <| Qa rfl <| JL.nil ?_
  refine zR (Up.refl _ _) ?_
  simp_all [outV, M.after]
 have hrn5 := Int.emod_nonneg (place + 1) (b := 2 * r.pits) (by omega)
 have hrl5 := Int.emod_lt_of_pos (place + 1) (show 0 < 2 * r.pits by omega)
 refine Js.skip <| Js.blockEnd <| zS <| Qm rfl <| Qp rfl rfl <| Qf fh rfl <| Q0 0 rfl rfl rfl <| Qu rfl rfl <| Qq (p_rem rfl rfl (by omega) (Int.tmod_eq_emod_of_nonneg (by omega))) <| Qa rfl <| JL.nil ?_
 refine zR (Up.refl _ _) ?_
 simp_all [outV, M.after]
theorem c_impl_Rules_side (r : M.Rul) {v_r : Value} (pits : List Int) {v_pits : Value} (player : Int) {w : World} (h_r : (Ty.agg (cRules r)).ok w v_r) (h_pits : (Ty.ints 2 pits).ok w v_pits) (r0 : 2 ≤ r.pits := by exact om_) (r1 : r.pits ≤ 8 := by exact om_) (r2 : player = 0 ∨ player = 1 := by exact om_) (r3 : (pits.length : Int) = 2 * r.pits := by exact om_) (r4 : M.allOk pits = true := by exact om_) : RetV Tryz.prog 150 [v_r, v_pits, .int .i64 player] w (.int .i64 (M.side r pits player)) := by
 have hq := M.mul_bd r2 r0 r1
 have e1 : ((player + 1) * r.pits).toNat - (player * r.pits).toNat = r.pits.toNat := by omega
 revert v_r; apply opn
 revert v_pits; apply opn
 intro A1 c1 h1 bl1 bh1
 have h_pits := h1
 refine enter @Tryz.func150 @Tryz.ntmps150 rfl rfl ?_
 refine zent ?_
 have hs3 := ints_cut (a := (player * r.pits).toNat) (b := ((player + 1) * r.pits).toNat) (m := c1) h1 (by omega) (by omega) (by omega) (by omega)
 have hl3 : ((pits.drop ((player * r.pits).toNat)).take ((((player + 1) * r.pits).toNat) - ((player * r.pits).toNat))).length = (((player + 1) * r.pits).toNat) - ((player * r.pits).toNat) := by rw [List.length_take, List.length_drop]; omega
 refine zS <| zb rfl fun b2 => Qa rfl <| zN <| Qm rfl <| Qm rfl <| Qf fh rfl <| Q0 0 rfl rfl rfl <| Qu rfl rfl <| Qm rfl <| Qp rfl rfl <| Qf fh rfl <| Q0 0 rfl rfl rfl <| Qu rfl rfl ?_
 refine Qq (p_slice (lo' := (player * r.pits).toNat) (hi' := ((player + 1) * r.pits).toNat) (mx' := c1) el_42 rfl rfl ⟨_, by rw [Int.toNat_of_nonneg (by omega)]; exact rfl, by omega⟩ ⟨_, by rw [Int.toNat_of_nonneg (by omega)]; exact rfl, by omega⟩) <| zv rfl (fun w hw => c_impl_sumOf ((pits.drop ((player * r.pits).toNat)).take ((((player + 1) * r.pits).toNat) - ((player * r.pits).toNat))) (ok_ hw)) <| Qm rfl <| Qx rfl rfl <| Qx rfl rfl <| Qa rfl <| Qa rfl <| zN <| Qm rfl <| Qa rfl <| JL.nil ?_
 refine zR (Up.refl _ _) ?_
 rw [e1]; simp [outV, M.side, M.sumV_ok (M.allOk_take _ (M.allOk_drop _ r4))]
theorem c_impl_ValidPosition (r : M.Rul) {v_r : Value} (p : M.Pos) {v_p : Value} {w : World} (h_r : (Ty.agg (cRules r)).ok w v_r) (h_p : (Ty.agg (cPosition p)).ok w v_p) (r0 : p.pits.length ≤ 4194304 := by exact om_) (r1 : p.stores.length ≤ 4194304 := by exact om_) : RetV Tryz.prog 53 [v_r, v_p] w (.bool (M.okP r p)) := by
 have b1 := M.sumV_bd p.pits
 have b2 := M.sumV_bd p.stores
 revert v_r; apply opn
 revert v_p; apply opn
 intro A1 c1 h1 bl1 bh1 A2 c2 h2 bl2 bh2
 refine enter @Tryz.func53 @Tryz.ntmps53 rfl rfl ?_
 refine zent ?_
 refine zS <| zb rfl fun b3 => zb rfl fun b4 => Qa rfl <| zJ <| zS <| Q9 1 rfl rfl ?_
 refine zv rfl (fun w hw => c_impl_ValidRules r (ok_ hw)) <| Qt rfl <| Qm rfl <| zg (Gd.f1 rfl rfl rfl) (fun hc => p_fieldAddr fld_44_0.h rfl) <| zgq (Gd.f1 rfl rfl rfl) (fun hc => q_load1 ty_42.h (gh hc rfl) (Mem.box (i := 0) rfl rfl)) <| zg (Gd.f1 rfl rfl rfl) (fun hc => p_len el_42 (gh hc rfl)) <| zg (Gd.f1 rfl rfl rfl) (fun hc => p_fieldAddr fld_29_0.h rfl) <| zgq (Gd.f1 rfl rfl rfl) (fun hc => q_load1 ty_2.h (gh hc rfl) (Mem.box (i := 1) rfl rfl)) <| zg (Gd.f1 rfl rfl rfl) (fun hc => p_mul rfl (gh hc rfl) (IntWalk.i64_in _ (by have := M.okR_bd (r := r) (by simpa using hc); omega))) ?_
 refine zg (Gd.f1 rfl rfl rfl) (fun hc => p_neq (gh hc rfl) (gh hc rfl)) <| Qq (p_pickOr rfl rfl rfl) <| Qm rfl <| zg (Gd.f1 rfl rfl rfl) (fun hc => p_fieldAddr fld_44_1.h rfl) <| zgq (Gd.f1 rfl rfl rfl) (fun hc => q_load1 ty_42.h (gh hc rfl) (Mem.box (i := 0) rfl rfl)) <| zg (Gd.f1 rfl rfl rfl) (fun hc => p_len el_42 (gh hc rfl)) <| zg (Gd.f1 rfl rfl rfl) (fun hc => p_neq (gh hc rfl) rfl) <| Qq (p_pickOr rfl rfl rfl) <| Qm rfl <| zg (Gd.f1 rfl rfl rfl) (fun hc => p_fieldAddr fld_44_2.h rfl) <| zgq (Gd.f1 rfl rfl rfl) (fun hc => q_load1 ty_2.h (gh hc rfl) (Mem.box (i := 0) rfl rfl)) <| zgv (Gd.f1 rfl rfl rfl) (fun hc => (opds_1 (gh hc rfl))) (fun hc => (fun w hw => c_impl_isPlayer p.player)) ?_
 refine zg (Gd.f1 rfl rfl rfl) (fun hc => p_not (gh hc rfl)) <| Qq (p_pickOr rfl rfl rfl) <| JL.nil ?_
 refine zi (fun h5 h5' => ?_) fun h5 h5' => ?_
 ·
  refine zS <| Qa rfl <| JL.nil ?_
  refine zR (Up.refl _ _) ?_
  simp only [outV, Ending.returned.injEq, Value.bool.injEq]; rw [eq_comm, Bool.eq_false_iff]; intro hx; obtain ⟨g1, g2, g3, g4, -, -, g7⟩ := M.okP_bd hx; have g8 := M.okP_okR hx; simp [g8, g3, g4, M.isPl] at h5; omega
 refine Js.skip <| zS <| Qf fh rfl <| Q0 0 rfl rfl rfl <| zv rfl (fun w hw => c_impl_sumOf p.pits (ok_ hw)) <| Qm rfl <| Qx rfl rfl <| Qx rfl rfl <| Qa rfl <| Qa rfl <| zN <| Qf fh rfl <| Q0 0 rfl rfl rfl <| zv rfl (fun w hw => c_impl_sumOf p.stores (ok_ hw)) ?_
 refine Qm rfl <| Qx rfl rfl <| Qx rfl rfl <| Qa rfl <| Qa rfl <| zN <| Qm rfl <| Qm rfl <| zg (Gd.t1 rfl rfl rfl) (fun hc => p_move rfl) <| Qq (p_pickAnd rfl rfl rfl) <| Qm rfl <| zg (Gd.t1 rfl rfl rfl) (fun hc => p_move rfl) <| zg (Gd.t1 rfl rfl rfl) (fun hc => p_move rfl) <| zg (Gd.t1 rfl rfl rfl) (fun hc => p_add (gh hc rfl) (gh hc rfl) (IntWalk.i64_in _ (by have hc9 := hc; (try simp only [Bool.and_eq_true] at hc9); omega))) ?_
 refine zg (Gd.t1 rfl rfl rfl) (fun hc => p_leq (gh hc rfl) rfl) <| Qq (p_pickAnd rfl rfl rfl) <| Qa rfl <| JL.nil ?_
 refine zR (Up.refl _ _) ?_
 simp only [outV, Ending.returned.injEq, Value.bool.injEq]; exact M.okP_sum_ (by simpa using h5)
theorem c_impl_sowCode (r : M.Rul) {v_r : Value} (p : M.Pos) {v_p : Value} (move : Int) {w : World} (h_r : (Ty.agg (cRules r)).ok w v_r) (h_p : (Ty.agg (cPosition p)).ok w v_p) (r0 : p.pits.length ≤ 4194304 := by exact om_) (r1 : p.stores.length ≤ 4194304 := by exact om_) : RetV Tryz.prog 170 [v_r, v_p, .int .i64 move] w (.int .i64 (M.sowCode r p move)) := by
 revert v_r; apply opn
 revert v_p; apply opn
 intro A1 c1 h1 bl1 bh1 A2 c2 h2 bl2 bh2
 refine enter @Tryz.func170 @Tryz.ntmps170 rfl rfl ?_
 refine zent ?_
 refine zS <| zb rfl fun b3 => zb rfl fun b4 => Qa rfl <| zJ <| zS <| Q9 1 rfl rfl ?_
 refine Q9 0 rfl rfl ?_
 refine zv rfl (fun w hw => c_impl_ValidPosition r p (ok_ hw) (ok_ hw)) <| Qt rfl <| JL.nil ?_
 refine zi (fun h5 h5' => ?_) fun h5 h5' => ?_
 ·
  refine zS <| Qa rfl <| JL.nil ?_
  refine zR (Up.refl _ _) ?_
  simp_all [outV, M.sowCode, M.getI]
 have hok : M.okP r p = true := by simpa using h5
 obtain ⟨g1, g2, g3, g4, g5, g6, g7⟩ := M.okP_bd hok
 have hq := M.mul_bd g7 g1 g2
 refine Js.skip <| Js.seq <| zS <| Q9 1 rfl rfl ?_
 refine Qm rfl <| zv rfl (fun w hw => c_impl_Rules_isMove r move (ok_ hw)) <| Qt rfl <| JL.nil ?_
 refine zi (fun h6 h6' => ?_) fun h6 h6' => ?_
 ·
  refine zS <| Qa rfl <| JL.nil ?_
  refine zR (Up.refl _ _) ?_
  simp_all [outV, M.sowCode, M.getI]
 obtain ⟨m0, m1⟩ := M.betw_iff.1 (show M.betw move 0 (r.pits - 1) = true by simpa using h6)
 refine Js.skip <| Js.seq <| Js.seq ?_
 refine zdr [] ?_
 refine jF 0 fld_44_0 rfl rfl ?_
 refine jB 1 0 ty_42 rfl rfl rfl rfl ?_
 refine JH.q 2 rfl (L9 1 rfl rfl) ?_
 refine jF 3 fld_44_2 rfl rfl ?_
 refine jB 4 0 ty_2 rfl rfl rfl rfl ?_
 refine jM 5 rfl rfl ?_
 refine y1 6 ?_
 refine yv rfl rfl (fun w hw => c_impl_Rules_pitOf r p.player move (ok_ hw)) ?_
 obtain ⟨b7, o7, he7, hc7⟩ := ints_elem h1 (i := (p.player * r.pits + move).toNat) (by omega)
 refine jI 7 el_42 rfl rfl rfl he7 ?_
 refine jW 8 ty_2 rfl rfl hc7.vis ?_
 refine JH.p 9 rfl (p_eql rfl rfl) ?_
 refine yd ?_
 refine zi (fun h8 h8' => ?_) fun h8 h8' => ?_
 ·
  refine zS <| Qa rfl <| JL.nil ?_
  refine zR (Up.refl _ _) ?_
  simp_all [outV, M.sowCode, M.getI]
 refine Js.skip <| zS <| Qa rfl <| JL.nil ?_
 refine zR (Up.refl _ _) ?_
 simp_all [outV, M.sowCode, M.getI]
theorem c_impl_newSowing (r : M.Rul) {v_r : Value} (p : M.Pos) {v_p : Value} {w : World} (h_r : (Ty.agg (cRules r)).ok w v_r) (h_p : (Ty.agg (cPosition p)).ok w v_p) (r0 : p.pits.length ≤ 4194304 := by exact om_) (r1 : p.stores.length ≤ 4194304 := by exact om_) : Ret Tryz.prog 171 [v_r, v_p] w (Ty.box 205 (csowing (M.Sow.mk r p.player (M.Sw.mk p.pits p.stores 0 0) []))) := by
 revert v_r; apply opn
 revert v_p; apply opn
 intro A1 c1 h1 bl1 bh1 A2 c2 h2 bl2 bh2
 refine enter @Tryz.func171 @Tryz.ntmps171 rfl rfl ?_
 refine zent ?_
 refine zS <| zb rfl fun b3 => zb rfl fun b4 => Qa rfl <| zN <| Q9 0 rfl rfl ?_
 refine zc rfl (fun w hw => c_impl_Position_copied p (ok_ hw)) ?_
 intro A6 c6 bl6 bh6 A7 c7 bl7 bh7
 refine za zeh fun b8 => zw 0 rfl rfl rfl ?_
 refine zN <| Q9 4 rfl rfl ?_
 refine Qf fh rfl <| Q0 3 rfl rfl rfl <| Qf fh rfl <| Q0 0 rfl rfl rfl <| Qf fh rfl <| Q0 0 rfl rfl rfl <| Qb ?_
 refine zbs fun b9 => ?_
 refine Qb ?_
 refine zb rfl fun b11 => Qa rfl <| JL.nil ?_
 exact zro (Up.refl _ _)
theorem c_impl_sowing_lap (s_rules : M.Rul) (s_player : Int) (s_sown : M.Sw) (s_path : List Int) {As_10 : Option Addr} {cs_10 : Nat} {gs_10 : List Nat} {As_11 : Option Addr} {cs_11 : Nat} {gs_11 : List Nat} {As_14 : Option Addr} {cs_14 : Nat} {gs_14 : List Nat} (from_ : Int) {bs : Nat} {w : World} (hb : Bw w [boxO bs [.int .i64 s_rules.pits, .int .i64 s_rules.seeds, .bool s_rules.stores, .bool s_rules.skip, .bool s_rules.relay, .bool s_rules.feed, .bool s_rules.again, .int .i64 s_rules.capture, .int .i64 s_rules.slam, .int .i64 s_player, .slice As_10 s_sown.pits.length cs_10, .slice As_11 s_sown.stores.length cs_11, .int .i64 s_sown.last, .int .i64 s_sown.laps, .slice As_14 s_path.length cs_14] 205, rowO 2 1 (.slice As_10 s_sown.pits.length cs_10) s_sown.pits.length (ints_ s_sown.pits) gs_10, rowO 2 1 (.slice As_11 s_sown.stores.length cs_11) s_sown.stores.length (ints_ s_sown.stores) gs_11, rowO 2 1 (.slice As_14 s_path.length cs_14) s_path.length (ints_ s_path) gs_14]) (bd0 : s_sown.pits.length ≤ cs_10 := by exact om_) (bd1 : cs_10 ≤ 9223372036854775807 := by exact om_) (bd2 : s_sown.stores.length ≤ cs_11 := by exact om_) (bd3 : cs_11 ≤ 9223372036854775807 := by exact om_) (bd4 : s_path.length ≤ cs_14 := by exact om_) (bd5 : cs_14 ≤ 9223372036854775807 := by exact om_) (r0 : 2 ≤ s_rules.pits := by exact om_) (r1 : s_rules.pits ≤ 8 := by exact om_) (r2 : s_player = 0 ∨ s_player = 1 := by exact om_) (r3 : 0 ≤ from_ := by exact om_) (r4 : from_ < 2 * s_rules.pits := by exact om_) (r5 : M.Good s_rules s_sown.pits s_sown.stores 0 := by exact om_) (r6 : 0 < (M.getI s_sown.pits from_) := by exact om_) (r7 : 0 ≤ s_sown.laps := by exact om_) (r8 : s_sown.laps ≤ 99 := by exact om_) (r9 : s_path.length ≤ 10000 := by exact om_) : RetB Tryz.prog 191 [.pointer (some ⟨bs, 0, none⟩), .int .i64 from_] w [boxO bs [.int .i64 s_rules.pits, .int .i64 s_rules.seeds, .bool s_rules.stores, .bool s_rules.skip, .bool s_rules.relay, .bool s_rules.feed, .bool s_rules.again, .int .i64 s_rules.capture, .int .i64 s_rules.slam, .int .i64 s_player, .slice As_10 s_sown.pits.length cs_10, .slice As_11 s_sown.stores.length cs_11, .int .i64 s_sown.last, .int .i64 s_sown.laps, .slice As_14 s_path.length cs_14] 205, rowO 2 1 (.slice As_10 s_sown.pits.length cs_10) s_sown.pits.length (ints_ s_sown.pits) gs_10, rowO 2 1 (.slice As_11 s_sown.stores.length cs_11) s_sown.stores.length (ints_ s_sown.stores) gs_11, rowO 2 1 (.slice As_14 s_path.length cs_14) s_path.length (ints_ s_path) gs_14] (fun v bs' => ∃ (Axs_10 : Option Addr) (cxs_10 : Nat) (gxs_10 : List Nat) (Axs_11 : Option Addr) (cxs_11 : Nat) (gxs_11 : List Nat) (Axs_14 : Option Addr) (cxs_14 : Nat) (gxs_14 : List Nat), v = .bool (M.more s_rules (M.lap s_rules s_player from_ s_sown s_path).1) ∧ bs' = [boxO bs [.int .i64 s_rules.pits, .int .i64 s_rules.seeds, .bool s_rules.stores, .bool s_rules.skip, .bool s_rules.relay, .bool s_rules.feed, .bool s_rules.again, .int .i64 s_rules.capture, .int .i64 s_rules.slam, .int .i64 s_player, .slice Axs_10 ((((M.lap s_rules s_player from_ s_sown s_path).1).pits).length) cxs_10, .slice Axs_11 ((((M.lap s_rules s_player from_ s_sown s_path).1).stores).length) cxs_11, .int .i64 (((M.lap s_rules s_player from_ s_sown s_path).1).last), .int .i64 (((M.lap s_rules s_player from_ s_sown s_path).1).laps), .slice Axs_14 (((M.lap s_rules s_player from_ s_sown s_path).2).length) cxs_14] 205, rowO 2 1 (.slice Axs_10 ((((M.lap s_rules s_player from_ s_sown s_path).1).pits).length) cxs_10) ((((M.lap s_rules s_player from_ s_sown s_path).1).pits).length) (ints_ (((M.lap s_rules s_player from_ s_sown s_path).1).pits)) gxs_10, rowO 2 1 (.slice Axs_11 ((((M.lap s_rules s_player from_ s_sown s_path).1).stores).length) cxs_11) ((((M.lap s_rules s_player from_ s_sown s_path).1).stores).length) (ints_ (((M.lap s_rules s_player from_ s_sown s_path).1).stores)) gxs_11, rowO 2 1 (.slice Axs_14 (((M.lap s_rules s_player from_ s_sown s_path).2).length) cxs_14) (((M.lap s_rules s_player from_ s_sown s_path).2).length) (ints_ ((M.lap s_rules s_player from_ s_sown s_path).2)) gxs_14] ∧ (((M.lap s_rules s_player from_ s_sown s_path).1).pits).length ≤ cxs_10 ∧ cxs_10 ≤ 9223372036854775807 ∧ (((M.lap s_rules s_player from_ s_sown s_path).1).stores).length ≤ cxs_11 ∧ cxs_11 ≤ 9223372036854775807 ∧ ((M.lap s_rules s_player from_ s_sown s_path).2).length ≤ cxs_14 ∧ cxs_14 ≤ 9223372036854775807) := by
 have l1 := r5.lp
 have l2 := r5.ls
 have hk0 := r5.pit from_
 refine enterB hb @Tryz.func191 @Tryz.ntmps191 rfl rfl ?_
 refine zent ?_
 refine Js.trashE ?_
 refine zn ?_
 refine Js.fact (row_some (i := 1) rfl (by omega)) (fun hf1 => ?_)
 obtain ⟨b1, rfl⟩ := hf1
 refine Js.fact (row_some (i := 2) rfl (by omega)) (fun hf2 => ?_)
 obtain ⟨b2, rfl⟩ := hf2
 refine zS <| Qa rfl <| zN <| Qm rfl <| Qc rfl <| Qf fh rfl <| Qf fh rfl <| Q0 0 rfl rfl rfl <| Qm rfl <| Qq (p_indexAddr el_42 rfl rfl (by omega) (by omega) rfl) <| Qw (q_load1 ty_2.h rfl (Mem.row (i := 1) rfl (ints_getI (i := from_) (by omega)))) <| Qm rfl <| Qa rfl <| Qa rfl ?_
 refine Qa rfl <| zN <| Qm rfl <| Qc rfl <| Qf fh rfl <| Qf fh rfl <| Q0 0 rfl rfl rfl <| Qm rfl <| Qq (p_indexAddr el_42 rfl rfl (by omega) (by omega) rfl) ?_
 refine JL.s (e_storeRow (i := 1) (xs' := ints_ (M.setI s_sown.pits from_ 0)) ty_2.h rfl rfl rfl rfl rfl rfl (ints_lt (i := from_.toNat) (by omega)) (ints_setL (i := from_.toNat) (by omega))) ?_
 rintro _ _ _ ⟨rfl, rfl⟩ _
 refine znl ?_
 refine zJ <| Js.block ?_
 refine zl [0, 1] (fun F U l os u m => ∃ (k place before : Int) (ps ss path : List Int) (A5_0_14 : Option Addr) (c5_0_14 : Nat) (g5_0_14 : List Nat) (G5_4 : List Nat), l = F [(5, .int .i64 k), (6, .int .i64 place), (7, .int .i64 before)] ∧ os = U [some (boxO bs [.int .i64 s_rules.pits, .int .i64 s_rules.seeds, .bool s_rules.stores, .bool s_rules.skip, .bool s_rules.relay, .bool s_rules.feed, .bool s_rules.again, .int .i64 s_rules.capture, .int .i64 s_rules.slam, .int .i64 s_player, .slice (some ⟨b1, 0, none⟩) s_sown.pits.length cs_10, .slice (some ⟨b2, 0, none⟩) s_sown.stores.length cs_11, .int .i64 s_sown.last, .int .i64 s_sown.laps, .slice A5_0_14 path.length c5_0_14] 205), some (rowO 2 1 (.slice (some ⟨b1, 0, none⟩) s_sown.pits.length cs_10) s_sown.pits.length (ints_ ps) gs_10), some (rowO 2 1 (.slice (some ⟨b2, 0, none⟩) s_sown.stores.length cs_11) s_sown.stores.length (ints_ ss) gs_11), some (rowO 2 1 (.slice A5_0_14 path.length c5_0_14) path.length (ints_ path) g5_0_14), some (anyO G5_4)] ∧ (M.sow s_rules s_player from_ k.toNat place ps ss path = M.sow s_rules s_player from_ (M.getI s_sown.pits from_).toNat from_ (M.setI s_sown.pits from_ 0) s_sown.stores s_path) ∧ (M.Good s_rules ps ss k) ∧ (-1 ≤ place) ∧ (place < 2 * s_rules.pits) ∧ ((path.length : Int) + k = s_path.length + (M.getI s_sown.pits from_)) ∧ (k = (M.getI s_sown.pits from_) ∨ (0 ≤ place → M.getI ps place = before + 1)) ∧ (path.length ≤ c5_0_14) ∧ (c5_0_14 ≤ 9223372036854775807) ∧ m = k.toNat) ⟨M.getI s_sown.pits from_, from_, 0, M.setI s_sown.pits from_ 0, s_sown.stores, s_path, _, _, _, _, rfl, rfl, by rfl, by exact r5.takeUp r3 r4, zt, zt, zt, by exact .inl rfl, zu, zu, rfl⟩ ?_
 rintro _ _ u5 _ ⟨k, place, before, ps, ss, path, A5_0_14, c5_0_14, g5_0_14, G5_4, rfl, rfl, hS, hG, p0, p1, hl, hB, f5_6, f5_7, rfl⟩ x5
 refine zn ?_
 have l3 := hG.lp
 have l4 := hG.ls
 have hs0 := hG.store s_player
 have k0 := hG.n0
 refine Js.seq <| zS <| Qm rfl <| Qg rfl rfl <| JL.nil ?_
 refine zi (fun h6 h6' => ?_) fun h6 h6' => ?_
 ·
  refine Js.skip <| Js.seq <| Js.block <| Js.seq ?_
  refine zdr [] ?_
  refine jM 0 rfl rfl ?_
  refine jN 1 rfl rfl ?_
  refine jF 2 fld_205_0 rfl rfl ?_
  refine JH.q 3 rfl (L9 0 rfl rfl) ?_
  refine jM 4 rfl rfl ?_
  refine jN 5 rfl rfl ?_
  refine jF 6 fld_205_1 rfl rfl ?_
  refine jB 7 0 ty_2 rfl rfl rfl rfl ?_
  refine jM 8 rfl rfl ?_
  refine y1 9 ?_
  refine yv rfl rfl (fun w hw => c_impl_Rules_after s_rules s_player place (ok_ hw)) ?_
  refine jA 10 rfl rfl ?_
  refine yd ?_
  refine Js.seq <| zS <| Qm rfl <| Qc rfl <| Qf fh rfl <| Qf fh rfl <| Q0 0 rfl rfl rfl <| Qm rfl <| zg (Gd.t1 rfl rfl rfl) (fun hc => p_move rfl) <| zg (Gd.t1 rfl rfl rfl) (fun hc => p_move rfl) <| zg (Gd.t1 rfl rfl rfl) (fun hc => p_eql (gh hc rfl) (gh hc rfl)) <| Qq (p_pickAnd rfl rfl rfl) <| JL.nil ?_
  refine zi (fun h7 h7' => ?_) fun h7 h7' => ?_
  ·
   have hc : s_rules.skip = true ∧ M.after s_rules s_player place = from_ := by simpa using h7
   have hq : M.nxt s_rules s_player from_ place = M.after s_rules s_player (M.after s_rules s_player place) := by rw [M.nxt_yes hc, hc.2]
   have ha := M.after_bd s_rules r1 r0 r2 p0
   refine zdr [] ?_
   refine jM 0 rfl rfl ?_
   refine jN 1 rfl rfl ?_
   refine jF 2 fld_205_0 rfl rfl ?_
   refine JH.q 3 rfl (L9 0 rfl rfl) ?_
   refine jM 4 rfl rfl ?_
   refine jN 5 rfl rfl ?_
   refine jF 6 fld_205_1 rfl rfl ?_
   refine jB 7 0 ty_2 rfl rfl rfl rfl ?_
   refine jM 8 rfl rfl ?_
   refine y1 9 ?_
   refine yv rfl rfl (fun w hw => c_impl_Rules_after s_rules s_player (M.after s_rules s_player place) (ok_ hw)) ?_
   refine jA 10 rfl rfl ?_
   refine yd ?_
   have hqb := M.nxt_bd s_rules (frm := from_) r1 r0 r2 p0 r3
   rw [hq] at hqb
   refine Js.seq <| zS <| Qm rfl <| Ql rfl rfl <| JL.nil ?_
   refine zi (fun h8 h8' => ?_) fun h8 h8' => ?_
   ·
    have hS2 : M.sow s_rules s_player from_ (k - 1).toNat (M.after s_rules s_player (M.after s_rules s_player place)) ps (M.setI ss s_player (M.getI ss s_player + 1)) (path ++ [(M.after s_rules s_player (M.after s_rules s_player place))]) = M.sow s_rules s_player from_ (M.getI s_sown.pits from_).toNat from_ (M.setI s_sown.pits from_ 0) s_sown.stores s_path := by rw [← hS, show k.toNat = (k - 1).toNat + 1 by omega, M.sow_succ hq, if_pos (by omega)]
    have hG2 := hG.putStore (k := s_player) (by omega) (by omega) (by omega)
    have hB2 : 0 ≤ (M.after s_rules s_player (M.after s_rules s_player place)) → M.getI ps (M.after s_rules s_player (M.after s_rules s_player place)) = before + 1 := fun h => by omega
    refine zdr [13] ?_
    refine jM 0 rfl rfl ?_
    refine jN 1 rfl rfl ?_
    refine jF 2 fld_205_2 rfl rfl ?_
    refine jF 3 fld_153_1 rfl rfl ?_
    refine jB 4 0 ty_42 rfl rfl rfl rfl ?_
    refine jM 5 rfl rfl ?_
    refine jN 6 rfl rfl ?_
    refine jF 7 fld_205_1 rfl rfl ?_
    refine jB 8 0 ty_2 rfl rfl rfl rfl ?_
    refine jI 9 el_42 rfl rfl rfl rfl ?_
    refine JH.q 10 rfl (q_load1 ty_2.h rfl (Mem.row (i := 2) rfl (ints_getI (i := s_player) (by omega)))) ?_
    refine JH.p 11 rfl (p_add rfl rfl (IntWalk.i64_in _ (by omega))) ?_
    refine jI 12 el_42 rfl rfl rfl rfl ?_
    refine y1 13 ?_
    refine JHo.s rfl (e_storeRow (i := 2) (xs' := ints_ (M.setI ss s_player ((M.getI ss s_player) + 1))) ty_2.h rfl rfl rfl rfl rfl rfl (ints_lt (i := s_player.toNat) (by omega)) (ints_setL (i := s_player.toNat) (by omega))) (.inr rfl) ?_
    rintro _ _ _ ⟨rfl, rfl⟩ _
    refine znh ?_
    refine yd ?_
    refine Js.region <| Qm rfl <| Qm rfl <| Qc rfl <| Qf fh rfl <| Q0 0 rfl rfl rfl <| Qm rfl <| zbs fun b11 => ?_
    refine JL.e (e_append (i := 4) (n' := (path ++ [(M.after s_rules s_player (M.after s_rules s_player place))]).length) (vs' := ints_ (path ++ [(M.after s_rules s_player (M.after s_rules s_player place))])) el_42 rfl rfl rfl rfl (src_row (i := 0) und_42 rfl rfl) (by omega) (by omega) ln2_ (by simp [ints_])) ?_
    rintro v13 _ _ ⟨⟨g14, rfl⟩, rfl⟩ _
    refine JL.fact (row_form' (i := 4) rfl) (fun hf15 => ?_)
    obtain ⟨A15, c15, rfl, bl15, bh15⟩ := hf15
    refine znl ?_
    refine Qc rfl <| Qf fh rfl <| zw 1 rfl rfl rfl ?_
    refine JL.nil <| Js.blockEnd <| Js.region <| Qm rfl <| Qs rfl rfl <| Qa rfl <| JL.nil ?_
    refine zf [1, 1, 1, 1] fun GG16 => ?_
    refine zn ?_
    exact zag ⟨k - 1, M.after s_rules s_player (M.after s_rules s_player place), before, ps, M.setI ss s_player ((M.getI ss s_player) + 1), path ++ [(M.after s_rules s_player (M.after s_rules s_player place))], _, _, _, _, rfl, rfl, by exact hS2, by exact hG2, zt, zt, by simp only [List.length_append, List.length_cons, List.length_nil]; omega, by exact .inr hB2, zu, zu, rfl⟩ x5
   have hS2 : M.sow s_rules s_player from_ (k - 1).toNat (M.after s_rules s_player (M.after s_rules s_player place)) (M.setI ps (M.after s_rules s_player (M.after s_rules s_player place)) (M.getI ps (M.after s_rules s_player (M.after s_rules s_player place)) + 1)) ss (path ++ [(M.after s_rules s_player (M.after s_rules s_player place))]) = M.sow s_rules s_player from_ (M.getI s_sown.pits from_).toNat from_ (M.setI s_sown.pits from_ 0) s_sown.stores s_path := by rw [← hS, show k.toNat = (k - 1).toNat + 1 by omega, M.sow_succ hq, if_neg (by omega)]
   have hG2 := hG.putPit (k := (M.after s_rules s_player (M.after s_rules s_player place))) (by omega) (by omega) hqb.2
   have hpq := hG.pit (M.after s_rules s_player (M.after s_rules s_player place))
   have hB2 : 0 ≤ (M.after s_rules s_player (M.after s_rules s_player place)) → M.getI (M.setI ps (M.after s_rules s_player (M.after s_rules s_player place)) (M.getI ps (M.after s_rules s_player (M.after s_rules s_player place)) + 1)) (M.after s_rules s_player (M.after s_rules s_player place)) = M.getI ps (M.after s_rules s_player (M.after s_rules s_player place)) + 1 := fun h => M.getI_setI_same h (by omega) _
   refine zS <| Qm rfl <| Qc rfl <| Qf fh rfl <| Qf fh rfl <| Q0 0 rfl rfl rfl <| Qm rfl <| Qq (p_indexAddr el_42 rfl rfl (by omega) (by omega) rfl) <| Qw (q_load1 ty_2.h rfl (Mem.row (i := 1) rfl (ints_getI (i := M.after s_rules s_player (M.after s_rules s_player place)) (by omega)))) <| Qa rfl <| zG <| Qm rfl <| Qc rfl <| Qf fh rfl ?_
   refine Qf fh rfl <| Q0 0 rfl rfl rfl <| Qm rfl <| Qq (p_indexAddr el_42 rfl rfl (by omega) (by omega) rfl) <| Qw (q_load1 ty_2.h rfl (Mem.row (i := 1) rfl (ints_getI (i := M.after s_rules s_player (M.after s_rules s_player place)) (by omega)))) <| Qp rfl rfl <| Qq (p_indexAddr el_42 rfl rfl (by omega) (by omega) rfl) ?_
   refine JL.s (e_storeRow (i := 1) (xs' := ints_ (M.setI ps (M.after s_rules s_player (M.after s_rules s_player place)) ((M.getI ps (M.after s_rules s_player (M.after s_rules s_player place))) + 1))) ty_2.h rfl rfl rfl rfl rfl rfl (ints_lt (i := (M.after s_rules s_player (M.after s_rules s_player place)).toNat) (by omega)) (ints_setL (i := (M.after s_rules s_player (M.after s_rules s_player place)).toNat) (by omega))) ?_
   rintro _ _ _ ⟨rfl, rfl⟩ _
   refine znl ?_
   refine zG <| Qm rfl <| Qm rfl <| Qc rfl <| Qf fh rfl <| Q0 0 rfl rfl rfl <| Qm rfl <| zbs fun b20 => ?_
   refine JL.e (e_append (i := 4) (n' := (path ++ [(M.after s_rules s_player (M.after s_rules s_player place))]).length) (vs' := ints_ (path ++ [(M.after s_rules s_player (M.after s_rules s_player place))])) el_42 rfl rfl rfl rfl (src_row (i := 0) und_42 rfl rfl) (by omega) (by omega) ln2_ (by simp [ints_])) ?_
   rintro v22 _ _ ⟨⟨g23, rfl⟩, rfl⟩ _
   refine JL.fact (row_form' (i := 4) rfl) (fun hf24 => ?_)
   obtain ⟨A24, c24, rfl, bl24, bh24⟩ := hf24
   refine znl ?_
   refine Qc rfl <| Qf fh rfl <| zw 1 rfl rfl rfl ?_
   refine JL.nil <| Js.blockEnd <| Js.region <| Qm rfl <| Qs rfl rfl <| Qa rfl <| JL.nil ?_
   refine zf [1, 1, 1, 1] fun GG25 => ?_
   refine zn ?_
   exact zag ⟨k - 1, M.after s_rules s_player (M.after s_rules s_player place), M.getI ps (M.after s_rules s_player (M.after s_rules s_player place)), M.setI ps (M.after s_rules s_player (M.after s_rules s_player place)) ((M.getI ps (M.after s_rules s_player (M.after s_rules s_player place))) + 1), ss, path ++ [(M.after s_rules s_player (M.after s_rules s_player place))], _, _, _, _, rfl, rfl, by exact hS2, by exact hG2, zt, zt, by simp only [List.length_append, List.length_cons, List.length_nil]; omega, by exact .inr hB2, zu, zu, rfl⟩ x5
  have hc : ¬(s_rules.skip = true ∧ M.after s_rules s_player place = from_) := by simpa using h7
  have hq := M.nxt_no hc
  have hqb := M.nxt_bd s_rules (frm := from_) r1 r0 r2 p0 r3
  rw [hq] at hqb
  refine Js.skip <| Js.seq <| zS <| Qm rfl <| Ql rfl rfl <| JL.nil ?_
  refine zi (fun h26 h26' => ?_) fun h26 h26' => ?_
  ·
   have hS2 : M.sow s_rules s_player from_ (k - 1).toNat (M.after s_rules s_player place) ps (M.setI ss s_player (M.getI ss s_player + 1)) (path ++ [(M.after s_rules s_player place)]) = M.sow s_rules s_player from_ (M.getI s_sown.pits from_).toNat from_ (M.setI s_sown.pits from_ 0) s_sown.stores s_path := by rw [← hS, show k.toNat = (k - 1).toNat + 1 by omega, M.sow_succ hq, if_pos (by omega)]
   have hG2 := hG.putStore (k := s_player) (by omega) (by omega) (by omega)
   have hB2 : 0 ≤ (M.after s_rules s_player place) → M.getI ps (M.after s_rules s_player place) = before + 1 := fun h => by omega
   refine zdr [13] ?_
   refine jM 0 rfl rfl ?_
   refine jN 1 rfl rfl ?_
   refine jF 2 fld_205_2 rfl rfl ?_
   refine jF 3 fld_153_1 rfl rfl ?_
   refine jB 4 0 ty_42 rfl rfl rfl rfl ?_
   refine jM 5 rfl rfl ?_
   refine jN 6 rfl rfl ?_
   refine jF 7 fld_205_1 rfl rfl ?_
   refine jB 8 0 ty_2 rfl rfl rfl rfl ?_
   refine jI 9 el_42 rfl rfl rfl rfl ?_
   refine JH.q 10 rfl (q_load1 ty_2.h rfl (Mem.row (i := 2) rfl (ints_getI (i := s_player) (by omega)))) ?_
   refine JH.p 11 rfl (p_add rfl rfl (IntWalk.i64_in _ (by omega))) ?_
   refine jI 12 el_42 rfl rfl rfl rfl ?_
   refine y1 13 ?_
   refine JHo.s rfl (e_storeRow (i := 2) (xs' := ints_ (M.setI ss s_player ((M.getI ss s_player) + 1))) ty_2.h rfl rfl rfl rfl rfl rfl (ints_lt (i := s_player.toNat) (by omega)) (ints_setL (i := s_player.toNat) (by omega))) (.inr rfl) ?_
   rintro _ _ _ ⟨rfl, rfl⟩ _
   refine znh ?_
   refine yd ?_
   refine Js.region <| Qm rfl <| Qm rfl <| Qc rfl <| Qf fh rfl <| Q0 0 rfl rfl rfl <| Qm rfl <| zbs fun b29 => ?_
   refine JL.e (e_append (i := 4) (n' := (path ++ [(M.after s_rules s_player place)]).length) (vs' := ints_ (path ++ [(M.after s_rules s_player place)])) el_42 rfl rfl rfl rfl (src_row (i := 0) und_42 rfl rfl) (by omega) (by omega) ln2_ (by simp [ints_])) ?_
   rintro v31 _ _ ⟨⟨g32, rfl⟩, rfl⟩ _
   refine JL.fact (row_form' (i := 4) rfl) (fun hf33 => ?_)
   obtain ⟨A33, c33, rfl, bl33, bh33⟩ := hf33
   refine znl ?_
   refine Qc rfl <| Qf fh rfl <| zw 1 rfl rfl rfl ?_
   refine JL.nil <| Js.blockEnd <| Js.region <| Qm rfl <| Qs rfl rfl <| Qa rfl <| JL.nil ?_
   refine zf [1, 1, 1, 1] fun GG34 => ?_
   refine zn ?_
   exact zag ⟨k - 1, M.after s_rules s_player place, before, ps, M.setI ss s_player ((M.getI ss s_player) + 1), path ++ [(M.after s_rules s_player place)], _, _, _, _, rfl, rfl, by exact hS2, by exact hG2, zt, zt, by simp only [List.length_append, List.length_cons, List.length_nil]; omega, by exact .inr hB2, zu, zu, rfl⟩ x5
  have hS2 : M.sow s_rules s_player from_ (k - 1).toNat (M.after s_rules s_player place) (M.setI ps (M.after s_rules s_player place) (M.getI ps (M.after s_rules s_player place) + 1)) ss (path ++ [(M.after s_rules s_player place)]) = M.sow s_rules s_player from_ (M.getI s_sown.pits from_).toNat from_ (M.setI s_sown.pits from_ 0) s_sown.stores s_path := by rw [← hS, show k.toNat = (k - 1).toNat + 1 by omega, M.sow_succ hq, if_neg (by omega)]
  have hG2 := hG.putPit (k := (M.after s_rules s_player place)) (by omega) (by omega) hqb.2
  have hpq := hG.pit (M.after s_rules s_player place)
  have hB2 : 0 ≤ (M.after s_rules s_player place) → M.getI (M.setI ps (M.after s_rules s_player place) (M.getI ps (M.after s_rules s_player place) + 1)) (M.after s_rules s_player place) = M.getI ps (M.after s_rules s_player place) + 1 := fun h => M.getI_setI_same h (by omega) _
  refine zS <| Qm rfl <| Qc rfl <| Qf fh rfl <| Qf fh rfl <| Q0 0 rfl rfl rfl <| Qm rfl <| Qq (p_indexAddr el_42 rfl rfl (by omega) (by omega) rfl) <| Qw (q_load1 ty_2.h rfl (Mem.row (i := 1) rfl (ints_getI (i := M.after s_rules s_player place) (by omega)))) <| Qa rfl <| zG <| Qm rfl <| Qc rfl <| Qf fh rfl ?_
  refine Qf fh rfl <| Q0 0 rfl rfl rfl <| Qm rfl <| Qq (p_indexAddr el_42 rfl rfl (by omega) (by omega) rfl) <| Qw (q_load1 ty_2.h rfl (Mem.row (i := 1) rfl (ints_getI (i := M.after s_rules s_player place) (by omega)))) <| Qp rfl rfl <| Qq (p_indexAddr el_42 rfl rfl (by omega) (by omega) rfl) ?_
  refine JL.s (e_storeRow (i := 1) (xs' := ints_ (M.setI ps (M.after s_rules s_player place) ((M.getI ps (M.after s_rules s_player place)) + 1))) ty_2.h rfl rfl rfl rfl rfl rfl (ints_lt (i := (M.after s_rules s_player place).toNat) (by omega)) (ints_setL (i := (M.after s_rules s_player place).toNat) (by omega))) ?_
  rintro _ _ _ ⟨rfl, rfl⟩ _
  refine znl ?_
  refine zG <| Qm rfl <| Qm rfl <| Qc rfl <| Qf fh rfl <| Q0 0 rfl rfl rfl <| Qm rfl <| zbs fun b38 => ?_
  refine JL.e (e_append (i := 4) (n' := (path ++ [(M.after s_rules s_player place)]).length) (vs' := ints_ (path ++ [(M.after s_rules s_player place)])) el_42 rfl rfl rfl rfl (src_row (i := 0) und_42 rfl rfl) (by omega) (by omega) ln2_ (by simp [ints_])) ?_
  rintro v40 _ _ ⟨⟨g41, rfl⟩, rfl⟩ _
  refine JL.fact (row_form' (i := 4) rfl) (fun hf42 => ?_)
  obtain ⟨A42, c42, rfl, bl42, bh42⟩ := hf42
  refine znl ?_
  refine Qc rfl <| Qf fh rfl <| zw 1 rfl rfl rfl ?_
  refine JL.nil <| Js.blockEnd <| Js.region <| Qm rfl <| Qs rfl rfl <| Qa rfl <| JL.nil ?_
  refine zf [1, 1, 1, 1] fun GG43 => ?_
  refine zn ?_
  exact zag ⟨k - 1, M.after s_rules s_player place, M.getI ps (M.after s_rules s_player place), M.setI ps (M.after s_rules s_player place) ((M.getI ps (M.after s_rules s_player place)) + 1), ss, path ++ [(M.after s_rules s_player place)], _, _, _, _, rfl, rfl, by exact hS2, by exact hG2, zt, zt, by simp only [List.length_append, List.length_cons, List.length_nil]; omega, by exact .inr hB2, zu, zu, rfl⟩ x5
 have hL : M.lap s_rules s_player from_ s_sown s_path = (⟨ps, ss, place, s_sown.laps + 1⟩, path) := by unfold M.lap; rw [← hS]; simp [show k.toNat = 0 by omega, M.sow]
 have hB3 := hB.resolve_left (by omega)
 refine zx ?_
 refine zS <| Qm rfl <| Qm rfl <| Qc rfl <| Qf fh rfl <| Qf fh rfl <| zw 0 rfl rfl rfl ?_
 refine zN <| Qm rfl <| Qc rfl <| Qf fh rfl <| Qf fh rfl <| Q0 0 rfl rfl rfl <| Qp rfl rfl <| Qc rfl <| Qf fh rfl <| Qf fh rfl <| zw 0 rfl rfl rfl ?_
 refine zN <| Qm rfl <| Qc rfl <| Qf fh rfl <| Qf fh rfl <| Q0 0 rfl rfl rfl <| Qm rfl <| zg (Gd.t1 rfl rfl rfl) (fun hc => p_move rfl) <| zg (Gd.t1 rfl rfl rfl) (fun hc => p_geq (gh hc rfl) rfl) <| Qq (p_pickAnd rfl rfl rfl) <| Qm rfl <| zg (Gd.t1 rfl rfl rfl) (fun hc => p_move rfl) <| zg (Gd.t1 rfl rfl rfl) (fun hc => p_gtr (gh hc rfl) rfl) <| Qq (p_pickAnd rfl rfl rfl) ?_
 refine Qa rfl <| JL.nil ?_
 refine zrb [0, 0, 0, 0] hb x5 ?_
 have e5 : 0 ≤ place → (1 < M.getI ps place ↔ 0 < before) := fun h => by rw [hB3 h]; omega
 clear hS
 have hE : (.bool ((s_rules.relay && (decide (0 ≤ place))) && (decide (0 < before))) : Value) = .bool (M.more s_rules (M.lap s_rules s_player from_ s_sown s_path).1) := by rw [hL]; by_cases hp : 0 ≤ place <;> simp [M.more, hp, e5]
 have hN11 : (((M.lap s_rules s_player from_ s_sown s_path).1).pits).length = s_sown.pits.length := by first | (rw [hL]; done) | (rw [hL]; show ps.length = _; omega) | (rw [hL]; show ss.length = _; omega)
 have hE11 : ((M.lap s_rules s_player from_ s_sown s_path).1).pits = ps := by rw [hL]
 have hN12 : (((M.lap s_rules s_player from_ s_sown s_path).1).stores).length = s_sown.stores.length := by first | (rw [hL]; done) | (rw [hL]; show ps.length = _; omega) | (rw [hL]; show ss.length = _; omega)
 have hE12 : ((M.lap s_rules s_player from_ s_sown s_path).1).stores = ss := by rw [hL]
 have hE13 : ((M.lap s_rules s_player from_ s_sown s_path).1).last = place := by rw [hL]
 have hE14 : ((M.lap s_rules s_player from_ s_sown s_path).1).laps = (s_sown.laps + 1) := by rw [hL]
 have hN15 : ((M.lap s_rules s_player from_ s_sown s_path).2).length = path.length := by first | (rw [hL]; done) | (rw [hL]; show ps.length = _; omega) | (rw [hL]; show ss.length = _; omega)
 have hE15 : (M.lap s_rules s_player from_ s_sown s_path).2 = path := by rw [hL]
 refine ⟨(some ⟨b1, 0, none⟩), cs_10, gs_10, (some ⟨b2, 0, none⟩), cs_11, gs_11, A5_0_14, c5_0_14, g5_0_14, hE, ?_, ?_, ?_, ?_, ?_, ?_, ?_⟩
 · rw [hN11, hE11, hN12, hE12, hE13, hE14, hN15, hE15]
 all_goals (first | (rw [hN11, hE11, hN12, hE12, hE13, hE14, hN15, hE15]; omega) | omega | (simp only [*]; omega) | (simp; done))
theorem c_impl_sowing_move (s_rules : M.Rul) (s_player : Int) (s_sown : M.Sw) (s_path : List Int) {As_10 : Option Addr} {cs_10 : Nat} {gs_10 : List Nat} {As_11 : Option Addr} {cs_11 : Nat} {gs_11 : List Nat} {As_14 : Option Addr} {cs_14 : Nat} {gs_14 : List Nat} (from_ : Int) {bs : Nat} {w : World} (hb : Bw w [boxO bs [.int .i64 s_rules.pits, .int .i64 s_rules.seeds, .bool s_rules.stores, .bool s_rules.skip, .bool s_rules.relay, .bool s_rules.feed, .bool s_rules.again, .int .i64 s_rules.capture, .int .i64 s_rules.slam, .int .i64 s_player, .slice As_10 s_sown.pits.length cs_10, .slice As_11 s_sown.stores.length cs_11, .int .i64 s_sown.last, .int .i64 s_sown.laps, .slice As_14 s_path.length cs_14] 205, rowO 2 1 (.slice As_10 s_sown.pits.length cs_10) s_sown.pits.length (ints_ s_sown.pits) gs_10, rowO 2 1 (.slice As_11 s_sown.stores.length cs_11) s_sown.stores.length (ints_ s_sown.stores) gs_11, rowO 2 1 (.slice As_14 s_path.length cs_14) s_path.length (ints_ s_path) gs_14]) (bd0 : s_sown.pits.length ≤ cs_10 := by exact om_) (bd1 : cs_10 ≤ 9223372036854775807 := by exact om_) (bd2 : s_sown.stores.length ≤ cs_11 := by exact om_) (bd3 : cs_11 ≤ 9223372036854775807 := by exact om_) (bd4 : s_path.length ≤ cs_14 := by exact om_) (bd5 : cs_14 ≤ 9223372036854775807 := by exact om_) (r0 : 2 ≤ s_rules.pits := by exact om_) (r1 : s_rules.pits ≤ 8 := by exact om_) (r2 : s_player = 0 ∨ s_player = 1 := by exact om_) (r3 : 0 ≤ from_ := by exact om_) (r4 : from_ < 2 * s_rules.pits := by exact om_) (r5 : M.Good s_rules s_sown.pits s_sown.stores 0 := by exact om_) (r6 : 0 < (M.getI s_sown.pits from_) := by exact om_) (r7 : s_sown.laps = 0 := by exact om_) (r8 : s_path.length = 0 := by exact om_) : RetB Tryz.prog 172 [.pointer (some ⟨bs, 0, none⟩), .int .i64 from_] w [boxO bs [.int .i64 s_rules.pits, .int .i64 s_rules.seeds, .bool s_rules.stores, .bool s_rules.skip, .bool s_rules.relay, .bool s_rules.feed, .bool s_rules.again, .int .i64 s_rules.capture, .int .i64 s_rules.slam, .int .i64 s_player, .slice As_10 s_sown.pits.length cs_10, .slice As_11 s_sown.stores.length cs_11, .int .i64 s_sown.last, .int .i64 s_sown.laps, .slice As_14 s_path.length cs_14] 205, rowO 2 1 (.slice As_10 s_sown.pits.length cs_10) s_sown.pits.length (ints_ s_sown.pits) gs_10, rowO 2 1 (.slice As_11 s_sown.stores.length cs_11) s_sown.stores.length (ints_ s_sown.stores) gs_11, rowO 2 1 (.slice As_14 s_path.length cs_14) s_path.length (ints_ s_path) gs_14] (fun v bs' => ∃ (Axs_10 : Option Addr) (cxs_10 : Nat) (gxs_10 : List Nat) (Axs_11 : Option Addr) (cxs_11 : Nat) (gxs_11 : List Nat) (Axs_14 : Option Addr) (cxs_14 : Nat) (gxs_14 : List Nat), v = .bool ((M.mvT s_rules s_player 100 from_ s_sown s_path).1) ∧ bs' = [boxO bs [.int .i64 s_rules.pits, .int .i64 s_rules.seeds, .bool s_rules.stores, .bool s_rules.skip, .bool s_rules.relay, .bool s_rules.feed, .bool s_rules.again, .int .i64 s_rules.capture, .int .i64 s_rules.slam, .int .i64 s_player, .slice Axs_10 ((((M.mvT s_rules s_player 100 from_ s_sown s_path).2.1).pits).length) cxs_10, .slice Axs_11 ((((M.mvT s_rules s_player 100 from_ s_sown s_path).2.1).stores).length) cxs_11, .int .i64 (((M.mvT s_rules s_player 100 from_ s_sown s_path).2.1).last), .int .i64 (((M.mvT s_rules s_player 100 from_ s_sown s_path).2.1).laps), .slice Axs_14 (((M.mvT s_rules s_player 100 from_ s_sown s_path).2.2).length) cxs_14] 205, rowO 2 1 (.slice Axs_10 ((((M.mvT s_rules s_player 100 from_ s_sown s_path).2.1).pits).length) cxs_10) ((((M.mvT s_rules s_player 100 from_ s_sown s_path).2.1).pits).length) (ints_ (((M.mvT s_rules s_player 100 from_ s_sown s_path).2.1).pits)) gxs_10, rowO 2 1 (.slice Axs_11 ((((M.mvT s_rules s_player 100 from_ s_sown s_path).2.1).stores).length) cxs_11) ((((M.mvT s_rules s_player 100 from_ s_sown s_path).2.1).stores).length) (ints_ (((M.mvT s_rules s_player 100 from_ s_sown s_path).2.1).stores)) gxs_11, rowO 2 1 (.slice Axs_14 (((M.mvT s_rules s_player 100 from_ s_sown s_path).2.2).length) cxs_14) (((M.mvT s_rules s_player 100 from_ s_sown s_path).2.2).length) (ints_ ((M.mvT s_rules s_player 100 from_ s_sown s_path).2.2)) gxs_14] ∧ (((M.mvT s_rules s_player 100 from_ s_sown s_path).2.1).pits).length ≤ cxs_10 ∧ cxs_10 ≤ 9223372036854775807 ∧ (((M.mvT s_rules s_player 100 from_ s_sown s_path).2.1).stores).length ≤ cxs_11 ∧ cxs_11 ≤ 9223372036854775807 ∧ ((M.mvT s_rules s_player 100 from_ s_sown s_path).2.2).length ≤ cxs_14 ∧ cxs_14 ≤ 9223372036854775807) := by
 refine enterB hb @Tryz.func172 @Tryz.ntmps172 rfl rfl ?_
 refine zent ?_
 refine Js.trashE ?_
 refine zn ?_
 refine zS <| Qa rfl <| zJ <| Js.block ?_
 refine zl [0] (fun F U l os u m => ∃ (frm : Int) (sw : M.Sw) (path : List Int) (A1_0_10 : Option Addr) (c1_0_10 : Nat) (g1_0_10 : List Nat) (A1_0_11 : Option Addr) (c1_0_11 : Nat) (g1_0_11 : List Nat) (A1_0_14 : Option Addr) (c1_0_14 : Nat) (g1_0_14 : List Nat) (G1_4 : List Nat), l = F [(1, .int .i64 frm)] ∧ os = U [some (boxO bs [.int .i64 s_rules.pits, .int .i64 s_rules.seeds, .bool s_rules.stores, .bool s_rules.skip, .bool s_rules.relay, .bool s_rules.feed, .bool s_rules.again, .int .i64 s_rules.capture, .int .i64 s_rules.slam, .int .i64 s_player, .slice A1_0_10 sw.pits.length c1_0_10, .slice A1_0_11 sw.stores.length c1_0_11, .int .i64 sw.last, .int .i64 sw.laps, .slice A1_0_14 path.length c1_0_14] 205), some (rowO 2 1 (.slice A1_0_10 sw.pits.length c1_0_10) sw.pits.length (ints_ sw.pits) g1_0_10), some (rowO 2 1 (.slice A1_0_11 sw.stores.length c1_0_11) sw.stores.length (ints_ sw.stores) g1_0_11), some (rowO 2 1 (.slice A1_0_14 path.length c1_0_14) path.length (ints_ path) g1_0_14), some (anyO G1_4)] ∧ (M.mvT s_rules s_player (100 - sw.laps).toNat frm sw path = M.mvT s_rules s_player 100 from_ s_sown s_path) ∧ (M.Good s_rules sw.pits sw.stores 0) ∧ (0 ≤ frm) ∧ (frm < 2 * s_rules.pits) ∧ (0 < M.getI sw.pits frm) ∧ (0 ≤ sw.laps) ∧ (sw.laps ≤ 99) ∧ (path.length ≤ 96 * sw.laps) ∧ (sw.pits.length ≤ c1_0_10) ∧ (c1_0_10 ≤ 9223372036854775807) ∧ (sw.stores.length ≤ c1_0_11) ∧ (c1_0_11 ≤ 9223372036854775807) ∧ (path.length ≤ c1_0_14) ∧ (c1_0_14 ≤ 9223372036854775807) ∧ m = (100 - sw.laps).toNat) ⟨from_, s_sown, s_path, _, _, _, _, _, _, _, _, _, _, rfl, rfl, by rw [r7]; rfl, by exact r5, zt, zt, by exact r6, zt, zt, zt, zu, zu, zu, zu, zu, zu, rfl⟩ ?_
 rintro _ _ u1 _ ⟨frm, sw, path, A1_0_10, c1_0_10, g1_0_10, A1_0_11, c1_0_11, g1_0_11, A1_0_14, c1_0_14, g1_0_14, G1_4, rfl, rfl, hS, hG, f0, f1, hg, la0, la1, hl, f1_8, f1_9, f1_10, f1_11, f1_12, f1_13, rfl⟩ x1
 refine zn ?_
 obtain ⟨ha, hb1, hc, hd, he, hf⟩ := M.lap_keeps s_rules path r1 r0 r2 f0 f1 hG
 refine Js.seq <| zS <| Qm rfl <| Qm rfl <| zBB 4 sp_ rfl (fun w hb _ hw => c_impl_sowing_lap s_rules s_player sw path frm hb) ?_
 rintro _ _ G2 ⟨A2s_10, c2s_10, g2s_10, A2s_11, c2s_11, g2s_11, A2s_14, c2s_14, g2s_14, rfl, rfl, bl2_0, bl2_1, bl2_2, bl2_3, bl2_4, bl2_5⟩
 refine znl ?_
 refine JL.nil ?_
 refine zi (fun h3 h3' => ?_) fun h3 h3' => ?_
 ·
  have hm2 := M.more_get h3
  refine Js.skip <| Js.block <| Js.seq <| zS <| Qm rfl <| Qc rfl <| Qf fh rfl <| Qf fh rfl <| Q0 0 rfl rfl rfl <| Qe rfl rfl <| JL.nil ?_
  refine zi (fun h4 h4' => ?_) fun h4 h4' => ?_
  ·
   have hL : M.mvT s_rules s_player 100 from_ s_sown s_path = (false, (M.lap s_rules s_player frm sw path).1, (M.lap s_rules s_player frm sw path).2) := by rw [← hS, show (100 - sw.laps).toNat = 0 + 1 by omega, M.mvT_yes (by assumption)]; rfl
   refine zS <| Qa rfl <| JL.nil ?_
   refine zrb [0, 0, 0, 0] hb x1 ?_
   have hE : (.bool false : Value) = .bool ((M.mvT s_rules s_player 100 from_ s_sown s_path).1) := by rw [hL]
   have hN11 : (((M.mvT s_rules s_player 100 from_ s_sown s_path).2.1).pits).length = (((M.lap s_rules s_player frm sw path).1).pits).length := by rw [hL]
   have hE11 : ((M.mvT s_rules s_player 100 from_ s_sown s_path).2.1).pits = (((M.lap s_rules s_player frm sw path).1).pits) := by rw [hL]
   have hN12 : (((M.mvT s_rules s_player 100 from_ s_sown s_path).2.1).stores).length = (((M.lap s_rules s_player frm sw path).1).stores).length := by rw [hL]
   have hE12 : ((M.mvT s_rules s_player 100 from_ s_sown s_path).2.1).stores = (((M.lap s_rules s_player frm sw path).1).stores) := by rw [hL]
   have hE13 : ((M.mvT s_rules s_player 100 from_ s_sown s_path).2.1).last = (((M.lap s_rules s_player frm sw path).1).last) := by rw [hL]
   have hE14 : ((M.mvT s_rules s_player 100 from_ s_sown s_path).2.1).laps = (((M.lap s_rules s_player frm sw path).1).laps) := by rw [hL]
   have hN15 : ((M.mvT s_rules s_player 100 from_ s_sown s_path).2.2).length = ((M.lap s_rules s_player frm sw path).2).length := by rw [hL]
   have hE15 : (M.mvT s_rules s_player 100 from_ s_sown s_path).2.2 = ((M.lap s_rules s_player frm sw path).2) := by rw [hL]
   refine ⟨A2s_10, c2s_10, g2s_10, A2s_11, c2s_11, g2s_11, A2s_14, c2s_14, g2s_14, hE, ?_, ?_, ?_, ?_, ?_, ?_, ?_⟩
   · rw [hN11, hE11, hN12, hE12, hE13, hE14, hN15, hE15]
   all_goals (first | (rw [hN11, hE11, hN12, hE12, hE13, hE14, hN15, hE15]; omega) | omega | (simp only [*]; omega) | (simp; done))
  have hS2 : M.mvT s_rules s_player (100 - (M.lap s_rules s_player frm sw path).1.laps).toNat (M.lap s_rules s_player frm sw path).1.last (M.lap s_rules s_player frm sw path).1 (M.lap s_rules s_player frm sw path).2 = M.mvT s_rules s_player 100 from_ s_sown s_path := by rw [← hS, hf, show (100 - sw.laps).toNat = (100 - (sw.laps + 1)).toNat + 1 by omega, M.mvT_yes (by assumption)]
  refine Js.skip <| Js.region <| Qm rfl <| Qc rfl <| Qf fh rfl <| Qf fh rfl <| Q0 0 rfl rfl rfl <| Qa rfl <| JL.nil <| Js.blockEnd ?_
  refine zf [0, 0, 0, 0] fun GG5 => ?_
  refine zn ?_
  exact zag ⟨((M.lap s_rules s_player frm sw path).1).last, (M.lap s_rules s_player frm sw path).1, (M.lap s_rules s_player frm sw path).2, _, _, _, _, _, _, _, _, _, _, rfl, rfl, by exact hS2, by exact ha, by exact hm2.1, by exact hc, by omega, by omega, by omega, by omega, zu, zu, zu, zu, zu, zu, rfl⟩ x1
 have hL : M.mvT s_rules s_player 100 from_ s_sown s_path = (true, (M.lap s_rules s_player frm sw path).1, (M.lap s_rules s_player frm sw path).2) := by rw [← hS, show (100 - sw.laps).toNat = (99 - sw.laps).toNat + 1 by omega, M.mvT_no h3]
 refine zx ?_
 refine zS <| Qa rfl <| JL.nil ?_
 refine zrb [0, 0, 0, 0] hb x1 ?_
 have hE : (.bool true : Value) = .bool ((M.mvT s_rules s_player 100 from_ s_sown s_path).1) := by rw [hL]
 have hN11 : (((M.mvT s_rules s_player 100 from_ s_sown s_path).2.1).pits).length = (((M.lap s_rules s_player frm sw path).1).pits).length := by rw [hL]
 have hE11 : ((M.mvT s_rules s_player 100 from_ s_sown s_path).2.1).pits = (((M.lap s_rules s_player frm sw path).1).pits) := by rw [hL]
 have hN12 : (((M.mvT s_rules s_player 100 from_ s_sown s_path).2.1).stores).length = (((M.lap s_rules s_player frm sw path).1).stores).length := by rw [hL]
 have hE12 : ((M.mvT s_rules s_player 100 from_ s_sown s_path).2.1).stores = (((M.lap s_rules s_player frm sw path).1).stores) := by rw [hL]
 have hE13 : ((M.mvT s_rules s_player 100 from_ s_sown s_path).2.1).last = (((M.lap s_rules s_player frm sw path).1).last) := by rw [hL]
 have hE14 : ((M.mvT s_rules s_player 100 from_ s_sown s_path).2.1).laps = (((M.lap s_rules s_player frm sw path).1).laps) := by rw [hL]
 have hN15 : ((M.mvT s_rules s_player 100 from_ s_sown s_path).2.2).length = ((M.lap s_rules s_player frm sw path).2).length := by rw [hL]
 have hE15 : (M.mvT s_rules s_player 100 from_ s_sown s_path).2.2 = ((M.lap s_rules s_player frm sw path).2) := by rw [hL]
 refine ⟨A2s_10, c2s_10, g2s_10, A2s_11, c2s_11, g2s_11, A2s_14, c2s_14, g2s_14, hE, ?_, ?_, ?_, ?_, ?_, ?_, ?_⟩
 · rw [hN11, hE11, hN12, hE12, hE13, hE14, hN15, hE15]
 all_goals (first | (rw [hN11, hE11, hN12, hE12, hE13, hE14, hN15, hE15]; omega) | omega | (simp only [*]; omega) | (simp; done))
theorem c_impl_sowMove (r : M.Rul) {v_r : Value} (p : M.Pos) {v_p : Value} (move : Int) {w : World} (h_r : (Ty.agg (cRules r)).ok w v_r) (h_p : (Ty.agg (cPosition p)).ok w v_p) (r0 : p.pits.length ≤ 4194304 := by exact om_) (r1 : p.stores.length ≤ 4194304 := by exact om_) : Ret Tryz.prog 146 [v_r, v_p, .int .i64 move] w (Ty.tup [Ty.opt (decide ((M.sowMove r p move).1 = 0)) (Ty.box 205 (csowing (M.Sow.mk r p.player (M.sowMove r p move).2.1 (M.sowMove r p move).2.2))), Ty.int ((M.sowMove r p move).1)]) := by
 revert v_r; apply opn
 revert v_p; apply opn
 intro A1 c1 h1 bl1 bh1 A2 c2 h2 bl2 bh2
 refine enter @Tryz.func146 @Tryz.ntmps146 rfl rfl ?_
 refine zent ?_
 refine zS <| zb rfl fun b3 => zb rfl fun b4 => Qa rfl <| Qa rfl <| zJ <| zS <| Q9 1 rfl rfl ?_
 refine Q9 0 rfl rfl ?_
 refine Qm rfl <| zv rfl (fun w hw => c_impl_sowCode r p move (ok_ hw) (ok_ hw)) <| Qa rfl <| zN <| Qm rfl <| Qd rfl rfl <| JL.nil ?_
 refine zi (fun h5 h5' => ?_) fun h5 h5' => ?_
 ·
  have hn : M.sowCode r p move ≠ 0 := by simpa using h5
  have hM := M.sowMove_code hn
  have hM0 : ¬ M.sowCode r p move = 0 := hn
  have hq0 : (decide ((M.sowMove r p move).1 = 0)) = false := by rw [hM]; simpa using hM0
  have hq1 : (M.sowCode r p move) = (M.sowMove r p move).1 := by rw [hM]
  refine zS <| Qm rfl <| Qa rfl <| Qa rfl <| JL.nil ?_
  exact zro (Up.refl _ _)
 have hc0 : M.sowCode r p move = 0 := by simpa using h5
 obtain ⟨hok, m0, m1, hg0⟩ := M.sowCode_ok hc0
 obtain ⟨g1, g2, g3, g4, g5, g6, g7⟩ := M.okP_bd hok
 have hq := M.mul_bd g7 g1 g2
 have hG := M.Good.of_ok hok
 refine Js.skip <| zS <| Q9 1 rfl rfl ?_
 refine Q9 0 rfl rfl ?_
 refine zcs rfl (fun w hw => c_impl_newSowing r p (ok_ hw) (ok_ hw)) ?_
 intro b6 A7 c7 bl7 bh7 A8 c8 bl8 bh8 A9 c9 bl9 bh9
 refine Qa rfl <| zJ <| zS <| Qm rfl <| Q9 5 rfl rfl ?_
 refine Qf fh rfl <| Q0 4 rfl rfl rfl <| Qm rfl <| zv rfl (fun w hw => c_impl_Rules_pitOf r p.player move (ok_ hw)) ?_
 refine zhl [0, 2, 1, 0] ?_
 refine zB 4 sp_ rfl (fun w hb hw => c_impl_sowing_move r p.player (M.Sw.mk p.pits p.stores 0 0) [] (p.player * r.pits + move) hb (r5 := hG) (r6 := hg0) (r7 := rfl) (r8 := rfl)) ?_
 rintro _ _ G10 ⟨A10s_10, c10s_10, g10s_10, A10s_11, c10s_11, g10s_11, A10s_14, c10s_14, g10s_14, rfl, rfl, bl10_0, bl10_1, bl10_2, bl10_3, bl10_4, bl10_5⟩
 refine znl ?_
 refine Qt rfl <| JL.nil ?_
 refine zi (fun h11 h11' => ?_) fun h11 h11' => ?_
 ·
  have hM := M.sowMove_end hc0 (by simpa using h11)
  have hq0 : (decide ((M.sowMove r p move).1 = 0)) = false := by rw [hM]; rfl
  have hq1 : 10 = (M.sowMove r p move).1 := by rw [hM]
  refine zS <| Qa rfl <| Qa rfl <| JL.nil ?_
  exact zro (Up.refl _ _)
 have hM := M.sowMove_yes hc0 (by simpa using h11)
 have hq0 : (decide ((M.sowMove r p move).1 = 0)) = true := by rw [hM]; rfl
 have hq1 : (((M.mvT r p.player 100 (p.player * r.pits + move) (M.Sw.mk p.pits p.stores 0 0) []).2.1).pits) = ((M.sowMove r p move).2.1).pits := by rw [hM]
 have hq2 : (((M.mvT r p.player 100 (p.player * r.pits + move) (M.Sw.mk p.pits p.stores 0 0) []).2.1).stores) = ((M.sowMove r p move).2.1).stores := by rw [hM]
 have hq3 : (((M.mvT r p.player 100 (p.player * r.pits + move) (M.Sw.mk p.pits p.stores 0 0) []).2.1).last) = ((M.sowMove r p move).2.1).last := by rw [hM]
 have hq4 : (((M.mvT r p.player 100 (p.player * r.pits + move) (M.Sw.mk p.pits p.stores 0 0) []).2.1).laps) = ((M.sowMove r p move).2.1).laps := by rw [hM]
 have hq5 : ((M.mvT r p.player 100 (p.player * r.pits + move) (M.Sw.mk p.pits p.stores 0 0) []).2.2) = (M.sowMove r p move).2.2 := by rw [hM]
 have hq6 : 0 = (M.sowMove r p move).1 := by rw [hM]
 refine Js.skip <| zS <| Qm rfl <| Qa rfl <| Qa rfl <| JL.nil ?_
 exact zro (Up.refl _ _)
theorem c_impl_Rules_taken (r : M.Rul) {v_r : Value} (s : M.Sw) {v_s : Value} (player : Int) {w : World} (h_r : (Ty.agg (cRules r)).ok w v_r) (h_s : (Ty.agg (cSown s)).ok w v_s) (r0 : 2 ≤ r.pits := by exact om_) (r1 : r.pits ≤ 8 := by exact om_) (r2 : player = 0 ∨ player = 1 := by exact om_) (r3 : M.Good r s.pits s.stores 0 := by exact om_) (r4 : -1 ≤ s.last := by exact om_) (r5 : s.last < 2 * r.pits := by exact om_) : Ret Tryz.prog 175 [v_r, v_s, .int .i64 player] w (Ty.ints 2 (M.taken r s player)) := by
 have l1 := r3.lp
 have l2 := r3.ls
 have hv : 0 ≤ M.getI s.pits s.last := M.nn_nth r3.np _
 have hv9 := r3.pit s.last
 revert v_r; apply opn
 revert v_s; apply opn
 intro A1 c1 h1 bl1 bh1 A2 c2 h2 bl2 bh2
 refine enter @Tryz.func175 @Tryz.ntmps175 rfl rfl ?_
 refine zent ?_
 obtain ⟨b3, o3, rfl⟩ := ints_some h1 (by omega)
 refine zS <| zb rfl fun b4 => zb rfl fun b5 => Qa rfl <| zN <| zbs fun b6 => ?_
 refine Qa rfl <| zJ <| zS <| Qf fh rfl <| Q0 1 rfl rfl rfl <| Ql rfl rfl <| JL.nil ?_
 refine zi (fun h8 h8' => ?_) fun h8 h8' => ?_
 ·
  have hR : M.taken r s player = [] := by unfold M.taken; rw [if_pos (by simpa using h8)]
  have hq0 : [] = M.taken r s player := by rw [hR]
  refine zS <| Qm rfl <| Qa rfl <| JL.nil ?_
  exact zro (Up.refl _ _)
 have hl0 : ¬ s.last < 0 := by simpa using h8
 refine Js.skip <| zS <| Q9 2 rfl rfl ?_
 refine Qf fh rfl <| Q0 1 rfl rfl rfl <| zv rfl (fun w hw => c_impl_Rules_owner r s.last (ok_ hw)) <| Qm rfl <| Qe rfl rfl <| Qa rfl <| zJ <| zS <| Qf fh rfl <| Q0 2 rfl rfl rfl <| JL.nil <| Js.block <| zS <| Qe rfl rfl ?_
 refine Qa rfl <| JL.nil ?_
 refine zi (fun h9 h9' => ?_) fun h9 h9' => ?_
 ·
  have hcap : r.capture = 1 := by simpa using h9
  refine zS <| Qf fh rfl <| Q0 1 rfl rfl rfl <| Qa rfl <| JL.nil <| Js.block ?_
  refine zl [2, 3, 4] (fun F U l os u m => ∃ (k : Int) (out : List Int) (A10_7 : Option Addr) (c10_7 : Nat) (g10_7 : List Nat), l = F [(7, .slice A10_7 out.length c10_7), (9, .int .i64 k)] ∧ os = U [some (rowO 2 1 (.slice A10_7 out.length c10_7) out.length (ints_ out) g10_7)] ∧ (out ++ M.ttI r player s.pits k = M.ttI r player s.pits s.last) ∧ (-1 ≤ k) ∧ (k < 2 * r.pits) ∧ ((out.length : Int) + k = s.last) ∧ (out.length ≤ c10_7) ∧ (c10_7 ≤ 9223372036854775807) ∧ m = (k + 1).toNat) ⟨s.last, [], _, _, _, rfl, rfl, by rfl, zt, zt, by simp, zu, zu, rfl⟩ ?_
  rintro _ _ u10 _ ⟨k, out, A10_7, c10_7, g10_7, rfl, rfl, hS, k0, k1, hl, f10_4, f10_5, rfl⟩ x10
  refine zn ?_
  refine Js.seq <| zS <| Qm rfl <| Qh rfl rfl <| Qm rfl <| zgq (Gd.t1 rfl rfl rfl) (fun hc => L9 2 rfl rfl) <| zg (Gd.t1 rfl rfl rfl) (fun hc => p_move rfl) <| zgv (Gd.t1 rfl rfl rfl) (fun hc => (opds_2 (gh hc rfl) (gh hc rfl))) (fun hc => (fun w hw => c_impl_Rules_owner r k (ok_ hw) (r0 := (oh_ hc)) (r1 := (oh_ hc)) (r2 := (oh_ hc)) (r3 := (oh_ hc)))) ?_
  refine zg (Gd.t1 rfl rfl rfl) (fun hc => p_move rfl) <| zg (Gd.t1 rfl rfl rfl) (fun hc => p_neq (gh hc rfl) (gh hc rfl)) <| Qq (p_pickAnd rfl rfl rfl) <| Qm rfl <| zg (Gd.t1 rfl rfl rfl) (fun hc => p_fieldAddr fld_153_0.h rfl) <| zgq (Gd.t1 rfl rfl rfl) (fun hc => q_load1 ty_42.h (gh hc rfl) (Mem.box (i := 1) rfl rfl)) <| zg (Gd.t1 rfl rfl rfl) (fun hc => p_move rfl) <| zg (Gd.t1 rfl rfl rfl) (fun hc => p_indexAddr el_42 (gh hc rfl) (gh hc rfl) (by have hc9 := hc; (try simp only [Bool.and_eq_true, decide_eq_true_eq, Bool.not_eq_true', decide_eq_false_iff_not] at hc9); omega) (by have hc9 := hc; (try simp only [Bool.and_eq_true, decide_eq_true_eq, Bool.not_eq_true', decide_eq_false_iff_not] at hc9); omega) rfl) ?_
  refine zgq (Gd.t1 rfl rfl rfl) (fun hc => q_load1 ty_2.h (gh hc rfl) (Mem.pub (ints_cellI (i := k) (Ty.mono _ h1 x10.vis) (by have hc9 := hc; (try simp only [Bool.and_eq_true, decide_eq_true_eq, Bool.not_eq_true', decide_eq_false_iff_not] at hc9); omega)))) ?_
  refine zgv (Gd.t1 rfl rfl rfl) (fun hc => (opds_3 (gh hc rfl) rfl rfl)) (fun hc => (fun w hw => c_impl_between (M.getI s.pits k) 2 3)) ?_
  refine Qq (p_pickAnd rfl rfl rfl) <| JL.nil ?_
  refine zi (fun h12 h12' => ?_) fun h12 h12' => ?_
  ·
   obtain ⟨⟨c0, c1⟩, c2⟩ : (0 ≤ k ∧ ¬ M.owner r k = player) ∧ M.betw (M.getI s.pits k) 2 3 = true := by simpa using h12
   have hS2 : (out ++ [k]) ++ M.ttI r player s.pits (k - 1) = M.ttI r player s.pits s.last := by rw [← hS, M.ttI_yes c0 c1 c2]; simp
   refine Js.skip <| Js.seq <| Js.block <| Js.region <| Qm rfl <| Qm rfl <| zbs fun b13 => ?_
   refine JL.e (e_append (i := 1) (n' := (out ++ [k]).length) (vs' := ints_ (out ++ [k])) el_42 rfl rfl rfl rfl (src_row (i := 0) und_42 rfl rfl) (by omega) (by omega) ln2_ (by simp [ints_])) ?_
   rintro v15 _ _ ⟨⟨g16, rfl⟩, rfl⟩ _
   refine JL.fact (row_form' (i := 1) rfl) (fun hf17 => ?_)
   obtain ⟨A17, c17, rfl, bl17, bh17⟩ := hf17
   refine znl ?_
   refine Qa rfl <| JL.nil <| Js.blockEnd <| Js.region <| Qm rfl <| Qs rfl rfl <| Qa rfl <| JL.nil ?_
   refine zd [1, 1, 1] rfl fun u18 x18 => ?_
   exact zag ⟨k - 1, out ++ [k], _, _, _, rfl, rfl, by exact hS2, zt, zt, by simp only [List.length_append, List.length_cons, List.length_nil]; omega, zu, zu, rfl⟩ (x10.trans x18)
  have hF : M.ttI r player s.pits k = [] := by rcases h12' with (h | h) | h; exact M.ttI_neg h; exact M.ttI_no (.inl h); exact M.ttI_no (.inr h)
  rw [hF, List.append_nil] at hS
  have hR : M.taken r s player = out := by unfold M.taken; rw [if_neg hl0, if_pos hcap, hS]; simp [M.ttI, hl0]
  refine zx ?_
  have hq0 : out = M.taken r s player := by rw [hR]
  refine Js.blockEnd <| zS <| Qm rfl <| Qa rfl <| JL.nil ?_
  exact zro x10
 have hcap1 : ¬ r.capture = 1 := by simpa using h9
 refine zS <| Qe rfl rfl <| Qa rfl <| JL.nil ?_
 refine zi (fun h19 h19' => ?_) fun h19 h19' => ?_
 ·
  have hcap : r.capture = 2 := by simpa using h19
  have ho : M.opp r s.last = 2 * r.pits - 1 - s.last := rfl
  have ho : M.opp r s.last = 2 * r.pits - 1 - s.last := rfl
  refine zS <| Q9 2 rfl rfl ?_
  refine Qf fh rfl <| Q0 1 rfl rfl rfl <| zv rfl (fun w hw => c_impl_Rules_opposite r s.last (ok_ hw)) <| Qa rfl <| zN <| Qm rfl <| Qm rfl <| zg (Gd.t1 rfl rfl rfl) (fun hc => p_fieldAddr fld_153_0.h rfl) <| zgq (Gd.t1 rfl rfl rfl) (fun hc => q_load1 ty_42.h (gh hc rfl) (Mem.box (i := 1) rfl rfl)) <| zg (Gd.t1 rfl rfl rfl) (fun hc => p_fieldAddr fld_153_2.h rfl) <| zgq (Gd.t1 rfl rfl rfl) (fun hc => q_load1 ty_2.h (gh hc rfl) (Mem.box (i := 1) rfl rfl)) <| zg (Gd.t1 rfl rfl rfl) (fun hc => p_indexAddr el_42 (gh hc rfl) (gh hc rfl) (oh_ hc) (oh_ hc) rfl) ?_
  refine zgq (Gd.t1 rfl rfl rfl) (fun hc => q_load1 ty_2.h (gh hc rfl) (Mem.pub (ints_cellI (i := s.last) h1 (oh_ hc)))) ?_
  refine zg (Gd.t1 rfl rfl rfl) (fun hc => p_eql (gh hc rfl) rfl) <| Qq (p_pickAnd rfl rfl rfl) <| Qm rfl <| zg (Gd.t1 rfl rfl rfl) (fun hc => p_fieldAddr fld_153_0.h rfl) <| zgq (Gd.t1 rfl rfl rfl) (fun hc => q_load1 ty_42.h (gh hc rfl) (Mem.box (i := 1) rfl rfl)) <| zg (Gd.t1 rfl rfl rfl) (fun hc => p_move rfl) <| zg (Gd.t1 rfl rfl rfl) (fun hc => p_indexAddr el_42 (gh hc rfl) (gh hc rfl) (by have hc9 := hc; (try simp only [Bool.and_eq_true, decide_eq_true_eq] at hc9); omega) (by have hc9 := hc; (try simp only [Bool.and_eq_true, decide_eq_true_eq] at hc9); omega) rfl) ?_
  refine zgq (Gd.t1 rfl rfl rfl) (fun hc => q_load1 ty_2.h (gh hc rfl) (Mem.pub (ints_cellI (i := M.opp r s.last) h1 (by have hc9 := hc; (try simp only [Bool.and_eq_true, decide_eq_true_eq] at hc9); omega)))) ?_
  refine zg (Gd.t1 rfl rfl rfl) (fun hc => p_gtr (gh hc rfl) rfl) <| Qq (p_pickAnd rfl rfl rfl) <| JL.nil ?_
  refine zi (fun h22 h22' => ?_) fun h22 h22' => ?_
  ·
   have hR : M.taken r s player = [s.last, M.opp r s.last] := by unfold M.taken; rw [if_neg hl0, if_neg hcap1, if_pos hcap, if_pos (by simpa [and_assoc] using h22)]
   refine Js.region <| Qm rfl <| Qf fh rfl <| Q0 1 rfl rfl rfl <| Qm rfl <| zbs fun b23 => ?_
   refine JL.e (e_append (i := 1) (n' := 2) (vs' := ints_ [s.last, (M.opp r s.last)]) el_42 rfl rfl rfl rfl (src_row (i := 0) und_42 rfl rfl) (by omega) (by omega) ln2_ (by simp [ints_])) ?_
   rintro v25 _ _ ⟨⟨g26, rfl⟩, rfl⟩ _
   refine JL.fact (row_form' (i := 1) rfl) (fun hf27 => ?_)
   obtain ⟨A27, c27, rfl, bl27, bh27⟩ := hf27
   refine znl ?_
   have hq0 : [s.last, (M.opp r s.last)] = M.taken r s player := by rw [hR]
   refine Qa rfl <| JL.nil <| Js.blockEnd <| zS <| Qm rfl <| Qa rfl <| JL.nil ?_
   exact zro (Up.refl _ _)
  have hR : M.taken r s player = [] := by unfold M.taken; rw [if_neg hl0, if_neg hcap1, if_pos hcap, if_neg (by simpa [and_assoc] using h22)]
  have hq0 : [] = M.taken r s player := by rw [hR]
  refine Js.skip <| Js.blockEnd <| zS <| Qm rfl <| Qa rfl <| JL.nil ?_
  exact zro (Up.refl _ _)
 have hcap2 : ¬ r.capture = 2 := by simpa using h19
 refine zS <| Qe rfl rfl <| Qa rfl <| JL.nil ?_
 refine zi (fun h28 h28' => ?_) fun h28 h28' => ?_
 ·
  have hcap : r.capture = 3 := by simpa using h28
  refine zS <| Qm rfl <| Qt rfl <| Qm rfl <| zg (Gd.t1 rfl rfl rfl) (fun hc => p_fieldAddr fld_153_0.h rfl) <| zgq (Gd.t1 rfl rfl rfl) (fun hc => q_load1 ty_42.h (gh hc rfl) (Mem.box (i := 1) rfl rfl)) <| zg (Gd.t1 rfl rfl rfl) (fun hc => p_fieldAddr fld_153_2.h rfl) <| zgq (Gd.t1 rfl rfl rfl) (fun hc => q_load1 ty_2.h (gh hc rfl) (Mem.box (i := 1) rfl rfl)) <| zg (Gd.t1 rfl rfl rfl) (fun hc => p_indexAddr el_42 (gh hc rfl) (gh hc rfl) (by have hc9 := hc; (try simp only [Bool.not_eq_true', decide_eq_false_iff_not] at hc9); omega) (by have hc9 := hc; (try simp only [Bool.not_eq_true', decide_eq_false_iff_not] at hc9); omega) rfl) ?_
  refine zgq (Gd.t1 rfl rfl rfl) (fun hc => q_load1 ty_2.h (gh hc rfl) (Mem.pub (ints_cellI (i := s.last) h1 (by have hc9 := hc; (try simp only [Bool.not_eq_true', decide_eq_false_iff_not] at hc9); omega)))) ?_
  refine zg (Gd.t1 rfl rfl rfl) (fun hc => p_rem (gh hc rfl) rfl (by have hc9 := hc; (try simp only [Bool.not_eq_true', decide_eq_false_iff_not] at hc9); omega) (Int.tmod_eq_emod_of_nonneg (by have hc9 := hc; (try simp only [Bool.not_eq_true', decide_eq_false_iff_not] at hc9); omega))) ?_
  refine zg (Gd.t1 rfl rfl rfl) (fun hc => p_eql (gh hc rfl) rfl) <| Qq (p_pickAnd rfl rfl rfl) <| JL.nil ?_
  refine zi (fun h30 h30' => ?_) fun h30 h30' => ?_
  ·
   have hR : M.taken r s player = [s.last] := by unfold M.taken; rw [if_neg hl0, if_neg hcap1, if_neg hcap2, if_pos hcap, if_pos (by simpa using h30)]
   refine Js.region <| Qm rfl <| Qf fh rfl <| Q0 1 rfl rfl rfl <| zbs fun b31 => ?_
   refine JL.e (e_append (i := 1) (n' := 1) (vs' := ints_ [s.last]) el_42 rfl rfl rfl rfl (src_row (i := 0) und_42 rfl rfl) (by omega) (by omega) ln2_ (by simp [ints_])) ?_
   rintro v33 _ _ ⟨⟨g34, rfl⟩, rfl⟩ _
   refine JL.fact (row_form' (i := 1) rfl) (fun hf35 => ?_)
   obtain ⟨A35, c35, rfl, bl35, bh35⟩ := hf35
   refine znl ?_
   have hq0 : [s.last] = M.taken r s player := by rw [hR]
   refine Qa rfl <| JL.nil <| Js.blockEnd <| zS <| Qm rfl <| Qa rfl <| JL.nil ?_
   exact zro (Up.refl _ _)
  have hR : M.taken r s player = [] := by unfold M.taken; rw [if_neg hl0, if_neg hcap1, if_neg hcap2, if_pos hcap, if_neg (by simpa using h30)]
  have hq0 : [] = M.taken r s player := by rw [hR]
  refine Js.skip <| Js.blockEnd <| zS <| Qm rfl <| Qa rfl <| JL.nil ?_
  exact zro (Up.refl _ _)
 have hcap3 : ¬ r.capture = 3 := by simpa using h28
 have hR : M.taken r s player = [] := by unfold M.taken; rw [if_neg hl0, if_neg hcap1, if_neg hcap2, if_neg hcap3]
 have hq0 : [] = M.taken r s player := by rw [hR]
 refine Js.skip <| Js.blockEnd <| zS <| Qm rfl <| Qa rfl <| JL.nil ?_
 exact zro (Up.refl _ _)
theorem c_impl_Rules_slams (r : M.Rul) {v_r : Value} (s : M.Sw) {v_s : Value} (player : Int) {w : World} (h_r : (Ty.agg (cRules r)).ok w v_r) (h_s : (Ty.agg (cSown s)).ok w v_s) (r0 : 2 ≤ r.pits := by exact om_) (r1 : r.pits ≤ 8 := by exact om_) (r2 : player = 0 ∨ player = 1 := by exact om_) (r3 : M.Good r s.pits s.stores 0 := by exact om_) (r4 : -1 ≤ s.last := by exact om_) (r5 : s.last < 2 * r.pits := by exact om_) : RetV Tryz.prog 148 [v_r, v_s, .int .i64 player] w (.bool (M.slams r s player)) := by
 have l1 := r3.lp
 have l2 := r3.ls
 have hao := M.Good.ok r3
 have hlen := M.taken_len (s := s) (player := player) r5 r1
 revert v_r; apply opn
 revert v_s; apply opn
 intro A1 c1 h1 bl1 bh1 A2 c2 h2 bl2 bh2
 refine enter @Tryz.func148 @Tryz.ntmps148 rfl rfl ?_
 refine zent ?_
 obtain ⟨b3, o3, rfl⟩ := ints_some h1 (by omega)
 refine zS <| zb rfl fun b4 => zb rfl fun b5 => Qa rfl <| zN <| Q9 1 rfl rfl ?_
 refine Qf fh rfl <| Q0 0 rfl rfl rfl <| Qm rfl <| Qs rfl rfl <| zv rfl (fun w hw => c_impl_Rules_side r s.pits (1 - player) (ok_ hw) (ok_ hw) (r4 := hao.1)) <| Qa rfl <| Qa rfl <| zJ <| zS <| Q9 1 rfl rfl ?_
 refine Q9 0 rfl rfl ?_
 refine Qm rfl <| zp rfl (fun w hw => c_impl_Rules_taken r s player (ok_ hw) (ok_ hw) (r3 := r3)) ?_
 intro u6 x6 A7 c7 h7 bl7 bh7
 refine Qz rfl <| Qm rfl <| JL.nil <| Js.block ?_
 refine zl [2, 3, 4, 7, 20, 21] (fun F U l os u m => ∃ (k : Nat) (g : Int), l = F [(8, .int .i64 g), (22, .int .i64 (k : Int))] ∧ os = U [] ∧ (g + M.gone r s player ((M.taken r s player).drop k) = M.gone r s player (M.taken r s player)) ∧ (k ≤ (M.taken r s player).length) ∧ (0 ≤ g) ∧ (g ≤ 96 * k) ∧ m = (M.taken r s player).length - k) ⟨0, 0, rfl, rfl, by simp, zt, zt, zt, rfl⟩ ?_
 rintro _ _ u8 _ ⟨k, g, rfl, rfl, hS, hk, g0, g1, rfl⟩ x8
 refine zn ?_
 refine zS <| Ql rfl rfl <| zJ ?_
 refine zi (fun h9 h9' => ?_) fun h9 h9' => ?_
 ·
  have hk2 : k < (M.taken r s player).length := by have := h9; simp at this; omega
  have hx := M.taken_mem (r := r) (s := s) (player := player) r5 (M.nth_mem hk2)
  have hvx := r3.pit (M.nth (M.taken r s player) k)
  have hS1 := hS
  rw [M.drop_nth hk2, M.gone_cons] at hS1
  obtain ⟨b10, o10, he10, hc10⟩ := ints_elem (Ty.mono _ h7 x8.vis) (i := k) (by omega)
  refine Js.skip <| Js.seq <| Js.block <| zS <| Qq (p_indexAddr el_42 rfl rfl (by omega) (by omega) he10) <| QC hc10 rfl <| Qa rfl <| zN <| Q9 1 rfl rfl ?_
  refine Qm rfl <| zv rfl (fun w hw => c_impl_Rules_owner r (M.nth (M.taken r s player) k) (ok_ hw)) <| Qm rfl <| Qd rfl rfl <| JL.nil ?_
  refine zi (fun h11 h11' => ?_) fun h11 h11' => ?_
  ·
   have hS2 : (g + M.getI s.pits (M.nth (M.taken r s player) k)) + M.gone r s player ((M.taken r s player).drop (k + 1)) = M.gone r s player (M.taken r s player) := by rw [if_neg (by simpa using h11)] at hS1; omega
   refine Js.region <| Qm rfl <| Qf fh rfl <| Q0 0 rfl rfl rfl <| Qm rfl <| Qq (p_indexAddr el_42 rfl rfl (by omega) (by omega) rfl) <| Qw (q_load1 ty_2.h rfl (Mem.pub (ints_cellI (i := M.nth (M.taken r s player) k) (Ty.mono _ h1 (x6.vis.trans x8.vis)) (by omega)))) <| Qp rfl rfl <| Qa rfl <| JL.nil <| Js.blockEnd <| Js.region <| Qp rfl rfl <| Qm rfl ?_
   refine JL.nil ?_
   exact zag ⟨k + 1, g + (M.getI s.pits (M.nth (M.taken r s player) k)), rfl, rfl, by exact hS2, zt, zt, zt, rfl⟩ x8
  have hS2 : g + M.gone r s player ((M.taken r s player).drop (k + 1)) = M.gone r s player (M.taken r s player) := by rw [if_pos (by simpa using h11)] at hS1; omega
  refine Js.skip <| Js.blockEnd <| Js.region <| Qp rfl rfl <| Qm rfl <| JL.nil ?_
  exact zag ⟨k + 1, g, rfl, rfl, by exact hS2, zt, zt, zt, rfl⟩ x8
 have hg : g = M.gone r s player (M.taken r s player) := by rw [← hS, List.drop_eq_nil_of_le (by omega), M.gone_nil]; omega
 refine zx ?_
 refine zS <| Qm rfl <| Qg rfl rfl <| Qm rfl <| zg (Gd.t1 rfl rfl rfl) (fun hc => p_move rfl) <| zg (Gd.t1 rfl rfl rfl) (fun hc => p_move rfl) <| zg (Gd.t1 rfl rfl rfl) (fun hc => p_eql (gh hc rfl) (gh hc rfl)) <| Qq (p_pickAnd rfl rfl rfl) <| Qa rfl <| JL.nil ?_
 refine zR (x6.trans x8) ?_
 subst hg; simp [outV, M.slams]
theorem c_impl_Rules_captured (r : M.Rul) {v_r : Value} (s : M.Sw) {v_s : Value} (player : Int) {w : World} (h_r : (Ty.agg (cRules r)).ok w v_r) (h_s : (Ty.agg (cSown s)).ok w v_s) (r0 : 2 ≤ r.pits := by exact om_) (r1 : r.pits ≤ 8 := by exact om_) (r2 : player = 0 ∨ player = 1 := by exact om_) (r3 : M.Good r s.pits s.stores 0 := by exact om_) (r4 : -1 ≤ s.last := by exact om_) (r5 : s.last < 2 * r.pits := by exact om_) : Ret Tryz.prog 174 [v_r, v_s, .int .i64 player] w (Ty.ints 2 (M.captured r s player)) := by
 revert v_r; apply opn
 revert v_s; apply opn
 intro A1 c1 h1 bl1 bh1 A2 c2 h2 bl2 bh2
 refine enter @Tryz.func174 @Tryz.ntmps174 rfl rfl ?_
 refine zent ?_
 refine zS <| zb rfl fun b3 => zb rfl fun b4 => Qa rfl <| zJ <| zS <| Qf fh rfl <| Q0 1 rfl rfl rfl <| Qe rfl rfl <| Qm rfl <| zgq (Gd.t1 rfl rfl rfl) (fun hc => L9 1 rfl rfl) <| zgq (Gd.t1 rfl rfl rfl) (fun hc => L9 0 rfl rfl) <| zg (Gd.t1 rfl rfl rfl) (fun hc => p_move rfl) <| zgv (Gd.t1 rfl rfl rfl) (fun hc => (opds_3 (gh hc rfl) (gh hc rfl) (gh hc rfl))) (fun hc => (fun w hw => c_impl_Rules_slams r s player (ok_ hw) (ok_ hw) (r0 := (oh_ hc)) (r1 := (oh_ hc)) (r2 := (oh_ hc)) (r3 := r3) (r4 := (oh_ hc)) (r5 := (oh_ hc)))) ?_
 refine Qq (p_pickAnd rfl rfl rfl) <| JL.nil ?_
 refine zi (fun h5 h5' => ?_) fun h5 h5' => ?_
 ·
  have hR : M.captured r s player = [] := by unfold M.captured; rw [if_pos (by simpa using h5)]
  have hq0 : [] = M.captured r s player := by rw [hR]
  refine zS <| zbs fun b6 => ?_
  refine Qa rfl <| JL.nil ?_
  exact zro (Up.refl _ _)
 have hR : M.captured r s player = M.taken r s player := by unfold M.captured; rw [if_neg (by simpa using h5)]
 refine Js.skip <| zS <| Q9 1 rfl rfl ?_
 refine Q9 0 rfl rfl ?_
 refine Qm rfl <| zcs rfl (fun w hw => c_impl_Rules_taken r s player (ok_ hw) (ok_ hw) (r3 := r3)) ?_
 intro A8 c8 bl8 bh8
 have hq0 : (M.taken r s player) = M.captured r s player := by rw [hR]
 refine Qa rfl <| JL.nil ?_
 exact zro (Up.refl _ _)
theorem c_impl_Rules_takeCaptures (r : M.Rul) {v_r : Value} (s : M.Sw) {v_s : Value} (player : Int) {w : World} (h_r : (Ty.agg (cRules r)).ok w v_r) (h_s : (Ty.agg (cSown s)).ok w v_s) (r0 : 2 ≤ r.pits := by exact om_) (r1 : r.pits ≤ 8 := by exact om_) (r2 : player = 0 ∨ player = 1 := by exact om_) (r3 : M.Good r s.pits s.stores 0 := by exact om_) (r4 : -1 ≤ s.last := by exact om_) (r5 : s.last < 2 * r.pits := by exact om_) : Ret Tryz.prog 147 [v_r, v_s, .int .i64 player] w (Ty.agg (cSown (M.take r s player))) := by
 have l1 := r3.lp
 have l2 := r3.ls
 have hlen := M.captured_len (s := s) (player := player) r5 r1
 revert v_r; apply opn
 revert v_s; apply opn
 intro A1 c1 h1 bl1 bh1 A2 c2 h2 bl2 bh2
 refine enter @Tryz.func147 @Tryz.ntmps147 rfl rfl ?_
 refine zent ?_
 obtain ⟨b3, o3, rfl⟩ := ints_some h1 (by omega)
 obtain ⟨b4, o4, rfl⟩ := ints_some h2 (by omega)
 refine zS <| zb rfl fun b5 => zb rfl fun b6 => za zeh fun b7 => zN <| Q9 2 rfl rfl ?_
 refine Q9 1 rfl rfl ?_
 refine Qm rfl <| zp rfl (fun w hw => c_impl_Rules_captured r s player (ok_ hw) (ok_ hw) (r3 := r3)) ?_
 intro u8 x8 A9 c9 h9 bl9 bh9
 refine Qa rfl <| zJ ?_
 refine zdr [7, 9] ?_
 refine jF 0 fld_153_0 rfl rfl ?_
 refine jB 1 1 ty_42 rfl rfl rfl rfl ?_
 refine jF 3 fld_153_1 rfl rfl ?_
 refine jB 4 1 ty_42 rfl rfl rfl rfl ?_
 refine y1 2 ?_
 refine ycs rfl rfl (fun w hw => c_impl_copyNumbers s.pits (ok_ hw)) ?_
 intro A10 c10 bl10 bh10
 refine jF 6 fld_153_0 rfl rfl ?_
 refine y1 5 ?_
 refine ycs rfl rfl (fun w hw => c_impl_copyNumbers s.stores (ok_ hw)) ?_
 intro A11 c11 bl11 bh11
 refine y1 7 ?_
 refine yst rfl rfl rfl ?_
 refine jF 8 fld_153_1 rfl rfl ?_
 refine y1 9 ?_
 refine yst rfl rfl rfl ?_
 refine yd ?_
 refine Js.fact (row_some (i := 0) rfl (by omega)) (fun hf12 => ?_)
 obtain ⟨b12, rfl⟩ := hf12
 refine Js.fact (row_some (i := 1) rfl (by omega)) (fun hf13 => ?_)
 obtain ⟨b13, rfl⟩ := hf13
 refine Js.seq <| zS <| Qm rfl <| Qz rfl <| Qm rfl <| JL.nil <| Js.block ?_
 refine zl [2, 4, 6, 22, 23] (fun F U l os u m => ∃ (k : Nat) (ps ss : List Int), l = F [(24, .int .i64 (k : Int))] ∧ os = U [some (rowO 2 1 (.slice (some ⟨b12, 0, none⟩) s.stores.length c11) s.stores.length (ints_ ss) []), some (rowO 2 1 (.slice (some ⟨b13, 0, none⟩) s.pits.length c10) s.pits.length (ints_ ps) [])] ∧ (M.takeL player ((M.captured r s player).drop k) ps ss = M.takeL player (M.captured r s player) s.pits s.stores) ∧ (k ≤ (M.captured r s player).length) ∧ (M.Good r ps ss 0) ∧ m = (M.captured r s player).length - k) ⟨0, s.pits, s.stores, rfl, rfl, by rfl, zt, by exact r3, rfl⟩ ?_
 rintro _ _ u14 _ ⟨k, ps, ss, rfl, rfl, hS, hk, hG, rfl⟩ x14
 refine zn ?_
 have l3 := hG.lp
 have l4 := hG.ls
 refine zS <| Ql rfl rfl <| zJ ?_
 refine zi (fun h15 h15' => ?_) fun h15 h15' => ?_
 ·
  have hk2 : k < (M.captured r s player).length := by have := h15; simp at this; omega
  have hx := M.captured_mem (r := r) (s := s) (player := player) r5 (M.nth_mem hk2)
  have hvx := hG.pit (M.nth (M.captured r s player) k)
  have hvs := hG.store player
  obtain ⟨b16, o16, he16, hc16⟩ := ints_elem (Ty.mono _ h9 x14.vis) (i := k) (by omega)
  refine Js.skip <| Js.seq <| Js.block <| zS <| Qq (p_indexAddr el_42 rfl rfl (by omega) (by omega) he16) <| QC hc16 rfl <| Qa rfl <| zJ ?_
  refine zdr [12] ?_
  refine jF 0 fld_153_1 rfl rfl ?_
  refine jB 1 3 ty_42 rfl rfl rfl rfl ?_
  refine jM 2 rfl rfl ?_
  refine jI 3 el_42 rfl rfl rfl rfl ?_
  refine JH.q 4 rfl (q_load1 ty_2.h rfl (Mem.row (i := 0) rfl (ints_getI (i := player) (by omega)))) ?_
  refine jF 5 fld_153_0 rfl rfl ?_
  refine jB 6 3 ty_42 rfl rfl rfl rfl ?_
  refine jM 7 rfl rfl ?_
  refine jI 8 el_42 rfl rfl rfl rfl ?_
  refine JH.q 9 rfl (q_load1 ty_2.h rfl (Mem.row (i := 1) rfl (ints_getI (i := M.nth (M.captured r s player) k) (by omega)))) ?_
  refine JH.p 10 rfl (p_add rfl rfl (IntWalk.i64_in _ (by omega))) ?_
  refine jI 11 el_42 rfl rfl rfl rfl ?_
  refine y1 12 ?_
  refine JHo.s rfl (e_storeRow (i := 0) (xs' := ints_ (M.setI ss player ((M.getI ss player) + (M.getI ps (M.nth (M.captured r s player) k))))) ty_2.h rfl rfl rfl rfl rfl rfl (ints_lt (i := player.toNat) (by omega)) (ints_setL (i := player.toNat) (by omega))) (.inr rfl) ?_
  rintro _ _ _ ⟨rfl, rfl⟩ _
  refine znh ?_
  refine yd ?_
  refine Js.region <| Qf fh rfl <| Q0 3 rfl rfl rfl <| Qm rfl <| Qq (p_indexAddr el_42 rfl rfl (by omega) (by omega) rfl) ?_
  refine JL.s (e_storeRow (i := 1) (xs' := ints_ (M.setI ps (M.nth (M.captured r s player) k) 0)) ty_2.h rfl rfl rfl rfl rfl rfl (ints_lt (i := (M.nth (M.captured r s player) k).toNat) (by omega)) (ints_setL (i := (M.nth (M.captured r s player) k).toNat) (by omega))) ?_
  rintro _ _ _ ⟨rfl, rfl⟩ _
  refine znl ?_
  refine JL.nil <| Js.blockEnd <| Js.region <| Qp rfl rfl <| Qm rfl <| JL.nil ?_
  exact zag ⟨k + 1, M.setI ps (M.nth (M.captured r s player) k) 0, M.setI ss player ((M.getI ss player) + (M.getI ps (M.nth (M.captured r s player) k))), rfl, rfl, by rw [M.drop_nth hk2, M.takeL] at hS; exact hS, zt, by exact hG.takeStep hx.1 hx.2 (by omega) (by omega), rfl⟩ x14
 rw [List.drop_eq_nil_of_le (by omega), M.take_eq r5 (by omega) (by omega)] at hS
 injection hS with hT1 hT2
 refine zx ?_
 have hq0 : ps = (M.take r s player).pits := by first | exact hT1 | exact hT2 | rfl
 have hq1 : ss = (M.take r s player).stores := by first | exact hT1 | exact hT2 | rfl
 have hq2 : s.last = (M.take r s player).last := by first | exact hT1 | exact hT2 | rfl
 have hq3 : s.laps = (M.take r s player).laps := by first | exact hT1 | exact hT2 | rfl
 refine zS <| Q9 3 rfl rfl ?_
 refine zw 2 rfl rfl rfl ?_
 refine JL.nil ?_
 exact zro (x8.trans x14)
theorem c_impl_Rules_mustFeed (r : M.Rul) {v_r : Value} (p : M.Pos) {v_p : Value} {w : World} (h_r : (Ty.agg (cRules r)).ok w v_r) (h_p : (Ty.agg (cPosition p)).ok w v_p) (r0 : M.okP r p = true := by exact om_) : RetV Tryz.prog 149 [v_r, v_p] w (.bool (M.mustFeed r p)) := by
 obtain ⟨g1, g2, g3, g4, g5, g6, g7⟩ := M.okP_bd r0
 revert v_r; apply opn
 revert v_p; apply opn
 intro A1 c1 h1 bl1 bh1 A2 c2 h2 bl2 bh2
 refine enter @Tryz.func149 @Tryz.ntmps149 rfl rfl ?_
 refine zent ?_
 refine zS <| zb rfl fun b3 => zb rfl fun b4 => Qa rfl <| zN <| Qf fh rfl <| Q0 1 rfl rfl rfl <| Qm rfl <| zgq (Gd.t1 rfl rfl rfl) (fun hc => L9 1 rfl rfl) <| zg (Gd.t1 rfl rfl rfl) (fun hc => p_fieldAddr fld_44_0.h rfl) <| zgq (Gd.t1 rfl rfl rfl) (fun hc => q_load1 ty_42.h (gh hc rfl) (Mem.box (i := 0) rfl rfl)) <| zg (Gd.t1 rfl rfl rfl) (fun hc => p_fieldAddr fld_44_2.h rfl) <| zgq (Gd.t1 rfl rfl rfl) (fun hc => q_load1 ty_2.h (gh hc rfl) (Mem.box (i := 0) rfl rfl)) <| zg (Gd.t1 rfl rfl rfl) (fun hc => p_sub rfl (gh hc rfl) (IntWalk.i64_in _ (by omega))) ?_
 refine zgv (Gd.t1 rfl rfl rfl) (fun hc => (opds_3 (gh hc rfl) (gh hc rfl) (gh hc rfl))) (fun hc => (fun w hw => c_impl_Rules_side r p.pits (1 - p.player) (ok_ hw) (ok_ hw) (r4 := g5))) ?_
 refine zg (Gd.t1 rfl rfl rfl) (fun hc => p_eql (gh hc rfl) rfl) <| Qq (p_pickAnd rfl rfl rfl) <| Qa rfl <| JL.nil ?_
 refine zR (Up.refl _ _) ?_
 simp [outV, M.mustFeed]
theorem c_impl_Rules_done (r : M.Rul) {v_r : Value} (p : M.Pos) {v_p : Value} (move : Int) {w : World} (h_r : (Ty.agg (cRules r)).ok w v_r) (h_p : (Ty.agg (cPosition p)).ok w v_p) (r0 : p.pits.length ≤ 4194304 := by exact om_) (r1 : p.stores.length ≤ 4194304 := by exact om_) : Ret Tryz.prog 105 [v_r, v_p, .int .i64 move] w (Ty.tup [Ty.agg (cSown ((M.done r p move).1)), Ty.int ((M.done r p move).2)]) := by
 revert v_r; apply opn
 revert v_p; apply opn
 intro A1 c1 h1 bl1 bh1 A2 c2 h2 bl2 bh2
 refine enter @Tryz.func105 @Tryz.ntmps105 rfl rfl ?_
 refine zent ?_
 refine zS <| zb rfl fun b3 => zb rfl fun b4 => za zeh fun b5 => Qa rfl <| zN <| Q9 2 rfl rfl ?_
 refine Q9 1 rfl rfl ?_
 refine Qm rfl <| zp rfl (fun w hw => c_impl_sowMove r p move (ok_ hw) (ok_ hw)) ?_
 intro u6 x6 v7 h7
 refine Qm rfl <| Qx rfl rfl <| Qx rfl rfl <| Qa rfl <| Qa rfl <| zJ <| zS <| Qm rfl <| Qd rfl rfl <| JL.nil ?_
 refine zi (fun h8 h8' => ?_) fun h8 h8' => ?_
 ·
  have hz : ¬ (M.sowMove r p move).1 = 0 := by simpa using h8
  have hD : M.done r p move = (M.Sw.zero, (M.sowMove r p move).1) := by unfold M.done; rw [if_pos hz]
  have hq0 : [] = ((M.done r p move).1).pits := rp_ hD
  have hq1 : [] = ((M.done r p move).1).stores := rp_ hD
  have hq2 : 0 = ((M.done r p move).1).last := rp_ hD
  have hq3 : 0 = ((M.done r p move).1).laps := rp_ hD
  have hq4 : ((M.sowMove r p move).1) = (M.done r p move).2 := rp_ hD
  refine zS <| Qb ?_
  refine Qm rfl <| zw 0 rfl rfl rfl ?_
  refine Qa rfl <| JL.nil ?_
  exact zro x6
 have hz : (M.sowMove r p move).1 = 0 := by simpa using h8
 obtain ⟨hok, m0, m1, hG, q0, q1, hsum⟩ := M.sowMove_ok hz
 obtain ⟨g1, g2, g3, g4, g5, g6, g7⟩ := M.okP_bd hok
 have hG2 := (M.take_keeps g7 hG q1).1
 have hao := M.Good.ok hG2
 have hl2 := hG2.lp
 have ⟨g8, g9⟩ : p.pits.length ≤ 4194304 ∧ p.stores.length ≤ 4194304 := by omega
 refine Js.skip <| Js.seq ?_
 refine zk [3, 4, 6] (fun F U l os u => ∃ (b9 o9 b11 : Nat) (A10_0 : Option Addr) (c10_0 : Nat) (A10_1 : Option Addr) (c10_1 : Nat) (f10 : List Nat) (A9_10 : Option Addr) (c9_10 : Nat) (A9_11 : Option Addr) (c9_11 : Nat) (A9_14 : Option Addr) (c9_14 : Nat), l = F [(8, .pointer (some ⟨b9, o9, none⟩)), (10, .pointer (some ⟨b11, 0, none⟩))] ∧ os = [boxO b11 [.slice A10_0 (((M.take r ((M.sowMove r p move).2.1) p.player).pits).length) c10_0, .slice A10_1 (((M.take r ((M.sowMove r p move).2.1) p.player).stores).length) c10_1, .int .i64 ((M.take r ((M.sowMove r p move).2.1) p.player).last), .int .i64 ((M.take r ((M.sowMove r p move).2.1) p.player).laps)] 153, ownC (cSown (M.take r ((M.sowMove r p move).2.1) p.player)) [.slice A10_0 (((M.take r ((M.sowMove r p move).2.1) p.player).pits).length) c10_0, .slice A10_1 (((M.take r ((M.sowMove r p move).2.1) p.player).stores).length) c10_1, .int .i64 ((M.take r ((M.sowMove r p move).2.1) p.player).last), .int .i64 ((M.take r ((M.sowMove r p move).2.1) p.player).laps)] f10] ++ U [] ∧ (RowAt u b9 o9 [.int .i64 r.pits, .int .i64 r.seeds, .bool r.stores, .bool r.skip, .bool r.relay, .bool r.feed, .bool r.again, .int .i64 r.capture, .int .i64 r.slam, .int .i64 p.player, .slice A9_10 ((((M.sowMove r p move).2.1).pits).length) c9_10, .slice A9_11 ((((M.sowMove r p move).2.1).stores).length) c9_11, .int .i64 (((M.sowMove r p move).2.1).last), .int .i64 (((M.sowMove r p move).2.1).laps), .slice A9_14 (((M.sowMove r p move).2.2).length) c9_14]) ∧ ((((M.sowMove r p move).2.1).pits).length ≤ c9_10) ∧ (c9_10 ≤ 9223372036854775807) ∧ ((Ty.ints 2 (((M.sowMove r p move).2.1).pits)).ok u (.slice A9_10 ((((M.sowMove r p move).2.1).pits).length) c9_10)) ∧ ((((M.sowMove r p move).2.1).stores).length ≤ c9_11) ∧ (c9_11 ≤ 9223372036854775807) ∧ ((Ty.ints 2 (((M.sowMove r p move).2.1).stores)).ok u (.slice A9_11 ((((M.sowMove r p move).2.1).stores).length) c9_11)) ∧ (((M.sowMove r p move).2.2).length ≤ c9_14) ∧ (c9_14 ≤ 9223372036854775807) ∧ ((Ty.ints 2 ((M.sowMove r p move).2.2)).ok u (.slice A9_14 (((M.sowMove r p move).2.2).length) c9_14)) ∧ (((M.take r ((M.sowMove r p move).2.1) p.player).pits).length ≤ c10_0) ∧ (c10_0 ≤ 9223372036854775807) ∧ (((M.take r ((M.sowMove r p move).2.1) p.player).stores).length ≤ c10_1) ∧ (c10_1 ≤ 9223372036854775807)) ?_ ?_
 ·
  refine zdr [9] ?_
  refine JH.q 0 rfl (L9 2 rfl rfl) ?_
  refine jM 1 rfl rfl ?_
  obtain ⟨b15, o15, A15_10, c15_10, A15_11, c15_11, A15_14, c15_14, rfl, hr15, h15_10, h15_11, h15_14, bl15_10, bh15_10, bl15_11, bh15_11, bl15_14, bh15_14⟩ := ref_sowing (box_ref (opt_yes h7 (by exact decide_eq_true hz)))
  refine jN 2 rfl rfl ?_
  refine jF 3 fld_205_2 rfl rfl ?_
  refine JH.w 4 rfl (fun os' u' hv => LS 10 (hr15.vis hv) rfl) ?_
  refine jF 5 fld_44_2 rfl rfl ?_
  refine jB 6 1 ty_2 rfl rfl rfl rfl ?_
  refine y2 7 8 ?_ ?_
  ·
   refine ycs rfl rfl (fun w hw => c_impl_Rules_takeCaptures r ((M.sowMove r p move).2.1) p.player (ok_ hw) (ok_ hw) (r3 := hG)) ?_
   intro A16_0 c16_0 bl16_0 bh16_0 A16_1 c16_1 bl16_1 bh16_1 f16
   refine y1 8 ?_
   refine ya rfl fun b17 => ?_
   refine y1 9 ?_
   refine yst rfl rfl rfl ?_
   refine yd ?_
   exact zm ⟨_, _, _, _, _, _, _, _, _, _, _, _, _, _, rfl, rfl, hr15, zt, zt, h15_10, zt, zt, h15_11, zt, zt, h15_14, zt, zt, zt, zt⟩ (Up.refl _ _)
  refine ya rfl fun b18 => ?_
  refine y1 7 ?_
  refine ycs rfl rfl (fun w hw => c_impl_Rules_takeCaptures r ((M.sowMove r p move).2.1) p.player (ok_ hw) (ok_ hw) (r3 := hG)) ?_
  intro A19_0 c19_0 bl19_0 bh19_0 A19_1 c19_1 bl19_1 bh19_1 f19
  refine y1 9 ?_
  refine yst rfl rfl rfl ?_
  refine yd ?_
  refine zh [1, 0, 0, 0, 0] ?_
  exact zm ⟨_, _, _, _, _, _, _, _, _, _, _, _, _, _, rfl, rfl, hr15, zt, zt, h15_10, zt, zt, h15_11, zt, zt, h15_14, zt, zt, zt, zt⟩ (Up.refl _ _)
 rintro _ _ u14 ⟨b9, o9, b11, A10_0, c10_0, A10_1, c10_1, f10, A9_10, c9_10, A9_11, c9_11, A9_14, c9_14, rfl, rfl, f14_0, f14_1, f14_2, f14_3, f14_4, f14_5, f14_6, f14_7, f14_8, f14_9, f14_10, f14_11, f14_12, f14_13⟩ x14
 refine zn ?_
 refine Js.seq <| Js.seq ?_
 refine zdr [] ?_
 refine jF 0 fld_29_8 rfl rfl ?_
 refine jB 1 4 ty_2 rfl rfl rfl rfl ?_
 refine JH.p 2 rfl (p_eql rfl rfl) ?_
 refine jM 3 rfl rfl ?_
 refine JH.qg 4 rfl (Gd.t1 rfl rfl rfl) (fun hc => L9 4 rfl rfl) ?_
 refine JH.pg 5 rfl (Gd.t1 rfl rfl rfl) (fun hc => p_move rfl) ?_
 refine JH.pg 6 rfl (Gd.t1 rfl rfl rfl) (fun hc => p_nilCheck (gvt rfl hc)) ?_
 refine JH.pg 7 rfl (Gd.t1 rfl rfl rfl) (fun hc => p_fieldAddr fld_205_2.h (gvt rfl hc)) ?_
 refine JH.wg 8 rfl (Gd.t1 rfl rfl rfl) (fun hc os' u' hv => LS 10 (f14_0.vis hv) (gvt rfl hc)) ?_
 refine JH.pg 9 rfl (Gd.t1 rfl rfl rfl) (fun hc => p_fieldAddr fld_44_2.h rfl) ?_
 refine JH.qg 10 rfl (Gd.t1 rfl rfl rfl) (fun hc => q_load1 ty_2.h (gvt rfl hc) (Mem.box (i := 3) rfl rfl)) ?_
 refine y1 11 ?_
 refine JHo.ge rfl (Gd.t1 rfl rfl rfl) (fun hc => e_callV fn_148.h (opds_3 (gvt rfl hc) (gvt rfl hc) (gvt rfl hc)) (fun w hw => c_impl_Rules_slams r ((M.sowMove r p move).2.1) p.player (ok_ hw) (ok_ hw) (r0 := (oh_ hc)) (r1 := (oh_ hc)) (r2 := (oh_ hc)) (r3 := hG) (r4 := (oh_ hc)) (r5 := (oh_ hc)))) ?_
 refine JH.p 12 rfl (p_pickAnd rfl rfl rfl) ?_
 refine jM 13 rfl rfl ?_
 refine JH.qg 14 rfl (Gd.f1 rfl rfl rfl) (fun hc => L9 4 rfl rfl) ?_
 refine JH.qg 15 rfl (Gd.f1 rfl rfl rfl) (fun hc => L9 3 rfl rfl) ?_
 refine y1 16 ?_
 refine JHo.ge rfl (Gd.f1 rfl rfl rfl) (fun hc => e_callV fn_149.h (opds_2 (gvt rfl hc) (gvt rfl hc)) (fun w hw => c_impl_Rules_mustFeed r p (ok_ hw) (ok_ hw) (r0 := hok))) ?_
 refine JH.pg 17 rfl (Gd.f1 rfl rfl rfl) (fun hc => p_move (gvt rfl hc)) ?_
 refine JH.qg 18 rfl (Gd.t2 rfl rfl rfl) (fun hc => L9 4 rfl rfl) ?_
 refine JH.pg 19 rfl (Gd.t2 rfl rfl rfl) (fun hc => p_fieldAddr fld_153_0.h rfl) ?_
 refine JH.qg 20 rfl (Gd.t2 rfl rfl rfl) (fun hc => q_load1 ty_42.h (gvt rfl hc) (Mem.box (i := 0) rfl rfl)) ?_
 refine JH.pg 21 rfl (Gd.t2 rfl rfl rfl) (fun hc => p_fieldAddr fld_44_2.h rfl) ?_
 refine JH.qg 22 rfl (Gd.t2 rfl rfl rfl) (fun hc => q_load1 ty_2.h (gvt rfl hc) (Mem.box (i := 3) rfl rfl)) ?_
 refine JH.pg 23 rfl (Gd.t2 rfl rfl rfl) (fun hc => p_sub rfl (gvt rfl hc) (IntWalk.i64_in _ (by have hc9 := hc; (try simp only [Bool.and_eq_true, Bool.not_eq_true', Bool.and_eq_false_iff, decide_eq_false_iff_not] at hc9); omega))) ?_
 refine y1 24 ?_
 refine JHo.ge rfl (Gd.t2 rfl rfl rfl) (fun hc => e_callV fn_150.h (opds_3 (gvt rfl hc) (gvt rfl hc) (gvt rfl hc)) (fun w hw => c_impl_Rules_side r ((M.take r ((M.sowMove r p move).2.1) p.player).pits) (1 - p.player) (ok_ hw) (ok_ hw) (r0 := (by have hc9 := hc; (try simp only [Bool.and_eq_true, Bool.not_eq_true', Bool.and_eq_false_iff, decide_eq_false_iff_not] at hc9); omega)) (r1 := (by have hc9 := hc; (try simp only [Bool.and_eq_true, Bool.not_eq_true', Bool.and_eq_false_iff, decide_eq_false_iff_not] at hc9); omega)) (r2 := (by have hc9 := hc; (try simp only [Bool.and_eq_true, Bool.not_eq_true', Bool.and_eq_false_iff, decide_eq_false_iff_not] at hc9); omega)) (r3 := (by have hc9 := hc; (try simp only [Bool.and_eq_true, Bool.not_eq_true', Bool.and_eq_false_iff, decide_eq_false_iff_not] at hc9); omega)) (r4 := hao.1))) ?_
 refine JH.pg 25 rfl (Gd.t2 rfl rfl rfl) (fun hc => p_eql (gvt rfl hc) rfl) ?_
 refine JH.pg 26 rfl (Gd.f1 rfl rfl rfl) (fun hc => p_pickAnd (gvt rfl hc) (gvl rfl hc) rfl) ?_
 refine JH.p 27 rfl (p_pickOr rfl rfl rfl) ?_
 refine yd ?_
 refine zi (fun h20 h20' => ?_) fun h20 h20' => ?_
 ·
  have hD : M.done r p move = (M.Sw.zero, 9) := by unfold M.done; rw [if_neg (by simpa using hz), if_pos (by simpa using h20)]
  have hq0 : [] = ((M.done r p move).1).pits := rp_ hD
  have hq1 : [] = ((M.done r p move).1).stores := rp_ hD
  have hq2 : 0 = ((M.done r p move).1).last := rp_ hD
  have hq3 : 0 = ((M.done r p move).1).laps := rp_ hD
  have hq4 : 9 = (M.done r p move).2 := rp_ hD
  refine zS <| Qb ?_
  refine zw 2 rfl rfl rfl ?_
  refine Qa rfl <| JL.nil ?_
  exact zro (x6.trans x14)
 have hD : M.done r p move = (M.take r (M.sowMove r p move).2.1 p.player, 0) := by unfold M.done; rw [if_neg (by simpa using hz), if_neg (by simpa using h20)]
 have hq0 : (M.take r ((M.sowMove r p move).2.1) p.player) = (M.done r p move).1 := rp_ hD
 have hq1 : 0 = (M.done r p move).2 := rp_ hD
 refine Js.skip <| zS <| Q9 0 rfl rfl ?_
 refine zw 2 rfl rfl rfl ?_
 refine Qa rfl <| JL.nil ?_
 exact zro (x6.trans x14)
theorem c_impl_MoveFault (r : M.Rul) {v_r : Value} (p : M.Pos) {v_p : Value} (move : Int) {w : World} (h_r : (Ty.agg (cRules r)).ok w v_r) (h_p : (Ty.agg (cPosition p)).ok w v_p) (r0 : p.pits.length ≤ 4194304 := by exact om_) (r1 : p.stores.length ≤ 4194304 := by exact om_) : RetV Tryz.prog 55 [v_r, v_p, .int .i64 move] w (.int .i64 ((M.done r p move).2)) := by
 revert v_r; apply opn
 revert v_p; apply opn
 intro A1 c1 h1 bl1 bh1 A2 c2 h2 bl2 bh2
 refine enter @Tryz.func55 @Tryz.ntmps55 rfl rfl ?_
 refine zent ?_
 refine zS <| zb rfl fun b3 => zb rfl fun b4 => Qa rfl <| zN <| Q9 1 rfl rfl ?_
 refine Q9 0 rfl rfl ?_
 refine Qm rfl <| zp rfl (fun w hw => c_impl_Rules_done r p move (ok_ hw) (ok_ hw)) ?_
 intro u5 x5 A6 c6 h6 bl6 bh6 A7 c7 h7 bl7 bh7
 refine Qm rfl <| Qx rfl rfl <| Qx rfl rfl <| za zeh fun b8 => zw 0 rfl rfl rfl ?_
 refine Qa rfl <| zN <| Qm rfl <| Qa rfl <| JL.nil ?_
 exact zr x5
theorem c_impl_compareNumbers (a : List Int) {v_a : Value} (b : List Int) {v_b : Value} {w : World} (h_a : (Ty.ints 2 a).ok w v_a) (h_b : (Ty.ints 2 b).ok w v_b) (r0 : a.length ≤ 4194304 := by exact om_) (r1 : b.length ≤ 4194304 := by exact om_) : RetV Tryz.prog 73 [v_a, v_b] w (.int .i64 (M.cmpL a b)) := by
 revert v_a; apply opn
 intro A1 c1 h1 bl1 bh1
 have h_a := h1
 revert v_b; apply opn
 intro A2 c2 h2 bl2 bh2
 have h_b := h2
 refine enter @Tryz.func73 @Tryz.ntmps73 rfl rfl ?_
 refine zent ?_
 refine zS <| Qa rfl <| zJ <| zS <| Qm rfl <| Qz rfl <| Qm rfl <| Qz rfl <| Qq (p_min rfl rfl) <| Qm rfl <| JL.nil <| Js.block ?_
 refine zl [0, 1, 10] (fun F U l os u m => ∃ (k : Nat), l = F [(11, .int .i64 (k : Int))] ∧ os = U [] ∧ (M.cmpL (a.drop k) (b.drop k) = M.cmpL a b) ∧ (k ≤ a.length) ∧ (k ≤ b.length) ∧ m = a.length - k) ⟨0, rfl, rfl, by rfl, zt, zt, rfl⟩ ?_
 rintro _ _ u3 _ ⟨k, rfl, rfl, hC, hka, hkb, rfl⟩ x3
 refine zn ?_
 refine zS <| Ql rfl rfl <| zJ ?_
 refine zi (fun h4 h4' => ?_) fun h4 h4' => ?_
 ·
  have hab : k < a.length ∧ k < b.length := by have := h4'; omega
  refine Js.skip <| Js.seq <| Js.block <| zS <| Qm rfl <| Qa rfl <| JL.nil <| Js.block <| Js.seq ?_
  refine zdr [] ?_
  refine jM 0 rfl rfl ?_
  refine jM 1 rfl rfl ?_
  obtain ⟨b5, o5, he5, hc5⟩ := ints_elem (Ty.mono _ h1 x3.vis) (i := k) (by omega)
  refine jI 2 el_42 rfl rfl rfl he5 ?_
  refine jW 3 ty_2 rfl rfl hc5.vis ?_
  refine jM 4 rfl rfl ?_
  refine jM 5 rfl rfl ?_
  obtain ⟨b6, o6, he6, hc6⟩ := ints_elem (Ty.mono _ h2 x3.vis) (i := k) (by omega)
  refine jI 6 el_42 rfl rfl rfl he6 ?_
  refine jW 7 ty_2 rfl rfl hc6.vis ?_
  refine JH.p 8 rfl (p_lss rfl rfl) ?_
  refine jA 9 rfl rfl ?_
  refine yd ?_
  refine zi (fun h7 h7' => ?_) fun h7 h7' => ?_
  ·
   have hE := M.cmpL_lt hC hab.1 hab.2 (by have := h7'; omega)
   refine zS <| Qa rfl <| JL.nil ?_
   refine zR x3 ?_
   first | (rw [hE]; done) | (rw [hE]; rfl)
  have h1_ : ¬ M.nth a k < M.nth b k := by have := h7'; omega
  refine Js.seq ?_
  refine zdr [] ?_
  refine jM 0 rfl rfl ?_
  refine jM 1 rfl rfl ?_
  obtain ⟨b8, o8, he8, hc8⟩ := ints_elem (Ty.mono _ h1 x3.vis) (i := k) (by omega)
  refine jI 2 el_42 rfl rfl rfl he8 ?_
  refine jW 3 ty_2 rfl rfl hc8.vis ?_
  refine jM 4 rfl rfl ?_
  refine jM 5 rfl rfl ?_
  obtain ⟨b9, o9, he9, hc9⟩ := ints_elem (Ty.mono _ h2 x3.vis) (i := k) (by omega)
  refine jI 6 el_42 rfl rfl rfl he9 ?_
  refine jW 7 ty_2 rfl rfl hc9.vis ?_
  refine JH.p 8 rfl (p_gtr rfl rfl) ?_
  refine jA 9 rfl rfl ?_
  refine yd ?_
  refine zi (fun h10 h10' => ?_) fun h10 h10' => ?_
  ·
   have hE := M.cmpL_gt hC hab.1 hab.2 (by have := h10'; omega)
   refine zS <| Qa rfl <| JL.nil ?_
   refine zR x3 ?_
   first | (rw [hE]; done) | (rw [hE]; rfl)
  have hC2 := M.cmpL_step hC hab.1 hab.2 h1_ (by have := h10'; omega)
  refine Js.skip <| Js.blockEnd <| Js.blockEnd <| Js.region <| Qp rfl rfl <| Qm rfl <| JL.nil ?_
  exact zag ⟨k + 1, rfl, rfl, by exact hC2, zt, zt, rfl⟩ x3
 have hE := M.cmpL_end hC (by have := h4'; omega) hka hkb
 refine zx ?_
 refine Js.seq <| Js.block <| zS <| Qm rfl <| Qz rfl <| Qm rfl <| Qz rfl <| Ql rfl rfl <| Qa rfl <| JL.nil ?_
 refine zi (fun h11 h11' => ?_) fun h11 h11' => ?_
 ·
  rw [if_pos (by have := h11'; omega)] at hE
  refine zS <| Qa rfl <| JL.nil ?_
  refine zR x3 ?_
  first | (rw [hE]; done) | (rw [hE]; rfl)
 rw [if_neg (by have := h11'; omega)] at hE
 refine zS <| Qm rfl <| Qz rfl <| Qm rfl <| Qz rfl <| Qg rfl rfl <| Qa rfl <| JL.nil ?_
 refine zi (fun h12 h12' => ?_) fun h12 h12' => ?_
 ·
  rw [if_pos (by have := h12'; omega)] at hE
  refine zS <| Qa rfl <| JL.nil ?_
  refine zR x3 ?_
  first | (rw [hE]; done) | (rw [hE]; rfl)
 rw [if_neg (by have := h12'; omega)] at hE
 refine Js.skip <| Js.blockEnd <| zS <| Qa rfl <| JL.nil ?_
 refine zR x3 ?_
 first | (rw [hE]; done) | (rw [hE]; rfl)
theorem c_impl_BookEntry_position (e : M.Ent) {Ae_0 : Option Addr} {ce_0 : Nat} {Ae_1 : Option Addr} {ce_1 : Nat} {w : World}  : Ret Tryz.prog 126 [.agg #[.slice Ae_0 e.pits.length ce_0, .slice Ae_1 e.choices.length ce_1]] w (Ty.agg [Ty.val (.slice Ae_0 e.pits.length ce_0), Ty.ints 2 [0, 0], Ty.int 0]) := by
 refine enter @Tryz.func126 @Tryz.ntmps126 rfl rfl ?_
 refine zent ?_
 refine zS <| zb rfl fun b1 => za zeh fun b2 => zN <| Qf fh rfl <| Q0 1 rfl rfl rfl <| zbs fun b3 => ?_
 refine Qb ?_
 refine zw 1 rfl rfl rfl ?_
 refine JL.nil ?_
 exact zro (Up.refl _ _)
theorem c_impl_Rules_validEntry (r : M.Rul) {v_r : Value} (e : M.Ent) {v_e : Value} {w : World} (h_r : (Ty.agg (cRules r)).ok w v_r) (h_e : (Ty.agg (cBookEntry e)).ok w v_e) (r0 : e.pits.length ≤ 4194304 := by exact om_) (r1 : e.choices.length ≤ 4194304 := by exact om_) : RetV Tryz.prog 74 [v_r, v_e] w (.bool (M.okE r e)) := by
 have p5 : (M.posE e.pits).stores.length ≤ 4194304 := (by decide : ([0, 0] : List Int).length ≤ 4194304)
 have p6 : (M.posE e.pits).pits.length ≤ 4194304 := r0
 revert v_r; apply opn
 revert v_e; apply opn
 intro A1 c1 h1 bl1 bh1 A2 c2 h2 bl2 bh2
 refine enter @Tryz.func74 @Tryz.ntmps74 rfl rfl ?_
 refine zent ?_
 refine zS <| zb rfl fun b3 => zb rfl fun b4 => Qa rfl <| zJ <| Js.seq ?_
 refine zdr [] ?_
 refine JH.q 0 rfl (L9 1 rfl rfl) ?_
 refine JH.q 1 rfl (L9 0 rfl rfl) ?_
 refine y1 2 ?_
 refine yc rfl rfl (fun w hw => c_impl_BookEntry_position e) ?_
 intro A5 c5 bl5 bh5
 refine y1 3 ?_
 refine yv rfl rfl (fun w hw => c_impl_ValidPosition r (M.posE e.pits) (ok_ hw) (ok_ hw)) ?_
 refine JH.p 4 rfl (p_not rfl) ?_
 refine jM 5 rfl rfl ?_
 refine JH.pg 6 rfl (Gd.f1 rfl rfl rfl) (fun hc => p_fieldAddr fld_67_1.h rfl) ?_
 refine JH.qg 7 rfl (Gd.f1 rfl rfl rfl) (fun hc => q_load1 ty_54.h (gvt rfl hc) (Mem.box (i := 0) rfl rfl)) ?_
 refine JH.pg 8 rfl (Gd.f1 rfl rfl rfl) (fun hc => p_len el_54 (gvt rfl hc)) ?_
 refine JH.pg 9 rfl (Gd.f1 rfl rfl rfl) (fun hc => p_eql (gvt rfl hc) rfl) ?_
 refine JH.p 10 rfl (p_pickOr rfl rfl rfl) ?_
 refine yd ?_
 refine zi (fun h6 h6' => ?_) fun h6 h6' => ?_
 ·
  have hE := M.okE_p (r := r) (e := e) (by have h9 := h6; simp only [Bool.or_eq_true, Bool.not_eq_true', decide_eq_true_eq] at h9; exact h9.imp id (fun h => by omega))
  refine zS <| Qa rfl <| JL.nil ?_
  refine zR (Up.refl _ _) ?_
  first | (rw [hE, hE2]; rfl) | (rw [hE]; rfl)
 have h9 := h6
 simp at h9
 have hE := M.okE_cs h9.1 (by omega)
 refine Js.skip <| Js.seq <| zS <| Qf fh rfl <| Q0 1 rfl rfl rfl <| Qz rfl <| Qm rfl <| JL.nil <| Js.block ?_
 refine zl [2, 3, 19, 20] (fun F U l os u m => ∃ (k : Nat), l = F [(21, .int .i64 (k : Int))] ∧ os = U [] ∧ (M.AllB (M.chAt r (M.posE e.pits) e.choices) k) ∧ (k ≤ e.choices.length) ∧ m = e.choices.length - k) ⟨0, rfl, rfl, by exact M.AllB.zero _, zt, rfl⟩ ?_
 rintro _ _ u7 _ ⟨k, rfl, rfl, hA, hk, rfl⟩ x7
 refine zn ?_
 refine zS <| Ql rfl rfl <| zJ ?_
 refine zi (fun h8 h8' => ?_) fun h8 h8' => ?_
 ·
  have hy9 : e.choices[k]? = some (M.cho e.choices k) := M.cho_get (by omega)
  obtain ⟨b9, o9, he9, hr9⟩ := elem_Choice (Ty.mono _ h2 x7.vis) hy9
  refine Js.skip <| Js.seq <| Js.block <| zS <| Qm rfl <| Qq (p_indexAddr el_54 rfl rfl (by omega) (by omega) he9) <| QS 0 hr9 rfl ?_
  refine za zeh fun b10 => Qa rfl <| zw 0 rfl rfl rfl ?_
  refine zJ ?_
  rcases Bool.eq_false_or_eq_true ((decide (0 < (k : Int))) && (decide ((M.cho e.choices k).move ≤ (M.cho e.choices (((k : Int) - 1).toNat)).move))) with h11 | h11
  ·
   refine zdr [] ?_
   refine jM 0 rfl rfl ?_
   refine JH.p 1 rfl (p_gtr rfl rfl) ?_
   refine jM 2 rfl rfl ?_
   refine JH.pg 3 rfl (Gd.t1 rfl rfl rfl) (fun hc => p_fieldAddr fld_58_0.h rfl) ?_
   refine JH.qg 4 rfl (Gd.t1 rfl rfl rfl) (fun hc => q_load1 ty_2.h (gvt rfl hc) (Mem.box (i := 0) rfl rfl)) ?_
   refine JH.pg 5 rfl (Gd.t1 rfl rfl rfl) (fun hc => p_fieldAddr fld_67_1.h rfl) ?_
   refine JH.qg 6 rfl (Gd.t1 rfl rfl rfl) (fun hc => q_load1 ty_54.h (gvt rfl hc) (Mem.box (i := 2) rfl rfl)) ?_
   refine JH.pg 7 rfl (Gd.t1 rfl rfl rfl) (fun hc => p_move rfl) ?_
   refine JH.pg 8 rfl (Gd.t1 rfl rfl rfl) (fun hc => p_sub (gvt rfl hc) rfl (IntWalk.i64_in _ (oh_ hc))) ?_
   have hy12 : e.choices[((k : Int) - 1).toNat]? = some (M.cho e.choices (((k : Int) - 1).toNat)) := M.cho_get (by omega)
   obtain ⟨b12, o12, he12, hr12⟩ := elem_Choice (Ty.mono _ h2 x7.vis) hy12
   refine JH.pg 9 rfl (Gd.t1 rfl rfl rfl) (fun hc => p_indexAddr el_54 (gvt rfl hc) (gvt rfl hc) (oh_ hc) (oh_ hc) he12) ?_
   refine JH.pg 10 rfl (Gd.t1 rfl rfl rfl) (fun hc => p_fieldAddr fld_58_0.h (gvt rfl hc)) ?_
   refine JH.wg 11 rfl (Gd.t1 rfl rfl rfl) (fun hc os' u' hv => q_load1 ty_2.h (gvt rfl hc) (Mem.pub ((hr12.vis hv) 0 _ rfl))) ?_
   refine JH.pg 12 rfl (Gd.t1 rfl rfl rfl) (fun hc => p_leq (gvt rfl hc) (gvt rfl hc)) ?_
   refine JH.p 13 rfl (p_pickAnd rfl rfl rfl) ?_
   refine jM 14 rfl rfl ?_
   refine jU 15 rfl (Gd.f1 rfl rfl rfl) h11 ?_
   refine jU 16 rfl (Gd.f1 rfl rfl rfl) h11 ?_
   refine jU 18 rfl (Gd.f1 rfl rfl rfl) h11 ?_
   refine jU 19 rfl (Gd.f1 rfl rfl rfl) h11 ?_
   refine y1 17 ?_
   refine JHo.qg (v := undef) rfl (Gd.f1 rfl rfl rfl) (fun hc => absurd hc (by first | (rw [h11]; simp; done) | simp [h11])) ?_
   refine y1 20 ?_
   refine JHo.qg (v := undef) rfl (Gd.f1 rfl rfl rfl) (fun hc => absurd hc (by first | (rw [h11]; simp; done) | simp [h11])) ?_
   refine JH.pg (v := .bool false) 21 rfl (Gd.f1 rfl rfl rfl) (fun hc => absurd hc (by first | (rw [h11]; simp; done) | simp [h11])) ?_
   refine JH.p 22 rfl (p_pickOr rfl rfl rfl) ?_
   refine jM 23 rfl rfl ?_
   refine JH.pg 24 rfl (Gd.f1 rfl rfl rfl) (fun hc => p_fieldAddr fld_58_1.h rfl) ?_
   refine JH.qg 25 rfl (Gd.f1 rfl rfl rfl) (fun hc => q_load1 ty_2.h (gvt rfl hc) (Mem.box (i := 0) rfl rfl)) ?_
   refine y1 26 ?_
   refine JHo.ge rfl (Gd.f1 rfl rfl rfl) (fun hc => e_callV fn_54.h (opds_3 (gvt rfl hc) rfl rfl) (fun w hw => c_impl_between ((M.cho e.choices k).games) 1 1000000)) ?_
   refine JH.pg 27 rfl (Gd.f1 rfl rfl rfl) (fun hc => p_not (gvt rfl hc)) ?_
   refine JH.p 28 rfl (p_pickOr rfl rfl rfl) ?_
   refine jM 29 rfl rfl ?_
   refine JH.pg 30 rfl (Gd.f1 rfl rfl rfl) (fun hc => p_fieldAddr fld_58_2.h rfl) ?_
   refine JH.qg 31 rfl (Gd.f1 rfl rfl rfl) (fun hc => q_load1 ty_2.h (gvt rfl hc) (Mem.box (i := 0) rfl rfl)) ?_
   refine JH.pg 32 rfl (Gd.f1 rfl rfl rfl) (fun hc => p_fieldAddr fld_58_1.h rfl) ?_
   refine JH.qg 33 rfl (Gd.f1 rfl rfl rfl) (fun hc => q_load1 ty_2.h (gvt rfl hc) (Mem.box (i := 0) rfl rfl)) ?_
   refine JH.pg 34 rfl (Gd.f1 rfl rfl rfl) (fun hc => p_mul rfl (gvt rfl hc) (IntWalk.i64_in _ (by have hc9 := hc; simp only [Bool.not_eq_true', Bool.or_eq_false_iff, Bool.not_eq_false'] at hc9; have h8 := M.betw_iff.1 hc9.2; omega))) ?_
   refine y1 35 ?_
   refine JHo.ge rfl (Gd.f1 rfl rfl rfl) (fun hc => e_callV fn_54.h (opds_3 (gvt rfl hc) rfl (gvt rfl hc)) (fun w hw => c_impl_between ((M.cho e.choices k).score) 0 (2 * ((M.cho e.choices k).games)))) ?_
   refine JH.pg 36 rfl (Gd.f1 rfl rfl rfl) (fun hc => p_not (gvt rfl hc)) ?_
   refine JH.p 37 rfl (p_pickOr rfl rfl rfl) ?_
   refine yd ?_
   refine zi (fun h13 h13' => ?_) fun h13 h13' => ?_
   ·
    have hN : M.chAt r (M.posE e.pits) e.choices k = false := M.chAt_prev h11
    have hE2 : M.okCs r (M.posE e.pits) e.choices = false := M.all_no (by omega) hN
    refine zS <| Qa rfl <| JL.nil ?_
    refine zR x7 ?_
    first | (rw [hE, hE2]; rfl) | (rw [hE]; rfl)
   exact absurd h13 (by rw [h11]; simp)
  refine zdr [] ?_
  refine jM 0 rfl rfl ?_
  refine JH.p 1 rfl (p_gtr rfl rfl) ?_
  refine jM 2 rfl rfl ?_
  refine JH.pg 3 rfl (Gd.t1 rfl rfl rfl) (fun hc => p_fieldAddr fld_58_0.h rfl) ?_
  refine JH.qg 4 rfl (Gd.t1 rfl rfl rfl) (fun hc => q_load1 ty_2.h (gvt rfl hc) (Mem.box (i := 0) rfl rfl)) ?_
  refine JH.pg 5 rfl (Gd.t1 rfl rfl rfl) (fun hc => p_fieldAddr fld_67_1.h rfl) ?_
  refine JH.qg 6 rfl (Gd.t1 rfl rfl rfl) (fun hc => q_load1 ty_54.h (gvt rfl hc) (Mem.box (i := 2) rfl rfl)) ?_
  refine JH.pg 7 rfl (Gd.t1 rfl rfl rfl) (fun hc => p_move rfl) ?_
  refine JH.pg 8 rfl (Gd.t1 rfl rfl rfl) (fun hc => p_sub (gvt rfl hc) rfl (IntWalk.i64_in _ (oh_ hc))) ?_
  have hy14 : e.choices[((k : Int) - 1).toNat]? = some (M.cho e.choices (((k : Int) - 1).toNat)) := M.cho_get (by omega)
  obtain ⟨b14, o14, he14, hr14⟩ := elem_Choice (Ty.mono _ h2 x7.vis) hy14
  refine JH.pg 9 rfl (Gd.t1 rfl rfl rfl) (fun hc => p_indexAddr el_54 (gvt rfl hc) (gvt rfl hc) (oh_ hc) (oh_ hc) he14) ?_
  refine JH.pg 10 rfl (Gd.t1 rfl rfl rfl) (fun hc => p_fieldAddr fld_58_0.h (gvt rfl hc)) ?_
  refine JH.wg 11 rfl (Gd.t1 rfl rfl rfl) (fun hc os' u' hv => q_load1 ty_2.h (gvt rfl hc) (Mem.pub ((hr14.vis hv) 0 _ rfl))) ?_
  refine JH.pg 12 rfl (Gd.t1 rfl rfl rfl) (fun hc => p_leq (gvt rfl hc) (gvt rfl hc)) ?_
  refine JH.p 13 rfl (p_pickAnd rfl rfl rfl) ?_
  refine jM 14 rfl rfl ?_
  refine JH.qgT 15 rfl (Gd.f1 rfl rfl rfl) (show (!((decide (0 < (k : Int))) && (decide ((M.cho e.choices k).move ≤ (M.cho e.choices (((k : Int) - 1).toNat)).move)))) = true by first | exact h11 | (rw [h11]; rfl) | simp [h11]) (L9 3 rfl rfl) ?_
  refine JH.qgT 16 rfl (Gd.f1 rfl rfl rfl) (show (!((decide (0 < (k : Int))) && (decide ((M.cho e.choices k).move ≤ (M.cho e.choices (((k : Int) - 1).toNat)).move)))) = true by first | exact h11 | (rw [h11]; rfl) | simp [h11]) (L9 2 rfl rfl) ?_
  refine JH.pgT 18 rfl (Gd.f1 rfl rfl rfl) (show (!((decide (0 < (k : Int))) && (decide ((M.cho e.choices k).move ≤ (M.cho e.choices (((k : Int) - 1).toNat)).move)))) = true by first | exact h11 | (rw [h11]; rfl) | simp [h11]) (p_fieldAddr fld_58_0.h rfl) ?_
  refine JH.qgT 19 rfl (Gd.f1 rfl rfl rfl) (show (!((decide (0 < (k : Int))) && (decide ((M.cho e.choices k).move ≤ (M.cho e.choices (((k : Int) - 1).toNat)).move)))) = true by first | exact h11 | (rw [h11]; rfl) | simp [h11]) (q_load1 ty_2.h rfl (Mem.box (i := 0) rfl rfl)) ?_
  refine y1 17 ?_
  refine ycT rfl (Gd.f1 rfl rfl rfl) (show (!((decide (0 < (k : Int))) && (decide ((M.cho e.choices k).move ≤ (M.cho e.choices (((k : Int) - 1).toNat)).move)))) = true by first | exact h11 | (rw [h11]; rfl) | simp [h11]) rfl (fun w hw => c_impl_BookEntry_position e) ?_
  intro A15 c15 bl15 bh15
  refine y1 20 ?_
  refine yvT rfl (Gd.f1 rfl rfl rfl) (show (!((decide (0 < (k : Int))) && (decide ((M.cho e.choices k).move ≤ (M.cho e.choices (((k : Int) - 1).toNat)).move)))) = true by first | exact h11 | (rw [h11]; rfl) | simp [h11]) rfl (fun w hw => c_impl_MoveFault r (M.posE e.pits) ((M.cho e.choices k).move) (ok_ hw) (ok_ hw)) ?_
  refine JH.pgT 21 rfl (Gd.f1 rfl rfl rfl) (show (!((decide (0 < (k : Int))) && (decide ((M.cho e.choices k).move ≤ (M.cho e.choices (((k : Int) - 1).toNat)).move)))) = true by first | exact h11 | (rw [h11]; rfl) | simp [h11]) (p_neq rfl rfl) ?_
  refine JH.p 22 rfl (p_pickOr2 rfl rfl rfl) ?_
  refine jM 23 rfl rfl ?_
  refine JH.pg 24 rfl (Gd.f1 rfl rfl rfl) (fun hc => p_fieldAddr fld_58_1.h rfl) ?_
  refine JH.qg 25 rfl (Gd.f1 rfl rfl rfl) (fun hc => q_load1 ty_2.h (gvt rfl hc) (Mem.box (i := 0) rfl rfl)) ?_
  refine y1 26 ?_
  refine JHo.ge rfl (Gd.f1 rfl rfl rfl) (fun hc => e_callV fn_54.h (opds_3 (gvt rfl hc) rfl rfl) (fun w hw => c_impl_between ((M.cho e.choices k).games) 1 1000000)) ?_
  refine JH.pg 27 rfl (Gd.f1 rfl rfl rfl) (fun hc => p_not (gvt rfl hc)) ?_
  refine JH.p 28 rfl (p_pickOr rfl rfl rfl) ?_
  refine jM 29 rfl rfl ?_
  refine JH.pg 30 rfl (Gd.f1 rfl rfl rfl) (fun hc => p_fieldAddr fld_58_2.h rfl) ?_
  refine JH.qg 31 rfl (Gd.f1 rfl rfl rfl) (fun hc => q_load1 ty_2.h (gvt rfl hc) (Mem.box (i := 0) rfl rfl)) ?_
  refine JH.pg 32 rfl (Gd.f1 rfl rfl rfl) (fun hc => p_fieldAddr fld_58_1.h rfl) ?_
  refine JH.qg 33 rfl (Gd.f1 rfl rfl rfl) (fun hc => q_load1 ty_2.h (gvt rfl hc) (Mem.box (i := 0) rfl rfl)) ?_
  refine JH.pg 34 rfl (Gd.f1 rfl rfl rfl) (fun hc => p_mul rfl (gvt rfl hc) (IntWalk.i64_in _ (by have hc9 := hc; simp only [Bool.not_eq_true', Bool.or_eq_false_iff, Bool.not_eq_false'] at hc9; have h8 := M.betw_iff.1 hc9.2; omega))) ?_
  refine y1 35 ?_
  refine JHo.ge rfl (Gd.f1 rfl rfl rfl) (fun hc => e_callV fn_54.h (opds_3 (gvt rfl hc) rfl (gvt rfl hc)) (fun w hw => c_impl_between ((M.cho e.choices k).score) 0 (2 * ((M.cho e.choices k).games)))) ?_
  refine JH.pg 36 rfl (Gd.f1 rfl rfl rfl) (fun hc => p_not (gvt rfl hc)) ?_
  refine JH.p 37 rfl (p_pickOr rfl rfl rfl) ?_
  refine yd ?_
  refine zi (fun h16 h16' => ?_) fun h16 h16' => ?_
  ·
   have hN : M.chAt r (M.posE e.pits) e.choices k = false := M.chAt_no (by rw [M.make_code]; exact h16)
   have hE2 : M.okCs r (M.posE e.pits) e.choices = false := M.all_no (by omega) hN
   refine zS <| Qa rfl <| JL.nil ?_
   refine zR x7 ?_
   first | (rw [hE, hE2]; rfl) | (rw [hE]; rfl)
  have hN : M.chAt r (M.posE e.pits) e.choices k = true := M.chAt_yes (by rw [M.make_code]; exact h16)
  refine Js.skip <| Js.blockEnd <| Js.region <| Qp rfl rfl <| Qm rfl <| JL.nil ?_
  refine zd [2, 2, 2] rfl fun u17 x17 => ?_
  exact zag ⟨k + 1, rfl, rfl, by exact hA.step hN, zt, rfl⟩ (x7.trans x17)
 have hE2 : M.okCs r (M.posE e.pits) e.choices = true := M.all_yes hA (by have := h8'; omega)
 refine zx ?_
 refine zS <| Qa rfl <| JL.nil ?_
 refine zR x7 ?_
 first | (rw [hE, hE2]; rfl) | (rw [hE]; rfl)
theorem c_impl_ValidBook (b : M.Boo) {v_b : Value} {w : World} (h_b : (Ty.agg (cBook b)).ok w v_b) (r0 : b.entries.length ≤ 4194304 := by exact om_) (r1 : ∀ x ∈ b.entries, x.pits.length ≤ 4194304 ∧ x.choices.length ≤ 4194304 := by exact om_) : RetV Tryz.prog 24 [v_b] w (.bool (M.okB b)) := by
 revert v_b; apply opn
 intro A1 c1 h1 bl1 bh1
 refine enter @Tryz.func24 @Tryz.ntmps24 rfl rfl ?_
 refine zent ?_
 refine zS <| zb rfl fun b2 => Qa rfl <| zJ <| zS <| Qf fh rfl <| Q9 0 rfl rfl ?_
 refine zv rfl (fun w hw => c_impl_ValidRules b.rules (ok_ hw)) <| Qt rfl <| Qm rfl <| zg (Gd.f1 rfl rfl rfl) (fun hc => p_fieldAddr fld_32_1.h rfl) <| zgq (Gd.f1 rfl rfl rfl) (fun hc => q_load1 ty_30.h (gh hc rfl) (Mem.box (i := 0) rfl rfl)) <| zg (Gd.f1 rfl rfl rfl) (fun hc => p_len el_30 (gh hc rfl)) <| zg (Gd.f1 rfl rfl rfl) (fun hc => p_gtr (gh hc rfl) rfl) <| Qq (p_pickOr rfl rfl rfl) <| JL.nil ?_
 refine zi (fun h3 h3' => ?_) fun h3 h3' => ?_
 ·
  have hE := M.okB_r (b := b) (by have h9 := h3; simp only [Bool.or_eq_true, Bool.not_eq_true', decide_eq_true_eq] at h9; exact h9.imp id (fun h => by omega))
  refine zS <| Qa rfl <| JL.nil ?_
  refine zR (Up.refl _ _) ?_
  first | (rw [hE, hE2]; rfl) | (rw [hE]; rfl)
 have h9 := h3
 simp only [Bool.or_eq_false_iff, Bool.not_eq_false', decide_eq_false_iff_not] at h9
 have hE := M.okB_es h9.1 (by omega)
 refine Js.skip <| Js.seq <| zS <| Qf fh rfl <| Q0 0 rfl rfl rfl <| Qz rfl <| Qm rfl <| JL.nil <| Js.block ?_
 refine zl [1, 16, 17] (fun F U l os u m => ∃ (k : Nat), l = F [(18, .int .i64 (k : Int))] ∧ os = U [] ∧ (M.AllB (M.entAt b.rules b.entries) k) ∧ (k ≤ b.entries.length) ∧ m = b.entries.length - k) ⟨0, rfl, rfl, by exact M.AllB.zero _, zt, rfl⟩ ?_
 rintro _ _ u4 _ ⟨k, rfl, rfl, hA, hk, rfl⟩ x4
 refine zn ?_
 refine zS <| Ql rfl rfl <| zJ ?_
 refine zi (fun h5 h5' => ?_) fun h5 h5' => ?_
 ·
  have hkk : k < b.entries.length := by have := h5'; omega
  obtain ⟨e1_, e2_⟩ := r1 _ (M.ent_mem (es := b.entries) (k := k) (by omega))
  obtain ⟨e3_, e4_⟩ := r1 _ (M.ent_mem (es := b.entries) (k := (((k : Int) - 1).toNat)) (by omega))
  have hy6 : b.entries[k]? = some (M.ent b.entries k) := M.ent_get (by omega)
  obtain ⟨b6, o6, A6_0, c6_0, A6_1, c6_1, he6, hr6, h6_0, h6_1, bl6_0, bh6_0, bl6_1, bh6_1⟩ := elem_BookEntry (Ty.mono _ h1 x4.vis) hy6
  refine Js.skip <| Js.seq <| Js.block <| zS <| Qm rfl <| Qq (p_indexAddr el_30 rfl rfl (by omega) (by omega) he6) <| QS 0 hr6 rfl ?_
  refine za zeh fun b7 => Qa rfl <| zw 0 rfl rfl rfl ?_
  refine zJ ?_
  refine zdr [] ?_
  refine jM 0 rfl rfl ?_
  refine JH.p 1 rfl (p_gtr rfl rfl) ?_
  refine jM 2 rfl rfl ?_
  refine JH.pg 3 rfl (Gd.t1 rfl rfl rfl) (fun hc => p_fieldAddr fld_32_1.h rfl) ?_
  refine JH.qg 4 rfl (Gd.t1 rfl rfl rfl) (fun hc => q_load1 ty_30.h (gvt rfl hc) (Mem.box (i := 1) rfl rfl)) ?_
  refine JH.pg 5 rfl (Gd.t1 rfl rfl rfl) (fun hc => p_move rfl) ?_
  refine JH.pg 6 rfl (Gd.t1 rfl rfl rfl) (fun hc => p_sub (gvt rfl hc) rfl (IntWalk.i64_in _ (oh_ hc))) ?_
  have hy8 : b.entries[((k : Int) - 1).toNat]? = some (M.ent b.entries (((k : Int) - 1).toNat)) := M.ent_get (by omega)
  obtain ⟨b8, o8, A8_0, c8_0, A8_1, c8_1, he8, hr8, h8_0, h8_1, bl8_0, bh8_0, bl8_1, bh8_1⟩ := elem_BookEntry (Ty.mono _ h1 x4.vis) hy8
  refine JH.pg 7 rfl (Gd.t1 rfl rfl rfl) (fun hc => p_indexAddr el_30 (gvt rfl hc) (gvt rfl hc) (oh_ hc) (oh_ hc) he8) ?_
  refine JH.pg 8 rfl (Gd.t1 rfl rfl rfl) (fun hc => p_fieldAddr fld_67_0.h (gvt rfl hc)) ?_
  refine JH.wg 9 rfl (Gd.t1 rfl rfl rfl) (fun hc os' u' hv => q_load1 ty_42.h (gvt rfl hc) (Mem.pub ((hr8.vis hv) 0 _ rfl))) ?_
  refine JH.pg 10 rfl (Gd.t1 rfl rfl rfl) (fun hc => p_fieldAddr fld_67_0.h rfl) ?_
  refine JH.qg 11 rfl (Gd.t1 rfl rfl rfl) (fun hc => q_load1 ty_42.h (gvt rfl hc) (Mem.box (i := 0) rfl rfl)) ?_
  refine y1 12 ?_
  refine JHo.ge rfl (Gd.t1 rfl rfl rfl) (fun hc => e_callV fn_73.h (opds_2 (gvt rfl hc) (gvt rfl hc)) (fun w hw => c_impl_compareNumbers ((M.ent b.entries (((k : Int) - 1).toNat)).pits) ((M.ent b.entries k).pits) (ok_ hw) (ok_ hw) (r0 := (oh_ hc)) (r1 := (oh_ hc)))) ?_
  refine JH.pg 13 rfl (Gd.t1 rfl rfl rfl) (fun hc => p_geq (gvt rfl hc) rfl) ?_
  refine JH.p 14 rfl (p_pickAnd rfl rfl rfl) ?_
  refine jM 15 rfl rfl ?_
  refine JH.pg 16 rfl (Gd.f1 rfl rfl rfl) (fun hc => p_fieldAddr fld_32_0.h rfl) ?_
  refine JH.qg 17 rfl (Gd.f1 rfl rfl rfl) (fun hc => L9 1 (gvt rfl hc) rfl) ?_
  refine JH.qg 18 rfl (Gd.f1 rfl rfl rfl) (fun hc => L9 0 rfl rfl) ?_
  refine y1 19 ?_
  refine JHo.ge rfl (Gd.f1 rfl rfl rfl) (fun hc => e_callV fn_74.h (opds_2 (gvt rfl hc) (gvt rfl hc)) (fun w hw => c_impl_Rules_validEntry b.rules (M.ent b.entries k) (ok_ hw) (ok_ hw) (r0 := (by have hc9 := hc; (try simp only [Bool.not_eq_true', Bool.and_eq_false_iff, decide_eq_false_iff_not, Int.not_lt, Int.not_le] at hc9); omega)) (r1 := (by have hc9 := hc; (try simp only [Bool.not_eq_true', Bool.and_eq_false_iff, decide_eq_false_iff_not, Int.not_lt, Int.not_le] at hc9); omega)))) ?_
  refine JH.pg 20 rfl (Gd.f1 rfl rfl rfl) (fun hc => p_not (gvt rfl hc)) ?_
  refine JH.p 21 rfl (p_pickOr rfl rfl rfl) ?_
  refine yd ?_
  refine zi (fun h9 h9' => ?_) fun h9 h9' => ?_
  ·
   have hN : M.entAt b.rules b.entries k = false := M.entAt_no (by exact h9)
   have hE2 : (List.range b.entries.length).all (M.entAt b.rules b.entries) = false := M.all_no (by omega) hN
   refine zS <| Qa rfl <| JL.nil ?_
   refine zR x4 ?_
   first | (rw [hE, hE2]; rfl) | (rw [hE]; rfl)
  have hN : M.entAt b.rules b.entries k = true := M.entAt_yes (by exact h9)
  refine Js.skip <| Js.blockEnd <| Js.region <| Qp rfl rfl <| Qm rfl <| JL.nil ?_
  refine zd [1] rfl fun u10 x10 => ?_
  exact zag ⟨k + 1, rfl, rfl, by exact hA.step hN, zt, rfl⟩ (x4.trans x10)
 have hE2 : (List.range b.entries.length).all (M.entAt b.rules b.entries) = true := M.all_yes hA (by have := h5'; omega)
 refine zx ?_
 refine zS <| Qa rfl <| JL.nil ?_
 refine zR x4 ?_
 first | (rw [hE, hE2]; rfl) | (rw [hE]; rfl)
theorem c_impl_Decimal (n : Int) {w : World} (h_tab : tabT.ok w undef) (r0 : -9223372036854775808 ≤ n := by exact om_) (r1 : n ≤ 9223372036854775807 := by exact om_) : RetV Tryz.prog 34 [.int .i64 n] w (.string (sB (M.dec n))) := by
 refine enter @Tryz.func34 @Tryz.ntmps34 rfl rfl ?_
 refine zent ?_
 refine zS <| Qa rfl <| zN <| Qm rfl <| zv rfl (fun w hw => c_strconv_FormatInt n 10 (ok_ hw)) <| Qa rfl <| JL.nil ?_
 exact zr (Up.refl _ _)
theorem c_impl_joined (ns : List Int) {v_ns : Value} {w : World} (h_ns : (Ty.ints 2 ns).ok w v_ns) (h_tab : tabT.ok w undef) (r0 : ns.length ≤ 4194304 := by exact om_) (r1 : M.Rng ns := by exact om_) : RetV Tryz.prog 33 [v_ns] w (.string (sB (M.joinT ns))) := by
 revert v_ns; apply opn
 intro A1 c1 h1 bl1 bh1
 have h_ns := h1
 refine enter @Tryz.func33 @Tryz.ntmps33 rfl rfl ?_
 refine zent ?_
 refine zS <| Qa rfl <| zN <| Qa rfl <| zJ <| zS <| Qm rfl <| Qz rfl <| Qm rfl <| JL.nil <| Js.block ?_
 refine zl [6, 7] (fun F U l os u m => ∃ (k : Nat) (out : List UInt8), l = F [(3, .string (sB out)), (8, .int .i64 (k : Int))] ∧ os = U [] ∧ (out = M.joinN ns k) ∧ (k ≤ ns.length) ∧ m = ns.length - k) ⟨0, ([] : List UInt8), rfl, rfl, by rfl, zt, rfl⟩ ?_
 rintro _ _ u2 _ ⟨k, out, rfl, rfl, hJ, hk, rfl⟩ x2
 refine zn ?_
 have lb9 : LenB out 92274688 := ⟨M.joinN_big hJ (by omega)⟩
 obtain ⟨n1, n2⟩ := M.Rng.nth r1 k
 refine zS <| Ql rfl rfl <| zJ ?_
 refine zi (fun h3 h3' => ?_) fun h3 h3' => ?_
 ·
  obtain ⟨b4, o4, he4, hc4⟩ := ints_elem (Ty.mono _ h1 x2.vis) (i := k) (by omega)
  refine Js.skip <| Js.seq <| Js.block <| zS <| Qm rfl <| Qq (p_indexAddr el_42 rfl rfl (by omega) (by omega) he4) <| QC hc4 rfl <| Qa rfl <| Qa rfl <| zJ <| zS <| Qm rfl <| Qg rfl rfl <| JL.nil ?_
  refine zi (fun h5 h5' => ?_) fun h5 h5' => ?_
  ·
   have hJ2 := M.joinN_p hJ (by have := h5'; omega)
   refine Js.region <| Qm rfl <| Qq (q_cat rfl rfl) <| Qa rfl <| zG <| Qm rfl <| Qm rfl <| zv rfl (fun w hw => c_impl_Decimal (M.nth ns k) (ok_ hw)) <| Qq (q_cat rfl rfl) <| Qa rfl <| JL.nil <| Js.blockEnd <| Js.region <| Qp rfl rfl ?_
   refine Qm rfl <| JL.nil ?_
   exact zag ⟨k + 1, (out ++ ([44] : List UInt8)) ++ (M.dec (M.nth ns k)), rfl, rfl, by exact hJ2, zt, rfl⟩ x2
  have hJ2 := M.joinN_z hJ (by have := h5'; omega)
  refine Js.skip <| Js.region <| Qm rfl <| Qm rfl <| zv rfl (fun w hw => c_impl_Decimal (M.nth ns k) (ok_ hw)) <| Qq (q_cat rfl rfl) <| Qa rfl <| JL.nil <| Js.blockEnd <| Js.region <| Qp rfl rfl <| Qm rfl <| JL.nil ?_
  exact zag ⟨k + 1, out ++ (M.dec (M.nth ns k)), rfl, rfl, by exact hJ2, zt, rfl⟩ x2
 have hE := M.joinN_e hJ (by have := h3'; omega) hk
 refine zx ?_
 refine zS <| Qm rfl <| Qa rfl <| JL.nil ?_
 refine zR x2 ?_
 rw [hE]; rfl
theorem c_impl_CaptureName (kind : Int) {w : World}  : RetV Tryz.prog 84 [.int .i64 kind] w (.string (sB (M.capName kind))) := by
 refine enter @Tryz.func84 @Tryz.ntmps84 rfl rfl ?_
 refine zent ?_
 refine zS <| Qa rfl <| zJ <| zS <| Qm rfl <| JL.nil <| Js.block <| zS <| Qe rfl rfl <| Qa rfl <| JL.nil ?_
 refine zi (fun h1 h1' => ?_) fun h1 h1' => ?_
 ·
  refine zS <| Qa rfl <| JL.nil ?_
  refine zR (Up.refl _ _) ?_
  first | (simp only [outV, M.capName, *, if_true, if_false]; done) | (simp [outV, M.capName, *])
 refine zS <| Qe rfl rfl <| Qa rfl <| JL.nil ?_
 refine zi (fun h2 h2' => ?_) fun h2 h2' => ?_
 ·
  refine zS <| Qa rfl <| JL.nil ?_
  refine zR (Up.refl _ _) ?_
  first | (simp only [outV, M.capName, *, if_true, if_false]; done) | (simp [outV, M.capName, *])
 refine zS <| Qe rfl rfl <| Qa rfl <| JL.nil ?_
 refine zi (fun h3 h3' => ?_) fun h3 h3' => ?_
 ·
  refine zS <| Qa rfl <| JL.nil ?_
  refine zR (Up.refl _ _) ?_
  first | (simp only [outV, M.capName, *, if_true, if_false]; done) | (simp [outV, M.capName, *])
 refine zS <| Qe rfl rfl <| Qa rfl <| JL.nil ?_
 refine zi (fun h4 h4' => ?_) fun h4 h4' => ?_
 ·
  refine zS <| Qa rfl <| JL.nil ?_
  refine zR (Up.refl _ _) ?_
  first | (simp only [outV, M.capName, *, if_true, if_false]; done) | (simp [outV, M.capName, *])
 refine Js.skip <| Js.blockEnd <| zS <| Qa rfl <| JL.nil ?_
 refine zR (Up.refl _ _) ?_
 first | (simp only [outV, M.capName, *, if_true, if_false]; done) | (simp [outV, M.capName, *])
theorem c_impl_SlamName (kind : Int) {w : World}  : RetV Tryz.prog 85 [.int .i64 kind] w (.string (sB (M.slamName kind))) := by
 refine enter @Tryz.func85 @Tryz.ntmps85 rfl rfl ?_
 refine zent ?_
 refine zS <| Qa rfl <| zJ <| zS <| Qm rfl <| JL.nil <| Js.block <| zS <| Qe rfl rfl <| Qa rfl <| JL.nil ?_
 refine zi (fun h1 h1' => ?_) fun h1 h1' => ?_
 ·
  refine zS <| Qa rfl <| JL.nil ?_
  refine zR (Up.refl _ _) ?_
  first | (simp only [outV, M.slamName, *, if_true, if_false]; done) | (simp [outV, M.slamName, *])
 refine zS <| Qe rfl rfl <| Qa rfl <| JL.nil ?_
 refine zi (fun h2 h2' => ?_) fun h2 h2' => ?_
 ·
  refine zS <| Qa rfl <| JL.nil ?_
  refine zR (Up.refl _ _) ?_
  first | (simp only [outV, M.slamName, *, if_true, if_false]; done) | (simp [outV, M.slamName, *])
 refine zS <| Qe rfl rfl <| Qa rfl <| JL.nil ?_
 refine zi (fun h3 h3' => ?_) fun h3 h3' => ?_
 ·
  refine zS <| Qa rfl <| JL.nil ?_
  refine zR (Up.refl _ _) ?_
  first | (simp only [outV, M.slamName, *, if_true, if_false]; done) | (simp [outV, M.slamName, *])
 refine Js.skip <| Js.blockEnd <| zS <| Qa rfl <| JL.nil ?_
 refine zR (Up.refl _ _) ?_
 first | (simp only [outV, M.slamName, *, if_true, if_false]; done) | (simp [outV, M.slamName, *])
theorem c_impl_flagNames  {w : World}  : Ret Tryz.prog 86 [] w (Ty.strs 9 M.fNames) := by
 refine enter @Tryz.func86 @Tryz.ntmps86 rfl rfl ?_
 refine zent ?_
 refine zS <| Qa rfl <| zN <| zbs fun b1 => ?_
 refine Qa rfl <| JL.nil ?_
 exact zro (Up.refl _ _) (g := by exact (gv_strs po_ (by rfl) (by rfl)))
theorem c_impl_Rules_flag (r : M.Rul) {v_r : Value} (y : List UInt8) {w : World} (h_r : (Ty.ref (cRules r)).ok w v_r) (r0 : y ∈ M.fNames := by exact om_) : RetV Tryz.prog 87 [v_r, .string (sB y)] w (addO v_r (M.flagIx y)) := by
 revert v_r; apply opn
 intro b1 o1 hr1
 refine enter @Tryz.func87 @Tryz.ntmps87 rfl rfl ?_
 refine zent ?_
 refine zS <| Qa rfl <| zJ <| zS <| Qm rfl <| JL.nil <| Js.block <| zS <| Qq (p_eqlT und_9 rfl rfl) <| Qa rfl <| JL.nil ?_
 refine zi (fun h2 h2' => ?_) fun h2 h2' => ?_
 ·
  have e52 := h2'
  refine zS <| Qm rfl <| Qc rfl <| Qf fh rfl <| Qa rfl <| JL.nil ?_
  refine zR (Up.refl _ _) ?_
  first | (rw [e52]; rfl) | (rw [e54]; rfl) | (rw [e56]; rfl) | (rw [e58]; rfl) | (rw [e60]; rfl) | (exfalso; simp only [M.fNames, List.mem_cons, List.not_mem_nil, or_false] at r0; rcases r0 with h | h | h | h | h <;> contradiction)
 have e52 := h2'
 refine zS <| Qq (p_eqlT und_9 rfl rfl) <| Qa rfl <| JL.nil ?_
 refine zi (fun h3 h3' => ?_) fun h3 h3' => ?_
 ·
  have e54 := h3'
  refine zS <| Qm rfl <| Qc rfl <| Qf fh rfl <| Qa rfl <| JL.nil ?_
  refine zR (Up.refl _ _) ?_
  first | (rw [e52]; rfl) | (rw [e54]; rfl) | (rw [e56]; rfl) | (rw [e58]; rfl) | (rw [e60]; rfl) | (exfalso; simp only [M.fNames, List.mem_cons, List.not_mem_nil, or_false] at r0; rcases r0 with h | h | h | h | h <;> contradiction)
 have e54 := h3'
 refine zS <| Qq (p_eqlT und_9 rfl rfl) <| Qa rfl <| JL.nil ?_
 refine zi (fun h4 h4' => ?_) fun h4 h4' => ?_
 ·
  have e56 := h4'
  refine zS <| Qm rfl <| Qc rfl <| Qf fh rfl <| Qa rfl <| JL.nil ?_
  refine zR (Up.refl _ _) ?_
  first | (rw [e52]; rfl) | (rw [e54]; rfl) | (rw [e56]; rfl) | (rw [e58]; rfl) | (rw [e60]; rfl) | (exfalso; simp only [M.fNames, List.mem_cons, List.not_mem_nil, or_false] at r0; rcases r0 with h | h | h | h | h <;> contradiction)
 have e56 := h4'
 refine zS <| Qq (p_eqlT und_9 rfl rfl) <| Qa rfl <| JL.nil ?_
 refine zi (fun h5 h5' => ?_) fun h5 h5' => ?_
 ·
  have e58 := h5'
  refine zS <| Qm rfl <| Qc rfl <| Qf fh rfl <| Qa rfl <| JL.nil ?_
  refine zR (Up.refl _ _) ?_
  first | (rw [e52]; rfl) | (rw [e54]; rfl) | (rw [e56]; rfl) | (rw [e58]; rfl) | (rw [e60]; rfl) | (exfalso; simp only [M.fNames, List.mem_cons, List.not_mem_nil, or_false] at r0; rcases r0 with h | h | h | h | h <;> contradiction)
 have e58 := h5'
 refine zS <| Qq (p_eqlT und_9 rfl rfl) <| Qa rfl <| JL.nil ?_
 refine zi (fun h6 h6' => ?_) fun h6 h6' => ?_
 ·
  have e60 := h6'
  refine zS <| Qm rfl <| Qc rfl <| Qf fh rfl <| Qa rfl <| JL.nil ?_
  refine zR (Up.refl _ _) ?_
  first | (rw [e52]; rfl) | (rw [e54]; rfl) | (rw [e56]; rfl) | (rw [e58]; rfl) | (rw [e60]; rfl) | (exfalso; simp only [M.fNames, List.mem_cons, List.not_mem_nil, or_false] at r0; rcases r0 with h | h | h | h | h <;> contradiction)
 have e60 := h6'
 refine Js.skip <| Js.blockEnd <| zS <| Qa rfl <| JL.nil ?_
 refine zR (Up.refl _ _) ?_
 first | (rw [e52]; rfl) | (rw [e54]; rfl) | (rw [e56]; rfl) | (rw [e58]; rfl) | (rw [e60]; rfl) | (exfalso; simp only [M.fNames, List.mem_cons, List.not_mem_nil, or_false] at r0; rcases r0 with h | h | h | h | h <;> contradiction)
theorem c_impl_RulesText (r : M.Rul) {v_r : Value} {w : World} (h_r : (Ty.agg (cRules r)).ok w v_r) (h_tab : tabT.ok w undef) : RetV Tryz.prog 32 [v_r] w (.string (sB (M.rulesTR r))) := by
 revert v_r; apply opn
 refine enter @Tryz.func32 @Tryz.ntmps32 rfl rfl ?_
 refine zent ?_
 refine zS <| zb rfl fun b1 => Qa rfl <| zJ <| zS <| Q9 0 rfl rfl ?_
 refine zv rfl (fun w hw => c_impl_ValidRules r (ok_ hw)) <| Qt rfl <| JL.nil ?_
 refine zi (fun h2 h2' => ?_) fun h2 h2' => ?_
 ·
  have hno : M.okR r = false := by simpa using h2
  have hE := M.rulesTR_no hno
  refine zS <| Qa rfl <| JL.nil ?_
  refine zR (Up.refl _ _) ?_
  first | (rw [hE]; rfl) | (rw [hE, ← hJ3]; rfl)
 have hok : M.okR r = true := by simpa using h2
 have hE := M.rulesTR_yes hok
 have hbd := M.okR_bd hok
 have hl5 : M.fNames.length = 5 := rfl
 refine Js.skip <| Js.seq ?_
 refine zdr [] ?_
 refine jF 0 fld_29_0 rfl rfl ?_
 refine jB 1 0 ty_2 rfl rfl rfl rfl ?_
 refine jF 5 fld_29_1 rfl rfl ?_
 refine jB 6 0 ty_2 rfl rfl rfl rfl ?_
 refine jF 10 fld_29_7 rfl rfl ?_
 refine jB 11 0 ty_2 rfl rfl rfl rfl ?_
 refine jF 15 fld_29_8 rfl rfl ?_
 refine jB 16 0 ty_2 rfl rfl rfl rfl ?_
 refine y1 2 ?_
 refine yv rfl rfl (fun w hw => c_impl_Decimal r.pits (ok_ hw)) ?_
 refine JH.p 3 rfl (q_cat rfl rfl) ?_
 refine JH.p 4 rfl (q_cat rfl rfl) ?_
 refine y1 7 ?_
 refine yv rfl rfl (fun w hw => c_impl_Decimal r.seeds (ok_ hw)) ?_
 refine JH.p 8 rfl (q_cat rfl rfl) ?_
 refine JH.p 9 rfl (q_cat rfl rfl) ?_
 refine y1 12 ?_
 refine yv rfl rfl (fun w hw => c_impl_CaptureName r.capture) ?_
 refine JH.p 13 rfl (q_cat rfl rfl) ?_
 refine JH.p 14 rfl (q_cat rfl rfl) ?_
 refine y1 17 ?_
 refine yv rfl rfl (fun w hw => c_impl_SlamName r.slam) ?_
 refine JH.p 18 rfl (q_cat rfl rfl) ?_
 refine jA 19 rfl rfl ?_
 refine yd ?_
 refine Js.seq <| zS <| zp rfl (fun w hw => c_impl_flagNames) ?_
 intro u3 x3 A4 c4 h4 bl4 bh4
 refine Qz rfl <| Qm rfl <| JL.nil <| Js.block ?_
 refine zl [1, 28, 29] (fun F U l os u m => ∃ (k : Nat) (out : List UInt8), l = F [(3, .string (sB out)), (30, .int .i64 (k : Int))] ∧ os = U [] ∧ (out = M.rulesN r k) ∧ (k ≤ 5) ∧ m = 5 - k) ⟨0, ((((((([112, 105, 116, 115, 61] : List UInt8) ++ (M.dec r.pits)) ++ ([32, 115, 101, 101, 100, 115, 61] : List UInt8)) ++ (M.dec r.seeds)) ++ ([32, 99, 97, 112, 116, 117, 114, 101, 61] : List UInt8)) ++ (M.capName r.capture)) ++ ([32, 115, 108, 97, 109, 61] : List UInt8)) ++ (M.slamName r.slam), rfl, rfl, by rfl, zt, rfl⟩ ?_
 rintro _ _ u5 _ ⟨k, out, rfl, rfl, hJ, hk, rfl⟩ x5
 refine zn ?_
 have lb9 : LenB out 155 := ⟨by rw [hJ]; have := M.rulesN_len r k hk; omega⟩
 refine zS <| Ql rfl rfl <| zJ ?_
 refine zi (fun h6 h6' => ?_) fun h6 h6' => ?_
 ·
  obtain ⟨y7, hy7⟩ : ∃ x, M.fNames[k]? = some x := ⟨_, List.getElem?_eq_getElem (by omega)⟩
  obtain ⟨b7, o7, he7, hc7⟩ := strs_elem (Ty.mono _ h4 x5.vis) hy7
  have lb8 : LenB y7 6 := ⟨M.fNames_len (List.mem_of_getElem? hy7)⟩
  refine Js.skip <| Js.seq <| Js.block <| zS <| Qq (p_indexAddr el_72 rfl rfl (by omega) (by omega) he7) <| QC hc7 rfl <| Qa rfl <| zN <| Qm rfl <| zv rfl (fun w hw => c_impl_Rules_flag r y7 (ok_ hw) (r0 := (List.mem_of_getElem? hy7))) <| Qc rfl <| Qw (q_load1 ty_4.h rfl (Mem.box (i := 0) rfl (flag_get (List.mem_of_getElem? hy7)))) <| JL.nil ?_
  refine zi (fun h8 h8' => ?_) fun h8 h8' => ?_
  ·
   have hJ2 := M.rulesN_t hJ hy7 (by simpa using h8)
   refine Js.region <| Qm rfl <| Qm rfl <| Qq (q_cat rfl rfl) <| Qq (q_cat rfl rfl) <| Qa rfl <| JL.nil <| Js.blockEnd <| Js.region <| Qp rfl rfl <| Qm rfl <| JL.nil ?_
   exact zag ⟨k + 1, out ++ (([32] : List UInt8) ++ y7), rfl, rfl, by exact hJ2, zt, rfl⟩ x5
  have hJ2 := M.rulesN_f hJ hy7 (by simpa using h8)
  refine Js.skip <| Js.blockEnd <| Js.region <| Qp rfl rfl <| Qm rfl <| JL.nil ?_
  exact zag ⟨k + 1, out, rfl, rfl, by exact hJ2, zt, rfl⟩ x5
 have hJ3 := M.rulesN_e hJ (by have := h6'; omega) hk
 refine zx ?_
 refine zS <| Qm rfl <| Qa rfl <| JL.nil ?_
 refine zR (x3.trans x5) ?_
 first | (rw [hE]; rfl) | (rw [hE, ← hJ3]; rfl)
end Go.Proofs.YtjklnidbndopiaaGreatDoor

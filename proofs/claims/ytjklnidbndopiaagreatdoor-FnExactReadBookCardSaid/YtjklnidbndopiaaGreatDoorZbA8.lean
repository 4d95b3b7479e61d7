/- Walks: K1. -/
import Derived.Test.YtjklnidbndopiaaGreatDoorZbA4
import Derived.Test.YtjklnidbndopiaaGreatDoorZbA6
import Derived.Test.YtjklnidbndopiaaGreatDoorZbA2
import Derived.Test.YtjklnidbndopiaaGreatDoorZbA3
set_option linter.unusedSimpArgs false
set_option linter.unusedVariables false
set_option maxRecDepth 100000
attribute [local irreducible] Go.Proofs.YtjklnidbndopiaaGreatDoor.gv
set_option maxHeartbeats 4000000
namespace Go.Proofs.YtjklnidbndopiaaGreatDoor
open Go.RowKit
theorem c_spec_l00In (n low high : Int) {w : World}  : RetV Tryz.prog 61 [.int .i64 n, .int .i64 low, .int .i64 high] w (.bool (M.betw n low high)) := by
 refine enter @Tryz.func61 @Tryz.ntmps61 rfl rfl ?_
 refine zent ?_
 refine zS <| Qa rfl <| zN <| Qm rfl <| Qm rfl <| Qh rfl rfl <| Qm rfl <| zg (Gd.t1 rfl rfl rfl) (fun hc => p_move rfl) <| zg (Gd.t1 rfl rfl rfl) (fun hc => p_move rfl) <| zg (Gd.t1 rfl rfl rfl) (fun hc => p_leq (gh hc rfl) (gh hc rfl)) <| Qq (p_pickAnd rfl rfl rfl) <| Qa rfl <| JL.nil ?_
 refine zR (Up.refl _ _) ?_
 simp [outV, M.betw]
theorem c_spec_l02Ok (r : M.Rul) {v_r : Value} {w : World} (h_r : (Ty.ref (cRules r)).ok w v_r) : RetV Tryz.prog 77 [v_r] w (.bool (M.okR r)) := by
 revert v_r; apply opn
 intro b1 o1 hr1
 refine enter @Tryz.func77 @Tryz.ntmps77 rfl rfl ?_
 refine zent ?_
 refine zS <| Qa rfl <| zN <| Qm rfl <| Qc rfl <| Qf fh rfl <| QC (hr1 0 _ rfl) rfl <| zv rfl (fun w hw => c_spec_l00In r.pits 2 8) <| Qm rfl <| zg (Gd.t1 rfl rfl rfl) (fun hc => p_move rfl) <| zg (Gd.t1 rfl rfl rfl) (fun hc => p_nilCheck (gh hc rfl)) <| zg (Gd.t1 rfl rfl rfl) (fun hc => p_fieldAddr fld_29_1.h (gh hc rfl)) <| zgq (Gd.t1 rfl rfl rfl) (fun hc => q_load1 ty_2.h (gh hc rfl) (Mem.pub (hr1 1 _ rfl))) <| zgv (Gd.t1 rfl rfl rfl) (fun hc => (opds_3 (gh hc rfl) rfl rfl)) (fun hc => (fun w hw => c_spec_l00In r.seeds 1 6)) ?_
 refine Qq (p_pickAnd rfl rfl rfl) <| Qm rfl <| zg (Gd.t1 rfl rfl rfl) (fun hc => p_move rfl) <| zg (Gd.t1 rfl rfl rfl) (fun hc => p_nilCheck (gh hc rfl)) <| zg (Gd.t1 rfl rfl rfl) (fun hc => p_fieldAddr fld_29_7.h (gh hc rfl)) <| zgq (Gd.t1 rfl rfl rfl) (fun hc => q_load1 ty_2.h (gh hc rfl) (Mem.pub (hr1 7 _ rfl))) <| zgv (Gd.t1 rfl rfl rfl) (fun hc => (opds_3 (gh hc rfl) rfl rfl)) (fun hc => (fun w hw => c_spec_l00In r.capture 0 3)) ?_
 refine Qq (p_pickAnd rfl rfl rfl) <| Qm rfl <| zg (Gd.t1 rfl rfl rfl) (fun hc => p_move rfl) <| zg (Gd.t1 rfl rfl rfl) (fun hc => p_nilCheck (gh hc rfl)) <| zg (Gd.t1 rfl rfl rfl) (fun hc => p_fieldAddr fld_29_8.h (gh hc rfl)) <| zgq (Gd.t1 rfl rfl rfl) (fun hc => q_load1 ty_2.h (gh hc rfl) (Mem.pub (hr1 8 _ rfl))) <| zgv (Gd.t1 rfl rfl rfl) (fun hc => (opds_3 (gh hc rfl) rfl rfl)) (fun hc => (fun w hw => c_spec_l00In r.slam 0 2)) ?_
 refine Qq (p_pickAnd rfl rfl rfl) <| Qm rfl <| zg (Gd.t1 rfl rfl rfl) (fun hc => p_move rfl) <| zg (Gd.t1 rfl rfl rfl) (fun hc => p_nilCheck (gh hc rfl)) <| zg (Gd.t1 rfl rfl rfl) (fun hc => p_fieldAddr fld_29_2.h (gh hc rfl)) <| zgq (Gd.t1 rfl rfl rfl) (fun hc => q_load1 ty_4.h (gh hc rfl) (Mem.pub (hr1 2 _ rfl))) <| zg (Gd.t1 rfl rfl rfl) (fun hc => p_move (gh hc rfl)) <| zg (Gd.f2 rfl rfl rfl) (fun hc => p_move rfl) <| zg (Gd.f2 rfl rfl rfl) (fun hc => p_nilCheck (gh hc rfl)) <| zg (Gd.f2 rfl rfl rfl) (fun hc => p_fieldAddr fld_29_6.h (gh hc rfl)) <| zgq (Gd.f2 rfl rfl rfl) (fun hc => q_load1 ty_4.h (gh hc rfl) (Mem.pub (hr1 6 _ rfl))) <| zg (Gd.f2 rfl rfl rfl) (fun hc => p_not (gh hc rfl)) <| zg (Gd.t1 rfl rfl rfl) (fun hc => p_pickOr (gh hc rfl) rfl (gvl rfl hc)) <| Qq (p_pickAnd rfl rfl rfl) ?_
 refine Qa rfl <| JL.nil ?_
 refine zR (Up.refl _ _) ?_
 simp [outV, M.okR, Bool.and_assoc]
theorem c_spec_l04Sum (list : List Int) {v_list : Value} {w : World} (h_list : (Ty.ints 2 list).ok w v_list) (r0 : list.length ≤ 4194304 := by exact om_) : RetV Tryz.prog 110 [v_list] w (.int .i64 (M.sum4 list)) := by
 revert v_list; apply opn
 intro A1 c1 h1 bl1 bh1
 have h_list := h1
 refine enter @Tryz.func110 @Tryz.ntmps110 rfl rfl ?_
 refine zent ?_
 refine zS <| Qa rfl <| zN <| Qa rfl <| zJ <| zS <| Qa rfl <| JL.nil <| Js.block ?_
 refine zl [0] (fun F U l os u m => ∃ (k : Nat) (t : Int), l = F [(3, .int .i64 t), (4, .int .i64 (k : Int))] ∧ os = U [] ∧ (k ≤ list.length) ∧ (0 ≤ t) ∧ (t ≤ 96 * k) ∧ (M.sumFrom t (list.drop k) = M.sumFrom 0 list) ∧ m = list.length - k) ⟨0, 0, rfl, rfl, zt, zt, zt, zt, rfl⟩ ?_
 rintro _ _ u2 _ ⟨k, t, rfl, rfl, hk, t0, t9, hS, rfl⟩ x2
 refine zn ?_
 refine Js.seq <| zS <| Qm rfl <| Qm rfl <| Qz rfl <| Ql rfl rfl <| JL.nil ?_
 refine zi (fun h3 h3' => ?_) fun h3 h3' => ?_
 ·
  obtain ⟨b4, o4, he4, hc4⟩ := ints_elem (Ty.mono _ h1 x2.vis) (i := k) (by omega)
  refine Js.skip <| Js.seq <| Js.block <| Js.seq <| zS <| Qm rfl <| Qm rfl <| Qq (p_indexAddr el_42 rfl rfl (by omega) (by omega) he4) <| QC hc4 rfl <| zv rfl (fun w hw => c_spec_l00In (M.nth list k) 0 96) <| Qt rfl <| JL.nil ?_
  refine zi (fun h5 h5' => ?_) fun h5 h5' => ?_
  ·
   have e1 : M.sum4 list = -1 := M.sum4_no (by rw [M.sumFrom_step (by omega), if_neg (by simpa using h5)] at hS; exact M.sumFrom_none hS.symm)
   refine zS <| Qa rfl <| JL.nil ?_
   refine zR x2 ?_
   rw [e1]; rfl
  have hb : M.betw (M.nth list k) 0 96 = true := by simpa using h5
  obtain ⟨hb0, hb1⟩ := M.betw_iff.1 hb
  obtain ⟨b6, o6, he6, hc6⟩ := ints_elem (Ty.mono _ h1 x2.vis) (i := k) (by omega)
  refine Js.skip <| Js.region <| Qm rfl <| Qm rfl <| Qm rfl <| Qq (p_indexAddr el_42 rfl rfl (by omega) (by omega) he6) <| QC hc6 rfl <| Qp rfl rfl <| Qa rfl <| JL.nil <| Js.blockEnd <| Js.region <| Qm rfl <| Qp rfl rfl ?_
  refine Qa rfl <| JL.nil ?_
  exact zag ⟨k + 1, t + (M.nth list k), rfl, rfl, zt, zt, zt, by rw [M.sumFrom_step (by omega), if_pos hb] at hS; exact hS, rfl⟩ x2
 obtain ⟨e1, e2⟩ := M.sumFrom_some (by rw [← hS]; exact M.sumFrom_end (by omega))
 refine zx ?_
 refine Js.seq <| zS <| Qm rfl <| Qg rfl rfl <| JL.nil ?_
 refine zi (fun h7 h7' => ?_) fun h7 h7' => ?_
 ·
  have e1 : M.sum4 list = -1 := M.sum4_big (by omega)
  refine zS <| Qa rfl <| JL.nil ?_
  refine zR x2 ?_
  rw [e1]; rfl
 have e1 : M.sum4 list = t := by rw [M.sum4_ok e1 (by omega), e2]
 refine Js.skip <| zS <| Qm rfl <| Qa rfl <| JL.nil ?_
 refine zR x2 ?_
 rw [e1]; rfl
theorem c_spec_l04Ok (r : M.Rul) {v_r : Value} (p : M.Pos) {v_p : Value} {w : World} (h_r : (Ty.ref (cRules r)).ok w v_r) (h_p : (Ty.ref (cPosition p)).ok w v_p) (r0 : p.pits.length ≤ 4194304 := by exact om_) (r1 : p.stores.length ≤ 4194304 := by exact om_) : RetV Tryz.prog 60 [v_r, v_p] w (.bool (M.okP r p)) := by
 have b1 := M.sum4_bd p.pits
 have b2 := M.sum4_bd p.stores
 revert v_r; apply opn
 intro b1 o1 hr1
 revert v_p; apply opn
 intro b4 o4 A2 c2 h2 bl2 bh2 A3 c3 h3 bl3 bh3 hr4
 refine enter @Tryz.func60 @Tryz.ntmps60 rfl rfl ?_
 refine zent ?_
 refine zS <| Qa rfl <| zJ <| Js.seq ?_
 refine zdr [] ?_
 refine jM 0 rfl rfl ?_
 refine y1 1 ?_
 refine yv rfl rfl (fun w hw => c_spec_l02Ok r (ok_ hw)) ?_
 refine JH.p 2 rfl (p_not rfl) ?_
 refine jM 3 rfl rfl ?_
 refine JH.pg 4 rfl (Gd.f1 rfl rfl rfl) (fun hc => p_move rfl) ?_
 refine JH.pg 5 rfl (Gd.f1 rfl rfl rfl) (fun hc => p_nilCheck (gvt rfl hc)) ?_
 refine JH.pg 6 rfl (Gd.f1 rfl rfl rfl) (fun hc => p_fieldAddr fld_44_0.h (gvt rfl hc)) ?_
 refine JH.wg 7 rfl (Gd.f1 rfl rfl rfl) (fun hc os' u' hv => q_load1 ty_42.h (gvt rfl hc) (Mem.pub ((hr4.vis hv) 0 _ rfl))) ?_
 refine JH.pg 8 rfl (Gd.f1 rfl rfl rfl) (fun hc => p_len el_42 (gvt rfl hc)) ?_
 refine JH.pg 9 rfl (Gd.f1 rfl rfl rfl) (fun hc => p_move rfl) ?_
 refine JH.pg 10 rfl (Gd.f1 rfl rfl rfl) (fun hc => p_nilCheck (gvt rfl hc)) ?_
 refine JH.pg 11 rfl (Gd.f1 rfl rfl rfl) (fun hc => p_fieldAddr fld_29_0.h (gvt rfl hc)) ?_
 refine JH.wg 12 rfl (Gd.f1 rfl rfl rfl) (fun hc os' u' hv => q_load1 ty_2.h (gvt rfl hc) (Mem.pub ((hr1.vis hv) 0 _ rfl))) ?_
 refine JH.pg 13 rfl (Gd.f1 rfl rfl rfl) (fun hc => p_mul rfl (gvt rfl hc) (IntWalk.i64_in _ (by have := M.okR_bd (r := r) (by simpa using hc); omega))) ?_
 refine JH.pg 14 rfl (Gd.f1 rfl rfl rfl) (fun hc => p_neq (gvt rfl hc) (gvt rfl hc)) ?_
 refine JH.p 15 rfl (p_pickOr rfl rfl rfl) ?_
 refine jM 16 rfl rfl ?_
 refine JH.pg 17 rfl (Gd.f1 rfl rfl rfl) (fun hc => p_move rfl) ?_
 refine JH.pg 18 rfl (Gd.f1 rfl rfl rfl) (fun hc => p_nilCheck (gvt rfl hc)) ?_
 refine JH.pg 19 rfl (Gd.f1 rfl rfl rfl) (fun hc => p_fieldAddr fld_44_1.h (gvt rfl hc)) ?_
 refine JH.wg 20 rfl (Gd.f1 rfl rfl rfl) (fun hc os' u' hv => q_load1 ty_42.h (gvt rfl hc) (Mem.pub ((hr4.vis hv) 1 _ rfl))) ?_
 refine JH.pg 21 rfl (Gd.f1 rfl rfl rfl) (fun hc => p_len el_42 (gvt rfl hc)) ?_
 refine JH.pg 22 rfl (Gd.f1 rfl rfl rfl) (fun hc => p_neq (gvt rfl hc) rfl) ?_
 refine JH.p 23 rfl (p_pickOr rfl rfl rfl) ?_
 refine jM 24 rfl rfl ?_
 refine JH.pg 25 rfl (Gd.f1 rfl rfl rfl) (fun hc => p_move rfl) ?_
 refine JH.pg 26 rfl (Gd.f1 rfl rfl rfl) (fun hc => p_nilCheck (gvt rfl hc)) ?_
 refine JH.pg 27 rfl (Gd.f1 rfl rfl rfl) (fun hc => p_fieldAddr fld_44_2.h (gvt rfl hc)) ?_
 refine JH.wg 28 rfl (Gd.f1 rfl rfl rfl) (fun hc os' u' hv => q_load1 ty_2.h (gvt rfl hc) (Mem.pub ((hr4.vis hv) 2 _ rfl))) ?_
 refine y1 29 ?_
 refine JHo.ge rfl (Gd.f1 rfl rfl rfl) (fun hc => e_callV fn_61.h (opds_3 (gvt rfl hc) rfl rfl) (fun w hw => c_spec_l00In p.player 0 1)) ?_
 refine JH.pg 30 rfl (Gd.f1 rfl rfl rfl) (fun hc => p_not (gvt rfl hc)) ?_
 refine JH.p 31 rfl (p_pickOr rfl rfl rfl) ?_
 refine yd ?_
 refine zi (fun h5 h5' => ?_) fun h5 h5' => ?_
 ·
  refine zS <| Qa rfl <| JL.nil ?_
  refine zR (Up.refl _ _) ?_
  rw [M.okP_no (by simpa [or_assoc] using h5)]; rfl
 obtain ⟨⟨⟨q1, q2⟩, q3⟩, q4⟩ : ((M.okR r = true ∧ (p.pits.length : Int) = 2 * r.pits) ∧ (p.stores.length : Int) = 2) ∧ M.betw p.player 0 1 = true := by simpa using h5
 refine Js.skip <| zS <| Qm rfl <| Qc rfl <| Qf fh rfl <| QC (hr4 0 _ rfl) rfl <| zv rfl (fun w hw => c_spec_l04Sum p.pits (ok_ hw)) <| Qa rfl <| zN <| Qm rfl <| Qc rfl <| Qf fh rfl <| QC (hr4 1 _ rfl) rfl <| zv rfl (fun w hw => c_spec_l04Sum p.stores (ok_ hw)) ?_
 refine Qa rfl <| zN <| Qm rfl <| Qh rfl rfl <| Qm rfl <| zg (Gd.t1 rfl rfl rfl) (fun hc => p_move rfl) <| zg (Gd.t1 rfl rfl rfl) (fun hc => p_geq (gh hc rfl) rfl) <| Qq (p_pickAnd rfl rfl rfl) <| Qm rfl <| zg (Gd.t1 rfl rfl rfl) (fun hc => p_move rfl) <| zg (Gd.t1 rfl rfl rfl) (fun hc => p_move rfl) <| zg (Gd.t1 rfl rfl rfl) (fun hc => p_add (gh hc rfl) (gh hc rfl) (IntWalk.i64_in _ (by have hc9 := hc; (try simp only [Bool.and_eq_true, decide_eq_true_eq] at hc9); omega))) ?_
 refine zg (Gd.t1 rfl rfl rfl) (fun hc => p_leq (gh hc rfl) rfl) <| Qq (p_pickAnd rfl rfl rfl) <| Qa rfl <| JL.nil ?_
 refine zR (Up.refl _ _) ?_
 rw [M.okP_yes4 q1 q2 q3 q4]; rfl
theorem c_spec_l00Own (list : List Int) {v_list : Value} {w : World} (h_list : (Ty.ints 2 list).ok w v_list) (r0 : list.length ≤ 4194304 := by exact om_) : Ret Tryz.prog 113 [v_list] w (Ty.ints 2 list) := by
 revert v_list; apply opn
 intro A1 c1 h1 bl1 bh1
 have h_list := h1
 refine enter @Tryz.func113 @Tryz.ntmps113 rfl rfl ?_
 refine zent ?_
 refine zS <| Qa rfl <| zN <| zbs fun b2 => ?_
 refine Qm rfl ?_
 refine JL.e (e_append (i := 0) (n' := list.length) (vs' := ints_ list) el_42 rfl rfl rfl rfl (src_ints und_42 h1) (by omega) (by omega) ln2_ (by simp [ints_])) ?_
 rintro v4 _ _ ⟨⟨g5, rfl⟩, rfl⟩ _
 refine JL.fact (row_form' (i := 0) rfl) (fun hf6 => ?_)
 obtain ⟨A6, c6, rfl, bl6, bh6⟩ := hf6
 refine znl ?_
 refine Qa rfl <| JL.nil ?_
 exact zro (Up.refl _ _)
theorem c_spec_l02Owner (r : M.Rul) {v_r : Value} (pit : Int) {w : World} (h_r : (Ty.ref (cRules r)).ok w v_r) (r0 : 2 ≤ r.pits := by exact om_) (r1 : r.pits ≤ 8 := by exact om_) (r2 : 0 ≤ pit := by exact om_) (r3 : pit ≤ 1000 := by exact om_) : RetV Tryz.prog 180 [v_r, .int .i64 pit] w (.int .i64 (M.owner r pit)) := by
 revert v_r; apply opn
 intro b1 o1 hr1
 refine enter @Tryz.func180 @Tryz.ntmps180 rfl rfl ?_
 refine zent ?_
 refine zS <| Qa rfl <| zN <| Qm rfl <| Qm rfl <| Qc rfl <| Qf fh rfl <| QC (hr1 0 _ rfl) rfl <| Qq (p_quo rfl rfl (by omega) (wrap_quo (by omega) (by omega) (by omega))) <| Qa rfl <| JL.nil ?_
 refine zR (Up.refl _ _) ?_
 rfl
theorem c_spec_l02Opposite (r : M.Rul) {v_r : Value} (pit : Int) {w : World} (h_r : (Ty.ref (cRules r)).ok w v_r) (r0 : 2 ≤ r.pits := by exact om_) (r1 : r.pits ≤ 8 := by exact om_) (r2 : 0 ≤ pit := by exact om_) (r3 : pit ≤ 1000 := by exact om_) : RetV Tryz.prog 194 [v_r, .int .i64 pit] w (.int .i64 (M.opp r pit)) := by
 revert v_r; apply opn
 intro b1 o1 hr1
 refine enter @Tryz.func194 @Tryz.ntmps194 rfl rfl ?_
 refine zent ?_
 refine zS <| Qa rfl <| zN <| Qm rfl <| Qc rfl <| Qf fh rfl <| QC (hr1 0 _ rfl) rfl <| Qu rfl rfl <| Qs rfl rfl <| Qm rfl <| Qs rfl rfl <| Qa rfl <| JL.nil ?_
 refine zR (Up.refl _ _) ?_
 rfl
theorem c_spec_l02Next (r : M.Rul) {v_r : Value} (pit : Int) {w : World} (h_r : (Ty.ref (cRules r)).ok w v_r) (r0 : 2 ≤ r.pits := by exact om_) (r1 : r.pits ≤ 8 := by exact om_) (r2 : -1 ≤ pit := by exact om_) (r3 : pit ≤ 1000 := by exact om_) : RetV Tryz.prog 199 [v_r, .int .i64 pit] w (.int .i64 ((pit + 1) % (2 * r.pits))) := by
 revert v_r; apply opn
 intro b1 o1 hr1
 refine enter @Tryz.func199 @Tryz.ntmps199 rfl rfl ?_
 refine zent ?_
 have hrn2 := Int.emod_nonneg (pit + 1) (b := 2 * r.pits) (by omega)
 have hrl2 := Int.emod_lt_of_pos (pit + 1) (show 0 < 2 * r.pits by omega)
 refine zS <| Qa rfl <| zN <| Qm rfl <| Qp rfl rfl <| Qm rfl <| Qc rfl <| Qf fh rfl <| QC (hr1 0 _ rfl) rfl <| Qu rfl rfl <| Qq (p_rem rfl rfl (by omega) (Int.tmod_eq_emod_of_nonneg (by omega))) <| Qa rfl <| JL.nil ?_
 exact zr (Up.refl _ _)
theorem c_spec_l05Next (r : M.Rul) {v_r : Value} (player place : Int) {w : World} (h_r : (Ty.ref (cRules r)).ok w v_r) (r0 : 2 ≤ r.pits := by exact om_) (r1 : r.pits ≤ 8 := by exact om_) (r2 : player = 0 ∨ player = 1 := by exact om_) (r3 : -1 ≤ place := by exact om_) (r4 : place ≤ 1000 := by exact om_) : RetV Tryz.prog 198 [v_r, .int .i64 player, .int .i64 place] w (.int .i64 (M.after r player place)) := by
 have hq := M.mul_bd r2 r0 r1
 revert v_r; apply opn
 intro b1 o1 hr1
 refine enter @Tryz.func198 @Tryz.ntmps198 rfl rfl ?_
 refine zent ?_
 refine zS <| Qa rfl <| zN <| Qm rfl <| Qp rfl rfl <| Qm rfl <| Qc rfl <| Qf fh rfl <| QC (hr1 0 _ rfl) rfl <| Qu rfl rfl <| Qs rfl rfl <| Qa rfl <| zJ <| zS ?_
 refine Qm rfl <| Qe rfl rfl <| JL.nil ?_
 refine zi (fun h2 h2' => ?_) fun h2 h2' => ?_
 ·
  have e1 := M.after_m1 (r := r) (player := player) (place := place) (by simpa using h2) (by omega)
  refine zS <| Qm rfl <| Qm rfl <| zv rfl (fun w hw => c_spec_l02Next r (((player + 1) * r.pits) - 1) (ok_ hw)) <| Qa rfl <| JL.nil ?_
  refine zR (Up.refl _ _) ?_
  rw [e1]; rfl
 refine Js.skip <| Js.seq <| zS <| Qm rfl <| Qc rfl <| Qf fh rfl <| QC (hr1 2 _ rfl) rfl <| Qm rfl <| zg (Gd.t1 rfl rfl rfl) (fun hc => p_move rfl) <| zg (Gd.t1 rfl rfl rfl) (fun hc => p_move rfl) <| zg (Gd.t1 rfl rfl rfl) (fun hc => p_eql (gh hc rfl) (gh hc rfl)) <| Qq (p_pickAnd rfl rfl rfl) <| JL.nil ?_
 refine zi (fun h3 h3' => ?_) fun h3 h3' => ?_
 ·
  have e1 := M.after_end (r := r) (player := player) (place := place) (by simpa using h3)
  refine zS <| Qa rfl <| JL.nil ?_
  refine zR (Up.refl _ _) ?_
  rw [e1]; rfl
 have e1 := M.after_else (r := r) (player := player) (place := place) (by simpa using h3) (by omega)
 refine Js.skip <| zS <| Qm rfl <| Qm rfl <| zv rfl (fun w hw => c_spec_l02Next r place (ok_ hw)) <| Qa rfl <| JL.nil ?_
 refine zR (Up.refl _ _) ?_
 rw [e1]; rfl
theorem c_spec_l04Side (r : M.Rul) {v_r : Value} (pits : List Int) {v_pits : Value} (player : Int) {w : World} (h_r : (Ty.ref (cRules r)).ok w v_r) (h_pits : (Ty.ints 2 pits).ok w v_pits) (r0 : 2 ≤ r.pits := by exact om_) (r1 : r.pits ≤ 8 := by exact om_) (r2 : player = 0 ∨ player = 1 := by exact om_) (r3 : (pits.length : Int) = 2 * r.pits := by exact om_) (r4 : M.allOk pits = true := by exact om_) : RetV Tryz.prog 155 [v_r, v_pits, .int .i64 player] w (.int .i64 (M.side r pits player)) := by
 have hq := M.mul_bd r2 r0 r1
 have hsp := M.side_part (ps := pits) (r := r) (player := player) (by omega)
 revert v_r; apply opn
 intro b1 o1 hr1
 revert v_pits; apply opn
 intro A2 c2 h2 bl2 bh2
 have h_pits := h2
 refine enter @Tryz.func155 @Tryz.ntmps155 rfl rfl ?_
 refine zent ?_
 refine zS <| Qa rfl <| zN <| Qa rfl <| zJ <| zS <| Qm rfl <| Qm rfl <| Qc rfl <| Qf fh rfl <| QC (hr1 0 _ rfl) rfl <| Qu rfl rfl <| Qa rfl <| JL.nil ?_
 refine Js.block ?_
 refine zl [0, 1, 2] (fun F U l os u m => ∃ (k t : Int), l = F [(7, .int .i64 t), (8, .int .i64 k)] ∧ os = U [] ∧ (t + M.part pits k ((player + 1) * r.pits) = M.side r pits player) ∧ (player * r.pits ≤ k) ∧ (k ≤ (player + 1) * r.pits) ∧ (0 ≤ t) ∧ (t ≤ 96 * (k - player * r.pits)) ∧ m = ((player + 1) * r.pits - k).toNat) ⟨player * r.pits, 0, rfl, rfl, by rw [hsp]; omega, zt, zt, zt, zt, rfl⟩ ?_
 rintro _ _ u3 _ ⟨k, t, rfl, rfl, hS, k0, k1, t0, t1, rfl⟩ x3
 refine zn ?_
 have hv := M.allOk_nth r4 k.toNat
 refine Js.seq <| zS <| Qm rfl <| Qm rfl <| Qp rfl rfl <| Qm rfl <| Qc rfl <| Qf fh rfl <| QC ((hr1.vis x3.vis) 0 _ rfl) rfl <| Qu rfl rfl <| Ql rfl rfl <| JL.nil ?_
 refine zi (fun h4 h4' => ?_) fun h4 h4' => ?_
 ·
  obtain ⟨b5, o5, he5, hc5⟩ := ints_elem (Ty.mono _ h2 x3.vis) (i := k.toNat) (by omega)
  refine Js.skip <| Js.seq <| Js.block <| Js.region <| Qm rfl <| Qm rfl <| Qm rfl <| Qq (p_indexAddr el_42 rfl rfl (by omega) (by omega) he5) <| QC hc5 rfl <| Qp rfl rfl <| Qa rfl <| JL.nil <| Js.blockEnd <| Js.region ?_
  refine Qm rfl <| Qp rfl rfl <| Qa rfl <| JL.nil ?_
  exact zag ⟨k + 1, t + (M.nth pits k.toNat), rfl, rfl, by rw [M.part_step (by omega) (by omega) (by omega)] at hS; simp only [M.getI] at hS; omega, zt, zt, zt, zt, rfl⟩ x3
 have e1 : M.side r pits player = t := by rw [M.part_end (by omega)] at hS; omega
 refine zx ?_
 refine zS <| Qm rfl <| Qa rfl <| JL.nil ?_
 refine zR x3 ?_
 rw [e1]; rfl
theorem c_spec_l05Code (r : M.Rul) {v_r : Value} (p : M.Pos) {v_p : Value} (move : Int) {w : World} (h_r : (Ty.ref (cRules r)).ok w v_r) (h_p : (Ty.ref (cPosition p)).ok w v_p) (r0 : p.pits.length ≤ 4194304 := by exact om_) (r1 : p.stores.length ≤ 4194304 := by exact om_) : RetV Tryz.prog 177 [v_r, v_p, .int .i64 move] w (.int .i64 (M.sowCode r p move)) := by
 revert v_r; apply opn
 intro b1 o1 hr1
 revert v_p; apply opn
 intro b4 o4 A2 c2 h2 bl2 bh2 A3 c3 h3 bl3 bh3 hr4
 refine enter @Tryz.func177 @Tryz.ntmps177 rfl rfl ?_
 refine zent ?_
 refine zS <| Qa rfl <| zJ <| zS <| Qm rfl <| Qm rfl <| zv rfl (fun w hw => c_spec_l04Ok r p (ok_ hw) (ok_ hw)) <| Qt rfl <| JL.nil ?_
 refine zi (fun h5 h5' => ?_) fun h5 h5' => ?_
 ·
  refine zS <| Qa rfl <| JL.nil ?_
  refine zR (Up.refl _ _) ?_
  simp_all [outV, M.sowCode, M.getI]
 have hok : M.okP r p = true := by simpa using h5
 obtain ⟨g1, g2, g3, g4, g5, g6, g7⟩ := M.okP_bd hok
 have hq := M.mul_bd g7 g1 g2
 refine Js.skip <| Js.seq <| zS <| Qm rfl <| Qm rfl <| Qc rfl <| Qf fh rfl <| QC (hr1 0 _ rfl) rfl <| Qs rfl rfl <| zv rfl (fun w hw => c_spec_l00In move 0 (r.pits - 1)) <| Qt rfl <| JL.nil ?_
 refine zi (fun h6 h6' => ?_) fun h6 h6' => ?_
 ·
  refine zS <| Qa rfl <| JL.nil ?_
  refine zR (Up.refl _ _) ?_
  simp_all [outV, M.sowCode, M.getI]
 obtain ⟨m0, m1⟩ := M.betw_iff.1 (show M.betw move 0 (r.pits - 1) = true by simpa using h6)
 refine Js.skip <| Js.seq <| Js.seq ?_
 refine zdr [] ?_
 refine jM 0 rfl rfl ?_
 refine jN 1 rfl rfl ?_
 refine jF 2 fld_44_0 rfl rfl ?_
 refine jW 3 ty_42 rfl rfl (fun hv => (hr4.vis hv) 0 _ rfl) ?_
 refine jM 4 rfl rfl ?_
 refine jN 5 rfl rfl ?_
 refine jF 6 fld_44_2 rfl rfl ?_
 refine jW 7 ty_2 rfl rfl (fun hv => (hr4.vis hv) 2 _ rfl) ?_
 refine jM 8 rfl rfl ?_
 refine jN 9 rfl rfl ?_
 refine jF 10 fld_29_0 rfl rfl ?_
 refine jW 11 ty_2 rfl rfl (fun hv => (hr1.vis hv) 0 _ rfl) ?_
 refine JH.p 12 rfl (p_mul rfl rfl (IntWalk.i64_in _ (by omega))) ?_
 refine jM 13 rfl rfl ?_
 refine JH.p 14 rfl (p_add rfl rfl (IntWalk.i64_in _ (by omega))) ?_
 obtain ⟨b7, o7, he7, hc7⟩ := ints_elem h2 (i := ((p.player * r.pits) + move).toNat) (by omega)
 refine jI 15 el_42 rfl rfl rfl he7 ?_
 refine jW 16 ty_2 rfl rfl hc7.vis ?_
 refine JH.p 17 rfl (p_eql rfl rfl) ?_
 refine yd ?_
 refine zi (fun h8 h8' => ?_) fun h8 h8' => ?_
 ·
  refine zS <| Qa rfl <| JL.nil ?_
  refine zR (Up.refl _ _) ?_
  simp_all [outV, M.sowCode, M.getI]
 refine Js.skip <| zS <| Qa rfl <| JL.nil ?_
 refine zR (Up.refl _ _) ?_
 simp_all [outV, M.sowCode, M.getI]
theorem c_spec_l05Lap (r : M.Rul) {v_r : Value} (s_pits s_stores : List Int) (s_last s_laps : Int) {As_0 : Option Addr} {cs_0 : Nat} {gs_0 : List Nat} {As_1 : Option Addr} {cs_1 : Nat} {gs_1 : List Nat} (player from_ : Int) (path : List Int) {Apath_0 : Option Addr} {cpath_0 : Nat} {gpath_0 : List Nat} {bs : Nat} {w : World} (hb : Bw w [boxO bs [.slice As_0 s_pits.length cs_0, .slice As_1 s_stores.length cs_1, .int .i64 s_last, .int .i64 s_laps] 153, rowO 2 1 (.slice As_0 s_pits.length cs_0) s_pits.length (ints_ s_pits) gs_0, rowO 2 1 (.slice As_1 s_stores.length cs_1) s_stores.length (ints_ s_stores) gs_1, rowO 2 1 (.slice Apath_0 path.length cpath_0) path.length (ints_ path) gpath_0]) (h_r : (Ty.ref (cRules r)).ok (offW w (([boxO bs [.slice As_0 s_pits.length cs_0, .slice As_1 s_stores.length cs_1, .int .i64 s_last, .int .i64 s_laps] 153, rowO 2 1 (.slice As_0 s_pits.length cs_0) s_pits.length (ints_ s_pits) gs_0, rowO 2 1 (.slice As_1 s_stores.length cs_1) s_stores.length (ints_ s_stores) gs_1, rowO 2 1 (.slice Apath_0 path.length cpath_0) path.length (ints_ path) gpath_0] : List Own).flatMap (·.fp))) v_r) (bd0 : s_pits.length ≤ cs_0 := by exact om_) (bd1 : cs_0 ≤ 9223372036854775807 := by exact om_) (bd2 : s_stores.length ≤ cs_1 := by exact om_) (bd3 : cs_1 ≤ 9223372036854775807 := by exact om_) (bd4 : path.length ≤ cpath_0 := by exact om_) (bd5 : cpath_0 ≤ 9223372036854775807 := by exact om_) (r0 : 2 ≤ r.pits := by exact om_) (r1 : r.pits ≤ 8 := by exact om_) (r2 : player = 0 ∨ player = 1 := by exact om_) (r3 : 0 ≤ from_ := by exact om_) (r4 : from_ < 2 * r.pits := by exact om_) (r5 : M.Good r s_pits s_stores 0 := by exact om_) (r6 : 0 < (M.getI s_pits from_) := by exact om_) (r7 : 0 ≤ s_laps := by exact om_) (r8 : s_laps ≤ 99 := by exact om_) (r9 : path.length ≤ 10000 := by exact om_) : RetB Tryz.prog 193 [v_r, .pointer (some ⟨bs, 0, none⟩), .int .i64 player, .int .i64 from_, .slice Apath_0 path.length cpath_0] w [boxO bs [.slice As_0 s_pits.length cs_0, .slice As_1 s_stores.length cs_1, .int .i64 s_last, .int .i64 s_laps] 153, rowO 2 1 (.slice As_0 s_pits.length cs_0) s_pits.length (ints_ s_pits) gs_0, rowO 2 1 (.slice As_1 s_stores.length cs_1) s_stores.length (ints_ s_stores) gs_1, rowO 2 1 (.slice Apath_0 path.length cpath_0) path.length (ints_ path) gpath_0] (fun v bs' => ∃ (Axs_0 : Option Addr) (cxs_0 : Nat) (gxs_0 : List Nat) (Axs_1 : Option Addr) (cxs_1 : Nat) (gxs_1 : List Nat) (Axr : Option Addr) (cxr : Nat) (gxr : List Nat), v = .slice Axr (((M.lap r player from_ (M.Sw.mk s_pits s_stores s_last s_laps) path).2).length) cxr ∧ bs' = [boxO bs [.slice Axs_0 (((M.lap r player from_ (M.Sw.mk s_pits s_stores s_last s_laps) path).1.pits).length) cxs_0, .slice Axs_1 (((M.lap r player from_ (M.Sw.mk s_pits s_stores s_last s_laps) path).1.stores).length) cxs_1, .int .i64 ((M.lap r player from_ (M.Sw.mk s_pits s_stores s_last s_laps) path).1.last), .int .i64 ((M.lap r player from_ (M.Sw.mk s_pits s_stores s_last s_laps) path).1.laps)] 153, rowO 2 1 (.slice Axs_0 (((M.lap r player from_ (M.Sw.mk s_pits s_stores s_last s_laps) path).1.pits).length) cxs_0) (((M.lap r player from_ (M.Sw.mk s_pits s_stores s_last s_laps) path).1.pits).length) (ints_ ((M.lap r player from_ (M.Sw.mk s_pits s_stores s_last s_laps) path).1.pits)) gxs_0, rowO 2 1 (.slice Axs_1 (((M.lap r player from_ (M.Sw.mk s_pits s_stores s_last s_laps) path).1.stores).length) cxs_1) (((M.lap r player from_ (M.Sw.mk s_pits s_stores s_last s_laps) path).1.stores).length) (ints_ ((M.lap r player from_ (M.Sw.mk s_pits s_stores s_last s_laps) path).1.stores)) gxs_1, rowO 2 1 (.slice Axr (((M.lap r player from_ (M.Sw.mk s_pits s_stores s_last s_laps) path).2).length) cxr) (((M.lap r player from_ (M.Sw.mk s_pits s_stores s_last s_laps) path).2).length) (ints_ ((M.lap r player from_ (M.Sw.mk s_pits s_stores s_last s_laps) path).2)) gxr] ∧ ((M.lap r player from_ (M.Sw.mk s_pits s_stores s_last s_laps) path).1.pits).length ≤ cxs_0 ∧ cxs_0 ≤ 9223372036854775807 ∧ ((M.lap r player from_ (M.Sw.mk s_pits s_stores s_last s_laps) path).1.stores).length ≤ cxs_1 ∧ cxs_1 ≤ 9223372036854775807 ∧ ((M.lap r player from_ (M.Sw.mk s_pits s_stores s_last s_laps) path).2).length ≤ cxr ∧ cxr ≤ 9223372036854775807) := by
 have l1 := r5.lp
 have l2 := r5.ls
 have hk0 := r5.pit from_
 revert v_r; apply opn
 intro b1 o1 hr1
 refine enterB hb @Tryz.func193 @Tryz.ntmps193 rfl rfl ?_
 refine zent ?_
 refine Js.trashE ?_
 refine zn ?_
 refine Js.fact (row_some (i := 1) rfl (by omega)) (fun hf2 => ?_)
 obtain ⟨b2, rfl⟩ := hf2
 refine Js.fact (row_some (i := 2) rfl (by omega)) (fun hf3 => ?_)
 obtain ⟨b3, rfl⟩ := hf3
 refine zS <| Qa rfl <| zN <| Qm rfl <| Qc rfl <| Qf fh rfl <| Q0 0 rfl rfl rfl <| Qm rfl <| Qq (p_indexAddr el_42 rfl rfl (by omega) (by omega) rfl) <| Qw (q_load1 ty_2.h rfl (Mem.row (i := 1) rfl (ints_getI (i := from_) (by omega)))) <| Qa rfl <| zN <| Qm rfl <| Qc rfl ?_
 refine Qf fh rfl <| Q0 0 rfl rfl rfl <| Qm rfl <| Qq (p_indexAddr el_42 rfl rfl (by omega) (by omega) rfl) ?_
 refine JL.s (e_storeRow (i := 1) (xs' := ints_ (M.setI s_pits from_ 0)) ty_2.h rfl rfl rfl rfl rfl rfl (ints_lt (i := from_.toNat) (by omega)) (ints_setL (i := from_.toNat) (by omega))) ?_
 rintro _ _ _ ⟨rfl, rfl⟩ _
 refine znl ?_
 refine zN <| Qm rfl <| Qa rfl <| zJ <| Js.block ?_
 refine zl [0, 1, 2, 3] (fun F U l os u m => ∃ (k place : Int) (ps ss pth : List Int) (A6_4 : Option Addr) (c6_4 : Nat) (g6_4 : List Nat) (G6_4 : List Nat), l = F [(4, .slice A6_4 pth.length c6_4), (11, .int .i64 k), (12, .int .i64 place)] ∧ os = U [nO, some (rowO 2 1 (.slice (some ⟨b2, 0, none⟩) s_pits.length cs_0) s_pits.length (ints_ ps) gs_0), some (rowO 2 1 (.slice (some ⟨b3, 0, none⟩) s_stores.length cs_1) s_stores.length (ints_ ss) gs_1), some (rowO 2 1 (.slice A6_4 pth.length c6_4) pth.length (ints_ pth) g6_4), some (anyO G6_4)] ∧ (M.sow r player from_ k.toNat place ps ss pth = M.sow r player from_ (M.getI s_pits from_).toNat from_ (M.setI s_pits from_ 0) s_stores path) ∧ (M.Good r ps ss k) ∧ (-1 ≤ place) ∧ (place < 2 * r.pits) ∧ ((pth.length : Int) + k = path.length + (M.getI s_pits from_)) ∧ (0 ≤ k) ∧ (pth.length ≤ c6_4) ∧ (c6_4 ≤ 9223372036854775807) ∧ m = M.ms k place from_) ⟨M.getI s_pits from_, from_, M.setI s_pits from_ 0, s_stores, path, _, _, _, _, rfl, rfl, by rfl, by exact r5.takeUp r3 r4, zt, zt, zt, zt, zu, zu, rfl⟩ ?_
 rintro _ _ u6 _ ⟨k, place, ps, ss, pth, A6_4, c6_4, g6_4, G6_4, rfl, rfl, hS, hG, p0, p1, hl, hk, f6_6, f6_7, rfl⟩ x6
 refine zn ?_
 have l3 := hG.lp
 have l4 := hG.ls
 have hs0 := hG.store player
 have ha := M.after_bd r (player := player) (n := place) r1 r0 r2 p0
 refine Js.seq <| zS <| Qm rfl <| Qg rfl rfl <| JL.nil ?_
 refine zi (fun h7 h7' => ?_) fun h7 h7' => ?_
 ·
  refine Js.skip <| Js.block <| zS <| Qm rfl <| Qm rfl <| Qm rfl <| zv rfl (fun w hw => c_spec_l05Next r player place (ok_ hw)) <| Qa rfl <| zJ <| zS <| Qm rfl <| Qc rfl <| Qf fh rfl <| QC ((hr1.vis x6.vis) 3 _ rfl) rfl ?_
  refine Qm rfl <| zg (Gd.t1 rfl rfl rfl) (fun hc => p_move rfl) <| zg (Gd.t1 rfl rfl rfl) (fun hc => p_move rfl) <| zg (Gd.t1 rfl rfl rfl) (fun hc => p_eql (gh hc rfl) (gh hc rfl)) <| Qq (p_pickAnd rfl rfl rfl) <| JL.nil ?_
  refine zi (fun h8 h8' => ?_) fun h8 h8' => ?_
  ·
   have hc : r.skip = true ∧ M.after r player place = from_ := by simpa using h8
   have hS2 : M.sow r player from_ k.toNat (M.after r player place) ps ss pth = M.sow r player from_ (M.getI s_pits from_).toNat from_ (M.setI s_pits from_ 0) s_stores path := by rw [hc.2, ← M.sow_skip r1 r0 r3 r4 hc (by omega)]; exact hS
   have hm2 := M.ms_skip (k := k) r1 r0 r3 r4 hc.2
   refine zx ?_
   exact zag ⟨k, M.after r player place, ps, ss, pth, _, _, _, _, rfl, rfl, by exact hS2, by first | exact hG2 | exact hG, zt, zt, by first | omega | (simp only [List.length_append, List.length_cons, List.length_nil]; omega), zt, zu, zu, rfl⟩ x6 (by exact hm2)
  have hc : ¬(r.skip = true ∧ M.after r player place = from_) := by simpa using h8
  have hq := M.nxt_no hc
  have hm2 := M.ms_lt (a := (M.after r player place)) (b := place) (frm := from_) (show 0 < k by omega)
  refine Js.skip <| Js.seq <| zS <| Qm rfl <| Qe rfl rfl <| JL.nil ?_
  refine zi (fun h9 h9' => ?_) fun h9 h9' => ?_
  ·
   have hq0 : (M.after r player place) = -1 := by simpa using h9
   have hS2 : M.sow r player from_ (k - 1).toNat (M.after r player place) ps (M.setI ss player (M.getI ss player + 1)) (pth ++ [(M.after r player place)]) = M.sow r player from_ (M.getI s_pits from_).toNat from_ (M.setI s_pits from_ 0) s_stores path := by rw [← hS, show k.toNat = (k - 1).toNat + 1 by omega, M.sow_succ hq, if_pos (by omega)]
   have hG2 := hG.putStore (k := player) (by omega) (by omega) (by omega)
   refine Js.region <| Qm rfl <| Qc rfl <| Qf fh rfl <| Q0 0 rfl rfl rfl <| Qm rfl <| Qq (p_indexAddr el_42 rfl rfl (by omega) (by omega) rfl) <| Qw (q_load1 ty_2.h rfl (Mem.row (i := 2) rfl (ints_getI (i := player) (by omega)))) <| Qp rfl rfl <| Qq (p_indexAddr el_42 rfl rfl (by omega) (by omega) rfl) ?_
   refine JL.s (e_storeRow (i := 2) (xs' := ints_ (M.setI ss player ((M.getI ss player) + 1))) ty_2.h rfl rfl rfl rfl rfl rfl (ints_lt (i := player.toNat) (by omega)) (ints_setL (i := player.toNat) (by omega))) ?_
   rintro _ _ _ ⟨rfl, rfl⟩ _
   refine znl ?_
   refine zN <| Qm rfl <| Qm rfl <| zbs fun b12 => ?_
   refine JL.e (e_append (i := 4) (n' := (pth ++ [(M.after r player place)]).length) (vs' := ints_ (pth ++ [(M.after r player place)])) el_42 rfl rfl rfl rfl (src_row (i := 0) und_42 rfl rfl) (by omega) (by omega) ln2_ (by simp [ints_])) ?_
   rintro v14 _ _ ⟨⟨g15, rfl⟩, rfl⟩ _
   refine JL.fact (row_form' (i := 4) rfl) (fun hf16 => ?_)
   obtain ⟨A16, c16, rfl, bl16, bh16⟩ := hf16
   refine znl ?_
   refine Qa rfl <| zG <| Qm rfl <| Qs rfl rfl <| Qa rfl <| JL.nil <| Js.blockEnd ?_
   refine zf [1, 1, 1, 1] fun GG17 => ?_
   refine zn ?_
   exact zag ⟨k - 1, M.after r player place, ps, M.setI ss player ((M.getI ss player) + 1), pth ++ [(M.after r player place)], _, _, _, _, rfl, rfl, by exact hS2, by first | exact hG2 | exact hG, zt, zt, by first | omega | (simp only [List.length_append, List.length_cons, List.length_nil]; omega), zt, zu, zu, rfl⟩ x6 (by exact hm2)
  have hq0 : ¬ (M.after r player place) = -1 := by simpa using h9
  have hS2 : M.sow r player from_ (k - 1).toNat (M.after r player place) (M.setI ps (M.after r player place) (M.getI ps (M.after r player place) + 1)) ss (pth ++ [(M.after r player place)]) = M.sow r player from_ (M.getI s_pits from_).toNat from_ (M.setI s_pits from_ 0) s_stores path := by rw [← hS, show k.toNat = (k - 1).toNat + 1 by omega, M.sow_succ hq, if_neg (by omega)]
  have hG2 := hG.putPit (k := (M.after r player place)) (by omega) (by omega) ha.2
  have hpq := hG.pit (M.after r player place)
  refine Js.region <| Qm rfl <| Qc rfl <| Qf fh rfl <| Q0 0 rfl rfl rfl <| Qm rfl <| Qq (p_indexAddr el_42 rfl rfl (by omega) (by omega) rfl) <| Qw (q_load1 ty_2.h rfl (Mem.row (i := 1) rfl (ints_getI (i := M.after r player place) (by omega)))) <| Qp rfl rfl <| Qq (p_indexAddr el_42 rfl rfl (by omega) (by omega) rfl) ?_
  refine JL.s (e_storeRow (i := 1) (xs' := ints_ (M.setI ps (M.after r player place) ((M.getI ps (M.after r player place)) + 1))) ty_2.h rfl rfl rfl rfl rfl rfl (ints_lt (i := (M.after r player place).toNat) (by omega)) (ints_setL (i := (M.after r player place).toNat) (by omega))) ?_
  rintro _ _ _ ⟨rfl, rfl⟩ _
  refine znl ?_
  refine zN <| Qm rfl <| Qm rfl <| zbs fun b20 => ?_
  refine JL.e (e_append (i := 4) (n' := (pth ++ [(M.after r player place)]).length) (vs' := ints_ (pth ++ [(M.after r player place)])) el_42 rfl rfl rfl rfl (src_row (i := 0) und_42 rfl rfl) (by omega) (by omega) ln2_ (by simp [ints_])) ?_
  rintro v22 _ _ ⟨⟨g23, rfl⟩, rfl⟩ _
  refine JL.fact (row_form' (i := 4) rfl) (fun hf24 => ?_)
  obtain ⟨A24, c24, rfl, bl24, bh24⟩ := hf24
  refine znl ?_
  refine Qa rfl <| zG <| Qm rfl <| Qs rfl rfl <| Qa rfl <| JL.nil <| Js.blockEnd ?_
  refine zf [1, 1, 1, 1] fun GG25 => ?_
  refine zn ?_
  exact zag ⟨k - 1, M.after r player place, M.setI ps (M.after r player place) ((M.getI ps (M.after r player place)) + 1), ss, pth ++ [(M.after r player place)], _, _, _, _, rfl, rfl, by exact hS2, by first | exact hG2 | exact hG, zt, zt, by first | omega | (simp only [List.length_append, List.length_cons, List.length_nil]; omega), zt, zu, zu, rfl⟩ x6 (by exact hm2)
 have hL : M.lap r player from_ (M.Sw.mk s_pits s_stores s_last s_laps) path = (⟨ps, ss, place, s_laps + 1⟩, pth) := by unfold M.lap; dsimp only; rw [← hS]; simp [show k.toNat = 0 by omega, M.sow]
 clear hS
 refine zx ?_
 refine zS <| Qm rfl <| Qm rfl <| Qc rfl <| Qf fh rfl <| zw 0 rfl rfl rfl ?_
 refine zN <| Qm rfl <| Qc rfl <| Qf fh rfl <| Q0 0 rfl rfl rfl <| Qp rfl rfl <| Qc rfl <| Qf fh rfl <| zw 0 rfl rfl rfl ?_
 refine zN <| Qm rfl <| Qa rfl <| JL.nil ?_
 refine zrb [0, 0, 0, 0] hb x6 ?_
 have hN1 : ((M.lap r player from_ (M.Sw.mk s_pits s_stores s_last s_laps) path).1.pits).length = s_pits.length := by first | (rw [hL]; done) | (rw [hL]; show ps.length = _; omega) | (rw [hL]; show ss.length = _; omega)
 have hE1 : (M.lap r player from_ (M.Sw.mk s_pits s_stores s_last s_laps) path).1.pits = ps := by rw [hL]
 have hN2 : ((M.lap r player from_ (M.Sw.mk s_pits s_stores s_last s_laps) path).1.stores).length = s_stores.length := by first | (rw [hL]; done) | (rw [hL]; show ps.length = _; omega) | (rw [hL]; show ss.length = _; omega)
 have hE2 : (M.lap r player from_ (M.Sw.mk s_pits s_stores s_last s_laps) path).1.stores = ss := by rw [hL]
 have hE3 : (M.lap r player from_ (M.Sw.mk s_pits s_stores s_last s_laps) path).1.last = place := by rw [hL]
 have hE4 : (M.lap r player from_ (M.Sw.mk s_pits s_stores s_last s_laps) path).1.laps = (s_laps + 1) := by rw [hL]
 have hN5 : ((M.lap r player from_ (M.Sw.mk s_pits s_stores s_last s_laps) path).2).length = pth.length := by first | (rw [hL]; done) | (rw [hL]; show ps.length = _; omega) | (rw [hL]; show ss.length = _; omega)
 have hE5 : (M.lap r player from_ (M.Sw.mk s_pits s_stores s_last s_laps) path).2 = pth := by rw [hL]
 refine ⟨(some ⟨b2, 0, none⟩), cs_0, gs_0, (some ⟨b3, 0, none⟩), cs_1, gs_1, A6_4, c6_4, g6_4, (by first | rfl | (rw [hN5]; done) | (rw [hN5]; rfl) | (rw [hE5]; done) | (rw [hE5]; rfl)), ?_, ?_, ?_, ?_, ?_, ?_, ?_⟩
 · rw [hN1, hE1, hN2, hE2, hE3, hE4, hN5, hE5]
 all_goals (first | (rw [hN1, hE1, hN2, hE2, hE3, hE4, hN5, hE5]; omega) | omega | (simp only [*]; omega) | (simp; done))
theorem c_spec_l05Sow (r : M.Rul) {v_r : Value} (p : M.Pos) {v_p : Value} (from_ : Int) {w : World} (h_r : (Ty.ref (cRules r)).ok w v_r) (h_p : (Ty.ref (cPosition p)).ok w v_p) (r0 : 2 ≤ r.pits := by exact om_) (r1 : r.pits ≤ 8 := by exact om_) (r2 : p.player = 0 ∨ p.player = 1 := by exact om_) (r3 : 0 ≤ from_ := by exact om_) (r4 : from_ < 2 * r.pits := by exact om_) (r5 : M.Good r p.pits p.stores 0 := by exact om_) (r6 : 0 < M.getI p.pits from_ := by exact om_) : Ret Tryz.prog 178 [v_r, v_p, .int .i64 from_] w (Ty.tup [Ty.agg (cSown ((M.sowT r p from_).1)), Ty.ints 2 ((M.sowT r p from_).2.1), Ty.bool ((M.sowT r p from_).2.2)]) := by
 have l1 := r5.lp
 have l2 := r5.ls
 obtain ⟨ha, hb1, hc1, hd, he, hf⟩ := M.lap_keeps (s := ⟨p.pits, p.stores, 0, 0⟩) r [] r1 r0 r2 r3 r4 r5
 replace hf : (M.lap r p.player from_ (M.Sw.mk p.pits p.stores 0 0) []).1.laps = 1 := hf
 replace hd : (M.lap r p.player from_ (M.Sw.mk p.pits p.stores 0 0) []).2.length ≤ 96 := by simpa using hd
 revert v_r; apply opn
 intro b1 o1 hr1
 revert v_p; apply opn
 intro b4 o4 A2 c2 h2 bl2 bh2 A3 c3 h3 bl3 bh3 hr4
 refine enter @Tryz.func178 @Tryz.ntmps178 rfl rfl ?_
 refine zent ?_
 refine zS <| za zeh fun b5 => Qa rfl <| Qa rfl <| zJ ?_
 refine zk [0, 1, 2, 6] (fun F U l os u => ∃ (b8 : Nat) (A6 : Option Addr) (c6 : Nat) (A7 : Option Addr) (c7 : Nat), l = F [(9, .pointer (some ⟨b8, 0, none⟩))] ∧ os = [boxO b8 [.slice A6 p.pits.length c6, .slice A7 p.stores.length c7, .int .i64 0, .int .i64 0] 153, rowO 2 1 (.slice A7 p.stores.length c7) p.stores.length (ints_ p.stores) [], rowO 2 1 (.slice A6 p.pits.length c6) p.pits.length (ints_ p.pits) []] ++ U [] ∧ (p.pits.length ≤ c6) ∧ (c6 ≤ 9223372036854775807) ∧ (p.stores.length ≤ c7) ∧ (c7 ≤ 9223372036854775807)) ?_ ?_
 ·
  refine zdr [12] ?_
  refine jM 0 rfl rfl ?_
  refine jN 1 rfl rfl ?_
  refine jF 2 fld_44_0 rfl rfl ?_
  refine jW 3 ty_42 rfl rfl (fun hv => (hr4.vis hv) 0 _ rfl) ?_
  refine jM 5 rfl rfl ?_
  refine jN 6 rfl rfl ?_
  refine jF 7 fld_44_1 rfl rfl ?_
  refine jW 8 ty_42 rfl rfl (fun hv => (hr4.vis hv) 1 _ rfl) ?_
  refine y2 4 11 ?_ ?_
  ·
   refine ycs rfl rfl (fun w hw => c_spec_l00Own p.pits (ok_ hw)) ?_
   intro A15 c15 bl15 bh15
   refine y2 9 11 ?_ ?_
   ·
    refine ycs rfl rfl (fun w hw => c_spec_l00Own p.stores (ok_ hw)) ?_
    intro A16 c16 bl16 bh16
    refine JH.p 10 rfl (q_bld) ?_
    refine y1 11 ?_
    refine ya rfl fun b17 => ?_
    refine y1 12 ?_
    refine yst rfl rfl rfl ?_
    refine yd ?_
    exact zm ⟨_, _, _, _, _, rfl, rfl, zt, zt, zt, zt⟩ (Up.refl _ _)
   refine ya rfl fun b18 => ?_
   refine y1 9 ?_
   refine ycs rfl rfl (fun w hw => c_spec_l00Own p.stores (ok_ hw)) ?_
   intro A19 c19 bl19 bh19
   refine JH.p 10 rfl (q_bld) ?_
   refine y1 12 ?_
   refine yst rfl rfl rfl ?_
   refine yd ?_
   refine zh [1, 0, 0, 0] ?_
   exact zm ⟨_, _, _, _, _, rfl, rfl, zt, zt, zt, zt⟩ (Up.refl _ _)
  refine ya rfl fun b20 => ?_
  refine y1 4 ?_
  refine ycs rfl rfl (fun w hw => c_spec_l00Own p.pits (ok_ hw)) ?_
  intro A21 c21 bl21 bh21
  refine y1 9 ?_
  refine ycs rfl rfl (fun w hw => c_spec_l00Own p.stores (ok_ hw)) ?_
  intro A22 c22 bl22 bh22
  refine JH.p 10 rfl (q_bld) ?_
  refine y1 12 ?_
  refine yst rfl rfl rfl ?_
  refine yd ?_
  refine zh [2, 0, 0, 0] ?_
  exact zm ⟨_, _, _, _, _, rfl, rfl, zt, zt, zt, zt⟩ (Up.refl _ _)
 rintro _ _ u14 ⟨b8, A6, c6, A7, c7, rfl, rfl, f14_0, f14_1, f14_2, f14_3⟩ x14
 refine zn ?_
 refine zS <| Qm rfl <| Qm rfl <| Qc rfl <| Qf fh rfl <| QC ((hr4.vis x14.vis) 2 _ rfl) rfl <| Qm rfl <| zbs fun b23 => ?_
 refine zhl [1, 2, 1, 0] ?_
 refine zB 4 sp_ rfl (fun w hb hw => c_spec_l05Lap r p.pits p.stores 0 0 p.player from_ [] hb (ok_ hw) (r3 := r3) (r5 := r5) (r6 := r6) (r9 := (by simp))) ?_
 rintro _ _ G25 ⟨A25s_0, c25s_0, g25s_0, A25s_1, c25s_1, g25s_1, A25_r, c25_r, g25_r, rfl, rfl, bl25_0, bl25_1, bl25_2, bl25_3, bl25_4, bl25_5⟩
 refine znl ?_
 refine Qa rfl <| zJ <| Js.block ?_
 refine zl [0, 1, 6, 9] (fun F U l os u m => ∃ (sw : M.Sw) (path : List Int) (A26_10 : Option Addr) (c26_10 : Nat) (g26_10 : List Nat) (A26_9_0 : Option Addr) (c26_9_0 : Nat) (g26_9_0 : List Nat) (A26_9_1 : Option Addr) (c26_9_1 : Nat) (g26_9_1 : List Nat) (G26_4 : List Nat), l = F [(10, .slice A26_10 path.length c26_10)] ∧ os = U [some (boxO b8 [.slice A26_9_0 sw.pits.length c26_9_0, .slice A26_9_1 sw.stores.length c26_9_1, .int .i64 sw.last, .int .i64 sw.laps] 153), some (rowO 2 1 (.slice A26_9_0 sw.pits.length c26_9_0) sw.pits.length (ints_ sw.pits) g26_9_0), some (rowO 2 1 (.slice A26_9_1 sw.stores.length c26_9_1) sw.stores.length (ints_ sw.stores) g26_9_1), some (rowO 2 1 (.slice A26_10 path.length c26_10) path.length (ints_ path) g26_10), some (anyO G26_4)] ∧ (M.moreT r p.player sw path = (M.mvT r p.player 100 from_ ⟨p.pits, p.stores, 0, 0⟩ [])) ∧ (M.Good r sw.pits sw.stores 0) ∧ (-1 ≤ sw.last) ∧ (sw.last < 2 * r.pits) ∧ (1 ≤ sw.laps) ∧ (sw.laps ≤ 100) ∧ (path.length ≤ 96 * sw.laps) ∧ (path.length ≤ c26_10) ∧ (c26_10 ≤ 9223372036854775807) ∧ (sw.pits.length ≤ c26_9_0) ∧ (c26_9_0 ≤ 9223372036854775807) ∧ (sw.stores.length ≤ c26_9_1) ∧ (c26_9_1 ≤ 9223372036854775807) ∧ m = (101 - sw.laps).toNat) ⟨(M.lap r p.player from_ (M.Sw.mk p.pits p.stores 0 0) []).1, (M.lap r p.player from_ (M.Sw.mk p.pits p.stores 0 0) []).2, _, _, _, _, _, _, _, _, _, _, rfl, rfl, by exact (M.mvT_moreT (s := ⟨p.pits, p.stores, 0, 0⟩) (Int.le_refl 0) (show (0 : Int) ≤ 99 by decide)).symm, by exact ha, zt, zt, zt, zt, by omega, zu, zu, zu, zu, zu, zu, rfl⟩ ?_
 rintro _ _ u26 _ ⟨sw, path, A26_10, c26_10, g26_10, A26_9_0, c26_9_0, g26_9_0, A26_9_1, c26_9_1, g26_9_1, G26_4, rfl, rfl, hS, hG, q0, q1, la0, la1, hl, f26_7, f26_8, f26_9, f26_10, f26_11, f26_12, rfl⟩ x26
 refine zn ?_
 have l3 := hG.lp
 have l4 := hG.ls
 refine Js.seq <| zS <| Qm rfl <| Qc rfl <| Qf fh rfl <| QC ((hr1.vis (x14.vis.trans x26.vis)) 4 _ rfl) rfl <| Qm rfl <| zg (Gd.t1 rfl rfl rfl) (fun hc => p_fieldAddr fld_153_2.h rfl) <| zgq (Gd.t1 rfl rfl rfl) (fun hc => q_load1 ty_2.h (gh hc rfl) (Mem.box (i := 0) rfl rfl)) <| zg (Gd.t1 rfl rfl rfl) (fun hc => p_geq (gh hc rfl) rfl) <| Qq (p_pickAnd rfl rfl rfl) <| Qm rfl <| zg (Gd.t1 rfl rfl rfl) (fun hc => p_fieldAddr fld_153_0.h rfl) <| zgq (Gd.t1 rfl rfl rfl) (fun hc => q_load1 ty_42.h (gh hc rfl) (Mem.box (i := 0) rfl rfl)) ?_
 refine zg (Gd.t1 rfl rfl rfl) (fun hc => p_fieldAddr fld_153_2.h rfl) <| zgq (Gd.t1 rfl rfl rfl) (fun hc => q_load1 ty_2.h (gh hc rfl) (Mem.box (i := 0) rfl rfl)) ?_
 refine JL.fact (row_some (i := 1) rfl (by omega)) (fun hf28 => ?_)
 obtain ⟨b28, rfl⟩ := hf28
 refine zg (Gd.t1 rfl rfl rfl) (fun hc => p_indexAddr el_42 (gh hc rfl) (gh hc rfl) (by have hc9 := hc; (try simp only [Bool.and_eq_true, decide_eq_true_eq] at hc9); omega) (by have hc9 := hc; (try simp only [Bool.and_eq_true, decide_eq_true_eq] at hc9); omega) rfl) ?_
 refine zgq (Gd.t1 rfl rfl rfl) (fun hc => q_load1 ty_2.h (gh hc rfl) (Mem.row (i := 1) rfl (ints_getI (i := sw.last) (by have hc9 := hc; (try simp only [Bool.and_eq_true, decide_eq_true_eq] at hc9); omega)))) ?_
 refine zg (Gd.t1 rfl rfl rfl) (fun hc => p_gtr (gh hc rfl) rfl) <| Qq (p_pickAnd rfl rfl rfl) <| JL.nil ?_
 refine zi (fun h29 h29' => ?_) fun h29 h29' => ?_
 ·
  have hm : M.more r sw = true := h29
  have hmm := M.more_get hm
  obtain ⟨ka, kb, kc, kd, ke, kf⟩ := M.lap_keeps r path r1 r0 r2 hmm.1 q1 hG
  have hgp := hmm.2
  refine Js.skip <| Js.block <| Js.seq <| zS <| Qf fh rfl <| Q0 0 rfl rfl rfl <| Qh rfl rfl <| JL.nil ?_
  refine zi (fun h30 h30' => ?_) fun h30 h30' => ?_
  ·
   have hT := M.sowT_no (r := r) (p := p) (frm := from_) (by rw [← hS, M.moreT_yes hm, show (100 - sw.laps).toNat = 0 by omega]; rfl)
   have hq0 : [] = ((M.sowT r p from_).1).pits := rp_ hT
   have hq1 : [] = ((M.sowT r p from_).1).stores := rp_ hT
   have hq2 : 0 = ((M.sowT r p from_).1).last := rp_ hT
   have hq3 : 0 = ((M.sowT r p from_).1).laps := rp_ hT
   have hq4 : [] = (M.sowT r p from_).2.1 := rp_ hT
   have hq5 : false = (M.sowT r p from_).2.2 := rp_ hT
   refine zS <| Qb ?_
   refine zw 5 rfl rfl rfl ?_
   refine Qa rfl <| Qa rfl <| JL.nil ?_
   exact zro (x14.trans x26)
  have hS2 : M.moreT r p.player (M.lap r p.player sw.last sw path).1 (M.lap r p.player sw.last sw path).2 = (M.mvT r p.player 100 from_ ⟨p.pits, p.stores, 0, 0⟩ []) := by rw [← hS, M.moreT_yes hm, M.mvT_moreT (by omega) (by omega)]
  refine Js.skip ?_
  refine zdr [8] ?_
  refine jM 0 rfl rfl ?_
  refine jM 1 rfl rfl ?_
  refine jN 2 rfl rfl ?_
  refine jF 3 fld_44_2 rfl rfl ?_
  refine JH.w 4 rfl (fun os' u' hv => q_load1 ty_2.h rfl (Mem.pub ((hr4.vis ((x14.vis.trans x26.vis).trans hv)) 2 _ rfl))) ?_
  refine jF 5 fld_153_2 rfl rfl ?_
  refine jB 6 0 ty_2 rfl rfl rfl rfl ?_
  refine jM 7 rfl rfl ?_
  refine y1 8 ?_
  refine yB 4 sp_ rfl rfl (fun w hb hw => c_spec_l05Lap r sw.pits sw.stores sw.last sw.laps p.player sw.last path hb (ok_ hw) (r3 := hmm.1) (r5 := hG)) ?_
  rintro _ _ G31 ⟨A31s_0, c31s_0, g31s_0, A31s_1, c31s_1, g31s_1, A31_r, c31_r, g31_r, rfl, rfl, bl31_0, bl31_1, bl31_2, bl31_3, bl31_4, bl31_5⟩
  refine znh ?_
  refine jA 9 rfl rfl ?_
  refine yd ?_
  refine Js.blockEnd ?_
  refine zd [0, 0, 0, 0, 1, 1] rfl fun u32 x32 => ?_
  exact zag ⟨(M.lap r p.player sw.last sw path).1, (M.lap r p.player sw.last sw path).2, _, _, _, _, _, _, _, _, _, _, rfl, rfl, by exact hS2, by exact ka, zt, zt, zt, zt, zt, zu, zu, zu, zu, zu, zu, rfl⟩ (x26.trans x32)
 have hm : M.more r sw = false := h29
 have hT := M.sowT_done (by rw [← hS]; exact M.moreT_no hm)
 refine zx ?_
 have hq0 : sw.pits = ((M.sowT r p from_).1).pits := rp_ hT
 have hq1 : sw.stores = ((M.sowT r p from_).1).stores := rp_ hT
 have hq2 : sw.last = ((M.sowT r p from_).1).last := rp_ hT
 have hq3 : sw.laps = ((M.sowT r p from_).1).laps := rp_ hT
 have hq4 : path = (M.sowT r p from_).2.1 := rp_ hT
 have hq5 : true = (M.sowT r p from_).2.2 := rp_ hT
 refine zS <| Q9 0 rfl rfl ?_
 refine Qm rfl <| zw 5 rfl rfl rfl ?_
 refine Qa rfl <| Qa rfl <| JL.nil ?_
 exact zro (x14.trans x26)
theorem c_spec_l05Move (r : M.Rul) {v_r : Value} (p : M.Pos) {v_p : Value} (move : Int) {w : World} (h_r : (Ty.ref (cRules r)).ok w v_r) (h_p : (Ty.ref (cPosition p)).ok w v_p) (r0 : p.pits.length ≤ 4194304 := by exact om_) (r1 : p.stores.length ≤ 4194304 := by exact om_) : Ret Tryz.prog 151 [v_r, v_p, .int .i64 move] w (Ty.tup [Ty.agg (cSown ((M.sowMove r p move).2.1)), Ty.ints 2 ((M.sowMove r p move).2.2), Ty.int ((M.sowMove r p move).1)]) := by
 revert v_r; apply opn
 intro b1 o1 hr1
 revert v_p; apply opn
 intro b4 o4 A2 c2 h2 bl2 bh2 A3 c3 h3 bl3 bh3 hr4
 refine enter @Tryz.func151 @Tryz.ntmps151 rfl rfl ?_
 refine zent ?_
 refine zS <| za zeh fun b5 => Qa rfl <| Qa rfl <| zN <| Qm rfl <| Qm rfl <| Qm rfl <| zv rfl (fun w hw => c_spec_l05Code r p move (ok_ hw) (ok_ hw)) <| Qa rfl <| zJ <| zS <| Qm rfl <| Qd rfl rfl ?_
 refine JL.nil ?_
 refine zi (fun h6 h6' => ?_) fun h6 h6' => ?_
 ·
  have hT := M.sowMove_code (r := r) (p := p) (move := move) (by simpa using h6)
  have hq0 : [] = ((M.sowMove r p move).2.1).pits := rp_ hT
  have hq1 : [] = ((M.sowMove r p move).2.1).stores := rp_ hT
  have hq2 : 0 = ((M.sowMove r p move).2.1).last := rp_ hT
  have hq3 : 0 = ((M.sowMove r p move).2.1).laps := rp_ hT
  have hq4 : [] = (M.sowMove r p move).2.2 := rp_ hT
  have hq5 : (M.sowCode r p move) = (M.sowMove r p move).1 := rp_ hT
  refine zS <| Qb ?_
  refine Qm rfl <| zw 0 rfl rfl rfl ?_
  refine Qa rfl <| Qa rfl <| JL.nil ?_
  exact zro (Up.refl _ _)
 have hc : M.sowCode r p move = 0 := by simpa using h6
 obtain ⟨hok, m0, m1, hg⟩ := M.sowCode_ok hc
 obtain ⟨g1, g2, g3, g4, g5, g6, g7⟩ := M.okP_bd hok
 have hq := M.mul_bd g7 g1 g2
 have hG := M.Good.of_ok hok
 refine Js.skip <| Js.seq ?_
 refine zk [6] (fun F U l os u => ∃ (b12 : Nat) (A11 : Option Addr) (c11 : Nat) (A9 : Option Addr) (c9 : Nat) (A10 : Option Addr) (c10 : Nat), l = F [(10, .pointer (some ⟨b12, 0, none⟩)), (11, .slice A11 (((M.sowT r p ((p.player * r.pits) + move)).2.1).length) c11), (12, .bool ((M.sowT r p ((p.player * r.pits) + move)).2.2))] ∧ os = [boxO b12 [.slice A9 ((((M.sowT r p ((p.player * r.pits) + move)).1).pits).length) c9, .slice A10 ((((M.sowT r p ((p.player * r.pits) + move)).1).stores).length) c10, .int .i64 (((M.sowT r p ((p.player * r.pits) + move)).1).last), .int .i64 (((M.sowT r p ((p.player * r.pits) + move)).1).laps)] 153, rowO 2 1 (.slice A11 (((M.sowT r p ((p.player * r.pits) + move)).2.1).length) c11) (((M.sowT r p ((p.player * r.pits) + move)).2.1).length) (ints_ ((M.sowT r p ((p.player * r.pits) + move)).2.1)) [], rowO 2 1 (.slice A10 ((((M.sowT r p ((p.player * r.pits) + move)).1).stores).length) c10) ((((M.sowT r p ((p.player * r.pits) + move)).1).stores).length) (ints_ (((M.sowT r p ((p.player * r.pits) + move)).1).stores)) [], rowO 2 1 (.slice A9 ((((M.sowT r p ((p.player * r.pits) + move)).1).pits).length) c9) ((((M.sowT r p ((p.player * r.pits) + move)).1).pits).length) (ints_ (((M.sowT r p ((p.player * r.pits) + move)).1).pits)) []] ++ U [] ∧ (((M.sowT r p ((p.player * r.pits) + move)).2.1).length ≤ c11) ∧ (c11 ≤ 9223372036854775807) ∧ ((((M.sowT r p ((p.player * r.pits) + move)).1).pits).length ≤ c9) ∧ (c9 ≤ 9223372036854775807) ∧ ((((M.sowT r p ((p.player * r.pits) + move)).1).stores).length ≤ c10) ∧ (c10 ≤ 9223372036854775807)) ?_ ?_
 ·
  refine zdr [19] ?_
  refine jM 0 rfl rfl ?_
  refine jM 1 rfl rfl ?_
  refine jM 2 rfl rfl ?_
  refine jN 3 rfl rfl ?_
  refine jF 4 fld_44_2 rfl rfl ?_
  refine jW 5 ty_2 rfl rfl (fun hv => (hr4.vis hv) 2 _ rfl) ?_
  refine jM 6 rfl rfl ?_
  refine jN 7 rfl rfl ?_
  refine jF 8 fld_29_0 rfl rfl ?_
  refine jW 9 ty_2 rfl rfl (fun hv => (hr1.vis hv) 0 _ rfl) ?_
  refine JH.p 10 rfl (p_mul rfl rfl (IntWalk.i64_in _ (by omega))) ?_
  refine jM 11 rfl rfl ?_
  refine JH.p 12 rfl (p_add rfl rfl (IntWalk.i64_in _ (by omega))) ?_
  refine y2 13 18 ?_ ?_
  ·
   refine yc rfl rfl (fun w hw => c_spec_l05Sow r p ((p.player * r.pits) + move) (ok_ hw) (ok_ hw) (r5 := hG) (r6 := hg)) ?_
   intro A22 c22 bl22 bh22 A23 c23 bl23 bh23 A24 c24 bl24 bh24
   refine jM 14 rfl rfl ?_
   refine JH.p 15 rfl (p_extract rfl rfl) ?_
   refine JH.p 16 rfl (p_extract rfl rfl) ?_
   refine JH.p 17 rfl (p_extract rfl rfl) ?_
   refine y1 18 ?_
   refine ya rfl fun b25 => ?_
   refine y1 19 ?_
   refine yst rfl rfl rfl ?_
   refine jA 20 rfl rfl ?_
   refine jA 21 rfl rfl ?_
   refine yd ?_
   exact zm ⟨_, _, _, _, _, _, _, rfl, rfl, zt, zt, zt, zt, zt, zt⟩ (Up.refl _ _)
  refine ya rfl fun b26 => ?_
  refine y1 13 ?_
  refine yc rfl rfl (fun w hw => c_spec_l05Sow r p ((p.player * r.pits) + move) (ok_ hw) (ok_ hw) (r5 := hG) (r6 := hg)) ?_
  intro A29 c29 bl29 bh29 A30 c30 bl30 bh30 A31 c31 bl31 bh31
  refine jM 14 rfl rfl ?_
  refine JH.p 15 rfl (p_extract rfl rfl) ?_
  refine JH.p 16 rfl (p_extract rfl rfl) ?_
  refine JH.p 17 rfl (p_extract rfl rfl) ?_
  refine y1 19 ?_
  refine yst rfl rfl rfl ?_
  refine jA 20 rfl rfl ?_
  refine jA 21 rfl rfl ?_
  refine yd ?_
  refine zh [3, 0, 0, 0, 0] ?_
  exact zm ⟨_, _, _, _, _, _, _, rfl, rfl, zt, zt, zt, zt, zt, zt⟩ (Up.refl _ _)
 rintro _ _ u19 ⟨b12, A11, c11, A9, c9, A10, c10, rfl, rfl, f19_0, f19_1, f19_2, f19_3, f19_4, f19_5⟩ x19
 refine zn ?_
 refine Js.seq <| zS <| Qm rfl <| Qt rfl <| JL.nil ?_
 refine zi (fun h32 h32' => ?_) fun h32 h32' => ?_
 ·
  have hT := M.sowMove_fail hc (by simpa using h32)
  have hq0 : [] = ((M.sowMove r p move).2.1).pits := rp_ hT
  have hq1 : [] = ((M.sowMove r p move).2.1).stores := rp_ hT
  have hq2 : 0 = ((M.sowMove r p move).2.1).last := rp_ hT
  have hq3 : 0 = ((M.sowMove r p move).2.1).laps := rp_ hT
  have hq4 : [] = (M.sowMove r p move).2.2 := rp_ hT
  have hq5 : 10 = (M.sowMove r p move).1 := rp_ hT
  refine zS <| Qb ?_
  refine zw 4 rfl rfl rfl ?_
  refine Qa rfl <| Qa rfl <| JL.nil ?_
  exact zro x19
 have hT := M.sowMove_T2 hc (by simpa using h32)
 have hq0 : (((M.sowT r p ((p.player * r.pits) + move)).1).pits) = ((M.sowMove r p move).2.1).pits := rp_ hT
 have hq1 : (((M.sowT r p ((p.player * r.pits) + move)).1).stores) = ((M.sowMove r p move).2.1).stores := rp_ hT
 have hq2 : (((M.sowT r p ((p.player * r.pits) + move)).1).last) = ((M.sowMove r p move).2.1).last := rp_ hT
 have hq3 : (((M.sowT r p ((p.player * r.pits) + move)).1).laps) = ((M.sowMove r p move).2.1).laps := rp_ hT
 have hq4 : ((M.sowT r p ((p.player * r.pits) + move)).2.1) = (M.sowMove r p move).2.2 := rp_ hT
 have hq5 : 0 = (M.sowMove r p move).1 := rp_ hT
 refine Js.skip <| zS <| Q9 0 rfl rfl ?_
 refine Qm rfl <| zw 4 rfl rfl rfl ?_
 refine Qa rfl <| Qa rfl <| JL.nil ?_
 exact zro x19
theorem c_spec_l06Raw (r : M.Rul) {v_r : Value} (s : M.Sw) {v_s : Value} (player : Int) {w : World} (h_r : (Ty.ref (cRules r)).ok w v_r) (h_s : (Ty.ref (cSown s)).ok w v_s) (r0 : 2 ≤ r.pits := by exact om_) (r1 : r.pits ≤ 8 := by exact om_) (r2 : player = 0 ∨ player = 1 := by exact om_) (r3 : M.Good r s.pits s.stores 0 := by exact om_) (r4 : -1 ≤ s.last := by exact om_) (r5 : s.last < 2 * r.pits := by exact om_) : Ret Tryz.prog 179 [v_r, v_s, .int .i64 player] w (Ty.ints 2 (M.taken r s player)) := by
 have l1 := r3.lp
 have l2 := r3.ls
 have hv9 := r3.pit s.last
 revert v_r; apply opn
 intro b1 o1 hr1
 revert v_s; apply opn
 intro b4 o4 A2 c2 h2 bl2 bh2 A3 c3 h3 bl3 bh3 hr4
 refine enter @Tryz.func179 @Tryz.ntmps179 rfl rfl ?_
 refine zent ?_
 obtain ⟨b5, o5, rfl⟩ := ints_some h2 (by omega)
 refine zS <| Qa rfl <| zN <| zbs fun b6 => ?_
 refine Qa rfl <| zN <| Qm rfl <| Qc rfl <| Qf fh rfl <| QC (hr4 2 _ rfl) rfl <| Qa rfl <| zJ <| zS <| Qm rfl <| Ql rfl rfl <| JL.nil ?_
 refine zi (fun h8 h8' => ?_) fun h8 h8' => ?_
 ·
  have hR : M.taken r s player = [] := by unfold M.taken; rw [if_pos (by simpa using h8)]
  have hq0 : [] = M.taken r s player := by rw [hR]
  refine zS <| Qm rfl <| Qa rfl <| JL.nil ?_
  exact zro (Up.refl _ _)
 have hl0 : ¬ s.last < 0 := by simpa using h8
 refine Js.skip <| zS <| Qm rfl <| Qm rfl <| zv rfl (fun w hw => c_spec_l02Owner r s.last (ok_ hw)) <| Qm rfl <| Qe rfl rfl <| Qa rfl <| zJ <| zS <| Qm rfl <| Qc rfl <| Qf fh rfl <| QC (hr1 7 _ rfl) rfl ?_
 refine JL.nil <| Js.block <| zS <| Qe rfl rfl <| Qa rfl <| JL.nil ?_
 refine zi (fun h9 h9' => ?_) fun h9 h9' => ?_
 ·
  have hcap : r.capture = 1 := by simpa using h9
  refine Js.block ?_
  refine zl [0, 1, 2] (fun F U l os u m => ∃ (k : Int) (out : List Int) (A10_7 : Option Addr) (c10_7 : Nat) (g10_7 : List Nat), l = F [(7, .slice A10_7 out.length c10_7), (8, .int .i64 k)] ∧ os = U [some (rowO 2 1 (.slice A10_7 out.length c10_7) out.length (ints_ out) g10_7)] ∧ (out ++ M.ttI r player s.pits k = M.ttI r player s.pits s.last) ∧ (-1 ≤ k) ∧ (k < 2 * r.pits) ∧ ((out.length : Int) + k = s.last) ∧ (out.length ≤ c10_7) ∧ (c10_7 ≤ 9223372036854775807) ∧ m = (k + 1).toNat) ⟨s.last, [], _, _, _, rfl, rfl, by rfl, zt, zt, by simp, zu, zu, rfl⟩ ?_
  rintro _ _ u10 _ ⟨k, out, A10_7, c10_7, g10_7, rfl, rfl, hS, k0, k1, hl, f10_4, f10_5, rfl⟩ x10
  refine zn ?_
  refine Js.seq <| zS <| Qm rfl <| Qh rfl rfl <| Qm rfl <| zg (Gd.t1 rfl rfl rfl) (fun hc => p_move rfl) <| zg (Gd.t1 rfl rfl rfl) (fun hc => p_move rfl) <| zgv (Gd.t1 rfl rfl rfl) (fun hc => (opds_2 (gh hc rfl) (gh hc rfl))) (fun hc => (fun w hw => c_spec_l02Owner r k (ok_ hw) (r0 := (oh_ hc)) (r1 := (oh_ hc)) (r2 := (oh_ hc)) (r3 := (oh_ hc)))) ?_
  refine zg (Gd.t1 rfl rfl rfl) (fun hc => p_move rfl) <| zg (Gd.t1 rfl rfl rfl) (fun hc => p_neq (gh hc rfl) (gh hc rfl)) <| Qq (p_pickAnd rfl rfl rfl) <| Qm rfl <| zg (Gd.t1 rfl rfl rfl) (fun hc => p_move rfl) <| zg (Gd.t1 rfl rfl rfl) (fun hc => p_nilCheck (gh hc rfl)) <| zg (Gd.t1 rfl rfl rfl) (fun hc => p_fieldAddr fld_153_0.h (gh hc rfl)) <| zgq (Gd.t1 rfl rfl rfl) (fun hc => q_load1 ty_42.h (gh hc rfl) (Mem.pub ((hr4.vis x10.vis) 0 _ rfl))) <| zg (Gd.t1 rfl rfl rfl) (fun hc => p_move rfl) <| zg (Gd.t1 rfl rfl rfl) (fun hc => p_indexAddr el_42 (gh hc rfl) (gh hc rfl) (by have hc9 := hc; (try simp only [Bool.and_eq_true, decide_eq_true_eq, Bool.not_eq_true', decide_eq_false_iff_not] at hc9); omega) (by have hc9 := hc; (try simp only [Bool.and_eq_true, decide_eq_true_eq, Bool.not_eq_true', decide_eq_false_iff_not] at hc9); omega) rfl) ?_
  refine zgq (Gd.t1 rfl rfl rfl) (fun hc => q_load1 ty_2.h (gh hc rfl) (Mem.pub (ints_cellI (i := k) (Ty.mono _ h2 x10.vis) (by have hc9 := hc; (try simp only [Bool.and_eq_true, decide_eq_true_eq, Bool.not_eq_true', decide_eq_false_iff_not] at hc9); omega)))) ?_
  refine zgv (Gd.t1 rfl rfl rfl) (fun hc => (opds_3 (gh hc rfl) rfl rfl)) (fun hc => (fun w hw => c_spec_l00In (M.getI s.pits k) 2 3)) ?_
  refine Qq (p_pickAnd rfl rfl rfl) <| JL.nil ?_
  refine zi (fun h12 h12' => ?_) fun h12 h12' => ?_
  ·
   obtain ⟨⟨c0, c1⟩, c2⟩ : (0 ≤ k ∧ ¬ M.owner r k = player) ∧ M.betw (M.getI s.pits k) 2 3 = true := by simpa using h12
   have hS2 : (out ++ [k]) ++ M.ttI r player s.pits (k - 1) = M.ttI r player s.pits s.last := by rw [← hS, M.ttI_yes c0 c1 c2]; simp
   refine Js.skip <| Js.block <| zS <| Qm rfl <| Qm rfl <| zbs fun b13 => ?_
   refine JL.e (e_append (i := 1) (n' := (out ++ [k]).length) (vs' := ints_ (out ++ [k])) el_42 rfl rfl rfl rfl (src_row (i := 0) und_42 rfl rfl) (by omega) (by omega) ln2_ (by simp [ints_])) ?_
   rintro v15 _ _ ⟨⟨g16, rfl⟩, rfl⟩ _
   refine JL.fact (row_form' (i := 1) rfl) (fun hf17 => ?_)
   obtain ⟨A17, c17, rfl, bl17, bh17⟩ := hf17
   refine znl ?_
   refine Qa rfl <| zG <| Qm rfl <| Qs rfl rfl <| Qa rfl <| JL.nil <| Js.blockEnd ?_
   refine zd [1] rfl fun u18 x18 => ?_
   exact zag ⟨k - 1, out ++ [k], _, _, _, rfl, rfl, by exact hS2, zt, zt, by simp only [List.length_append, List.length_cons, List.length_nil]; omega, zu, zu, rfl⟩ (x10.trans x18)
  have hF : M.ttI r player s.pits k = [] := by rcases h12' with (h | h) | h; exact M.ttI_neg h; exact M.ttI_no (.inl h); exact M.ttI_no (.inr h)
  rw [hF, List.append_nil] at hS
  have hR : M.taken r s player = out := by unfold M.taken; rw [if_neg hl0, if_pos hcap, hS]; simp [M.ttI, hl0]
  refine zx ?_
  have hq0 : out = M.taken r s player := by rw [hR]
  refine Js.blockEnd <| zS <| Qm rfl <| Qa rfl <| JL.nil ?_
  exact zro x10
 have hcap1 : ¬ r.capture = 1 := by simpa using h9
 refine zS <| Qe rfl rfl <| Qa rfl <| JL.nil ?_
 refine zi (fun h19 h19' => ?_) fun h19 h19' => ?_
 ·
  have hcap : r.capture = 2 := by simpa using h19
  have ho : M.opp r s.last = 2 * r.pits - 1 - s.last := rfl
  refine Js.seq ?_
  refine zdr [] ?_
  refine jM 0 rfl rfl ?_
  refine jM 1 rfl rfl ?_
  refine JH.pg 2 rfl (Gd.t1 rfl rfl rfl) (fun hc => p_move rfl) ?_
  refine JH.pg 3 rfl (Gd.t1 rfl rfl rfl) (fun hc => p_nilCheck (gvt rfl hc)) ?_
  refine JH.pg 4 rfl (Gd.t1 rfl rfl rfl) (fun hc => p_fieldAddr fld_153_0.h (gvt rfl hc)) ?_
  refine JH.wg 5 rfl (Gd.t1 rfl rfl rfl) (fun hc os' u' hv => q_load1 ty_42.h (gvt rfl hc) (Mem.pub ((hr4.vis hv) 0 _ rfl))) ?_
  refine JH.pg 6 rfl (Gd.t1 rfl rfl rfl) (fun hc => p_move rfl) ?_
  refine JH.pg 7 rfl (Gd.t1 rfl rfl rfl) (fun hc => p_indexAddr el_42 (gvt rfl hc) (gvt rfl hc) (oh_ hc) (oh_ hc) rfl) ?_
  refine JH.wg 8 rfl (Gd.t1 rfl rfl rfl) (fun hc os' u' hv => q_load1 ty_2.h (gvt rfl hc) (Mem.pub (ints_cellI (i := s.last) (Ty.mono _ h2 hv) (oh_ hc)))) ?_
  refine JH.pg 9 rfl (Gd.t1 rfl rfl rfl) (fun hc => p_eql (gvt rfl hc) rfl) ?_
  refine JH.p 10 rfl (p_pickAnd rfl rfl rfl) ?_
  refine jM 11 rfl rfl ?_
  refine JH.pg 12 rfl (Gd.t1 rfl rfl rfl) (fun hc => p_move rfl) ?_
  refine JH.pg 13 rfl (Gd.t1 rfl rfl rfl) (fun hc => p_nilCheck (gvt rfl hc)) ?_
  refine JH.pg 14 rfl (Gd.t1 rfl rfl rfl) (fun hc => p_fieldAddr fld_153_0.h (gvt rfl hc)) ?_
  refine JH.wg 15 rfl (Gd.t1 rfl rfl rfl) (fun hc os' u' hv => q_load1 ty_42.h (gvt rfl hc) (Mem.pub ((hr4.vis hv) 0 _ rfl))) ?_
  refine JH.pg 16 rfl (Gd.t1 rfl rfl rfl) (fun hc => p_move rfl) ?_
  refine JH.pg 17 rfl (Gd.t1 rfl rfl rfl) (fun hc => p_move rfl) ?_
  refine y1 18 ?_
  refine JHo.ge rfl (Gd.t1 rfl rfl rfl) (fun hc => e_callV fn_194.h (opds_2 (gvt rfl hc) (gvt rfl hc)) (fun w hw => c_spec_l02Opposite r s.last (ok_ hw) (r0 := (by have hc9 := hc; (try simp only [Bool.and_eq_true, decide_eq_true_eq] at hc9); omega)) (r1 := (by have hc9 := hc; (try simp only [Bool.and_eq_true, decide_eq_true_eq] at hc9); omega)) (r2 := (by have hc9 := hc; (try simp only [Bool.and_eq_true, decide_eq_true_eq] at hc9); omega)) (r3 := (by have hc9 := hc; (try simp only [Bool.and_eq_true, decide_eq_true_eq] at hc9); omega)))) ?_
  refine JH.pg 19 rfl (Gd.t1 rfl rfl rfl) (fun hc => p_indexAddr el_42 (gvt rfl hc) (gvt rfl hc) (by have hc9 := hc; (try simp only [Bool.and_eq_true, decide_eq_true_eq] at hc9); omega) (by have hc9 := hc; (try simp only [Bool.and_eq_true, decide_eq_true_eq] at hc9); omega) rfl) ?_
  refine JH.wg 20 rfl (Gd.t1 rfl rfl rfl) (fun hc os' u' hv => q_load1 ty_2.h (gvt rfl hc) (Mem.pub (ints_cellI (i := M.opp r s.last) (Ty.mono _ h2 hv) (by have hc9 := hc; (try simp only [Bool.and_eq_true, decide_eq_true_eq] at hc9); omega)))) ?_
  refine JH.pg 21 rfl (Gd.t1 rfl rfl rfl) (fun hc => p_gtr (gvt rfl hc) rfl) ?_
  refine JH.p 22 rfl (p_pickAnd rfl rfl rfl) ?_
  refine yd ?_
  refine zi (fun h22 h22' => ?_) fun h22 h22' => ?_
  ·
   have hR : M.taken r s player = [s.last, M.opp r s.last] := by unfold M.taken; rw [if_neg hl0, if_neg hcap1, if_pos hcap, if_pos (by simpa [and_assoc] using h22)]
   refine Js.region <| Qm rfl <| Qm rfl <| Qm rfl <| Qm rfl <| zv rfl (fun w hw => c_spec_l02Opposite r s.last (ok_ hw)) <| zbs fun b23 => ?_
   refine JL.e (e_append (i := 1) (n' := 2) (vs' := ints_ [s.last, (M.opp r s.last)]) el_42 rfl rfl rfl rfl (src_row (i := 0) und_42 rfl rfl) (by omega) (by omega) ln2_ (by simp [ints_])) ?_
   rintro v25 _ _ ⟨⟨g26, rfl⟩, rfl⟩ _
   refine JL.fact (row_form' (i := 1) rfl) (fun hf27 => ?_)
   obtain ⟨A27, c27, rfl, bl27, bh27⟩ := hf27
   refine znl ?_
   have hq0 : [s.last, (M.opp r s.last)] = M.taken r s player := by rw [hR]
   refine Qa rfl <| JL.nil <| Js.blockEnd <| zS <| Qm rfl <| Qa rfl <| JL.nil ?_
   exact zro (Up.refl _ _)
  have hR : M.taken r s player = [] := by unfold M.taken; rw [if_neg hl0, if_neg hcap1, if_pos hcap, if_neg (by simpa [and_assoc] using h22)]
  have hq0 : [] = M.taken r s player := by rw [hR]
  refine Js.skip <| Js.blockEnd <| zS <| Qm rfl <| Qa rfl <| JL.nil ?_
  exact zro (Up.refl _ _)
 have hcap2 : ¬ r.capture = 2 := by simpa using h19
 refine zS <| Qe rfl rfl <| Qa rfl <| JL.nil ?_
 refine zi (fun h28 h28' => ?_) fun h28 h28' => ?_
 ·
  have hcap : r.capture = 3 := by simpa using h28
  refine zS <| Qm rfl <| Qt rfl <| Qm rfl <| zg (Gd.t1 rfl rfl rfl) (fun hc => p_move rfl) <| zg (Gd.t1 rfl rfl rfl) (fun hc => p_nilCheck (gh hc rfl)) <| zg (Gd.t1 rfl rfl rfl) (fun hc => p_fieldAddr fld_153_0.h (gh hc rfl)) <| zgq (Gd.t1 rfl rfl rfl) (fun hc => q_load1 ty_42.h (gh hc rfl) (Mem.pub (hr4 0 _ rfl))) <| zg (Gd.t1 rfl rfl rfl) (fun hc => p_move rfl) <| zg (Gd.t1 rfl rfl rfl) (fun hc => p_indexAddr el_42 (gh hc rfl) (gh hc rfl) (by have hc9 := hc; (try simp only [Bool.not_eq_true', decide_eq_false_iff_not] at hc9); omega) (by have hc9 := hc; (try simp only [Bool.not_eq_true', decide_eq_false_iff_not] at hc9); omega) rfl) ?_
  refine zgq (Gd.t1 rfl rfl rfl) (fun hc => q_load1 ty_2.h (gh hc rfl) (Mem.pub (ints_cellI (i := s.last) h2 (by have hc9 := hc; (try simp only [Bool.not_eq_true', decide_eq_false_iff_not] at hc9); omega)))) ?_
  refine zg (Gd.t1 rfl rfl rfl) (fun hc => p_rem (gh hc rfl) rfl (by have hc9 := hc; (try simp only [Bool.not_eq_true', decide_eq_false_iff_not] at hc9); omega) (Int.tmod_eq_emod_of_nonneg (by have hc9 := hc; (try simp only [Bool.not_eq_true', decide_eq_false_iff_not] at hc9); omega))) ?_
  refine zg (Gd.t1 rfl rfl rfl) (fun hc => p_eql (gh hc rfl) rfl) <| Qq (p_pickAnd rfl rfl rfl) <| JL.nil ?_
  refine zi (fun h30 h30' => ?_) fun h30 h30' => ?_
  ·
   have hR : M.taken r s player = [s.last] := by unfold M.taken; rw [if_neg hl0, if_neg hcap1, if_neg hcap2, if_pos hcap, if_pos (by simpa using h30)]
   refine Js.region <| Qm rfl <| Qm rfl <| zbs fun b31 => ?_
   refine JL.e (e_append (i := 1) (n' := 1) (vs' := ints_ [s.last]) el_42 rfl rfl rfl rfl (src_row (i := 0) und_42 rfl rfl) (by omega) (by omega) ln2_ (by simp [ints_])) ?_
   rintro v33 _ _ ⟨⟨g34, rfl⟩, rfl⟩ _
   refine JL.fact (row_form' (i := 1) rfl) (fun hf35 => ?_)
   obtain ⟨A35, c35, rfl, bl35, bh35⟩ := hf35
   refine znl ?_
   have hq0 : [s.last] = M.taken r s player := by rw [hR]
   refine Qa rfl <| JL.nil <| Js.blockEnd <| zS <| Qm rfl <| Qa rfl <| JL.nil ?_
   exact zro (Up.refl _ _)
  have hR : M.taken r s player = [] := by unfold M.taken; rw [if_neg hl0, if_neg hcap1, if_neg hcap2, if_pos hcap, if_neg (by simpa using h30)]
  have hq0 : [] = M.taken r s player := by rw [hR]
  refine Js.skip <| Js.blockEnd <| zS <| Qm rfl <| Qa rfl <| JL.nil ?_
  exact zro (Up.refl _ _)
 have hcap3 : ¬ r.capture = 3 := by simpa using h28
 have hR : M.taken r s player = [] := by unfold M.taken; rw [if_neg hl0, if_neg hcap1, if_neg hcap2, if_neg hcap3]
 have hq0 : [] = M.taken r s player := by rw [hR]
 refine Js.skip <| Js.blockEnd <| zS <| Qm rfl <| Qa rfl <| JL.nil ?_
 exact zro (Up.refl _ _)
theorem c_spec_l06Sum (s : M.Sw) {v_s : Value} (list : List Int) {v_list : Value} {w : World} (h_s : (Ty.ref (cSown s)).ok w v_s) (h_list : (Ty.ints 2 list).ok w v_list) (r0 : s.pits.length ≤ 16 := by exact om_) (r1 : list.length ≤ 16 := by exact om_) (r2 : ∀ x ∈ list, 0 ≤ x ∧ x < s.pits.length := by exact om_) (r3 : ∀ k : Int, 0 ≤ M.getI s.pits k ∧ M.getI s.pits k ≤ 96 := by exact om_) : RetV Tryz.prog 182 [v_s, v_list] w (.int .i64 (M.isum (list.map (M.getI s.pits)))) := by
 revert v_s; apply opn
 intro b3 o3 A1 c1 h1 bl1 bh1 A2 c2 h2 bl2 bh2 hr3
 revert v_list; apply opn
 intro A4 c4 h4 bl4 bh4
 have h_list := h4
 refine enter @Tryz.func182 @Tryz.ntmps182 rfl rfl ?_
 refine zent ?_
 refine zS <| Qa rfl <| zN <| Qa rfl <| zJ <| zS <| Qa rfl <| JL.nil <| Js.block ?_
 refine zl [0, 1] (fun F U l os u m => ∃ (k : Nat) (t : Int), l = F [(5, .int .i64 t), (6, .int .i64 (k : Int))] ∧ os = U [] ∧ (t + M.isum ((list.drop k).map (M.getI s.pits)) = M.isum (list.map (M.getI s.pits))) ∧ (k ≤ list.length) ∧ (0 ≤ t) ∧ (t ≤ 96 * k) ∧ m = list.length - k) ⟨0, 0, rfl, rfl, by simp, zt, zt, zt, rfl⟩ ?_
 rintro _ _ u5 _ ⟨k, t, rfl, rfl, hS, hk, t0, t1, rfl⟩ x5
 refine zn ?_
 refine Js.seq <| zS <| Qm rfl <| Qm rfl <| Qz rfl <| Ql rfl rfl <| JL.nil ?_
 refine zi (fun h6 h6' => ?_) fun h6 h6' => ?_
 ·
  have hk2 : k < list.length := by have := h6'; omega
  have hx := r2 _ (M.nth_mem hk2)
  have hv := r3 (M.nth list k)
  simp only [M.getI] at hv
  have hS2 := hS
  rw [M.drop_nth hk2, List.map_cons, M.isum_cons, ← Int.add_assoc] at hS2
  refine Js.skip <| Js.seq <| Js.block ?_
  refine zdr [] ?_
  refine jM 0 rfl rfl ?_
  refine jM 1 rfl rfl ?_
  refine jN 2 rfl rfl ?_
  refine jF 3 fld_153_0 rfl rfl ?_
  refine jW 4 ty_42 rfl rfl (fun hv => (hr3.vis (x5.vis.trans hv)) 0 _ rfl) ?_
  refine jM 5 rfl rfl ?_
  refine jM 6 rfl rfl ?_
  obtain ⟨b7, o7, he7, hc7⟩ := ints_elem (Ty.mono _ h4 x5.vis) (i := k) (by omega)
  refine jI 7 el_42 rfl rfl rfl he7 ?_
  refine jW 8 ty_2 rfl rfl hc7.vis ?_
  obtain ⟨b8, o8, he8, hc8⟩ := ints_elem (Ty.mono _ h1 x5.vis) (i := (M.nth list k).toNat) (by omega)
  refine jI 9 el_42 rfl rfl rfl he8 ?_
  refine jW 10 ty_2 rfl rfl hc8.vis ?_
  refine JH.p 11 rfl (p_add rfl rfl (IntWalk.i64_in _ (by omega))) ?_
  refine jA 12 rfl rfl ?_
  refine yd ?_
  refine Js.blockEnd <| Js.region <| Qm rfl <| Qp rfl rfl <| Qa rfl <| JL.nil ?_
  exact zag ⟨k + 1, t + (M.nth s.pits ((M.nth list k).toNat)), rfl, rfl, by exact hS2, zt, zt, zt, rfl⟩ x5
 have hT : M.isum (list.map (M.getI s.pits)) = t := by rw [← hS, List.drop_eq_nil_of_le (by have := h6'; omega)]; simp
 refine zx ?_
 refine zS <| Qm rfl <| Qa rfl <| JL.nil ?_
 refine zR x5 ?_
 rw [hT]; rfl
theorem c_spec_l06Slam (r : M.Rul) {v_r : Value} (s : M.Sw) {v_s : Value} (player : Int) {w : World} (h_r : (Ty.ref (cRules r)).ok w v_r) (h_s : (Ty.ref (cSown s)).ok w v_s) (r0 : 2 ≤ r.pits := by exact om_) (r1 : r.pits ≤ 8 := by exact om_) (r2 : player = 0 ∨ player = 1 := by exact om_) (r3 : M.Good r s.pits s.stores 0 := by exact om_) (r4 : -1 ≤ s.last := by exact om_) (r5 : s.last < 2 * r.pits := by exact om_) : RetV Tryz.prog 152 [v_r, v_s, .int .i64 player] w (.bool (M.slams r s player)) := by
 have l1 := r3.lp
 have l2 := r3.ls
 have hao := M.Good.ok r3
 have hlen := M.taken_len (s := s) (player := player) r5 r1
 revert v_r; apply opn
 intro b1 o1 hr1
 revert v_s; apply opn
 intro b4 o4 A2 c2 h2 bl2 bh2 A3 c3 h3 bl3 bh3 hr4
 refine enter @Tryz.func152 @Tryz.ntmps152 rfl rfl ?_
 refine zent ?_
 obtain ⟨b5, o5, rfl⟩ := ints_some h2 (by omega)
 refine zS <| Qa rfl <| zN <| Qm rfl <| Qm rfl <| Qm rfl <| zp rfl (fun w hw => c_spec_l06Raw r s player (ok_ hw) (ok_ hw) (r3 := r3)) ?_
 intro u6 x6 A7 c7 h7 bl7 bh7
 refine Qa rfl <| zN <| Qa rfl <| zJ <| zS <| Qa rfl <| JL.nil <| Js.block ?_
 refine zl [0, 1, 2, 7] (fun F U l os u m => ∃ (k : Nat) (g : Int), l = F [(8, .int .i64 g), (9, .int .i64 (k : Int))] ∧ os = U [] ∧ (g + M.gone r s player ((M.taken r s player).drop k) = M.gone r s player (M.taken r s player)) ∧ (k ≤ (M.taken r s player).length) ∧ (0 ≤ g) ∧ (g ≤ 96 * k) ∧ m = (M.taken r s player).length - k) ⟨0, 0, rfl, rfl, by simp, zt, zt, zt, rfl⟩ ?_
 rintro _ _ u8 _ ⟨k, g, rfl, rfl, hS, hk, g0, g1, rfl⟩ x8
 refine zn ?_
 refine Js.seq <| zS <| Qm rfl <| Qm rfl <| Qz rfl <| Ql rfl rfl <| JL.nil ?_
 refine zi (fun h9 h9' => ?_) fun h9 h9' => ?_
 ·
  have hk2 : k < (M.taken r s player).length := by have := h9'; omega
  have hx := M.taken_mem (r := r) (s := s) (player := player) r5 (M.nth_mem hk2)
  have hvx := r3.pit (M.nth (M.taken r s player) k)
  have hS1 := hS
  rw [M.drop_nth hk2, M.gone_cons] at hS1
  obtain ⟨b10, o10, he10, hc10⟩ := ints_elem (Ty.mono _ h7 x8.vis) (i := k) (by omega)
  refine Js.skip <| Js.seq <| Js.block <| zS <| Qm rfl <| Qm rfl <| Qm rfl <| Qq (p_indexAddr el_42 rfl rfl (by omega) (by omega) he10) <| QC hc10 rfl <| zv rfl (fun w hw => c_spec_l02Owner r (M.nth (M.taken r s player) k) (ok_ hw)) <| Qm rfl <| Qd rfl rfl <| JL.nil ?_
  refine zi (fun h11 h11' => ?_) fun h11 h11' => ?_
  ·
   have hS2 : (g + M.getI s.pits (M.nth (M.taken r s player) k)) + M.gone r s player ((M.taken r s player).drop (k + 1)) = M.gone r s player (M.taken r s player) := by rw [if_neg (by simpa using h11)] at hS1; omega
   refine zdr [] ?_
   refine jM 0 rfl rfl ?_
   refine jM 1 rfl rfl ?_
   refine jN 2 rfl rfl ?_
   refine jF 3 fld_153_0 rfl rfl ?_
   refine JH.w 4 rfl (fun os' u' hv => q_load1 ty_42.h rfl (Mem.pub ((hr4.vis ((x6.vis.trans x8.vis).trans hv)) 0 _ rfl))) ?_
   refine jM 5 rfl rfl ?_
   refine jM 6 rfl rfl ?_
   obtain ⟨b12, o12, he12, hc12⟩ := ints_elem (Ty.mono _ h7 x8.vis) (i := k) (by omega)
   refine jI 7 el_42 rfl rfl rfl he12 ?_
   refine jW 8 ty_2 rfl rfl hc12.vis ?_
   refine jI 9 el_42 rfl rfl rfl rfl ?_
   refine JH.w 10 rfl (fun os' u' hv => q_load1 ty_2.h rfl (Mem.pub (ints_cellI (i := M.nth (M.taken r s player) k) (Ty.mono _ h2 ((x6.vis.trans x8.vis).trans hv)) (by omega)))) ?_
   refine JH.p 11 rfl (p_add rfl rfl (IntWalk.i64_in _ (by omega))) ?_
   refine jA 12 rfl rfl ?_
   refine yd ?_
   refine Js.blockEnd <| Js.region <| Qm rfl <| Qp rfl rfl <| Qa rfl <| JL.nil ?_
   exact zag ⟨k + 1, g + (M.getI s.pits (M.nth (M.taken r s player) k)), rfl, rfl, by exact hS2, zt, zt, zt, rfl⟩ x8
  have hS2 : g + M.gone r s player ((M.taken r s player).drop (k + 1)) = M.gone r s player (M.taken r s player) := by rw [if_pos (by simpa using h11)] at hS1; omega
  refine Js.skip <| Js.blockEnd <| Js.region <| Qm rfl <| Qp rfl rfl <| Qa rfl <| JL.nil ?_
  exact zag ⟨k + 1, g, rfl, rfl, by exact hS2, zt, zt, zt, rfl⟩ x8
 have hg : g = M.gone r s player (M.taken r s player) := by rw [← hS, List.drop_eq_nil_of_le (by have := h9'; omega), M.gone_nil]; omega
 refine zx ?_
 refine zS <| Qm rfl <| Qg rfl rfl <| Qm rfl <| zg (Gd.t1 rfl rfl rfl) (fun hc => p_move rfl) <| zg (Gd.t1 rfl rfl rfl) (fun hc => p_move rfl) <| zg (Gd.t1 rfl rfl rfl) (fun hc => p_move rfl) <| zg (Gd.t1 rfl rfl rfl) (fun hc => p_nilCheck (gh hc rfl)) <| zg (Gd.t1 rfl rfl rfl) (fun hc => p_fieldAddr fld_153_0.h (gh hc rfl)) <| zgq (Gd.t1 rfl rfl rfl) (fun hc => q_load1 ty_42.h (gh hc rfl) (Mem.pub ((hr4.vis (x6.vis.trans x8.vis)) 0 _ rfl))) <| zg (Gd.t1 rfl rfl rfl) (fun hc => p_move rfl) <| zg (Gd.t1 rfl rfl rfl) (fun hc => p_sub rfl (gh hc rfl) (IntWalk.i64_in _ (oh_ hc))) ?_
 refine zgv (Gd.t1 rfl rfl rfl) (fun hc => (opds_3 (gh hc rfl) (gh hc rfl) (gh hc rfl))) (fun hc => (fun w hw => c_spec_l04Side r s.pits (1 - player) (ok_ hw) (ok_ hw) (r0 := (oh_ hc)) (r1 := (oh_ hc)) (r2 := (oh_ hc)) (r3 := (oh_ hc)) (r4 := hao.1))) ?_
 refine zg (Gd.t1 rfl rfl rfl) (fun hc => p_eql (gh hc rfl) (gh hc rfl)) <| Qq (p_pickAnd rfl rfl rfl) <| Qa rfl <| JL.nil ?_
 refine zR (x6.trans x8) ?_
 subst hg; simp [outV, M.slams, eq_comm]
theorem c_spec_l06Pits (r : M.Rul) {v_r : Value} (s : M.Sw) {v_s : Value} (player : Int) {w : World} (h_r : (Ty.ref (cRules r)).ok w v_r) (h_s : (Ty.ref (cSown s)).ok w v_s) (r0 : 2 ≤ r.pits := by exact om_) (r1 : r.pits ≤ 8 := by exact om_) (r2 : player = 0 ∨ player = 1 := by exact om_) (r3 : M.Good r s.pits s.stores 0 := by exact om_) (r4 : -1 ≤ s.last := by exact om_) (r5 : s.last < 2 * r.pits := by exact om_) : Ret Tryz.prog 181 [v_r, v_s, .int .i64 player] w (Ty.ints 2 (M.captured r s player)) := by
 revert v_r; apply opn
 intro b1 o1 hr1
 revert v_s; apply opn
 intro b4 o4 A2 c2 h2 bl2 bh2 A3 c3 h3 bl3 bh3 hr4
 refine enter @Tryz.func181 @Tryz.ntmps181 rfl rfl ?_
 refine zent ?_
 refine zS <| Qa rfl <| zJ <| zS <| Qm rfl <| Qc rfl <| Qf fh rfl <| QC (hr1 8 _ rfl) rfl <| Qe rfl rfl <| Qm rfl <| zg (Gd.t1 rfl rfl rfl) (fun hc => p_move rfl) <| zg (Gd.t1 rfl rfl rfl) (fun hc => p_move rfl) <| zg (Gd.t1 rfl rfl rfl) (fun hc => p_move rfl) <| zgv (Gd.t1 rfl rfl rfl) (fun hc => (opds_3 (gh hc rfl) (gh hc rfl) (gh hc rfl))) (fun hc => (fun w hw => c_spec_l06Slam r s player (ok_ hw) (ok_ hw) (r0 := (oh_ hc)) (r1 := (oh_ hc)) (r2 := (oh_ hc)) (r3 := r3) (r4 := (oh_ hc)) (r5 := (oh_ hc)))) ?_
 refine Qq (p_pickAnd rfl rfl rfl) <| JL.nil ?_
 refine zi (fun h5 h5' => ?_) fun h5 h5' => ?_
 ·
  have hR : M.captured r s player = [] := by unfold M.captured; rw [if_pos (by simpa using h5)]
  have hq0 : [] = M.captured r s player := by rw [hR]
  refine zS <| zbs fun b6 => ?_
  refine Qa rfl <| JL.nil ?_
  exact zro (Up.refl _ _)
 have hR : M.captured r s player = M.taken r s player := by unfold M.captured; rw [if_neg (by simpa using h5)]
 refine Js.skip <| zS <| Qm rfl <| Qm rfl <| Qm rfl <| zcs rfl (fun w hw => c_spec_l06Raw r s player (ok_ hw) (ok_ hw) (r3 := r3)) ?_
 intro A8 c8 bl8 bh8
 have hq0 : (M.taken r s player) = M.captured r s player := by rw [hR]
 refine Qa rfl <| JL.nil ?_
 exact zro (Up.refl _ _)
theorem c_spec_l06Take (r : M.Rul) {v_r : Value} (s : M.Sw) {v_s : Value} (player : Int) {w : World} (h_r : (Ty.ref (cRules r)).ok w v_r) (h_s : (Ty.ref (cSown s)).ok w v_s) (r0 : 2 ≤ r.pits := by exact om_) (r1 : r.pits ≤ 8 := by exact om_) (r2 : player = 0 ∨ player = 1 := by exact om_) (r3 : M.Good r s.pits s.stores 0 := by exact om_) (r4 : -1 ≤ s.last := by exact om_) (r5 : s.last < 2 * r.pits := by exact om_) : Ret Tryz.prog 153 [v_r, v_s, .int .i64 player] w (Ty.agg (cSown (M.take r s player))) := by
 have l1 := r3.lp
 have l2 := r3.ls
 have hlen := M.captured_len (s := s) (player := player) r5 r1
 have hmem : ∀ x ∈ (M.captured r s player), 0 ≤ x ∧ x < s.pits.length := fun x hx => by have := M.captured_mem r5 hx; omega
 have hbs := r3.store player
 have hbi := M.cap_sum (r := r) (s := s) (player := player) r3 r5
 revert v_r; apply opn
 intro b1 o1 hr1
 revert v_s; apply opn
 intro b4 o4 A2 c2 h2 bl2 bh2 A3 c3 h3 bl3 bh3 hr4
 refine enter @Tryz.func153 @Tryz.ntmps153 rfl rfl ?_
 refine zent ?_
 obtain ⟨b5, o5, rfl⟩ := ints_some h2 (by omega)
 obtain ⟨b6, o6, rfl⟩ := ints_some h3 (by omega)
 refine zS <| za zeh fun b7 => zN <| Qm rfl <| Qm rfl <| Qm rfl <| zp rfl (fun w hw => c_spec_l06Pits r s player (ok_ hw) (ok_ hw) (r3 := r3)) ?_
 intro u8 x8 A9 c9 h9 bl9 bh9
 refine Qa rfl <| zJ ?_
 refine zk [1, 2, 6, 7] (fun F U l os u => ∃ (b12 : Nat) (A10 : Option Addr) (c10 : Nat) (A11 : Option Addr) (c11 : Nat), l = F [(8, .pointer (some ⟨b12, 0, none⟩))] ∧ os = [boxO b12 [.slice A10 s.pits.length c10, .slice A11 s.stores.length c11, .int .i64 s.last, .int .i64 s.laps] 153, rowO 2 1 (.slice A11 s.stores.length c11) s.stores.length (ints_ s.stores) [], rowO 2 1 (.slice A10 s.pits.length c10) s.pits.length (ints_ s.pits) []] ++ U [] ∧ (s.pits.length ≤ c10) ∧ (c10 ≤ 9223372036854775807) ∧ (s.stores.length ≤ c11) ∧ (c11 ≤ 9223372036854775807)) ?_ ?_
 ·
  refine zdr [20] ?_
  refine jM 0 rfl rfl ?_
  refine jN 1 rfl rfl ?_
  refine jF 2 fld_153_0 rfl rfl ?_
  refine jW 3 ty_42 rfl rfl (fun hv => (hr4.vis (x8.vis.trans hv)) 0 _ rfl) ?_
  refine jM 5 rfl rfl ?_
  refine jN 6 rfl rfl ?_
  refine jF 7 fld_153_1 rfl rfl ?_
  refine jW 8 ty_42 rfl rfl (fun hv => (hr4.vis (x8.vis.trans hv)) 1 _ rfl) ?_
  refine jM 10 rfl rfl ?_
  refine jN 11 rfl rfl ?_
  refine jF 12 fld_153_2 rfl rfl ?_
  refine jW 13 ty_2 rfl rfl (fun hv => (hr4.vis (x8.vis.trans hv)) 2 _ rfl) ?_
  refine jM 14 rfl rfl ?_
  refine jN 15 rfl rfl ?_
  refine jF 16 fld_153_3 rfl rfl ?_
  refine jW 17 ty_2 rfl rfl (fun hv => (hr4.vis (x8.vis.trans hv)) 3 _ rfl) ?_
  refine y2 4 19 ?_ ?_
  ·
   refine ycs rfl rfl (fun w hw => c_spec_l00Own s.pits (ok_ hw)) ?_
   intro A19 c19 bl19 bh19
   refine y2 9 19 ?_ ?_
   ·
    refine ycs rfl rfl (fun w hw => c_spec_l00Own s.stores (ok_ hw)) ?_
    intro A20 c20 bl20 bh20
    refine JH.p 18 rfl (q_bld) ?_
    refine y1 19 ?_
    refine ya rfl fun b21 => ?_
    refine y1 20 ?_
    refine yst rfl rfl rfl ?_
    refine yd ?_
    exact zm ⟨_, _, _, _, _, rfl, rfl, zt, zt, zt, zt⟩ (Up.refl _ _)
   refine ya rfl fun b22 => ?_
   refine y1 9 ?_
   refine ycs rfl rfl (fun w hw => c_spec_l00Own s.stores (ok_ hw)) ?_
   intro A23 c23 bl23 bh23
   refine JH.p 18 rfl (q_bld) ?_
   refine y1 20 ?_
   refine yst rfl rfl rfl ?_
   refine yd ?_
   refine zh [1, 0, 0, 0] ?_
   exact zm ⟨_, _, _, _, _, rfl, rfl, zt, zt, zt, zt⟩ (Up.refl _ _)
  refine ya rfl fun b24 => ?_
  refine y1 4 ?_
  refine ycs rfl rfl (fun w hw => c_spec_l00Own s.pits (ok_ hw)) ?_
  intro A25 c25 bl25 bh25
  refine y1 9 ?_
  refine ycs rfl rfl (fun w hw => c_spec_l00Own s.stores (ok_ hw)) ?_
  intro A26 c26 bl26 bh26
  refine JH.p 18 rfl (q_bld) ?_
  refine y1 20 ?_
  refine yst rfl rfl rfl ?_
  refine yd ?_
  refine zh [2, 0, 0, 0] ?_
  exact zm ⟨_, _, _, _, _, rfl, rfl, zt, zt, zt, zt⟩ (Up.refl _ _)
 rintro _ _ u18 ⟨b12, A10, c10, A11, c11, rfl, rfl, f18_0, f18_1, f18_2, f18_3⟩ x18
 refine zn ?_
 refine Js.fact (row_some (i := 1) rfl (by omega)) (fun hf27 => ?_)
 obtain ⟨b27, rfl⟩ := hf27
 refine Js.fact (row_some (i := 2) rfl (by omega)) (fun hf28 => ?_)
 obtain ⟨b28, rfl⟩ := hf28
 refine Js.seq ?_
 refine zdr [10] ?_
 refine jF 0 fld_153_1 rfl rfl ?_
 refine jB 1 0 ty_42 rfl rfl rfl rfl ?_
 refine jM 2 rfl rfl ?_
 refine jI 3 el_42 rfl rfl rfl rfl ?_
 refine JH.q 4 rfl (q_load1 ty_2.h rfl (Mem.row (i := 1) rfl (ints_getI (i := player) (by omega)))) ?_
 refine jM 5 rfl rfl ?_
 refine jM 6 rfl rfl ?_
 refine y1 7 ?_
 refine yv rfl rfl (fun w hw => c_spec_l06Sum s (M.captured r s player) (ok_ hw) (ok_ hw) (r2 := hmem) (r3 := r3.pit)) ?_
 refine JH.p 8 rfl (p_add rfl rfl (IntWalk.i64_in _ (by omega))) ?_
 refine jI 9 el_42 rfl rfl rfl rfl ?_
 refine y1 10 ?_
 refine JHo.s rfl (e_storeRow (i := 1) (xs' := ints_ (M.setI s.stores player ((M.getI s.stores player) + (M.isum ((M.captured r s player).map (M.getI s.pits)))))) ty_2.h rfl rfl rfl rfl rfl rfl (ints_lt (i := player.toNat) (by omega)) (ints_setL (i := player.toNat) (by omega))) (.inr rfl) ?_
 rintro _ _ _ ⟨rfl, rfl⟩ _
 refine znh ?_
 refine yd ?_
 refine Js.seq <| zS <| Qa rfl <| JL.nil <| Js.block ?_
 refine zl [6, 7, 8] (fun F U l os u m => ∃ (k : Nat) (ps : List Int), l = F [(9, .int .i64 (k : Int))] ∧ os = U [nO, nO, some (rowO 2 1 (.slice (some ⟨b28, 0, none⟩) s.pits.length c10) s.pits.length (ints_ ps) [])] ∧ (ps = M.zeros ((M.captured r s player).take k) s.pits) ∧ (k ≤ (M.captured r s player).length) ∧ (ps.length = s.pits.length) ∧ m = (M.captured r s player).length - k) ⟨0, s.pits, rfl, rfl, by rfl, zt, by rfl, rfl⟩ ?_
 rintro _ _ u31 _ ⟨k, ps, rfl, rfl, hP, hk, hpl, rfl⟩ x31
 refine zn ?_
 refine Js.seq <| zS <| Qm rfl <| Qm rfl <| Qz rfl <| Ql rfl rfl <| JL.nil ?_
 refine zi (fun h32 h32' => ?_) fun h32 h32' => ?_
 ·
  have hk2 : k < (M.captured r s player).length := by have := h32'; omega
  have hx := hmem _ (M.nth_mem hk2)
  refine Js.skip <| Js.seq <| Js.block ?_
  refine zdr [7] ?_
  refine jF 0 fld_153_0 rfl rfl ?_
  refine jB 1 0 ty_42 rfl rfl rfl rfl ?_
  refine jM 2 rfl rfl ?_
  refine jM 3 rfl rfl ?_
  obtain ⟨b33, o33, he33, hc33⟩ := ints_elem (Ty.mono _ h9 (x18.vis.trans x31.vis)) (i := k) (by omega)
  refine jI 4 el_42 rfl rfl rfl he33 ?_
  refine jW 5 ty_2 rfl rfl hc33.vis ?_
  refine jI 6 el_42 rfl rfl rfl rfl ?_
  refine y1 7 ?_
  refine JHo.s rfl (e_storeRow (i := 2) (xs' := ints_ (M.setI ps (M.nth (M.captured r s player) k) 0)) ty_2.h rfl rfl rfl rfl rfl rfl (ints_lt (i := (M.nth (M.captured r s player) k).toNat) (by omega)) (ints_setL (i := (M.nth (M.captured r s player) k).toNat) (by omega))) (.inr rfl) ?_
  rintro _ _ _ ⟨rfl, rfl⟩ _
  refine znh ?_
  refine yd ?_
  refine Js.blockEnd <| Js.region <| Qm rfl <| Qp rfl rfl <| Qa rfl <| JL.nil ?_
  exact zag ⟨k + 1, M.setI ps (M.nth (M.captured r s player) k) 0, rfl, rfl, by rw [hP]; exact (M.zeros_step hk2 _).symm, zt, by rw [M.setI_length]; exact hpl, rfl⟩ x31
 have hR : ps = (M.take r s player).pits := by rw [hP, List.take_of_length_le (by have := h32'; omega)]; rfl
 refine zx ?_
 have hq0 : ps = (M.take r s player).pits := by first | exact hR | rfl
 have hq1 : (M.setI s.stores player ((M.getI s.stores player) + (M.isum ((M.captured r s player).map (M.getI s.pits))))) = (M.take r s player).stores := by first | exact hR | rfl
 have hq2 : s.last = (M.take r s player).last := by first | exact hR | rfl
 have hq3 : s.laps = (M.take r s player).laps := by first | exact hR | rfl
 refine zS <| Q9 0 rfl rfl ?_
 refine zw 3 rfl rfl rfl ?_
 refine JL.nil ?_
 exact zro ((x8.trans x18).trans x31)
theorem c_spec_l07Feed (r : M.Rul) {v_r : Value} (p : M.Pos) {v_p : Value} {w : World} (h_r : (Ty.ref (cRules r)).ok w v_r) (h_p : (Ty.ref (cPosition p)).ok w v_p) (r0 : M.okP r p = true := by exact om_) : RetV Tryz.prog 154 [v_r, v_p] w (.bool (M.mustFeed r p)) := by
 obtain ⟨g1, g2, g3, g4, g5, g6, g7⟩ := M.okP_bd r0
 revert v_r; apply opn
 intro b1 o1 hr1
 revert v_p; apply opn
 intro b4 o4 A2 c2 h2 bl2 bh2 A3 c3 h3 bl3 bh3 hr4
 refine enter @Tryz.func154 @Tryz.ntmps154 rfl rfl ?_
 refine zent ?_
 refine zS <| Qa rfl <| zJ ?_
 refine zdr [] ?_
 refine jM 0 rfl rfl ?_
 refine jN 1 rfl rfl ?_
 refine jF 2 fld_29_5 rfl rfl ?_
 refine jW 3 ty_4 rfl rfl (fun hv => (hr1.vis hv) 5 _ rfl) ?_
 refine jM 4 rfl rfl ?_
 refine JH.pg 5 rfl (Gd.t1 rfl rfl rfl) (fun hc => p_move rfl) ?_
 refine JH.pg 6 rfl (Gd.t1 rfl rfl rfl) (fun hc => p_move rfl) ?_
 refine JH.pg 7 rfl (Gd.t1 rfl rfl rfl) (fun hc => p_nilCheck (gvt rfl hc)) ?_
 refine JH.pg 8 rfl (Gd.t1 rfl rfl rfl) (fun hc => p_fieldAddr fld_44_0.h (gvt rfl hc)) ?_
 refine JH.wg 9 rfl (Gd.t1 rfl rfl rfl) (fun hc os' u' hv => q_load1 ty_42.h (gvt rfl hc) (Mem.pub ((hr4.vis hv) 0 _ rfl))) ?_
 refine JH.pg 10 rfl (Gd.t1 rfl rfl rfl) (fun hc => p_move rfl) ?_
 refine JH.pg 11 rfl (Gd.t1 rfl rfl rfl) (fun hc => p_nilCheck (gvt rfl hc)) ?_
 refine JH.pg 12 rfl (Gd.t1 rfl rfl rfl) (fun hc => p_fieldAddr fld_44_2.h (gvt rfl hc)) ?_
 refine JH.wg 13 rfl (Gd.t1 rfl rfl rfl) (fun hc os' u' hv => q_load1 ty_2.h (gvt rfl hc) (Mem.pub ((hr4.vis hv) 2 _ rfl))) ?_
 refine JH.pg 14 rfl (Gd.t1 rfl rfl rfl) (fun hc => p_sub rfl (gvt rfl hc) (IntWalk.i64_in _ (by omega))) ?_
 refine y1 15 ?_
 refine JHo.ge rfl (Gd.t1 rfl rfl rfl) (fun hc => e_callV fn_155.h (opds_3 (gvt rfl hc) (gvt rfl hc) (gvt rfl hc)) (fun w hw => c_spec_l04Side r p.pits (1 - p.player) (ok_ hw) (ok_ hw) (r4 := g5))) ?_
 refine JH.pg 16 rfl (Gd.t1 rfl rfl rfl) (fun hc => p_eql (gvt rfl hc) rfl) ?_
 refine JH.p 17 rfl (p_pickAnd rfl rfl rfl) ?_
 refine jA 18 rfl rfl ?_
 refine yd ?_
 refine zR (Up.refl _ _) ?_
 simp [outV, M.mustFeed]
theorem c_spec_l07Make (r : M.Rul) {v_r : Value} (p : M.Pos) {v_p : Value} (move : Int) {w : World} (h_r : (Ty.ref (cRules r)).ok w v_r) (h_p : (Ty.ref (cPosition p)).ok w v_p) (r0 : p.pits.length ≤ 4194304 := by exact om_) (r1 : p.stores.length ≤ 4194304 := by exact om_) : Ret Tryz.prog 111 [v_r, v_p, .int .i64 move] w (Ty.tup [Ty.agg (cResult ((M.make r p move).1)), Ty.int ((M.make r p move).2)]) := by
 revert v_r; apply opn
 intro b1 o1 hr1
 revert v_p; apply opn
 intro b4 o4 A2 c2 h2 bl2 bh2 A3 c3 h3 bl3 bh3 hr4
 refine enter @Tryz.func111 @Tryz.ntmps111 rfl rfl ?_
 refine zent ?_
 refine zS <| za zeh fun b5 => Qa rfl <| zN <| Qm rfl <| Qm rfl <| Qm rfl <| zp rfl (fun w hw => c_spec_l05Move r p move (ok_ hw) (ok_ hw)) ?_
 intro u6 x6 A7 c7 h7 bl7 bh7 A8 c8 h8 bl8 bh8 A9 c9 h9 bl9 bh9
 refine Qm rfl <| Qx rfl rfl <| Qx rfl rfl <| Qx rfl rfl <| za zeh fun b10 => zw 0 rfl rfl rfl ?_
 refine Qa rfl <| Qa rfl <| zJ <| zS <| Qm rfl <| Qd rfl rfl <| JL.nil ?_
 refine zi (fun h11 h11' => ?_) fun h11 h11' => ?_
 ·
  have hD := M.make_sow (r := r) (p := p) (move := move) (by simpa using h11)
  have hq0 : 0 = ((M.make r p move).1).move := rp_ hD
  have hq1 : 0 = ((M.make r p move).1).gain := rp_ hD
  have hq2 : false = ((M.make r p move).1).again := rp_ hD
  have hq3 : [] = (((M.make r p move).1).next).pits := rp_ hD
  have hq4 : [] = (((M.make r p move).1).next).stores := rp_ hD
  have hq5 : 0 = (((M.make r p move).1).next).player := rp_ hD
  have hq6 : ((M.sowMove r p move).1) = (M.make r p move).2 := rp_ hD
  refine zS <| Qb ?_
  refine Qm rfl <| zw 1 rfl rfl rfl ?_
  refine Qa rfl <| JL.nil ?_
  exact zro x6
 have hz : (M.sowMove r p move).1 = 0 := by simpa using h11
 obtain ⟨hok, m0, m1, hG, q0, q1, hsum⟩ := M.sowMove_ok hz
 obtain ⟨g1, g2, g3, g4, g5, g6, g7⟩ := M.okP_bd hok
 have hG2 := (M.take_keeps g7 hG q1).1
 have hao := M.Good.ok hG2
 have hl2 := hG2.lp
 have hl3 := hG2.ls
 have hs1 := hG2.store p.player
 have hs2 := (M.Good.of_ok hok).store p.player
 simp only [M.getI] at hs2
 refine Js.skip <| Js.seq <| zS <| Qm rfl <| Qc rfl <| Qf fh rfl <| QC ((hr1.vis x6.vis) 8 _ rfl) rfl <| Qe rfl rfl <| Qm rfl <| zg (Gd.t1 rfl rfl rfl) (fun hc => p_move rfl) <| zg (Gd.t1 rfl rfl rfl) (fun hc => p_move rfl) <| zg (Gd.t1 rfl rfl rfl) (fun hc => p_nilCheck (gh hc rfl)) <| zg (Gd.t1 rfl rfl rfl) (fun hc => p_fieldAddr fld_44_2.h (gh hc rfl)) <| zgq (Gd.t1 rfl rfl rfl) (fun hc => q_load1 ty_2.h (gh hc rfl) (Mem.pub ((hr4.vis x6.vis) 2 _ rfl))) ?_
 refine zgv (Gd.t1 rfl rfl rfl) (fun hc => (opds_3 (gh hc rfl) rfl (gh hc rfl))) (fun hc => (fun w hw => c_spec_l06Slam r ((M.sowMove r p move).2.1) p.player (ok_ hw) (ok_ hw) (r0 := (oh_ hc)) (r1 := (oh_ hc)) (r2 := (oh_ hc)) (r3 := hG) (r4 := (oh_ hc)) (r5 := (oh_ hc)))) ?_
 refine Qq (p_pickAnd rfl rfl rfl) <| JL.nil ?_
 refine zi (fun h12 h12' => ?_) fun h12 h12' => ?_
 ·
  have hD := M.make_slam hz (by simpa using h12)
  have hq0 : 0 = ((M.make r p move).1).move := rp_ hD
  have hq1 : 0 = ((M.make r p move).1).gain := rp_ hD
  have hq2 : false = ((M.make r p move).1).again := rp_ hD
  have hq3 : [] = (((M.make r p move).1).next).pits := rp_ hD
  have hq4 : [] = (((M.make r p move).1).next).stores := rp_ hD
  have hq5 : 0 = (((M.make r p move).1).next).player := rp_ hD
  have hq6 : 9 = (M.make r p move).2 := rp_ hD
  refine zS <| Qb ?_
  refine zw 1 rfl rfl rfl ?_
  refine Qa rfl <| JL.nil ?_
  exact zro x6
 have hns : ¬ (r.slam = 1 ∧ M.slams r (M.sowMove r p move).2.1 p.player = true) := by simpa using h12
 refine Js.skip <| zS <| Qm rfl <| Qm rfl <| Qc rfl <| Qf fh rfl <| QC ((hr4.vis x6.vis) 2 _ rfl) rfl <| zc rfl (fun w hw => c_spec_l06Take r ((M.sowMove r p move).2.1) p.player (ok_ hw) (ok_ hw) (r3 := hG)) ?_
 intro A14 c14 bl14 bh14 A15 c15 bl15 bh15
 refine za zeh fun b16 => zw 0 rfl rfl rfl ?_
 refine zJ <| Js.seq ?_
 refine zdr [] ?_
 refine jM 0 rfl rfl ?_
 refine jM 1 rfl rfl ?_
 refine y1 2 ?_
 refine yv rfl rfl (fun w hw => c_spec_l07Feed r p (ok_ hw) (ok_ hw) (r0 := hok)) ?_
 refine jM 3 rfl rfl ?_
 refine JH.pg 4 rfl (Gd.t1 rfl rfl rfl) (fun hc => p_move rfl) ?_
 refine JH.pg 5 rfl (Gd.t1 rfl rfl rfl) (fun hc => p_fieldAddr fld_153_0.h rfl) ?_
 refine JH.qg 6 rfl (Gd.t1 rfl rfl rfl) (fun hc => q_load1 ty_42.h (gvt rfl hc) (Mem.box (i := 0) rfl rfl)) ?_
 refine JH.pg 7 rfl (Gd.t1 rfl rfl rfl) (fun hc => p_move rfl) ?_
 refine JH.pg 8 rfl (Gd.t1 rfl rfl rfl) (fun hc => p_nilCheck (gvt rfl hc)) ?_
 refine JH.pg 9 rfl (Gd.t1 rfl rfl rfl) (fun hc => p_fieldAddr fld_44_2.h (gvt rfl hc)) ?_
 refine JH.wg 10 rfl (Gd.t1 rfl rfl rfl) (fun hc os' u' hv => q_load1 ty_2.h (gvt rfl hc) (Mem.pub ((hr4.vis (x6.vis.trans hv)) 2 _ rfl))) ?_
 refine JH.pg 11 rfl (Gd.t1 rfl rfl rfl) (fun hc => p_sub rfl (gvt rfl hc) (IntWalk.i64_in _ (by omega))) ?_
 refine y1 12 ?_
 refine JHo.ge rfl (Gd.t1 rfl rfl rfl) (fun hc => e_callV fn_155.h (opds_3 (gvt rfl hc) (gvt rfl hc) (gvt rfl hc)) (fun w hw => c_spec_l04Side r ((M.take r ((M.sowMove r p move).2.1) p.player).pits) (1 - p.player) (ok_ hw) (ok_ hw) (r4 := hao.1))) ?_
 refine JH.pg 13 rfl (Gd.t1 rfl rfl rfl) (fun hc => p_eql (gvt rfl hc) rfl) ?_
 refine JH.p 14 rfl (p_pickAnd rfl rfl rfl) ?_
 refine yd ?_
 refine zi (fun h17 h17' => ?_) fun h17 h17' => ?_
 ·
  have hD := M.make_feed hz hns (by simpa using h17)
  have hq0 : 0 = ((M.make r p move).1).move := rp_ hD
  have hq1 : 0 = ((M.make r p move).1).gain := rp_ hD
  have hq2 : false = ((M.make r p move).1).again := rp_ hD
  have hq3 : [] = (((M.make r p move).1).next).pits := rp_ hD
  have hq4 : [] = (((M.make r p move).1).next).stores := rp_ hD
  have hq5 : 0 = (((M.make r p move).1).next).player := rp_ hD
  have hq6 : 9 = (M.make r p move).2 := rp_ hD
  refine zS <| Qb ?_
  refine zw 4 rfl rfl rfl ?_
  refine Qa rfl <| JL.nil ?_
  exact zro x6
 have hD := M.make_go hz hns (by simpa using h17)
 refine Js.skip <| Js.seq ?_
 refine zk [1, 6, 11] (fun F U l os u => ∃ (b21 b19 : Nat), l = F [(12, .pointer (some ⟨b21, 0, none⟩))] ∧ os = [boxO b21 [.int .i64 move, .int .i64 ((M.getI ((M.take r ((M.sowMove r p move).2.1) p.player).stores) p.player) - (M.nth p.stores p.player.toNat)), .bool (r.again && (decide ((M.take r ((M.sowMove r p move).2.1) p.player).last = (-1)))), .slice none 0 0, .slice none 0 0, .int .i64 0] 150] ++ U [some (boxO b16 [.slice A14 (((M.take r ((M.sowMove r p move).2.1) p.player).pits).length) c14, .slice (some ⟨b19, 0, none⟩) (((M.take r ((M.sowMove r p move).2.1) p.player).stores).length) c15, .int .i64 ((M.take r ((M.sowMove r p move).2.1) p.player).last), .int .i64 ((M.take r ((M.sowMove r p move).2.1) p.player).laps)] 153), some (rowO 2 1 (.slice (some ⟨b19, 0, none⟩) (((M.take r ((M.sowMove r p move).2.1) p.player).stores).length) c15) (((M.take r ((M.sowMove r p move).2.1) p.player).stores).length) (ints_ ((M.take r ((M.sowMove r p move).2.1) p.player).stores)) [])]) ?_ ?_
 ·
  refine zdr [31] ?_
  refine jM 0 rfl rfl ?_
  refine jF 1 fld_153_1 rfl rfl ?_
  refine jB 2 0 ty_42 rfl rfl rfl rfl ?_
  refine jM 3 rfl rfl ?_
  refine jN 4 rfl rfl ?_
  refine jF 5 fld_44_2 rfl rfl ?_
  refine jW 6 ty_2 rfl rfl (fun hv => (hr4.vis (x6.vis.trans hv)) 2 _ rfl) ?_
  refine JH.fact (row_some (i := 1) rfl (by omega)) (fun hf25 => ?_)
  obtain ⟨b25, rfl⟩ := hf25
  refine jI 7 el_42 rfl rfl rfl rfl ?_
  refine JH.q 8 rfl (q_load1 ty_2.h rfl (Mem.row (i := 1) rfl (ints_getI (i := p.player) (by omega)))) ?_
  refine jM 9 rfl rfl ?_
  refine jN 10 rfl rfl ?_
  refine jF 11 fld_44_1 rfl rfl ?_
  refine jW 12 ty_42 rfl rfl (fun hv => (hr4.vis (x6.vis.trans hv)) 1 _ rfl) ?_
  refine jM 13 rfl rfl ?_
  refine jN 14 rfl rfl ?_
  refine jF 15 fld_44_2 rfl rfl ?_
  refine jW 16 ty_2 rfl rfl (fun hv => (hr4.vis (x6.vis.trans hv)) 2 _ rfl) ?_
  obtain ⟨b26, o26, he26, hc26⟩ := ints_elem (Ty.mono _ h3 x6.vis) (i := p.player.toNat) (by omega)
  refine jI 17 el_42 rfl rfl rfl he26 ?_
  refine jW 18 ty_2 rfl rfl hc26.vis ?_
  refine JH.p 19 rfl (p_sub rfl rfl (IntWalk.i64_in _ (by omega))) ?_
  refine jM 20 rfl rfl ?_
  refine jN 21 rfl rfl ?_
  refine jF 22 fld_29_6 rfl rfl ?_
  refine jW 23 ty_4 rfl rfl (fun hv => (hr1.vis (x6.vis.trans hv)) 6 _ rfl) ?_
  refine jM 24 rfl rfl ?_
  refine JH.pg 25 rfl (Gd.t1 rfl rfl rfl) (fun hc => p_fieldAddr fld_153_2.h rfl) ?_
  refine y2 26 30 ?_ ?_
  ·
   refine JHo.qg rfl (Gd.t1 rfl rfl rfl) (fun hc => q_load1 ty_2.h (gvt rfl hc) (Mem.box (i := 0) rfl rfl)) ?_
   refine JH.pg 27 rfl (Gd.t1 rfl rfl rfl) (fun hc => p_eql (gvt rfl hc) rfl) ?_
   refine JH.p 28 rfl (p_pickAnd rfl rfl rfl) ?_
   refine JH.p 29 rfl (q_bld) ?_
   refine y1 30 ?_
   refine ya rfl fun b27 => ?_
   refine y1 31 ?_
   refine yst rfl rfl rfl ?_
   refine yd ?_
   exact zm ⟨_, _, rfl, rfl⟩ (Up.refl _ _)
  refine ya rfl fun b28 => ?_
  refine y1 26 ?_
  refine JHo.qg rfl (Gd.t1 rfl rfl rfl) (fun hc => q_load1 ty_2.h (gvt rfl hc) (Mem.box (i := 1) rfl rfl)) ?_
  refine JH.pg 27 rfl (Gd.t1 rfl rfl rfl) (fun hc => p_eql (gvt rfl hc) rfl) ?_
  refine JH.p 28 rfl (p_pickAnd rfl rfl rfl) ?_
  refine JH.p 29 rfl (q_bld) ?_
  refine y1 31 ?_
  refine yst rfl rfl rfl ?_
  refine yd ?_
  exact zm ⟨_, _, rfl, rfl⟩ (Up.refl _ _)
 rintro _ _ u23 ⟨b21, b19, rfl, rfl⟩ x23
 refine zn ?_
 refine Js.seq ?_
 refine zdr [11] ?_
 refine jF 0 fld_153_0 rfl rfl ?_
 refine jB 1 1 ty_42 rfl rfl rfl rfl ?_
 refine jF 2 fld_153_1 rfl rfl ?_
 refine jB 3 1 ty_42 rfl rfl rfl rfl ?_
 refine jM 4 rfl rfl ?_
 refine jN 5 rfl rfl ?_
 refine jF 6 fld_44_2 rfl rfl ?_
 refine JH.w 7 rfl (fun os' u' hv => q_load1 ty_2.h rfl (Mem.pub ((hr4.vis ((x6.vis.trans x23.vis).trans hv)) 2 _ rfl))) ?_
 refine JH.p 8 rfl (p_sub rfl rfl (IntWalk.i64_in _ (by omega))) ?_
 refine JH.p 9 rfl (q_bld) ?_
 refine jF 10 fld_150_3 rfl rfl ?_
 refine y1 11 ?_
 refine yst rfl rfl rfl ?_
 refine yd ?_
 refine Js.seq <| zS <| Qf fh rfl <| Q0 0 rfl rfl rfl <| JL.nil ?_
 refine zi (fun h29 h29' => ?_) fun h29 h29' => ?_
 ·
  unfold M.resOf at hD
  rw [if_pos h29] at hD
  have hq0 : move = ((M.make r p move).1).move := rp_ hD
  have hq1 : ((M.getI ((M.take r ((M.sowMove r p move).2.1) p.player).stores) p.player) - (M.nth p.stores p.player.toNat)) = ((M.make r p move).1).gain := rp_ hD
  have hq2 : (r.again && (decide ((M.take r ((M.sowMove r p move).2.1) p.player).last = (-1)))) = ((M.make r p move).1).again := rp_ hD
  have hq3 : ((M.take r ((M.sowMove r p move).2.1) p.player).pits) = (((M.make r p move).1).next).pits := rp_ hD
  have hq4 : ((M.take r ((M.sowMove r p move).2.1) p.player).stores) = (((M.make r p move).1).next).stores := rp_ hD
  have hq5 : p.player = (((M.make r p move).1).next).player := rp_ hD
  have hq6 : 0 = (M.make r p move).2 := rp_ hD
  refine Js.region <| Qm rfl <| Qc rfl <| Qf fh rfl <| QC ((hr4.vis (x6.vis.trans x23.vis)) 2 _ rfl) rfl <| Qf fh rfl <| Qf fh rfl <| zw 0 rfl rfl rfl ?_
  refine zN <| Q9 0 rfl rfl ?_
  refine zw 5 rfl rfl rfl ?_
  refine Qa rfl <| JL.nil ?_
  exact zro (x6.trans x23)
 unfold M.resOf at hD
 rw [if_neg (by simpa using h29)] at hD
 have hq0 : move = ((M.make r p move).1).move := rp_ hD
 have hq1 : ((M.getI ((M.take r ((M.sowMove r p move).2.1) p.player).stores) p.player) - (M.nth p.stores p.player.toNat)) = ((M.make r p move).1).gain := rp_ hD
 have hq2 : (r.again && (decide ((M.take r ((M.sowMove r p move).2.1) p.player).last = (-1)))) = ((M.make r p move).1).again := rp_ hD
 have hq3 : ((M.take r ((M.sowMove r p move).2.1) p.player).pits) = (((M.make r p move).1).next).pits := rp_ hD
 have hq4 : ((M.take r ((M.sowMove r p move).2.1) p.player).stores) = (((M.make r p move).1).next).stores := rp_ hD
 have hq5 : (1 - p.player) = (((M.make r p move).1).next).player := rp_ hD
 have hq6 : 0 = (M.make r p move).2 := rp_ hD
 refine Js.skip <| zS <| Q9 0 rfl rfl ?_
 refine zw 5 rfl rfl rfl ?_
 refine Qa rfl <| JL.nil ?_
 exact zro (x6.trans x23)
theorem c_spec_MoveFault (r : M.Rul) {v_r : Value} (p : M.Pos) {v_p : Value} (move : Int) {w : World} (h_r : (Ty.agg (cRules r)).ok w v_r) (h_p : (Ty.agg (cPosition p)).ok w v_p) (r0 : p.pits.length ≤ 4194304 := by exact om_) (r1 : p.stores.length ≤ 4194304 := by exact om_) : RetV Tryz.prog 62 [v_r, v_p, .int .i64 move] w (.int .i64 ((M.make r p move).2)) := by
 revert v_r; apply opn
 revert v_p; apply opn
 intro A1 c1 h1 bl1 bh1 A2 c2 h2 bl2 bh2
 refine enter @Tryz.func62 @Tryz.ntmps62 rfl rfl ?_
 refine zent ?_
 refine zS <| zb rfl fun b3 => zb rfl fun b4 => Qa rfl <| zN <| Qm rfl <| zp rfl (fun w hw => c_spec_l07Make r p move (ok_ hw) (ok_ hw)) ?_
 intro u5 x5 A6 c6 h6 bl6 bh6 A7 c7 h7 bl7 bh7
 refine Qm rfl <| Qx rfl rfl <| Qx rfl rfl <| za zeh fun b8 => zw 0 rfl rfl rfl ?_
 refine Qa rfl <| zN <| Qm rfl <| Qa rfl <| JL.nil ?_
 exact zr x5
theorem c_spec_l04Lists (a : List Int) {v_a : Value} (b : List Int) {v_b : Value} {w : World} (h_a : (Ty.ints 2 a).ok w v_a) (h_b : (Ty.ints 2 b).ok w v_b) (r0 : a.length ≤ 4194304 := by exact om_) (r1 : b.length ≤ 4194304 := by exact om_) : RetV Tryz.prog 79 [v_a, v_b] w (.int .i64 (M.cmpL a b)) := by
 revert v_a; apply opn
 intro A1 c1 h1 bl1 bh1
 have h_a := h1
 revert v_b; apply opn
 intro A2 c2 h2 bl2 bh2
 have h_b := h2
 refine enter @Tryz.func79 @Tryz.ntmps79 rfl rfl ?_
 refine zent ?_
 refine zS <| Qa rfl <| zJ <| zS <| Qa rfl <| JL.nil <| Js.block ?_
 refine zl [0, 1] (fun F U l os u m => ∃ (k : Nat), l = F [(5, .int .i64 (k : Int))] ∧ os = U [] ∧ (M.cmpL (a.drop k) (b.drop k) = M.cmpL a b) ∧ (k ≤ a.length) ∧ (k ≤ b.length) ∧ m = a.length - k) ⟨0, rfl, rfl, by rfl, zt, zt, rfl⟩ ?_
 rintro _ _ u3 _ ⟨k, rfl, rfl, hC, hka, hkb, rfl⟩ x3
 refine zn ?_
 refine Js.seq <| zS <| Qm rfl <| Qm rfl <| Qz rfl <| Ql rfl rfl <| Qm rfl <| zg (Gd.t1 rfl rfl rfl) (fun hc => p_move rfl) <| zg (Gd.t1 rfl rfl rfl) (fun hc => p_move rfl) <| zg (Gd.t1 rfl rfl rfl) (fun hc => p_len el_42 (gh hc rfl)) <| zg (Gd.t1 rfl rfl rfl) (fun hc => p_lss (gh hc rfl) (gh hc rfl)) <| Qq (p_pickAnd rfl rfl rfl) <| JL.nil ?_
 refine zi (fun h4 h4' => ?_) fun h4 h4' => ?_
 ·
  have hab : k < a.length ∧ k < b.length := by have := h4'; omega
  refine Js.skip <| Js.seq <| Js.block <| Js.seq <| Js.seq ?_
  refine zdr [] ?_
  refine jM 0 rfl rfl ?_
  refine jM 1 rfl rfl ?_
  obtain ⟨b5, o5, he5, hc5⟩ := ints_elem (Ty.mono _ h1 x3.vis) (i := k) (by omega)
  refine jI 2 el_42 rfl rfl rfl he5 ?_
  refine jW 3 ty_2 rfl rfl hc5.vis ?_
  refine jM 4 rfl rfl ?_
  refine jM 5 rfl rfl ?_
  obtain ⟨b6, o6, he6, hc6⟩ := ints_elem (Ty.mono _ h2 x3.vis) (i := k) (by omega)
  refine jI 6 el_42 rfl rfl rfl he6 ?_
  refine jW 7 ty_2 rfl rfl hc6.vis ?_
  refine JH.p 8 rfl (p_lss rfl rfl) ?_
  refine yd ?_
  refine zi (fun h7 h7' => ?_) fun h7 h7' => ?_
  ·
   have hE := M.cmpL_lt hC hab.1 hab.2 (by have := h7'; omega)
   refine zS <| Qa rfl <| JL.nil ?_
   refine zR x3 ?_
   first | (rw [hE]; done) | (rw [hE]; rfl)
  have h1_ : ¬ M.nth a k < M.nth b k := by have := h7'; omega
  refine Js.skip <| Js.seq ?_
  refine zdr [] ?_
  refine jM 0 rfl rfl ?_
  refine jM 1 rfl rfl ?_
  obtain ⟨b8, o8, he8, hc8⟩ := ints_elem (Ty.mono _ h1 x3.vis) (i := k) (by omega)
  refine jI 2 el_42 rfl rfl rfl he8 ?_
  refine jW 3 ty_2 rfl rfl hc8.vis ?_
  refine jM 4 rfl rfl ?_
  refine jM 5 rfl rfl ?_
  obtain ⟨b9, o9, he9, hc9⟩ := ints_elem (Ty.mono _ h2 x3.vis) (i := k) (by omega)
  refine jI 6 el_42 rfl rfl rfl he9 ?_
  refine jW 7 ty_2 rfl rfl hc9.vis ?_
  refine JH.p 8 rfl (p_gtr rfl rfl) ?_
  refine yd ?_
  refine zi (fun h10 h10' => ?_) fun h10 h10' => ?_
  ·
   have hE := M.cmpL_gt hC hab.1 hab.2 (by have := h10'; omega)
   refine zS <| Qa rfl <| JL.nil ?_
   refine zR x3 ?_
   first | (rw [hE]; done) | (rw [hE]; rfl)
  have hC2 := M.cmpL_step hC hab.1 hab.2 h1_ (by have := h10'; omega)
  refine Js.skip <| Js.blockEnd <| Js.region <| Qm rfl <| Qp rfl rfl <| Qa rfl <| JL.nil ?_
  exact zag ⟨k + 1, rfl, rfl, by exact hC2, zt, zt, rfl⟩ x3
 have hE := M.cmpL_end hC (by have := h4'; omega) hka hkb
 refine zx ?_
 refine Js.seq <| zS <| Qm rfl <| Qz rfl <| Qm rfl <| Qz rfl <| Ql rfl rfl <| JL.nil ?_
 refine zi (fun h11 h11' => ?_) fun h11 h11' => ?_
 ·
  rw [if_pos (by have := h11'; omega)] at hE
  refine zS <| Qa rfl <| JL.nil ?_
  refine zR x3 ?_
  first | (rw [hE]; done) | (rw [hE]; rfl)
 rw [if_neg (by have := h11'; omega)] at hE
 refine Js.skip <| Js.seq <| zS <| Qm rfl <| Qz rfl <| Qm rfl <| Qz rfl <| Qg rfl rfl <| JL.nil ?_
 refine zi (fun h12 h12' => ?_) fun h12 h12' => ?_
 ·
  rw [if_pos (by have := h12'; omega)] at hE
  refine zS <| Qa rfl <| JL.nil ?_
  refine zR x3 ?_
  first | (rw [hE]; done) | (rw [hE]; rfl)
 rw [if_neg (by have := h12'; omega)] at hE
 refine Js.skip <| zS <| Qa rfl <| JL.nil ?_
 refine zR x3 ?_
 first | (rw [hE]; done) | (rw [hE]; rfl)
theorem c_spec_l20Pos (p : List Int) {Ap_0 : Option Addr} {cp_0 : Nat} {w : World}  : Ret Tryz.prog 129 [.slice Ap_0 p.length cp_0] w (Ty.agg [Ty.val (.slice Ap_0 p.length cp_0), Ty.ints 2 [0, 0], Ty.int 0]) := by
 refine enter @Tryz.func129 @Tryz.ntmps129 rfl rfl ?_
 refine zent ?_
 refine zS <| za zeh fun b1 => zN <| Qm rfl <| zbs fun b2 => ?_
 refine Qb ?_
 refine zw 1 rfl rfl rfl ?_
 refine JL.nil ?_
 exact zro (Up.refl _ _)
theorem c_spec_l20Entry (r : M.Rul) {v_r : Value} (e : M.Ent) {v_e : Value} {w : World} (h_r : (Ty.ref (cRules r)).ok w v_r) (h_e : (Ty.ref (cBookEntry e)).ok w v_e) (r0 : e.pits.length ≤ 4194304 := by exact om_) (r1 : e.choices.length ≤ 4194304 := by exact om_) : RetV Tryz.prog 78 [v_r, v_e] w (.bool (M.okE r e)) := by
 have p5 : (M.posE e.pits).stores.length ≤ 4194304 := (by decide : ([0, 0] : List Int).length ≤ 4194304)
 have p6 : (M.posE e.pits).pits.length ≤ 4194304 := r0
 revert v_r; apply opn
 intro b1 o1 hr1
 revert v_e; apply opn
 intro b4 o4 A2 c2 h2 bl2 bh2 A3 c3 h3 bl3 bh3 hr4
 refine enter @Tryz.func78 @Tryz.ntmps78 rfl rfl ?_
 refine zent ?_
 refine zS <| Qa rfl <| zN <| Qm rfl <| Qc rfl <| Qf fh rfl <| QC (hr4 0 _ rfl) rfl <| zc rfl (fun w hw => c_spec_l20Pos e.pits) ?_
 intro A5 c5 bl5 bh5
 refine za zeh fun b6 => zw 0 rfl rfl rfl ?_
 refine zJ <| zS <| Qm rfl <| zv rfl (fun w hw => c_spec_l04Ok r (M.Pos.mk e.pits [0, 0] 0) (ok_ hw) (ok_ hw)) <| Qt rfl <| Qm rfl <| zg (Gd.f1 rfl rfl rfl) (fun hc => p_move rfl) <| zg (Gd.f1 rfl rfl rfl) (fun hc => p_nilCheck (gh hc rfl)) <| zg (Gd.f1 rfl rfl rfl) (fun hc => p_fieldAddr fld_67_1.h (gh hc rfl)) <| zgq (Gd.f1 rfl rfl rfl) (fun hc => q_load1 ty_54.h (gh hc rfl) (Mem.pub (hr4 1 _ rfl))) <| zg (Gd.f1 rfl rfl rfl) (fun hc => p_len el_54 (gh hc rfl)) <| zg (Gd.f1 rfl rfl rfl) (fun hc => p_eql (gh hc rfl) rfl) <| Qq (p_pickOr rfl rfl rfl) <| JL.nil ?_
 refine zi (fun h7 h7' => ?_) fun h7 h7' => ?_
 ·
  have hE := M.okE_p (r := r) (e := e) (by have h9 := h7; simp only [Bool.or_eq_true, Bool.not_eq_true', decide_eq_true_eq] at h9; exact h9.imp id (fun h => by omega))
  refine zS <| Qa rfl <| JL.nil ?_
  refine zR (Up.refl _ _) ?_
  first | (rw [hE, hE2]; rfl) | (rw [hE]; rfl)
 have h9 := h7
 simp at h9
 have hE := M.okE_cs h9.1 (by omega)
 refine Js.skip <| Js.seq <| zS <| Qa rfl <| JL.nil <| Js.block ?_
 refine zl [0, 1, 5] (fun F U l os u m => ∃ (k : Nat), l = F [(6, .int .i64 (k : Int))] ∧ os = U [] ∧ (M.AllB (M.chAt r (M.posE e.pits) e.choices) k) ∧ (k ≤ e.choices.length) ∧ m = e.choices.length - k) ⟨0, rfl, rfl, by exact M.AllB.zero _, zt, rfl⟩ ?_
 rintro _ _ u8 _ ⟨k, rfl, rfl, hA, hk, rfl⟩ x8
 refine zn ?_
 refine Js.seq <| zS <| Qm rfl <| Qm rfl <| Qc rfl <| Qf fh rfl <| QC ((hr4.vis x8.vis) 1 _ rfl) rfl <| Qz rfl <| Ql rfl rfl <| JL.nil ?_
 refine zi (fun h9 h9' => ?_) fun h9 h9' => ?_
 ·
  have hy10 : e.choices[k]? = some (M.cho e.choices k) := M.cho_get (by omega)
  obtain ⟨b10, o10, he10, hr10⟩ := elem_Choice (Ty.mono _ h3 x8.vis) hy10
  refine Js.skip <| Js.seq <| Js.block <| zS <| Qm rfl <| Qc rfl <| Qf fh rfl <| QC ((hr4.vis x8.vis) 1 _ rfl) rfl <| Qm rfl <| Qq (p_indexAddr el_54 rfl rfl (by omega) (by omega) he10) <| Qa rfl <| zJ <| Js.seq ?_
  refine zdr [] ?_
  refine jM 0 rfl rfl ?_
  refine JH.p 1 rfl (p_gtr rfl rfl) ?_
  refine jM 2 rfl rfl ?_
  refine JH.pg 3 rfl (Gd.t1 rfl rfl rfl) (fun hc => p_move rfl) ?_
  refine JH.pg 4 rfl (Gd.t1 rfl rfl rfl) (fun hc => p_nilCheck (gvt rfl hc)) ?_
  refine JH.pg 5 rfl (Gd.t1 rfl rfl rfl) (fun hc => p_fieldAddr fld_58_0.h (gvt rfl hc)) ?_
  refine JH.wg 6 rfl (Gd.t1 rfl rfl rfl) (fun hc os' u' hv => q_load1 ty_2.h (gvt rfl hc) (Mem.pub ((hr10.vis hv) 0 _ rfl))) ?_
  refine JH.pg 7 rfl (Gd.t1 rfl rfl rfl) (fun hc => p_move rfl) ?_
  refine JH.pg 8 rfl (Gd.t1 rfl rfl rfl) (fun hc => p_nilCheck (gvt rfl hc)) ?_
  refine JH.pg 9 rfl (Gd.t1 rfl rfl rfl) (fun hc => p_fieldAddr fld_67_1.h (gvt rfl hc)) ?_
  refine JH.wg 10 rfl (Gd.t1 rfl rfl rfl) (fun hc os' u' hv => q_load1 ty_54.h (gvt rfl hc) (Mem.pub ((hr4.vis (x8.vis.trans hv)) 1 _ rfl))) ?_
  refine JH.pg 11 rfl (Gd.t1 rfl rfl rfl) (fun hc => p_move rfl) ?_
  refine JH.pg 12 rfl (Gd.t1 rfl rfl rfl) (fun hc => p_sub (gvt rfl hc) rfl (IntWalk.i64_in _ (oh_ hc))) ?_
  have hy11 : e.choices[((k : Int) - 1).toNat]? = some (M.cho e.choices (((k : Int) - 1).toNat)) := M.cho_get (by omega)
  obtain ⟨b11, o11, he11, hr11⟩ := elem_Choice (Ty.mono _ h3 x8.vis) hy11
  refine JH.pg 13 rfl (Gd.t1 rfl rfl rfl) (fun hc => p_indexAddr el_54 (gvt rfl hc) (gvt rfl hc) (oh_ hc) (oh_ hc) he11) ?_
  refine JH.pg 14 rfl (Gd.t1 rfl rfl rfl) (fun hc => p_fieldAddr fld_58_0.h (gvt rfl hc)) ?_
  refine JH.wg 15 rfl (Gd.t1 rfl rfl rfl) (fun hc os' u' hv => q_load1 ty_2.h (gvt rfl hc) (Mem.pub ((hr11.vis hv) 0 _ rfl))) ?_
  refine JH.pg 16 rfl (Gd.t1 rfl rfl rfl) (fun hc => p_leq (gvt rfl hc) (gvt rfl hc)) ?_
  refine JH.p 17 rfl (p_pickAnd rfl rfl rfl) ?_
  refine jM 18 rfl rfl ?_
  refine JH.pg 19 rfl (Gd.f1 rfl rfl rfl) (fun hc => p_move rfl) ?_
  refine JH.pg 20 rfl (Gd.f1 rfl rfl rfl) (fun hc => p_nilCheck (gvt rfl hc)) ?_
  refine JH.pg 21 rfl (Gd.f1 rfl rfl rfl) (fun hc => p_fieldAddr fld_58_1.h (gvt rfl hc)) ?_
  refine JH.wg 22 rfl (Gd.f1 rfl rfl rfl) (fun hc os' u' hv => q_load1 ty_2.h (gvt rfl hc) (Mem.pub ((hr10.vis hv) 1 _ rfl))) ?_
  refine y1 23 ?_
  refine JHo.ge rfl (Gd.f1 rfl rfl rfl) (fun hc => e_callV fn_61.h (opds_3 (gvt rfl hc) rfl rfl) (fun w hw => c_spec_l00In ((M.cho e.choices k).games) 1 1000000)) ?_
  refine JH.pg 24 rfl (Gd.f1 rfl rfl rfl) (fun hc => p_not (gvt rfl hc)) ?_
  refine JH.p 25 rfl (p_pickOr rfl rfl rfl) ?_
  refine jM 26 rfl rfl ?_
  refine JH.pg 27 rfl (Gd.f1 rfl rfl rfl) (fun hc => p_move rfl) ?_
  refine JH.pg 28 rfl (Gd.f1 rfl rfl rfl) (fun hc => p_nilCheck (gvt rfl hc)) ?_
  refine JH.pg 29 rfl (Gd.f1 rfl rfl rfl) (fun hc => p_fieldAddr fld_58_2.h (gvt rfl hc)) ?_
  refine JH.wg 30 rfl (Gd.f1 rfl rfl rfl) (fun hc os' u' hv => q_load1 ty_2.h (gvt rfl hc) (Mem.pub ((hr10.vis hv) 2 _ rfl))) ?_
  refine JH.pg 31 rfl (Gd.f1 rfl rfl rfl) (fun hc => p_move rfl) ?_
  refine JH.pg 32 rfl (Gd.f1 rfl rfl rfl) (fun hc => p_nilCheck (gvt rfl hc)) ?_
  refine JH.pg 33 rfl (Gd.f1 rfl rfl rfl) (fun hc => p_fieldAddr fld_58_1.h (gvt rfl hc)) ?_
  refine JH.wg 34 rfl (Gd.f1 rfl rfl rfl) (fun hc os' u' hv => q_load1 ty_2.h (gvt rfl hc) (Mem.pub ((hr10.vis hv) 1 _ rfl))) ?_
  refine JH.pg 35 rfl (Gd.f1 rfl rfl rfl) (fun hc => p_mul rfl (gvt rfl hc) (IntWalk.i64_in _ (by have hc9 := hc; simp only [Bool.not_eq_true', Bool.or_eq_false_iff, Bool.not_eq_false'] at hc9; have h8 := M.betw_iff.1 hc9.2; omega))) ?_
  refine y1 36 ?_
  refine JHo.ge rfl (Gd.f1 rfl rfl rfl) (fun hc => e_callV fn_61.h (opds_3 (gvt rfl hc) rfl (gvt rfl hc)) (fun w hw => c_spec_l00In ((M.cho e.choices k).score) 0 (2 * ((M.cho e.choices k).games)))) ?_
  refine JH.pg 37 rfl (Gd.f1 rfl rfl rfl) (fun hc => p_not (gvt rfl hc)) ?_
  refine JH.p 38 rfl (p_pickOr rfl rfl rfl) ?_
  refine yd ?_
  refine zi (fun h12 h12' => ?_) fun h12 h12' => ?_
  ·
   have hN : M.chAt r (M.posE e.pits) e.choices k = false := M.chAt_18 (by exact h12)
   have hE2 : M.okCs r (M.posE e.pits) e.choices = false := M.all_no (by omega) hN
   refine zS <| Qa rfl <| JL.nil ?_
   refine zR x8 ?_
   first | (rw [hE, hE2]; rfl) | (rw [hE]; rfl)
  have h18 : M.ch18 e.choices k = false := h12
  refine Js.skip <| Js.seq ?_
  refine zdr [] ?_
  refine jM 0 rfl rfl ?_
  refine jN 1 rfl rfl ?_
  refine JH.w 2 rfl (fun os' u' hv => LS 0 (hr1.vis (x8.vis.trans hv)) rfl) ?_
  refine JH.q 3 rfl (L9 0 rfl rfl) ?_
  refine jM 4 rfl rfl ?_
  refine jN 5 rfl rfl ?_
  refine jF 6 fld_58_0 rfl rfl ?_
  refine jW 7 ty_2 rfl rfl (fun hv => (hr10.vis hv) 0 _ rfl) ?_
  refine y1 8 ?_
  refine yv rfl rfl (fun w hw => c_spec_MoveFault r (M.Pos.mk e.pits [0, 0] 0) ((M.cho e.choices k).move) (ok_ hw) (ok_ hw)) ?_
  refine JH.p 9 rfl (p_neq rfl rfl) ?_
  refine yd ?_
  refine zi (fun h13 h13' => ?_) fun h13 h13' => ?_
  ·
   have hN : M.chAt r (M.posE e.pits) e.choices k = false := M.chAt_21 (by simpa using h13)
   have hE2 : M.okCs r (M.posE e.pits) e.choices = false := M.all_no (by omega) hN
   refine zS <| Qa rfl <| JL.nil ?_
   refine zR x8 ?_
   first | (rw [hE, hE2]; rfl) | (rw [hE]; rfl)
  have hN : M.chAt r (M.posE e.pits) e.choices k = true := M.chAt_all h18 (by simpa using h13)
  refine Js.skip <| Js.blockEnd <| Js.region <| Qm rfl <| Qp rfl rfl <| Qa rfl <| JL.nil ?_
  exact zag ⟨k + 1, rfl, rfl, by exact hA.step hN, zt, rfl⟩ x8
 have hE2 : M.okCs r (M.posE e.pits) e.choices = true := M.all_yes hA (by have := h9'; omega)
 refine zx ?_
 refine zS <| Qa rfl <| JL.nil ?_
 refine zR x8 ?_
 first | (rw [hE, hE2]; rfl) | (rw [hE]; rfl)
theorem c_spec_l20Ok (b : M.Boo) {v_b : Value} {w : World} (h_b : (Ty.ref (cBook b)).ok w v_b) (r0 : b.entries.length ≤ 4194304 := by exact om_) (r1 : ∀ x ∈ b.entries, x.pits.length ≤ 4194304 ∧ x.choices.length ≤ 4194304 := by exact om_) : RetV Tryz.prog 28 [v_b] w (.bool (M.okB b)) := by
 revert v_b; apply opn
 intro b2 o2 A1 c1 h1 bl1 bh1 hr2
 refine enter @Tryz.func28 @Tryz.ntmps28 rfl rfl ?_
 refine zent ?_
 refine zS <| Qa rfl <| zJ <| zS <| Qm rfl <| Qc rfl <| Qf fh rfl <| zv rfl (fun w hw => c_spec_l02Ok b.rules (ok_ hw)) <| Qt rfl <| Qm rfl <| zg (Gd.f1 rfl rfl rfl) (fun hc => p_move rfl) <| zg (Gd.f1 rfl rfl rfl) (fun hc => p_nilCheck (gh hc rfl)) <| zg (Gd.f1 rfl rfl rfl) (fun hc => p_fieldAddr fld_32_1.h (gh hc rfl)) <| zgq (Gd.f1 rfl rfl rfl) (fun hc => q_load1 ty_30.h (gh hc rfl) (Mem.pub (hr2 9 _ rfl))) ?_
 refine zg (Gd.f1 rfl rfl rfl) (fun hc => p_len el_30 (gh hc rfl)) <| zg (Gd.f1 rfl rfl rfl) (fun hc => p_gtr (gh hc rfl) rfl) <| Qq (p_pickOr rfl rfl rfl) <| JL.nil ?_
 refine zi (fun h3 h3' => ?_) fun h3 h3' => ?_
 ·
  have hE := M.okB_r (b := b) (by have h9 := h3; simp only [Bool.or_eq_true, Bool.not_eq_true', decide_eq_true_eq] at h9; exact h9.imp id (fun h => by omega))
  refine zS <| Qa rfl <| JL.nil ?_
  refine zR (Up.refl _ _) ?_
  first | (rw [hE, hE2]; rfl) | (rw [hE]; rfl)
 have h9 := h3
 simp only [Bool.or_eq_false_iff, Bool.not_eq_false', decide_eq_false_iff_not] at h9
 have hE := M.okB_es h9.1 (by omega)
 refine Js.skip <| Js.seq <| zS <| Qa rfl <| JL.nil <| Js.block ?_
 refine zl [0] (fun F U l os u m => ∃ (k : Nat), l = F [(3, .int .i64 (k : Int))] ∧ os = U [] ∧ (M.AllB (M.entAt b.rules b.entries) k) ∧ (k ≤ b.entries.length) ∧ m = b.entries.length - k) ⟨0, rfl, rfl, by exact M.AllB.zero _, zt, rfl⟩ ?_
 rintro _ _ u4 _ ⟨k, rfl, rfl, hA, hk, rfl⟩ x4
 refine zn ?_
 refine Js.seq <| zS <| Qm rfl <| Qm rfl <| Qc rfl <| Qf fh rfl <| QC ((hr2.vis x4.vis) 9 _ rfl) rfl <| Qz rfl <| Ql rfl rfl <| JL.nil ?_
 refine zi (fun h5 h5' => ?_) fun h5 h5' => ?_
 ·
  have hkk : k < b.entries.length := by have := h5'; omega
  obtain ⟨e1_, e2_⟩ := r1 _ (M.ent_mem (es := b.entries) (k := k) (by omega))
  obtain ⟨e3_, e4_⟩ := r1 _ (M.ent_mem (es := b.entries) (k := (((k : Int) - 1).toNat)) (by omega))
  refine Js.skip <| Js.seq <| Js.block <| Js.seq ?_
  refine zdr [] ?_
  refine jM 0 rfl rfl ?_
  refine jN 1 rfl rfl ?_
  refine jF 2 fld_32_0 rfl rfl ?_
  refine jM 3 rfl rfl ?_
  refine jN 4 rfl rfl ?_
  refine jF 5 fld_32_1 rfl rfl ?_
  refine jW 6 ty_30 rfl rfl (fun hv => (hr2.vis (x4.vis.trans hv)) 9 _ rfl) ?_
  refine jM 7 rfl rfl ?_
  have hy6 : b.entries[k]? = some (M.ent b.entries k) := M.ent_get (by omega)
  obtain ⟨b6, o6, A6_0, c6_0, A6_1, c6_1, he6, hr6, h6_0, h6_1, bl6_0, bh6_0, bl6_1, bh6_1⟩ := elem_BookEntry (Ty.mono _ h1 x4.vis) hy6
  refine jI 8 el_30 rfl rfl rfl he6 ?_
  refine y1 9 ?_
  refine yv rfl rfl (fun w hw => c_spec_l20Entry b.rules (M.ent b.entries k) (ok_ hw) (ok_ hw)) ?_
  refine JH.p 10 rfl (p_not rfl) ?_
  refine jM 11 rfl rfl ?_
  refine JH.pg 12 rfl (Gd.f1 rfl rfl rfl) (fun hc => p_move rfl) ?_
  refine JH.pg 13 rfl (Gd.f1 rfl rfl rfl) (fun hc => p_gtr (gvt rfl hc) rfl) ?_
  refine JH.pg 14 rfl (Gd.f1 rfl rfl rfl) (fun hc => p_move (gvt rfl hc)) ?_
  refine JH.pg 15 rfl (Gd.t2 rfl rfl rfl) (fun hc => p_move rfl) ?_
  refine JH.pg 16 rfl (Gd.t2 rfl rfl rfl) (fun hc => p_nilCheck (gvt rfl hc)) ?_
  refine JH.pg 17 rfl (Gd.t2 rfl rfl rfl) (fun hc => p_fieldAddr fld_32_1.h (gvt rfl hc)) ?_
  refine JH.wg 18 rfl (Gd.t2 rfl rfl rfl) (fun hc os' u' hv => q_load1 ty_30.h (gvt rfl hc) (Mem.pub ((hr2.vis (x4.vis.trans hv)) 9 _ rfl))) ?_
  refine JH.pg 19 rfl (Gd.t2 rfl rfl rfl) (fun hc => p_move rfl) ?_
  refine JH.pg 20 rfl (Gd.t2 rfl rfl rfl) (fun hc => p_sub (gvt rfl hc) rfl (IntWalk.i64_in _ (by have hc9 := hc; (try simp only [Bool.and_eq_true, Bool.not_eq_true', Bool.not_eq_false', decide_eq_true_eq] at hc9); omega))) ?_
  have hy7 : b.entries[((k : Int) - 1).toNat]? = some (M.ent b.entries (((k : Int) - 1).toNat)) := M.ent_get (by omega)
  obtain ⟨b7, o7, A7_0, c7_0, A7_1, c7_1, he7, hr7, h7_0, h7_1, bl7_0, bh7_0, bl7_1, bh7_1⟩ := elem_BookEntry (Ty.mono _ h1 x4.vis) hy7
  refine JH.pg 21 rfl (Gd.t2 rfl rfl rfl) (fun hc => p_indexAddr el_30 (gvt rfl hc) (gvt rfl hc) (by have hc9 := hc; (try simp only [Bool.and_eq_true, Bool.not_eq_true', Bool.not_eq_false', decide_eq_true_eq] at hc9); omega) (by have hc9 := hc; (try simp only [Bool.and_eq_true, Bool.not_eq_true', Bool.not_eq_false', decide_eq_true_eq] at hc9); omega) he7) ?_
  refine JH.pg 22 rfl (Gd.t2 rfl rfl rfl) (fun hc => p_fieldAddr fld_67_0.h (gvt rfl hc)) ?_
  refine JH.wg 23 rfl (Gd.t2 rfl rfl rfl) (fun hc os' u' hv => q_load1 ty_42.h (gvt rfl hc) (Mem.pub ((hr7.vis hv) 0 _ rfl))) ?_
  refine JH.pg 24 rfl (Gd.t2 rfl rfl rfl) (fun hc => p_move rfl) ?_
  refine JH.pg 25 rfl (Gd.t2 rfl rfl rfl) (fun hc => p_nilCheck (gvt rfl hc)) ?_
  refine JH.pg 26 rfl (Gd.t2 rfl rfl rfl) (fun hc => p_fieldAddr fld_32_1.h (gvt rfl hc)) ?_
  refine JH.wg 27 rfl (Gd.t2 rfl rfl rfl) (fun hc os' u' hv => q_load1 ty_30.h (gvt rfl hc) (Mem.pub ((hr2.vis (x4.vis.trans hv)) 9 _ rfl))) ?_
  refine JH.pg 28 rfl (Gd.t2 rfl rfl rfl) (fun hc => p_move rfl) ?_
  have hy8 : b.entries[k]? = some (M.ent b.entries k) := M.ent_get (by omega)
  obtain ⟨b8, o8, A8_0, c8_0, A8_1, c8_1, he8, hr8, h8_0, h8_1, bl8_0, bh8_0, bl8_1, bh8_1⟩ := elem_BookEntry (Ty.mono _ h1 x4.vis) hy8
  refine JH.pg 29 rfl (Gd.t2 rfl rfl rfl) (fun hc => p_indexAddr el_30 (gvt rfl hc) (gvt rfl hc) (by have hc9 := hc; (try simp only [Bool.and_eq_true, Bool.not_eq_true', Bool.not_eq_false', decide_eq_true_eq] at hc9); omega) (by have hc9 := hc; (try simp only [Bool.and_eq_true, Bool.not_eq_true', Bool.not_eq_false', decide_eq_true_eq] at hc9); omega) he8) ?_
  refine JH.pg 30 rfl (Gd.t2 rfl rfl rfl) (fun hc => p_fieldAddr fld_67_0.h (gvt rfl hc)) ?_
  refine JH.wg 31 rfl (Gd.t2 rfl rfl rfl) (fun hc os' u' hv => q_load1 ty_42.h (gvt rfl hc) (Mem.pub ((hr8.vis hv) 0 _ rfl))) ?_
  refine y1 32 ?_
  refine JHo.ge rfl (Gd.t2 rfl rfl rfl) (fun hc => e_callV fn_79.h (opds_2 (gvt rfl hc) (gvt rfl hc)) (fun w hw => c_spec_l04Lists ((M.ent b.entries (((k : Int) - 1).toNat)).pits) ((M.ent b.entries k).pits) (ok_ hw) (ok_ hw) (r0 := (by have hc9 := hc; (try simp only [Bool.and_eq_true, Bool.not_eq_true', Bool.not_eq_false', decide_eq_true_eq] at hc9); omega)) (r1 := (by have hc9 := hc; (try simp only [Bool.and_eq_true, Bool.not_eq_true', Bool.not_eq_false', decide_eq_true_eq] at hc9); omega)))) ?_
  refine JH.pg 33 rfl (Gd.t2 rfl rfl rfl) (fun hc => p_geq (gvt rfl hc) rfl) ?_
  refine JH.pg 34 rfl (Gd.f1 rfl rfl rfl) (fun hc => p_pickAnd (gvt rfl hc) (gvl rfl hc) rfl) ?_
  refine JH.p 35 rfl (p_pickOr rfl rfl rfl) ?_
  refine yd ?_
  refine zi (fun h9 h9' => ?_) fun h9 h9' => ?_
  ·
   have hN : M.entAt b.rules b.entries k = false := M.entAt_no' (by exact h9)
   have hE2 : (List.range b.entries.length).all (M.entAt b.rules b.entries) = false := M.all_no (by omega) hN
   refine zS <| Qa rfl <| JL.nil ?_
   refine zR x4 ?_
   first | (rw [hE, hE2]; rfl) | (rw [hE]; rfl)
  have hN : M.entAt b.rules b.entries k = true := M.entAt_yes' (by exact h9)
  refine Js.skip <| Js.blockEnd <| Js.region <| Qm rfl <| Qp rfl rfl <| Qa rfl <| JL.nil ?_
  exact zag ⟨k + 1, rfl, rfl, by exact hA.step hN, zt, rfl⟩ x4
 have hE2 : (List.range b.entries.length).all (M.entAt b.rules b.entries) = true := M.all_yes hA (by have := h5'; omega)
 refine zx ?_
 refine zS <| Qa rfl <| JL.nil ?_
 refine zR x4 ?_
 first | (rw [hE, hE2]; rfl) | (rw [hE]; rfl)
theorem c_spec_l01Dec (n : Int) {w : World} (r0 : -9223372036854775808 ≤ n := by exact om_) (r1 : n ≤ 9223372036854775807 := by exact om_) : RetV Tryz.prog 82 [.int .i64 n] w (.string (sB (M.dec n))) := by
 refine enter @Tryz.func82 @Tryz.ntmps82 rfl rfl ?_
 refine zent ?_
 refine zS <| Qa rfl <| zN <| zbs fun b1 => ?_
 refine Qa rfl <| zJ <| zS <| Qm rfl <| Qa rfl <| JL.nil <| Js.block ?_
 refine zl [0] (fun F U l os u m => ∃ (k : Int) (out : List UInt8) (A3_3 : Option Addr) (c3_3 : Nat) (g3_3 : List Nat), l = F [(3, .slice A3_3 out.length c3_3), (4, .int .i64 k)] ∧ os = U [some (rowO 5 1 (.slice A3_3 out.length c3_3) out.length (byt_ out) g3_3)] ∧ (M.DecI n k out) ∧ (-9223372036854775808 ≤ k) ∧ (k ≤ 9223372036854775807) ∧ (out.length ≤ c3_3) ∧ (c3_3 ≤ 9223372036854775807) ∧ m = k.natAbs) ⟨n, ([] : List UInt8), _, _, _, rfl, rfl, by exact M.DecI.zero n, zt, zt, zu, zu, rfl⟩ ?_
 rintro _ _ u3 _ ⟨k, out, A3_3, c3_3, g3_3, rfl, rfl, hD, hk0, hk1, f3_3, f3_4, rfl⟩ x3
 refine zn ?_
 obtain ⟨t1, t2, t3, t4⟩ := M.tdiv10_bd hk0 hk1
 have hol := hD.len r0 r1
 obtain ⟨t5, t6⟩ := M.tdiv10 k
 refine Js.seq <| zS <| Qm rfl <| Qd rfl rfl <| JL.nil ?_
 refine zi (fun h4 h4' => ?_) fun h4 h4' => ?_
 ·
  have hkn : k ≠ 0 := by simpa using h4
  refine Js.skip <| Js.seq <| Js.block <| zS <| Qm rfl <| Qq (p_rem rfl rfl (by omega) rfl) <| Qa rfl <| zJ <| zS <| Qm rfl <| Ql rfl rfl <| JL.nil ?_
  refine zi (fun h5 h5' => ?_) fun h5 h5' => ?_
  ·
   have hd9 := h5'
   have hD2 := hD.step (d := -k.tmod 10) hkn (by omega)
   have hu8 : ((M.u8 (48 + (-(k.tmod 10)))).toNat : Int) = 48 + (-(k.tmod 10)) := M.u8_val (by omega) (by omega)
   refine Js.region <| Qm rfl <| Qq (p_neg (r := -(k.tmod 10)) rfl (by rw [Int.zero_sub]; exact IntWalk.i64_in _ (by omega))) <| Qa rfl <| zG <| Qm rfl <| Qp rfl rfl <| Qq (p_conv @Tryz.underlying2 @Tryz.underlying5 rfl (IntWalk.u8_in _ (by omega))) <| zbs fun b6 => ?_
   refine Qm rfl ?_
   refine JL.e (e_append (i := 0) (n' := (([M.u8 (48 + (-(k.tmod 10)))] : List UInt8) ++ out).length) (vs' := byt_ (([M.u8 (48 + (-(k.tmod 10)))] : List UInt8) ++ out)) el_40 rfl rfl rfl rfl (src_rowG (i := 1) und_40 rfl (byt_one _)) (by omega) (by omega) ln2_ (by first | rfl | (simp [byt_, hu8]; done))) ?_
   rintro v9 _ _ ⟨⟨g10, rfl⟩, rfl⟩ _
   refine JL.fact (row_form' (i := 0) rfl) (fun hf11 => ?_)
   obtain ⟨A11, c11, rfl, bl11, bh11⟩ := hf11
   refine znl ?_
   refine Qa rfl <| JL.nil <| Js.blockEnd <| Js.region <| Qm rfl <| Qq (p_quo rfl rfl (by omega) (IntWalk.i64_in _ (by omega))) <| Qa rfl <| JL.nil ?_
   refine zd [0] rfl fun u12 x12 => ?_
   exact zag ⟨k.tdiv 10, ([M.u8 (48 + (-(k.tmod 10)))] : List UInt8) ++ out, _, _, _, rfl, rfl, by exact hD2, zt, zt, zu, zu, rfl⟩ (x3.trans x12)
  have hd9 := h5'
  have hD2 := hD.step (d := k.tmod 10) hkn (by omega)
  have hu15 : ((M.u8 (48 + (k.tmod 10))).toNat : Int) = 48 + (k.tmod 10) := M.u8_val (by omega) (by omega)
  refine Js.skip <| Js.region <| Qm rfl <| Qp rfl rfl <| Qq (p_conv @Tryz.underlying2 @Tryz.underlying5 rfl (IntWalk.u8_in _ (by omega))) <| zbs fun b13 => ?_
  refine Qm rfl ?_
  refine JL.e (e_append (i := 0) (n' := (([M.u8 (48 + (k.tmod 10))] : List UInt8) ++ out).length) (vs' := byt_ (([M.u8 (48 + (k.tmod 10))] : List UInt8) ++ out)) el_40 rfl rfl rfl rfl (src_rowG (i := 1) und_40 rfl (byt_one _)) (by omega) (by omega) ln2_ (by first | rfl | (simp [byt_, hu15]; done))) ?_
  rintro v16 _ _ ⟨⟨g17, rfl⟩, rfl⟩ _
  refine JL.fact (row_form' (i := 0) rfl) (fun hf18 => ?_)
  obtain ⟨A18, c18, rfl, bl18, bh18⟩ := hf18
  refine znl ?_
  refine Qa rfl <| JL.nil <| Js.blockEnd <| Js.region <| Qm rfl <| Qq (p_quo rfl rfl (by omega) (IntWalk.i64_in _ (by omega))) <| Qa rfl <| JL.nil ?_
  refine zd [0] rfl fun u19 x19 => ?_
  exact zag ⟨k.tdiv 10, ([M.u8 (48 + (k.tmod 10))] : List UInt8) ++ out, _, _, _, rfl, rfl, by exact hD2, zt, zt, zu, zu, rfl⟩ (x3.trans x19)
 have hk9 : k = 0 := by simpa using h4
 subst hk9
 refine zx ?_
 refine Js.seq <| zS <| Qm rfl <| Qz rfl <| Qe rfl rfl <| JL.nil ?_
 refine zi (fun h20 h20' => ?_) fun h20 h20' => ?_
 ·
  have hE := hD.done0 (by have := h20'; omega) r0 r1
  refine zS <| Qa rfl <| JL.nil ?_
  refine zR x3 ?_
  rw [hE]; rfl
 have hl9 : out.length ≠ 0 := by have := h20'; omega
 have lb9 : LenB out 20 := ⟨hol⟩
 refine Js.skip <| Js.seq <| zS <| Qm rfl <| Ql rfl rfl <| JL.nil ?_
 refine zi (fun h21 h21' => ?_) fun h21 h21' => ?_
 ·
  have hE := hD.neg hl9 (by simpa using h21) r0 r1
  refine zS <| Qm rfl <| Qw (q_toStr (i := 0) und_40 @Tryz.underlying5 und_9 rfl rfl) <| Qq (q_cat rfl rfl) <| Qa rfl <| JL.nil ?_
  refine zR x3 ?_
  rw [hE]; rfl
 have hE := hD.pos hl9 (by simpa using h21) r0 r1
 refine Js.skip <| zS <| Qm rfl <| Qw (q_toStr (i := 0) und_40 @Tryz.underlying5 und_9 rfl rfl) <| Qa rfl <| JL.nil ?_
 refine zR x3 ?_
 rw [hE]; rfl
theorem c_spec_l06Names  {w : World}  : Ret Tryz.prog 130 [] w (Ty.strs 9 M.capNames) := by
 refine enter @Tryz.func130 @Tryz.ntmps130 rfl rfl ?_
 refine zent ?_
 refine zS <| Qa rfl <| zN <| zbs fun b1 => ?_
 refine Qa rfl <| JL.nil ?_
 exact zro (Up.refl _ _) (g := by exact (gv_strs po_ (by rfl) (by rfl)))
theorem c_spec_l03Slams  {w : World}  : Ret Tryz.prog 131 [] w (Ty.strs 9 M.slamNames) := by
 refine enter @Tryz.func131 @Tryz.ntmps131 rfl rfl ?_
 refine zent ?_
 refine zS <| Qa rfl <| zN <| zbs fun b1 => ?_
 refine Qa rfl <| JL.nil ?_
 exact zro (Up.refl _ _) (g := by exact (gv_strs po_ (by rfl) (by rfl)))
theorem c_spec_FieldNames  {w : World}  : Ret Tryz.prog 132 [] w (Ty.strs 9 M.fieldNames) := by
 refine enter @Tryz.func132 @Tryz.ntmps132 rfl rfl ?_
 refine zent ?_
 refine zS <| Qa rfl <| zN <| zbs fun b1 => ?_
 refine Qa rfl <| JL.nil ?_
 exact zro (Up.refl _ _) (g := by exact (gv_strs po_ (by rfl) (by rfl)))
theorem c_spec_l03Bit (b : Bool) {w : World}  : RetV Tryz.prog 158 [.bool b] w (.int .i64 (M.bit b)) := by
 refine enter @Tryz.func158 @Tryz.ntmps158 rfl rfl ?_
 refine zent ?_
 refine zS <| Qa rfl <| zJ <| zS <| Qm rfl <| JL.nil ?_
 refine zi (fun h1 h1' => ?_) fun h1 h1' => ?_
 ·
  refine zS <| Qa rfl <| JL.nil ?_
  refine zR (Up.refl _ _) ?_
  first | (simp only [outV, M.bit, *, if_true, if_false]; done) | (simp [outV, M.bit, *])
 refine Js.skip <| zS <| Qa rfl <| JL.nil ?_
 refine zR (Up.refl _ _) ?_
 first | (simp only [outV, M.bit, *, if_true, if_false]; done) | (simp [outV, M.bit, *])
theorem c_spec_l03Values (r : M.Rul) {v_r : Value} {w : World} (h_r : (Ty.ref (cRules r)).ok w v_r) : Ret Tryz.prog 133 [v_r] w (Ty.ints 2 (M.fieldsL r)) := by
 revert v_r; apply opn
 intro b1 o1 hr1
 refine enter @Tryz.func133 @Tryz.ntmps133 rfl rfl ?_
 refine zent ?_
 refine zS <| Qa rfl <| zJ ?_
 refine zdr [] ?_
 refine jM 0 rfl rfl ?_
 refine jN 1 rfl rfl ?_
 refine jF 2 fld_29_0 rfl rfl ?_
 refine jW 3 ty_2 rfl rfl (fun hv => (hr1.vis hv) 0 _ rfl) ?_
 refine jM 4 rfl rfl ?_
 refine jN 5 rfl rfl ?_
 refine jF 6 fld_29_1 rfl rfl ?_
 refine jW 7 ty_2 rfl rfl (fun hv => (hr1.vis hv) 1 _ rfl) ?_
 refine jM 8 rfl rfl ?_
 refine jN 9 rfl rfl ?_
 refine jF 10 fld_29_2 rfl rfl ?_
 refine jW 11 ty_4 rfl rfl (fun hv => (hr1.vis hv) 2 _ rfl) ?_
 refine jM 13 rfl rfl ?_
 refine jN 14 rfl rfl ?_
 refine jF 15 fld_29_3 rfl rfl ?_
 refine jW 16 ty_4 rfl rfl (fun hv => (hr1.vis hv) 3 _ rfl) ?_
 refine jM 18 rfl rfl ?_
 refine jN 19 rfl rfl ?_
 refine jF 20 fld_29_4 rfl rfl ?_
 refine jW 21 ty_4 rfl rfl (fun hv => (hr1.vis hv) 4 _ rfl) ?_
 refine jM 23 rfl rfl ?_
 refine jN 24 rfl rfl ?_
 refine jF 25 fld_29_5 rfl rfl ?_
 refine jW 26 ty_4 rfl rfl (fun hv => (hr1.vis hv) 5 _ rfl) ?_
 refine jM 28 rfl rfl ?_
 refine jN 29 rfl rfl ?_
 refine jF 30 fld_29_6 rfl rfl ?_
 refine jW 31 ty_4 rfl rfl (fun hv => (hr1.vis hv) 6 _ rfl) ?_
 refine jM 33 rfl rfl ?_
 refine jN 34 rfl rfl ?_
 refine jF 35 fld_29_7 rfl rfl ?_
 refine jW 36 ty_2 rfl rfl (fun hv => (hr1.vis hv) 7 _ rfl) ?_
 refine jM 37 rfl rfl ?_
 refine jN 38 rfl rfl ?_
 refine jF 39 fld_29_8 rfl rfl ?_
 refine jW 40 ty_2 rfl rfl (fun hv => (hr1.vis hv) 8 _ rfl) ?_
 refine y1 12 ?_
 refine yv rfl rfl (fun w hw => c_spec_l03Bit r.stores) ?_
 refine y1 17 ?_
 refine yv rfl rfl (fun w hw => c_spec_l03Bit r.skip) ?_
 refine y1 22 ?_
 refine yv rfl rfl (fun w hw => c_spec_l03Bit r.relay) ?_
 refine y1 27 ?_
 refine yv rfl rfl (fun w hw => c_spec_l03Bit r.feed) ?_
 refine y1 32 ?_
 refine yv rfl rfl (fun w hw => c_spec_l03Bit r.again) ?_
 refine y1 41 ?_
 refine ybs rfl fun b2 => ?_
 refine jA 42 rfl rfl ?_
 refine yd ?_
 have hq0 : [r.pits, r.seeds, (M.bit r.stores), (M.bit r.skip), (M.bit r.relay), (M.bit r.feed), (M.bit r.again), r.capture, r.slam] = M.fieldsL r := by first | rfl | (simp [M.fieldsL]; done)
 exact zro (Up.refl _ _)
theorem c_spec_l03Text (r : M.Rul) {v_r : Value} {w : World} (h_r : (Ty.ref (cRules r)).ok w v_r) (r0 : M.okR r = true := by exact om_) : RetV Tryz.prog 80 [v_r] w (.string (sB (M.rulesT r))) := by
 obtain ⟨e1, e2, e3, e4, e5, e6, e7, e8⟩ := M.okR_all r0
 have hl4 : M.capNames.length = 4 := rfl
 have hl3 : M.slamNames.length = 3 := rfl
 have hl9 : M.fieldNames.length = 9 := rfl
 have hf9 : (M.fieldsL r).length = 9 := rfl
 revert v_r; apply opn
 intro b1 o1 hr1
 refine enter @Tryz.func80 @Tryz.ntmps80 rfl rfl ?_
 refine zent ?_
 obtain ⟨ye2, hye2⟩ : ∃ x, M.capNames[r.capture.toNat]? = some x := ⟨_, List.getElem?_eq_getElem (by omega)⟩
 have hcn := M.capName_get e5 hye2
 have lb7 : LenB ye2 9 := ⟨by rw [hcn]; exact M.capName_len _⟩
 obtain ⟨ye3, hye3⟩ : ∃ x, M.slamNames[r.slam.toNat]? = some x := ⟨_, List.getElem?_eq_getElem (by omega)⟩
 have hsn := M.slamName_get e7 hye3
 have lb8 : LenB ye3 7 := ⟨by rw [hsn]; exact M.slamName_len _⟩
 refine zS <| Qa rfl <| zJ ?_
 refine zk [0] (fun F U l os u => l = F [(3, .string (sB (((((((([112, 105, 116, 115, 61] : List UInt8) ++ (M.dec r.pits)) ++ ([32, 115, 101, 101, 100, 115, 61] : List UInt8)) ++ (M.dec r.seeds)) ++ ([32, 99, 97, 112, 116, 117, 114, 101, 61] : List UInt8)) ++ ye2) ++ ([32, 115, 108, 97, 109, 61] : List UInt8)) ++ ye3)))] ∧ os = []) ?_ ?_
 ·
  refine zdr [] ?_
  refine jM 0 rfl rfl ?_
  refine jN 1 rfl rfl ?_
  refine jF 2 fld_29_0 rfl rfl ?_
  refine jW 3 ty_2 rfl rfl (fun hv => (hr1.vis hv) 0 _ rfl) ?_
  refine jM 7 rfl rfl ?_
  refine jN 8 rfl rfl ?_
  refine jF 9 fld_29_1 rfl rfl ?_
  refine jW 10 ty_2 rfl rfl (fun hv => (hr1.vis hv) 1 _ rfl) ?_
  refine jM 15 rfl rfl ?_
  refine jN 16 rfl rfl ?_
  refine jF 17 fld_29_7 rfl rfl ?_
  refine jW 18 ty_2 rfl rfl (fun hv => (hr1.vis hv) 7 _ rfl) ?_
  refine jM 24 rfl rfl ?_
  refine jN 25 rfl rfl ?_
  refine jF 26 fld_29_8 rfl rfl ?_
  refine jW 27 ty_2 rfl rfl (fun hv => (hr1.vis hv) 8 _ rfl) ?_
  refine y1 4 ?_
  refine yv rfl rfl (fun w hw => c_spec_l01Dec r.pits) ?_
  refine JH.p 5 rfl (q_cat rfl rfl) ?_
  refine JH.p 6 rfl (q_cat rfl rfl) ?_
  refine y1 11 ?_
  refine yv rfl rfl (fun w hw => c_spec_l01Dec r.seeds) ?_
  refine JH.p 12 rfl (q_cat rfl rfl) ?_
  refine JH.p 13 rfl (q_cat rfl rfl) ?_
  refine y1 14 ?_
  refine yp rfl rfl (fun w hw => c_spec_l06Names) ?_
  intro u14 x14 A15 c15 h15 bl15 bh15
  have hy16 := hye2
  obtain ⟨b16, o16, he16, hc16⟩ := strs_elem h15 hy16
  refine jI 19 el_72 rfl rfl rfl he16 ?_
  refine y2 20 23 ?_ ?_
  ·
   refine JHo.q rfl (q_load1 ty_9.h rfl (Mem.pub hc16)) ?_
   refine JH.p 21 rfl (q_cat rfl rfl) ?_
   refine JH.p 22 rfl (q_cat rfl rfl) ?_
   refine y1 23 ?_
   refine yp rfl rfl (fun w hw => c_spec_l03Slams) ?_
   intro u17 x17 A18 c18 h18 bl18 bh18
   have hy19 := hye3
   obtain ⟨b19, o19, he19, hc19⟩ := strs_elem h18 hy19
   refine jI 28 el_72 rfl rfl rfl he19 ?_
   refine y1 29 ?_
   refine JHo.q rfl (q_load1 ty_9.h rfl (Mem.pub hc19)) ?_
   refine JH.p 30 rfl (q_cat rfl rfl) ?_
   refine jA 31 rfl rfl ?_
   refine yd ?_
   exact zm ⟨rfl, rfl⟩ (x14.trans x17)
  refine yp rfl rfl (fun w hw => c_spec_l03Slams) ?_
  intro u20 x20 A21 c21 h21 bl21 bh21
  have hy22 := hye3
  obtain ⟨b22, o22, he22, hc22⟩ := strs_elem h21 hy22
  refine jI 28 el_72 rfl rfl rfl he22 ?_
  refine y2 20 29 ?_ ?_
  ·
   refine JHo.q rfl (q_load1 ty_9.h rfl (Mem.pub (hc16.vis x20.vis))) ?_
   refine JH.p 21 rfl (q_cat rfl rfl) ?_
   refine JH.p 22 rfl (q_cat rfl rfl) ?_
   refine y1 29 ?_
   refine JHo.q rfl (q_load1 ty_9.h rfl (Mem.pub hc22)) ?_
   refine JH.p 30 rfl (q_cat rfl rfl) ?_
   refine jA 31 rfl rfl ?_
   refine yd ?_
   exact zm ⟨rfl, rfl⟩ (x14.trans x20)
  refine JHo.q rfl (q_load1 ty_9.h rfl (Mem.pub hc22)) ?_
  refine y1 20 ?_
  refine JHo.q rfl (q_load1 ty_9.h rfl (Mem.pub (hc16.vis x20.vis))) ?_
  refine JH.p 21 rfl (q_cat rfl rfl) ?_
  refine JH.p 22 rfl (q_cat rfl rfl) ?_
  refine JH.p 30 rfl (q_cat rfl rfl) ?_
  refine jA 31 rfl rfl ?_
  refine yd ?_
  exact zm ⟨rfl, rfl⟩ (x14.trans x20)
 rintro _ _ u13 ⟨rfl, rfl⟩ x13
 refine zn ?_
 refine zS <| zp rfl (fun w hw => c_spec_FieldNames) ?_
 intro u23 x23 A24 c24 h24 bl24 bh24
 refine Qa rfl <| zN <| Qm rfl <| zp rfl (fun w hw => c_spec_l03Values r (ok_ hw)) ?_
 intro u25 x25 A26 c26 h26 bl26 bh26
 refine Qa rfl <| zJ <| zS <| Qa rfl <| JL.nil <| Js.block ?_
 refine zl [4, 5] (fun F U l os u m => ∃ (k : Nat) (out : List UInt8), l = F [(3, .string (sB out)), (6, .int .i64 (k : Int))] ∧ os = U [] ∧ (out = M.rulesN r (k - 2)) ∧ (2 ≤ k) ∧ (k ≤ 7) ∧ m = 7 - k) ⟨2, ((((((([112, 105, 116, 115, 61] : List UInt8) ++ (M.dec r.pits)) ++ ([32, 115, 101, 101, 100, 115, 61] : List UInt8)) ++ (M.dec r.seeds)) ++ ([32, 99, 97, 112, 116, 117, 114, 101, 61] : List UInt8)) ++ ye2) ++ ([32, 115, 108, 97, 109, 61] : List UInt8)) ++ ye3, rfl, rfl, by rw [hcn, hsn]; rfl, zt, zt, rfl⟩ ?_
 rintro _ _ u27 _ ⟨k, out, rfl, rfl, hJ, hk2, hk, rfl⟩ x27
 refine zn ?_
 have lb9 : LenB out 155 := ⟨by rw [hJ]; have := M.rulesN_len r (k - 2) (by omega); omega⟩
 refine Js.seq <| zS <| Qm rfl <| Qk rfl rfl <| JL.nil ?_
 refine zi (fun h28 h28' => ?_) fun h28 h28' => ?_
 ·
  have k6 : k ≤ 6 := by have := h28'; omega
  obtain ⟨b29, o29, he29, hc29⟩ := ints_elem (Ty.mono _ h26 x27.vis) (i := k) (by omega)
  refine Js.skip <| Js.seq <| Js.block <| zS <| Qm rfl <| Qm rfl <| Qq (p_indexAddr el_42 rfl rfl (by omega) (by omega) he29) <| QC hc29 rfl <| Qe rfl rfl <| JL.nil ?_
  refine zi (fun h30 h30' => ?_) fun h30 h30' => ?_
  ·
   have hv1 := h30'
   obtain ⟨ye31, hye31⟩ : ∃ x, M.fieldNames[k]? = some x := ⟨_, List.getElem?_eq_getElem (by omega)⟩
   have lb6 : LenB ye31 6 := ⟨M.fNames_len (List.mem_of_getElem? (M.fields_at (r := r) hk2 k6 hye31).1)⟩
   have hJ2 := M.rulesN_s hJ hk2 k6 hye31 hv1
   have hy32 := hye31
   obtain ⟨b32, o32, he32, hc32⟩ := strs_elem (Ty.mono _ h24 (x25.vis.trans x27.vis)) hy32
   refine Js.region <| Qm rfl <| Qm rfl <| Qm rfl <| Qq (p_indexAddr el_72 rfl rfl (by omega) (by omega) he32) <| QC hc32 rfl <| Qq (q_cat rfl rfl) <| Qq (q_cat rfl rfl) <| Qa rfl <| JL.nil <| Js.blockEnd <| Js.region <| Qm rfl <| Qp rfl rfl ?_
   refine Qa rfl <| JL.nil ?_
   exact zag ⟨k + 1, out ++ (([32] : List UInt8) ++ ye31), rfl, rfl, by exact hJ2, zt, zt, rfl⟩ x27
  have hJ2 := M.rulesN_n hJ hk2 k6 (by simpa using h30)
  refine Js.skip <| Js.blockEnd <| Js.region <| Qm rfl <| Qp rfl rfl <| Qa rfl <| JL.nil ?_
  exact zag ⟨k + 1, out, rfl, rfl, by exact hJ2, zt, zt, rfl⟩ x27
 have hJ3 : out = M.rulesT r := M.rulesN_e (k := k - 2) hJ (by have := h28'; omega) (by omega)
 refine zx ?_
 refine zS <| Qm rfl <| Qa rfl <| JL.nil ?_
 refine zR (((x13.trans x23).trans x25).trans x27) ?_
 rw [← hJ3]; rfl
end Go.Proofs.YtjklnidbndopiaaGreatDoor
